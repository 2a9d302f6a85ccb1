import Derived.Test.YtnidfcmdimehdaaGreatU14
import Derived.Test.YtnidfcmdimehdaaGreatU18
import Derived.Test.YtnidfcmdimehdaaGreatU19
import Derived.Test.YtnidfcmdimehdaaGreatU23
import Derived.Test.YtnidfcmdimehdaaGreatU25
import Derived.Test.YtnidfcmdimehdaaGreatU26
import Derived.Test.YtnidfcmdimehdaaGreatU27
import Derived.Test.YtnidfcmdimehdaaGreatU28
set_option linter.all false
set_option linter.defProp false
set_option maxHeartbeats 8000000
noncomputable section
namespace Go.Gl
open Go.Proofs
def Cr (ms:List Int) (bs:List Bool):List Int:=((ms.zip bs).filter fun x=>x.2).map fun x=>x.1
def pc {w:AE} (hw:Ig w): ∀l,(∀x∈l,C1 w x)->(FC w l=true↔ ∃M,xu w M/\ ∀x∈l,Eh w M x):=fun l hl=>MZ hw fun x hx=>Dr (hl x hx)
def Pr {w:AE} (hw:Ig w) {cs:List Int} (hcs: ∀c∈cs,1<=c/\c<3+(w.parents.length:Int)): ∀l,(∀x∈l,C1 w x)->(Kx w cs l=true↔ ∃M,lY w cs M/\ ∀x∈l,Eh w M x):=fun l hl=>by
 rw[<-rJ hw hcs fun x hx=>Dr (hl x hx)];exact Gj hw fun x hx=>Dr (hl x hx)
def jU {w:AE} {cs:List Int} {M:Int->JB} (h:lY w cs M):lY w [] M:=fun a=>⟨(h a).1,fun h0 h1=>by
 obtain⟨c,k0,_⟩:=(h a).2 h0 h1
 exact⟨c,k0,by rw[Ii,decide_eq_true (by simpa using h0)];rfl⟩⟩
def MK {n:Int}: ∀c∈([]:List Int),1<=c/\c<n:=fun _ h=>by cases h
def kP {w:AE} (hw:Ig w) {fs:List Fact} (hn: ∀f∈fs,An w f=true) {n:Nat} (hn3:n<=3) (bs:List Bool) (h:Tn (Kx w []) fs bs=true): ∃cs:List Int,cs.length=n/\(∀c∈cs,1<=c/\c<3+(w.parents.length:Int))/\Tn (Kx w cs) fs bs=true:=by
 obtain⟨M,h1,h2⟩:=(IJ (Pr hw MK) hn bs).1 h;have hc:=fun a=>X3 (M a) (h1 a).1
 have hcs: ∀c∈(BE n).map fun a=>((Classical.choose (hc a):Nat):Int),1<=c/\c<3+(w.parents.length:Int):=fun c hm=>by
  obtain⟨a,_,rfl⟩:=GL.1 hm;have:=Classical.choose_spec (hc a);omega
 refine⟨(BE n).map fun a=>((Classical.choose (hc a):Nat):Int),by rw[Bh,Cj],hcs,(IJ (Pr hw hcs) hn bs).2 ⟨M,fun a=>⟨(h1 a).1,fun h0 h3=>⟨Classical.choose (hc a),(Classical.choose_spec (hc a)).1,?_⟩⟩,h2⟩⟩;rw[Ii,Ew,CF,Cd,Bh,Cj];rcases Int.lt_or_le a (n:Int)with hlt|hge
 .right
  have e:(BE n)[a.toNat]? =some a:=by
   rw[BE,JV,List.getElem?_range (by omega),Xg];exact congrArg some (by simp;omega)
  rw[Co,JV,e];rfl
 .exact .inl hge
structure Gro (w w':AE) (ps:List Int):Prop where
 par:w'.parents=w.parents++[ps]
 own:w'.owner=w.owner
section
variable {w w':AE} {ps:List Int}
def Gro.Bb (h:Gro w w' ps) (s:Int):Bb w' s=Bb w s:=by rw[Gl.Bb,Gl.Bb,h.own]
end
def OZ {ms:List Int} {bs:List Bool} {k:Nat} {m:Int} {b:Bool} (hm:ms[k]? =some m) (hb:bs[k]? =some b):Cr ms (bs.take (k+1))=Cr ms (bs.take k)++(if b then [m]else []):=by
 have hz : ms.zip (bs.take (k+1))=ms.zip (bs.take k)++[(m,b)]:=by
  have h1:(ms.zip bs)[k]? =some (m,b):=List.getElem?_zip_eq_some.2 ⟨hm,hb⟩
  have e: ∀(a:List Int) (c:List Bool) (j:Nat),a.zip (c.take j)=(a.zip c).take j:=fun a=>by
   induction a with
   | nil=>intro c j;simp
   | cons x r ih=>
     intro c j;cases j with
     | zero=>simp
     | succ j=>
       cases c with
       | nil=>simp
       | cons y q=>simp[ih q j]
  rw[e,e,List.take_add_one,h1];rfl
 rw[Cr,Cr,hz,List.filter_append,ND];cases b<;>rfl
def RF (ms:List Int) (bs:List Bool):(Cr ms bs).length<=bs.length:=by
 rw[Cr,Bh];refine Nat.le_trans (NI _ _) ?_;rw[List.length_zip];exact Nat.min_le_right _ _
def Fl {E:List Bool->Bool}: ∀(k:Nat) (pre:List Bool),(E9 E k pre).length<=2 ^ k
 | 0,pre=>by
   rw[E9];split<;>simp
 | k+1,pre=>by
   rw[E9];have h1:=Fl (E:=E) k (pre++[false]);have h2:=Fl (E:=E) k (pre++[true]);split
   .rw[Kt,Nat.pow_succ];omega
   .simp
attribute [local irreducible] As Af AV AQ AI AU AP AR AJ AT AM AN Ag Ar Sat AS Ap AX W
abbrev O2 (x:List Int×Int):List V:=[.l (iL x.1) false,eI x.2]
def aS:Dp O2 2:=fun x=>⟨rfl,fun v hv=>by
 rcases Ff.1 hv with rfl|hv
 .rfl
 .rw[JT.1 hv];rfl⟩
end Go.Gl
namespace Go.Gl
open Go.Proofs
abbrev DW (ms:List Int) (s:Nat):List Int:=Cr ms (Bq s ms.length)
abbrev GN (p:Prog) (tog:List Fact->Bool) (ms:List Int):List Nat:=GB (fun s n=>C9 tog (FD p ms) (Bq s n)) ms.length 0 0
def Iu {P:Program} {α S:Type} {L:Nat} {E:Env} {ps:List Nat} {a b:Ao} {ea:α->V} {HB:S->List At->Prop} (le:S->xZ) {stp:α->S->Bool×S} {D:α->S->Prop} {pre:List At} (hps:ps.length=1) (hD: ∀y s,D y s->le s= .ready)
    (h: ∀y s,D y s-> ∀l,HB s l-> ∀Z,Sat Z (l++pre)->W P a (CZ (W P b fun ex env' Z'=>Z' L=none->P4 L E (Bi P ps a b) (fun r Z'=>r= .ret (.b (stp y s).1)/\ ∃l',HB (stp y s).2 l'/\Sat Z' (.obj L (.loop (le (stp y s).2) E (Bi P ps a b))::(l'++pre))) ex env' Z')) (Jx ps [ea y] E) Z) :
    Pw P (.f (.yield L) [] []) ea (fun s l=> ∃l',l= .obj L (.loop (le s) E (Bi P ps a b))::l'/\HB s l') stp D pre:=by
 rintro y s hd _ Z ⟨l',rfl,hl'⟩ hs
 have hs':Sat Z (.obj L (.loop .ready E (Bi P ps a b))::(l'++pre)):=by
  have:=hs.perm NF;rw[hD y s hd]at this;exact this
 show Oy P L [ea y] Z _;refine Oy.mono (Ll (hs'.get (i:=0) rfl) (by rw[hps];rfl) (h y s hd l' hl' _ hs'.del)) ?_;rintro r Z' ⟨e,l2,h1,h2⟩;exact⟨e,_,⟨l2,rfl,h1⟩,h2.perm (NF (l₁:=_::l2))⟩
section
variable {g:FuncId} {fi ca:List V} {p:Prog} {gen:Int} {ms:List Int} {tog:List Fact->Bool}
abbrev VG (g:FuncId) (fi ca:List V) (p:Prog) (gen:Int) (ms:List Int):V:= .f (.func 144) [] [.rp [.f (.func g) fi ca],.rp (Rr p gen ms)]
attribute [local irreducible] As Af AV AQ AI AU AP AR AJ AT AM AN Ag Ar Sat AS Ap AX W
def UL:Pure zP 90 [.a (Rr p gen ms),.f (.func g) fi ca] (VG g fi ca p gen ms):=by
 refine yw kZ ?_;have hs:=Sn;exact zW
def YF {S:Type} (h:Ot p ms) (hcan:Pj g fi ca (AG p) tog) {fn:Fn} {fiy cay:List V} {HL:S->List At->Prop} {stp:Nat->S->Bool×S} {D:Nat->S->Prop}
    (hy: ∀nS nW,Pw zP (.f fn fiy cay) eU HL stp D (Rx g fi ca p gen ms (.f fn fiy cay) nS nW)) (z0:S) (hok:Om stp D (GN p tog ms) z0) {l:List At} {Z:AD} (hl:HL z0 l) (hs:Sat Z l) :
    As zP 144 [.f fn fiy cay,.rp [.f (.func g) fi ca],.rp (Rr p gen ms)] Z fun r Z'=>r= .ret (.t [])/\ ∃l',HL (By stp (GN p tog ms) z0).2 l'/\Sat Z' l':=by
 refine gl kZ ?_
 conv=>whnf
 repeat'((first|clear U K|apply st|(apply zk;intro K U)|refine zY ?_|refine zs fun Z hs=>?_|refine zo fun nn hnn Z hs=>?_|fail)<;>conv=>whnf)
 refine A6 (As.mono (mC h hcan (hy _ _) ms.length 0 0 z0 (by omega) (by decide) hok l Z hl hs) ?_);clear hs;rintro r Z ⟨rfl,l',hl',hs⟩
 conv=>whnf
 repeat'((first|clear U K|apply st|fail)<;>conv=>whnf)
 exact AH ⟨rfl,l',hl',hs.less (by simp)⟩
def Ub (h8:ms.length<=8) {s:Nat} (hs64:s<18446744073709551616):Pure zP 52 [.a (Rr p gen ms),eU s] (.l (iL (DW ms s)) false):=by
 have hM:=Mx;refine zN kZ ?_;have hs:=Sn;refine zz ?_;(repeat clear U K);repeat intro K U
 refine Ba ms.length (fun k v=>[(5,v),(11,eI (Au k))]) (fun k v=>[.own v 1 (iL (Cr ms ((Bq s ms.length).take k)))]) (fun _ _=>True) (.l [] true) rfl trivial (by simpa[Cr]using Ce hs 1) ?_;clear hs;rintro k v Z hk - hs;have hal:=RF ms ((Bq s ms.length).take k);rw[Ib]at hal;rcases Aw ms hk with⟨x,hx,hlt⟩|hke
 .have hck:Au k=k:=AW (by omega)
  have hst:=OZ hx (Wq (s:=s) hlt);have c1:=ZV s (Au k) hs64 (by omega) (by omega);rw[hck,FZ,<-hck]at c1;generalize Cr ms ((Bq s ms.length).take k)=zl at *;have hll:zl.length<AZ/\(zl.length+1)*8<=140737488355328:=by omega
  cases hb:s.testBit k<;>rw[hb]at c1 hst
  .rw[if_neg (by decide),EU]at hst
   conv=>whnf
   repeat'((first|clear U K|apply st|(apply zk;intro K U)|refine zY ?_|refine zC ?_|fail)<;>conv=>whnf)
   exact⟨hlt,_,rfl,trivial,by rw[hst];exact hs⟩
  .rw[if_pos rfl]at hst
   conv=>whnf
   repeat'((first|clear U K|apply st|(apply zk;intro K U)|refine zY ?_|refine aq fun v Z hs hsl=>?_|refine zC ?_|fail)<;>conv=>whnf)
   exact⟨hlt,_,rfl,trivial,by rw[hst];exact hs⟩
 .rw[List.take_of_length_le (by rw[TN];omega)]at hs
  refine zz ?_;(repeat clear U K);repeat intro K U
  exact AY (hs.Ic 0 rfl)
abbrev qb (f:Nat->List Int×Int) (y:Nat) (acc:List (List Int×Int)):Bool×List (List Int×Int):=(true,acc++[f y])
def iC (f:Nat->List Int×Int): ∀(l:List Nat) (acc:List (List Int×Int)),By (qb f) l acc=(true,acc++l.map f)
 | [],acc=>by simp[By]
 | y::r,acc=>by simp[By,iC f r]
def pQ (f:Nat->List Int×Int) {Q:Nat->Prop} {m:Nat}: ∀(l:List Nat) (acc:List (List Int×Int)),(∀y∈l,Q y)->acc.length+l.length<=m->Om (qb f) (fun y acc=>Q y/\acc.length<m) l acc
 | [],_,_,_=>trivial
 | y::r,acc,h,hl=>⟨⟨h y (.head _),by rw[JU]at hl;omega⟩,fun _=>pQ f r _ (fun z hz=>h z (.tail _ hz)) (by rw[Kt,List.length_singleton];rw[JU]at hl;omega)⟩
def QX {tog:List Fact->Bool} (h8:ms.length<=8):(GN p tog ms).length<=256/\ ∀s∈GN p tog ms,s<2 ^ ms.length:=by
 obtain⟨h1,h2⟩:=P1 (so:=fun s n=>C9 tog (FD p ms) (Bq s n)) (E:=C9 tog (FD p ms)) ms.length 0 0 (by decide) (fun s n _=>rfl);rw[G7]at h1 h2;refine⟨?_,h2⟩;have h3:=Fl (E:=C9 tog (FD p ms)) ms.length (Bq 0 0);have h4:=congrArg List.length h1;rw[Bh]at h4;have h5:2 ^ ms.length<=2 ^ 8:=Nat.pow_le_pow_right (by omega) h8;exact h4 ▸ Nat.le_trans h3 h5
def nu (h:Ot p ms) (hcan:Pj g fi ca (AG p) tog) {stE:List Int->Int} (hst: ∀s∈GN p tog ms,Pure zP 51 [.a (Rr p gen ms),.l (iL (DW ms s)) false] (eI (stE (DW ms s)))) :
    Pure zP 33 [.a (Rr p gen ms),VG g fi ca p gen ms] (.l ((GN p tog ms).map fun s=>O2 (DW ms s,stE (DW ms s))) false):=by
 have hM:=Mx;have hfew:=h.ox;refine zj kZ ?_;have hs:=Sn
 conv=>whnf
 repeat'((first|clear U K|apply st|(apply zk;intro K U)|refine zo fun nn hnn Z hs=>?_|fail)<;>conv=>whnf)
 rename_i _ n5 hn5 _ _;obtain⟨hgl,hgm⟩:=QX (p:=p) (tog:=tog) hfew;have hs2:Sat Z [_,.box n5 [.l [] true],.own (.l [] true) 2 (([]:List (List Int×Int)).map O2)]:=Ce hs 2;refine As.mono (YF h hcan (hs:=hs2) (stp:=qb fun y=>(DW ms y,stE (DW ms y))) (D:=fun y acc=>y∈GN p tog ms/\acc.length<256) (fun nS nW=>Iu (HB:=fun(acc:List (List Int×Int)) l=> ∃v,l= [.box n5 [v],.own v 2 (acc.map O2)]) (fun _=> .ready) rfl (fun _ _ _=>rfl) ?_) [] (pQ _ _ _ (fun _ h=>h) (by simpa using hgl)) ⟨_,rfl,_,rfl⟩) ?_
 .clear hs hs2 hnn hn5
  rintro y acc ⟨hy,hacc⟩ _ ⟨v,rfl⟩ Z hs;have hy64:y<18446744073709551616:=Nat.lt_of_lt_of_le (hgm y hy) (Nat.le_trans (Nat.pow_le_pow_right (by omega) hfew) (by decide));have hl1:=Ub (p:=p) (gen:=gen) hfew hy64;have hst:=hst y hy;have hll:acc.length<AZ/\(acc.length+1)*32<=140737488355328:=by omega
  conv=>whnf
  repeat'((first|clear U K|apply st|(apply zk;intro K U)|refine zY ?_|refine rk ?_ ?_|exact fun s e=>by cases e;rfl|refine zs fun Z hs=>?_|refine hl1.use ?_|refine hst.use ?_|refine aq (enc:=O2) (x:=(DW ms y,stE (DW ms y))) (fun v Z hs hsl=>?_) (hg:=aS)|fail)<;>conv=>whnf)
  intro hn;exact⟨rfl,_,⟨_,rfl⟩,hs.R8 hn⟩
 .clear hs hs2 hnn hn5
  rw[iC];rintro r Z ⟨rfl,_,⟨_,rfl,v,rfl⟩,hs⟩;simp only[List.nil_append,qG]at hs;refine Gn hs fun Z hs=>?_
  refine zz ?_;(repeat clear U K);repeat intro K U
  exact AY (hs.Ic 1 rfl)
end
end Go.Gl
namespace Go.Gl
open Go.Proofs
section
variable {g:FuncId} {fi ca:List V} {p:Prog} {gen:Int} {ms:List Int} {tog:List Fact->Bool}
attribute [local irreducible] As Af AV AQ AI AU AP AR AJ AT AM AN Ag Ar Sat AS Ap AX W
def SoG {S:Type} (g:FuncId) (fi ca:List V) (p:Prog) (gen:Int) (ms:List Int) (tog:List Fact->Bool) (HL:S->List At->Prop) (pre:List At):Prop:=
 ∀ s many:Nat,s<18446744073709551616->many<=ms.length-> ∀l Z z,HL z l->Sat Z (pre++l)-> ∀k kp:V->AD->Prop,k (.b (C9 tog (FD p ms) (Bq s many))) Z->
   As zP 145 [eU s,eI many,.rp [.f (.func g) fi ca],.rp (Rr p gen ms)] Z (qk k kp)
def yA {S:Type} (hfew:ms.length<=8) {fn:Fn} {fiy cay:List V} {HL:S->List At->Prop} {stp:Nat->S->Bool×S} {D:Nat->S->Prop} {nS nW:Nat}
    (hso:SoG g fi ca p gen ms tog HL (Rx g fi ca p gen ms (.f fn fiy cay) nS nW))
    (hy:Pw zP (.f fn fiy cay) eU HL stp D (Rx g fi ca p gen ms (.f fn fiy cay) nS nW)) :
    ∀(d many s:Nat) (z0:S),many+d=ms.length->s<2 ^ many->Om stp D (GB (fun s n=>C9 tog (FD p ms) (Bq s n)) d many s) z0-> ∀l Z,HL z0 l->Sat Z (Rx g fi ca p gen ms (.f fn fiy cay) nS nW++l)->
    As zP 149 [eU s,eI many,.p nS 0,.rp (Rr p gen ms),.rp [.f fn fiy cay],.p nW 0] Z fun r Z'=>r= .ret (.b (By stp (GB (fun s n=>C9 tog (FD p ms) (Bq s n)) d many s) z0).1)/\
     ∃l',HL (By stp (GB (fun s n=>C9 tog (FD p ms) (Bq s n)) d many s) z0).2 l'/\Sat Z' (Rx g fi ca p gen ms (.f fn fiy cay) nS nW++l'):=by
 have hM:=Mx;intro d
 induction d with
 | zero=>
   intro many s z0 hmd hs2 hok l Z hl hs;have hs64:s<18446744073709551616:=Nat.lt_of_lt_of_le hs2 (Nat.le_trans (Nat.pow_le_pow_right (by omega) (show many<=8 by omega)) (by decide));have c1:=hso s many hs64 (by omega);rw[GB]at hok ⊢;cases hB:C9 tog (FD p ms) (Bq s many)<;>rw[hB]at c1
   .simp only[hB,Jc,if_false]at hok ⊢
    refine Jw kZ ?_
    conv=>whnf
    repeat'((first|clear U K|apply st|(apply zk;intro K U)|refine zY ?_|refine A6 (c1 l _ z0 hl hs _ _ ?_)|fail)<;>conv=>whnf)
    all_goals exact AH ⟨rfl,l,hl,hs⟩
   .simp only[hB,if_true]at hok ⊢
    rw[Mv];refine Jw kZ ?_
    conv=>whnf
    repeat'((first|clear U K|apply st|(apply zk;intro K U)|refine zY ?_|refine A6 (c1 l _ z0 hl hs _ _ ?_)|(refine zb (fun hc=>?_) (fun hc=>?_)<;>try exact⟨⟩)|fail)<;>conv=>whnf)
    all_goals try(exfalso;simp at hc;omega)
    refine hy.use hok.1 hl hs ?_;clear hs;intro l' Z hl' hs;refine zz ?_;(repeat clear U K);repeat intro K U
    exact AH ⟨rfl,l',hl',hs⟩
 | succ d ih=>
   intro many s z0 hmd hs2 hok l Z hl hs;have hs64:s<18446744073709551616:=Nat.lt_of_lt_of_le hs2 (Nat.le_trans (Nat.pow_le_pow_right (by omega) (show many<=8 by omega)) (by decide));have c1:=hso s many hs64 (by omega);obtain⟨-,-,b3,b4⟩:=Ln hs2;rw[GB]at hok ⊢;cases hB:C9 tog (FD p ms) (Bq s many)<;>rw[hB]at c1
   .simp only[hB,Jc,if_false]at hok ⊢
    refine Jw kZ ?_
    conv=>whnf
    repeat'((first|clear U K|apply st|(apply zk;intro K U)|refine zY ?_|refine A6 (c1 l _ z0 hl hs _ _ ?_)|fail)<;>conv=>whnf)
    all_goals exact AH ⟨rfl,l,hl,hs⟩
   .simp only[hB,if_true]at hok ⊢
    obtain⟨ok1,ok2⟩:=MJ hok;have i1:=ih (many+1) s z0 (by omega) b4 ok1;have i2:=fun z0 h=>ih (many+1) (s|||2 ^ many) z0 (by omega) b3 h
    have c2:=LQ s (many:Int) hs64 (by omega) (by omega);rw[FZ]at c2;have hwi:IntKind.i64.wrap ((many:Int)+1)=((many+1:Nat):Int):=by rw[wrap64 (by omega) (by omega)];omega
    rw[<-hwi]at i1 i2;rw[J7];generalize GB (fun s n=>C9 tog (FD p ms) (Bq s n)) d (many+1) s=A1 at *;generalize GB (fun s n=>C9 tog (FD p ms) (Bq s n)) d (many+1) (s|||2 ^ many)=A2 at *;generalize hx1:By stp A1 z0=x1 at *;obtain⟨q1,z1⟩:=x1;dsimp only at i1 ok2 ⊢;refine Jw kZ ?_
    conv=>whnf
    repeat'((first|clear U K|apply st|(apply zk;intro K U)|refine zY ?_|refine A6 (c1 l _ z0 hl hs _ _ ?_)|(refine zb (fun hc=>?_) (fun hc=>?_)<;>try exact⟨⟩)|fail)<;>conv=>whnf)
    all_goals try(exfalso;simp at hc;omega)
    refine A6 (As.mono (i1 l Z hl hs) ?_);clear hs;rintro r Z ⟨rfl,l1,hl1,hs⟩;cases q1
    .conv=>whnf
     repeat'((first|clear U K|apply st|refine rk ?_ ?_|exact fun s e=>by cases e;rfl|fail)<;>conv=>whnf)
     exact AH ⟨rfl,l1,hl1,hs⟩
    .have i3:=i2 z1 (ok2 rfl)
     conv=>whnf
     repeat'((first|apply st|refine zY ?_|refine rk ?_ ?_|exact fun s e=>by cases e;rfl|refine zC ?_|fail)<;>conv=>whnf)
     refine A6 (As.mono (i3 l1 Z hl1 hs) ?_);clear hs;rintro r Z ⟨rfl,l2,hl2,hs⟩;refine zz ?_;(repeat clear U K);repeat intro K U
     exact AH ⟨rfl,l2,hl2,hs⟩
def genG {S:Type} (hfew:ms.length<=8) {fn:Fn} {fiy cay:List V} {HL:S->List At->Prop} {stp:Nat->S->Bool×S} {D:Nat->S->Prop}
    (hso: ∀nS nW,SoG g fi ca p gen ms tog HL (Rx g fi ca p gen ms (.f fn fiy cay) nS nW))
    (hy: ∀nS nW,Pw zP (.f fn fiy cay) eU HL stp D (Rx g fi ca p gen ms (.f fn fiy cay) nS nW)) (z0:S) (hok:Om stp D (GN p tog ms) z0) {l:List At} {Z:AD} (hl:HL z0 l) (hs:Sat Z l) :
    As zP 144 [.f fn fiy cay,.rp [.f (.func g) fi ca],.rp (Rr p gen ms)] Z fun r Z'=>r= .ret (.t [])/\ ∃l',HL (By stp (GN p tog ms) z0).2 l'/\Sat Z' l':=by
 refine gl kZ ?_
 conv=>whnf
 repeat'((first|clear U K|apply st|(apply zk;intro K U)|refine zY ?_|refine zs fun Z hs=>?_|refine zo fun nn hnn Z hs=>?_|fail)<;>conv=>whnf)
 refine A6 (As.mono (yA hfew (hso _ _) (hy _ _) ms.length 0 0 z0 (by omega) (by decide) hok l Z hl hs) ?_);clear hs;rintro r Z ⟨rfl,l',hl',hs⟩
 conv=>whnf
 repeat'((first|clear U K|apply st|fail)<;>conv=>whnf)
 exact AH ⟨rfl,l',hl',hs.less (by simp)⟩
def jE {S:Type} (h:Ot p ms) {ca2:List V} (hcan:Pj g fi ca2 (AG p) tog) {HL:S->List At->Prop} {pre:List At} (hf: ∀z l Z,HL z l->Sat Z (pre++l)->Cm Z emp ca ca2):SoG g fi ca p gen ms tog HL pre:=
 fun s many h1 h2 l Z z hl hs k kp hk=>Pure.LO (eo (gen:=gen) h hcan (s:=s) (many:=many) h1 h2) (.cons (.refl _) (.cons (.refl _) (.cons (.rp (.cons (.f (Cm.refl _ _ _) (hf z l Z hl hs)) .nil)) (.cons (.refl _) .nil)))) rfl hk
end
end Go.Gl
namespace Go.Gl
def E8 (B:Int):List Int->Option (List Int)
 | []=>none
 | c::r=>match E8 B r with
   | some r'=>some (c::r')
   | none=>if c+1<B then some ((c+1)::List.replicate r.length 1)else none
def EG (B:Int) (cs:List Int):Prop:= ∀c∈cs,1<=c/\c<B
def NT (B:Int):List Int->Nat
 | []=>0
 | c::r=>(B - c).toNat*B.toNat ^ r.length+NT B r
def qR:List Int->List Int->Prop
 | x::xs,c::cs=>c<x\/(x=c/\qR xs cs)
 | _,_=>True
def QZ: ∀x:List Int,(∀c∈x,1<=c)->qR x (List.replicate x.length 1)
 | [],_=>trivial
 | c::r,h=>by
   have h1:=h c (List.mem_cons_self ..);by_cases hc:c=1
   .exact .inr ⟨hc,QZ r fun y hy=>h y (List.mem_cons_of_mem _ hy)⟩
   .exact .inl (by omega)
def Gs {B:Int} (hB:1<B) (n:Nat):EG B (List.replicate n 1):=fun c hc=>by
 rw[List.mem_replicate]at hc;omega
def HK {B:Int}: ∀ {cs cs':List Int},EG B cs->E8 B cs=some cs'->EG B cs'/\cs'.length=cs.length
 | [],_,_,h=>by cases h
 | c ::r,cs',hk,h=>by
   have hc:=hk c (List.mem_cons_self ..);have hr:EG B r:=fun y hy=>hk y (List.mem_cons_of_mem _ hy)
   rw[E8]at h;cases h1:E8 B r with
   | some r'=>
     rw[h1]at h;simp only[Hp]at h;subst h;obtain⟨g1,g2⟩:=HK hr h1;refine⟨fun y hy=>?_,by simp[g2]⟩;rcases Ff.1 hy with rfl|hy
     .exact hc
     .exact g1 y hy
   | none=>
     rw[h1]at h;simp only at h;split at h
     .simp only[Hp]at h
      subst h;refine⟨fun y hy=>?_,by simp⟩;rcases Ff.1 hy with rfl|hy
      .omega
      .exact Gs (by omega) _ y hy
     .cases h
def bI {B:Int}: ∀ {cs:List Int},EG B cs->NT B cs<B.toNat ^ cs.length
 | [],_=>by simp[NT]
 | c::r,hk=>by
   have hc:=hk c (List.mem_cons_self ..);have ih:=bI (cs:=r) fun y hy=>hk y (List.mem_cons_of_mem _ hy)
   rw[NT,JU,Nat.pow_succ];have h1:(B - c).toNat+1<=B.toNat:=by omega
   have h2:=Ta (B.toNat ^ r.length) h1;rw[Nat.add_mul,Nat.one_mul]at h2;rw[Nat.mul_comm (B.toNat ^ r.length)];omega
def PC {B:Int}: ∀ {cs cs':List Int},EG B cs->E8 B cs=some cs'->NT B cs'<NT B cs
 | [],_,_,h=>by cases h
 | c ::r,cs',hk,h=>by
   have hc:=hk c (List.mem_cons_self ..);have hr:EG B r:=fun y hy=>hk y (List.mem_cons_of_mem _ hy)
   rw[E8]at h;cases h1:E8 B r with
   | some r'=>
     rw[h1]at h;simp only[Hp]at h;subst h;have:=PC hr h1;rw[NT,NT,(HK hr h1).2];omega
   | none=>
     rw[h1]at h;simp only at h;split at h
     .simp only[Hp]at h
      subst h;have h2:=bI (Gs (B:=B) (by omega) r.length);rw[List.length_replicate]at h2;rw[NT,NT,List.length_replicate];have e:(B - c).toNat=(B - (c+1)).toNat+1:=by omega
      rw[e,Nat.add_mul,Nat.one_mul];omega
     .cases h
def aB {B:Int}: ∀ {cs x:List Int},x.length=cs.length->EG B cs->EG B x->qR x cs->x=cs\/ ∃cs',E8 B cs=some cs'/\qR x cs'
 | [],[],_,_,_,_=> .inl rfl
 | [],_::_,h,_,_,_=>by cases h
 | _::_,[],h,_,_,_=>by cases h
 | c ::r,y::xs,hl,hk,hx,hg=>by
   have hl:xs.length=r.length:=by simpa using hl
   have hr:EG B r:=fun z hz=>hk z (List.mem_cons_of_mem _ hz)
   have hxs:EG B xs:=fun z hz=>hx z (List.mem_cons_of_mem _ hz)
   have hy:=hx y (List.mem_cons_self ..);rw[E8];have hg:c<y\/(y=c/\qR xs r):=hg;rcases hg with hg|⟨he,hg⟩
   .right
    cases h1:E8 B r with
    | some r'=>exact⟨_,rfl,Or.inl hg⟩
    | none=>
      simp only;rw[if_pos (by omega)];refine⟨_,rfl,?_⟩;by_cases e:y=c+1
      .exact Or.inr ⟨e,by rw[<-hl];exact QZ xs fun z hz=>(hxs z hz).1⟩
      .exact Or.inl (by omega)
   .rcases aB (cs:=r) (x:=xs) hl hr hxs hg with e|⟨r',h1,h2⟩
    .exact .inl (by rw[he,e])
    .exact .inr ⟨c::r',by rw[h1],(Or.inr ⟨he,h2⟩:c<y\/(y=c/\qR xs r'))⟩
inductive DH (B:Int) (E:List Int->Bool):List Int->List Int->Prop
 | here {cs:List Int}:E cs=true->DH B E cs cs
 | there {cs cs' R:List Int}:E cs=false->E8 B cs=some cs'->DH B E cs' R->DH B E cs R
def DH.now {B:Int} {E:List Int->Bool} {cs R:List Int} (h:DH B E cs R) (he:E cs=true):R=cs:=by
 cases h with
 | here _=>rfl
 | there h1 _ _=>rw[h1]at he;cases he
def DH.later {B:Int} {E:List Int->Bool} {cs R:List Int} (h:DH B E cs R) (he:E cs=false): ∃cs',E8 B cs=some cs'/\DH B E cs' R:=by
 cases h with
 | here h1=>rw[h1]at he;cases he
 | there _ h2 h3=>exact⟨_,h2,h3⟩
def DH.has {B:Int} {E:List Int->Bool} {cs R:List Int} (h:DH B E cs R):E R=true:=by
 induction h with
 | here h1=>exact h1
 | there _ _ _ ih=>exact ih
def DH.row {B:Int} {E:List Int->Bool} {cs R:List Int} (h:DH B E cs R):EG B cs->EG B R/\R.length=cs.length:=by
 induction h with
 | here h1=>exact fun h=>⟨h,rfl⟩
 | there _ h2 _ ih=>
   intro hk;obtain⟨g1,g2⟩:=HK hk h2;obtain⟨g3,g4⟩:=ih g1;exact⟨g3,g4.trans g2⟩
def DH.some {B:Int} {E:List Int->Bool} {x:List Int} (hx:EG B x) (he:E x=true): ∀(n:Nat) (cs:List Int),NT B cs<n->x.length=cs.length->EG B cs->qR x cs-> ∃R,DH B E cs R
 | 0,_,h,_,_,_=>by omega
 | n + 1,cs,hn,hl,hk,hg=>by
   cases h1:E cs with
   | true=>exact⟨_,.here h1⟩
   | false=>
     rcases aB hl hk hx hg with rfl|⟨cs',h2,h3⟩
     .rw[h1]at he;cases he
     .obtain⟨g1,g2⟩:=HK hk h2
      obtain⟨R,hR⟩:=DH.some hx he n cs' (by have:=PC hk h2;omega) (hl.trans g2.symm) g1 h3;exact⟨R,.there h1 h2 hR⟩
def Y3 {B:Int} {E:List Int->Bool} {x:List Int} (hB:1<B) (hx:EG B x) (he:E x=true): ∃R,DH B E (List.replicate x.length 1) R:=
 DH.some hx he _ _ (Nat.lt_succ_self _) (by simp) (Gs hB _) (QZ x fun c hc=>(hx c hc).1)
def WK {B:Int} {t t':List Int} (h:E8 B t=some t'): ∀pre:List Int,E8 B (pre++t)=some (pre++t')
 | []=>h
 | c::r=>by rw[List.cons_append,E8,WK h r];rfl
def ja {B c:Int} {r:List Int} (h:E8 B r=none) (hc:c+1<B) (pre:List Int):E8 B (pre++c::r)=some (pre++(c+1)::List.replicate r.length 1):=
 WK (by rw[E8,h];simp only;rw[if_pos hc]) pre
def jZ {B c:Int} {r:List Int} (h:E8 B r=none) (hc: ¬c+1<B):E8 B (c::r)=none:=by
 rw[E8,h];simp only;rw[if_neg hc]
def Ri (cs:List Int) (k:Nat):List Int:=cs.take (cs.length - k)++List.replicate k 1
def pJ (cs:List Int):Ri cs 0=cs:=by simp[Ri]
def Z3 {cs:List Int} {k:Nat} (hk:k<=cs.length):(Ri cs k).length=cs.length:=by simp[Ri];omega
def fp {cs:List Int} {k:Nat} {c:Int} (hk:k<cs.length) (hc:cs[cs.length - 1 - k]? =some c):(Ri cs k)[cs.length - 1 - k]? =some c:=by
 rw[Ri,Xm (by simp;omega),List.getElem?_take_of_lt (by omega)];exact hc
def Z2 {cs:List Int} {k:Nat} (hk:k<cs.length) (y:Int):(Ri cs k).set (cs.length - 1 - k) y=cs.take (cs.length - 1 - k)++y::List.replicate k 1:=by
 have e:cs.take (cs.length - k)=cs.take (cs.length - 1 - k)++[cs[cs.length - 1 - k]]:=by
  rw[show cs.length - k=cs.length - 1 - k+1 by omega,List.take_succ_eq_append_getElem (by omega)]
 have e2:(cs.take (cs.length - 1 - k)).length=cs.length - 1 - k:=by rw[Ib];omega
 rw[Ri,e,NJ,List.set_append_right _ _ (by rw[e2];exact G0 _),e2,Nat.sub_self];rfl
def WE {cs:List Int} {k:Nat} (hk:k<cs.length):(Ri cs k).set (cs.length - 1 - k) 1=Ri cs (k+1):=by
 rw[Z2 hk,Ri,List.replicate_succ,show cs.length - (k+1)=cs.length - 1 - k by omega]
def av {cs:List Int} {k:Nat} {c:Int} (hk:k<cs.length) (hc:cs[cs.length - 1 - k]? =some c):cs.drop (cs.length - (k+1))=c::cs.drop (cs.length - k):=by
 have h1:cs.length - 1 - k<cs.length:=by omega
 rw[CQ h1,Hp]at hc;rw[show cs.length - (k+1)=cs.length - 1 - k by omega,List.drop_eq_getElem_cons h1,hc,show cs.length - 1 - k+1=cs.length - k by omega]
def WC {B:Int} {cs:List Int} {k:Nat} {c:Int} (hk:k<cs.length) (hc:cs[cs.length - 1 - k]? =some c) (hn:E8 B (cs.drop (cs.length - k))=none) (hB:c+1<B) :
    E8 B cs=some ((Ri cs k).set (cs.length - 1 - k) (c+1)):=by
 have h:=ja hn hB (cs.take (cs.length - 1 - k))
 have e:cs.take (cs.length - 1 - k)++c::cs.drop (cs.length - k)=cs:=by
  rw[<-av hk hc,show cs.length - (k+1)=cs.length - 1 - k by omega,List.take_append_drop]
 rw[e]at h;rw[h,Z2 hk];simp only[lB];rw[show cs.length - (cs.length - k)=k by omega]
def fo {B:Int} {cs:List Int} {k:Nat} {c:Int} (hk:k<cs.length) (hc:cs[cs.length - 1 - k]? =some c) (hn:E8 B (cs.drop (cs.length - k))=none) (hB: ¬c+1<B) :
    E8 B (cs.drop (cs.length - (k+1)))=none:=by
 rw[av hk hc];exact jZ hn hB
def O3 (n:Nat):Nat->Int
 | 0=>IntKind.i64.wrap ((n:Int) - 1)
 | k+1=>IntKind.i64.wrap (O3 n k - 1)
def YI {n:Nat} (hn:n<=1000): ∀k,k<=n->O3 n k=(n:Int) - 1 - k
 | 0,_=>by rw[O3,wrap64 (by omega) (by omega)];omega
 | k+1,h=>by
   rw[O3,YI hn k (by omega),wrap64 (by omega) (by omega)];omega
end Go.Gl
namespace Go.Gl
def M3 {most:Int}: ∀(l:List Fact) (n:Int),(∀k∈l,∀m:Int,(CA k:Int)<=m->B1 k m=CA k)->n+(l.map CA).sum<=most->C2 (l.map B1) n most=n+(l.map CA).sum
 | [],n,_,_=>by simp[C2]
 | k::r,n,h,h1=>by
   simp only[Cn,List.sum_cons,C2]at *;rw[if_pos (by omega),h k (.head _) (most - n) (by omega),M3 r _ (fun k' hk'=>h k' (.tail _ hk')) (by omega)];omega
def Ux (f:Fact): ∀m:Int,(CA f:Int)<=m->B1 f m=CA f:=by
 induction f using Fact.ind with
 | h f ih=>
   intro m hm;rw[IS];rw[ET]at *;rw[M3 f.kids 1 ih (by omega)];omega
def cU (f:Fact) {m:Int} (h0:0<=m):B1 f m<=m↔(CA f:Int)<=m:=
 ⟨fun h=>by rw[<-Ix f m h0 h];exact h,fun h=>by rw[Ux f m h];exact h⟩
def oO (f:Fact):1<=CA f:=by rw[ET];omega
def Gx {m:Int}: ∀(l:List Int) (a:Int),l.foldl Ky a<=m↔a<=m/\ ∀x∈l,x<=m
 | [],a=>by simp
 | x ::r,a=>by
   rw[List.foldl_cons,Gx r];unfold Ky;constructor
   .rintro⟨h1,h2⟩
    refine⟨by split at h1<;>omega,fun y hy=>?_⟩;rcases Ff.1 hy with rfl|hy
    .split at h1<;>omega
    .exact h2 y hy
   .rintro⟨h1,h2⟩
    have hx:=h2 x (.head _);exact⟨by split<;>omega,fun y hy=>h2 y (.tail _ hy)⟩
def kC (f:Fact) {m:Int}:ES f<=m↔1<=m/\ ∀k∈f.kids,ES k<=m - 1:=by
 rw[IW];constructor
 .intro h
  have:=(Gx (m:=m - 1) (f.kids.map ES) 0).1 (by omega);exact⟨by omega,fun k hk=>this.2 _ (List.mem_map_of_mem hk)⟩
 .rintro⟨h1,h2⟩
  have:=(Gx (m:=m - 1) (f.kids.map ES) 0).2 ⟨by omega,fun x hx=>by
   obtain⟨k,hk,rfl⟩:=GL.1 hx
   exact h2 k hk⟩
  omega
def fD (w:AE) (f:Fact) (left deep:Int):Prop:=(CA f:Int)<=left/\ES f<=deep/\An w f=true
def TU (w:AE) {deep:Int}: ∀(l:List Fact) (left:Int),0<=left->left<=24->(∀k∈l,∀left:Int,0<=left->left<=24->((Ez w k left deep).1=true↔fD w k left deep)/\((Ez w k left deep).1=true->(Ez w k left deep).2=left - CA k))->
    ((By (fun k s=>Ez w k s deep) l left).1=true↔((l.map CA).sum:Int)<=left/\ ∀k∈l,ES k<=deep/\An w k=true)/\((By (fun k s=>Ez w k s deep) l left).1=true->(By (fun k s=>Ez w k s deep) l left).2=left - ((l.map CA).sum:Nat))
 | [],left,h0,h1,_=>by simp[By];exact h0
 | k ::r,left,h0,h1,h=>by
   obtain⟨ha,hb⟩:=h k (.head _) left h0 h1;simp only[By,Cn,List.sum_cons];cases hk:(Ez w k left deep).1
   .simp only[Jc,if_false,false_iff,false_implies,and_true]
    rintro⟨h2,h3⟩;have:=ha.2 ⟨by omega,(h3 k (.head _)).1,(h3 k (.head _)).2⟩;rw[hk]at this;cases this
   .obtain⟨g1,g2,g3⟩:=ha.1 hk
    have hc:=oO k;rw[if_pos rfl,hb hk];obtain⟨i1,i2⟩:=TU w r (left - CA k) (by omega) (by omega) fun k' hk'=>h k' (.tail _ hk')
    refine⟨i1.trans ⟨fun⟨e1,e2⟩=>⟨by omega,fun x hx=>?_⟩,fun⟨e1,e2⟩=>⟨by omega,fun x hx=>e2 x (.tail _ hx)⟩⟩,fun h=>by rw[i2 h];omega⟩;rcases Ff.1 hx with rfl|hx
    .exact⟨g2,g3⟩
    .exact e2 x hx
def mw (w : AE) (f:Fact): ∀left deep:Int,0<=left->left<=24->0<=deep->((Ez w f left deep).1=true↔fD w f left deep)/\((Ez w f left deep).1=true->(Ez w f left deep).2=left - CA f):=by
 induction f using Fact.ind with
 | h f ih=>
   intro left deep h0 h1 hd;have hw:IntKind.i64.wrap (left - 1)=left - 1:=wrap64 (by omega) (by omega);rw[ID,hw];have hc:=ET f;have hn:=Be w f;have hdl:=kC f (m:=deep)
   have hko:Cf w f=true->f.kids.length=B2 f.op:=fun h=>by
    simp only[Cf,A7,Cd]at h;exact h.2.1
   have hop:Cf w f=true->1<=f.op/\f.op<=7:=fun h=>by
    simp only[Cf,A7]at h;have h1:=h.1;unfold SH at h1;split at h1
    .omega
    split at h1
    .omega
    simp at h1;omega
   by_cases hbad:left - 1<0\/deep=0\/f.op<1\/7<f.op\/f.kids.length≠B2 f.op
   .rw[if_pos hbad]
    simp only[Jc,false_iff,false_implies,and_true];rintro⟨g1,g2,g3⟩;rw[hn,A7]at g3;have g4:=hko g3.1;have g5:=hop g3.1;have g6:=(hdl.1 g2).1;omega
   rw[if_neg hbad];by_cases hl:Bu f=true
   .rw [if_pos hl]
    have hl':f.op=2\/f.op=3\/f.op=4:=by
     simp only[Bu,Ew,Cd]at hl;omega
    have hk0:f.kids= []:=by
     have:f.kids.length=B2 f.op:=by omega
     rw[B2,if_neg (by omega),if_neg (by omega)]at this;exact VA.1 this
    have hd1:ES f=1:=by rw[IW,hk0];rfl
    have hc1:CA f=1:=by rw[hc,hk0];rfl
    have hh:Cf w f=NY w f:=by
     unfold Cf SH NY;rw[hl,hk0];have e:B2 f.op=0:=by rw[B2,if_neg (by omega),if_neg (by omega)]
     rw[e];simp only[List.length_nil,beq_self_eq_true,Db,Bool.true_or,Bool.and_true];rcases hl' with e|e|e
     .rw[if_pos e,if_pos e]
      cases(f.n==0&&R3 w f.cls)<;>simp
     .rw[if_neg (show¬f.op=2 by omega),if_neg (show¬f.op=2 by omega),if_pos (show f.op=3\/f.op=4 from .inl e)]
      cases(f.cls==0&&(decide (-1000000000<=f.n)&&decide (f.n<=1000000000)))<;>simp
     .rw[if_neg (show¬f.op=2 by omega),if_neg (show¬f.op=2 by omega),if_pos (show f.op=3\/f.op=4 from .inr e)]
      cases(f.cls==0&&(decide (-1000000000<=f.n)&&decide (f.n<=1000000000)))<;>simp
    refine⟨⟨fun h=>⟨by omega,by omega,?_⟩,fun⟨_,_,h⟩=>?_⟩,fun _=>by dsimp only;omega⟩
    .rw[hn,hk0,hh];simpa using h
    .rw[hn,hk0,hh]at h;simpa using h
   .have hl':f.op=1\/f.op=5\/f.op=6\/f.op=7:=by
     simp only[Bu,Ew,Cd]at hl;omega
    have hlf:Bu f=false:=by simpa using hl
    rw[if_neg hl];by_cases hz:f.arg≠0\/0<f.path.length\/f.cls≠0\/f.n≠0
    .rw[if_pos hz]
     simp only[Jc,false_iff,false_implies,and_true];rintro⟨g1,g2,g3⟩;rw[hn,A7]at g3;have g4:=g3.1;simp only[Cf,hlf,Bool.false_or,A7,Cd]at g4;omega
    .rw [if_neg hz]
     obtain⟨i1,i2⟩:=TU w (deep:=deep - 1) f.kids (left - 1) (by omega) (by omega) fun k hk left hl0 hl1=>ih k hk left (deep - 1) hl0 hl1 (by omega)
     have hh:Cf w f=true:=by
      have hp:f.path= []:=VA.1 (by omega)
      have e1:SH w f=true:=by
       unfold SH;rw[if_neg (by omega),if_neg (by omega)];simp only[Ew,Cd];omega
      have z1:f.arg=0:=by omega
      have z2:f.cls=0:=by omega
      have z3:f.n=0:=by omega
      have z4:f.kids.length=B2 f.op:=by omega
      simp[Cf,e1,hlf,hp,z1,z2,z3,z4,Ex]
     refine⟨i1.trans ⟨fun⟨e1,e2⟩=>⟨by omega,hdl.2 ⟨by omega,fun k hk=>(e2 k hk).1⟩,?_⟩,fun⟨g1,g2,g3⟩=>⟨by omega,fun k hk=>⟨(hdl.1 g2).2 k hk,?_⟩⟩⟩,fun h=>by rw[i2 h];omega⟩
     .rw[hn,hh,Db,DT]
      exact fun k hk=>(e2 k hk).2
     .rw[hn,hh,Db,DT]at g3
      exact g3 k hk
def Um (w:AE) (f:Fact):K7 w f=Bv w f:=by
 have:=(mw w f 24 12 (by omega) (by omega) (by omega)).1;rw[K7,Bv,KF,this,fD];simp only[A7,CF];rw[cU f (by omega)]
end Go.Gl
namespace Go.Gl
open Go.Proofs
attribute [local irreducible] As Af AV AQ AI AU AP AR AJ AT AM AN Ag Ar Sat AS Ap AX W
def Qh (xs:List Int) (f:Bool):Pure zP 136 [.l (iL xs) f] (.l (iL xs) false):=by
 refine Pure.fit (by kernel_rfl) fun hf=>?_
 have hxl:=Nc hf.1;have hM:=Mx;refine gm kZ ?_;have hs:=Sn
 conv=>whnf
 repeat'((first|clear U K|apply st|(apply zk;intro K U)|fail)<;>conv=>whnf)
 refine⟨fun e t=>?_,fun _=>?_⟩
 .have hx:xs= []:=List.map_eq_nil_iff.1 e
  subst hx
  conv=>whnf
  repeat'((first|clear U K|apply st|(apply zk;intro K U)|refine za (fun hc=>?_) fun hc=>?_|fail)<;>conv=>whnf)
  .exact AY BS
  .replace hs:=CM hs 1
   refine EH hs 0 (xs:=[]) (ys:=[]) rfl (by simp) Bg fun v Z hs=>?_
   refine zz ?_;(repeat clear U K);repeat intro K U
   exact Ee hs 0 rfl rfl
 .refine zz ?_;(repeat clear U K);repeat intro K U
  replace hs:=CM hs 1;refine EH hs 0 (xs:=[]) (ys:=xs) rfl (by simp;omega) Bg fun v Z hs=>?_
  refine zz ?_;(repeat clear U K);repeat intro K U
  exact Ee hs 0 rfl rfl
def rj (c:Rp):Pure zP 252 [.a (LP c)] (.l (iL c.parents) false):=by
 refine uK kZ ?_;have hs:=Sn
 conv=>whnf
 repeat'((first|clear U K|apply st|(apply zk;intro K U)|refine Pure.use (Qh _ _) ?_|fail)<;>conv=>whnf)
 exact AF rfl
def oS (xs:List (List Int)) (v:V) (hl:xs.length<=AZ):BL zP 295 [v] [.own v 1 (EF xs)] fun r post=>r= .ret (.l (EF xs) true)/\post= []:=by
 intro Z hs;have hg:=DJ DI xs;refine td kZ ?_;refine zz ?_;(repeat clear U K);repeat intro K U
 refine py (i:=0) hs rfl hg.1 (by simpa using hl) fun Z hs=>?_
 refine zz ?_;(repeat clear U K);repeat intro K U
 exact Aj hs (List.Sublist.refl _) (.refl _) fun Z' hs'=>⟨_,⟨rfl,rfl⟩,hs'⟩
def P3 (xs:List Int) (v:V) (hl:xs.length<=AZ):BL zP 262 [v] [.own v 1 (iL xs)] fun r post=>r= .ret (.l (iL xs) true)/\post= []:=by
 intro Z hs;have hg:=DJ Bg xs;refine gT kZ ?_;refine zz ?_;(repeat clear U K);repeat intro K U
 refine py (i:=0) hs rfl hg.1 (by simpa using hl) fun Z hs=>?_
 refine zz ?_;(repeat clear U K);repeat intro K U
 exact Aj hs (List.Sublist.refl _) (.refl _) fun Z' hs'=>⟨_,⟨rfl,rfl⟩,hs'⟩
def oE (cs:List Rp) (hl:cs.length<=1000000):Pure zP 251 [.l (cs.map LP) false,.f (.func 252) [] []] (.l (EF (cs.map (·.parents))) false):=by
 have hM:=Mx;refine uM kZ ?_;have hs:=Sn;refine zz ?_;(repeat clear U K);repeat intro K U
 refine Ba cs.length (fun k v=>[(5,v),(10,eI (Au k))]) (fun k v=>[.own v 1 (EF ((cs.take k).map (·.parents)))]) (fun _ _=>True) (.l [] true) rfl trivial (CM hs 1) ?_;clear hs;rintro k v Z hk - hs;rcases Aw cs hk with⟨c,hc,hlt⟩|hke
 .conv=>whnf
  repeat'((first|clear U K|apply st|(apply zk;intro K U)|refine zY ?_|refine zs fun Z hs=>?_|refine zo fun nn hnn Z hs=>?_|fail)<;>conv=>whnf)
  refine A6 ((rj c).use ?_)
  conv=>whnf
  repeat'((first|clear U K|apply st|(apply zk;intro K U)|refine zY ?_|refine aq fun v Z hs hsl=>?_|fail)<;>conv=>whnf)
  exact⟨hlt,_,rfl,trivial,by rw[AO hc,ND];exact hs.less (HU _ _)⟩
 .rw[Ak hke]at hs
  refine zz ?_;(repeat clear U K);repeat intro K U
  refine(oS (cs.map (·.parents)) v (by simp;omega)).use (rest:=[]) hs ?_;clear hs;rintro r post Z ⟨rfl,rfl⟩ hs;refine zz ?_;(repeat clear U K);repeat intro K U
  exact AY OJ
def Mp (p:Prog) (hk0:p.AK.length<=1000):Pure zP 204 [.a (A3 p)] (.l (EF (A0 p)) false):=by
 refine Pure.fit (by kernel_rfl) fun hf=>?_
 have hP:=H6 hf.1;refine u4 kZ ?_;have hs:=Sn;refine zz ?_;(repeat clear U K);repeat intro K U
 refine(oE p.AK (by omega)).use ?_;exact zW
def Vm (p:Prog) (hk0:p.AK.length<=1000) (hm:Bl p.AK<=AZ):Pure zP 156 [.a (A3 p)] (.a (Ax (AG p))):=by
 refine Pure.fit (by kernel_rfl) fun hf=>?_
 have hP:=H6 hf.1;have hcl:=hP.1;have hM:=Mx;refine vo kZ ?_;have hs:=Sn
 conv=>whnf
 repeat'((first|clear U K|apply st|(apply zk;intro K U)|refine zY ?_|refine zs fun Z hs=>?_|refine Pure.use (Mp _ hk0) ?_|refine zo fun nn hnn Z hs=>?_|fail)<;>conv=>whnf)
 rename_i n2 _ _ _ _ _
 rename Nat=>n3
 replace hs:Sat Z [.box n3 [.l (EF (A0 p)) false,.l [] true],.box n2 [.l [] true,.l [] true]]:=hs;refine Ba p.AK.length (fun k (_:V)=>[(12,eI (Au k))]) (fun k v=>[.own v 1 (iL (BO 0 (p.AK.take k))),.box n3 [.l (EF (A0 p)) false,v],.box n2 [.l [] true,.l [] true]]) (fun _ _=>True) (.l [] true) rfl trivial (CM hs 1) ?_;clear hs;rintro k v Z hk - hs;rcases Aw p.AK hk with⟨c,hc,hlt⟩|hke
 .have hcm:=hP.2 c (BY hc)
  have htk:=RD hc;have hck:Au k=k:=AW (by omega)
  have hap:BO 0 (p.AK.take (k+1))=BO 0 (p.AK.take k)++List.replicate c.AL.length ((k:Int)+3):=by
   rw[AO hc,JQ];have:(p.AK.take k).length=k:=by simp;omega
   rw[this];simp[BO]
  have hol:=CX 0 (p.AK.take k);have hw3:IntKind.i64.wrap (Au k+3)=(k:Int)+3:=by rw[hck,wrap64 (by omega) (by omega)]
  have hcs:=hcm.2.1;generalize BO 0 (p.AK.take k)=os at *
  conv=>whnf
  repeat'((first|clear U K|apply st|(apply zk;intro K U)|refine zY ?_|refine zs fun Z hs=>?_|refine zo fun nn hnn Z hs=>?_|fail)<;>conv=>whnf)
  refine Ba c.AL.length (fun j (_:V)=>[(20,eI (Au j))]) (fun j v=>[.own v 1 (iL (os++List.replicate j ((k:Int)+3))),.box n3 [.l (EF (A0 p)) false,v],.box n2 [.l [] true,.l [] true]]) (fun _ _=>True) v rfl trivial (by simpa using hs.less (HU _ _)) ?_;clear hs;rintro j v Z hj - hs;rcases Aw c.AL hj with⟨s,hsl,hjlt⟩|hje
  .have hsv0:=F8 hs 0 rfl
   conv=>whnf
   repeat'((first|clear U K|apply st|(apply zk;intro K U)|refine zY ?_|refine zs fun Z hs=>?_|refine aq fun v Z hs hsl=>?_|fail)<;>conv=>whnf)
   have hsv:=F8 hs 0 rfl
   conv=>whnf
   refine⟨hjlt,v,rfl,trivial,?_⟩;rw[List.replicate_succ',<-NJ];rw[hw3]at hs;exact hs
  .refine zz ?_;(repeat clear U K);repeat intro K U
   exact⟨hlt,v,rfl,trivial,by rw[hap,<-hje];exact hs⟩
 .rw[Ak hke]at hs
  have hsv:=F8 hs 0 rfl
  conv=>whnf
  repeat'((first|clear U K|apply st|(apply zk;intro K U)|refine zY ?_|refine zs fun Z hs=>?_|fail)<;>conv=>whnf)
  exact AY (.a (.cons (.refl _) (.cons (hs.Ic 0 rfl) .nil)))
end Go.Gl
