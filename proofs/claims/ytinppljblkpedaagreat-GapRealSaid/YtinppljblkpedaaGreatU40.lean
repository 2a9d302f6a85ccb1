import Derived.Test.YtinppljblkpedaaGreatU14
import Derived.Test.YtinppljblkpedaaGreatU20
import Derived.Test.YtinppljblkpedaaGreatU27
import Derived.Test.YtinppljblkpedaaGreatU32
import Derived.Test.YtinppljblkpedaaGreatU36
import Derived.Test.YtinppljblkpedaaGreatU37
import Derived.Test.YtinppljblkpedaaGreatU39
set_option linter.all false
set_option linter.defProp false
set_option maxHeartbeats 8000000
noncomputable section
namespace Go.Gl
open Go.Proofs
def GG (so:Nat->Nat->Bool):Nat->Nat->Nat->List Nat
 | 0,many,s=>if so s many then [s]else []
 | d+1,many,s=>if so s many then GG so d (many+1) s++GG so d (many+1) (s|||2 ^ many)else []
def Ra (s n:Nat):Bw s (n+1)=Bw s n++[s.testBit n]:=by simp[Bw,List.range_succ]
def L4 {s n:Nat} (h:s<2 ^ n):Bw (s|||2 ^ n) (n+1)=Bw s n++[true]/\Bw s (n+1)=Bw s n++[false]/\s|||2 ^ n<2 ^ (n+1)/\s<2 ^ (n+1):=by
 have hp:2 ^ n<2 ^ (n+1):=Nat.pow_lt_pow_right (by omega) (by omega);have hn:s.testBit n=false:=Nat.testBit_lt_two_pow h;refine⟨?_,by rw[Ra,hn],Nat.or_lt_two_pow (by omega) hp,by omega⟩;rw[Ra,Cn,hn];simp only[beq_self_eq_true,Bool.or_true];congr 1;refine List.map_congr_left fun i hi=>?_
 rw[Cn,beq_eq_false_iff_ne.2 (by have:=List.mem_range.1 hi;omega),Bool.or_false]
def P7 {so:Nat->Nat->Bool} {E:List Bool->Bool}: ∀(d many s:Nat),s<2 ^ many->(∀s n,n<=many+d->so s n=E (Bw s n))->(GG so d many s).map (fun x=>Bw x (many+d))=Hn E d (Bw s many)/\ ∀x∈GG so d many s,x<2 ^ (many+d)
 | 0,many,s,hs,hE=>by
   rw[GG,Hn,hE s many (by omega)];split
   .exact⟨rfl,fun x hx=>by rw[Jf.1 hx];exact hs⟩
   .exact⟨rfl,fun x hx=>by cases hx⟩
 | d + 1,many,s,hs,hE=>by
   obtain⟨b1,b2,b3,b4⟩:=L4 hs;obtain⟨i1,i2⟩:=P7 (so:=so) (E:=E) d (many+1) s b4 (fun s n hn=>hE s n (by omega));obtain⟨j1,j2⟩:=P7 (so:=so) (E:=E) d (many+1) (s|||2 ^ many) b3 (fun s n hn=>hE s n (by omega));rw[b2]at i1;rw[b1]at j1;rw[show many+1+d=many+(d+1) by omega]at i1 i2 j1 j2;rw[GG,Hn,hE s many (by omega)];split
   .refine⟨by rw[LX,i1,j1],fun x hx=>?_⟩
    rcases Dn.1 hx with hx|hx
    .exact i2 x hx
    .exact j2 x hx
   .exact⟨rfl,fun x hx=>by cases hx⟩
abbrev soV (g:FuncId) (fi ca:List V) (p:Prog) (gen:Int) (ms:List Int):V:= .f (.func 190) [] [.rp [.f (.func g) fi ca],.rp (Th p gen ms)]
abbrev y4 (p:Prog) (gen:Int) (ms:List Int) (yv:V) (nS nW:Nat):V:= .f (.func 194) [] [.p nS 0,.rp (Th p gen ms),.rp [yv],.p nW 0]
section
variable {g:FuncId} {fi ca:List V} {p:Prog} {gen:Int} {ms:List Int} {tog:List Fact->Bool}
attribute [local irreducible] As Ag AY AQ AL AX AP AR AK AW AM AN Ai Ap Sat AT An AZ W
def P0 {α S:Type} (P:Program) (x:V) (ea:α->V) (HL:S->List At->Prop) (stp:α->S->Bool×S) (D:α->S->Prop) (pre:List At):Prop:=
 ∀y s,D y s-> ∀l Z,HL s l->Sat Z (pre++l)->Ai P x [ea y] Z fun r Z'=>r= .ret (.b (stp y s).1)/\ ∃l',HL (stp y s).2 l'/\Sat Z' (pre++l')
def P0.use {α S:Type} {P:Program} {x:V} {ea:α->V} {HL:S->List At->Prop} {stp:α->S->Bool×S} {D:α->S->Prop} {pre:List At} (h:P0 P x ea HL stp D pre) {y:α} {s:S} (hd:D y s) {l:List At} {Z:AE} (hl:HL s l) (hs:Sat Z (pre++l)) {k kp:V->AE->Prop} (hk: ∀l' Z',HL (stp y s).2 l'->Sat Z' (pre++l')->k (.b (stp y s).1) Z'):Ai P x [ea y] Z (qk k kp):=
 (h y s hd l Z hl hs).mono fun r Z' ⟨e,l',h1,h2⟩=>by rw[e];exact hk l' Z' h1 h2
abbrev Rx (g:FuncId) (fi ca:List V) (p:Prog) (gen:Int) (ms:List Int) (yv:V) (nS nW:Nat):List At:=[.box nW [y4 p gen ms yv nS nW],.box nS [soV g fi ca p gen ms]]
def na {S:Type} (h:Po p ms) (hcan:Tv g fi ca (AH p) tog) {fn:Fn} {fiy cay:List V} {HL:S->List At->Prop} {stp:Nat->S->Bool×S} {D:Nat->S->Prop} {nS nW:Nat}
    (hy:P0 zP (.f fn fiy cay) eU HL stp D (Rx g fi ca p gen ms (.f fn fiy cay) nS nW)) :
    ∀(d many s:Nat) (z0:S),many+d=ms.length->s<2 ^ many->OH stp D (GG (fun s n=>DK tog (E5 p ms) (Bw s n)) d many s) z0-> ∀l Z,HL z0 l->Sat Z (Rx g fi ca p gen ms (.f fn fiy cay) nS nW++l)->
    As zP 194 [eU s,eI many,.p nS 0,.rp (Th p gen ms),.rp [.f fn fiy cay],.p nW 0] Z fun r Z'=>r= .ret (.b (By stp (GG (fun s n=>DK tog (E5 p ms) (Bw s n)) d many s) z0).1)/\
     ∃l',HL (By stp (GG (fun s n=>DK tog (E5 p ms) (Bw s n)) d many s) z0).2 l'/\Sat Z' (Rx g fi ca p gen ms (.f fn fiy cay) nS nW++l'):=by
 have hM:=Mx;have hfew:=h.few;intro d
 induction d with
 | zero=>
   intro many s z0 hmd hs2 hok l Z hl hs;have hs64:s<18446744073709551616:=Nat.lt_of_lt_of_le hs2 (Nat.le_trans (Nat.pow_le_pow_right (by omega) (show many<=8 by omega)) (by decide));have c1:=fv (gen:=gen) h hcan (s:=s) (many:=many) hs64 (by omega);rw[GG]at hok ⊢;cases hB:DK tog (E5 p ms) (Bw s many)<;>rw[hB]at c1
   .simp only[hB,JX,if_false]at hok ⊢
    refine J1 kZ ?_
    conv=>whnf
    repeat'((first|clear U K|apply st|(apply zk;intro K U)|refine zY ?_|refine A0 (c1.use ?_)|fail)<;>conv=>whnf)
    all_goals exact AJ ⟨rfl,l,hl,hs⟩
   .simp only[hB,if_true]at hok ⊢
    rw[NB];refine J1 kZ ?_
    conv=>whnf
    repeat'((first|clear U K|apply st|(apply zk;intro K U)|refine zY ?_|refine A0 (c1.use ?_)|(refine zb (fun hc=>?_) (fun hc=>?_)<;>try exact⟨⟩)|fail)<;>conv=>whnf)
    all_goals try(exfalso;simp at hc;omega)
    refine hy.use hok.1 hl hs ?_;clear hs;intro l' Z hl' hs;refine zz ?_;(repeat clear U K);repeat intro K U
    exact AJ ⟨rfl,l',hl',hs⟩
 | succ d ih=>
   intro many s z0 hmd hs2 hok l Z hl hs;have hs64:s<18446744073709551616:=Nat.lt_of_lt_of_le hs2 (Nat.le_trans (Nat.pow_le_pow_right (by omega) (show many<=8 by omega)) (by decide));have c1:=fv (gen:=gen) h hcan (s:=s) (many:=many) hs64 (by omega);obtain⟨-,-,b3,b4⟩:=L4 hs2;rw[GG]at hok ⊢;cases hB:DK tog (E5 p ms) (Bw s many)<;>rw[hB]at c1
   .simp only[hB,JX,if_false]at hok ⊢
    refine J1 kZ ?_
    conv=>whnf
    repeat'((first|clear U K|apply st|(apply zk;intro K U)|refine zY ?_|refine A0 (c1.use ?_)|fail)<;>conv=>whnf)
    all_goals exact AJ ⟨rfl,l,hl,hs⟩
   .simp only[hB,if_true]at hok ⊢
    obtain⟨ok1,ok2⟩:=MX hok;have i1:=ih (many+1) s z0 (by omega) b4 ok1;have i2:=fun z0 h=>ih (many+1) (s|||2 ^ many) z0 (by omega) b3 h
    have c2:=Lb s (many:Int) hs64 (by omega) (by omega);rw[GR]at c2;have hwi:IntKind.i64.wrap ((many:Int)+1)=((many+1:Nat):Int):=by rw[wrap64 (by omega) (by omega)];omega
    rw[<-hwi]at i1 i2;rw[KC];generalize GG (fun s n=>DK tog (E5 p ms) (Bw s n)) d (many+1) s=A1 at *;generalize GG (fun s n=>DK tog (E5 p ms) (Bw s n)) d (many+1) (s|||2 ^ many)=A2 at *;generalize hx1:By stp A1 z0=x1 at *;obtain⟨q1,z1⟩:=x1;dsimp only at i1 ok2 ⊢;refine J1 kZ ?_
    conv=>whnf
    repeat'((first|clear U K|apply st|(apply zk;intro K U)|refine zY ?_|refine A0 (c1.use ?_)|(refine zb (fun hc=>?_) (fun hc=>?_)<;>try exact⟨⟩)|fail)<;>conv=>whnf)
    all_goals try(exfalso;simp at hc;omega)
    refine A0 (As.mono (i1 l Z hl hs) ?_);clear hs;rintro r Z ⟨rfl,l1,hl1,hs⟩;cases q1
    .conv=>whnf
     repeat'((first|clear U K|apply st|refine rk ?_ ?_|exact fun s e=>by cases e;rfl|fail)<;>conv=>whnf)
     exact AJ ⟨rfl,l1,hl1,hs⟩
    .have i3:=i2 z1 (ok2 rfl)
     conv=>whnf
     repeat'((first|apply st|refine zY ?_|refine rk ?_ ?_|exact fun s e=>by cases e;rfl|refine zC ?_|fail)<;>conv=>whnf)
     refine A0 (As.mono (i3 l1 Z hl1 hs) ?_);clear hs;rintro r Z ⟨rfl,l2,hl2,hs⟩;refine zz ?_;(repeat clear U K);repeat intro K U
     exact AJ ⟨rfl,l2,hl2,hs⟩
end
end Go.Gl
namespace Go.Gl
open Go.Proofs
def XY {ms:List Int} {bs:List Bool} {k:Nat} {m:Int} {b:Bool} (hm:ms[k]? =some m) (hb:bs[k]? =some b):BT ms (bs.take (k+1))=BT ms (bs.take k)++(if b then [m]else []):=by
 have hz : ms.zip (bs.take (k+1))=ms.zip (bs.take k)++[(m,b)]:=by
  have h1:(ms.zip bs)[k]? =some (m,b):=List.getElem?_zip_eq_some.2 ⟨hm,hb⟩
  have e: ∀(a:List Int) (c:List Bool) (j:Nat),a.zip (c.take j)=(a.zip c).take j:=fun a=>by
   induction a with
   | nil=>intro c j;simp
   | cons x r ih=>
     intro c j;cases j with
     | zero=>simp
     | succ j=>
       cases c with
       | nil=>simp
       | cons y q=>simp[ih q j]
  rw[e,e,List.take_add_one,h1];rfl
 rw[BT,BT,hz,List.filter_append,LX];cases b<;>rfl
def Y7 (ms:List Int) (bs:List Bool):(BT ms bs).length<=bs.length:=by
 rw[BT,Bc];refine Nat.le_trans (TZ _ _) ?_;rw[List.length_zip];exact Nat.min_le_right _ _
def Kv {E:List Bool->Bool}: ∀(k:Nat) (pre:List Bool),(Hn E k pre).length<=2 ^ k
 | 0,pre=>by
   rw[Hn];split<;>simp
 | k+1,pre=>by
   rw[Hn];have h1:=Kv (E:=E) k (pre++[false]);have h2:=Kv (E:=E) k (pre++[true]);split
   .rw[HQ,Nat.pow_succ];omega
   .simp
attribute [local irreducible] As Ag AY AQ AL AX AP AR AK AW AM AN Ai Ap Sat AT An AZ W
abbrev Tg (x:List Int×Int):List V:=[.l (iL x.1) false,eI x.2]
def pS:Dj Tg 2:=fun x=>⟨rfl,fun v hv=>by
 rcases Ep.1 hv with rfl|hv
 .rfl
 .rw[Jf.1 hv];rfl⟩
end Go.Gl
namespace Go.Gl
open Go.Proofs
abbrev F5 (ms:List Int) (s:Nat):List Int:=BT ms (Bw s ms.length)
abbrev H8 (p:Prog) (tog:List Fact->Bool) (ms:List Int):List Nat:=GG (fun s n=>DK tog (E5 p ms) (Bw s n)) ms.length 0 0
def Lk {P:Program} {α S:Type} {L:Nat} {E:Env} {ps:List Nat} {a b:Aq} {ea:α->V} {HB:S->List At->Prop} (le:S->ya) {stp:α->S->Bool×S} {D:α->S->Prop} {pre:List At} (hps:ps.length=1) (hD: ∀y s,D y s->le s= .ready)
    (h: ∀y s,D y s-> ∀l,HB s l-> ∀Z,Sat Z (l++pre)->W P a (CZ (W P b fun ex env' Z'=>Z' L=none->QB L E (Bo P ps a b) (fun r Z'=>r= .ret (.b (stp y s).1)/\ ∃l',HB (stp y s).2 l'/\Sat Z' (.obj L (.loop (le (stp y s).2) E (Bo P ps a b))::(l'++pre))) ex env' Z')) (J2 ps [ea y] E) Z) :
    P0 P (.f (.yield L) [] []) ea (fun s l=> ∃l',l= .obj L (.loop (le s) E (Bo P ps a b))::l'/\HB s l') stp D pre:=by
 rintro y s hd _ Z ⟨l',rfl,hl'⟩ hs
 have hs':Sat Z (.obj L (.loop .ready E (Bo P ps a b))::(l'++pre)):=by
  have:=hs.perm HP;rw[hD y s hd]at this;exact this
 show LB P L [ea y] Z _;refine LB.mono (L3 (hs'.get (i:=0) rfl) (by rw[hps];rfl) (h y s hd l' hl' _ hs'.del)) ?_;rintro r Z' ⟨e,l2,h1,h2⟩;exact⟨e,_,⟨l2,rfl,h1⟩,h2.perm (HP (l₁:=_::l2))⟩
section
variable {g:FuncId} {fi ca:List V} {p:Prog} {gen:Int} {ms:List Int} {tog:List Fact->Bool}
abbrev cH (g:FuncId) (fi ca:List V) (p:Prog) (gen:Int) (ms:List Int):V:= .f (.func 189) [] [.rp [.f (.func g) fi ca],.rp (Th p gen ms)]
attribute [local irreducible] As Ag AY AQ AL AX AP AR AK AW AM AN Ai Ap Sat AT An AZ W
def UM:Pure zP 114 [.a (Th p gen ms),.f (.func g) fi ca] (cH g fi ca p gen ms):=by
 refine xr kZ ?_;have hs:=Sn;exact zW
def iT {S:Type} (h:Po p ms) (hcan:Tv g fi ca (AH p) tog) {fn:Fn} {fiy cay:List V} {HL:S->List At->Prop} {stp:Nat->S->Bool×S} {D:Nat->S->Prop}
    (hy: ∀nS nW,P0 zP (.f fn fiy cay) eU HL stp D (Rx g fi ca p gen ms (.f fn fiy cay) nS nW)) (z0:S) (hok:OH stp D (H8 p tog ms) z0) {l:List At} {Z:AE} (hl:HL z0 l) (hs:Sat Z l) :
    As zP 189 [.f fn fiy cay,.rp [.f (.func g) fi ca],.rp (Th p gen ms)] Z fun r Z'=>r= .ret (.t [])/\ ∃l',HL (By stp (H8 p tog ms) z0).2 l'/\Sat Z' l':=by
 refine jB kZ ?_
 conv=>whnf
 repeat'((first|clear U K|apply st|(apply zk;intro K U)|refine zY ?_|refine zs fun Z hs=>?_|refine zo fun nn hnn Z hs=>?_|fail)<;>conv=>whnf)
 refine A0 (As.mono (na h hcan (hy _ _) ms.length 0 0 z0 (by omega) (by decide) hok l Z hl hs) ?_);clear hs;rintro r Z ⟨rfl,l',hl',hs⟩
 conv=>whnf
 repeat'((first|clear U K|apply st|fail)<;>conv=>whnf)
 exact AJ ⟨rfl,l',hl',hs.less (by simp)⟩
def an (h8:ms.length<=8) {s:Nat} (hs64:s<18446744073709551616):Pure zP 106 [.a (Th p gen ms),eU s] (.l (iL (F5 ms s)) false):=by
 have hM:=Mx;refine x3 kZ ?_;have hs:=Sn;refine zz ?_;(repeat clear U K);repeat intro K U
 refine B4 ms.length (fun k v=>[(5,v),(11,eI (A7 k))]) (fun k v=>[.own v 1 (iL (BT ms ((Bw s ms.length).take k)))]) (fun _ _=>True) (.l [] true) rfl trivial (by simpa[BT]using EY hs 1) ?_;clear hs;rintro k v Z hk - hs;have hal:=Y7 ms ((Bw s ms.length).take k);rw[Je]at hal;rcases A9 ms hk with⟨x,hx,hlt⟩|hke
 .have hck:A7 k=k:=AS (by omega)
  have hst:=XY hx (XA (s:=s) hlt);have c1:=Zo s (A7 k) hs64 (by omega) (by omega);rw[hck,GR,<-hck]at c1;generalize BT ms ((Bw s ms.length).take k)=zl at *;have hll:zl.length<Ab/\(zl.length+1)*8<=140737488355328:=by omega
  cases hb:s.testBit k<;>rw[hb]at c1 hst
  .rw[if_neg (by decide),D8]at hst
   conv=>whnf
   repeat'((first|clear U K|apply st|(apply zk;intro K U)|refine zY ?_|refine zC ?_|fail)<;>conv=>whnf)
   exact⟨hlt,_,rfl,trivial,by rw[hst];exact hs⟩
  .rw[if_pos rfl]at hst
   conv=>whnf
   repeat'((first|clear U K|apply st|(apply zk;intro K U)|refine zY ?_|refine aq fun v Z hs hsl=>?_|refine zC ?_|fail)<;>conv=>whnf)
   exact⟨hlt,_,rfl,trivial,by rw[hst];exact hs⟩
 .rw[List.take_of_length_le (by rw[TM];omega)]at hs
  refine zz ?_;(repeat clear U K);repeat intro K U
  exact Af (hs.MB 0 rfl)
abbrev r5 (f:Nat->List Int×Int) (y:Nat) (acc:List (List Int×Int)):Bool×List (List Int×Int):=(true,acc++[f y])
def jU (f:Nat->List Int×Int): ∀(l:List Nat) (acc:List (List Int×Int)),By (r5 f) l acc=(true,acc++l.map f)
 | [],acc=>by simp[By]
 | y::r,acc=>by simp[By,jU f r]
def qt (f:Nat->List Int×Int) {Q:Nat->Prop} {m:Nat}: ∀(l:List Nat) (acc:List (List Int×Int)),(∀y∈l,Q y)->acc.length+l.length<=m->OH (r5 f) (fun y acc=>Q y/\acc.length<m) l acc
 | [],_,_,_=>trivial
 | y::r,acc,h,hl=>⟨⟨h y (.head _),by rw[HH]at hl;omega⟩,fun _=>qt f r _ (fun z hz=>h z (.tail _ hz)) (by rw[HQ,List.length_singleton];rw[HH]at hl;omega)⟩
def Wr {tog:List Fact->Bool} (h8:ms.length<=8):(H8 p tog ms).length<=256/\ ∀s∈H8 p tog ms,s<2 ^ ms.length:=by
 obtain⟨h1,h2⟩:=P7 (so:=fun s n=>DK tog (E5 p ms) (Bw s n)) (E:=DK tog (E5 p ms)) ms.length 0 0 (by decide) (fun s n _=>rfl);rw[GZ]at h1 h2;refine⟨?_,h2⟩;have h3:=Kv (E:=DK tog (E5 p ms)) ms.length (Bw 0 0);have h4:=congrArg List.length h1;rw[Bc]at h4;have h5:2 ^ ms.length<=2 ^ 8:=Nat.pow_le_pow_right (by omega) h8;exact h4 ▸ Nat.le_trans h3 h5
def pb (h:Po p ms) (hcan:Tv g fi ca (AH p) tog) {stE:List Int->Int} (hst: ∀s∈H8 p tog ms,Pure zP 105 [.a (Th p gen ms),.l (iL (F5 ms s)) false] (eI (stE (F5 ms s)))) :
    Pure zP 51 [.a (Th p gen ms),cH g fi ca p gen ms] (.l ((H8 p tog ms).map fun s=>Tg (F5 ms s,stE (F5 ms s))) false):=by
 have hM:=Mx;have hfew:=h.few;refine AAe kZ ?_;have hs:=Sn
 conv=>whnf
 repeat'((first|clear U K|apply st|(apply zk;intro K U)|refine zo fun nn hnn Z hs=>?_|fail)<;>conv=>whnf)
 rename_i _ n5 hn5 _ _;obtain⟨hgl,hgm⟩:=Wr (p:=p) (tog:=tog) hfew;have hs2:Sat Z [_,.box n5 [.l [] true],.own (.l [] true) 2 (([]:List (List Int×Int)).map Tg)]:=EY hs 2;refine As.mono (iT h hcan (hs:=hs2) (stp:=r5 fun y=>(F5 ms y,stE (F5 ms y))) (D:=fun y acc=>y∈H8 p tog ms/\acc.length<256) (fun nS nW=>Lk (HB:=fun(acc:List (List Int×Int)) l=> ∃v,l= [.box n5 [v],.own v 2 (acc.map Tg)]) (fun _=> .ready) rfl (fun _ _ _=>rfl) ?_) [] (qt _ _ _ (fun _ h=>h) (by simpa using hgl)) ⟨_,rfl,_,rfl⟩) ?_
 .clear hs hs2 hnn hn5
  rintro y acc ⟨hy,hacc⟩ _ ⟨v,rfl⟩ Z hs;have hy64:y<18446744073709551616:=Nat.lt_of_lt_of_le (hgm y hy) (Nat.le_trans (Nat.pow_le_pow_right (by omega) hfew) (by decide));have hl1:=an (p:=p) (gen:=gen) hfew hy64;have hst:=hst y hy;have hll:acc.length<Ab/\(acc.length+1)*32<=140737488355328:=by omega
  conv=>whnf
  repeat'((first|clear U K|apply st|(apply zk;intro K U)|refine zY ?_|refine rk ?_ ?_|exact fun s e=>by cases e;rfl|refine zs fun Z hs=>?_|refine hl1.use ?_|refine hst.use ?_|refine aq (enc:=Tg) (x:=(F5 ms y,stE (F5 ms y))) (fun v Z hs hsl=>?_) (hg:=pS)|fail)<;>conv=>whnf)
  intro hn;exact⟨rfl,_,⟨_,rfl⟩,hs.R5 hn⟩
 .clear hs hs2 hnn hn5
  rw[jU];rintro r Z ⟨rfl,_,⟨_,rfl,v,rfl⟩,hs⟩;simp only[List.nil_append,rV]at hs;refine Gy hs fun Z hs=>?_
  refine zz ?_;(repeat clear U K);repeat intro K U
  exact Af (hs.MB 1 rfl)
end
end Go.Gl
namespace Go.Gl
open Go.Proofs
attribute [local irreducible] As Ag AY AQ AL AX AP AR AK AW AM AN Ai Ap Sat AT An AZ W
abbrev uL (us:List Nat):List (List V):=us.map fun u=>[eU u]
abbrev gB (w:AF) (v:V):List V:=[.l (EV w.parents) false,.l (iL w.owner) false,v]
def iP:Dj (fun u:Nat=>[eU u]) 1:=fun x=>⟨rfl,fun v hv=>by rw[Jf.1 hv];rfl⟩
def oD (w : AF) (hw:BR w):Pure zP 188 [.a (A5 w)] (.rp (gW w (Ah w.parents))):=by
 obtain⟨⟨hl,hrow⟩,ho,how⟩:=hw;have hM:=Mx;refine wz kZ ?_;have hs:=Sn;have hi1:((EV w.parents).length:Int)<=60:=by rw[Bc];omega
 conv=>whnf
 repeat'((first|clear U K|apply st|(apply zk;intro K U)|refine zY ?_|refine zo fun nn hnn Z hs=>?_|fail)<;>conv=>whnf)
 generalize nn=n0 at *;refine B4 3 (fun k (_:V)=>[(13,eI (A7 k))]) (fun k v=>[.box n0 (gB w v),.own v 1 (uL ([1,3,5].take k))]) (fun k _=>True) (.l [] true) rfl trivial (EY hs 1) ?_;clear hs;rintro k v Z hk - hs;have hck:A7 k=k:=AS (by omega);have hlen:(([1,3,5]:List Nat).take k).length=k:=by simp;omega
 by_cases hlt:k<3
 .have hst:=up3 hlt
  generalize ([1,3,5]:List Nat).take k=zl at *;have hll:zl.length<Ab/\(zl.length+1)*8<=140737488355328:=by omega
  conv=>whnf
  repeat'((first|clear U K|apply st|(apply zk;intro K U)|refine zY ?_|refine rk ?_ ?_|exact fun s e=>by cases e;rfl|refine zs fun Z hs=>?_|refine Pure.use (Lb 1 _ (by decide) (by omega) (by omega)) ?_|refine aq (enc:=fun u:Nat=>[eU u]) (x:=1|||2 ^ (A7 k).toNat) (fun v Z hs hsl=>?_) (hg:=iP)|(refine zb (fun hc=>?_) (fun hc=>?_)<;>try exact⟨⟩)|fail)<;>conv=>whnf)
  rw[hck,GR,hst]at hs;exact⟨hlt,_,rfl,trivial,hs⟩
 .have hke:k=3:=by omega
  subst hke;clear hk hck hlen hlt
  conv=>whnf
  repeat'((first|clear U K|apply st|(apply zk;intro K U)|refine zY ?_|(refine zb (fun hc=>?_) (fun hc=>?_)<;>try exact⟨⟩)|fail)<;>conv=>whnf)
  refine B4 w.parents.length (fun k (_:V)=>[(31,eI (A7 k))]) (fun k v=>[.box n0 (gB w v),.own v 1 (uL (Bq w.parents k))]) (fun k _=>True) v rfl trivial hs ?_;clear hs;rintro k v Z hk - hs;have hck:A7 k=k:=AS (by omega);have hul:=Cf w.parents k;have huo:=D0 w.parents k (by omega);have hw3:IntKind.i64.wrap (3+(k:Int))=3+(k:Int):=wrap64 (by omega) (by omega);rcases A9 w.parents hk with⟨row,hr,hlt⟩|hke
  .obtain⟨r1,r2,r3⟩:=hrow k row hr
   rw[<-hck]at hw3
   conv=>whnf
   repeat'((first|clear U K|apply st|(apply zk;intro K U)|refine zY ?_|refine Pure.use (Lb 1 _ (by decide) (by omega) (by omega)) ?_|fail)<;>conv=>whnf)
   have hst0:IntKind.i64.wrap (3+A7 k)=3+(k:Int):=by rw[hck];exact wrap64 (by omega) (by omega)
   have hs0lt:1|||2 ^ (3+k)<18446744073709551616:=Gp (by decide) (GI (by omega))
   have hs0e:1|||2 ^ (IntKind.i64.wrap (3+A7 k)).toNat=1|||2 ^ (3+k):=by rw[hst0,show(3+(k:Int)).toNat=3+k by omega]
   rw[hs0e];refine B4 row.length (fun j (s:Nat)=>[(41,eI (A7 j)),(7,eU s)]) (fun _ _=>[.box n0 (gB w v),.own v 1 (uL (Bq w.parents k))]) (fun j s=>s=Tj (Bq w.parents k) (row.take j) (1|||2 ^ (3+k))) (1|||2 ^ (3+k)) rfl rfl hs ?_;clear hs;rintro j s Z hj hse hs;rcases A9 row hj with⟨c,hcj,hjlt⟩|hje
   .obtain⟨q1,q2⟩:=r3 c (B6 hcj)
    conv=>whnf
    repeat'((first|clear U K|apply st|(apply zk;intro K U)|refine zY ?_|refine ze fun x hx=>?_|fail)<;>conv=>whnf)
    rename_i x hx;have hxd:(Bq w.parents k).getD c.toNat 0=x:=by rw[Cq,hx];rfl
    have hsl:s<18446744073709551616:=by rw[hse];exact O8 huo _ _ hs0lt
    refine⟨hjlt,s|||x,?_,?_,hs⟩
    .rw[Hf hsl (huo x (B6 hx))]
     rfl
    .rw[hse,AU hcj]
     simp only[Tj,List.foldl_append];rw[<-hxd];rfl
   .have e:Bq w.parents (k+1)=Bq w.parents k++[s]:=by
     rw[hse,Bq,Cq,hr,hje,List.take_length];rfl
    generalize Bq w.parents k=zl at *;have hll:zl.length<Ab/\(zl.length+1)*8<=140737488355328:=by omega
    conv=>whnf
    repeat'((first|clear U K|apply st|(apply zk;intro K U)|refine zY ?_|refine zs fun Z hs=>?_|refine aq (enc:=fun u:Nat=>[eU u]) (x:=s) (fun v Z hs hsl=>?_) (hg:=iP)|fail)<;>conv=>whnf)
    rw[<-e]at hs;exact⟨hlt,_,rfl,trivial,hs⟩
  .rw[hke]at hs
   refine zz ?_;(repeat clear U K);repeat intro K U
   exact Af (hs.fk 0 rfl (.cons (.refl _) (.cons (.refl _) (.cons (hs.MB 1 rfl) .nil))))
end Go.Gl
namespace Go.Gl
open Go.Proofs
def zE {p:Prog} {gen:Int} {togX togR:List Fact->Bool} {OK:(Int->Er)->Prop} (hX: ∀l,(∀x∈l,DS (AH p) x)->(togX l=true↔ ∃M,OK M/\ ∀x∈l,E4 (AH p) M x))
    (hR: ∀l,(∀x∈l,DS (AH p) x)->(togR l=true↔ ∃M,OK M/\ ∀x∈l,E4 (AH p) M x)) (hn: ∀f∈Fi p gen,Ae (AH p) f=true) :
    ((H8 p togX (Bu p gen)).map fun s=>Tg (F5 (Bu p gen) s,Zd p (F5 (Bu p gen) s)))=(E7 p gen togR).map Tg:=by
 have hE: ∀l,DK togX (E5 p (Bu p gen)) l=cW togR (Fi p gen) l:=fun l=>by
  rw[Hl];exact(K1 hX hn l).trans (M8 hR hn l).symm
 obtain⟨h1,-⟩:=P7 (so:=fun s n=>DK togX (E5 p (Bu p gen)) (Bw s n)) (E:=DK togX (E5 p (Bu p gen))) (Bu p gen).length 0 0 (by decide) (fun s n _=>rfl);rw[GZ,I9 hE]at h1;rw[E7,show([]:List Bool)=Bw 0 0 from rfl,<-h1,rV,rV];rfl
def Md {p:Prog} {gen:Int} (h:C5 p gen=true) (h8:(Bu p gen).length<=8):Po p (Bu p gen):=by
 rw[C5,A4]at h;refine⟨look_ok h.1,fun m hm=>?_,h8⟩;have:=Mc p gen m;rw[List.contains_iff_mem.2 hm]at this;exact(zrH.1 this.symm).1
def G4 (ms:List Int) (bs:List Bool):(BT ms bs).Sublist ms:=by
 rw[BT]
 induction ms generalizing bs with
 | nil=>simp
 | cons m r ih=>
   cases bs with
   | nil=>simp
   | cons b q=>
     cases b
     .simpa using(ih q).cons m
     .simpa using ih q
def iQ (p:Prog) (gen:Int):(Bu p gen).Pairwise (· < ·):=by
 rw[Bu,Xx];exact List.Pairwise.filter _ (Fy _)
def UN {p:Prog} {gen:Int} {l:List Int} (h:l.Sublist (Bu p gen)):HK p gen l=true:=by
 have hp:=(iQ p gen).sublist h;refine Z6 fun i hi=>?_
 have hm:=Mc p gen l[i];rw[List.contains_iff_mem.2 (h.subset (List.getElem_mem hi))]at hm;have hm:=zrH.1 hm.symm;rw[Ru];have e1:l.getD i 0=l[i]:=by rw[Cq,Cd hi];rfl
 rw[e1,hm.1,hm.2,Cc,Cc,Bool.not_eq_true',Bool.and_eq_false_iff,decide_eq_false_iff_not,decide_eq_false_iff_not];by_cases h0:0<i
 .right
  have e2:l.getD (i - 1) 0=l[i - 1]'(by omega):=by rw[Cq,Cd (by omega)];rfl
  rw[e2];have:=List.pairwise_iff_getElem.1 hp (i - 1) i (by omega) hi (by omega);omega
 .exact .inl h0
attribute [local irreducible] As Ag AY AQ AL AX AP AR AK AW AM AN Ai Ap Sat AT An AZ W
def QD {p:Prog} {gen:Int} {ms:List Int} (h:(BQ p).isSome=true):Pure zP 113 [.a (Th p gen ms)] (.rp (gW (AH p) (Ah (AH p).parents))):=by
 have c1:=PU p;rw[if_pos h]at c1;have c2:=oD (AH p) (LL h);refine xu kZ ?_;have hs:=Sn;exact zW
def ke {p:Prog} {gen:Int} {ms:List Int} (h:(BQ p).isSome=true):Pure zP 52 [.a (Th p gen ms)] (cH 115 [] [.rp [.rp (gW (AH p) (Ah (AH p).parents))]] p gen ms):=by
 have c1:=QD (gen:=gen) (ms:=ms) h;refine AAd kZ ?_;have hs:=Sn
 conv=>whnf
 repeat'((first|clear U K|apply st|(apply zk;intro K U)|refine zY ?_|refine zs fun Z hs=>?_|refine c1.use ?_|refine UM.use ?_|refine zo fun nn hnn Z hs=>?_|fail)<;>conv=>whnf)
 exact Af (.f .nil (.cons (.rp (.cons (.f .nil (.cons (hs.fk 0 rfl (.refl _ _ _)) .nil)) .nil)) (.cons (.refl _) .nil)))
def YM {p:Prog} {gen:Int} {ms:List Int} (h:(BQ p).isSome=true) (cs:List Int) (f:Bool):Pure zP 100 [.a (Th p gen ms),.l (iL cs) f] (cH 180 [] [.rp [.rp (gW (AH p) (Ah (AH p).parents))],.rp [.l (iL cs) f]] p gen ms):=by
 have c1:=QD (gen:=gen) (ms:=ms) h;refine jI kZ ?_;have hs:=Sn
 conv=>whnf
 repeat'((first|clear U K|apply st|(apply zk;intro K U)|refine zY ?_|refine zs fun Z hs=>?_|refine c1.use ?_|refine UM.use ?_|refine zo fun nn hnn Z hs=>?_|fail)<;>conv=>whnf)
 exact Af (.f .nil (.cons (.rp (.cons (.f .nil (.cons (hs.fk 0 rfl (.refl _ _ _)) (.cons (.refl _) .nil))) .nil)) (.cons (.refl _) .nil)))
def gd (v:List V):Pure zP 50 [.a v] (.b true):=by
 refine rG kZ ?_;have hs:=Sn;exact zW
abbrev Ts (p:Prog) (gen:Int) (tog:List Fact->Bool):V:= .t [if La p gen true=0 then .l ((E7 p gen tog).map Tg) false else .l [] true,eI (La p gen true)]
def Gc {p:Prog} {gen:Int} (h:Po p (Bu p gen)): ∀f∈Fi p gen,Ae (AH p) f=true:=fun f hf=>by
 obtain⟨m,hm,rfl⟩:=GK.1 hf;have:=Cm (h.MN m hm);exact(h.ok.facts _ (B6 this)).1
def Um {p:Prog} {gen:Int} {g:FuncId} {fi ca:List V} {togX togR:List Fact->Bool} {OK:(Int->Er)->Prop} (hX: ∀l,(∀x∈l,DS (AH p) x)->(togX l=true↔ ∃M,OK M/\ ∀x∈l,E4 (AH p) M x))
    (hR: ∀l,(∀x∈l,DS (AH p) x)->(togR l=true↔ ∃M,OK M/\ ∀x∈l,E4 (AH p) M x)) (h1:C5 p gen=true) (h8:(Bu p gen).length<=8) (hcan:Tv g fi ca (AH p) togX) :
    Pure zP 51 [.a (O6 p gen),cH g fi ca p gen (Bu p gen)] (.l ((E7 p gen togR).map Tg) false):=by
 have hfn:=Md h1 h8;have:=pb (gen:=gen) hfn hcan (stE:=Zd p) (fun s _=>YK p gen _ false h1 (UN (G4 _ _)));rw[zE hX hR (Gc hfn)]at this;exact this
def jl (p:Prog) (gen:Int):Pure zP 10 [.a (BF p),eI gen] (Ts p gen (EN (AH p))):=by
 have c1:=Lg p gen 50 [] true (fun _=>gd _);cases h1:C5 p gen
 .rw[(Et h1 true).1,(Et h1 true).2]at c1
  rw[Ts,(Et h1 true).2];refine gX kZ ?_;have hs:=Sn;exact zW
 rw[(EK h1).1,(EK h1).2]at c1;rw[Ts,(EK h1).2];by_cases h8:(Bu p gen).length<=8
 .have hl:=h1
  rw[C5,A4]at hl;have hw:=(look_ok hl.1).mh;have c2:=ke (gen:=gen) (ms:=Bu p gen) hl.1;have c3:=Um (fun l hl=>j5 hw fun x hx=>EB (hl x hx)) (gN hw) h1 h8 (dY _ (LL hl.1));rw[if_pos h8]at c1 ⊢;rw[if_pos rfl];refine gX kZ ?_;have hs:=Sn
  conv=>whnf
  repeat'((first|clear U K|apply st|(apply zk;intro K U)|refine zY ?_|refine rk ?_ ?_|exact fun s e=>by cases e;rfl|refine zs fun Z hs=>?_|refine zC ?_|(refine zb (fun hc=>?_) (fun hc=>?_)<;>try exact⟨⟩)|refine zo fun nn hnn Z hs=>?_|fail)<;>conv=>whnf)
  all_goals exact AG rfl
 .rw[if_neg h8]at c1 ⊢
  rw[if_neg (by decide)];refine gX kZ ?_;have hs:=Sn;exact zW
def mX (p:Prog) (gen:Int):Pure zP 38 [.a (BF p),eI gen] (Ts p gen (X4 (AH p) [])):=by
 have c1:=Lg p gen 50 [] true (fun _=>gd _);cases h1:C5 p gen
 .rw[(Et h1 true).1,(Et h1 true).2]at c1
  rw[Ts,(Et h1 true).2];refine gV kZ ?_;have hs:=Sn;exact zW
 rw[(EK h1).1,(EK h1).2]at c1;rw[Ts,(EK h1).2];by_cases h8:(Bu p gen).length<=8
 .have hl:=h1
  rw[C5,A4]at hl;have hw:=(look_ok hl.1).mh;have c2:=YM (gen:=gen) (ms:=Bu p gen) hl.1 [] true;have c3:=Um (fun l hl=>IK hw fun x hx=>EB (hl x hx)) (gO hw od) h1 h8 (O9 _ (LL hl.1) [] true (by decide));rw[if_pos h8]at c1 ⊢;rw[if_pos rfl];refine gV kZ ?_;have hs:=Sn
  conv=>whnf
  repeat'((first|clear U K|apply st|(apply zk;intro K U)|refine zY ?_|refine rk ?_ ?_|exact fun s e=>by cases e;rfl|refine zs fun Z hs=>?_|refine zC ?_|(refine zb (fun hc=>?_) (fun hc=>?_)<;>try exact⟨⟩)|refine zo fun nn hnn Z hs=>?_|fail)<;>conv=>whnf)
  all_goals exact AG rfl
 .rw[if_neg h8]at c1 ⊢
  rw[if_neg (by decide)];refine gV kZ ?_;have hs:=Sn;exact zW
end Go.Gl
namespace Go.Gl
open Go.Proofs
attribute [local irreducible] As Ag AY AQ AL AX AP AR AK AW AM AN Ai Ap Sat AT An AZ W
def OU (b k:Nat):List Bool:=(List.range k).map fun i=>decide (i<8)&&b.testBit i
def Tl (b:Nat) (l:List Int):List Int:=BT l (OU b l.length)
def TN (b k:Nat):(OU b k).length=k:=by simp[OU]
def cq (b:Nat) (l:List Int) (m:Int):Tl b (l++[m])=Tl b l++if(decide (l.length<8)&&b.testBit l.length)=true then [m]else []:=by
 have h:OU b (l.length+1)=OU b l.length++[decide (l.length<8)&&b.testBit l.length]:=by
  rw[OU,List.range_succ,LX];rfl
 rw[Tl,HQ,List.length_singleton,h,BT,List.zip_append (TN b _).symm,List.filter_append,LX];rw[Tl,BT];congr 1;cases(decide (l.length<8)&&b.testBit l.length)<;>rfl
def j7 (b:Nat) (l:List Int):(Tl b l).length<=l.length:=(G4 l _).length_le
def XB {b n:Nat} (hb:b<256) (hn:n<8):bits .and .u8 ((b:Int).fdiv (2 ^ min (n:Int).toNat IntKind.u8.bits)) 1=if b.testBit n then 1 else 0:=by
 have h:((List.range 256).all fun b=>(List.range 8).all fun n=>decide (bits .and .u8 ((b:Int).fdiv (2 ^ min (n:Int).toNat IntKind.u8.bits)) 1=if b.testBit n then 1 else 0))=true:=by kernel_rfl
 have h1:=Cu.1 h b (List.mem_range.2 hb);exact of_decide_eq_true (Cu.1 h1 n (List.mem_range.2 hn))
def j6 (p:Prog) (gen:Int) (b:Nat) (hb:b<256) (h16:p.methods.length<=16):Pure zP 11 [.a (BF p),eI gen,.i .u8 (b:Int)] (.l (iL (Tl b (Bu p gen))) false):=by
 refine Pure.fit (by kernel_rfl) fun hf=>?_
 have hP:=JM hf.1;have hM:=Mx;refine AAu kZ ?_;have hs:=Sn
 conv=>whnf
 repeat'((first|apply st|(apply sq;intro K U)|(apply si;intro A B hA hB)|(refine hA _ _ ?_;clear hB B hA A)|(apply U;clear U K)|fail)<;>conv=>whnf)
 refine B4 p.methods.length (fun k v=>[(7,v),(8,eI ((Xx p gen k).length:Int)),(14,eI (A7 k))]) (fun k v=>[.own v 1 (iL (Tl b (Xx p gen k)))]) (fun _ _=>True) (.l [] true) rfl trivial (EY hs 1) ?_;clear hs;rintro k v Z hk - hs;have hal:=bH p gen k;rcases A9 p.methods hk with⟨x,hx,hlt⟩|hke
 .have hck:A7 k=k:=AS (by omega)
  have hxe:=Uc hx;have hst:=Wn p gen k;rw[hxe]at hst;generalize Xx p gen k=zs at *;have hul:=j7 b zs;by_cases hg:x.gen=gen
  .rw[if_pos (CF.2 hg)]at hst
   have hsu:=cq b zs (k:Int);rw[<-hst]at hsu;generalize Tl b zs=us at *;have hw:IntKind.i64.wrap ((zs.length:Int)+1)=((zs.length+1:Nat):Int):=by rw[wrap64 (by omega) (by omega)];rfl
   have hll:us.length<Ab/\(us.length+1)*8<=140737488355328:=by omega
   have hzl:(Xx p gen (k+1)).length=zs.length+1:=by rw[hst,HQ];rfl
   conv=>whnf
   repeat'((first|apply st|(apply sq;intro K U)|(apply si;intro A B hA hB)|(refine hA _ _ ?_;clear hB B hA A)|(apply U;clear U K)|refine⟨rfl,?_⟩|refine⟨kZ,?_⟩|refine ix ?_|refine ld ?_|refine FX fun Z hs=>?_|refine aq fun v Z hs hsl=>?_|(refine NT (fun hc=>?_)<;>(try rw[hc])<;>clear hc)|refine⟨Int.natCast_nonneg _,?_⟩|(constructor<;>intro hc<;>(try rw[hc])<;>(replace hc:=bp hc)<;>try(exfalso;omega))|(intro nn hnn;generalize hg:BZ _ nn _=Z;refine GF hg fun hs=>?_;clear hg)|clear U K)<;>conv=>whnf)
   all_goals try(exfalso;omega)
   .rename_i h8 hc
    rw[XB hb (by omega)]at hc;have hbt:b.testBit zs.length=true:=by cases h:b.testBit zs.length<;>rw[h]at hc<;>simp at hc ⊢
    rw[hbt,decide_eq_true (by omega),Bool.and_true,if_pos rfl,<-hck]at hsu;exact⟨hlt,v,by rw[hzl,<-hw];rfl,trivial,by rw[hsu];exact hs.less (Gg _ _)⟩
   .rename_i h8 hc
    rw[XB hb (by omega)]at hc;have hbt:b.testBit zs.length=false:=by cases h:b.testBit zs.length<;>rw[h]at hc<;>simp at hc ⊢
    rw[hbt,Bool.and_false,if_neg (by decide),D8]at hsu;exact⟨hlt,v,by rw[hzl,<-hw];rfl,trivial,by rw[hsu];exact hs.less (Gg _ _)⟩
   .rw[decide_eq_false (by omega),Bool.false_and,if_neg (by decide),D8]at hsu
    exact⟨hlt,v,by rw[hzl,<-hw];rfl,trivial,by rw[hsu];exact hs.less (Gg _ _)⟩
  .rw[if_neg (by simpa using hg)]at hst
   have hzl:(Xx p gen (k+1)).length=zs.length:=by rw[hst]
   conv=>whnf
   repeat'((first|apply st|(apply sq;intro K U)|(apply si;intro A B hA hB)|(refine hA _ _ ?_;clear hB B hA A)|(apply U;clear U K)|refine⟨rfl,?_⟩|refine⟨kZ,?_⟩|refine ix ?_|refine ld ?_|refine FX fun Z hs=>?_|(refine NT (fun hc=>?_)<;>(try rw[hc])<;>clear hc)|(constructor<;>intro hc<;>(try rw[hc])<;>(replace hc:=bp hc)<;>try(exfalso;omega))|(intro nn hnn;generalize hg:BZ _ nn _=Z;refine GF hg fun hs=>?_;clear hg)|clear U K)<;>conv=>whnf)
   exact⟨hlt,_,by rw[hzl];rfl,trivial,by rw[hst];exact hs.less (Gg _ _)⟩
 .rw[hke]at hs
  conv=>whnf
  repeat'((first|apply st|(apply sq;intro K U)|(apply si;intro A B hA hB)|(refine hA _ _ ?_;clear hB B hA A)|(apply U;clear U K)|refine⟨rfl,?_⟩|(refine SF (fun hc=>?_)<;>(try rw[hc])<;>clear hc)|clear U K)<;>conv=>whnf)
  exact Af (hs.MB 0 rfl)
def AA4 (w:AF) (hw:BR w) (f:Fact) (hf:JK w f=true) (hn:Ae w f=true) (hv:lv f<=100):Pure zP 15 [.a (A5 w),.a (xF f)] (.t [.b (Ry w f),eI 0]):=by
 have hrd: ∀b,Pure zP 60 [.a (A5 w),.l [EI f] b] (.t [.rp (wC w (Ah w.parents)),.b true]):=fun b=>by
  have:=KY w hw [f] b (by simp);simpa[hf]using this
 rw[BC]at hrd;have hcn:=jL w hw f hn hv;refine AAr kZ ?_;have hs:=Sn
 conv=>whnf
 repeat'((first|apply st|(apply sq;intro K U)|(apply si;intro A B hA hB)|(refine hA _ _ ?_;clear hB B hA A)|(apply U;clear U K)|refine⟨kZ,?_⟩|refine SG ?_|refine Pure.use (hrd _) ?_|refine hcn.use ?_|fail)<;>conv=>whnf)
 all_goals exact AG rfl
def Pj (xs:List (List Int×Int)) (l:List Int):Bool:=xs.any fun x=>x.1==l
def uK (s0:List Int->Int) (xs:List (List Int×Int)) (hxs: ∀x∈xs,x.2=s0 x.1) (hxl:xs.length<=256) (f:Bool) (l:List Int) (g:Bool) :
    Pure zP 13 [.l (xs.map Tg) f,.l (iL l) g] (.t [.a (if Pj xs l then Tg (l,s0 l)else [.l [] true,eI 0]),.b (Pj xs l)]):=by
 have hM:=Mx;refine Pure.of ?_;refine AAt kZ ?_;have hs:=Sn
 conv=>whnf
 repeat'((first|apply st|(apply sq;intro K U)|(apply si;intro A B hA hB)|(refine hA _ _ ?_;clear hB B hA A)|(apply U;clear U K)|(intro nn hnn;generalize hg:BZ _ nn _=Z;refine GF hg fun hs=>?_;clear hg)|fail)<;>conv=>whnf)
 generalize nn=n4 at *;refine B4 xs.length (fun k (_:Unit)=>[(10,eI (A7 k))]) (fun _ _=>[.box n4 [.l [] true,eI 0]]) (fun k _=>Pj xs l=Pj (xs.drop k) l) () rfl rfl hs ?_;clear hs;rintro k - Z hk hR hs;have hck:A7 k=k:=AS (by omega);rcases A9 xs hk with⟨x,hx,hlt⟩|hke
 .rw [drop_cons hx,Pj,Pj,Rq,<-Pj,<-Pj]at hR
  have c1:=UP x.1 l false g;have hx2:=hxs x (B6 hx);cases hq:(x.1==l)<;>rw[hq]at c1 hR
  .rw[Bool.false_or]at hR
   conv=>whnf
   repeat'((first|apply st|(apply sq;intro K U)|(apply si;intro A B hA hB)|(refine hA _ _ ?_;clear hB B hA A)|(apply U;clear U K)|refine⟨rfl,?_⟩|refine⟨kZ,?_⟩|refine ix ?_|refine ld ?_|refine FX fun Z hs=>?_|(refine NT (fun hc=>?_)<;>(try rw[hc])<;>clear hc)|refine c1.use ?_|(intro nn hnn;generalize hg:BZ _ nn _=Z;refine GF hg fun hs=>?_;clear hg)|clear U K)<;>conv=>whnf)
   exact⟨hlt,(),rfl,hR,hs.less (by simp)⟩
  .rw[Bool.true_or]at hR
   have e:x=(l,s0 l):=by
    have:=CF.1 hq;rw[<-this,<-hx2]
   subst e
   conv=>whnf
   repeat'((first|apply st|(apply sq;intro K U)|(apply si;intro A B hA hB)|(refine hA _ _ ?_;clear hB B hA A)|(apply U;clear U K)|refine⟨rfl,?_⟩|refine⟨kZ,?_⟩|refine ix ?_|refine ld ?_|refine FX fun Z hs=>?_|(refine NT (fun hc=>?_)<;>(try rw[hc])<;>clear hc)|refine c1.use ?_|(intro nn hnn;generalize hg:BZ _ nn _=Z;refine GF hg fun hs=>?_;clear hg)|clear U K)<;>conv=>whnf)
   exact AJ (by rw[hR];rfl)
 .rw[Aj hke]at hR
  conv=>whnf
  repeat'((first|apply st|(apply sq;intro K U)|(apply si;intro A B hA hB)|(refine hA _ _ ?_;clear hB B hA A)|(apply U;clear U K)|refine⟨rfl,?_⟩|refine⟨kZ,?_⟩|refine ld ?_|refine FX fun Z hs=>?_|(refine SF (fun hc=>?_)<;>(try rw[hc])<;>clear hc)|clear U K)<;>conv=>whnf)
  all_goals exact AJ (by rw[hR];rfl)
end Go.Gl
namespace Go.Gl
open Go.Proofs
def sl1 {Z:AE} {x:Fact} {r:List Fact} {f:Bool} {K:V->AE->Prop} (h: ∀b,K (.l (facts r) b) Z):AP Z 6 (.l (facts (x::r)) f) (some (.i .i64 1)) none none K:=by
 refine⟨fun e he=>?_,?_⟩
 .obtain⟨x,_,rfl⟩:=GK.1 he
  rw[BC];rfl
 .simp only[Ou,Bc,HH]
  refine⟨by omega,by omega,by omega,?_⟩;have:=h (f&&decide (((r.length+1:Nat):Int)=((r.length+1:Nat):Int)));simpa[List.map_take,List.take_of_length_le]using this
attribute [local irreducible] As Ag AY AQ AL AX AP AR AK AW AM AN Ai Ap Sat AT An AZ W
attribute [local irreducible] Fz
def Zf (op:Int):List Fact->Fact
 | []=> .mk 1 0 [] 0 0 []
 | [x]=>x
 | x::y::r=> .mk op 0 [] 0 0 [x,Zf op (y::r)]
def Pr (p:Prog) (set:List Int) (m:Int):Fact:=if set.contains m then(BY p m).fact else Ca (BY p m).fact
def FA (p:Prog) (gen:Int) (set:List Int):Fact:=Zf 6 ((Bu p gen).map (Pr p set))
def iR {p:Prog} {gen:Int}: ∀x∈Bu p gen,Bd p x=true:=fun x hx=>by
 have:=(List.contains_iff_mem).2 hx;rw[Mc,A4]at this;exact this.1
def Ju:Fact:= .mk 0 0 [] 0 0 []
def Vq (p:Prog) (gen:Int) (l:List Int):Fact×Int:=if C5 p gen then(if HK p gen l then(if(Bu p gen).length<=8 then(if Ba (AH p) (FA p gen l)then(FA p gen l,0)else(Ju,3))else(Ju,3))else(Ju,2))else(Ju,2)
def Hu {Z Z':AE} {a b:Bool}:FY Z Z' (.a [.i .i64 0,.i .i64 0,.l [] a,.i .i64 0,.i .i64 0,.l [] b]) (.a (xF Ju)):= .a (.cons (.refl _) (.cons (.refl _) (.cons Bm (.cons (.refl _) (.cons (.refl _) (.cons Bm .nil))))))
end Go.Gl
