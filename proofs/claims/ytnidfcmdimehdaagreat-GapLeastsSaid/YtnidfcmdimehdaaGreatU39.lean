import Derived.Test.YtnidfcmdimehdaaGreatU14
import Derived.Test.YtnidfcmdimehdaaGreatU25
import Derived.Test.YtnidfcmdimehdaaGreatU26
import Derived.Test.YtnidfcmdimehdaaGreatU27
import Derived.Test.YtnidfcmdimehdaaGreatU29
import Derived.Test.YtnidfcmdimehdaaGreatU35
import Derived.Test.YtnidfcmdimehdaaGreatU36
import Derived.Test.YtnidfcmdimehdaaGreatU38
set_option linter.all false
set_option linter.defProp false
set_option maxHeartbeats 8000000
noncomputable section
namespace Go.Gl
open Go.Proofs
attribute [local irreducible] As Af AV AQ AI AU AP AR AJ AT AM AN Ag Ar Sat AS Ap AX W
abbrev uL (us:List Nat):List (List V):=us.map fun u=>[eU u]
abbrev gB (w:AE) (v:V):List V:=[.l (EF w.parents) false,.l (iL w.owner) false,v]
def gK:Dp (fun u:Nat=>[eU u]) 1:=fun x=>⟨rfl,fun v hv=>by rw[JT.1 hv];rfl⟩
def mV (w : AE) (hw:CS w):Pure zP 143 [.a (Ax w)] (.rp (gW w (BR w.parents))):=by
 obtain⟨⟨hl,hrow⟩,ho,how⟩:=hw;have hM:=Mx;refine wD kZ ?_;have hs:=Sn;have hi1:((EF w.parents).length:Int)<=60:=by rw[Bh];omega
 conv=>whnf
 repeat'((first|clear U K|apply st|(apply zk;intro K U)|refine zY ?_|refine zo fun nn hnn Z hs=>?_|fail)<;>conv=>whnf)
 generalize nn=n0 at *;refine Ba 3 (fun k (_:V)=>[(13,eI (Au k))]) (fun k v=>[.box n0 (gB w v),.own v 1 (uL ([1,3,5].take k))]) (fun k _=>True) (.l [] true) rfl trivial (Ce hs 1) ?_;clear hs;rintro k v Z hk - hs;have hck:Au k=k:=AW (by omega);have hlen:(([1,3,5]:List Nat).take k).length=k:=by simp;omega
 by_cases hlt:k<3
 .have hst:=up3 hlt
  generalize ([1,3,5]:List Nat).take k=zl at *;have hll:zl.length<AZ/\(zl.length+1)*8<=140737488355328:=by omega
  conv=>whnf
  repeat'((first|clear U K|apply st|(apply zk;intro K U)|refine zY ?_|refine rk ?_ ?_|exact fun s e=>by cases e;rfl|refine zs fun Z hs=>?_|refine Pure.use (LQ 1 _ (by decide) (by omega) (by omega)) ?_|refine aq (enc:=fun u:Nat=>[eU u]) (x:=1|||2 ^ (Au k).toNat) (fun v Z hs hsl=>?_) (hg:=gK)|(refine zb (fun hc=>?_) (fun hc=>?_)<;>try exact⟨⟩)|fail)<;>conv=>whnf)
  rw[hck,FZ,hst]at hs;exact⟨hlt,_,rfl,trivial,hs⟩
 .have hke:k=3:=by omega
  subst hke;clear hk hck hlen hlt
  conv=>whnf
  repeat'((first|clear U K|apply st|(apply zk;intro K U)|refine zY ?_|(refine zb (fun hc=>?_) (fun hc=>?_)<;>try exact⟨⟩)|fail)<;>conv=>whnf)
  refine Ba w.parents.length (fun k (_:V)=>[(31,eI (Au k))]) (fun k v=>[.box n0 (gB w v),.own v 1 (uL (Bk w.parents k))]) (fun k _=>True) v rfl trivial hs ?_;clear hs;rintro k v Z hk - hs;have hck:Au k=k:=AW (by omega);have hul:=Dc w.parents k;have huo:=Gi w.parents k (by omega);have hw3:IntKind.i64.wrap (3+(k:Int))=3+(k:Int):=wrap64 (by omega) (by omega);rcases Aw w.parents hk with⟨row,hr,hlt⟩|hke
  .obtain⟨r1,r2,r3⟩:=hrow k row hr
   rw[<-hck]at hw3
   conv=>whnf
   repeat'((first|clear U K|apply st|(apply zk;intro K U)|refine zY ?_|refine Pure.use (LQ 1 _ (by decide) (by omega) (by omega)) ?_|fail)<;>conv=>whnf)
   have hst0:IntKind.i64.wrap (3+Au k)=3+(k:Int):=by rw[hck];exact wrap64 (by omega) (by omega)
   have hs0lt:1|||2 ^ (3+k)<18446744073709551616:=H3 (by decide) (Ge (by omega))
   have hs0e:1|||2 ^ (IntKind.i64.wrap (3+Au k)).toNat=1|||2 ^ (3+k):=by rw[hst0,show(3+(k:Int)).toNat=3+k by omega]
   rw[hs0e];refine Ba row.length (fun j (s:Nat)=>[(41,eI (Au j)),(7,eU s)]) (fun _ _=>[.box n0 (gB w v),.own v 1 (uL (Bk w.parents k))]) (fun j s=>s=Ti (Bk w.parents k) (row.take j) (1|||2 ^ (3+k))) (1|||2 ^ (3+k)) rfl rfl hs ?_;clear hs;rintro j s Z hj hse hs;rcases Aw row hj with⟨c,hcj,hjlt⟩|hje
   .obtain⟨q1,q2⟩:=r3 c (BY hcj)
    conv=>whnf
    repeat'((first|clear U K|apply st|(apply zk;intro K U)|refine zY ?_|refine ze fun x hx=>?_|fail)<;>conv=>whnf)
    rename_i x hx;have hxd:(Bk w.parents k).getD c.toNat 0=x:=by rw[Co,hx];rfl
    have hsl:s<18446744073709551616:=by rw[hse];exact O6 huo _ _ hs0lt
    refine⟨hjlt,s|||x,?_,?_,hs⟩
    .rw[HP hsl (huo x (BY hx))]
     rfl
    .rw[hse,AO hcj]
     simp only[Ti,List.foldl_append];rw[<-hxd];rfl
   .have e:Bk w.parents (k+1)=Bk w.parents k++[s]:=by
     rw[hse,Bk,Co,hr,hje,List.take_length];rfl
    generalize Bk w.parents k=zl at *;have hll:zl.length<AZ/\(zl.length+1)*8<=140737488355328:=by omega
    conv=>whnf
    repeat'((first|clear U K|apply st|(apply zk;intro K U)|refine zY ?_|refine zs fun Z hs=>?_|refine aq (enc:=fun u:Nat=>[eU u]) (x:=s) (fun v Z hs hsl=>?_) (hg:=gK)|fail)<;>conv=>whnf)
    rw[<-e]at hs;exact⟨hlt,_,rfl,trivial,hs⟩
  .rw[hke]at hs
   refine zz ?_;(repeat clear U K);repeat intro K U
   exact AY (hs.eY 0 rfl (.cons (.refl _) (.cons (.refl _) (.cons (hs.Ic 1 rfl) .nil))))
end Go.Gl
namespace Go.Gl
open Go.Proofs
def yH {p:Prog} {gen:Int} {togX togR:List Fact->Bool} {OK:(Int->JB)->Prop} (hX: ∀l,(∀x∈l,C1 (AG p) x)->(togX l=true↔ ∃M,OK M/\ ∀x∈l,Eh (AG p) M x))
    (hR: ∀l,(∀x∈l,C1 (AG p) x)->(togR l=true↔ ∃M,OK M/\ ∀x∈l,Eh (AG p) M x)) (hn: ∀f∈Nf p gen,An (AG p) f=true) :
    ((GN p togX (Bo p gen)).map fun s=>O2 (DW (Bo p gen) s,NG p (DW (Bo p gen) s)))=(Dm p gen togR).map O2:=by
 have hE: ∀l,C9 togX (FD p (Bo p gen)) l=Tn togR (Nf p gen) l:=fun l=>by
  rw[KF];exact(Kq hX hn l).trans (IJ hR hn l).symm
 obtain⟨h1,-⟩:=P1 (so:=fun s n=>C9 togX (FD p (Bo p gen)) (Bq s n)) (E:=C9 togX (FD p (Bo p gen))) (Bo p gen).length 0 0 (by decide) (fun s n _=>rfl);rw[G7,I3 hE]at h1;rw[Dm,show([]:List Bool)=Bq 0 0 from rfl,<-h1,qG,qG];rfl
def Iq {p:Prog} {gen:Int} (h:B9 p gen=true) (h8:(Bo p gen).length<=8):Ot p (Bo p gen):=by
 rw[B9,A7]at h;refine⟨look_ok h.1,fun m hm=>?_,h8⟩;have:=MQ p gen m;rw[List.contains_iff_mem.2 hm]at this;exact(zrH.1 this.symm).1
def I0 (ms:List Int) (bs:List Bool):(Cr ms bs).Sublist ms:=by
 rw[Cr]
 induction ms generalizing bs with
 | nil=>simp
 | cons m r ih=>
   cases bs with
   | nil=>simp
   | cons b q=>
     cases b
     .simpa using(ih q).cons m
     .simpa using ih q
def sm (p:Prog) (gen:Int):(Bo p gen).Pairwise (· < ·):=by
 rw[Bo,bS];exact List.Pairwise.filter _ (LC _)
def O8 {p:Prog} {gen:Int} {l:List Int} (h:l.Sublist (Bo p gen)):G5 p gen l=true:=by
 have hp:=(sm p gen).sublist h;refine Zm fun i hi=>?_
 have hm:=MQ p gen l[i];rw[List.contains_iff_mem.2 (h.subset (List.getElem_mem hi))]at hm;have hm:=zrH.1 hm.symm;rw[Rt];have e1:l.getD i 0=l[i]:=by rw[Co,CQ hi];rfl
 rw[e1,hm.1,hm.2,Db,Db,Bool.not_eq_true',Bool.and_eq_false_iff,decide_eq_false_iff_not,decide_eq_false_iff_not];by_cases h0:0<i
 .right
  have e2:l.getD (i - 1) 0=l[i - 1]'(by omega):=by rw[Co,CQ (by omega)];rfl
  rw[e2];have:=List.pairwise_iff_getElem.1 hp (i - 1) i (by omega) hi (by omega);omega
 .exact .inl h0
attribute [local irreducible] As Af AV AQ AI AU AP AR AJ AT AM AN Ag Ar Sat AS Ap AX W
def P7 {p:Prog} {gen:Int} {ms:List Int} (h:(BQ p).isSome=true):Pure zP 89 [.a (Rr p gen ms)] (.rp (gW (AG p) (BR (AG p).parents))):=by
 have c1:=PR p;rw[if_pos h]at c1;have c2:=mV (AG p) (Jr h);refine yx kZ ?_;have hs:=Sn;exact zW
def WH {p:Prog} {gen:Int} {ms:List Int} (h:(BQ p).isSome=true):Pure zP 34 [.a (Rr p gen ms)] (VG 91 [] [.rp [.rp (gW (AG p) (BR (AG p).parents))]] p gen ms):=by
 have c1:=P7 (gen:=gen) (ms:=ms) h;refine zi kZ ?_;have hs:=Sn
 conv=>whnf
 repeat'((first|clear U K|apply st|(apply zk;intro K U)|refine zY ?_|refine zs fun Z hs=>?_|refine c1.use ?_|refine UL.use ?_|refine zo fun nn hnn Z hs=>?_|fail)<;>conv=>whnf)
 exact AY (.f .nil (.cons (.rp (.cons (.f .nil (.cons (hs.eY 0 rfl (.refl _ _ _)) .nil)) .nil)) (.cons (.refl _) .nil)))
def Tv {p:Prog} {gen:Int} {ms:List Int} (h:(BQ p).isSome=true) (cs:List Int) (f:Bool):Pure zP 35 [.a (Rr p gen ms),.l (iL cs) f] (VG 95 [] [.rp [.rp (gW (AG p) (BR (AG p).parents))],.rp [.l (iL cs) f]] p gen ms):=by
 have c1:=P7 (gen:=gen) (ms:=ms) h;refine pv kZ ?_;have hs:=Sn
 conv=>whnf
 repeat'((first|clear U K|apply st|(apply zk;intro K U)|refine zY ?_|refine zs fun Z hs=>?_|refine c1.use ?_|refine UL.use ?_|refine zo fun nn hnn Z hs=>?_|fail)<;>conv=>whnf)
 exact AY (.f .nil (.cons (.rp (.cons (.f .nil (.cons (hs.eY 0 rfl (.refl _ _ _)) (.cons (.refl _) .nil))) .nil)) (.cons (.refl _) .nil)))
def X1 (v:List V):Pure zP 32 [.a v] (.b true):=by
 refine pw kZ ?_;have hs:=Sn;exact zW
abbrev VR (p:Prog) (gen:Int) (tog:List Fact->Bool):V:= .t [if GZ p gen true=0 then .l ((Dm p gen tog).map O2) false else .l [] true,eI (GZ p gen true)]
def IU {p:Prog} {gen:Int} (h:Ot p (Bo p gen)): ∀f∈Nf p gen,An (AG p) f=true:=fun f hf=>by
 obtain⟨m,hm,rfl⟩:=GL.1 hf;have:=Br (h.FH m hm);exact(h.ok.facts _ (BY this)).1
def Ul {p:Prog} {gen:Int} {g:FuncId} {fi ca:List V} {togX togR:List Fact->Bool} {OK:(Int->JB)->Prop} (hX: ∀l,(∀x∈l,C1 (AG p) x)->(togX l=true↔ ∃M,OK M/\ ∀x∈l,Eh (AG p) M x))
    (hR: ∀l,(∀x∈l,C1 (AG p) x)->(togR l=true↔ ∃M,OK M/\ ∀x∈l,Eh (AG p) M x)) (h1:B9 p gen=true) (h8:(Bo p gen).length<=8) (hcan:Pj g fi ca (AG p) togX) :
    Pure zP 33 [.a (On p gen),VG g fi ca p gen (Bo p gen)] (.l ((Dm p gen togR).map O2) false):=by
 have hfn:=Iq h1 h8;have:=nu (gen:=gen) hfn hcan (stE:=NG p) (fun s _=>Tu p gen _ false h1 (O8 (I0 _ _)));rw[yH hX hR (IU hfn)]at this;exact this
def xG (p:Prog) (gen:Int):Pure zP 7 [.a (A3 p),eI gen] (VR p gen (FC (AG p))):=by
 have c1:=Jy p gen 32 [] true (fun _=>X1 _);cases h1:B9 p gen
 .rw[(DA h1 true).1,(DA h1 true).2]at c1
  rw[VR,(DA h1 true).2];refine qu kZ ?_;have hs:=Sn;exact zW
 rw[(C6 h1).1,(C6 h1).2]at c1;rw[VR,(C6 h1).2];by_cases h8:(Bo p gen).length<=8
 .have hl:=h1
  rw[B9,A7]at hl;have hw:=(look_ok hl.1).dw;have c2:=WH (gen:=gen) (ms:=Bo p gen) hl.1;have c3:=Ul (fun l hl=>Vy hw fun x hx=>Dr (hl x hx)) (pc hw) h1 h8 (St _ (Jr hl.1));rw[if_pos h8]at c1 ⊢;rw[if_pos rfl];refine qu kZ ?_;have hs:=Sn
  conv=>whnf
  repeat'((first|clear U K|apply st|(apply zk;intro K U)|refine zY ?_|refine rk ?_ ?_|exact fun s e=>by cases e;rfl|refine zs fun Z hs=>?_|refine zC ?_|(refine zb (fun hc=>?_) (fun hc=>?_)<;>try exact⟨⟩)|refine zo fun nn hnn Z hs=>?_|fail)<;>conv=>whnf)
  all_goals exact AF rfl
 .rw[if_neg h8]at c1 ⊢
  rw[if_neg (by decide)];refine qu kZ ?_;have hs:=Sn;exact zW
def lA (p:Prog) (gen:Int):Pure zP 8 [.a (A3 p),eI gen] (VR p gen (Kx (AG p) [])):=by
 have c1:=Jy p gen 32 [] true (fun _=>X1 _);cases h1:B9 p gen
 .rw[(DA h1 true).1,(DA h1 true).2]at c1
  rw[VR,(DA h1 true).2];refine qt kZ ?_;have hs:=Sn;exact zW
 rw[(C6 h1).1,(C6 h1).2]at c1;rw[VR,(C6 h1).2];by_cases h8:(Bo p gen).length<=8
 .have hl:=h1
  rw[B9,A7]at hl;have hw:=(look_ok hl.1).dw;have c2:=Tv (gen:=gen) (ms:=Bo p gen) hl.1 [] true;have c3:=Ul (fun l hl=>Gj hw fun x hx=>Dr (hl x hx)) (Pr hw MK) h1 h8 (MH _ (Jr hl.1) [] true (by decide));rw[if_pos h8]at c1 ⊢;rw[if_pos rfl];refine qt kZ ?_;have hs:=Sn
  conv=>whnf
  repeat'((first|clear U K|apply st|(apply zk;intro K U)|refine zY ?_|refine rk ?_ ?_|exact fun s e=>by cases e;rfl|refine zs fun Z hs=>?_|refine zC ?_|(refine zb (fun hc=>?_) (fun hc=>?_)<;>try exact⟨⟩)|refine zo fun nn hnn Z hs=>?_|fail)<;>conv=>whnf)
  all_goals exact AF rfl
 .rw[if_neg h8]at c1 ⊢
  rw[if_neg (by decide)];refine qt kZ ?_;have hs:=Sn;exact zW
end Go.Gl
namespace Go.Gl
open Go.Proofs
attribute [local irreducible] As Af AV AQ AI AU AP AR AJ AT AM AN Ag Ar Sat AS Ap AX W
abbrev oy (p:Prog) (ms:List Int) (op:Bool) (cs:List Int) (g:Bool) (T:List (List Bool)):List V:=A3 p++(Ax (AG p)++[.l (iL ms) false,.b op,.l (iL cs) g,ov T])
structure eK (p:Prog) (ms:List Int) (op:Bool) (cs:List Int):Prop where
 ok:EN p
 FH: ∀m∈ms,BG p m=true
 ox:ms.length<=8
 cls:op=false->(∀c∈cs,1<=c/\c<3+((AG p).parents.length:Int))/\cs.length<=3
def Ly (p:Prog) (op:Bool) (cs:List Int) (l:List Fact):Bool:=if op then FC (AG p) l else Kx (AG p) cs l
def OR (p:Prog) (ms:List Int) (op:Bool) (cs:List Int) (g:Bool) (T:List (List Bool)) (h:eK p ms op cs) (l:List Fact) (hl: ∀x∈l,C1 (AG p) x) (hln:l.length<=1000000):Pure zP 222 [.a (oy p ms op cs g T),.l (facts l) false] (.b (Ly p op cs l)):=by
 obtain⟨q1,q2,q3,q4⟩:=IF hl;cases op
 .have hc:=h.cls rfl
  have c1:=mF (AG p) l cs g q1 hln h.ok.dw q2 q3 q4 hc.1 hc.2;refine gY kZ ?_;have hs:=Sn;exact zW
 .have c1:=OS (AG p) l q1 hln h.ok.dw q2 q3 q4
  refine gY kZ ?_;have hs:=Sn;exact zW
abbrev VL (p:Prog) (ms:List Int):List Fact:=ms.map fun m=>(BK p m).fact
def wx (p:Prog) (ms:List Int) (op:Bool) (cs:List Int) (g:Bool) (T:List (List Bool)) (h:eK p ms op cs) (bs:List Bool) (hbs:bs.length<=ms.length) (fb:Bool): ∀(d at_:Nat) (l:List Fact),at_+d=bs.length->(∀x∈l,C1 (AG p) x)->l.length<=12*at_->
    Pure zP 176 [.a (oy p ms op cs g T),.l (facts l) false,eI at_,.l (bL bs) fb] (.b (JY (Ly p op cs) ((Pg ((VL p ms).zip bs)).drop at_) l)):=by
 have hM:=Mx;have hfew:=h.ox;have ebl:((bL bs).length:Int)=bs.length:=by simp
 intro d
 induction d with
 | zero=>
   intro at_ l hat hl hln;have c1:=OR p ms op cs g T h l hl (by omega);have hz:(Pg ((VL p ms).zip bs)).drop at_= []:=List.drop_of_length_le (by simp[Pg];omega);rw[hz,JY];cases ht:Ly p op cs l<;>rw[ht]at c1
   all_goals
    refine YJ kZ ?_;have hs:=Sn
    conv=>whnf
    repeat'((first|clear U K|apply st|(apply zk;intro K U)|refine zY ?_|refine zC ?_|(refine zb (fun hc=>?_) (fun hc=>?_)<;>try exact⟨⟩)|fail)<;>conv=>whnf)
    all_goals try(exfalso;simp at hc;omega)
    all_goals exact AF rfl
 | succ d ih=>
   intro at_ l hat hl hln;have c1:=OR p ms op cs g T h l hl (by omega);obtain⟨m,hm⟩: ∃m,ms[at_]? =some m:=⟨_,CQ (by omega)⟩
   obtain⟨b,hb⟩: ∃b,bs[at_]? =some b:=⟨_,CQ (by omega)⟩
   have hmm:=h.FH m (BY hm);have hmP:=Br hmm;have hfa:=h.ok.facts _ (BY hmP)
   have hzk:(Pg ((VL p ms).zip bs))[at_]? =some (BC (BK p m).fact (!b)):=by
    have hz:((VL p ms).zip bs)[at_]? =some ((BK p m).fact,b):=List.getElem?_zip_eq_some.2 ⟨by rw[JV,hm];rfl,hb⟩;rw[Pg,JV,hz];rfl
   rw[drop_cons hzk,JY];cases ht:Ly p op cs l<;>rw[ht]at c1
   .refine YJ kZ ?_
    have hs:=Sn;exact zW
   rw[Db];have har:=Am _ hfa.1;have hlits:=C0 _ hfa.1 (!b);have hcl:=D9 _ har (!b);have hall:=iF _ har (by omega) (!b);have hp2:2 ^ lv (BK p m).fact<=2 ^ 12:=Nat.pow_le_pow_right (by omega) hfa.2;have hn':=hfa.2;simp only[BG,A7,CF]at hmm;have hm2:ms[((at_:Nat):Int).toNat]? =some m:=by rw[FZ];exact hm
   have hb2:bs[((at_:Nat):Int).toNat]? =some b:=by rw[FZ];exact hb
   clear hfa har;refine Pure.of ?_;generalize hV:((BC (BK p m).fact (!b)).any fun c=>JY (Ly p op cs) ((Pg ((VL p ms).zip bs)).drop (at_+1)) (l++c))=R;generalize BK p m=x at *;refine YJ kZ ?_;have hs:=Sn
   conv=>whnf
   repeat'((first|clear U K|apply st|(apply zk;intro K U)|refine zY ?_|refine zC ?_|(refine zb (fun hc=>?_) (fun hc=>?_)<;>try exact⟨⟩)|fail)<;>conv=>whnf)
   all_goals try(exfalso;simp at hc;omega)
   refine hall.use (rest:=[]) (by simpa using hs) ?_;clear hs;rintro r post Z ⟨v,rfl,rfl⟩ hs;generalize BC x.fact (!b)=css at *;refine zz ?_;(repeat clear U K);repeat intro K U
   refine Ba css.length (fun k (_:Unit)=>[(37,eI (Au k))]) (fun _ _=>[.own v 1 (lG css)]) (fun k _=>R=(css.drop k).any fun c=>JY (Ly p op cs) ((Pg ((VL p ms).zip bs)).drop (at_+1)) (l++c)) () rfl hV.symm hs ?_;clear hs hV;rintro k - Z hk hR hs;rcases Aw css hk with⟨c,hck,hlt⟩|hke
   .rw[drop_cons hck,Oj]at hR
    have hcm:=BY hck;have hcl2:=hcl.2 c hcm;have c2:=ih (at_+1) (l++c) (by omega) (fun y hy=>(Du.1 hy).elim (hl y) (hlits c hcm y)) (by rw[Kt];omega);generalize JY (Ly p op cs) ((Pg ((VL p ms).zip bs)).drop (at_+1)) (l++c)=B at *;have hwi:IntKind.i64.wrap ((at_:Int)+1)=((at_+1:Nat):Int):=by rw[wrap64 (by omega) (by omega)];omega
    rw[<-hwi]at c2;cases B
    all_goals
     refine zz ?_;(repeat clear U K);repeat intro K U
     refine EH (CM hs 6) 0 (xs:=([]:List Fact)) (ys:=l) (enc:=EY) rfl (by simp only[List.length_nil];omega) GD fun v' Z hs=>?_
     refine zz ?_;(repeat clear U K);repeat intro K U
     refine EH hs 0 (xs:=[]++l) (ys:=c) (enc:=EY) rfl (by simp only[List.nil_append];omega) GD fun v' Z hs=>?_
     rw[List.nil_append]at hs
     conv=>whnf
     repeat'((first|apply st|refine zY ?_|refine rk ?_ ?_|exact fun s e=>by cases e;rfl|fail)<;>conv=>whnf)
     refine Pure.LO c2 (.cons (.refl _) (.cons (hs.Ic 0 rfl) (.cons (.refl _) (.cons (.refl _) .nil)))) rfl ?_;refine zz ?_;(repeat clear U K);repeat intro K U
    .exact⟨hlt,(),rfl,by rw[hR];rfl,hs.less (HU _ _)⟩
    .exact AH (by rw[hR];rfl)
   .rw[Ad hke]at hR
    refine zz ?_;(repeat clear U K);repeat intro K U
    all_goals exact AH (by rw[hR];rfl)
def gL:Dp (fun b:Bool=>[V.b b]) 1:=fun x=>⟨rfl,fun v hv=>by rw[JT.1 hv];rfl⟩
abbrev Ow (p:Prog) (ms:List Int) (op:Bool) (cs:List Int):List Bool->Bool:=Tn (Ly p op cs) (VL p ms)
def bG (p:Prog) (ms:List Int) (op:Bool) (cs:List Int) (g:Bool) (T:List (List Bool)) (h:eK p ms op cs) (bs:List Bool) (hbs:bs.length<=ms.length) (fb:Bool) :
    Pure zP 176 [.a (oy p ms op cs g T),.l [] true,eI 0,.l (bL bs) fb] (.b (Ow p ms op cs bs)):=by
 have:=wx p ms op cs g T h bs hbs fb bs.length 0 [] (by omega) (fun x hx=>by cases hx) (by simp);exact Pure.arg this (.cons (.refl _) (.cons (.l (fun h=>by cases h) .nil) (.cons (.refl _) (.cons (.refl _) .nil))))
def mO (p : Prog) (ms:List Int) (op:Bool) (cs:List Int) (g:Bool) (T:List (List Bool)) (h:eK p ms op cs): ∀(d:Nat) (bs:List Bool) (fb:Bool),bs.length+d=ms.length->
    BL zP 112 [.a (oy p ms op cs g T),.l (bL bs) fb] [] fun r post=> ∃v,r= .ret v/\post= [.own v 1 (EF ((E9 (Ow p ms op cs) d bs).map (Cr ms)))]:=by
 have hM:=Mx;have hfew:=h.ox;intro d
 induction d with
 | zero=>
   intro bs fb hbd Z hs;have ebl:((bL bs).length:Int)=bs.length:=by simp
   have eml:((iL ms).length:Int)=ms.length:=by simp
   have c1:=bG p ms op cs g T h bs (by omega) fb;rw[E9];cases hB:Ow p ms op cs bs<;>rw[hB]at c1
   .refine UA kZ ?_
    conv=>whnf
    repeat'((first|clear U K|apply st|(apply zk;intro K U)|refine zY ?_|refine zC ?_|fail)<;>conv=>whnf)
    exact AH ⟨_,⟨_,rfl,rfl⟩,Ce hs 1⟩
   .refine UA kZ ?_
    conv=>whnf
    repeat'((first|clear U K|apply st|(apply zk;intro K U)|refine zY ?_|refine zC ?_|(refine zb (fun hc=>?_) (fun hc=>?_)<;>try exact⟨⟩)|fail)<;>conv=>whnf)
    all_goals try(exfalso;simp at hc;omega)
    refine Ba bs.length (fun k v=>[(5,v),(21,eI (Au k))]) (fun k v=>[.own v 1 (iL (Cr ms (bs.take k)))]) (fun _ _=>True) (.l [] true) rfl trivial (by simpa[Cr]using Ce hs 1) ?_;clear hs;rintro k v Z hk - hs;have hal:=RF ms (bs.take k);rw[Ib]at hal;rcases Aw bs hk with⟨b,hb,hlt⟩|hke
    .have hck:Au k=k:=AW (by omega)
     obtain⟨m,hm⟩: ∃m,ms[k]? =some m:=⟨_,CQ (by omega)⟩
     have hst:=OZ hm hb;have hm2:ms[(Au k).toNat]? =some m:=by rw[hck,FZ];exact hm
     generalize Cr ms (bs.take k)=zl at *;have hll:zl.length<AZ/\(zl.length+1)*8<=140737488355328:=by omega
     cases b
     .rw[if_neg (by decide),EU]at hst
      refine zz ?_;(repeat clear U K);repeat intro K U
      exact⟨hlt,_,rfl,trivial,by rw[hst];exact hs⟩
     .rw[if_pos rfl]at hst
      conv=>whnf
      repeat'((first|clear U K|apply st|(apply zk;intro K U)|refine zY ?_|refine aq fun v Z hs hsl=>?_|fail)<;>conv=>whnf)
      exact⟨hlt,_,rfl,trivial,by rw[hst];exact hs⟩
    .rw[List.take_of_length_le (Nat.le_of_eq hke.symm)]at hs
     conv=>whnf
     repeat'((first|(refine dz ?_;intro K U)|(apply si;intro A B hA hB)|(refine hA _ _ ?_;clear hB B hA A)|(apply U;clear U K)|refine⟨rfl,?_⟩|fail)<;>conv=>whnf)
     refine fI hs 0 rfl (fun Z2 h=> .cons (.refl _) (.cons h (.cons (.refl _) (.cons (.refl _) (.cons (.refl _) (.cons (.refl _) .nil)))))) fun Z hs=>?_
     refine zz ?_;(repeat clear U K);repeat intro K U
     exact MR hs (.refl _ _ _) (by simp)
 | succ d ih=>
   intro bs fb hbd Z hs;have ebl:((bL bs).length:Int)=bs.length:=by simp
   have eml:((iL ms).length:Int)=ms.length:=by simp
   have c1:=bG p ms op cs g T h bs (by omega) fb;rw[E9];cases hB:Ow p ms op cs bs<;>rw[hB]at c1
   .refine UA kZ ?_
    conv=>whnf
    repeat'((first|clear U K|apply st|(apply zk;intro K U)|refine zY ?_|refine zC ?_|fail)<;>conv=>whnf)
    exact AH ⟨_,⟨_,rfl,rfl⟩,Ce hs 1⟩
   .have i1:=ih (bs++[false]) false (by simp;omega)
    have i2:=ih (bs++[true]) false (by simp;omega);have n1:=Fl (E:=Ow p ms op cs) d (bs++[false]);have n2:=Fl (E:=Ow p ms op cs) d (bs++[true]);have hd8:2 ^ d<=2 ^ 8:=Nat.pow_le_pow_right (by omega) (by omega);rw[if_pos rfl,ND];generalize E9 (Ow p ms op cs) d (bs++[false])=A1 at *;generalize E9 (Ow p ms op cs) d (bs++[true])=A2 at *;refine UA kZ ?_
    conv=>whnf
    repeat'((first|clear U K|apply st|(apply zk;intro K U)|refine zY ?_|refine zC ?_|(refine zb (fun hc=>?_) (fun hc=>?_)<;>try exact⟨⟩)|fail)<;>conv=>whnf)
    all_goals try(exfalso;simp at hc;omega)
    refine EH (CM hs 1) 0 (xs:=([]:List Bool)) (ys:=bs) (enc:=fun b:Bool=>[V.b b]) rfl (by simp only[List.length_nil];omega) gL fun v' Z hs=>?_
    rw[List.nil_append]at hs
    conv=>whnf
    repeat'((first|apply st|refine zY ?_|refine rk ?_ ?_|exact fun s e=>by cases e;rfl|refine aq fun v Z hs hsl=>?_|fail)<;>conv=>whnf)
    obtain⟨Z2,g1,g2,g3⟩:=Gb hs 0 rfl;refine As.OH (i1.use (rest:=[]) g3 ?_) g1 (.cons (.refl _) (.cons g2 .nil));clear hs g1 g2 g3;rintro r post Z ⟨v8,rfl,rfl⟩ hs;refine zz ?_;(repeat clear U K);repeat intro K U
    refine EH (CM hs 1) 0 (xs:=([]:List Bool)) (ys:=bs) (enc:=fun b:Bool=>[V.b b]) rfl (by simp only[List.length_nil];omega) gL fun v' Z hs=>?_
    rw[List.nil_append]at hs
    conv=>whnf
    repeat'((first|apply st|refine zY ?_|refine rk ?_ ?_|exact fun s e=>by cases e;rfl|refine aq fun v Z hs hsl=>?_|fail)<;>conv=>whnf)
    obtain⟨Z2,g1,g2,g3⟩:=Gb hs 0 rfl;refine As.OH (i2.use (rest:=[_]) g3 ?_) g1 (.cons (.refl _) (.cons g2 .nil));clear hs g1 g2 g3;rintro r post Z ⟨v9,rfl,rfl⟩ hs;refine zz ?_;(repeat clear U K);repeat intro K U
    refine PJ hs 1 0 rfl rfl (by simp only[Bh];omega) (by simp) (by simp[DL]) fun v' Z hs=>?_
    refine zz ?_;(repeat clear U K);repeat intro K U
    exact AH ⟨_,⟨_,rfl,rfl⟩,by simpa[ND]using hs.less (HU _ _)⟩
def p5 {p:Prog} {gen:Int} (h:GZ p gen true=0):B9 p gen=true/\(Bo p gen).length<=8:=by
 cases h1:B9 p gen
 .rw[(DA h1 true).2]at h;cases h
 .rw[(C6 h1).2]at h
  by_cases h8:(Bo p gen).length<=8
  .exact⟨rfl,h8⟩
  .rw[if_neg h8]at h;cases h
structure tbG (T:List (List Bool)) (p:Prog) (ms:List Int):Prop where
 ok:JX T ms
 eq: ∀x∈ms,∀y∈ms,Dk p x y=true->Dl T x y=Az p x y
def PN (p:Prog) (gen:Int) (op:Bool) (cs:List Int) (g:Bool) (T:List (List Bool)) (h:eK p (Bo p gen) op cs) (hT:tbG T p (Bo p gen)):Pure zP 57 [.a (oy p (Bo p gen) op cs g T)] (.l ((Dm p gen (Ly p op cs)).map O2) false):=by
 have hM:=Mx;have hfew:=h.ox;have h161:=mO p (Bo p gen) op cs g T h (Bo p gen).length [] true (by simp)
 have hsub: ∀l∈(E9 (Ow p (Bo p gen) op cs) (Bo p gen).length []).map (Cr (Bo p gen)),l.Sublist (Bo p gen):=fun l hl=>by
  obtain⟨bs,-,rfl⟩:=GL.1 hl;exact I0 _ _
 have hlen:((E9 (Ow p (Bo p gen) op cs) (Bo p gen).length []).map (Cr (Bo p gen))).length<=256:=by
  rw[Bh];exact Nat.le_trans (Fl _ _) (Nat.le_trans (Nat.pow_le_pow_right (by omega) hfew) (by decide))
 have hv:(Dm p gen (Ly p op cs))=((E9 (Ow p (Bo p gen) op cs) (Bo p gen).length []).map (Cr (Bo p gen))).map fun l=>(l,NG p l):=by
  rw[Dm,qG];rfl
 rw[hv];clear hv;generalize (E9 (Ow p (Bo p gen) op cs) (Bo p gen).length []).map (Cr (Bo p gen))=L at *;have h16:=h.ok.many;have eL:((EF L).length:Int)=L.length:=by simp
 refine zI kZ ?_;have hs:=Sn;refine zz ?_;(repeat clear U K);repeat intro K U
 refine h161.use (rest:=[]) (by simpa using hs) ?_;clear hs;rintro r post Z ⟨v7,rfl,rfl⟩ hs;refine zz ?_;(repeat clear U K);repeat intro K U
 refine Ba L.length (fun k v=>[(3,v),(9,eI (Au k))]) (fun k v=>[.own v7 1 (EF L),.own v 2 (((L.take k).map fun l=>(l,NG p l)).map O2)]) (fun _ _=>True) (.l [] true) rfl trivial (Ce hs 2) ?_;clear hs;rintro k v Z hk - hs;rcases Aw L hk with⟨l,hl,hlt⟩|hke
 .have hck:Au k=k:=AW (by omega)
  have hl3:L[(Au k).toNat]? =some l:=by rw[hck,FZ];exact hl
  have hl2:=hsub l (BY hl);have hG:=aG h.ok (Nr (O8 hl2));have c1:=iv p T l false hG h16 ⟨hT.ok.len,hT.ok.sq,fun x hx=>hT.ok.ins x (hl2.subset hx),Nat.le_trans hl2.length_le hT.ok.many⟩;rw[XH hG (fun x hx y hy=>hT.eq x (hl2.subset hx) y (hl2.subset hy)),<-NG]at c1;have hst:((L.take (k+1)).map fun l=>(l,NG p l))=((L.take k).map fun l=>(l,NG p l))++[(l,NG p l)]:=by rw[AO hl,ND];rfl
  have hal:((L.take k).map fun l=>(l,NG p l)).length<=256:=by rw[Bh,Ib];omega
  generalize ((L.take k).map fun l=>(l,NG p l))=zl at *;have hll:zl.length<AZ/\(zl.length+1)*32<=140737488355328:=by omega
  conv=>whnf
  repeat'((first|clear U K|apply st|(apply zk;intro K U)|refine zY ?_|refine c1.use ?_|refine aq (enc:=O2) (x:=(l,NG p l)) (fun v Z hs hsl=>?_) (hg:=aS)|fail)<;>conv=>whnf)
  exact⟨hlt,_,rfl,trivial,by rw[hst];exact hs⟩
 .rw[Ak hke]at hs
  refine zz ?_;(repeat clear U K);repeat intro K U
  exact AY (hs.Ic 1 rfl)
def Qi (p:Prog) (gen:Int) (h1:B9 p gen=true):BL zP 55 [.a (A3 p),eI gen] [] fun r post=>post= []/\ ∃T,r= .ret (.a (oy p (Bo p gen) false [] true T))/\tbG T p (Bo p gen):=by
 have hl:=h1;rw[B9,A7]at hl;have hok:=look_ok hl.1;have c1:=Wz p gen hok.many;have c2:Pure zP 27 [.a (A3 p)] (.a (Ax (AG p))):=Pure.fit (by kernel_rfl) fun hf=>O4 p (H6 hf.1) hok.pV hok.AL
 have hin: ∀x∈Bo p gen,BG p x=true:=fun m hm=>by
  have:=MQ p gen m;rw[List.contains_iff_mem.2 hm]at this;exact(zrH.1 this.symm).1
 have hln:(Bo p gen).length<=16:=Nat.le_trans (PL p gen _) hok.many;intro Z hs;refine zK kZ ?_
 conv=>whnf
 repeat'((first|clear U K|apply st|(apply zk;intro K U)|refine zY ?_|refine rk ?_ ?_|exact fun s e=>by cases e;rfl|refine zC ?_|refine zo fun nn hnn Z hs=>?_|fail)<;>conv=>whnf)
 refine(ko p (Bo p gen) false hok hln hin).use (rest:=_) hs ?_;clear hs;rintro r post Z ⟨rfl,T,rfl,hT,hq⟩ hs
 conv=>whnf
 repeat'((first|clear U K|apply st|refine zY ?_|refine rk ?_ ?_|exact fun s e=>by cases e;rfl|refine zs fun Z hs=>?_|fail)<;>conv=>whnf)
 exact AH ⟨[],⟨rfl,T,rfl,⟨hT,hq⟩⟩,Sat.nil⟩
def kz (p:Prog) (gen:Int) (h1:B9 p gen=true) (h8:(Bo p gen).length<=8):Pure zP 63 [.a (A3 p),eI gen] (.l ((Dm p gen (FC (AG p))).map O2) false):=by
 have hfn:=Iq h1 h8;have hb:=Qi p gen h1;refine Pure.of ?_;refine zD kZ ?_;have hs:=Sn;refine zz ?_;(repeat clear U K);repeat intro K U
 refine hb.use (rest:=_) hs ?_;clear hs;rintro r post Z ⟨rfl,T,rfl,hT⟩ hs;have c1:=PN p gen true [] true T ⟨hfn.ok,hfn.FH,h8,fun h=>by cases h⟩ hT
 conv=>whnf
 repeat'((first|clear U K|apply st|(apply zk;intro K U)|refine zY ?_|refine zs fun Z hs=>?_|refine zC ?_|refine zo fun nn hnn Z hs=>?_|fail)<;>conv=>whnf)
 all_goals exact AH (by rfl)
def ZI (p:Prog) (gen:Int) (cs:List Int) (f:Bool) (hcs:(∀c∈cs,1<=c/\c<3+((AG p).parents.length:Int))/\cs.length<=3) (h1:B9 p gen=true) (h8:(Bo p gen).length<=8):Pure zP 64 [.a (A3 p),eI gen,.l (iL cs) f] (.l ((Dm p gen (Kx (AG p) cs)).map O2) false):=by
 have hfn:=Iq h1 h8;have hb:=Qi p gen h1;refine Pure.of ?_;refine zB kZ ?_;have hs:=Sn;refine zz ?_;(repeat clear U K);repeat intro K U
 refine hb.use (rest:=_) hs ?_;clear hs;rintro r post Z ⟨rfl,T,rfl,hT⟩ hs;have c1:=PN p gen false cs f T ⟨hfn.ok,hfn.FH,h8,fun _=>hcs⟩ hT
 conv=>whnf
 repeat'((first|clear U K|apply st|(apply zk;intro K U)|refine zY ?_|refine zs fun Z hs=>?_|refine zC ?_|refine zo fun nn hnn Z hs=>?_|fail)<;>conv=>whnf)
 all_goals exact AH (by rfl)
def w8 (p:Prog) (gen:Int):Pure zP 61 [.a (A3 p),eI gen] (eI (GZ p gen true)):=by
 have c1:=iW p gen;cases h1:B9 p gen<;>rw[h1]at c1
 .rw[if_neg (by decide)]at c1
  rw[(DA h1 true).2];refine pj kZ ?_;have hs:=Sn;exact zW
 .have hl:=h1
  rw[B9,A7]at hl;have c2:=pU p gen (look_ok hl.1).many;rw[if_pos rfl]at c1;rw[(C6 h1).2];refine pj kZ ?_;have hs:=Sn;exact zW
def mS (xs:List (List Int×Int)) (hxl:xs.length<=256) (f g:Bool):Pure zP 37 [.l (xs.map O2) f,.l (xs.map O2) g] (.b true):=by
 have hM:=Mx;refine Pure.of ?_;refine zf kZ ?_;have hs:=Sn
 conv=>whnf
 repeat'((first|clear U K|apply st|(apply zk;intro K U)|refine zY ?_|(refine zb (fun hc=>?_) (fun hc=>?_)<;>try exact⟨⟩)|fail)<;>conv=>whnf)
 all_goals try(exfalso;simp at hc;done)
 refine Ba xs.length (fun k (_:Unit)=>[(13,eI (Au k))]) (fun _ _=>[]) (fun _ _=>True) () rfl trivial hs ?_;clear hs;rintro k - Z hk - hs;rcases Aw xs hk with⟨x,hx,hlt⟩|hke
 .have c1:=Ep x.1 x.1 false false
  rw[beq_self_eq_true]at c1;have hck:Au k=k:=AW (by omega)
  conv=>whnf
  repeat'((first|clear U K|apply st|(apply zk;intro K U)|refine zY ?_|refine zC ?_|(refine zb (fun hc=>?_) (fun hc=>?_)<;>try exact⟨⟩)|fail)<;>conv=>whnf)
  all_goals first
   | exact⟨hlt,(),rfl,trivial,hs⟩
   | (exfalso;omega)
 .refine zz ?_;(repeat clear U K);repeat intro K U
  all_goals exact AH (by rfl)
def Kf {p:Prog} {gen:Int} {tog:List Fact->Bool} (h8:(Bo p gen).length<=8):(Dm p gen tog).length<=256:=by
 rw[Dm,Bh];exact Nat.le_trans (Fl _ _) (Nat.le_trans (Nat.pow_le_pow_right (by omega) h8) (by decide))
end Go.Gl
namespace Go.Gl
open Go.Proofs
def pB {p:Prog} {gen:Int} {togX togR:List Fact->Bool} {OK:(Int->JB)->Prop} (hX: ∀l,(∀x∈l,C1 (AG p) x)->(togX l=true↔ ∃M,OK M/\ ∀x∈l,Eh (AG p) M x))
    (hR: ∀l,(∀x∈l,C1 (AG p) x)->(togR l=true↔ ∃M,OK M/\ ∀x∈l,Eh (AG p) M x)) (hn: ∀f∈Nf p gen,An (AG p) f=true) :
    ((GN p togX (Bo p gen)).map fun s=>(DW (Bo p gen) s,NG p (DW (Bo p gen) s)))=Dm p gen togR:=by
 have hE: ∀l,C9 togX (FD p (Bo p gen)) l=Tn togR (Nf p gen) l:=fun l=>by
  rw[KF];exact(Kq hX hn l).trans (IJ hR hn l).symm
 obtain⟨h1,-⟩:=P1 (so:=fun s n=>C9 togX (FD p (Bo p gen)) (Bq s n)) (E:=C9 togX (FD p (Bo p gen))) (Bo p gen).length 0 0 (by decide) (fun s n _=>rfl);rw[G7,I3 hE]at h1;rw[Dm,show([]:List Bool)=Bq 0 0 from rfl,<-h1,qG];rfl
def OL (xs:List (List Int×Int)):Bool:=xs.all fun x=>x.2==1
section
variable {g:FuncId} {fi ca:List V} {p:Prog} {gen:Int} {ms:List Int} {tog:List Fact->Bool}
abbrev Pa (q:Nat->Bool) (y:Nat) (_:Bool):Bool×Bool:=(q y,!q y)
def YP (q:Nat->Bool): ∀l:List Nat,By (Pa q) l false=(l.all q,!l.all q)
 | []=>rfl
 | y::r=>by
   rw[By,Jd];cases hq:q y
   .simp[Pa,hq]
   .simpa[Pa,hq]using YP q r
def fC (q:Nat->Bool) {Q:Nat->Prop}: ∀l:List Nat,(∀y∈l,Q y)->Om (Pa q) (fun y s=>Q y/\s=false) l false
 | [],_=>trivial
 | y::r,h=>⟨⟨h y (.head _),rfl⟩,fun hy=>by
   have hq:q y=true:=hy;have:=fC q r fun z hz=>h z (.tail _ hz)
   simpa[Pa,hq]using this⟩
attribute [local irreducible] As Af AV AQ AI AU AP AR AJ AT AM AN Ag Ar Sat AS Ap AX W
def oA (h:Ot p ms) (hcan:Pj g fi ca (AG p) tog) {stE:List Int->Int} (hst: ∀s∈GN p tog ms,Pure zP 51 [.a (Rr p gen ms),.l (iL (DW ms s)) false] (eI (stE (DW ms s)))) :
    Pure zP 60 [.a (Rr p gen ms),VG g fi ca p gen ms] (.b ((GN p tog ms).all fun s=>stE (DW ms s)==1)):=by
 have hM:=Mx;have hfew:=h.ox;refine Pure.of ?_;refine zF kZ ?_;have hs:=Sn
 conv=>whnf
 repeat'((first|clear U K|apply st|(apply zk;intro K U)|refine zo fun nn hnn Z hs=>?_|fail)<;>conv=>whnf)
 rename_i _ n4 hn4 _ _;obtain⟨hgl,hgm⟩:=QX (p:=p) (tog:=tog) hfew;refine As.mono (YF h hcan (hs:=hs) (stp:=Pa fun y=>stE (DW ms y)==1) (D:=fun y s=>y∈GN p tog ms/\s=false) (fun nS nW=>Iu (HB:=fun(_:Bool) l=>l= [.box n4 [.b false]]) (fun s=>if s then .ret else .ready) rfl (fun _ s h=>by rw[h.2];rfl) ?_) false (fC _ _ (fun _ h=>h)) ⟨_,rfl,rfl⟩) ?_
 .clear hs hnn hn4
  rintro y s ⟨hy,rfl⟩ _ rfl Z hs;have hy64:y<18446744073709551616:=Nat.lt_of_lt_of_le (hgm y hy) (Nat.le_trans (Nat.pow_le_pow_right (by omega) hfew) (by decide));have hl1:=Ub (p:=p) (gen:=gen) hfew hy64;have hst:=hst y hy;cases he:(stE (DW ms y)==1)
  .simp only[he,Bool.not_false,if_true]
   have hne:stE (DW ms y)≠1:=by simpa using he
   conv=>whnf
   repeat'((first|clear U K|apply st|(apply zk;intro K U)|refine zY ?_|refine rk ?_ ?_|exact fun s e=>by cases e;rfl|refine zs fun Z hs=>?_|refine hl1.use ?_|refine hst.use ?_|(refine zb (fun hc=>?_) (fun hc=>?_)<;>try exact⟨⟩)|fail)<;>conv=>whnf)
   intro hn;exact⟨rfl,_,rfl,hs.R8 hn⟩
  .simp only[he,Bool.not_true,Jc,if_false]
   have heq:stE (DW ms y)=1:=by simpa using he
   conv=>whnf
   repeat'((first|clear U K|apply st|(apply zk;intro K U)|refine zY ?_|refine rk ?_ ?_|exact fun s e=>by cases e;rfl|refine hl1.use ?_|refine hst.use ?_|(refine zb (fun hc=>?_) (fun hc=>?_)<;>try exact⟨⟩)|fail)<;>conv=>whnf)
   intro hn;exact⟨rfl,_,rfl,hs.R8 hn⟩
 .clear hs hnn hn4
  rw[YP];cases hA:(GN p tog ms).all fun s=>stE (DW ms s)==1
  .rintro r Z ⟨rfl,_,⟨_,rfl,rfl⟩,hs⟩
   refine cG hs fun Z hs=>?_
   refine zz ?_;(repeat clear U K);repeat intro K U
   first|exact AH (by rw[hA];rfl)|exact AH (by rfl)
  .rintro r Z ⟨rfl,_,⟨_,rfl,rfl⟩,hs⟩
   refine Gn hs fun Z hs=>?_
   conv=>whnf
   repeat'((first|clear U K|apply st|(apply zk;intro K U)|refine zY ?_|refine zs fun Z hs=>?_|fail)<;>conv=>whnf)
   first|exact AH (by rw[hA];rfl)|exact AH (by rfl)
end
def gP {p:Prog} {gen:Int} {g:FuncId} {fi ca:List V} {togX togR:List Fact->Bool} {OK:(Int->JB)->Prop} (hX: ∀l,(∀x∈l,C1 (AG p) x)->(togX l=true↔ ∃M,OK M/\ ∀x∈l,Eh (AG p) M x))
    (hR: ∀l,(∀x∈l,C1 (AG p) x)->(togR l=true↔ ∃M,OK M/\ ∀x∈l,Eh (AG p) M x)) (h1:B9 p gen=true) (h8:(Bo p gen).length<=8) (hcan:Pj g fi ca (AG p) togX) :
    Pure zP 60 [.a (On p gen),VG g fi ca p gen (Bo p gen)] (.b (OL (Dm p gen togR))):=by
 have hfn:=Iq h1 h8;have:=oA (gen:=gen) hfn hcan (stE:=NG p) (fun s _=>Tu p gen _ false h1 (O8 (I0 _ _)));rw[OL,<-pB hX hR (IU hfn),List.all_map];exact this
attribute [local irreducible] As Af AV AQ AI AU AP AR AJ AT AM AN Ag Ar Sat AS Ap AX W
abbrev bV (p:Prog) (gen:Int):V:=if GZ p gen true=0 then .t [.b (OL (Dm p gen (FC (AG p)))),.b (OL (Dm p gen (Kx (AG p) []))),eI 0]else .t [.b false,.b false,eI (GZ p gen true)]
def xI (p:Prog) (gen:Int):Pure zP 18 [.a (A3 p),eI gen] (bV p gen):=by
 have c1:=Jy p gen 32 [] true (fun _=>X1 _);rw[bV];cases h1:B9 p gen
 .rw[(DA h1 true).1,(DA h1 true).2]at c1
  rw[(DA h1 true).2,if_neg (by decide)];refine fQ kZ ?_;have hs:=Sn;exact zW
 rw[(C6 h1).1,(C6 h1).2]at c1;rw[(C6 h1).2];by_cases h8:(Bo p gen).length<=8
 .have hl:=h1
  rw[B9,A7]at hl;have hw:=(look_ok hl.1).dw;have c2:=WH (gen:=gen) (ms:=Bo p gen) hl.1;have c3:=Tv (gen:=gen) (ms:=Bo p gen) hl.1 [] true;have c4:=gP (fun l hl=>Vy hw fun x hx=>Dr (hl x hx)) (pc hw) h1 h8 (St _ (Jr hl.1));have c5:=gP (fun l hl=>Gj hw fun x hx=>Dr (hl x hx)) (Pr hw MK) h1 h8 (MH _ (Jr hl.1) [] true (by decide));rw[if_pos h8]at c1 ⊢;rw[if_pos rfl];refine fQ kZ ?_;have hs:=Sn
  conv=>whnf
  repeat'((first|clear U K|apply st|(apply zk;intro K U)|refine zY ?_|refine rk ?_ ?_|exact fun s e=>by cases e;rfl|refine zs fun Z hs=>?_|refine zC ?_|(refine zb (fun hc=>?_) (fun hc=>?_)<;>try exact⟨⟩)|refine zo fun nn hnn Z hs=>?_|fail)<;>conv=>whnf)
  all_goals exact AF rfl
 .rw[if_neg h8]at c1 ⊢
  rw[if_neg (by decide)];refine fQ kZ ?_;have hs:=Sn;exact zW
end Go.Gl
namespace Go.Gl
open Go.Proofs
def rM (p:Prog) (l:List Int):NG p l=1\/NG p l=2\/NG p l=3\/NG p l=4:=by
 rw[NG,xd];split
 .split
  .simp
  .split<;>simp
 .simp
def Hy (xs:List (List Int×Int)) (st0:Int):Bool:=xs.any fun x=>x.2==st0
def dO {p:Prog} {xs:List (List Int×Int)} (h: ∀x∈xs,x.2=NG p x.1):(!Hy xs 2&&(!Hy xs 3&& !Hy xs 4))=OL xs:=by
 induction xs with
 | nil=>rfl
 | cons x r ih=>
   have i:=ih fun y hy=>h y (.tail _ hy)
   have hx:=h x (.head _);rw[OL,Jd,<-OL,<-i];simp only[Hy,Oj,Bool.not_or];rcases rM p x.1 with e|e|e|e<;>rw[hx,e]<;>simp
def V4 {p:Prog} {gen:Int} {tog:List Fact->Bool}: ∀x∈Dm p gen tog,x.2=NG p x.1:=fun x hx=>by
 rw[Dm,GL]at hx;obtain⟨bs,-,rfl⟩:=hx;rfl
attribute [local irreducible] As Af AV AQ AI AU AP AR AJ AT AM AN Ag Ar Sat AS Ap AX W
def P5 (xs:List (List Int×Int)) (hxl:xs.length<=256) (f:Bool) (st0:Int):Pure zP 56 [.l (xs.map O2) f,eI st0] (.b (Hy xs st0)):=by
 have hM:=Mx;refine Pure.of ?_;refine zJ kZ ?_;have hs:=Sn;refine zz ?_;(repeat clear U K);repeat intro K U
 refine Ba xs.length (fun k (_:Unit)=>[(9,eI (Au k))]) (fun _ _=>[]) (fun k _=>Hy xs st0=Hy (xs.drop k) st0) () rfl rfl hs ?_;clear hs;rintro k - Z hk hR hs;have hck:Au k=k:=AW (by omega);rcases Aw xs hk with⟨x,hx,hlt⟩|hke
 .rw[drop_cons hx,Hy,Hy,Oj,<-Hy,<-Hy]at hR
  cases hq:(x.2==st0)
  .have hne:x.2≠st0:=by simpa using hq
   rw[hq,Bool.false_or]at hR
   conv=>whnf
   repeat'((first|clear U K|apply st|(apply zk;intro K U)|refine zY ?_|refine zs fun Z hs=>?_|(refine zb (fun hc=>?_) (fun hc=>?_)<;>try exact⟨⟩)|refine zo fun nn hnn Z hs=>?_|fail)<;>conv=>whnf)
   exact⟨hlt,(),rfl,hR,hs.less (Ie _)⟩
  .have heq:x.2=st0:=by simpa using hq
   rw[hq,Bool.true_or]at hR
   conv=>whnf
   repeat'((first|clear U K|apply st|(apply zk;intro K U)|refine zY ?_|refine zs fun Z hs=>?_|(refine zb (fun hc=>?_) (fun hc=>?_)<;>try exact⟨⟩)|refine zo fun nn hnn Z hs=>?_|fail)<;>conv=>whnf)
   exact AH (by rw[hR])
 .rw[Ad hke]at hR
  refine zz ?_;(repeat clear U K);repeat intro K U
  all_goals exact AH (by rw[hR];rfl)
def ah {p:Prog} (xs:List (List Int×Int)) (hxl:xs.length<=256) (h: ∀x∈xs,x.2=NG p x.1) (f:Bool):Pure zP 62 [.l (xs.map O2) f] (.b (OL xs)):=by
 have c2:=P5 xs hxl f 2;have c3:=P5 xs hxl f 3;have c4:=P5 xs hxl f 4;rw[<-dO h];cases h2:Hy xs 2<;>cases h3:Hy xs 3<;>cases h4:Hy xs 4<;>rw[h2]at c2<;>rw[h3]at c3<;>rw[h4]at c4
 all_goals
  refine zE kZ ?_;have hs:=Sn;exact zW
def xH (p:Prog) (gen:Int):Pure zP 19 [.a (A3 p),eI gen] (bV p gen):=by
 have c1:=w8 p gen;rw[bV];by_cases h0:GZ p gen true=0
 .rw[h0]at c1 ⊢
  have⟨h1,h8⟩:=p5 h0;have c2:=kz p gen h1 h8;have c3:=ZI p gen [] true ⟨MK,by decide⟩ h1 h8;have c4:=ah (p:=p) _ (Kf (tog:=FC (AG p)) h8) V4 false;have c5:=ah (p:=p) _ (Kf (tog:=Kx (AG p) []) h8) V4 false;rw[if_pos rfl];refine px kZ ?_;have hs:=Sn
  conv=>whnf
  repeat'((first|clear U K|apply st|(apply zk;intro K U)|refine zY ?_|refine rk ?_ ?_|exact fun s e=>by cases e;rfl|refine zC ?_|(refine zb (fun hc=>?_) (fun hc=>?_)<;>try exact⟨⟩)|fail)<;>conv=>whnf)
  all_goals exact AF rfl
 .rw[if_neg h0]
  refine px kZ ?_;have hs:=Sn;exact zW
end Go.Gl
