import Derived.Test.YtcfkfhaedllcpaaGreatV14
import Derived.Test.YtcfkfhaedllcpaaGreatV22
import Derived.Test.YtcfkfhaedllcpaaGreatV24
import Derived.Test.YtcfkfhaedllcpaaGreatV26
import Derived.Test.YtcfkfhaedllcpaaGreatV28
import Derived.Test.YtcfkfhaedllcpaaGreatV31
set_option linter.all false
set_option linter.defProp false
set_option maxHeartbeats 8000000
noncomputable section
namespace Go.Gl
open Go.Proofs
attribute [local irreducible] A6 Ar Ah AR AI Ae AQ AT AK Ad AN AO Ay A7 Sat AY A5 Ai W
def m7 (l:List Int) (f kd:Bool):Pure zP 98 [.pn,.l (iL l) f,.b kd] (.b false):=by
 have c1:=sV l f;refine fZ kZ ?_;have hs:=Sn;exact zW
def iz {M:List Int} {x:Int} (h:M.contains x=false):PC M x=M++[x]:=by
 rw[PC,if_neg (by rw[h];decide)]
def sF (p : Prog) (L:Nat) (l:List Int) (f kd:Bool) (hl:l.length<=1000):Pure zP 98 [TI p L,.l (iL l) f,.b kd] (.b (Ed p l kd)):=by
 refine Pure.fit (by kernel_rfl) fun hf=>?_
 have hM:=Mx;have c1:=yS p L l f;cases hm:l.all (BQ p)<;>rw[hm]at c1
 .have hb:Ed p l kd=false:=by
   rw[<-Bool.not_eq_true];intro h;rw[Ed,BD,Er]at h;rw[<-Bool.not_eq_true,Er]at hm;refine hm fun x hx=>?_
   have:=h.1 x hx;simp only[bP,BD]at this;exact this.1
  refine fZ kZ ?_;have hs:=Sn
  conv=>whnf
  repeat'((first|clear U K|apply st|(apply zk;intro K U)|refine zY ?_|refine zC ?_|fail)<;>conv=>whnf)
  all_goals exact AF (by rw[hb])
 rw[Er]at hm;refine fZ kZ ?_;have hs:=Sn
 conv=>whnf
 repeat'((first|clear U K|apply st|(apply zk;intro K U)|refine zY ?_|refine zC ?_|refine zo fun nn hnn Z hs=>?_|fail)<;>conv=>whnf)
 clear c1;replace hs:Sat Z [.map nn (TJ [])]:=hs;refine By l.length (fun i (_:Unit)=>[(17,eI (A9 i))]) (fun i _=>[.map nn (TJ (l.take i))]) (fun i _=>(∀k y,k<i->l[k]? =some y->bP p l kd y=true)/\(l.take i).Nodup) () rfl ⟨fun k y h=>by omega,by simp⟩ hs ?_;clear hs;rintro i - Z hi ⟨ho,hn⟩ hs;rcases A3 l hi with⟨x,hx,hlt⟩|hie
 .have hci : A9 i=i:=AM (by omega)
  obtain⟨z,hz⟩: ∃z,l[0]? =some z:=⟨_,Cw (by omega)⟩
  have hz0:=B6 hz;have hmx:=hm x (Bz hx);have hmz:=hm z (Bz hz);have hbad:=fun h=>Sc (p:=p) (kd:=kd) hx h
  rw[bP,hz0]at hbad;have hxP:=CA hmx;have hzP:=CA hmz;have c2:=oh p L x z hmx hmz;have hxr:=hmx;have hzr:=hmz;simp only[BQ,BD,CD]at hxr hzr;cases hcon:(l.take i).contains x
  .have hne : ∀k y,k<i->l[k]? =some y->y≠x:=fun k y h h2 e=>by
    rw[<-Bool.not_eq_true,List.contains_iff_mem]at hcon;exact hcon (Bz (i:=k) (by rw[List.getElem?_take,if_pos h,h2,e]))
   have hnd:=QY hx hn hne;have hput:=iz hcon;rw[<-AL hx]at hput;by_cases hg:(Bf p x).gen=(Bf p z).gen
   .have hoxF:(!kd||DH p x z)=true->bP p l kd x=true:=fun h=>by rw[bP,hz0,hmx,hg,h];simp
    cases hal:DH p x z<;>rw[hal]at c2 hoxF<;>cases kd
    all_goals
     conv=>whnf
     repeat'((first|clear U K|apply st|(apply zk;intro K U)|refine zY ?_|refine c2.use ?_|(refine Jt hs 0 rfl rfl (Hm _) ?_;rw[MP,hcon])|(refine Js hs 0 rfl rfl (Hm _) fun Z hs=>?_)|(refine zb (fun hc=>?_) (fun hc=>?_)<;>try exact⟨⟩)|fail)<;>conv=>whnf)
    all_goals first
     | exact AF (by rw[hbad (by simp[hal,hg])])
     | (exfalso;simp[hg]at hc;done)
     | (have hox:=hoxF rfl
        refine⟨hlt,(),rfl,⟨fun k' y' h h2=>?_,hnd⟩,?_⟩
        .rcases Nat.lt_or_ge k' i with h'|h'
         .exact ho k' y' h' h2
         .rw[show k'=i by omega,hx]at h2
          rw[<-Option.some.inj h2];exact hox
        .replace hs:Sat Z [.map nn (Da (eI x) (.b true) (TJ (l.take i)))]:=hs
         rw[Z5,hput]at hs
         exact hs)
   .conv=>whnf
    repeat'((first|clear U K|apply st|(apply zk;intro K U)|refine zY ?_|(refine Jt hs 0 rfl rfl (Hm _) ?_;rw[MP,hcon])|(refine zb (fun hc=>?_) (fun hc=>?_)<;>try exact⟨⟩)|fail)<;>conv=>whnf)
    all_goals first
     | exact AF (by rw[hbad (by simp[hg])])
     | (exfalso;have q:(Bf p x).gen=(Bf p z).gen:=(by assumption);exact hg q)
     | (exfalso;simp[hg]at hc;done)
  .obtain⟨k,hk⟩:=List.getElem?_of_mem (List.contains_iff_mem.1 hcon)
   rw[List.getElem?_take]at hk;split at hk
   .conv=>whnf
    repeat'((first|clear U K|apply st|(apply zk;intro K U)|refine zY ?_|(refine Jt hs 0 rfl rfl (Hm _) ?_;rw[MP,hcon])|fail)<;>conv=>whnf)
    all_goals exact AF (by rw[Sb hx hk (by assumption)])
   .cases hk
 .refine zz ?_;(repeat clear U K);repeat intro K U
  have hall:Ed p l kd=true:=by
   rw[Ed,BD,Er];refine⟨fun y hy=>?_,decide_eq_true (by rw[hie,List.take_length]at hn;exact hn)⟩;obtain⟨k,hk⟩:=List.getElem?_of_mem hy;exact ho k y (by rw[hie];exact(Ii.1 hk).1) hk
  exact AF (by rw[hall])
end Go.Gl
namespace Go.Gl
variable {P:Program} {Z:AE}
def w7 {L:Nat} {args:List V} {Q:R->AE->Prop} (h:Li P L args Z Q):Ay P (.f (.yield L) [] []) args Z Q:=h
def Wq {L:Nat} {E:Env} {ps:List Nat} {a b:AV} {args:List V} {l:List At} (hl:args.length=ps.length) (hs:Sat Z (.obj L (.loop .ready E (Bu P ps a b))::l)) {Q:R->AE->Prop}
    (h: ∀Z,Sat Z l->W P a (CY (W P b fun ex env' Z'=>Z' L=none->T1 L E (Bu P ps a b) Q ex env' Z')) (Ey ps args E) Z):Li P L args Z Q:=
 Qu (hs.get (i:=0) rfl) hl (h _ hs.del)
end Go.Gl
namespace Go.Gl
open Go.Proofs
attribute [local irreducible] A6 Ar Ah AR AI Ae AQ AT AK Ad AN AO Ay A7 Sat AY A5 Ai W
end Go.Gl
namespace Go.Gl
open Go.Proofs
inductive XT where
 | int (n:Int)
 | eM
 | obj (C:Nat->Bool) (kid:Int->XT)
def Le (w:AH):XT->Prop
 | .int n=> -1000000000<=n/\n<=1000000000
 | .eM=>True
 | .obj C kid=>(∀c,3<=c->C c=true-> ∀q∈par w.parents c,C q.toNat=true)/\ ∀s,Le w (kid s)
def JS (t:XT) (f:Fact):Bool:=match t with
 | .int n=>if f.op=2 then !decide (f.cls > 1)else if f.op=3 then decide (n<f.n)else decide (n=f.n)
 | .eM=>f.op==2&&(f.cls==0||f.cls==2)
 | .obj C _=>f.op==2&&(f.cls==0||(decide (3<=f.cls)&&C f.cls.toNat))
def Ut (w:AH):XT->List Int->Fact->Bool
 | t,[],f=>JS t f
 | .obj C kid,s::r,f=>C (Cp w s).toNat&&Ut w (kid s) r f
 | _,_::_,_=>false
structure I7 (w:AH) (l:Fact):Prop where
 op:(Av l).1.op=2\/(Av l).1.op=3\/(Av l).1.op=4
 cls:(Av l).1.op=2->0<=(Av l).1.cls/\(Av l).1.cls<3+w.parents.length
 arg:0<=(Av l).1.arg/\(Av l).1.arg<3
 path: ∀s∈(Av l).1.path,(0:Int)<=s/\s<w.owner.length
 short:(Av l).1.path.length<=2
def Z2 {w:AH} {l:Fact} (h:I8 w l):I7 w l:=by
 obtain⟨-,hn,hl⟩:=Hl h;have hlo:=F5 hl;have q:=Je (w:=w) (l:=[l]) (fun x hx=>by rw[LV.1 hx];exact h);rw[Cs,BD]at hn;have hn:=hn.1;simp only[DB,BD,CD]at hn;obtain⟨ho,-,ha1,ha2,hp,-⟩:=hn;simp only[FE,BD,Er,Im,CD]at hp;exact⟨hlo,q.2.1 l (.head _),⟨ha1,ha2⟩,fun s hs=>hp.1 s hs,hp.2⟩
def qJ (t:Int×Int×List Int) (m:Int):Prop:=t.1<=m/\m<=t.2.1/\m∉t.2.2
def cD {w:AH} {l:Fact} (hl:I7 w l) (t:Int×Int×List Int) (m:Int):(∃t',HV (Av l) t=some t'/\qJ t' m)↔qJ t m/\JS (.int m) (Av l).1= !(Av l).2:=by
 have h1:=hl.op;generalize Av l=x at *;obtain⟨f,b⟩:=x;obtain⟨lo,hi,no⟩:=t;simp only[HV,qJ,JS]at *;rcases h1 with h|h|h
 .rw[if_pos h,if_pos h]
  by_cases hc:f.cls > 1<;>cases b<;>simp[hc]
 .have h2: ¬f.op=2:=by omega
  rw[if_neg h2,if_pos h,if_neg h2,if_pos h];cases b
  .simp only[KQ,if_false,HR,exists_eq_left',Bool.not_false,CD]
   split<;>constructor<;>rintro⟨h3,h4⟩
   .exact⟨⟨h3,by omega,h4.2⟩,by omega⟩
   .exact⟨h3.1,by omega,h3.2.2⟩
   .exact⟨⟨h3,h4⟩,by omega⟩
   .exact h3
  .simp only[if_true,HR,exists_eq_left',Bool.not_true,decide_eq_false_iff_not]
   split<;>constructor<;>rintro⟨h3,h4⟩
   .exact⟨⟨by omega,h4⟩,by omega⟩
   .exact⟨by omega,h3.2⟩
   .exact⟨⟨h3,h4⟩,by omega⟩
   .exact h3
 .have h2: ¬f.op=2:=by omega
  have h3: ¬f.op=3:=by omega
  rw[if_neg h2,if_neg h3,if_neg h2,if_neg h3];cases b
  .simp only[KQ,if_false,HR,exists_eq_left',Bool.not_false,CD]
   constructor
   .rintro⟨h3,h4,h5⟩
    split at h3<;>split at h4<;>exact⟨⟨by omega,by omega,h5⟩,by omega⟩
   .rintro⟨⟨h3,h4,h5⟩,rfl⟩
    refine⟨?_,?_,h5⟩
    .split<;>omega
    .split<;>omega
  .simp only[if_true,HR,exists_eq_left',Bool.not_true,decide_eq_false_iff_not,FC,LV,not_or]
   constructor
   .rintro⟨h3,h4,h5,h6⟩
    exact⟨⟨h3,h4,h5⟩,h6⟩
   .rintro⟨⟨h3,h4,h5⟩,h6⟩
    exact⟨h3,h4,h5,h6⟩
def J9 {w:AH} (m:Int): ∀(os:List Fact) (t:Int×Int×List Int),(∀l∈os,I7 w l)->((∃t',foldI os t=some t'/\qJ t' m)↔qJ t m/\ ∀l∈os,JS (.int m) (Av l).1= !(Av l).2)
 | [],t,_=>by simp[foldI]
 | x ::r,t,h=>by
   have h1:=cD (h x (.head _)) t m;constructor
   .rintro⟨t',h2,h3⟩
    rw[foldI,Option.bind_eq_some_iff]at h2;obtain⟨u,h4,h5⟩:=h2;obtain⟨h6,h7⟩:=(J9 m r u fun l hl=>h l (.tail _ hl)).1 ⟨t',h5,h3⟩;obtain⟨h8,h9⟩:=h1.1 ⟨u,h4,h6⟩;refine⟨h8,fun l hl=>?_⟩;rcases GK.1 hl with rfl|hl
    .exact h9
    .exact h7 l hl
   .rintro⟨h2,h3⟩
    obtain⟨u,h4,h5⟩:=h1.2 ⟨h2,h3 x (.head _)⟩;obtain⟨t',h6,h7⟩:=(J9 m r u fun l hl=>h l (.tail _ hl)).2 ⟨h5,fun l hl=>h3 l (.tail _ hl)⟩;exact⟨t',by rw[foldI,h4];exact h6,h7⟩
def SB (t:Int×Int×List Int):(PK t).isSome=true↔ ∃m,qJ t m:=by
 obtain⟨lo,hi,no⟩:=t;rw[PK,NV];constructor
 .rintro⟨j,h1,h2⟩
  exact⟨lo+j,by simp only[qJ]at *;omega,by simp only[]at *;omega,h2⟩
 .rintro⟨m,h1,h2,h3⟩
  dsimp only at h1 h2 h3 ⊢;exact⟨(m - lo).toNat,by omega,by rw[show lo+((m - lo).toNat:Int)=m by omega];exact h3⟩
def IF {a:Int} {p:List Int} {l:Fact}:G4 a p l=true↔(Av l).1.arg=a/\(Av l).1.path=p:=by
 rw[G4,BD,EZ,EZ]
def jh {w:AH} {ls:List Fact} (hl: ∀l∈ls,I7 w l) (a:Int) (p:List Int):(I9 ls a p).isSome=true↔ ∃m,(-1000000000<=m/\m<=1000000000)/\ ∀l∈ls,(Av l).1.arg=a->(Av l).1.path=p->JS (.int m) (Av l).1= !(Av l).2:=by
 have hL: ∀l∈ls.filter (G4 a p),I7 w l:=fun l h=>hl l (LX.1 h).1
 rw[I9];constructor
 .intro h
  cases hf:foldI (ls.filter (G4 a p)) t0 with
  | none=>rw[hf]at h;cases h
  | some t=>
    rw[hf]at h;obtain⟨m,hm⟩:=(SB t).1 h;obtain⟨h1,h2⟩:=(J9 m _ t0 hL).1 ⟨t,hf,hm⟩;exact⟨m,⟨h1.1,h1.2.1⟩,fun l h3 h4 h5=>h2 l (LX.2 ⟨h3,IF.2 ⟨h4,h5⟩⟩)⟩
 .rintro⟨m,h1,h2⟩
  obtain⟨t,h3,h4⟩:=(J9 m (ls.filter (G4 a p)) t0 hL).2 ⟨⟨h1.1,h1.2,by simp[t0]⟩,fun l h=>by
   obtain⟨h5,h6⟩:=LX.1 h
   exact h2 l h5 (IF.1 h6).1 (IF.1 h6).2⟩
  rw[h3];exact(SB t).2 ⟨m,h4⟩
def MX {ls:List Fact} {a:Int} {p:List Int}:EC ls a p=true↔ ∀l∈ls,(Av l).1.arg=a-> ∀q,(Av l).1.path=p++q->(Av l).2=true:=by
 rw[EC,Er];constructor
 .intro h l hl ha q hq
  have:=h l hl;rw[F1]at this;rcases this with h1|h1
  .exact h1
  .rw[ha,hq]at h1
   have h2:Br (p++q) p=true:=CT.2 ⟨q,rfl⟩;simp[h2]at h1
 .intro h l hl
  rw[F1];by_cases h1:(Av l).1.arg=a/\Br (Av l).1.path p=true
  .obtain⟨q,hq⟩:=CT.1 h1.2
   exact .inl (h l hl h1.1 q hq)
  .right
   simp only[Bool.not_eq_true',Bool.and_eq_false_iff,beq_eq_false_iff_ne];rcases Classical.em ((Av l).1.arg=a)with e|e
   .exact .inr (by simpa[e]using h1)
   .exact .inl e
def SF {w:AH} {ls:List Fact} (hl: ∀l∈ls,I7 w l) {a:Int} {p:List Int} {s:Int}:s∈Bj w.owner.length ls a p↔ ∃l∈ls,(Av l).1.arg=a/\ ∃q,(Av l).1.path=p++s::q:=by
 rw[Bj,LX,KM,LH];constructor
 .rintro⟨-,l,h1,h2⟩
  rw[Y8,BD,EZ]at h2;obtain⟨q,hq⟩:=CT.1 h2.2;exact⟨l,h1,h2.1,q,by rw[hq];simp⟩
 .rintro⟨l,h1,h2,q,hq⟩
  refine⟨(hl l h1).path s (by rw[hq];simp),l,h1,?_⟩;rw[Y8,BD,EZ];exact⟨h2,CT.2 ⟨q,by rw[hq];simp⟩⟩
def WS {w:AH} {ls:List Fact} (hl: ∀l∈ls,I7 w l) {a:Int} {p:List Int}:FJ w.owner.length ls a p=true↔ ∀l∈ls,(Av l).1.arg=a-> ∀s q,(Av l).1.path=p++s::q->(Av l).2=true:=by
 rw[FJ,Er];constructor
 .intro h l h1 h2 s q hq
  exact MX.1 (h s ((SF hl).2 ⟨l,h1,h2,q,hq⟩)) l h1 h2 q (by rw[hq];simp)
 .intro h s _
  exact MX.2 fun l h1 h2 q hq=>h l h1 h2 s q (by rw[hq];simp)
def Xo {w:AH} (hw:Ur w) {s:Int} (h:0<=s/\s<(w.owner.length:Int)):3<=Cp w s/\Cp w s<3+w.parents.length:=by
 have hs:s.toNat<w.owner.length:=by omega
 have:Cp w s=w.owner[s.toNat]:=by rw[Cp,DL,Cw hs];rfl
 rw[this];exact hw.own _ (List.getElem_mem hs)
def o8 (t:BB) (C:Nat->Bool):Prop:=(∀c,t.1.getD c false=true->c=0\/C c=true)/\ ∀c,t.2.getD c false=true->c≠0/\C c=false
def TL (t t':BB):Prop:=t.1.length=t'.1.length/\t.2.length=t'.2.length/\(∀c,t.1.getD c false=true->t'.1.getD c false=true)/\ ∀c,t.2.getD c false=true->t'.2.getD c false=true
def TL.lR {t:BB}:TL t t:=⟨rfl,rfl,fun _ h=>h,fun _ h=>h⟩
def TL.trans {t u v:BB} (h:TL t u) (k:TL u v):TL t v:=⟨h.1.trans k.1,h.2.1.trans k.2.1,fun c hc=>k.2.2.1 c (h.2.2.1 c hc),fun c hc=>k.2.2.2 c (h.2.2.2 c hc)⟩
def MD {l:List Bool} {c b:Nat} (h:(l.set c true).getD b false=true):l.getD b false=true\/b=c:=by
 by_cases e:b=c
 .exact .inr e
 .rw[DL,List.getElem?_set_ne (fun h=>e h.symm),<-DL]at h
  exact .inl h
def MF {l:List Bool} {c b:Nat} (h:l.getD b false=true):(l.set c true).getD b false=true:=by
 by_cases e:c<l.length
 .rw[EE e]
  split
  .rfl
  .exact h
 .rw[List.set_eq_of_length_le (by omega)];exact h
def ME {l:List Bool} {c:Nat} (h:c<l.length):(l.set c true).getD c false=true:=by
 rw[EE h,if_pos rfl]
def TL.set1 {t:BB} (c:Nat):TL t (t.1.set c true,t.2):=⟨by simp,rfl,fun _ h=>MF h,fun _ h=>h⟩
def TL.set2 {t:BB} (c:Nat):TL t (t.1,t.2.set c true):=⟨rfl,by simp,fun _ h=>h,fun _ h=>MF h⟩
def Xh (t:BB) (f:Fact) (b:Bool):Prop:=if f.op≠2\/f.cls=1\/f.cls=2 then b=true else if b then t.2.getD f.cls.toNat false=true else t.1.getD f.cls.toNat false=true
def TA {t t':BB} (h:TL t t') {f:Fact} {b:Bool} (k:Xh t f b):Xh t' f b:=by
 unfold Xh at *;split
 .rename_i h1;rw[if_pos h1]at k;exact k
 .rename_i h1;rw[if_neg h1]at k
  split
  .rename_i h2;rw[if_pos h2]at k;exact h.2.2.2 _ k
  .rename_i h2;rw[if_neg h2]at k;exact h.2.2.1 _ k
def ig {w:AH} {l:Fact} (hl:I7 w l) {t t':BB} (hn:t.1.length=3+w.parents.length/\t.2.length=3+w.parents.length) (h:GN (Av l) t=some t'):TL t t'/\Xh t' (Av l).1 (Av l).2:=by
 have hc:=hl.cls;generalize Av l=x at *;obtain⟨f,b⟩:=x;simp only[GN,Xh]at *;split at h
 .rename_i h1
  rw[if_pos h1];cases b
  .cases h
  .obtain rfl:=Option.some.inj h
   exact⟨TL.lR,rfl⟩
 .rename_i h1
  rw[if_neg h1]
  have h2:f.op=2:=by
   rcases Classical.em (f.op=2)with e|e
   .exact e
   .exact absurd (Or.inl e) h1
  have:=hc h2;cases b
  .obtain rfl:=Option.some.inj h
   exact⟨.set1 _,by rw[if_neg (by decide)];exact ME (by omega)⟩
  .obtain rfl:=Option.some.inj h
   exact⟨.set2 _,by rw[if_pos rfl];exact ME (by omega)⟩
def cA {w:AH} {l:Fact} (hl:I7 w l) {t:BB} {C:Nat->Bool} {kid:Int->XT} (hi:o8 t C) (h:JS (.obj C kid) (Av l).1= !(Av l).2): ∃t',GN (Av l) t=some t'/\o8 t' C:=by
 have hc:=hl.cls;generalize Av l=x at *;obtain⟨f,b⟩:=x;simp only[GN,JS]at *;by_cases h1:f.op≠2\/f.cls=1\/f.cls=2
 .rw[if_pos h1]
  have h2:(f.op==2&&(f.cls==0||(decide (3<=f.cls)&&C f.cls.toNat)))=false:=by
   rcases h1 with h1|h1|h1
   .simp[h1]
   .simp[h1]
   .simp[h1]
  rw[h2]at h;cases b
  .cases h
  .exact⟨t,rfl,hi⟩
 .rw [if_neg h1]
  have h2:f.op=2:=by
   rcases Classical.em (f.op=2)with e|e
   .exact e
   .exact absurd (Or.inl e) h1
  have hr:=hc h2;have h3:f.cls≠1/\f.cls≠2:=⟨fun e=>h1 (.inr (.inl e)),fun e=>h1 (.inr (.inr e))⟩
  have h4:(f.op==2&&(f.cls==0||(decide (3<=f.cls)&&C f.cls.toNat)))=(decide (f.cls=0)||C f.cls.toNat):=by
   rw[h2];rcases Classical.em (f.cls=0)with e|e
   .simp[e]
   .have:3<=f.cls:=by omega
    simp[e,this]
  rw[h4]at h;cases b
  .refine⟨_,rfl,fun c hh=>?_,hi.2⟩
   rcases MD hh with hh|rfl
   .exact hi.1 c hh
   .simp only[Bool.not_false,F1,CD]at h
    rcases h with h|h
    .exact .inl (by omega)
    .exact .inr h
  .refine⟨_,rfl,hi.1,fun c hh=>?_⟩
   rcases MD hh with hh|rfl
   .exact hi.2 c hh
   .simp only[Bool.not_true,Bool.or_eq_false_iff,decide_eq_false_iff_not]at h
    exact⟨by omega,h.2⟩
def P7 {w:AH}: ∀(os:List Fact) {t t':BB},(∀l∈os,I7 w l)->(t.1.length=3+w.parents.length/\t.2.length=3+w.parents.length)->D3 os t=some t'->TL t t'/\ ∀l∈os,Xh t' (Av l).1 (Av l).2
 | [],t,t',_,_,h=>by
   obtain rfl:=Option.some.inj h;exact⟨TL.lR,fun l hl=>by cases hl⟩
 | x::r,t,t',hl,hn,h=>by
   rw[D3,Option.bind_eq_some_iff]at h;obtain⟨u,h1,h2⟩:=h;obtain⟨h3,h4⟩:=ig (hl x (.head _)) hn h1;obtain⟨h5,h6⟩:=P7 r (fun l h=>hl l (.tail _ h)) ⟨by rw[<-h3.1];exact hn.1,by rw[<-h3.2.1];exact hn.2⟩ h2;refine⟨h3.trans h5,fun l h=>?_⟩;rcases GK.1 h with rfl|h
   .exact TA h5 h4
   .exact h6 l h
def Sr {w:AH} {C:Nat->Bool} {kid:Int->XT}: ∀(os:List Fact) {t:BB},(∀l∈os,I7 w l)->o8 t C->(∀l∈os,JS (.obj C kid) (Av l).1= !(Av l).2)-> ∃t',D3 os t=some t'/\o8 t' C
 | [],t,_,hi,_=>⟨t,rfl,hi⟩
 | x::r,t,hl,hi,h=>by
   obtain⟨u,h1,h2⟩:=cA (hl x (.head _)) hi (h x (.head _));obtain⟨t',h3,h4⟩:=Sr r (fun l h=>hl l (.tail _ h)) h2 fun l hh=>h l (.tail _ hh)
   exact⟨t',by rw[D3,h1];exact h3,h4⟩
def ql (w:AH) (ls:List Fact) (a:Int) (p:List Int) (can:Int->Bool) (s:Int) (t:BB):Prop:=
 (EC ls a (p++[s])=false->t.1.getD (Cp w s).toNat false=true/\can s=true)/\(can s=false->t.2.getD (Cp w s).toNat false=true)
def P6 {w:AH} (hw:Ur w) {ls:List Fact} {a:Int} {p:List Int} {can:Int->Bool}: ∀(sl:List Int) {t t':BB},(∀s∈sl,0<=s/\s<(w.owner.length:Int))->(t.1.length=3+w.parents.length/\t.2.length=3+w.parents.length)->Di w ls a p can sl t=some t'->TL t t'/\ ∀s∈sl,ql w ls a p can s t'
 | [],t,t',_,_,h=>by
   obtain rfl:=Option.some.inj h;exact⟨TL.lR,fun l hl=>by cases hl⟩
 | s ::r,t,t',hs,hn,h=>by
   rw[Di,Option.bind_eq_some_iff]at h;obtain⟨u,h1,h2⟩:=h;have ho:=Xo hw (hs s (.head _))
   have h3:TL t u/\ql w ls a p can s u:=by
    rw[Ik]at h1;split at h1
    .cases h1
    .rename_i hne
     obtain rfl:=Option.some.inj h1;simp only[ql];cases hb:EC ls a (p++[s])<;>cases hc:can s
     .simp[hb,hc]at hne
     .exact⟨⟨by simp,rfl,fun c h=>MF h,fun c h=>h⟩,fun _=>⟨ME (by omega),rfl⟩,fun h=>(by cases h)⟩
     .exact⟨⟨rfl,by simp,fun c h=>h,fun c h=>MF h⟩,fun h=>(by cases h),fun _=>ME (by omega)⟩
     .exact⟨TL.lR,fun h=>(by cases h),fun h=>(by cases h)⟩
   obtain⟨h5,h6⟩:=P6 hw r (fun l h=>hs l (.tail _ h)) ⟨by rw[<-h3.1.1];exact hn.1,by rw[<-h3.1.2.1];exact hn.2⟩ h2;refine⟨h3.1.trans h5,fun l h=>?_⟩;rcases GK.1 h with rfl|h
   .exact⟨fun hb=>⟨h5.2.2.1 _ (h3.2.1 hb).1,(h3.2.1 hb).2⟩,fun hc=>h5.2.2.2 _ (h3.2.2 hc)⟩
   .exact h6 l h
def Sq {w : AH} (hw:Ur w) {ls:List Fact} {a:Int} {p:List Int} {can:Int->Bool} {C:Nat->Bool}: ∀(sl:List Int) {t:BB},(∀s∈sl,0<=s/\s<(w.owner.length:Int))->o8 t C->
    (∀s∈sl,(EC ls a (p++[s])=false->C (Cp w s).toNat=true)/\(C (Cp w s).toNat=true->can s=true))-> ∃t',Di w ls a p can sl t=some t'/\o8 t' C
 | [],t,_,hi,_=>⟨t,rfl,hi⟩
 | s :: r, t,hs,hi,h=>by
   have ho:=Xo hw (hs s (.head _));obtain⟨k1,k2⟩:=h s (.head _)
   have h1 : ∃u,Ik w ls a p can s t=some u/\o8 u C:=by
    rw[Ik];cases hb:EC ls a (p++[s])
    .rw[k2 (k1 hb)]
     refine⟨_,rfl,fun c hh=>?_,hi.2⟩;rcases MD hh with hh|rfl
     .exact hi.1 c hh
     .exact .inr (k1 hb)
    .cases hc:can s
     .refine⟨_,rfl,hi.1,fun c hh=>?_⟩
      rcases MD hh with hh|rfl
      .exact hi.2 c hh
      .refine⟨by omega,?_⟩
       rw[<-Bool.not_eq_true];intro e;rw[k2 e]at hc;cases hc
     .exact⟨_,rfl,hi⟩
   obtain⟨u,h2,h3⟩:=h1;obtain⟨t',h4,h5⟩:=Sq hw r (fun l h=>hs l (.tail _ h)) h3 fun l hh=>h l (.tail _ hh)
   exact⟨t',by rw[Di,h2];exact h4,h5⟩
def mb {w:AH} {C:Nat->Bool}:o8 (tO w) C:=by
 have: ∀c,(List.replicate (3+w.parents.length) false).getD c false=false:=fun c=>by
  rw[DL];cases h:(List.replicate (3+w.parents.length) false)[c]? with
  | none=>rfl
  | some b=>rw[List.eq_of_mem_replicate (Bz h)];rfl
 exact⟨fun c h=>absurd ((this c).symm.trans h) (by decide),fun c h=>absurd ((this c).symm.trans h) (by decide)⟩
def dm {g:List (List Int)} (ho:ordered g) {C:Nat->Bool} (hC: ∀c,3<=c->C c=true-> ∀q∈par g c,C q.toNat=true): ∀d b:Nat,3<=d->C d=true->KD g d b=true->C b=true:=by
 intro d
 induction d using Nat.strongRecOn with
 | _ d ih=>
   intro b h3 hd h;rw[FN ho]at h;simp only[F1,EZ,KM]at h;rcases h with rfl|⟨p,hp,h⟩
   .exact hd
   .have:=ho d p hp
    exact ih p.toNat (by omega) b (by omega) (hC d h3 hd p hp) h
def jK {w : AH} (hw : Ur w) {ls:List Fact} (hl: ∀l∈ls,I7 w l) {a:Int} {p:List Int} {can:Int->Bool} {T:Int->XT->Prop} (hcan: ∀s,s∈Bj w.owner.length ls a p->(can s=true↔ ∃t,Le w t/\T s t))
    (hT: ∀s t,T s t↔ ∀l∈ls,(Av l).1.arg=a-> ∀q,(Av l).1.path=p++s::q->Ut w t q (Av l).1= !(Av l).2) :
    (Kk w ls a p can).isSome=true↔ ∃C kid,Le w (.obj C kid)/\ ∀l∈ls,(Av l).1.arg=a-> ∀q,(Av l).1.path=p++q->Ut w (.obj C kid) q (Av l).1= !(Av l).2:=by
 have hL: ∀l∈ls.filter (G4 a p),I7 w l:=fun l h=>hl l (LX.1 h).1
 have hS: ∀s∈Bj w.owner.length ls a p,0<=s/\s<(w.owner.length:Int):=fun s h=>J5 h
 have hn0:(tO w).1.length=3+w.parents.length/\(tO w).2.length=3+w.parents.length:=by simp[tO]
 constructor
 .intro h
  rw[Kk]at h;cases h1:D3 (ls.filter (G4 a p)) (tO w)with
  | none=>rw[h1]at h;cases h
  | some t=>
    rw[h1,Option.bind_some]at h;obtain⟨g1,g2⟩:=P7 _ hL hn0 h1;have hn1:t.1.length=3+w.parents.length/\t.2.length=3+w.parents.length:=⟨by rw[<-g1.1];exact hn0.1,by rw[<-g1.2.1];exact hn0.2⟩
    cases h2:Di w ls a p can (Bj w.owner.length ls a p) t with
    | none=>rw[h2]at h;cases h
    | some u=>
      rw[h2,Option.bind_some,U9]at h;obtain⟨g3,g4⟩:=P6 hw _ hS hn1 h2;have hn2:u.1.length=3+w.parents.length/\u.2.length=3+w.parents.length:=⟨by rw[<-g3.1];exact hn1.1,by rw[<-g3.2.1];exact hn1.2⟩
      split at h
      .cases h
      .rename_i h0
       split at h
       .cases h
       .rename_i h3
        clear h;have hSl:(u.1.set 0 false).length=3+w.parents.length:=by simpa using hn2.1
        generalize hSd:B1 w.parents (3+w.parents.length) w.parents.length (u.1.set 0 false)=S at *
        have hin: ∀c,3<=c->u.1.getD c false=true->S.getD c false=true:=fun c hc h=>by
         rw[<-hSd];refine Jk hw.ord hSl _ _ ?_;rw[DL,List.getElem?_set_ne (by omega),<-DL];exact h
        have hdis: ∀c,S.getD c false=true->u.2.getD c false=true->False:=fun c k1 k2=>by
         have hc:c<3+w.parents.length:=by
          rcases Nat.lt_or_ge c (3+w.parents.length)with h|h
          .exact h
          .rw[DL,List.getElem?_eq_none (by omega)]at k2
           cases k2
         refine h3 (KM.2 ⟨c,List.mem_range.2 hc,?_⟩);rw[k1,k2];rfl
        have hkid: ∀s,∃t,Le w t/\((∃t,Le w t/\T s t)->T s t):=fun s=>by
         rcases Classical.em (∃t,Le w t/\T s t)with⟨t,k1,k2⟩|k
         .exact⟨t,k1,fun _=>k2⟩
         .exact⟨.eM,trivial,fun h=>absurd h k⟩
        refine⟨fun c=>S.getD c false,fun s=>Classical.choose (hkid s),⟨fun c hc h q hq=>?_,fun s=>(Classical.choose_spec (hkid s)).1⟩,fun l h1 h2 q hq=>?_⟩
        .change S.getD c false=true at h
         change S.getD q.toNat false=true
         have hcl:c<3+w.parents.length:=by
          rcases Nat.lt_or_ge c (3+w.parents.length)with h'|h'
          .exact h'
          .rw[DL,List.getElem?_eq_none (by rw[<-hSd,EX];omega)]at h
           cases h
         rw[<-hSd]at h ⊢;exact HN hw.ord hSl _ c (by omega) (by omega) h q hq
        .cases q with
         | nil =>
           have k:=g2 l (LX.2 ⟨h1,IF.2 ⟨h2,by simpa using hq⟩⟩);have k:=TA g3 k;have hc:=(hl l h1).cls;generalize Av l=x at *;obtain⟨f,b⟩:=x;simp only[Ut,JS,Xh]at *;by_cases e1:f.op≠2\/f.cls=1\/f.cls=2
           .rw[if_pos e1]at k
            subst k;rcases e1 with e1|e1|e1
            .simp[e1]
            .simp[e1]
            .simp[e1]
           .rw [if_neg e1]at k
            have e2:f.op=2:=by
             rcases Classical.em (f.op=2)with e|e
             .exact e
             .exact absurd (Or.inl e) e1
            have hr:=hc e2;have e3:f.cls≠1/\f.cls≠2:=⟨fun e=>e1 (.inr (.inl e)),fun e=>e1 (.inr (.inr e))⟩
            rw[e2];rcases Classical.em (f.cls=0)with e|e
            .rw[e]at k ⊢
             cases b
             .rfl
             .exfalso;exact h0 k
            .have e4:(f.cls==0)=false:=by simpa using e
             have e5:decide (3<=f.cls)=true:=decide_eq_true (by omega);rw[e4,e5];cases b
             .rw[if_neg (by decide)]at k
              rw[hin _ (by omega) k];rfl
             .rw[if_pos rfl]at k
              have:S.getD f.cls.toNat false=false:=by
               rw[<-Bool.not_eq_true];exact fun e=>hdis _ e k
              rw[this];rfl
         | cons s q=>
           have hs:s∈Bj w.owner.length ls a p:=(SF hl).2 ⟨l,h1,h2,q,hq⟩;have hso:=Xo hw (hS s hs);obtain⟨k1,k2⟩:=g4 s hs;simp only[Ut];cases hm:S.getD (Cp w s).toNat false
           .rw[Bool.false_and]
            cases hb:EC ls a (p++[s])
            .have:=hin _ (by omega) (k1 hb).1
             rw[hm]at this;cases this
            .rw[MX.1 hb l h1 h2 q (by rw[hq];simp)];rfl
           .rw[GJ]
            cases hc:can s
            .exact absurd (k2 hc) fun e=>hdis _ hm e
            .exact(hT s _).1 ((Classical.choose_spec (hkid s)).2 ((hcan s hs).1 hc)) l h1 h2 q hq
 .rintro ⟨C,kid,⟨hC,U⟩,h⟩
  obtain⟨t,h1,h2⟩:=Sr (C:=C) (kid:=kid) (ls.filter (G4 a p)) (t:=tO w) hL mb fun l k=>by
   obtain⟨k1,k2⟩:=LX.1 k;obtain⟨k3,k4⟩:=IF.1 k2;exact h l k1 k3 [] (by simpa using k4)
  obtain ⟨u,h3,h4⟩:=Sq hw (C:=C) (can:=can) (ls:=ls) (a:=a) (p:=p) (Bj w.owner.length ls a p) (t:=t) hS h2 fun s hs=>by
   constructor
   .intro hb
    cases e:C (Cp w s).toNat
    .rw[MX.2 fun l k1 k2 q hq=>by
      have:=h l k1 k2 (s::q) (by rw[hq];simp);simp only[Ut,e,Bool.false_and]at this
      simpa using this.symm]at hb
     cases hb
    .rfl
   .intro e
    refine(hcan s hs).2 ⟨kid s,U s,(hT s _).2 fun l k1 k2 q hq=>?_⟩;have:=h l k1 k2 (s::q) hq;simpa only[Ut,e,GJ]using this
  rw[Kk,h1,Option.bind_some,h3,Option.bind_some,U9]
  have h0:u.2.getD 0 false=false:=by
   rw[<-Bool.not_eq_true];exact fun e=>(h4.2 0 e).1 rfl
  rw[h0,if_neg (by decide),if_neg]
  .rfl
  .rw [KM]
   rintro⟨c,-,hc⟩;rw[BD]at hc;have q1:=(P7 _ hL hn0 h1).1;have q2:=(P6 hw _ hS ⟨by rw[<-q1.1];exact hn0.1,by rw[<-q1.2.1];exact hn0.2⟩ h3).1;have hlen:(u.1.set 0 false).length=3+w.parents.length:=by rw[List.length_set,<-q2.1,<-q1.1];exact hn0.1
   obtain⟨d,k1,k2⟩:=GB hw.ord hlen _ _ hc.1
   have hd0:d≠0:=by
    rintro rfl;rw[DL,List.getElem?_set_self (by rw[List.length_set]at hlen;omega)]at k1;cases k1
   rw[DL,List.getElem?_set_ne (fun e=>hd0 e.symm),<-DL]at k1;have hCd:C d=true:=(h4.1 d k1).resolve_left hd0
   have hCc:C c=true:=by
    rcases Nat.lt_or_ge d 3 with hd|hd
    .rw[FN hw.ord,show par w.parents d= [] from if_pos hd]at k2
     simp only[List.any_nil,Bool.or_false,EZ]at k2;subst k2;exact hCd
    .exact dm hw.ord hC d c hd hCd k2
   have:=(h4.2 c hc.2).2;rw[hCc]at this;cases this
def TT (w:AH) (ls:List Fact) (a:Int) (p:List Int) (t:XT):Prop:= ∀l∈ls,(Av l).1.arg=a-> ∀q,(Av l).1.path=p++q->Ut w t q (Av l).1= !(Av l).2
def cY {w:AH} {ls:List Fact} (hl: ∀l∈ls,I7 w l) {a:Int} {p:List Int}:HZ w.owner.length ls a p=true↔TT w ls a p .eM:=by
 rw[HZ,BD,Er,WS hl];constructor
 .rintro⟨h1,h2⟩ l k1 k2 q hq
  cases q with
  | nil=>
    have:=h1 l (LX.2 ⟨k1,IF.2 ⟨k2,by simpa using hq⟩⟩);simp only[Ut,JS,Il]at *
    revert this
    cases((Av l).1.op==2&&((Av l).1.cls==0||(Av l).1.cls==2))<;>cases(Av l).2<;>decide
  | cons s q=>simp[Ut,h2 l k1 k2 s q hq]
 .intro h
  refine⟨fun l k=>?_,fun l k1 k2 s q hq=>?_⟩
  .obtain⟨k1,k2⟩:=LX.1 k
   obtain⟨k3,k4⟩:=IF.1 k2;have:=h l k1 k3 [] (by simpa using k4);simp only[Ut,JS,Il]at *
   revert this
   cases((Av l).1.op==2&&((Av l).1.cls==0||(Av l).1.cls==2))<;>cases(Av l).2<;>decide
  .have:=h l k1 k2 (s::q) hq
   simpa[Ut]using this.symm
def ji {w:AH} {ls:List Fact} (hl: ∀l∈ls,I7 w l) {a:Int} {p:List Int}:((I9 ls a p).isSome&&FJ w.owner.length ls a p)=true↔ ∃m,Le w (.int m)/\TT w ls a p (.int m):=by
 rw[BD,WS hl,jh hl];constructor
 .rintro⟨⟨m,h1,h2⟩,h3⟩
  refine⟨m,h1,fun l k1 k2 q hq=>?_⟩;cases q with
  | nil=>exact h2 l k1 k2 (by simpa using hq)
  | cons s q=>simp[Ut,h3 l k1 k2 s q hq]
 .rintro⟨m,h1,h2⟩
  refine⟨⟨m,h1,fun l k1 k2 k3=>h2 l k1 k2 [] (by simpa using k3)⟩,fun l k1 k2 s q hq=>?_⟩;have:=h2 l k1 k2 (s::q) hq;simpa[Ut]using this.symm
def ai {w:AH} (hw:Ur w) {ls:List Fact} (hl: ∀l∈ls,I7 w l) {a:Int} {p:List Int} {can:Int->Bool} (hcan: ∀s,s∈Bj w.owner.length ls a p->(can s=true↔ ∃t,Le w t/\TT w ls a (p++[s]) t)) :
    (((I9 ls a p).isSome&&FJ w.owner.length ls a p)||(HZ w.owner.length ls a p||(Kk w ls a p can).isSome))=true↔ ∃t,Le w t/\TT w ls a p t:=by
 rw[F1,F1,ji hl,cY hl,jK hw hl (T:=fun s t=>TT w ls a (p++[s]) t) hcan fun s t=>by simp only[TT,XO,List.singleton_append]];constructor
 .rintro(⟨m,h1,h2⟩|h|⟨C,kid,h1,h2⟩)
  .exact⟨_,h1,h2⟩
  .exact⟨.eM,trivial,h⟩
  .exact⟨_,h1,h2⟩
 .rintro⟨t,h1,h2⟩
  cases t with
  | int m=>exact .inl ⟨m,h1,h2⟩
  | eM=>exact .inr (.inl h2)
  | obj C kid=>exact .inr (.inr ⟨C,kid,h1,h2⟩)
def QD {w:AH} (hw:Ur w) {ls:List Fact} (hl: ∀l∈ls,I7 w l) (a:Int): ∀(d:Nat) (p:List Int),p.length+d=2->(Lh w ls a d p=true↔ ∃t,Le w t/\TT w ls a p t)
 | 0,p,hp=>by
   rw[Lh];refine ai hw hl fun s hs=>?_
   rw[NW (m:=2) (fun l h=>(hl l h).short) (by omega)]at hs;cases hs
 | d+1,p,hp=>by
   rw[Lh];exact ai hw hl fun s hs=>QD hw hl a d (p++[s]) (by simp;omega)
def TS (w:AH) (M:Int->XT) (l:Fact):Prop:=Ut w (M (Av l).1.arg) (Av l).1.path (Av l).1= !(Av l).2
def Vp {w:AH} (hw:Ur w) {ls:List Fact} (hl: ∀l∈ls,I7 w l):G7 w ls=true↔ ∃M:Int->XT,(∀a,Le w (M a))/\ ∀l∈ls,TS w M l:=by
 rw[G7,Er];constructor
 .intro h
  have hk: ∀a:Int,∃t,Le w t/\(0<=a/\a<3->TT w ls a [] t):=fun a=>by
   rcases Classical.em (0<=a/\a<3)with e|e
   .obtain⟨t,h1,h2⟩:=(QD hw hl a 2 [] rfl).1 (h a (LH.2 e))
    exact⟨t,h1,fun _=>h2⟩
   .exact⟨.eM,trivial,fun k=>absurd k e⟩
  exact⟨fun a=>Classical.choose (hk a),fun a=>(Classical.choose_spec (hk a)).1,fun l k=>(Classical.choose_spec (hk (Av l).1.arg)).2 (hl l k).arg l k rfl _ rfl⟩
 .rintro⟨M,h1,h2⟩ a _
  refine(QD hw hl a 2 [] rfl).2 ⟨M a,h1 a,fun l k1 k2 q hq=>?_⟩;have:=h2 l k1;rw[TS,k2]at this;rw[List.nil_append]at hq;rw[<-hq];exact this
def xH (w:AH) (M:Int->XT) (f:Fact) (l:List Bool):Bool:=
 if f.op=1 then true else if f.op=5 then !l.getD 0 false else if f.op=6 then l.getD 0 false&&l.getD 1 false else if f.op=7 then l.getD 0 false||l.getD 1 false else Ut w (M f.arg) f.path f
def Y9 (w:AH) (M:Int->XT) (f:Fact):Bool:=f.H7 (xH w M)
def Xz (w:AH) (M:Int->XT) (f:Fact):Y9 w M f=xH w M f (f.kids.map (Y9 w M)):=Fact.Dy (xH w M) f
def WE (a:List Fact) (Q:Fact->Prop): ∀b:List Fact,(∀x∈CM a b,Q x)↔(∀x∈a,Q x)/\ ∀x∈b,Q x:=by
 intro b
 induction b generalizing a with
 | nil=>simp[CM]
 | cons y r ih=>
   rw[CM,ih];split
   .rename_i h
    obtain⟨z,h1,h2⟩:=KM.1 h;have:=(NX y z).1 h2;subst this;simp only[List.forall_mem_cons];constructor
    .rintro⟨h3,h4⟩;exact⟨h3,h3 _ h1,h4⟩
    .rintro⟨h3,_,h4⟩;exact⟨h3,h4⟩
   .simp only[List.forall_mem_append,List.forall_mem_cons,List.forall_mem_nil]
    constructor
    .rintro⟨⟨h1,h2,_⟩,h3⟩;exact⟨h1,h2,h3⟩
    .rintro⟨h1,h2,h3⟩;exact⟨⟨h1,h2,fun _ h=>by cases h⟩,h3⟩
def S5 {w : AH} {M:Int->XT} (f:Fact):Bk w f=true-> ∀c,(∃l∈BG f c,∀x∈l,TS w M x)↔Y9 w M f= !c:=by
 induction f using Fact.ind with
 | h f ih=>
   intro h c;have har:=Cu f h;have h':=h;rw[Cs,BD,Er]at h';rw[GG,FR,Xz,xH];by_cases h1:f.op=1
   .rw[if_pos h1,if_pos h1]
    cases c<;>simp
   rw[if_neg h1,if_neg h1];by_cases h5:f.op=5
   .obtain⟨a,ha,hb⟩:=IL har h5
    rw[if_pos h5,if_pos h5,ha];have:=ih a (by rw[ha];exact .head _) (h'.2 a (by rw[ha];exact .head _)) (!c);simp only[E8,List.map_nil,List.getD_cons_zero];rw[this];cases Y9 w M a<;>cases c<;>decide
   rw[if_neg h5,if_neg h5];by_cases h6:f.op=6\/f.op=7
   .obtain⟨a,b,ha,hb1,hb2⟩:=IK har h6
    rw[if_pos h6,ha];have i1:=ih a (by rw[ha];exact .head _) (h'.2 a (by rw[ha];exact .head _)) c;have j1:=ih b (by rw[ha];exact .tail _ (.head _)) (h'.2 b (by rw[ha];exact .tail _ (.head _))) c;simp only[E8,List.map_nil,List.getD_cons_zero,List.getD_cons_succ]
    have happ:(∃l∈BG a c++BG b c,∀x∈l,TS w M x)↔Y9 w M a= !c\/Y9 w M b= !c:=by
     rw[<-i1,<-j1];constructor
     .rintro⟨l,hl,hx⟩
      rcases FC.1 hl with hl|hl
      .exact .inl ⟨l,hl,hx⟩
      .exact .inr ⟨l,hl,hx⟩
     .rintro(⟨l,hl,hx⟩|⟨l,hl,hx⟩)
      .exact⟨l,Q9 _ hl,hx⟩
      .exact⟨l,N1 _ hl,hx⟩
    have hprod:(∃l∈Df (BG a c) (BG b c),∀x∈l,TS w M x)↔Y9 w M a= !c/\Y9 w M b= !c:=by
     rw[<-i1,<-j1];simp only[Df,List.mem_flatMap,Mt];constructor
     .rintro⟨l,⟨y,hy,z,hz,rfl⟩,hx⟩
      rw[WE]at hx;exact⟨⟨y,hy,hx.1⟩,z,hz,hx.2⟩
     .rintro⟨⟨y,hy,h1⟩,z,hz,h2⟩
      exact⟨_,⟨y,hy,z,hz,rfl⟩,(WE y _ z).2 ⟨h1,h2⟩⟩
    rcases h6 with h6|h6
    .rw[if_pos h6,h6]
     cases c
     .rw[if_neg (by decide),hprod]
      simp
     .rw[if_pos (by decide),happ]
      simp only[Bool.not_true,Bool.and_eq_false_iff]
    .rw[if_neg (by omega: ¬f.op=6),if_pos h6,h6]
     cases c
     .rw[if_pos (by decide),happ]
      simp
     .rw[if_neg (by decide),hprod]
      simp only[Bool.not_true,Bool.or_eq_false_iff]
   .rw[if_neg h6,if_neg (fun e=>h6 (.inl e)),if_neg (fun e=>h6 (.inr e))]
    have e1:TS w M f↔Ut w (M f.arg) f.path f=true:=by rw[TS,Av,if_neg h5];exact Iff.rfl
    have e2:TS w M (Fi f)↔Ut w (M f.arg) f.path f=false:=by
     rw[TS,show Av (Fi f)=(f,true) from rfl];exact Iff.rfl
    cases c
    .simp[e1]
    .simp[e2]
def jB {w:AH} (hw:Ur w) {f:Fact} (hn:Bk w f=true):RT w f=true↔ ∃M:Int->XT,(∀a,Le w (M a))/\Y9 w M f=true:=by
 rw[RT,KM];constructor
 .rintro⟨l,h1,h2⟩
  obtain⟨M,h3,h4⟩:=(Vp hw fun x hx=>Z2 (Ei f hn false l h1 x hx)).1 h2;exact⟨M,h3,(S5 f hn false).1 ⟨l,h1,h4⟩⟩
 .rintro⟨M,h1,h2⟩
  obtain⟨l,h3,h4⟩:=(S5 f hn false).2 h2;exact⟨l,h3,(Vp hw fun x hx=>Z2 (Ei f hn false l h3 x hx)).2 ⟨M,h1,h4⟩⟩
def Pz {w:AH} (hw:Ur w) {a b:Fact} (ha:Bk w a=true) (hb:Bk w b=true):TX w a b=true↔ ∀M:Int->XT,(∀x,Le w (M x))->Y9 w M a=true->Y9 w M b=true:=by
 have he: ∀M,Y9 w M (Of a (Fi b))=(Y9 w M a&& !Y9 w M b):=fun M=>by
  rw[Xz];simp only[xH,Of,Fact.op,Fact.kids,E8,List.map_nil,List.getD_cons_zero,List.getD_cons_succ];rw[Xz w M (Fi b)];simp[xH,Fi,Fact.op,Fact.kids]
 rw[TX,Bool.not_eq_true',<-Bool.not_eq_true,jB hw (Pt ha hb)];constructor
 .intro h M h1 h2
  rw[<-Bool.not_eq_false];exact fun h3=>h ⟨M,h1,by rw[he,h2,h3];rfl⟩
 .rintro h ⟨M,h1,h2⟩
  rw[he,BD]at h2;rw[h M h1 h2.1]at h2;simp at h2
def imp_trans {w:AH} (hw:Ur w) {a b c:Fact} (ha:Bk w a=true) (hb:Bk w b=true) (hc:Bk w c=true) (h1:TX w a b=true) (h2:TX w b c=true):TX w a c=true:=
 (Pz hw ha hc).2 fun M hM h=>(Pz hw hb hc).1 h2 M hM ((Pz hw ha hb).1 h1 M hM h)
end Go.Gl
namespace Go.Gl
open Go.Proofs
attribute [local irreducible] A6 Ar Ah AR AI Ae AQ AT AK Ad AN AO Ay A7 Sat AY A5 Ai W
def p9 (g:FuncId) (fi ca:List V) (q:Int×Int->Bool):Prop:= ∀v,Pure zP g (fi++[.a (pI v)]++ca) (.b (q v))
def p9.use {g:FuncId} {fi ca:List V} {q:Int×Int->Bool} (h:p9 g fi ca q) {v:Int×Int} {Z:AE} {k kp:V->AE->Prop} (hk:k (.b (q v)) Z):Ay zP (.f (.func g) fi ca) [.a (pI v)] Z (qk k kp):=Bh ((h v).use hk)
end Go.Gl
namespace Go.Gl
variable {P:Program} {Z:AE}
def A6.VN {f:FuncId} {args args':List V} {Z Z2:AE} {Q:R->AE->Prop} (h:A6 P f args' Z2 Q) (hsub:Sub Z2 Z) (hf:DN Z Z2 args args'):A6 P f args Z Q:=by
 refine⟨h.1,fun F w cs hR hv=>?_⟩;exact Calls.mono (h.2 F w cs (hR.drop hsub) ⟨by rw[hf.length];exact hv.1,hf.rel hR hsub (fun _ _ e=>e) hv.2⟩) fun e w' ⟨r,Z',hr,h1,h2,h3⟩=>⟨r,Z',hr,h1,h2,(Bw.drop w hsub).trans h3⟩
def Pure.arg {f:FuncId} {args args':List V} {v:V} (h:Pure P f args' v) (hf:DN emp emp args args'):Pure P f args v:=A6.VN h (Sub.refl _) hf
def Own.qf {v:V} {sz:Nat} {es es':List (List V)} (h:Own Z v sz es) (hR:EB Z emp es es'):FD Z emp v (.l es' false):=by
 rcases h with⟨rfl,_⟩|⟨n,cap,rfl,hn⟩
 .exact .l (fun h=>(by cases h)) hR
 .exact .arr hn rfl rfl hR
inductive bt (Z Z':AE):Env->Env->Prop
 | nil:bt Z Z' [] []
 | cons {k:Nat} {v v':V} {e e':Env}:FD Z Z' v v'->bt Z Z' e e'->bt Z Z' ((k,v)::e) ((k,v')::e')
def bt.efz {Z Z':AE} {e e':Env} (h:bt Z Z' e e'):EFz Z Z' e e':=by
 induction h with
 | nil=>intro j v2 hv;cases hv
 | cons h1 h2 ih=>
   rename_i k v v' e e';intro j v2 hv;simp only[get]at hv ⊢;cases hb:Nat.beq k j with
   | true=>
     rw[hb]at hv;simp only[cond_true,HR]at hv ⊢;subst hv;exact⟨v,rfl,h1⟩
   | false=>
     rw[hb]at hv;simp only[cond_false]at hv ⊢;exact ih j v2 hv
def TK {env:Env} {K:Env->AE->Prop} (h:K env Z):Fz env Z K:= .inl h
def Rx {env env2:Env} {K:Env->AE->Prop} {l:List At} (hs:Sat Z l) (i:Nat) {v:V} {sz:Nat} {es:List (List V)} (hi:l[i]? =some (.own v sz es))
    (he: ∀Z2,FD Z Z2 v (.l es false)->bt Z Z2 env env2) (hk: ∀Z2,Sat Z2 (l.eraseIdx i)->K env2 Z2):Fz env Z K:=by
 obtain⟨Z2,h1,h2,h3⟩:=JR hs i hi;exact .inr ⟨env2,Z2,⟨fun n o2 ho=> .inl (h1 n o2 ho)⟩,(he Z2 h2).efz,hk Z2 h3⟩
def RM {l:List Nat} {a b:AV} {Q:Ac->Env->AE->Prop} {env:Env} (h: ∀K:Env->AE->Prop,(∀env Z,(pk l env fun E=>Fz E Z (W P b Q))->K env Z)->W P a (Ac.andThen K Q) env Z):W P (.seq l a b) Q env Z:=wu h
end Go.Gl
namespace Go.Gl
open Go.Proofs
attribute [local irreducible] A6 Ar Ah AR AI Ae AQ AT AK Ad AN AO Ay A7 Sat AY A5 Ai W
end Go.Gl
namespace Go.Gl
open Go.Proofs
end Go.Gl
namespace Go.Gl
open Go.Proofs
attribute [local irreducible] A6 Ar Ah AR AI Ae AQ AT AK Ad AN AO Ay A7 Sat AY A5 Ai W
end Go.Gl
