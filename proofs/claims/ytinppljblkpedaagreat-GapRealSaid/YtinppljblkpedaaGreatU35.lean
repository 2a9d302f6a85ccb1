import Derived.Test.YtinppljblkpedaaGreatU22
import Derived.Test.YtinppljblkpedaaGreatU23
set_option linter.all false
set_option linter.defProp false
set_option maxHeartbeats 8000000
noncomputable section
namespace Go.Gl
open Go.Proofs
def Tt (l:List Int) (s:Int):List Int:=if l.contains s then l else l++[s]
def mj (k:Kn) (s:Int):Kn:={k with AI:=Tt k.AI s}
def IE (a:Int) (p:List Int) (k:Kn) (l:Fact):Kn:=
 if(Ad l).1.arg=a/\Bn (Ad l).1.path p=true then
  (if(Ad l).1.path=p then Bx (Bz k (Ad l).2) (Ad l).1 (Ad l).2 else mj (Bz k (Ad l).2) ((Ad l).1.path.getD p.length 0))
 else k
def kg (ls:List Fact) (a:Int) (p:List Int):Kn:=ls.foldl (IE a p) k0
structure fT (k k':Kn):Prop where
 core:DJ k=DJ k'
 fY:k.AV=k'.AV
 AI: ∀s,s∈k.AI↔s∈k'.AI
def mR (l:List Int) (s x:Int):x∈Tt l s↔x∈l\/x=s:=by
 unfold Tt;split
 .rename_i h
  rw[List.contains_iff_mem]at h;exact⟨.inl,fun h'=>h'.elim id fun e=>by rw[e];exact h⟩
 .simp
def kJ {k k':Kn} (h:fT k k') (a:Int) (p:List Int) (l:Fact):fT (IE a p k l) (C7 a p k' l):=by
 unfold IE C7;split
 .split
  .refine⟨Ql (k:=Bz k (Ad l).2) (k':=Bz k' (Ad l).2) h.core _ _,?_,fun s=>?_⟩
   .rw[L5,L5];simp[Bz,h.fY]
   .rw[Io,Io];exact h.AI s
  .refine⟨h.core,by simp[mj,fO,Bz,h.fY],fun s=>?_⟩
   show s∈Tt k.AI _↔s∈JR k'.AI _;rw[TU,mR,h.AI]
 .exact h
def WA (a:Int) (p:List Int): ∀(ls:List Fact) (k k':Kn),fT k k'->fT (ls.foldl (IE a p) k) (ls.foldl (C7 a p) k')
 | [],_,_,h=>h
 | l::r,_,_,h=>WA a p r _ _ (kJ h a p l)
def Gt (ls:List Fact) (a:Int) (p:List Int):fT (kg ls a p) (kn ls a p):=WA a p ls k0 k0 ⟨rfl,rfl,fun _=>Iff.rfl⟩
def Uk (ls:List Fact) (a:Int) (p:List Int):DJ (kg ls a p)=DJ (Dr (ls.filter (Iq a p)) k0):=(Gt ls a p).core.trans (Iy ls a p)
def Ku (ls:List Fact) (a:Int) (p:List Int):(kg ls a p).AV= !Eu ls a p:=by rw[(Gt ls a p).fY,Ih]
def Nw {w:AF} {ls:List Fact} (hl: ∀l∈ls,CQ w l):Gs w.owner.length ls:=fun l h=>(hl l h).path
def J8 {w:AF} {ls:List Fact} (hl: ∀l∈ls,CQ w l) {a:Int} {p:List Int} {s:Int}:s∈(kg ls a p).AI↔ ∃l∈ls,(Ad l).1.arg=a/\ ∃q,(Ad l).1.path=p++s::q:=by
 rw[(Gt ls a p).AI,FJ (Nw hl),IX hl]
def gL {w:AF} {ls:List Fact} (hl: ∀l∈ls,CQ w l) {a:Int} {p:List Int} {s:Int} (h:s∈(kg ls a p).AI):0<=s/\s<(w.owner.length:Int):=by
 obtain⟨l,h1,h2,q,hq⟩:=(J8 hl).1 h;exact(hl l h1).path s (by rw[hq];simp)
def iX (ls:List Fact) (a:Int) (p:List Int):IF (kg ls) a p=IF (kn ls) a p:=by
 rw[IF,IF,Hl,Cu,Cu];constructor
 .intro h s hs
  have:=h s (((Gt ls a p).AI s).2 hs)
  rwa [(Gt ls a (p++[s])).fY]at this
 .intro h s hs
  have:=h s (((Gt ls a p).AI s).1 hs)
  rwa [(Gt ls a (p++[s])).fY]
def Km {k k':Kn} (h:DJ k=DJ k'):k.low=k'.low/\k.high=k'.high/\k.no=k'.no/\k.BO=k'.BO/\k.Dm=k'.Dm/\k.whole=k'.whole:=by
 simpa only[DJ,Prod.mk.injEq]using h
def zw (ls:List Fact) (a:Int) (p:List Int):Dq (kg ls) a p=Dq (kn ls) a p:=by
 obtain⟨c1,c2,c3,c4,c5,-⟩:=Km (Gt ls a p).core;rw[Dq,Dq,Eh,Eh,iX,Cy,Cy,c1,c2,c3,c4,c5]
def tQ (ls:List Fact) (a:Int) (p:List Int):CR (kg ls) a p=CR (kn ls) a p:=by
 obtain⟨-,-,-,c4,c5,c6⟩:=Km (Gt ls a p).core;rw[CR,CR,Eh,Eh,iX,c4,c5,c6]
def Qm {w:AF} {ls:List Fact} (hl: ∀l∈ls,CQ w l):Gm (3+w.parents.length) ls:=fun l h ho=>by
 have:=(hl l h).cls ho;omega
def a8 {w:AF} (hw:Fu w) {ls:List Fact} (hl: ∀l∈ls,CQ w l) (a:Int) (p:List Int):Dq (kg ls) a p=true↔ ∃m,E0 w (.int m)/\TT w ls a p (.int m):=by
 rw[zw,UA (n:=3+w.parents.length) (by have:=hw.len;omega) (Qm hl) (Nw hl),M0 hl]
def WX {w:AF} (hw:Fu w) {ls:List Fact} (hl: ∀l∈ls,CQ w l) (a:Int) (p:List Int):CR (kg ls) a p=true↔TT w ls a p .Gi:=by
 rw[tQ,PG (n:=3+w.parents.length) (by have:=hw.len;omega) (Qm hl) (Nw hl),Ie hl]
def Rz (w:AF) (kf:Int->List Int->Kn) (a:Int) (p:List Int) (up:Nat) (can:Int->Bool):Bool:=
 !(kf a p).whole&&(H5 (kf a p).BO up&&((kf a p).Dm&&&up==0&&(kf a p).AI.all fun s=>if up.testBit (BG w s).toNat then can s else !(kf a (p++[s])).AV))
def QR {w : AF} (hw:Fu w) {ls:List Fact} (hl: ∀l∈ls,CQ w l) {a:Int} {p:List Int} {up:Nat} {can:Int->Bool} {OK:Er->Prop} (hnon:OK .Gi) (u0:up.testBit 0=true) (u1:up.testBit 1=false) (u2:up.testBit 2=false)
    (hcan: ∀s∈(kg ls a p).AI,(can s=true↔ ∃t,OK t/\TT w ls a (p++[s]) t)) :
    Rz w (kg ls) a p up can=true↔ ∃kid,(∀s,OK (kid s))/\TT w ls a p (.obj (fun b=>up.testBit b) kid):=by
 obtain⟨-,-,-,c4,c5,c6⟩:=Km (Uk ls a p);have hc2:Gm (3+w.parents.length) (ls.filter (Iq a p)):=fun l h=>Qm hl l (HD.1 h).1
 have hlt:(Dr (ls.filter (Iq a p)) k0).BO<2 ^ 64:=Nat.lt_of_lt_of_le (Ma hc2) (Nat.pow_le_pow_right (by decide) (by have:=hw.len;omega));have hon: ∀l,l∈ls.filter (Iq a p)↔l∈ls/\(Ad l).1.arg=a/\(Ad l).1.path=p:=fun l=>by rw[HD,Dl]
 rw[Rz,A4,A4,A4,c4,c5,c6,Nq,Mm hlt,IS,Cu];simp only[Gz,PF,hon];constructor
 .rintro ⟨h1,h2,h3,h4⟩
  have hk: ∀s,∃t,OK t/\(s∈(kg ls a p).AI->up.testBit (BG w s).toNat=true->TT w ls a (p++[s]) t):=fun s=>by
   rcases Classical.em (s∈(kg ls a p).AI/\up.testBit (BG w s).toNat=true)with⟨e1,e2⟩|e
   .have:=h4 s e1
    rw[if_pos e2]at this;obtain⟨t,q1,q2⟩:=(hcan s e1).1 this;exact⟨t,q1,fun _ _=>q2⟩
   .exact⟨.Gi,hnon,fun e1 e2=>absurd ⟨e1,e2⟩ e⟩
  refine⟨fun s=>Classical.choose (hk s),fun s=>(Classical.choose_spec (hk s)).1,fun l k1 k2 q hq=>?_⟩;cases q with
  | nil =>
    rw[D8]at hq;have hcl:=(hl l k1).cls;show Cg _ _=_;simp only[Cg];cases hb:(Ad l).2
    .have ho:=h1 l ⟨k1,k2,hq⟩ hb
     have hu:=h2 _ ⟨l,⟨k1,k2,hq⟩,ho,hb,rfl⟩;have:=hcl ho;rw[CF.2 ho,Cc];by_cases e0:(Ad l).1.cls=0
     .rw[e0];rfl
     .have e3:3<=(Ad l).1.cls:=by
       rcases Int.lt_or_le (Ad l).1.cls 3 with hlt|hge
       .exfalso
        have:(Ad l).1.cls.toNat=1\/(Ad l).1.cls.toNat=2:=by omega
        rcases this with e|e<;>rw[e]at hu
        .rw[u1]at hu;cases hu
        .rw[u2]at hu;cases hu
       .exact hge
      rw[decide_eq_true e3,hu];simp
    .by_cases ho:(Ad l).1.op=2
     .have hn:=h3 _ ⟨l,⟨k1,k2,hq⟩,ho,hb,rfl⟩
      have:=hcl ho;rw[CF.2 ho,Cc];have e0:(Ad l).1.cls≠0:=fun e=>hn (by rw[e];exact u0)
      rw[beq_eq_false_iff_ne.2 e0,Bool.false_or];cases hu:up.testBit (Ad l).1.cls.toNat
      .simp
      .exact(hn hu).elim
     .rw[beq_eq_false_iff_ne.2 ho];rfl
  | cons s r=>
    have hs:s∈(kg ls a p).AI:=(J8 hl).2 ⟨l,k1,k2,r,hq⟩;rw[Ir];have hsp:=(Classical.choose_spec (hk s)).2;generalize Classical.choose (hk s)=t at hsp ⊢;cases hu:up.testBit (BG w s).toNat
    .have:=h4 s hs
     rw[hu,if_neg (by decide),Ku,Bool.not_not]at this;have:=D5.1 this l k1 k2 r (by rw[hq];simp);rw[this];rfl
    .rw[Cc]
     exact hsp hs hu l k1 k2 r (by rw[hq];simp)
 .rintro ⟨kid,hkid,hT⟩
  have hleaf: ∀l∈ls,(Ad l).1.arg=a->(Ad l).1.path=p->((Ad l).1.op==2&&((Ad l).1.cls==0||(decide (3<=(Ad l).1.cls)&&up.testBit (Ad l).1.cls.toNat)))= !(Ad l).2:=fun l k1 k2 k3=>hT l k1 k2 [] (by rw[k3];simp)
  refine⟨?_,?_,?_,?_⟩
  .rintro l ⟨k1,k2,k3⟩ hb
   have:=hleaf l k1 k2 k3;rw[hb,Bool.not_false,A4,CF]at this;exact this.1
  .rintro b ⟨l,⟨k1,k2,k3⟩,ho,hb,rfl⟩
   have:=hleaf l k1 k2 k3;rw[hb,Bool.not_false,A4,EW,A4,CF,CF]at this;rcases this.2 with e|e
   .rw[e];exact u0
   .exact e.2
  .rintro b ⟨l,⟨k1,k2,k3⟩,ho,hb,rfl⟩ hu
   have:=hleaf l k1 k2 k3;have hc:=(hl l k1).cls ho;rw[hb,CF.2 ho,hu,Cc,Bool.and_true]at this;by_cases e0:(Ad l).1.cls=0
   .rw[e0]at this;cases this
   .have e3:3<=(Ad l).1.cls:=by
     rcases Int.lt_or_le (Ad l).1.cls 3 with hlt|hge
     .exfalso
      have:(Ad l).1.cls.toNat=1\/(Ad l).1.cls.toNat=2:=by omega
      rcases this with e|e<;>rw[e]at hu
      .rw[u1]at hu;cases hu
      .rw[u2]at hu;cases hu
     .exact hge
    rw[decide_eq_true e3]at this;simp at this
  .intro s hs
   cases hu:up.testBit (BG w s).toNat
   .rw[if_neg (by decide),Ku,Bool.not_not]
    refine D5.2 fun l k1 k2 q hq=>?_
    have:=hT l k1 k2 (s::q) (by rw[hq];simp);rw[Ir,hu,Bool.false_and]at this;simpa using this.symm
   .rw[if_pos rfl]
    refine(hcan s hs).2 ⟨kid s,hkid s,fun l k1 k2 q hq=>?_⟩;have:=hT l k1 k2 (s::q) (by rw[hq];simp)
    rwa [Ir,hu,Cc]at this
def Ds (w:AF) (kf:Int->List Int->Kn) (a:Int) (p:List Int):Nat:=(kf a p).AI.foldl (fun m s=>if(kf a (p++[s])).AV then m|||2 ^ (BG w s).toNat else m) ((kf a p).BO|||2 ^ 0)
def VG (w:AF) (kf:Int->List Int->Kn) (a:Int) (p:List Int) (can:Int->Bool):Bool:=
 !(Ds w kf a p).testBit 1&&(!(Ds w kf a p).testBit 2&&Rz w kf a p (Bk (Ah w.parents) w.parents.length (Ds w kf a p)) can)
def R3 (w:AF) (kf:Int->List Int->Kn) (a:Int):Nat->List Int->Bool
 | 0,p=>Dq kf a p||(CR kf a p||VG w kf a p fun _=>false)
 | d+1,p=>Dq kf a p||(CR kf a p||VG w kf a p fun s=>R3 w kf a d (p++[s]))
def Wu {w:AF} {kf:Int->List Int->Kn} {a:Int} {p:List Int} {b:Nat}: ∀(l:List Int) (m:Nat),(l.foldl (fun m s=>if(kf a (p++[s])).AV then m|||2 ^ (BG w s).toNat else m) m).testBit b=true↔m.testBit b=true\/ ∃s∈l,(kf a (p++[s])).AV=true/\b=(BG w s).toNat
 | [],m=>by simp
 | x ::r,m=>by
   rw[List.foldl_cons,Wu r];simp only[Ep,exists_eq_or_imp];cases hn:(kf a (p++[x])).AV
   .simp
   .rw[if_pos rfl,Cn,EW,CF]
    simp only[true_and,or_assoc]
def dd {w:AF} {kf:Int->List Int->Kn} {a:Int} {p:List Int} {b:Nat}:(Ds w kf a p).testBit b=true↔(kf a p).BO.testBit b=true\/b=0\/ ∃s∈(kf a p).AI,(kf a (p++[s])).AV=true/\b=(BG w s).toNat:=by
 rw[Ds,Wu,Cn,EW,CF,or_assoc]
def PX {w:AF} (hw:Fu w) {ls:List Fact} (hl: ∀l∈ls,CQ w l) {a:Int} {p:List Int} {C C':Nat->Bool} {kid:Int->Er} (h: ∀b,3<=b->C b=C' b) (hT:TT w ls a p (.obj C kid)):TT w ls a p (.obj C' kid):=fun l k1 k2 q hq=>by
 rw[<-hT l k1 k2 q hq];cases q with
 | nil=>
   show Cg _ _=Cg _ _;simp only[Cg];by_cases h3:3<=(Ad l).1.cls
   .rw[h _ (by omega)]
   .rw[decide_eq_false h3,Bool.false_and,Bool.false_and]
 | cons s r=>
   have:=Fh hw ((hl l k1).path s (by rw[hq];simp));rw[Ir,Ir,h _ (by omega)]
def kx {w : AF} (hw:Fu w) {ls:List Fact} (hl: ∀l∈ls,CQ w l) {a:Int} {p:List Int} {can:Int->Bool} (hcan: ∀s∈(kg ls a p).AI,(can s=true↔ ∃t,E0 w t/\TT w ls a (p++[s]) t)) :
    VG w (kg ls) a p can=true↔ ∃C kid,E0 w (.obj C kid)/\TT w ls a p (.obj C kid):=by
 have hmb:=fun b=>dd (w:=w) (kf:=kg ls) (a:=a) (p:=p) (b:=b)
 have hcb:=fun b=>JA hw.ord (Ds w (kg ls) a p) w.parents.length b (Ft _)
 obtain⟨-,-,-,c4,-,-⟩:=Km (Uk ls a p)
 have hmi: ∀b,(kg ls a p).BO.testBit b=true↔ ∃l∈ls,((Ad l).1.arg=a/\(Ad l).1.path=p)/\(Ad l).1.op=2/\(Ad l).2=false/\(Ad l).1.cls.toNat=b:=fun b=>by
  rw[c4,Gz];constructor
  .rintro⟨l,h1,h2⟩
   exact⟨l,(HD.1 h1).1,Dl.1 (HD.1 h1).2,h2⟩
  .rintro⟨l,h1,h2,h3⟩
   exact⟨l,HD.2 ⟨h1,Dl.2 h2⟩,h3⟩
 have hge: ∀b,b=1\/b=2->(Bk (Ah w.parents) w.parents.length (Ds w (kg ls) a p)).testBit b=true->(Ds w (kg ls) a p).testBit b=true:=fun b hb h=>by
  rcases(hcb b).1 h with h|⟨d,h1,_,_,h2⟩
  .exact h
  .rcases h2 with h2|h2
   .omega
   .have:=Jw hw.ord d b h1 h2
    omega
 rw[VG,A4,A4,Bool.not_eq_true',Bool.not_eq_true'];constructor
 .rintro⟨m1,m2,ho⟩
  have u0:(Bk (Ah w.parents) w.parents.length (Ds w (kg ls) a p)).testBit 0=true:=(hcb 0).2 (.inl ((hmb 0).2 (.inr (.inl rfl))))
  have u1:(Bk (Ah w.parents) w.parents.length (Ds w (kg ls) a p)).testBit 1=false:=by
   rw[<-Bool.not_eq_true];intro h;rw[hge 1 (.inl rfl) h]at m1;cases m1
  have u2:(Bk (Ah w.parents) w.parents.length (Ds w (kg ls) a p)).testBit 2=false:=by
   rw[<-Bool.not_eq_true];intro h;rw[hge 2 (.inr rfl) h]at m2;cases m2
  obtain⟨kid,h1,h2⟩:=(QR hw hl (OK:=E0 w) trivial u0 u1 u2 hcan).1 ho;refine⟨_,kid,⟨fun c h3 hc q hq=>?_,h1⟩,h2⟩;have hqc:=hw.ord c q hq
  have hcl:c<3+w.parents.length:=by
   rcases Nat.lt_or_ge c (3+w.parents.length)with h'|h'
   .exact h'
   .rw[par,if_neg (by omega),Cq,List.getElem?_eq_none (by omega)]at hq;cases hq
  have hup:FQ w.parents c q.toNat=true:=by
   rw[DM hw.ord,EW,GY];exact .inr ⟨q,hq,Cl hw.ord _⟩
  rcases(hcb c).1 hc with h|⟨d,k1,k2,k3,k4⟩
  .exact(hcb _).2 (.inr ⟨c,h3,hcl,h,.inr hup⟩)
  .refine(hcb _).2 (.inr ⟨d,k1,k2,k3,.inr ?_⟩)
   rcases k4 with k4|k4
   .omega
   .exact IV hw.ord _ _ _ k4 hup
 .rintro ⟨C,kid,⟨hC,hkid⟩,hT⟩
  have hleaf: ∀l∈ls,(Ad l).1.arg=a->(Ad l).1.path=p->((Ad l).1.op==2&&((Ad l).1.cls==0||(decide (3<=(Ad l).1.cls)&&C (Ad l).1.cls.toNat)))= !(Ad l).2:=fun l k1 k2 k3=>hT l k1 k2 [] (by rw[k3];simp)
  have hM: ∀b,(Ds w (kg ls) a p).testBit b=true->b=0\/3<=b/\C b=true:=fun b hb=>by
   rcases(hmb b).1 hb with h|h|⟨s,h1,h2,h3⟩
   .obtain⟨l,k1,⟨k2,k3⟩,ho,hb2,rfl⟩:=(hmi b).1 h
    have:=hleaf l k1 k2 k3;rw[hb2,Bool.not_false,A4,EW,A4,CF,CF,B7]at this;rcases this.2 with e|⟨e1,e2⟩
    .left;omega
    .exact .inr ⟨by omega,e2⟩
   .exact .inl h
   .have hin:=Fh hw (gL hl h1)
    refine .inr ⟨by omega,?_⟩;rw[Ku,Bool.not_eq_true',<-Bool.not_eq_true]at h2;rcases Classical.em (C (BG w s).toNat=true)with e|e
    .rw[h3];exact e
    .refine absurd (D5.2 fun l k1 k2 q hq=>?_) h2
     have:=hT l k1 k2 (s::q) (by rw[hq];simp);rw[Bool.not_eq_true]at e;rw[Ir,e,Bool.false_and]at this;simpa using this.symm
  have hU: ∀b,(Bk (Ah w.parents) w.parents.length (Ds w (kg ls) a p)).testBit b=true->b=0\/3<=b/\C b=true:=fun b hb=>by
   rcases(hcb b).1 hb with h|⟨d,k1,k2,k3,k4⟩
   .exact hM b h
   .rcases k4 with k4|k4
    .exact .inl k4
    .rcases hM d k3 with e|⟨_,e⟩
     .omega
     .exact .inr ⟨Jw hw.ord d b k1 k4,OA hw.ord hC d b k1 e k4⟩
  have u0:(Bk (Ah w.parents) w.parents.length (Ds w (kg ls) a p)).testBit 0=true:=(hcb 0).2 (.inl ((hmb 0).2 (.inr (.inl rfl))))
  have u1:(Bk (Ah w.parents) w.parents.length (Ds w (kg ls) a p)).testBit 1=false:=by
   rw[<-Bool.not_eq_true];intro h;rcases hU 1 h with e|⟨e,_⟩<;>omega
  have u2:(Bk (Ah w.parents) w.parents.length (Ds w (kg ls) a p)).testBit 2=false:=by
   rw[<-Bool.not_eq_true];intro h;rcases hU 2 h with e|⟨e,_⟩<;>omega
  refine⟨?_,?_,(QR hw hl (OK:=E0 w) trivial u0 u1 u2 hcan).2 ⟨kid,hkid,fun l k1 k2 q hq=>?_⟩⟩
  .rw[<-Bool.not_eq_true];intro h;rcases hM 1 h with e|⟨e,_⟩<;>omega
  .rw[<-Bool.not_eq_true];intro h;rcases hM 2 h with e|⟨e,_⟩<;>omega
  have hTl:=hT l k1 k2 q hq;cases q with
  | nil =>
    rw[D8]at hq;have hcl:=(hl l k1).cls;have hlf:=hleaf l k1 k2 hq;show Cg _ _=_;simp only[Cg];cases hb:(Ad l).2
    .rw[hb,Bool.not_false,A4,CF]at hlf
     have hm:=(hcb _).2 (.inl ((hmb _).2 (.inl ((hmi _).2 ⟨l,k1,⟨k2,hq⟩,hlf.1,hb,rfl⟩))));rw[CF.2 hlf.1,hm,Cc,Bool.and_true];have:=hlf.2;rw[EW,A4]at this;rcases this with e|e
     .rw[e];rfl
     .rw[e.1];simp
    .rw [hb,Bool.not_true]at hlf
     rw[Bool.not_true];by_cases ho:(Ad l).1.op=2
     .rw [CF.2 ho,Cc,Bool.or_eq_false_iff]at hlf
      rw[CF.2 ho,Cc,hlf.1,Bool.false_or];cases hu:(Bk (Ah w.parents) w.parents.length (Ds w (kg ls) a p)).testBit (Ad l).1.cls.toNat
      .simp
      .rcases hU _ hu with e|⟨e1,e2⟩
       .have hne:=beq_eq_false_iff_ne.1 hlf.1
        have:=hcl ho;omega
       .rw[e2,Bool.and_true]at hlf
        rw[hlf.2,Bool.false_and]
     .rw[beq_eq_false_iff_ne.2 ho];rfl
  | cons s r=>
    have hs:s∈(kg ls a p).AI:=(J8 hl).2 ⟨l,k1,k2,r,hq⟩;have hin:=Fh hw (gL hl hs);rw[Ir]at hTl ⊢;cases hu:(Bk (Ah w.parents) w.parents.length (Ds w (kg ls) a p)).testBit (BG w s).toNat
    .have hnn:(kg ls a (p++[s])).AV=false:=by
      rw[<-Bool.not_eq_true];intro hne;rw[(hcb _).2 (.inl ((hmb _).2 (.inr (.inr ⟨s,hs,hne,rfl⟩))))]at hu;cases hu
     rw[Ku,Bool.not_eq_false']at hnn;rw[D5.1 hnn l k1 k2 r (by rw[hq];simp)];rfl
    .rcases hU _ hu with e|⟨_,e2⟩
     .omega
     .rw[e2,Cc]at hTl
      rw[Cc];exact hTl
def W8 {w:AF} (hw:Fu w) {ls:List Fact} (hl: ∀l∈ls,CQ w l) (a:Int): ∀(d:Nat) (p:List Int),p.length+d=2->(R3 w (kg ls) a d p=true↔ ∃t,E0 w t/\TT w ls a p t):=by
 have key: ∀(p:List Int) (can:Int->Bool),(∀s∈(kg ls a p).AI,(can s=true↔ ∃t,E0 w t/\TT w ls a (p++[s]) t))->((Dq (kg ls) a p||(CR (kg ls) a p||VG w (kg ls) a p can))=true↔ ∃t,E0 w t/\TT w ls a p t):=fun p can hcan=>by
  rw[EW,EW,a8 hw hl,WX hw hl,kx hw hl hcan];constructor
  .rintro(⟨m,h1,h2⟩|h|⟨C,kid,h1,h2⟩)
   .exact⟨_,h1,h2⟩
   .exact⟨.Gi,trivial,h⟩
   .exact⟨_,h1,h2⟩
  .rintro⟨t,h1,h2⟩
   cases t with
   | int m=>exact .inl ⟨m,h1,h2⟩
   | Gi=>exact .inr (.inl h2)
   | obj C kid=>exact .inr (.inr ⟨C,kid,h1,h2⟩)
 intro d
 induction d with
 | zero=>
   intro p hp;rw[R3];refine key p _ fun s hs=>?_
   obtain⟨l,h1,h2,q,hq⟩:=(J8 hl).1 hs;have:=(hl l h1).short;rw[hq]at this;simp at this;omega
 | succ d ih=>
   intro p hp;rw[R3];exact key p _ fun s _=>ih (p++[s]) (by simp;omega)
def VC (w:AF):Er->Prop
 | .int n=> -1000000000<=n/\n<=1000000000
 | .Gi=>True
 | .obj C kid=>(∃c:Nat,3<=c/\c<3+w.parents.length/\ ∀b,C b=FQ w.parents c b)/\ ∀s,VC w (kid s)
def Tk (w:AF) (t:Er) (c:Nat):Prop:=match t with
 | .int _=>c=1
 | .Gi=>c=2
 | .obj C _=>3<=c/\c<3+w.parents.length/\ ∀b,C b=FQ w.parents c b
def gq {w:AF}: ∀t:Er,VC w t-> ∃c,Tk w t c/\1<=c/\c<3+w.parents.length
 | .int _,_=>⟨1,rfl,by omega,by omega⟩
 | .Gi,_=>⟨2,rfl,by omega,by omega⟩
 | .obj C kid,⟨⟨c,h1,h2,h3⟩,_⟩=>⟨c,⟨h1,h2,h3⟩,by omega,h2⟩
def VP (w:AF) (kf:Int->List Int->Kn) (a:Int) (p:List Int) (can:Int->Bool) (c:Nat):Bool:=
 if c=1 then Dq kf a p else if c=2 then CR kf a p else Rz w kf a p ((Ah w.parents).getD c 0) can
def R4 (w:AF) (kf:Int->List Int->Kn) (a:Int):Nat->(Nat->Bool)->List Int->Bool
 | 0,fit,p=>(List.range (3+w.parents.length)).any fun c=>decide (1<=c)&&(fit c&&VP w kf a p (fun _=>false) c)
 | d+1,fit,p=>(List.range (3+w.parents.length)).any fun c=>decide (1<=c)&&(fit c&&VP w kf a p (fun s=>R4 w kf a d (fun _=>true) (p++[s])) c)
def W0 {w : AF} (hw:Fu w) {ls:List Fact} (hl: ∀l∈ls,CQ w l) {a:Int} {p:List Int} {can:Int->Bool} (hcan: ∀s∈(kg ls a p).AI,(can s=true↔ ∃t,VC w t/\TT w ls a (p++[s]) t)) {c:Nat} (h1:1<=c) (h2:c<3+w.parents.length) :
    VP w (kg ls) a p can c=true↔ ∃t,Tk w t c/\VC w t/\TT w ls a p t:=by
 rw[VP];split
 .rename_i e
  subst e;rw[a8 hw hl];constructor
  .rintro⟨m,k1,k2⟩
   exact⟨.int m,rfl,k1,k2⟩
  .rintro⟨t,k0,k1,k2⟩
   cases t with
   | int m=>exact⟨m,k1,k2⟩
   | Gi=>cases k0
   | obj C kid=>exact absurd k0.1 (by omega)
 .split
  .rename_i e
   subst e;rw[WX hw hl];constructor
   .intro k
    exact⟨.Gi,rfl,trivial,k⟩
   .rintro⟨t,k0,k1,k2⟩
    cases t with
    | int m=>cases k0
    | Gi=>exact k2
    | obj C kid=>exact absurd k0.1 (by omega)
  .rename_i e1 e2
   have hb:=fun b=>J4 hw.ord (b:=b) h2
   have h3:3<=c:=by omega
   have u0:((Ah w.parents).getD c 0).testBit 0=true:=by rw[hb];rfl
   have hno: ∀b,b=1\/b=2->((Ah w.parents).getD c 0).testBit b=false:=fun b hbb=>by
    rw[hb,<-Bool.not_eq_true,EW,CF];rintro(h|h)
    .omega
    .have:=Jw hw.ord c b h3 h
     omega
   rw[QR hw hl (OK:=VC w) trivial u0 (hno 1 (.inl rfl)) (hno 2 (.inr rfl)) hcan]
   have hagree: ∀b,3<=b->((Ah w.parents).getD c 0).testBit b=FQ w.parents c b:=fun b hb3=>by
    rw[hb,beq_eq_false_iff_ne.2 (show b≠0 by omega),Bool.false_or]
   constructor
   .rintro⟨kid,k1,k2⟩
    exact⟨.obj (fun b=>FQ w.parents c b) kid,⟨h3,h2,fun _=>rfl⟩,⟨⟨c,h3,h2,fun _=>rfl⟩,k1⟩,PX hw hl hagree k2⟩
   .rintro⟨t,k0,k1,k2⟩
    cases t with
    | int m=>exact absurd k0 (by simp only[Tk];omega)
    | Gi=>exact absurd k0 (by simp only[Tk];omega)
    | obj C kid=>
      exact⟨kid,k1.2,PX hw hl (fun b hb3=>by rw[hagree b hb3,k0.2.2]) k2⟩
def M7 {w:AF} (hw:Fu w) {ls:List Fact} (hl: ∀l∈ls,CQ w l) (a:Int): ∀(d:Nat) (fit:Nat->Bool) (p:List Int),p.length+d=2->(R4 w (kg ls) a d fit p=true↔ ∃t c,Tk w t c/\fit c=true/\VC w t/\TT w ls a p t):=by
 have key: ∀(fit:Nat->Bool) (p:List Int) (can:Int->Bool),(∀s∈(kg ls a p).AI,(can s=true↔ ∃t,VC w t/\TT w ls a (p++[s]) t))->(((List.range (3+w.parents.length)).any fun c=>decide (1<=c)&&(fit c&&VP w (kg ls) a p can c))=true↔ ∃t c,Tk w t c/\fit c=true/\VC w t/\TT w ls a p t):=fun fit p can hcan=>by
  rw[GY];constructor
  .rintro⟨c,h1,h2⟩
   rw[A4,A4,B7]at h2;obtain⟨t,k0,k1,k2⟩:=(W0 hw hl hcan h2.1 (List.mem_range.1 h1)).1 h2.2.2;exact⟨t,c,k0,h2.2.1,k1,k2⟩
  .rintro⟨t,c,k0,k1,k2,k3⟩
   have hc:1<=c/\c<3+w.parents.length:=by
    cases t with
    | int m=>have k0:c=1:=k0;omega
    | Gi=>have k0:c=2:=k0;omega
    | obj C kid=>have:=k0.1;have:=k0.2.1;omega
   refine⟨c,List.mem_range.2 hc.2,?_⟩;rw[decide_eq_true hc.1,k1,(W0 hw hl hcan hc.1 hc.2).2 ⟨t,k0,k2,k3⟩];rfl
 intro d
 induction d with
 | zero=>
   intro fit p hp;rw[R4];refine key fit p _ fun s hs=>?_
   obtain⟨l,h1,h2,q,hq⟩:=(J8 hl).1 hs;have:=(hl l h1).short;rw[hq]at this;simp at this;omega
 | succ d ih=>
   intro fit p hp;rw[R4];refine key fit p _ fun s _=>?_
   rw[ih (fun _=>true) (p++[s]) (by simp;omega)];constructor
   .rintro⟨t,c,_,_,k1,k2⟩
    exact⟨t,k1,k2⟩
   .rintro⟨t,k1,k2⟩
    obtain⟨c,k3,_⟩:=gq t k1;exact⟨t,c,k3,rfl,k1,k2⟩
def Jb (cs:List Int) (a:Int) (c:Nat):Bool:=decide ((cs.length:Int)<=a)||cs.getD a.toNat 0==(c:Int)
def Ji (w:AF) (cs:List Int) (ls:List Fact):Bool:=(Aw 3).all fun a=>R4 w (kg ls) a 2 (Jb cs a) []
def mw (w:AF) (ls:List Fact):Bool:=(Aw 3).all fun a=>R3 w (kg ls) a 2 []
def nC (w:AF) (cs:List Int) (M:Int->Er):Prop:= ∀a,VC w (M a)/\(0<=a->a<3-> ∃c,Tk w (M a) c/\Jb cs a c=true)
def ym (w:AF) (M:Int->Er):Prop:= ∀a,E0 w (M a)
def IK {w:AF} (hw:Fu w) {cs:List Int} {ls:List Fact} (hl: ∀l∈ls,CQ w l):Ji w cs ls=true↔ ∃M:Int->Er,nC w cs M/\ ∀l∈ls,E4 w M l:=by
 rw[Ji,Cu];constructor
 .intro h
  have hk: ∀a:Int,∃t,VC w t/\(0<=a/\a<3->TT w ls a [] t/\ ∃c,Tk w t c/\Jb cs a c=true):=fun a=>by
   rcases Classical.em (0<=a/\a<3)with e|e
   .obtain⟨t,c,k0,k1,k2,k3⟩:=(M7 hw hl a 2 _ [] rfl).1 (h a (BW.2 e))
    exact⟨t,k2,fun _=>⟨k3,c,k0,k1⟩⟩
   .exact⟨.Gi,trivial,fun k=>absurd k e⟩
  exact⟨fun a=>Classical.choose (hk a),fun a=>⟨(Classical.choose_spec (hk a)).1,fun h0 h1=>((Classical.choose_spec (hk a)).2 ⟨h0,h1⟩).2⟩,fun l k=>((Classical.choose_spec (hk (Ad l).1.arg)).2 (hl l k).arg).1 l k rfl _ rfl⟩
 .rintro⟨M,h1,h2⟩ a ha
  have ha:=BW.1 ha;obtain⟨c,k0,k1⟩:=(h1 a).2 ha.1 (by omega);refine(M7 hw hl a 2 _ [] rfl).2 ⟨M a,c,k0,k1,(h1 a).1,fun l k1 k2 q hq=>?_⟩;have:=h2 l k1;rw[E4,k2]at this;rw[List.nil_append]at hq;rw[<-hq];exact this
def j5 {w:AF} (hw:Fu w) {ls:List Fact} (hl: ∀l∈ls,CQ w l):mw w ls=true↔ ∃M:Int->Er,ym w M/\ ∀l∈ls,E4 w M l:=by
 show _↔ ∃M:Int->Er,(∀a,E0 w (M a))/\_;rw[mw,Cu,<-Mk hw hl,EN,Cu];constructor
 .intro h a ha
  exact(KB hw hl a 2 [] rfl).2 ((W8 hw hl a 2 [] rfl).1 (h a ha))
 .intro h a ha
  exact(W8 hw hl a 2 [] rfl).2 ((KB hw hl a 2 [] rfl).1 (h a ha))
def stepOf (w:AF) (c:Int) (x:Fact×Bool):Bool:=(x.1.op==2&&Gn w.parents c x.1.cls)==x.2
def yQ (w:AF) (ls:List Fact) (a:Int) (p:List Int) (can:Int->Bool) (c:Int):Bool:=
 (ls.filter (Iq a p)).all (fun l=> !stepOf w c (Ad l))&&(CN w.owner.length ls a p).all fun s=>if hasB w c s then can s else Eu ls a (p++[s])
def cV (w:AF) (ls:List Fact) (a:Int):Nat->List Int->Bool
 | 0,p=>((NY ls a p).isSome&&HV w.owner.length ls a p)||(Jr w.owner.length ls a p||(Aw w.parents.length).any fun c=>yQ w ls a p (fun _=>false) (3+c))
 | d+1,p=>((NY ls a p).isSome&&HV w.owner.length ls a p)||(Jr w.owner.length ls a p||(Aw w.parents.length).any fun c=>yQ w ls a p (fun s=>cV w ls a d (p++[s])) (3+c))
def UW {w : AF} (hw:Fu w) {ls:List Fact} (hl: ∀l∈ls,CQ w l) {a:Int} {p:List Int} {can:Int->Bool} (hcan: ∀s∈CN w.owner.length ls a p,(can s=true↔ ∃t,VC w t/\TT w ls a (p++[s]) t)) {c:Int} (h3:3<=c) (hc:c<3+(w.parents.length:Int)) :
    yQ w ls a p can c=true↔ ∃kid,(∀s,VC w (kid s))/\TT w ls a p (.obj (fun b=>FQ w.parents c.toNat b) kid):=by
 have hleaf: ∀l∈ls,∀kid,Cg (.obj (fun b=>FQ w.parents c.toNat b) kid) (Ad l).1=((Ad l).1.op==2&&Gn w.parents c (Ad l).1.cls):=fun l hm kid=>by
  simp only[Cg];by_cases ho:(Ad l).1.op=2
  .have hcl:=(hl l hm).cls ho
   rw[CF.2 ho,Cc,Cc,Gn,decide_eq_true h3,Cc];by_cases hz:(Ad l).1.cls=0
   .rw[hz];simp
   rw[beq_eq_false_iff_ne.2 hz,Bool.false_or,Bool.false_or];by_cases h3c:3<=(Ad l).1.cls
   .rw[decide_eq_true h3c,Cc]
    by_cases he:c=(Ad l).1.cls
    .rw[<-he,Cl hw.ord];simp
    .rw[beq_eq_false_iff_ne.2 he,Bool.false_or]
   .rw[decide_eq_false h3c,Bool.false_and,beq_eq_false_iff_ne.2 (show c≠(Ad l).1.cls by omega),Bool.false_or]
    cases hb:FQ w.parents c.toNat (Ad l).1.cls.toNat
    .rfl
    .have:=Jw hw.ord _ _ (by omega) hb
     omega
  .rw[beq_eq_false_iff_ne.2 ho];rfl
 have hhas: ∀s,0<=s/\s<(w.owner.length:Int)->hasB w c s=FQ w.parents c.toNat (BG w s).toNat:=fun s hs=>by
  have ho:=Fh hw hs;rw[hasB,Gn,decide_eq_true h3,Cc,beq_eq_false_iff_ne.2 (show BG w s≠0 by omega),Bool.false_or,Cc];by_cases he:c=BG w s
  .rw[<-he,Cl hw.ord];simp
  .rw[beq_eq_false_iff_ne.2 he,Bool.false_or]
 have hstep: ∀l∈ls,∀kid,(!stepOf w c (Ad l))=true↔Cg (.obj (fun b=>FQ w.parents c.toNat b) kid) (Ad l).1= !(Ad l).2:=fun l hm kid=>by
  rw[hleaf l hm kid,stepOf];cases((Ad l).1.op==2&&Gn w.parents c (Ad l).1.cls)<;>cases(Ad l).2<;>decide
 rw[yQ,A4,Cu,Cu];constructor
 .rintro⟨h1,h2⟩
  have hk: ∀s,∃t,VC w t/\(s∈CN w.owner.length ls a p->hasB w c s=true->TT w ls a (p++[s]) t):=fun s=>by
   rcases Classical.em (s∈CN w.owner.length ls a p/\hasB w c s=true)with⟨e1,e2⟩|e
   .have:=h2 s e1
    rw[if_pos e2]at this;obtain⟨t,q1,q2⟩:=(hcan s e1).1 this;exact⟨t,q1,fun _ _=>q2⟩
   .exact⟨.Gi,trivial,fun e1 e2=>absurd ⟨e1,e2⟩ e⟩
  refine⟨fun s=>Classical.choose (hk s),fun s=>(Classical.choose_spec (hk s)).1,fun l k1 k2 q hq=>?_⟩;cases q with
  | nil=>
    rw[D8]at hq;exact(hstep l k1 _).1 (h1 l (HD.2 ⟨k1,Dl.2 ⟨k2,hq⟩⟩))
  | cons s r=>
    have hs:s∈CN w.owner.length ls a p:=(IX hl).2 ⟨l,k1,k2,r,hq⟩;have hin:=IY hs;rw[Ir,<-hhas s hin];have hsp:=(Classical.choose_spec (hk s)).2;generalize Classical.choose (hk s)=t at hsp ⊢;cases hu:hasB w c s
    .have:=h2 s hs
     rw[hu,if_neg (by decide)]at this;rw[D5.1 this l k1 k2 r (by rw[hq];simp)];rfl
    .rw[Cc]
     exact hsp hs hu l k1 k2 r (by rw[hq];simp)
 .rintro⟨kid,hkid,hT⟩
  refine⟨fun l hm=>?_,fun s hs=>?_⟩
  .obtain⟨k1,k2⟩:=HD.1 hm
   obtain⟨k3,k4⟩:=Dl.1 k2;exact(hstep l k1 kid).2 (hT l k1 k3 [] (by rw[k4];simp))
  .have hin:=IY hs
   cases hu:hasB w c s
   .rw[if_neg (by decide)]
    refine D5.2 fun l k1 k2 q hq=>?_
    have:=hT l k1 k2 (s::q) (by rw[hq];simp);rw[Ir,<-hhas s hin,hu,Bool.false_and]at this;simpa using this.symm
   .rw[if_pos rfl]
    refine(hcan s hs).2 ⟨kid s,hkid s,fun l k1 k2 q hq=>?_⟩;have:=hT l k1 k2 (s::q) (by rw[hq];simp)
    rwa [Ir,<-hhas s hin,hu,Cc]at this
def W9 {w:AF} (hw:Fu w) {ls:List Fact} (hl: ∀l∈ls,CQ w l) (a:Int): ∀(d:Nat) (p:List Int),p.length+d=2->(cV w ls a d p=true↔ ∃t,VC w t/\TT w ls a p t):=by
 have key: ∀(p:List Int) (can:Int->Bool),(∀s∈CN w.owner.length ls a p,(can s=true↔ ∃t,VC w t/\TT w ls a (p++[s]) t))->((((NY ls a p).isSome&&HV w.owner.length ls a p)||(Jr w.owner.length ls a p||(Aw w.parents.length).any fun c=>yQ w ls a p can (3+c)))=true↔ ∃t,VC w t/\TT w ls a p t):=fun p can hcan=>by
  rw[EW,EW,M0 hl,Ie hl,GY];constructor
  .rintro(⟨m,h1,h2⟩|h|⟨c,h1,h2⟩)
   .exact⟨.int m,h1,h2⟩
   .exact⟨.Gi,trivial,h⟩
   .have:=BW.1 h1
    obtain⟨kid,k1,k2⟩:=(UW hw hl hcan (by omega) (by omega)).1 h2;exact⟨.obj (fun b=>FQ w.parents (3+c).toNat b) kid,⟨⟨(3+c).toNat,by omega,by omega,fun _=>rfl⟩,k1⟩,k2⟩
  .rintro⟨t,h1,h2⟩
   cases t with
   | int m=>exact .inl ⟨m,h1,h2⟩
   | Gi=>exact .inr (.inl h2)
   | obj C kid=>
     obtain⟨⟨c,k1,k2,k3⟩,k4⟩:=h1;refine .inr (.inr ⟨(c:Int) - 3,BW.2 (by omega),(UW hw hl hcan (by omega) (by omega)).2 ⟨kid,k4,?_⟩⟩);rw[show(3+((c:Int) - 3)).toNat=c by omega];exact PX hw hl (fun b _=>k3 b) h2
 intro d
 induction d with
 | zero=>
   intro p hp;rw[cV];refine key p _ fun s hs=>?_
   rw[IW (m:=2) (fun l h=>(hl l h).short) (by omega)]at hs;cases hs
 | succ d ih=>
   intro p hp;rw[cV];exact key p _ fun s _=>ih (p++[s]) (by simp;omega)
def ru (w:AF) (ls:List Fact) (cs:List Int) (a:Int):Bool:=
 if(cs.length:Int)<=a\/cs.getD a.toNat 0=0 then cV w ls a 2 []else if cs.getD a.toNat 0=1 then(NY ls a []).isSome&&HV w.owner.length ls a []else if cs.getD a.toNat 0=2 then Jr w.owner.length ls a []else yQ w ls a [] (fun s=>cV w ls a 1 [s]) (cs.getD a.toNat 0)
def X4 (w:AF) (cs:List Int) (ls:List Fact):Bool:=(Aw 3).all (ru w ls cs)
def V3 {w : AF} (hw:Fu w) {ls:List Fact} (hl: ∀l∈ls,CQ w l) {cs:List Int} (hcs: ∀c∈cs,1<=c/\c<3+(w.parents.length:Int)) {a:Int} (h0:0<=a):ru w ls cs a=true↔ ∃t c,Tk w t c/\Jb cs a c=true/\VC w t/\TT w ls a [] t:=by
 rw[ru];by_cases hle:(cs.length:Int)<=a
 .rw[if_pos (.inl hle),W9 hw hl a 2 [] rfl]
  have hf: ∀c,Jb cs a c=true:=fun c=>by rw[Jb,decide_eq_true hle];rfl
  constructor
  .rintro⟨t,k1,k2⟩
   obtain⟨c,k3,_⟩:=gq t k1;exact⟨t,c,k3,hf c,k1,k2⟩
  .rintro⟨t,c,_,_,k1,k2⟩
   exact⟨t,k1,k2⟩
 .obtain ⟨x,hx⟩: ∃x,cs[a.toNat]? =some x:=⟨_,Cd (by omega)⟩
  have hxd:cs.getD a.toNat 0=x:=by rw[Cq,hx];rfl
  have hxc:=hcs x (B6 hx);have hf: ∀c:Nat,Jb cs a c=true↔x=(c:Int):=fun c=>by rw[Jb,decide_eq_false hle,Bool.false_or,hxd,CF]
  rw[hxd,if_neg (by omega)];by_cases h1:x=1
  .rw[if_pos h1,M0 hl]
   constructor
   .rintro⟨m,k1,k2⟩
    exact⟨.int m,1,rfl,(hf 1).2 h1,k1,k2⟩
   .rintro⟨t,c,k0,k1,k2,k3⟩
    have:=(hf c).1 k1;cases t with
    | int m=>exact⟨m,k2,k3⟩
    | Gi=>have k0:c=2:=k0;omega
    | obj C kid=>have:=k0.1;omega
  .rw [if_neg h1]
   by_cases h2:x=2
   .rw[if_pos h2,Ie hl]
    constructor
    .intro k
     exact⟨.Gi,2,rfl,(hf 2).2 h2,trivial,k⟩
    .rintro⟨t,c,k0,k1,k2,k3⟩
     have:=(hf c).1 k1;cases t with
     | int m=>have k0:c=1:=k0;omega
     | Gi=>exact k3
     | obj C kid=>have:=k0.1;omega
   .rw [if_neg h2,UW hw hl (fun s _=>W9 hw hl a 1 [s] rfl) (by omega) (by omega)]
    constructor
    .rintro⟨kid,k1,k2⟩
     exact⟨.obj (fun b=>FQ w.parents x.toNat b) kid,x.toNat,⟨by omega,by omega,fun _=>rfl⟩,(hf _).2 (by omega),⟨⟨x.toNat,by omega,by omega,fun _=>rfl⟩,k1⟩,k2⟩
    .rintro⟨t,c,k0,k1,k2,k3⟩
     have:=(hf c).1 k1;cases t with
     | int m=>have k0:c=1:=k0;omega
     | Gi=>have k0:c=2:=k0;omega
     | obj C kid=>
       refine⟨kid,k2.2,PX hw hl (fun b _=>?_) k3⟩;rw[k0.2.2,show x.toNat=c by omega]
def se {w:AF} (hw:Fu w) {cs:List Int} (hcs: ∀c∈cs,1<=c/\c<3+(w.parents.length:Int)) {ls:List Fact} (hl: ∀l∈ls,CQ w l):Ji w cs ls=X4 w cs ls:=by
 rw[Ji,X4,Hl,Cu,Cu];constructor
 .intro h a ha
  exact(V3 hw hl hcs (BW.1 ha).1).2 ((M7 hw hl a 2 _ [] rfl).1 (h a ha))
 .intro h a ha
  exact(M7 hw hl a 2 _ [] rfl).2 ((V3 hw hl hcs (BW.1 ha).1).1 (h a ha))
end Go.Gl
