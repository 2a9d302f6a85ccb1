import Derived.Test.YtnidfcmdimehdaaGreatU20
import Derived.Test.YtnidfcmdimehdaaGreatU24
import Derived.Test.YtnidfcmdimehdaaGreatU25
set_option linter.all false
set_option linter.defProp false
set_option maxHeartbeats 8000000
noncomputable section
namespace Go.Gl
def G4 (no:List Int):Nat->Int->Int
 | 0,n=>n
 | k+1,n=>if no.contains n then G4 no k (n+1)else n
def from_ (no:List Int) (n:Int):Nat:=(no.filter fun x=>decide (n<=x)).length
def PM {no:List Int} {n:Int} (h:n∈no):from_ no (n+1)<from_ no n:=by
 induction no with
 | nil=>cases h
 | cons x r ih=>
   simp only[from_,List.filter_cons]at ih ⊢;by_cases hx:x=n
   .subst hx
    have hle:(r.filter fun y=>decide (x+1<=y)).length<=(r.filter fun y=>decide (x<=y)).length:=by
     refine List.Sublist.length_le ?_
     have e:(r.filter fun y=>decide (x+1<=y))=(r.filter fun y=>decide (x<=y)).filter fun y=>decide (x+1<=y):=by
      rw[List.filter_filter];refine List.filter_congr fun y _=>?_
      rw[KF,A7,CF,CF];omega
     rw[e];exact List.filter_sublist
    rw[if_neg (by simp<;>omega),if_pos (by simp),JU];omega
   .have h':n∈r:=by
     rcases Ff.1 h with e|e
     .exact absurd e.symm hx
     .exact e
    have:=ih h';by_cases h1:n<=x
    .rw[if_pos (by rw[CF];omega),if_pos (by rw[CF];omega),JU,JU]
     omega
    .rw[if_neg (by rw[CF];omega),if_neg (by rw[CF];omega)]
     omega
def Uk (no:List Int) (n:Int):from_ no n<=no.length:=NI _ _
def My {no:List Int}: ∀(k:Nat) (n:Int),from_ no n<=k->n<=G4 no k n/\G4 no k n∉no/\ ∀j,n<=j->j<G4 no k n->j∈no
 | 0,n,h=>by
   refine⟨Int.le_refl _,fun hm=>?_,fun j h1 h2=>by simp only[G4]at h2;omega⟩;have:=PM hm;simp only[G4]at this;omega
 | k + 1,n,h=>by
   rw[G4];split
   .rename_i hc
    rw[List.contains_iff_mem]at hc;have hlt:=PM hc;obtain⟨h1,h2,h3⟩:=My (no:=no) k (n+1) (by omega);refine⟨by omega,h2,fun j hj1 hj2=>?_⟩;by_cases e:j=n
    .subst e;exact hc
    .exact h3 j (by omega) hj2
   .rename_i hc
    exact⟨Int.le_refl _,fun hm=>hc (List.contains_iff_mem.2 hm),fun j h1 h2=>by omega⟩
def iG {no:List Int} {k:Nat} {n:Int} (h:n∈no):G4 no (k+1) n=G4 no k (n+1):=by rw[G4,if_pos (List.contains_iff_mem.2 h)]
def bK {no:List Int} {k:Nat} {n:Int} (h:n∉no):G4 no k n=n:=by
 cases k with
 | zero=>rfl
 | succ k=>rw[G4,if_neg (fun hc=>h (List.contains_iff_mem.1 hc))]
def PQ {no:List Int} {k k':Nat} {n:Int} (h:from_ no n<=k) (h':from_ no n<=k'):G4 no k n=G4 no k' n:=by
 obtain⟨a1,a2,a3⟩:=My k n h;obtain⟨b1,b2,b3⟩:=My k' n h';rcases Int.lt_trichotomy (G4 no k n) (G4 no k' n)with hl|he|hg
 .exact absurd (b3 _ a1 hl) a2
 .exact he
 .exact absurd (a3 _ b1 hg) b2
def Ek (k:Kn):Int:=G4 k.no k.no.length k.low
def H7 (kf:Int->List Int->Kn) (a:Int) (p:List Int):Bool:=(kf a p).AL.all fun s=> !(kf a (p++[s])).Ab
def Ei (kf:Int->List Int->Kn) (a:Int) (p:List Int) (c:Nat):Bool:=Hu (kf a p).BJ (1|||2 ^ c)&&((kf a p).Dv&&&(1|||2 ^ c)==0&&H7 kf a p)
def GA (kf:Int->List Int->Kn) (a:Int) (p:List Int):Bool:=decide (Ek (kf a p)<=(kf a p).high)&&Ei kf a p 1
def DV (kf:Int->List Int->Kn) (a:Int) (p:List Int):Bool:= !(kf a p).whole&&Ei kf a p 2
def Ov (w:AE) (kf:Int->List Int->Kn) (a:Int):Nat->List Int->Bool
 | 0,p=>GA kf a p||(DV kf a p||(Oq w (kf a p) (fun s=>(kf a (p++[s])).Ab) (fun _=>false)).2)
 | d+1,p=>GA kf a p||(DV kf a p||(Oq w (kf a p) (fun s=>(kf a (p++[s])).Ab) (fun s=>Ov w kf a d (p++[s]))).2)
def eH (w:AE) (kf:Int->List Int->Kn):Bool:=(BE 3).all fun a=>Ov w kf a 2 []
def ak {n:Nat} {ls:List Fact} (h:Hc n ls) (a:Int) (p:List Int):H7 (kn ls) a p=DX n ls a p:=by
 rw[H7,DX,J3 h];congr 1;funext s;rw[Kj,Bool.not_not]
def YE {n m:Nat} {ls:List Fact} (hn:n<=64) (hc:G6 n ls) (h:Hc m ls) (a:Int) (p:List Int):GA (kn ls) a p=((F9 ls a p).isSome&&DX m ls a p):=by
 have hcore:=MN ls a p;have hc2:G6 n (ls.filter (Fq a p)):=fun l hl=>hc l (Ia.1 hl).1
 simp only[DY,Prod.mk.injEq]at hcore;obtain⟨c1,c2,c3,c4,c5,-⟩:=hcore;rw[GA,Ei,ak h,c4,c5,<-Bool.and_assoc (Hu _ _),cM hn hc2,<-Bool.and_assoc];congr 1;have hf:=TB (ls.filter (Fq a p)) k0;rw[F9,show t0=(k0.low,k0.high,k0.no) from rfl,hf,Ek,c2,c3,c1];obtain⟨h1,h2,h3⟩:=My (no:=(EW (ls.filter (Fq a p)) k0).no) _ (EW (ls.filter (Fq a p)) k0).low (Uk _ _);have hs:=iy (high:=(EW (ls.filter (Fq a p)) k0).high) h1 h2 h3;cases(ls.filter (Fq a p)).all fun l=>qO (Ac l)with
 | false=>simp
 | true=>rw[if_pos rfl,Option.bind_some,hs,Bool.and_true]
def UX {n m:Nat} {ls:List Fact} (hn:n<=64) (hc:G6 n ls) (h:Hc m ls) (a:Int) (p:List Int):DV (kn ls) a p=Ey m ls a p:=by
 have hcore:=MN ls a p;have hc2:G6 n (ls.filter (Fq a p)):=fun l hl=>hc l (Ia.1 hl).1
 simp only[DY,Prod.mk.injEq]at hcore;obtain⟨-,-,-,c4,c5,c6⟩:=hcore;rw[DV,Ei,ak h,c4,c5,c6,Ey,<-Yi hn hc2];simp only[Bool.and_assoc]
def gu {w:AE} {ls:List Fact} (ho:ordered w.parents) (how: ∀s:Int,0<=s->s<w.owner.length->3<=Bb w s/\Bb w s<3+w.parents.length) (hn:3+w.parents.length<=64) (hc:G6 (3+w.parents.length) ls) (hp:Hc w.owner.length ls) (a:Int): ∀(d:Nat) (p:List Int),Ov w (kn ls) a d p=L2 w ls a d p
 | 0,p=>by
   rw[Ov,L2,YE hn hc hp,UX hn hc hp,pS ho how hc hp fun s=>Kj ls a (p++[s])]
 | d+1,p=>by
   rw[Ov,L2,YE hn hc hp,UX hn hc hp,pS ho how hc hp fun s=>Kj ls a (p++[s])];have e:(fun s=>Ov w (kn ls) a d (p++[s]))=fun s=>L2 w ls a d (p++[s]):=funext fun s=>gu ho how hn hc hp a d (p++[s])
   rw[e]
def rI {w:AE} {ls:List Fact} (ho:ordered w.parents) (how: ∀s:Int,0<=s->s<w.owner.length->3<=Bb w s/\Bb w s<3+w.parents.length) (hn:3+w.parents.length<=64) (hc:G6 (3+w.parents.length) ls) (hp:Hc w.owner.length ls):eH w (kn ls)=FC w ls:=by
 rw[eH,FC];congr 1;funext a;exact gu ho how hn hc hp a 2 []
end Go.Gl
namespace Go.Gl
open Go.Proofs
def Ts (l:List Int) (s:Int):List Int:=if l.contains s then l else l++[s]
def lK (k:Kn) (s:Int):Kn:={k with AL:=Ts k.AL s}
def H5 (a:Int) (p:List Int) (k:Kn) (l:Fact):Kn:=
 if(Ac l).1.arg=a/\BV (Ac l).1.path p=true then
  (if(Ac l).1.path=p then Bs (Bt k (Ac l).2) (Ac l).1 (Ac l).2 else lK (Bt k (Ac l).2) ((Ac l).1.path.getD p.length 0))
 else k
def kg (ls:List Fact) (a:Int) (p:List Int):Kn:=ls.foldl (H5 a p) k0
structure eN (k k':Kn):Prop where
 core:DY k=DY k'
 eS:k.Ab=k'.Ab
 AL: ∀s,s∈k.AL↔s∈k'.AL
def kq (l:List Int) (s x:Int):x∈Ts l s↔x∈l\/x=s:=by
 unfold Ts;split
 .rename_i h
  rw[List.contains_iff_mem]at h;exact⟨.inl,fun h'=>h'.elim id fun e=>by rw[e];exact h⟩
 .simp
def jH {k k':Kn} (h:eN k k') (a:Int) (p:List Int) (l:Fact):eN (H5 a p k l) (Cw a p k' l):=by
 unfold H5 Cw;split
 .split
  .refine⟨Qf (k:=Bt k (Ac l).2) (k':=Bt k' (Ac l).2) h.core _ _,?_,fun s=>?_⟩
   .rw[Lo,Lo];simp[Bt,h.eS]
   .rw[IZ,IZ];exact h.AL s
  .refine⟨h.core,by simp[lK,eC,Bt,h.eS],fun s=>?_⟩
   show s∈Ts k.AL _↔s∈JN k'.AL _;rw[TV,kq,h.AL]
 .exact h
def V3 (a:Int) (p:List Int): ∀(ls:List Fact) (k k':Kn),eN k k'->eN (ls.foldl (H5 a p) k) (ls.foldl (Cw a p) k')
 | [],_,_,h=>h
 | l::r,_,_,h=>V3 a p r _ _ (jH h a p l)
def Gf (ls:List Fact) (a:Int) (p:List Int):eN (kg ls a p) (kn ls a p):=V3 a p ls k0 k0 ⟨rfl,rfl,fun _=>Iff.rfl⟩
def Uh (ls:List Fact) (a:Int) (p:List Int):DY (kg ls a p)=DY (EW (ls.filter (Fq a p)) k0):=(Gf ls a p).core.trans (MN ls a p)
def Kk (ls:List Fact) (a:Int) (p:List Int):(kg ls a p).Ab= !DB ls a p:=by rw[(Gf ls a p).eS,Kj]
def Nt {w:AE} {ls:List Fact} (hl: ∀l∈ls,Di w l):Hc w.owner.length ls:=fun l h=>(hl l h).path
def J4 {w:AE} {ls:List Fact} (hl: ∀l∈ls,Di w l) {a:Int} {p:List Int} {s:Int}:s∈(kg ls a p).AL↔ ∃l∈ls,(Ac l).1.arg=a/\ ∃q,(Ac l).1.path=p++s::q:=by
 rw[(Gf ls a p).AL,J3 (Nt hl),Ke hl]
def fG {w:AE} {ls:List Fact} (hl: ∀l∈ls,Di w l) {a:Int} {p:List Int} {s:Int} (h:s∈(kg ls a p).AL):0<=s/\s<(w.owner.length:Int):=by
 obtain⟨l,h1,h2,q,hq⟩:=(J4 hl).1 h;exact(hl l h1).path s (by rw[hq];simp)
def gQ (ls:List Fact) (a:Int) (p:List Int):H7 (kg ls) a p=H7 (kn ls) a p:=by
 rw[H7,H7,KF,DT,DT];constructor
 .intro h s hs
  have:=h s (((Gf ls a p).AL s).2 hs)
  rwa [(Gf ls a (p++[s])).eS]at this
 .intro h s hs
  have:=h s (((Gf ls a p).AL s).1 hs)
  rwa [(Gf ls a (p++[s])).eS]
def KW {k k':Kn} (h:DY k=DY k'):k.low=k'.low/\k.high=k'.high/\k.no=k'.no/\k.BJ=k'.BJ/\k.Dv=k'.Dv/\k.whole=k'.whole:=by
 simpa only[DY,Prod.mk.injEq]using h
def ya (ls:List Fact) (a:Int) (p:List Int):GA (kg ls) a p=GA (kn ls) a p:=by
 obtain⟨c1,c2,c3,c4,c5,-⟩:=KW (Gf ls a p).core;rw[GA,GA,Ei,Ei,gQ,Ek,Ek,c1,c2,c3,c4,c5]
def ry (ls:List Fact) (a:Int) (p:List Int):DV (kg ls) a p=DV (kn ls) a p:=by
 obtain⟨-,-,-,c4,c5,c6⟩:=KW (Gf ls a p).core;rw[DV,DV,Ei,Ei,gQ,c4,c5,c6]
def Qg {w:AE} {ls:List Fact} (hl: ∀l∈ls,Di w l):G6 (3+w.parents.length) ls:=fun l h ho=>by
 have:=(hl l h).cls ho;omega
def aO {w:AE} (hw:Ig w) {ls:List Fact} (hl: ∀l∈ls,Di w l) (a:Int) (p:List Int):GA (kg ls) a p=true↔ ∃m,GM w (.int m)/\TT w ls a p (.int m):=by
 rw[ya,YE (n:=3+w.parents.length) (by have:=hw.len;omega) (Qg hl) (Nt hl),Mm hl]
def WN {w:AE} (hw:Ig w) {ls:List Fact} (hl: ∀l∈ls,Di w l) (a:Int) (p:List Int):DV (kg ls) a p=true↔TT w ls a p .Kv:=by
 rw[ry,UX (n:=3+w.parents.length) (by have:=hw.len;omega) (Qg hl) (Nt hl),Kh hl]
def Rz (w:AE) (kf:Int->List Int->Kn) (a:Int) (p:List Int) (up:Nat) (can:Int->Bool):Bool:=
 !(kf a p).whole&&(Hu (kf a p).BJ up&&((kf a p).Dv&&&up==0&&(kf a p).AL.all fun s=>if up.testBit (Bb w s).toNat then can s else !(kf a (p++[s])).Ab))
def QJ {w : AE} (hw:Ig w) {ls:List Fact} (hl: ∀l∈ls,Di w l) {a:Int} {p:List Int} {up:Nat} {can:Int->Bool} {OK:JB->Prop} (hnon:OK .Kv) (u0:up.testBit 0=true) (u1:up.testBit 1=false) (u2:up.testBit 2=false)
    (hcan: ∀s∈(kg ls a p).AL,(can s=true↔ ∃t,OK t/\TT w ls a (p++[s]) t)) :
    Rz w (kg ls) a p up can=true↔ ∃kid,(∀s,OK (kid s))/\TT w ls a p (.obj (fun b=>up.testBit b) kid):=by
 obtain⟨-,-,-,c4,c5,c6⟩:=KW (Uh ls a p);have hc2:G6 (3+w.parents.length) (ls.filter (Fq a p)):=fun l h=>Qg hl l (Ia.1 h).1
 have hlt:(EW (ls.filter (Fq a p)) k0).BJ<2 ^ 64:=Nat.lt_of_lt_of_le (ML hc2) (Nat.pow_le_pow_right (by decide) (by have:=hw.len;omega));have hon: ∀l,l∈ls.filter (Fq a p)↔l∈ls/\(Ac l).1.arg=a/\(Ac l).1.path=p:=fun l=>by rw[Ia,Ef]
 rw[Rz,A7,A7,A7,c4,c5,c6,SW,Ma hlt,Ms,DT];simp only[IE,UW,hon];constructor
 .rintro ⟨h1,h2,h3,h4⟩
  have hk: ∀s,∃t,OK t/\(s∈(kg ls a p).AL->up.testBit (Bb w s).toNat=true->TT w ls a (p++[s]) t):=fun s=>by
   rcases Classical.em (s∈(kg ls a p).AL/\up.testBit (Bb w s).toNat=true)with⟨e1,e2⟩|e
   .have:=h4 s e1
    rw[if_pos e2]at this;obtain⟨t,q1,q2⟩:=(hcan s e1).1 this;exact⟨t,q1,fun _ _=>q2⟩
   .exact⟨.Kv,hnon,fun e1 e2=>absurd ⟨e1,e2⟩ e⟩
  refine⟨fun s=>Classical.choose (hk s),fun s=>(Classical.choose_spec (hk s)).1,fun l k1 k2 q hq=>?_⟩;cases q with
  | nil =>
    rw[EU]at hq;have hcl:=(hl l k1).cls;show EX _ _=_;simp only[EX];cases hb:(Ac l).2
    .have ho:=h1 l ⟨k1,k2,hq⟩ hb
     have hu:=h2 _ ⟨l,⟨k1,k2,hq⟩,ho,hb,rfl⟩;have:=hcl ho;rw[Cd.2 ho,Db];by_cases e0:(Ac l).1.cls=0
     .rw[e0];rfl
     .have e3:3<=(Ac l).1.cls:=by
       rcases Int.lt_or_le (Ac l).1.cls 3 with hlt|hge
       .exfalso
        have:(Ac l).1.cls.toNat=1\/(Ac l).1.cls.toNat=2:=by omega
        rcases this with e|e<;>rw[e]at hu
        .rw[u1]at hu;cases hu
        .rw[u2]at hu;cases hu
       .exact hge
      rw[decide_eq_true e3,hu];simp
    .by_cases ho:(Ac l).1.op=2
     .have hn:=h3 _ ⟨l,⟨k1,k2,hq⟩,ho,hb,rfl⟩
      have:=hcl ho;rw[Cd.2 ho,Db];have e0:(Ac l).1.cls≠0:=fun e=>hn (by rw[e];exact u0)
      rw[beq_eq_false_iff_ne.2 e0,Bool.false_or];cases hu:up.testBit (Ac l).1.cls.toNat
      .simp
      .exact(hn hu).elim
     .rw[beq_eq_false_iff_ne.2 ho];rfl
  | cons s r=>
    have hs:s∈(kg ls a p).AL:=(J4 hl).2 ⟨l,k1,k2,r,hq⟩;rw[NH];have hsp:=(Classical.choose_spec (hk s)).2;generalize Classical.choose (hk s)=t at hsp ⊢;cases hu:up.testBit (Bb w s).toNat
    .have:=h4 s hs
     rw[hu,if_neg (by decide),Kk,Bool.not_not]at this;have:=Ed.1 this l k1 k2 r (by rw[hq];simp);rw[this];rfl
    .rw[Db]
     exact hsp hs hu l k1 k2 r (by rw[hq];simp)
 .rintro ⟨kid,hkid,hT⟩
  have hleaf: ∀l∈ls,(Ac l).1.arg=a->(Ac l).1.path=p->((Ac l).1.op==2&&((Ac l).1.cls==0||(decide (3<=(Ac l).1.cls)&&up.testBit (Ac l).1.cls.toNat)))= !(Ac l).2:=fun l k1 k2 k3=>hT l k1 k2 [] (by rw[k3];simp)
  refine⟨?_,?_,?_,?_⟩
  .rintro l ⟨k1,k2,k3⟩ hb
   have:=hleaf l k1 k2 k3;rw[hb,Bool.not_false,A7,Cd]at this;exact this.1
  .rintro b ⟨l,⟨k1,k2,k3⟩,ho,hb,rfl⟩
   have:=hleaf l k1 k2 k3;rw[hb,Bool.not_false,A7,Ew,A7,Cd,Cd]at this;rcases this.2 with e|e
   .rw[e];exact u0
   .exact e.2
  .rintro b ⟨l,⟨k1,k2,k3⟩,ho,hb,rfl⟩ hu
   have:=hleaf l k1 k2 k3;have hc:=(hl l k1).cls ho;rw[hb,Cd.2 ho,hu,Db,Bool.and_true]at this;by_cases e0:(Ac l).1.cls=0
   .rw[e0]at this;cases this
   .have e3:3<=(Ac l).1.cls:=by
     rcases Int.lt_or_le (Ac l).1.cls 3 with hlt|hge
     .exfalso
      have:(Ac l).1.cls.toNat=1\/(Ac l).1.cls.toNat=2:=by omega
      rcases this with e|e<;>rw[e]at hu
      .rw[u1]at hu;cases hu
      .rw[u2]at hu;cases hu
     .exact hge
    rw[decide_eq_true e3]at this;simp at this
  .intro s hs
   cases hu:up.testBit (Bb w s).toNat
   .rw[if_neg (by decide),Kk,Bool.not_not]
    refine Ed.2 fun l k1 k2 q hq=>?_
    have:=hT l k1 k2 (s::q) (by rw[hq];simp);rw[NH,hu,Bool.false_and]at this;simpa using this.symm
   .rw[if_pos rfl]
    refine(hcan s hs).2 ⟨kid s,hkid s,fun l k1 k2 q hq=>?_⟩;have:=hT l k1 k2 (s::q) (by rw[hq];simp)
    rwa [NH,hu,Db]at this
def Dw (w:AE) (kf:Int->List Int->Kn) (a:Int) (p:List Int):Nat:=(kf a p).AL.foldl (fun m s=>if(kf a (p++[s])).Ab then m|||2 ^ (Bb w s).toNat else m) ((kf a p).BJ|||2 ^ 0)
def VH (w:AE) (kf:Int->List Int->Kn) (a:Int) (p:List Int) (can:Int->Bool):Bool:=
 !(Dw w kf a p).testBit 1&&(!(Dw w kf a p).testBit 2&&Rz w kf a p (Bj (BR w.parents) w.parents.length (Dw w kf a p)) can)
def R4 (w:AE) (kf:Int->List Int->Kn) (a:Int):Nat->List Int->Bool
 | 0,p=>GA kf a p||(DV kf a p||VH w kf a p fun _=>false)
 | d+1,p=>GA kf a p||(DV kf a p||VH w kf a p fun s=>R4 w kf a d (p++[s]))
def Wf {w:AE} {kf:Int->List Int->Kn} {a:Int} {p:List Int} {b:Nat}: ∀(l:List Int) (m:Nat),(l.foldl (fun m s=>if(kf a (p++[s])).Ab then m|||2 ^ (Bb w s).toNat else m) m).testBit b=true↔m.testBit b=true\/ ∃s∈l,(kf a (p++[s])).Ab=true/\b=(Bb w s).toNat
 | [],m=>by simp
 | x ::r,m=>by
   rw[List.foldl_cons,Wf r];simp only[Ff,exists_eq_or_imp];cases hn:(kf a (p++[x])).Ab
   .simp
   .rw[if_pos rfl,D7,Ew,Cd]
    simp only[true_and,or_assoc]
def cV {w:AE} {kf:Int->List Int->Kn} {a:Int} {p:List Int} {b:Nat}:(Dw w kf a p).testBit b=true↔(kf a p).BJ.testBit b=true\/b=0\/ ∃s∈(kf a p).AL,(kf a (p++[s])).Ab=true/\b=(Bb w s).toNat:=by
 rw[Dw,Wf,D7,Ew,Cd,or_assoc]
def PU {w:AE} (hw:Ig w) {ls:List Fact} (hl: ∀l∈ls,Di w l) {a:Int} {p:List Int} {C C':Nat->Bool} {kid:Int->JB} (h: ∀b,3<=b->C b=C' b) (hT:TT w ls a p (.obj C kid)):TT w ls a p (.obj C' kid):=fun l k1 k2 q hq=>by
 rw[<-hT l k1 k2 q hq];cases q with
 | nil=>
   show EX _ _=EX _ _;simp only[EX];by_cases h3:3<=(Ac l).1.cls
   .rw[h _ (by omega)]
   .rw[decide_eq_false h3,Bool.false_and,Bool.false_and]
 | cons s r=>
   have:=LV hw ((hl l k1).path s (by rw[hq];simp));rw[NH,NH,h _ (by omega)]
def jX {w : AE} (hw:Ig w) {ls:List Fact} (hl: ∀l∈ls,Di w l) {a:Int} {p:List Int} {can:Int->Bool} (hcan: ∀s∈(kg ls a p).AL,(can s=true↔ ∃t,GM w t/\TT w ls a (p++[s]) t)) :
    VH w (kg ls) a p can=true↔ ∃C kid,GM w (.obj C kid)/\TT w ls a p (.obj C kid):=by
 have hmb:=fun b=>cV (w:=w) (kf:=kg ls) (a:=a) (p:=p) (b:=b)
 have hcb:=fun b=>Lm hw.ord (Dw w (kg ls) a p) w.parents.length b (G0 _)
 obtain⟨-,-,-,c4,-,-⟩:=KW (Uh ls a p)
 have hmi: ∀b,(kg ls a p).BJ.testBit b=true↔ ∃l∈ls,((Ac l).1.arg=a/\(Ac l).1.path=p)/\(Ac l).1.op=2/\(Ac l).2=false/\(Ac l).1.cls.toNat=b:=fun b=>by
  rw[c4,IE];constructor
  .rintro⟨l,h1,h2⟩
   exact⟨l,(Ia.1 h1).1,Ef.1 (Ia.1 h1).2,h2⟩
  .rintro⟨l,h1,h2,h3⟩
   exact⟨l,Ia.2 ⟨h1,Ef.2 h2⟩,h3⟩
 have hge: ∀b,b=1\/b=2->(Bj (BR w.parents) w.parents.length (Dw w (kg ls) a p)).testBit b=true->(Dw w (kg ls) a p).testBit b=true:=fun b hb h=>by
  rcases(hcb b).1 h with h|⟨d,h1,_,_,h2⟩
  .exact h
  .rcases h2 with h2|h2
   .omega
   .have:=LS hw.ord d b h1 h2
    omega
 rw[VH,A7,A7,Bool.not_eq_true',Bool.not_eq_true'];constructor
 .rintro⟨m1,m2,ho⟩
  have u0:(Bj (BR w.parents) w.parents.length (Dw w (kg ls) a p)).testBit 0=true:=(hcb 0).2 (.inl ((hmb 0).2 (.inr (.inl rfl))))
  have u1:(Bj (BR w.parents) w.parents.length (Dw w (kg ls) a p)).testBit 1=false:=by
   rw[<-Bool.not_eq_true];intro h;rw[hge 1 (.inl rfl) h]at m1;cases m1
  have u2:(Bj (BR w.parents) w.parents.length (Dw w (kg ls) a p)).testBit 2=false:=by
   rw[<-Bool.not_eq_true];intro h;rw[hge 2 (.inr rfl) h]at m2;cases m2
  obtain⟨kid,h1,h2⟩:=(QJ hw hl (OK:=GM w) trivial u0 u1 u2 hcan).1 ho;refine⟨_,kid,⟨fun c h3 hc q hq=>?_,h1⟩,h2⟩;have hqc:=hw.ord c q hq
  have hcl:c<3+w.parents.length:=by
   rcases Nat.lt_or_ge c (3+w.parents.length)with h'|h'
   .exact h'
   .rw[par,if_neg (by omega),Co,List.getElem?_eq_none (by omega)]at hq;cases hq
  have hup:G3 w.parents c q.toNat=true:=by
   rw[FJ hw.ord,Ew,G1];exact .inr ⟨q,hq,FR hw.ord _⟩
  rcases(hcb c).1 hc with h|⟨d,k1,k2,k3,k4⟩
  .exact(hcb _).2 (.inr ⟨c,h3,hcl,h,.inr hup⟩)
  .refine(hcb _).2 (.inr ⟨d,k1,k2,k3,.inr ?_⟩)
   rcases k4 with k4|k4
   .omega
   .exact Ka hw.ord _ _ _ k4 hup
 .rintro ⟨C,kid,⟨hC,hkid⟩,hT⟩
  have hleaf: ∀l∈ls,(Ac l).1.arg=a->(Ac l).1.path=p->((Ac l).1.op==2&&((Ac l).1.cls==0||(decide (3<=(Ac l).1.cls)&&C (Ac l).1.cls.toNat)))= !(Ac l).2:=fun l k1 k2 k3=>hT l k1 k2 [] (by rw[k3];simp)
  have hM: ∀b,(Dw w (kg ls) a p).testBit b=true->b=0\/3<=b/\C b=true:=fun b hb=>by
   rcases(hmb b).1 hb with h|h|⟨s,h1,h2,h3⟩
   .obtain⟨l,k1,⟨k2,k3⟩,ho,hb2,rfl⟩:=(hmi b).1 h
    have:=hleaf l k1 k2 k3;rw[hb2,Bool.not_false,A7,Ew,A7,Cd,Cd,CF]at this;rcases this.2 with e|⟨e1,e2⟩
    .left;omega
    .exact .inr ⟨by omega,e2⟩
   .exact .inl h
   .have hin:=LV hw (fG hl h1)
    refine .inr ⟨by omega,?_⟩;rw[Kk,Bool.not_eq_true',<-Bool.not_eq_true]at h2;rcases Classical.em (C (Bb w s).toNat=true)with e|e
    .rw[h3];exact e
    .refine absurd (Ed.2 fun l k1 k2 q hq=>?_) h2
     have:=hT l k1 k2 (s::q) (by rw[hq];simp);rw[Bool.not_eq_true]at e;rw[NH,e,Bool.false_and]at this;simpa using this.symm
  have hU: ∀b,(Bj (BR w.parents) w.parents.length (Dw w (kg ls) a p)).testBit b=true->b=0\/3<=b/\C b=true:=fun b hb=>by
   rcases(hcb b).1 hb with h|⟨d,k1,k2,k3,k4⟩
   .exact hM b h
   .rcases k4 with k4|k4
    .exact .inl k4
    .rcases hM d k3 with e|⟨_,e⟩
     .omega
     .exact .inr ⟨LS hw.ord d b k1 k4,TI hw.ord hC d b k1 e k4⟩
  have u0:(Bj (BR w.parents) w.parents.length (Dw w (kg ls) a p)).testBit 0=true:=(hcb 0).2 (.inl ((hmb 0).2 (.inr (.inl rfl))))
  have u1:(Bj (BR w.parents) w.parents.length (Dw w (kg ls) a p)).testBit 1=false:=by
   rw[<-Bool.not_eq_true];intro h;rcases hU 1 h with e|⟨e,_⟩<;>omega
  have u2:(Bj (BR w.parents) w.parents.length (Dw w (kg ls) a p)).testBit 2=false:=by
   rw[<-Bool.not_eq_true];intro h;rcases hU 2 h with e|⟨e,_⟩<;>omega
  refine⟨?_,?_,(QJ hw hl (OK:=GM w) trivial u0 u1 u2 hcan).2 ⟨kid,hkid,fun l k1 k2 q hq=>?_⟩⟩
  .rw[<-Bool.not_eq_true];intro h;rcases hM 1 h with e|⟨e,_⟩<;>omega
  .rw[<-Bool.not_eq_true];intro h;rcases hM 2 h with e|⟨e,_⟩<;>omega
  have hTl:=hT l k1 k2 q hq;cases q with
  | nil =>
    rw[EU]at hq;have hcl:=(hl l k1).cls;have hlf:=hleaf l k1 k2 hq;show EX _ _=_;simp only[EX];cases hb:(Ac l).2
    .rw[hb,Bool.not_false,A7,Cd]at hlf
     have hm:=(hcb _).2 (.inl ((hmb _).2 (.inl ((hmi _).2 ⟨l,k1,⟨k2,hq⟩,hlf.1,hb,rfl⟩))));rw[Cd.2 hlf.1,hm,Db,Bool.and_true];have:=hlf.2;rw[Ew,A7]at this;rcases this with e|e
     .rw[e];rfl
     .rw[e.1];simp
    .rw [hb,Bool.not_true]at hlf
     rw[Bool.not_true];by_cases ho:(Ac l).1.op=2
     .rw [Cd.2 ho,Db,Bool.or_eq_false_iff]at hlf
      rw[Cd.2 ho,Db,hlf.1,Bool.false_or];cases hu:(Bj (BR w.parents) w.parents.length (Dw w (kg ls) a p)).testBit (Ac l).1.cls.toNat
      .simp
      .rcases hU _ hu with e|⟨e1,e2⟩
       .have hne:=beq_eq_false_iff_ne.1 hlf.1
        have:=hcl ho;omega
       .rw[e2,Bool.and_true]at hlf
        rw[hlf.2,Bool.false_and]
     .rw[beq_eq_false_iff_ne.2 ho];rfl
  | cons s r=>
    have hs:s∈(kg ls a p).AL:=(J4 hl).2 ⟨l,k1,k2,r,hq⟩;have hin:=LV hw (fG hl hs);rw[NH]at hTl ⊢;cases hu:(Bj (BR w.parents) w.parents.length (Dw w (kg ls) a p)).testBit (Bb w s).toNat
    .have hnn:(kg ls a (p++[s])).Ab=false:=by
      rw[<-Bool.not_eq_true];intro hne;rw[(hcb _).2 (.inl ((hmb _).2 (.inr (.inr ⟨s,hs,hne,rfl⟩))))]at hu;cases hu
     rw[Kk,Bool.not_eq_false']at hnn;rw[Ed.1 hnn l k1 k2 r (by rw[hq];simp)];rfl
    .rcases hU _ hu with e|⟨_,e2⟩
     .omega
     .rw[e2,Db]at hTl
      rw[Db];exact hTl
def Wo {w:AE} (hw:Ig w) {ls:List Fact} (hl: ∀l∈ls,Di w l) (a:Int): ∀(d:Nat) (p:List Int),p.length+d=2->(R4 w (kg ls) a d p=true↔ ∃t,GM w t/\TT w ls a p t):=by
 have key: ∀(p:List Int) (can:Int->Bool),(∀s∈(kg ls a p).AL,(can s=true↔ ∃t,GM w t/\TT w ls a (p++[s]) t))->((GA (kg ls) a p||(DV (kg ls) a p||VH w (kg ls) a p can))=true↔ ∃t,GM w t/\TT w ls a p t):=fun p can hcan=>by
  rw[Ew,Ew,aO hw hl,WN hw hl,jX hw hl hcan];constructor
  .rintro(⟨m,h1,h2⟩|h|⟨C,kid,h1,h2⟩)
   .exact⟨_,h1,h2⟩
   .exact⟨.Kv,trivial,h⟩
   .exact⟨_,h1,h2⟩
  .rintro⟨t,h1,h2⟩
   cases t with
   | int m=>exact .inl ⟨m,h1,h2⟩
   | Kv=>exact .inr (.inl h2)
   | obj C kid=>exact .inr (.inr ⟨C,kid,h1,h2⟩)
 intro d
 induction d with
 | zero=>
   intro p hp;rw[R4];refine key p _ fun s hs=>?_
   obtain⟨l,h1,h2,q,hq⟩:=(J4 hl).1 hs;have:=(hl l h1).short;rw[hq]at this;simp at this;omega
 | succ d ih=>
   intro p hp;rw[R4];exact key p _ fun s _=>ih (p++[s]) (by simp;omega)
def VC (w:AE):JB->Prop
 | .int n=> -1000000000<=n/\n<=1000000000
 | .Kv=>True
 | .obj C kid=>(∃c:Nat,3<=c/\c<3+w.parents.length/\ ∀b,C b=G3 w.parents c b)/\ ∀s,VC w (kid s)
def Tj (w:AE) (t:JB) (c:Nat):Prop:=match t with
 | .int _=>c=1
 | .Kv=>c=2
 | .obj C _=>3<=c/\c<3+w.parents.length/\ ∀b,C b=G3 w.parents c b
def X3 {w:AE}: ∀t:JB,VC w t-> ∃c,Tj w t c/\1<=c/\c<3+w.parents.length
 | .int _,_=>⟨1,rfl,by omega,by omega⟩
 | .Kv,_=>⟨2,rfl,by omega,by omega⟩
 | .obj C kid,⟨⟨c,h1,h2,h3⟩,_⟩=>⟨c,⟨h1,h2,h3⟩,by omega,h2⟩
def VO (w:AE) (kf:Int->List Int->Kn) (a:Int) (p:List Int) (can:Int->Bool) (c:Nat):Bool:=
 if c=1 then GA kf a p else if c=2 then DV kf a p else Rz w kf a p ((BR w.parents).getD c 0) can
def R5 (w:AE) (kf:Int->List Int->Kn) (a:Int):Nat->(Nat->Bool)->List Int->Bool
 | 0,fit,p=>(List.range (3+w.parents.length)).any fun c=>decide (1<=c)&&(fit c&&VO w kf a p (fun _=>false) c)
 | d+1,fit,p=>(List.range (3+w.parents.length)).any fun c=>decide (1<=c)&&(fit c&&VO w kf a p (fun s=>R5 w kf a d (fun _=>true) (p++[s])) c)
def Wk {w : AE} (hw:Ig w) {ls:List Fact} (hl: ∀l∈ls,Di w l) {a:Int} {p:List Int} {can:Int->Bool} (hcan: ∀s∈(kg ls a p).AL,(can s=true↔ ∃t,VC w t/\TT w ls a (p++[s]) t)) {c:Nat} (h1:1<=c) (h2:c<3+w.parents.length) :
    VO w (kg ls) a p can c=true↔ ∃t,Tj w t c/\VC w t/\TT w ls a p t:=by
 rw[VO];split
 .rename_i e
  subst e;rw[aO hw hl];constructor
  .rintro⟨m,k1,k2⟩
   exact⟨.int m,rfl,k1,k2⟩
  .rintro⟨t,k0,k1,k2⟩
   cases t with
   | int m=>exact⟨m,k1,k2⟩
   | Kv=>cases k0
   | obj C kid=>exact absurd k0.1 (by omega)
 .split
  .rename_i e
   subst e;rw[WN hw hl];constructor
   .intro k
    exact⟨.Kv,rfl,trivial,k⟩
   .rintro⟨t,k0,k1,k2⟩
    cases t with
    | int m=>cases k0
    | Kv=>exact k2
    | obj C kid=>exact absurd k0.1 (by omega)
  .rename_i e1 e2
   have hb:=fun b=>Vs hw.ord (b:=b) h2
   have h3:3<=c:=by omega
   have u0:((BR w.parents).getD c 0).testBit 0=true:=by rw[hb];rfl
   have hno: ∀b,b=1\/b=2->((BR w.parents).getD c 0).testBit b=false:=fun b hbb=>by
    rw[hb,<-Bool.not_eq_true,Ew,Cd];rintro(h|h)
    .omega
    .have:=LS hw.ord c b h3 h
     omega
   rw[QJ hw hl (OK:=VC w) trivial u0 (hno 1 (.inl rfl)) (hno 2 (.inr rfl)) hcan]
   have hagree: ∀b,3<=b->((BR w.parents).getD c 0).testBit b=G3 w.parents c b:=fun b hb3=>by
    rw[hb,beq_eq_false_iff_ne.2 (show b≠0 by omega),Bool.false_or]
   constructor
   .rintro⟨kid,k1,k2⟩
    exact⟨.obj (fun b=>G3 w.parents c b) kid,⟨h3,h2,fun _=>rfl⟩,⟨⟨c,h3,h2,fun _=>rfl⟩,k1⟩,PU hw hl hagree k2⟩
   .rintro⟨t,k0,k1,k2⟩
    cases t with
    | int m=>exact absurd k0 (by simp only[Tj];omega)
    | Kv=>exact absurd k0 (by simp only[Tj];omega)
    | obj C kid=>
      exact⟨kid,k1.2,PU hw hl (fun b hb3=>by rw[hagree b hb3,k0.2.2]) k2⟩
def Mt {w:AE} (hw:Ig w) {ls:List Fact} (hl: ∀l∈ls,Di w l) (a:Int): ∀(d:Nat) (fit:Nat->Bool) (p:List Int),p.length+d=2->(R5 w (kg ls) a d fit p=true↔ ∃t c,Tj w t c/\fit c=true/\VC w t/\TT w ls a p t):=by
 have key: ∀(fit:Nat->Bool) (p:List Int) (can:Int->Bool),(∀s∈(kg ls a p).AL,(can s=true↔ ∃t,VC w t/\TT w ls a (p++[s]) t))->(((List.range (3+w.parents.length)).any fun c=>decide (1<=c)&&(fit c&&VO w (kg ls) a p can c))=true↔ ∃t c,Tj w t c/\fit c=true/\VC w t/\TT w ls a p t):=fun fit p can hcan=>by
  rw[G1];constructor
  .rintro⟨c,h1,h2⟩
   rw[A7,A7,CF]at h2;obtain⟨t,k0,k1,k2⟩:=(Wk hw hl hcan h2.1 (List.mem_range.1 h1)).1 h2.2.2;exact⟨t,c,k0,h2.2.1,k1,k2⟩
  .rintro⟨t,c,k0,k1,k2,k3⟩
   have hc:1<=c/\c<3+w.parents.length:=by
    cases t with
    | int m=>have k0:c=1:=k0;omega
    | Kv=>have k0:c=2:=k0;omega
    | obj C kid=>have:=k0.1;have:=k0.2.1;omega
   refine⟨c,List.mem_range.2 hc.2,?_⟩;rw[decide_eq_true hc.1,k1,(Wk hw hl hcan hc.1 hc.2).2 ⟨t,k0,k2,k3⟩];rfl
 intro d
 induction d with
 | zero=>
   intro fit p hp;rw[R5];refine key fit p _ fun s hs=>?_
   obtain⟨l,h1,h2,q,hq⟩:=(J4 hl).1 hs;have:=(hl l h1).short;rw[hq]at this;simp at this;omega
 | succ d ih=>
   intro fit p hp;rw[R5];refine key fit p _ fun s _=>?_
   rw[ih (fun _=>true) (p++[s]) (by simp;omega)];constructor
   .rintro⟨t,c,_,_,k1,k2⟩
    exact⟨t,k1,k2⟩
   .rintro⟨t,k1,k2⟩
    obtain⟨c,k3,_⟩:=X3 t k1;exact⟨t,c,k3,rfl,k1,k2⟩
def Ii (cs:List Int) (a:Int) (c:Nat):Bool:=decide ((cs.length:Int)<=a)||cs.getD a.toNat 0==(c:Int)
def Jg (w:AE) (cs:List Int) (ls:List Fact):Bool:=(BE 3).all fun a=>R5 w (kg ls) a 2 (Ii cs a) []
def lQ (w:AE) (ls:List Fact):Bool:=(BE 3).all fun a=>R4 w (kg ls) a 2 []
def lY (w:AE) (cs:List Int) (M:Int->JB):Prop:= ∀a,VC w (M a)/\(0<=a->a<3-> ∃c,Tj w (M a) c/\Ii cs a c=true)
def xu (w:AE) (M:Int->JB):Prop:= ∀a,GM w (M a)
def Gj {w:AE} (hw:Ig w) {cs:List Int} {ls:List Fact} (hl: ∀l∈ls,Di w l):Jg w cs ls=true↔ ∃M:Int->JB,lY w cs M/\ ∀l∈ls,Eh w M l:=by
 rw[Jg,DT];constructor
 .intro h
  have hk: ∀a:Int,∃t,VC w t/\(0<=a/\a<3->TT w ls a [] t/\ ∃c,Tj w t c/\Ii cs a c=true):=fun a=>by
   rcases Classical.em (0<=a/\a<3)with e|e
   .obtain⟨t,c,k0,k1,k2,k3⟩:=(Mt hw hl a 2 _ [] rfl).1 (h a (C4.2 e))
    exact⟨t,k2,fun _=>⟨k3,c,k0,k1⟩⟩
   .exact⟨.Kv,trivial,fun k=>absurd k e⟩
  exact⟨fun a=>Classical.choose (hk a),fun a=>⟨(Classical.choose_spec (hk a)).1,fun h0 h1=>((Classical.choose_spec (hk a)).2 ⟨h0,h1⟩).2⟩,fun l k=>((Classical.choose_spec (hk (Ac l).1.arg)).2 (hl l k).arg).1 l k rfl _ rfl⟩
 .rintro⟨M,h1,h2⟩ a ha
  have ha:=C4.1 ha;obtain⟨c,k0,k1⟩:=(h1 a).2 ha.1 (by omega);refine(Mt hw hl a 2 _ [] rfl).2 ⟨M a,c,k0,k1,(h1 a).1,fun l k1 k2 q hq=>?_⟩;have:=h2 l k1;rw[Eh,k2]at this;rw[List.nil_append]at hq;rw[<-hq];exact this
def Vy {w:AE} (hw:Ig w) {ls:List Fact} (hl: ∀l∈ls,Di w l):lQ w ls=true↔ ∃M:Int->JB,xu w M/\ ∀l∈ls,Eh w M l:=by
 show _↔ ∃M:Int->JB,(∀a,GM w (M a))/\_;rw[lQ,DT,<-MZ hw hl,FC,DT];constructor
 .intro h a ha
  exact(J6 hw hl a 2 [] rfl).2 ((Wo hw hl a 2 [] rfl).1 (h a ha))
 .intro h a ha
  exact(Wo hw hl a 2 [] rfl).2 ((J6 hw hl a 2 [] rfl).1 (h a ha))
def stepOf (w:AE) (c:Int) (x:Fact×Bool):Bool:=(x.1.op==2&&Jk w.parents c x.1.cls)==x.2
def ZM (w:AE) (ls:List Fact) (a:Int) (p:List Int) (can:Int->Bool) (c:Int):Bool:=
 (ls.filter (Fq a p)).all (fun l=> !stepOf w c (Ac l))&&(BM w.owner.length ls a p).all fun s=>if hasB w c s then can s else DB ls a (p++[s])
def Ox (w:AE) (ls:List Fact) (a:Int):Nat->List Int->Bool
 | 0,p=>((F9 ls a p).isSome&&DX w.owner.length ls a p)||(Ey w.owner.length ls a p||(BE w.parents.length).any fun c=>ZM w ls a p (fun _=>false) (3+c))
 | d+1,p=>((F9 ls a p).isSome&&DX w.owner.length ls a p)||(Ey w.owner.length ls a p||(BE w.parents.length).any fun c=>ZM w ls a p (fun s=>Ox w ls a d (p++[s])) (3+c))
def US {w : AE} (hw:Ig w) {ls:List Fact} (hl: ∀l∈ls,Di w l) {a:Int} {p:List Int} {can:Int->Bool} (hcan: ∀s∈BM w.owner.length ls a p,(can s=true↔ ∃t,VC w t/\TT w ls a (p++[s]) t)) {c:Int} (h3:3<=c) (hc:c<3+(w.parents.length:Int)) :
    ZM w ls a p can c=true↔ ∃kid,(∀s,VC w (kid s))/\TT w ls a p (.obj (fun b=>G3 w.parents c.toNat b) kid):=by
 have hleaf: ∀l∈ls,∀kid,EX (.obj (fun b=>G3 w.parents c.toNat b) kid) (Ac l).1=((Ac l).1.op==2&&Jk w.parents c (Ac l).1.cls):=fun l hm kid=>by
  simp only[EX];by_cases ho:(Ac l).1.op=2
  .have hcl:=(hl l hm).cls ho
   rw[Cd.2 ho,Db,Db,Jk,decide_eq_true h3,Db];by_cases hz:(Ac l).1.cls=0
   .rw[hz];simp
   rw[beq_eq_false_iff_ne.2 hz,Bool.false_or,Bool.false_or];by_cases h3c:3<=(Ac l).1.cls
   .rw[decide_eq_true h3c,Db]
    by_cases he:c=(Ac l).1.cls
    .rw[<-he,FR hw.ord];simp
    .rw[beq_eq_false_iff_ne.2 he,Bool.false_or]
   .rw[decide_eq_false h3c,Bool.false_and,beq_eq_false_iff_ne.2 (show c≠(Ac l).1.cls by omega),Bool.false_or]
    cases hb:G3 w.parents c.toNat (Ac l).1.cls.toNat
    .rfl
    .have:=LS hw.ord _ _ (by omega) hb
     omega
  .rw[beq_eq_false_iff_ne.2 ho];rfl
 have hhas: ∀s,0<=s/\s<(w.owner.length:Int)->hasB w c s=G3 w.parents c.toNat (Bb w s).toNat:=fun s hs=>by
  have ho:=LV hw hs;rw[hasB,Jk,decide_eq_true h3,Db,beq_eq_false_iff_ne.2 (show Bb w s≠0 by omega),Bool.false_or,Db];by_cases he:c=Bb w s
  .rw[<-he,FR hw.ord];simp
  .rw[beq_eq_false_iff_ne.2 he,Bool.false_or]
 have hstep: ∀l∈ls,∀kid,(!stepOf w c (Ac l))=true↔EX (.obj (fun b=>G3 w.parents c.toNat b) kid) (Ac l).1= !(Ac l).2:=fun l hm kid=>by
  rw[hleaf l hm kid,stepOf];cases((Ac l).1.op==2&&Jk w.parents c (Ac l).1.cls)<;>cases(Ac l).2<;>decide
 rw[ZM,A7,DT,DT];constructor
 .rintro⟨h1,h2⟩
  have hk: ∀s,∃t,VC w t/\(s∈BM w.owner.length ls a p->hasB w c s=true->TT w ls a (p++[s]) t):=fun s=>by
   rcases Classical.em (s∈BM w.owner.length ls a p/\hasB w c s=true)with⟨e1,e2⟩|e
   .have:=h2 s e1
    rw[if_pos e2]at this;obtain⟨t,q1,q2⟩:=(hcan s e1).1 this;exact⟨t,q1,fun _ _=>q2⟩
   .exact⟨.Kv,trivial,fun e1 e2=>absurd ⟨e1,e2⟩ e⟩
  refine⟨fun s=>Classical.choose (hk s),fun s=>(Classical.choose_spec (hk s)).1,fun l k1 k2 q hq=>?_⟩;cases q with
  | nil=>
    rw[EU]at hq;exact(hstep l k1 _).1 (h1 l (Ia.2 ⟨k1,Ef.2 ⟨k2,hq⟩⟩))
  | cons s r=>
    have hs:s∈BM w.owner.length ls a p:=(Ke hl).2 ⟨l,k1,k2,r,hq⟩;have hin:=Fi hs;rw[NH,<-hhas s hin];have hsp:=(Classical.choose_spec (hk s)).2;generalize Classical.choose (hk s)=t at hsp ⊢;cases hu:hasB w c s
    .have:=h2 s hs
     rw[hu,if_neg (by decide)]at this;rw[Ed.1 this l k1 k2 r (by rw[hq];simp)];rfl
    .rw[Db]
     exact hsp hs hu l k1 k2 r (by rw[hq];simp)
 .rintro⟨kid,hkid,hT⟩
  refine⟨fun l hm=>?_,fun s hs=>?_⟩
  .obtain⟨k1,k2⟩:=Ia.1 hm
   obtain⟨k3,k4⟩:=Ef.1 k2;exact(hstep l k1 kid).2 (hT l k1 k3 [] (by rw[k4];simp))
  .have hin:=Fi hs
   cases hu:hasB w c s
   .rw[if_neg (by decide)]
    refine Ed.2 fun l k1 k2 q hq=>?_
    have:=hT l k1 k2 (s::q) (by rw[hq];simp);rw[NH,<-hhas s hin,hu,Bool.false_and]at this;simpa using this.symm
   .rw[if_pos rfl]
    refine(hcan s hs).2 ⟨kid s,hkid s,fun l k1 k2 q hq=>?_⟩;have:=hT l k1 k2 (s::q) (by rw[hq];simp)
    rwa [NH,<-hhas s hin,hu,Db]at this
def Wp {w:AE} (hw:Ig w) {ls:List Fact} (hl: ∀l∈ls,Di w l) (a:Int): ∀(d:Nat) (p:List Int),p.length+d=2->(Ox w ls a d p=true↔ ∃t,VC w t/\TT w ls a p t):=by
 have key: ∀(p:List Int) (can:Int->Bool),(∀s∈BM w.owner.length ls a p,(can s=true↔ ∃t,VC w t/\TT w ls a (p++[s]) t))->((((F9 ls a p).isSome&&DX w.owner.length ls a p)||(Ey w.owner.length ls a p||(BE w.parents.length).any fun c=>ZM w ls a p can (3+c)))=true↔ ∃t,VC w t/\TT w ls a p t):=fun p can hcan=>by
  rw[Ew,Ew,Mm hl,Kh hl,G1];constructor
  .rintro(⟨m,h1,h2⟩|h|⟨c,h1,h2⟩)
   .exact⟨.int m,h1,h2⟩
   .exact⟨.Kv,trivial,h⟩
   .have:=C4.1 h1
    obtain⟨kid,k1,k2⟩:=(US hw hl hcan (by omega) (by omega)).1 h2;exact⟨.obj (fun b=>G3 w.parents (3+c).toNat b) kid,⟨⟨(3+c).toNat,by omega,by omega,fun _=>rfl⟩,k1⟩,k2⟩
  .rintro⟨t,h1,h2⟩
   cases t with
   | int m=>exact .inl ⟨m,h1,h2⟩
   | Kv=>exact .inr (.inl h2)
   | obj C kid=>
     obtain⟨⟨c,k1,k2,k3⟩,k4⟩:=h1;refine .inr (.inr ⟨(c:Int) - 3,C4.2 (by omega),(US hw hl hcan (by omega) (by omega)).2 ⟨kid,k4,?_⟩⟩);rw[show(3+((c:Int) - 3)).toNat=c by omega];exact PU hw hl (fun b _=>k3 b) h2
 intro d
 induction d with
 | zero=>
   intro p hp;rw[Ox];refine key p _ fun s hs=>?_
   rw[IM (m:=2) (fun l h=>(hl l h).short) (by omega)]at hs;cases hs
 | succ d ih=>
   intro p hp;rw[Ox];exact key p _ fun s _=>ih (p++[s]) (by simp;omega)
def bU (w:AE) (ls:List Fact) (cs:List Int) (a:Int):Bool:=
 if(cs.length:Int)<=a\/cs.getD a.toNat 0=0 then Ox w ls a 2 []else if cs.getD a.toNat 0=1 then(F9 ls a []).isSome&&DX w.owner.length ls a []else if cs.getD a.toNat 0=2 then Ey w.owner.length ls a []else ZM w ls a [] (fun s=>Ox w ls a 1 [s]) (cs.getD a.toNat 0)
def Kx (w:AE) (cs:List Int) (ls:List Fact):Bool:=(BE 3).all (bU w ls cs)
def Vx {w : AE} (hw:Ig w) {ls:List Fact} (hl: ∀l∈ls,Di w l) {cs:List Int} (hcs: ∀c∈cs,1<=c/\c<3+(w.parents.length:Int)) {a:Int} (h0:0<=a):bU w ls cs a=true↔ ∃t c,Tj w t c/\Ii cs a c=true/\VC w t/\TT w ls a [] t:=by
 rw[bU];by_cases hle:(cs.length:Int)<=a
 .rw[if_pos (.inl hle),Wp hw hl a 2 [] rfl]
  have hf: ∀c,Ii cs a c=true:=fun c=>by rw[Ii,decide_eq_true hle];rfl
  constructor
  .rintro⟨t,k1,k2⟩
   obtain⟨c,k3,_⟩:=X3 t k1;exact⟨t,c,k3,hf c,k1,k2⟩
  .rintro⟨t,c,_,_,k1,k2⟩
   exact⟨t,k1,k2⟩
 .obtain ⟨x,hx⟩: ∃x,cs[a.toNat]? =some x:=⟨_,CQ (by omega)⟩
  have hxd:cs.getD a.toNat 0=x:=by rw[Co,hx];rfl
  have hxc:=hcs x (BY hx);have hf: ∀c:Nat,Ii cs a c=true↔x=(c:Int):=fun c=>by rw[Ii,decide_eq_false hle,Bool.false_or,hxd,Cd]
  rw[hxd,if_neg (by omega)];by_cases h1:x=1
  .rw[if_pos h1,Mm hl]
   constructor
   .rintro⟨m,k1,k2⟩
    exact⟨.int m,1,rfl,(hf 1).2 h1,k1,k2⟩
   .rintro⟨t,c,k0,k1,k2,k3⟩
    have:=(hf c).1 k1;cases t with
    | int m=>exact⟨m,k2,k3⟩
    | Kv=>have k0:c=2:=k0;omega
    | obj C kid=>have:=k0.1;omega
  .rw [if_neg h1]
   by_cases h2:x=2
   .rw[if_pos h2,Kh hl]
    constructor
    .intro k
     exact⟨.Kv,2,rfl,(hf 2).2 h2,trivial,k⟩
    .rintro⟨t,c,k0,k1,k2,k3⟩
     have:=(hf c).1 k1;cases t with
     | int m=>have k0:c=1:=k0;omega
     | Kv=>exact k3
     | obj C kid=>have:=k0.1;omega
   .rw [if_neg h2,US hw hl (fun s _=>Wp hw hl a 1 [s] rfl) (by omega) (by omega)]
    constructor
    .rintro⟨kid,k1,k2⟩
     exact⟨.obj (fun b=>G3 w.parents x.toNat b) kid,x.toNat,⟨by omega,by omega,fun _=>rfl⟩,(hf _).2 (by omega),⟨⟨x.toNat,by omega,by omega,fun _=>rfl⟩,k1⟩,k2⟩
    .rintro⟨t,c,k0,k1,k2,k3⟩
     have:=(hf c).1 k1;cases t with
     | int m=>have k0:c=1:=k0;omega
     | Kv=>have k0:c=2:=k0;omega
     | obj C kid=>
       refine⟨kid,k2.2,PU hw hl (fun b _=>?_) k3⟩;rw[k0.2.2,show x.toNat=c by omega]
def rJ {w:AE} (hw:Ig w) {cs:List Int} (hcs: ∀c∈cs,1<=c/\c<3+(w.parents.length:Int)) {ls:List Fact} (hl: ∀l∈ls,Di w l):Jg w cs ls=Kx w cs ls:=by
 rw[Jg,Kx,KF,DT,DT];constructor
 .intro h a ha
  exact(Vx hw hl hcs (C4.1 ha).1).2 ((Mt hw hl a 2 _ [] rfl).1 (h a ha))
 .intro h a ha
  exact(Mt hw hl a 2 _ [] rfl).2 ((Vx hw hl hcs (C4.1 ha).1).1 (h a ha))
end Go.Gl
