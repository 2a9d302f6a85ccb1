import Derived.Test.YtegbmnmnaijioaaGreatA16
set_option linter.all false
set_option linter.defProp false
noncomputable section
namespace Go.Gl
variable {P:Program} {ρ ρ':Ren} {σ:AH} {env env₀:Env}
structure St where
 nx:Nat
 t:Tr EO
def RK (ρ:Ren) (a b:V×V):Prop:=RV ρ a.1 b.1∧RV ρ a.2 b.2
def RBe (ρ:Ren) (a b:Nat×V):Prop:=b.1=a.1∧RV ρ a.2 b.2
abbrev RE (ρ:Ren):Env→Env→Prop:=F2 (RBe ρ)
abbrev K5 (ρ:Ren):List V→List V→Prop:=F2 (RV ρ)
abbrev dH (ρ:Ren):List (List V)→List (List V)→Prop:=F2 (F2 (RV ρ))
def RO (P:Program) (ρ:Ren) (cap:Nat):EO→O→Prop
 | .cs vs,o=> ∃vs',K5 ρ vs vs'∧o= .cs vs'
 | .arr sz es,o=> ∃es',dH ρ es es'∧o= .arr sz es' cap
 | .map kvs,o=> ∃kvs',F2 (RK ρ) kvs kvs'∧o= .map kvs'
 | .loop st env ps a b,o=> ∃env',RE ρ env env'∧o= .loop st env' (B0 P ps a b)
def MX:Nat:=1000000000
structure SR (P:Program) (ρ:Ren) (s:St) (σ:AH):Prop where
 get: ∀i o,s.t.get i=some o→ ∃m,ρ i=some m∧ ∃o',σ m.1=some o'∧RO P ρ m.2 o o'
 inj: ∀i j o o' m m',s.t.get i=some o→s.t.get j=some o'→ρ i=some m→ρ j=some m'→m.1=m'.1→i=j
 oY: ∀i,s.nx≤i→ρ i=none
 lim:s.nx≤MX+1
def K5.mono (h:ρ.le ρ') {a b:List V} (k:K5 ρ a b):K5 ρ' a b:=F2.mono (fun _ _=>RV.mono h _ _) k
def dH.mono (h:ρ.le ρ') {a b:List (List V)} (k:dH ρ a b):dH ρ' a b:=F2.mono (fun _ _=>K5.mono h) k
def RE.mono (h:ρ.le ρ') {a b:Env} (k:RE ρ a b):RE ρ' a b:=F2.mono (fun _ _ k=>⟨k.1,RV.mono h _ _ k.2⟩) k
def RO.mono (h:ρ.le ρ') {c:Nat} {a:EO} {b:O} (k:RO P ρ c a b):RO P ρ' c a b:=by
 cases a with
 | cs vs=>obtain⟨v,h1,h2⟩:=k;exact⟨v,h1.mono h,h2⟩
 | arr sz es=>obtain⟨v,h1,h2⟩:=k;exact⟨v,h1.mono h,h2⟩
 | map kvs=>obtain⟨v,h1,h2⟩:=k;exact⟨v,F2.mono (fun _ _ k=>⟨RV.mono h _ _ k.1,RV.mono h _ _ k.2⟩) h1,h2⟩
 | loop st env ps a b=>obtain⟨v,h1,h2⟩:=k;exact⟨v,h1.mono h,h2⟩
def aG {k:Nat} (h:k≤MX):k+1<2 ^ BF:=by simp only[MX,BF]at *;omega
def SR.lt {s:St} (hs:SR P ρ s σ) {i:Nat} {m:Nat×Nat} (h:ρ i=some m):i≤MX:=by
 have h1:=hs.oY i;have h2:=hs.lim;rcases Nat.lt_or_ge i s.nx with h3|h3
 ·omega
 ·rw[h1 h3]at h;cases h
def SR.new {s:St} (hs:SR P ρ s σ) (hl:s.nx≤MX) {n:Nat} (hn:σ n=none) (cap:Nat) {o:EO} {o':O} (ho:RO P ρ cap o o') :
    ∃ρ',ρ.le ρ'∧ρ' s.nx=some (n,cap)∧SR P ρ' ⟨s.nx+1,Tr.set (some o) BF s.t s.nx⟩ (A0 σ n o'):=by
 have hle:ρ.le (fun i=>if i=s.nx then some (n,cap)else ρ i):=fun i m h=>by
  have:i≠s.nx:=fun e=>by rw[hs.oY i (by omega)]at h;cases h
  simp[this,h]
 refine⟨_,hle,by simp,⟨fun i o1 h1=>?_,fun i j o1 o2 m m' h1 h2 h3 h4 h5=>?_,fun i hi=>?_,by show s.nx+1≤_;omega⟩⟩
 ·rw[Tr.D2 _ _ _ (aG hl)]at h1
  by_cases e:i=s.nx
  ·rw[if_pos e]at h1
   cases h1;exact⟨(n,cap),by simp[e],o',DE _ _ _,ho.mono hle⟩
  ·rw[if_neg e]at h1
   obtain⟨m,h2,o2,h3,h4⟩:=hs.get i o1 h1;refine⟨m,by simp[e,h2],o2,?_,h4.mono hle⟩;rw[Ch _ _ (fun e'=>by rw[e',hn]at h3;cases h3)];exact h3
 ·rw[Tr.D2 _ _ _ (aG hl)]at h1 h2
  by_cases e:i=s.nx<;>by_cases e':j=s.nx
  ·omega
  ·exfalso
   rw[if_neg e']at h2;simp only[e,if_true,IT]at h3;simp only[e',if_false]at h4;obtain⟨m2,h6,o3,h7,_⟩:=hs.get j o2 h2;rw[h6]at h4;cases h4;rw[←h5,←h3,hn]at h7;cases h7
  ·exfalso
   rw[if_neg e]at h1;simp only[e',if_true,IT]at h4;simp only[e,if_false]at h3;obtain⟨m2,h6,o3,h7,_⟩:=hs.get i o1 h1;rw[h6]at h3;cases h3;rw[h5,←h4,hn]at h7;cases h7
  ·rw[if_neg e]at h1
   rw[if_neg e']at h2;simp only[e,if_false]at h3;simp only[e',if_false]at h4;exact hs.inj i j o1 o2 m m' h1 h2 h3 h4 h5
 ·have hi':s.nx+1≤i:=hi
  have:i≠s.nx:=by omega
  simp only[this,if_false];exact hs.oY i (by omega)
def SR.A0 {s:St} (hs:SR P ρ s σ) {i:Nat} {m:Nat×Nat} {o:EO} (hi:s.t.get i=some o) (hm:ρ i=some m) {o1:EO} {o1':O} (ho:RO P ρ m.2 o1 o1') :
    SR P ρ ⟨s.nx,Tr.set (some o1) BF s.t i⟩ (Gl.A0 σ m.1 o1'):=by
 have hl:=aG (hs.lt hm);refine⟨fun j o2 h1=>?_,fun j j' o2 o3 m1 m2 h1 h2 h3 h4 h5=>?_,hs.oY,hs.lim⟩
 ·rw[Tr.D2 _ _ _ hl]at h1
  by_cases e:j=i
  ·subst e
   rw[if_pos rfl]at h1;cases h1;exact⟨m,hm,o1',DE _ _ _,ho⟩
  ·rw[if_neg e]at h1
   obtain⟨m1,h2,o3,h3,h4⟩:=hs.get j o2 h1;refine⟨m1,h2,o3,?_,h4⟩;rw[Ch _ _ (fun e'=>e (hs.inj j i o2 o m1 m h1 hi h2 hm e'))];exact h3
 ·rw[Tr.D2 _ _ _ hl]at h1 h2
  have g1: ∃q,s.t.get j=some q:=by
   by_cases e:j=i
   ·exact⟨o,e ▸ hi⟩
   ·rw[if_neg e]at h1;exact⟨_,h1⟩
  have g2: ∃q,s.t.get j'=some q:=by
   by_cases e:j'=i
   ·exact⟨o,e ▸ hi⟩
   ·rw[if_neg e]at h2;exact⟨_,h2⟩
  obtain⟨q1,g1⟩:=g1;obtain⟨q2,g2⟩:=g2;exact hs.inj j j' q1 q2 m1 m2 g1 g2 h3 h4 h5
def SR.del {s:St} (hs:SR P ρ s σ) {i:Nat} {m:Nat×Nat} {o:EO} (hi:s.t.get i=some o) (hm:ρ i=some m) :
    SR P ρ ⟨s.nx,Tr.set none BF s.t i⟩ (Gl.del σ m.1):=by
 have hl:=aG (hs.lt hm)
 have sub: ∀j q,(Tr.set none BF s.t i).get j=some q→j≠i∧s.t.get j=some q:=fun j q h=>by
  rw[Tr.D2 _ _ _ hl]at h;by_cases e:j=i
  ·rw[if_pos e]at h;cases h
  ·rw[if_neg e]at h;exact⟨e,h⟩
 refine⟨fun j o2 h1=>?_,fun j j' o2 o3 m1 m2 h1 h2 h3 h4 h5=>?_,hs.oY,hs.lim⟩
 ·obtain⟨e,h1⟩:=sub j o2 h1
  obtain⟨m1,h2,o3,h3,h4⟩:=hs.get j o2 h1;refine⟨m1,h2,o3,?_,h4⟩;have:m1.1≠m.1:=fun e'=>e (hs.inj j i o2 o m1 m h1 hi h2 hm e')
  simp[Gl.del,this,h3]
 ·exact hs.inj j j' o2 o3 m1 m2 (sub _ _ h1).2 (sub _ _ h2).2 h3 h4 h5
def SR.at {s:St} (hs:SR P ρ s σ) {i:Nat} {m:Nat×Nat} {o:EO} (hi:s.t.get i=some o) (hm:ρ i=some m): ∃o',σ m.1=some o'∧RO P ρ m.2 o o':=by
 obtain⟨m',h1,h2⟩:=hs.get i o hi;rw[hm]at h1;cases h1;exact h2
def RE.get: ∀ {env env₀:Env},RE ρ env env₀→ ∀ {k:Nat} {v:V},Gl.get k env=some v→ ∃v',Gl.get k env₀=some v'∧RV ρ v v'
 | (j,u)::r,_,⟨y,ys,h1,h2,e⟩,k,v,h=>by
   subst e;obtain⟨j',u'⟩:=y;have e1:j'=j:=h1.1;subst e1;simp only[Gl.get]at h ⊢;cases hb:Nat.beq j' k with
   | true=>rw[hb]at h;simp only[cond_true]at h ⊢;cases h;exact⟨u',rfl,h1.2⟩
   | false=>rw[hb]at h;simp only[cond_false]at h ⊢;exact RE.get h2 h
def RE.vo: ∀ {env env₀:Env},RE ρ env env₀→ ∀ {k:Nat},Gl.get k env=none→Gl.get k env₀=none
 | [],_,h,k,_=>by cases h;rfl
 | (j,u)::r,_,⟨y,ys,h1,h2,e⟩,k,h=>by
   subst e;obtain⟨j',u'⟩:=y;have e1:j'=j:=h1.1;subst e1;simp only[Gl.get]at h ⊢;cases hb:Nat.beq j' k with
   | true=>rw[hb]at h;simp only[cond_true]at h;cases h
   | false=>rw[hb]at h;simp only[cond_false]at h ⊢;exact RE.vo h2 h
def DU (env:Env):Bm→Option V
 | .t n=>get n env
 | .c v=>bif BT v then some v else none
def Ax (he:RE ρ env env₀) {x:Bm} {v:V} (h:DU env x=some v): ∃v',ev env₀ x=some v'∧RV ρ v v':=by
 cases x with
 | t n=>exact he.get h
 | c u=>
   simp only[DU]at h;cases hb:BT u with
   | true=>rw[hb]at h;cases h;exact⟨_,rfl,RV.pure _ hb⟩
   | false=>rw[hb]at h;cases h
def N4 (env:Env):List Bm→Option (List V)
 | []=>some []
 | x ::r=>match DU env x with
   | some v=>match N4 env r with
     | some vs=>some (v::vs)
     | none=>none
   | none=>none
def H7 (he:RE ρ env env₀): ∀ {l:List Bm} {vs:List V},N4 env l=some vs→ ∃vs',UD env₀ l=some vs'∧K5 ρ vs vs'
 | [],_,h=>by cases h;exact⟨[],rfl,rfl⟩
 | x ::r,vs,h=>by
   simp only[N4]at h;split at h
   ·rename_i v hv
    split at h
    ·rename_i us hu
     cases h;obtain⟨v',h1,h2⟩:=Ax he hv;obtain⟨vs',h3,h4⟩:=H7 he hu;exact⟨v'::vs',by simp only[UD,h1,h3],F2.cons h2 h4⟩
    ·cases h
   ·cases h
def IU (k:IntKind) (n:Int):Int:=
 match k,n with
 | .i64,.ofNat m=>bif Nat.ble m 9223372036854775807 then .ofNat m else IntKind.i64.wrap (.ofNat m)
 | .u64,.ofNat m=>bif Nat.ble m 18446744073709551615 then .ofNat m else IntKind.u64.wrap (.ofNat m)
 | k,n=>k.wrap n
def wrap_u64 {n:Int} (h1:0≤n) (h2:n≤18446744073709551615):IntKind.u64.wrap n=n:=by
 have e:IntKind.u64.wrap n=n % 18446744073709551616:=by simp[IntKind.wrap,IntKind.bits,IntKind.signed]
 rw[e];omega
def ofNat_eq (m:Nat):Int.ofNat m=(m:Int):=rfl
def JH (k:IntKind) (n:Int):IU k n=k.wrap n:=by
 unfold IU;split
 ·rename_i m
  cases h:Nat.ble m 9223372036854775807 with
  | true=>
    have h':m≤9223372036854775807:=by rw[Nat.ble_eq]at h;exact h
    rw[cond_true,ofNat_eq];exact(wrap64 (by omega) (by omega)).symm
  | false=>rfl
 ·rename_i m
  cases h:Nat.ble m 18446744073709551615 with
  | true=>
    have h':m≤18446744073709551615:=by rw[Nat.ble_eq]at h;exact h
    rw[cond_true,ofNat_eq];exact(wrap_u64 (by omega) (by omega)).symm
  | false=>rfl
 ·rfl
def MR (a b:Int):Bool:=
 match a,b with
 | .ofNat m,.ofNat n=>Nat.ble (m+1) n
 | .negSucc _,.ofNat _=>true
 | .ofNat _,.negSucc _=>false
 | .negSucc m,.negSucc n=>Nat.ble (n+1) m
def O7 (a b:Int):MR a b=decide (a<b):=by
 cases a<;>cases b<;>simp only[MR]
 ·rename_i m n
  rw[JU,Nat.ble_eq,Cn];simp;omega
 ·rename_i m n
  symm;rw[decide_eq_false_iff_not];simp;omega
 ·rename_i m n
  symm;rw[Cn];simp;omega
 ·rename_i m n
  rw[JU,Nat.ble_eq,Cn];omega
def Oe (a b:Int):Bool:= !MR b a
def ew (a b:Int):Oe a b=decide (a≤b):=by
 rw[Oe,O7,JU];simp
def Z7 (a b:Int):Bool:=
 match a,b with
 | .ofNat m,.ofNat n=>Nat.beq m n
 | .negSucc m,.negSucc n=>Nat.beq m n
 | _,_=>false
def TF (a b:Int):Z7 a b=(a==b):=by
 cases a<;>cases b<;>simp only[Z7]
 ·rename_i m n
  rw[JU,Nat.beq_eq,D9];exact⟨fun e=>by rw[e],fun e=>by cases e;rfl⟩
 ·rename_i m n
  rw[JU,D9];exact⟨fun e=>(by cases e),fun e=>by cases e⟩
 ·rename_i m n
  rw[JU,D9];exact⟨fun e=>(by cases e),fun e=>by cases e⟩
 ·rename_i m n
  rw[JU,Nat.beq_eq,D9];exact⟨fun e=>by rw[e],fun e=>by cases e;rfl⟩
def ER {a b:Int} (h:Oe a b=true):a≤b:=by rw[ew]at h;exact of_decide_eq_true h
def Mg {a b:Int} (h:MR a b=true):a<b:=by rw[O7]at h;exact of_decide_eq_true h
def O3 (op:BinOp) (k:IntKind) (x y:Int):Int:=
 match k,x,y with
 | .u64,.ofNat a,.ofNat b=>bif Nat.ble a 18446744073709551615&&Nat.ble b 18446744073709551615 then
  match op with
  | .and=> .ofNat (Nat.land a b)
  | .or=> .ofNat (Nat.lor a b)
  | op=>bits op .u64 (.ofNat a) (.ofNat b)
   else bits op .u64 (.ofNat a) (.ofNat b)
 | k,x,y=>bits op k x y
def jB (op:BinOp) (k:IntKind) (x y:Int):O3 op k x y=bits op k x y:=by
 unfold O3;split
 ·rename_i a b
  cases h:Nat.ble a 18446744073709551615&&Nat.ble b 18446744073709551615 with
  | false=>rfl
  | true=>
    simp only[BJ]at h;have h1:=Nat.le_of_ble_eq_true h.1;have h2:=Nat.le_of_ble_eq_true h.2
    have e1:(BitVec.ofInt 64 (Int.ofNat a)).toNat=a:=by
     rw[show Int.ofNat a=(a:Int) from rfl,BitVec.ofInt_natCast,BitVec.toNat_ofNat];omega
    have e2:(BitVec.ofInt 64 (Int.ofNat b)).toNat=b:=by
     rw[show Int.ofNat b=(b:Int) from rfl,BitVec.ofInt_natCast,BitVec.toNat_ofNat];omega
    simp only[cond_true];split
    ·have e3:bits .and .u64 (Int.ofNat a) (Int.ofNat b)=IntKind.u64.wrap (((BitVec.ofInt 64 (Int.ofNat a))&&&(BitVec.ofInt 64 (Int.ofNat b))).toNat:Int):=rfl
     rw[e3,BitVec.toNat_and,e1,e2];have:a&&&b<2 ^ 64:=Nat.and_lt_two_pow _ (by omega);rw[wrap_u64 (by omega) (by omega)];rfl
    ·have e3:bits .or .u64 (Int.ofNat a) (Int.ofNat b)=IntKind.u64.wrap (((BitVec.ofInt 64 (Int.ofNat a))|||(BitVec.ofInt 64 (Int.ofNat b))).toNat:Int):=rfl
     rw[e3,BitVec.toNat_or,e1,e2];have:a|||b<2 ^ 64:=Nat.or_lt_two_pow (by omega) (by omega)
     rw[wrap_u64 (by omega) (by omega)];rfl
    ·rfl
 ·rfl
def UW (op:BinOp) (x y:V):Option V:=
 match x,y with
 | .i ka a,.i kb b=>
   match op with
   | .add=>bif decide (ka=kb)then some (.i ka (IU ka (a+b)))else none
   | .sub=>bif decide (ka=kb)then some (.i ka (IU ka (a - b)))else none
   | .mul=>bif decide (ka=kb)then some (.i ka (IU ka (a*b)))else none
   | .quo=>bif decide (ka=kb)&& !Z7 b 0 then some (.i ka (IU ka (a.tdiv b)))else none
   | .rem=>bif decide (ka=kb)&& !Z7 b 0 then some (.i ka (a.tmod b))else none
   | .eql=>bif decide (ka=kb)then some (.b (Z7 a b))else none
   | .neq=>bif decide (ka=kb)then some (.b (!Z7 a b))else none
   | .lss=>bif decide (ka=kb)then some (.b (MR a b))else none
   | .leq=>bif decide (ka=kb)then some (.b (Oe a b))else none
   | .gtr=>bif decide (ka=kb)then some (.b (MR b a))else none
   | .geq=>bif decide (ka=kb)then some (.b (Oe b a))else none
   | .shl=>bif Oe 0 b then some (.i ka (IU ka (a*2 ^ (min b.toNat ka.bits))))else none
   | .shr=>bif Oe 0 b then some (.i ka (a.fdiv (2 ^ (min b.toNat ka.bits))))else none
   | op=>bif decide (ka=kb)then some (.i ka (O3 op ka a b))else none
 | _,_=>none
def AZ {α:Type} {c:Bool} {x:Option α} {v:α} (h:(bif c then x else none)=some v):c=true∧x=some v:=by
 cases c with
 | true=>exact⟨rfl,h⟩
 | false=>cases h
def mR {op:BinOp} {x y v:V} (h:UW op x y=some v):BT x=true∧BT y=true∧BT v=true∧ ∀K:V→Prop,K v→UN op x y K:=by
 unfold UW at h;split at h
 ·rename_i ka a kb b
  refine⟨rfl,rfl,?_⟩
  cases op<;>simp only at h<;>obtain⟨h1,h2⟩:=AZ h<;>cases h2<;>refine⟨rfl,fun K U=>?_⟩<;>
   (try simp only[BJ,Cn,Bool.not_eq_true',TF,beq_eq_false_iff_ne]at h1)<;>
   (try simp only[JH,O7,ew,TF,jB]at U)<;>simp only[UN]
  all_goals first
   | exact⟨h1,U⟩
   | exact⟨h1.1,h1.2,U⟩
   | exact⟨ER h1,U⟩
 ·cases h
def GP {v v':V} {cs:List V} (h:cellsOf v=some cs) (hv:RV ρ v v'): ∃cs',cellsOf v'=some cs'∧K5 ρ cs cs':=by
 cases v with
 | a cs0=>
   cases h;obtain⟨c,h1,rfl⟩:=hv;exact⟨c,rfl,Bf.1 h1⟩
 | t _=>cases h
 | any=>cases h
 | _ =>
   cases h
   have:cellsOf v'=some [v']:=by
    simp only[RV]at hv
    first
     | (rw[hv];rfl)
     | (obtain⟨_,_,hv⟩:=hv;rw[hv];rfl)
     | (obtain⟨_,_,_,_,_,_,hv⟩:=hv;rw[hv];rfl)
   exact⟨[v'],this,F2.cons hv F2.nil⟩
def lB {v v':V} (hv:RV ρ v v'):CL v'=CL v:=by
 cases v<;>simp only[RV]at hv<;>first
  | (rw[hv];done)
  | (obtain⟨_,_,hv⟩:=hv;rw[hv];rfl)
  | (obtain⟨_,_,_,_,_,_,hv⟩:=hv;rw[hv];rfl)
def Zs {vs vs':List V} (h:vs.all CL=true) (hv:K5 ρ vs vs'):vs'.all CL=true:=by
 rw[Em]at *;intro v hm;obtain⟨u,hu,hr⟩:=F2.mem hv hm;rw[lB hr];exact h u hu
def L3 {vs vs':List (List V)} (h:(vs.all fun e=>e.all CL)=true) (hv:dH ρ vs vs'): ∀e∈vs',∀v∈e,CL v=true:=by
 rw[Em]at h;intro e he;obtain⟨u,hu,hr⟩:=F2.mem hv he;have:=Zs (h u hu) hr
 rwa [Em]at this
def OZ {sz:Nat} {vs vs':List (List V)} (h:(vs.all fun e=>Nat.beq e.length sz)=true) (hv:dH ρ vs vs'): ∀e∈vs',e.length=sz:=by
 rw[Em]at h;intro e he;obtain⟨u,hu,hr⟩:=F2.mem hv he;rw[hr.len];exact C3 (h u hu)
def Lo: ∀ {vc vc':List V} {cs cs':List V} {off:Nat},K5 ρ cs cs'→K5 ρ vc vc'→K5 ρ (putAt cs off vc) (putAt cs' off vc')
 | [],_,_,_,_,h,h'=>by cases h';exact h
 | _::_,_,_,_,off,h,⟨y,ys,h1,h2,e⟩=>by
   subst e;simp only[putAt];exact Lo (h.set off h1) h2
def US (agg:Option Nat) (cs:List V) (off:Nat):Option V:=
 match agg with
 | none=>cs[off]?
 | some n=>bif Nat.ble (off+n) cs.length then some (.a ((cs.drop off).take n))else none
def Lb {agg:Option Nat} {cs cs':List V} {off:Nat} {v:V} (h:US agg cs off=some v) (hc:K5 ρ cs cs') {K:V→Prop} (U: ∀v',RV ρ v v'→K v'):cut agg cs' off K:=by
 cases agg with
 | none=>
   obtain⟨y,h1,h2⟩:=hc.get h;simp only[cut,h1];exact U _ h2
 | some n=>
   obtain⟨h1,h2⟩:=AZ h;cases h2;refine⟨by rw[hc.len];exact Nat.le_of_ble_eq_true h1,U _ ?_⟩;simp only[RV];exact⟨_,Bf.2 ((hc.drop off).take n),rfl⟩
def Ng (s:St) (agg:Option Nat) (x:V):Option V:=
 match x with
 | .rp cs=>US agg cs 0
 | .p n off=>match s.t.get n with
   | some (.cs vs)=>US agg vs off
   | _=>none
 | .pe n sz i off=>match s.t.get n with
   | some (.arr sz' es)=>bif Nat.beq sz sz' then(match es[i]? with|some e=>US agg e off|none=>none)else none
   | _=>none
 | _=>none
def Vf {s:St} (hs:SR P ρ s σ) {agg:Option Nat} {x x' v:V} (h:Ng s agg x=some v) (hx:RV ρ x x') {K:V→Prop} (U: ∀v',RV ρ v v'→K v'):Ab σ agg x' K:=by
 unfold Ng at h;split at h
 ·obtain⟨c,h1,rfl⟩:=hx
  exact Lb h (Bf.1 h1) U
 ·obtain⟨m,h1,rfl⟩:=hx
  split at h
  ·rename_i vs hg
   obtain⟨o',h2,vs',h3,rfl⟩:=hs.at hg h1;simp only[Ab,Ov,h2];exact Lb h h3 U
  ·cases h
 ·obtain⟨m,h1,rfl⟩:=hx
  split at h
  ·rename_i es hg
   obtain⟨o',h2,es',h3,rfl⟩:=hs.at hg h1;obtain⟨h4,h5⟩:=AZ h;split at h5
   ·rename_i e he
    obtain⟨e',h6,h7⟩:=h3.get he;simp only[Ab,Ow,h2,h6];exact⟨C3 h4,Lb h5 h7 U⟩
   ·cases h5
  ·cases h
 ·cases h
def O9 (s : St) (sz:Nat) (a x:V):Option St:=
 match cellsOf x with
 | some vc =>bif Nat.beq vc.length sz&&vc.all CL then
  match a with
  | .p n off=>match s.t.get n with
    | some (.cs vs)=>bif Nat.ble (off+sz) vs.length then Tr.put (some (.cs (putAt vs off vc))) BF s.t n fun t=>some ⟨s.nx,t⟩else none
    | _=>none
  | .pe n s' i off=>match s.t.get n with
    | some (.arr s1 es)=>bif Nat.beq s' s1&&Nat.ble (off+sz) s' then
     (match es[i]? with|some e=>Tr.put (some (.arr s1 (es.set i (putAt e off vc)))) BF s.t n fun t=>some ⟨s.nx,t⟩|none=>none)else none
    | _=>none
  | _=>none
   else none
 | none=>none
def cF {s s':St} (hs:SR P ρ s σ) {sz:Nat} {a a' x x':V} (h:O9 s sz a x=some s') (ha:RV ρ a a') (hx:RV ρ x x') {K:AH→Prop} (U: ∀σ',SR P ρ s' σ'→K σ'):AW σ sz a' x' K:=by
 unfold O9 at h;split at h
 ·rename_i vc hvc
  obtain⟨vc',e1,e2⟩:=GP hvc hx;obtain⟨h1,h2⟩:=AZ h;simp only[BJ]at h1;simp only[AW,e1];refine⟨by rw[e2.len];exact C3 h1.1,Zs h1.2 e2,?_⟩;split at h2
  ·obtain⟨m,g1,rfl⟩:=ha
   split at h2
   ·rename_i vs hg
    obtain⟨o',g2,vs',g3,rfl⟩:=hs.at hg g1;obtain⟨h3,h4⟩:=AZ h2;rw[Tr.put_eq]at h4;cases h4;simp only[g2];exact⟨by rw[g3.len];exact Nat.le_of_ble_eq_true h3,U _ (hs.A0 hg g1 ⟨_,Lo g3 e2,rfl⟩)⟩
   ·cases h2
  ·obtain⟨m,g1,rfl⟩:=ha
   split at h2
   ·rename_i es hg
    obtain⟨o',g2,vs',g3,rfl⟩:=hs.at hg g1;obtain⟨h3,h4⟩:=AZ h2;simp only[BJ]at h3;split at h4
    ·rename_i e he
     rw[Tr.put_eq]at h4;cases h4;obtain⟨e',g4,g5⟩:=g3.get he;simp only[g2,g4];have e:=C3 h3.1;subst e;exact⟨rfl,Nat.le_of_ble_eq_true h3.2,U _ (hs.A0 hg g1 ⟨_,g3.set _ (Lo g5 e2),rfl⟩)⟩
    ·cases h4
   ·cases h2
  ·cases h2
 ·cases h
def TG (off:Nat) (x:V):Option V:=
 match x with
 | .rp cs=>some (.rp (cs.drop off))
 | .p n o=>some (.p n (o+off))
 | .pe n sz i o=>some (.pe n sz i (o+off))
 | _=>none
def cK {off:Nat} {x x' v:V} (h:TG off x=some v) (hx:RV ρ x x') {K:V→Prop} (U: ∀v',RV ρ v v'→K v'):KW off x' K:=by
 unfold TG at h;split at h
 ·obtain⟨c,h1,rfl⟩:=hx
  cases h;exact U _ (by simp only[RV];exact⟨_,Bf.2 ((Bf.1 h1).drop off),rfl⟩)
 ·obtain⟨m,h1,rfl⟩:=hx
  cases h;exact U _ (by simp only[RV];exact⟨m,h1,rfl⟩)
 ·obtain⟨m,h1,rfl⟩:=hx
  cases h;exact U _ (by simp only[RV];exact⟨m,h1,rfl⟩)
 ·cases h
def Ml (sz:Nat) (arr:Option Nat) (x i:V):Option V:=
 match i with
 | .i _ j=>bif Oe 0 j then
  match arr,x with
  | none,.l es _=>match es[j.toNat]? with|some e=>bif Nat.beq e.length sz then some (.rp e)else none|none=>none
  | none,.sl n len _=>bif MR j len then some (.pe n sz j.toNat 0)else none
  | none,.sv n s off len=>bif Nat.beq s sz&&MR j len then some (.pe n sz (off+j.toNat) 0)else none
  | some m,.rp cs=>bif MR j m then some (.rp (cs.drop (j.toNat*sz)))else none
  | some m,.p n o=>bif MR j m then some (.p n (o+j.toNat*sz))else none
  | some m,.pe n s q o=>bif MR j m then some (.pe n s q (o+j.toNat*sz))else none
  | _,_=>none
   else none
 | _=>none
def cJ {sz:Nat} {arr:Option Nat} {x x' i i' v:V} (h:Ml sz arr x i=some v) (hx:RV ρ x x') (hi:RV ρ i i') {K:V→Prop} (U: ∀v',RV ρ v v'→K v'):AV sz arr x' i' K:=by
 unfold Ml at h;split at h
 ·rename_i kj j
  simp only[RV]at hi;subst hi;obtain⟨h0,h⟩:=AZ h;have h0:=ER h0;split at h
  ·obtain⟨es',h1,rfl⟩:=hx
   split at h
   ·rename_i e he
    obtain⟨h2,h3⟩:=AZ h;cases h3;obtain⟨e',h4,h5⟩:=(FZ.1 h1).get he;exact⟨h0,e',h4,by rw[h5.len];exact C3 h2,U _ (by simp only[RV];exact⟨e',Bf.2 h5,rfl⟩)⟩
   ·cases h
  ·obtain⟨m,h1,rfl⟩:=hx
   obtain⟨h2,h3⟩:=AZ h;cases h3;exact⟨h0,Mg h2,U _ (by simp only[RV];exact⟨m,h1,rfl⟩)⟩
  ·obtain⟨m,h1,rfl⟩:=hx
   obtain⟨h2,h3⟩:=AZ h;simp only[BJ]at h2;cases h3;exact⟨C3 h2.1,h0,Mg h2.2,U _ (by simp only[RV];exact⟨m,h1,rfl⟩)⟩
  ·obtain⟨c,h1,rfl⟩:=hx
   obtain⟨h2,h3⟩:=AZ h;cases h3;exact⟨h0,Mg h2,U _ (by simp only[RV];exact⟨_,Bf.2 ((Bf.1 h1).drop _),rfl⟩)⟩
  ·obtain⟨m,h1,rfl⟩:=hx
   obtain⟨h2,h3⟩:=AZ h;cases h3;exact⟨h0,Mg h2,U _ (by simp only[RV];exact⟨m,h1,rfl⟩)⟩
  ·obtain⟨m,h1,rfl⟩:=hx
   obtain⟨h2,h3⟩:=AZ h;cases h3;exact⟨h0,Mg h2,U _ (by simp only[RV];exact⟨m,h1,rfl⟩)⟩
  ·cases h
 ·cases h
def PB (len sz:Nat) (agg:Option Nat) (x i:V):Option V:=
 match x,i with
 | .a cs,.i _ j=>bif Oe 0 j&&MR j len then US agg cs (j.toNat*sz)else none
 | _,_=>none
def cI {len sz:Nat} {agg:Option Nat} {x x' i i' v:V} (h:PB len sz agg x i=some v) (hx:RV ρ x x') (hi:RV ρ i i') {K:V→Prop} (U: ∀v',RV ρ v v'→K v'):KV len sz agg x' i' K:=by
 unfold PB at h;split at h
 ·simp only[RV]at hi
  subst hi;obtain⟨c,h1,rfl⟩:=hx;obtain⟨h2,h3⟩:=AZ h;simp only[BJ]at h2;exact⟨ER h2.1,Mg h2.2,Lb h3 (Bf.1 h1) U⟩
 ·cases h
def Um (x i:V):Option V:=
 match x,i with
 | .s b,.i _ j=>bif Oe 0 j then(match b.data.toList[j.toNat]? with|some c=>some (.i .u8 (.ofNat c.toNat))|none=>none)else none
 | _,_=>none
def iY {x x' i i' v:V} (h:Um x i=some v) (hx:RV ρ x x') (hi:RV ρ i i') {K:V→Prop} (U: ∀v',RV ρ v v'→K v'):Oy x' i' K:=by
 unfold Um at h;split at h
 ·simp only[RV]at hi hx
  subst hi;subst hx;obtain⟨h2,h3⟩:=AZ h;refine⟨ER h2,?_⟩;split at h3
  ·rename_i c hc
   cases h3;rw[hc];exact U _ (by simp only[RV];rfl)
  ·cases h3
 ·cases h
def aL (x:V):Option V:=
 match x with
 | .l es _=>some (.i .i64 (.ofNat es.length))
 | .sl _ len _=>bif Nat.ble len Ad then some (.i .i64 (.ofNat len))else none
 | .sv _ _ _ len=>bif Nat.ble len Ad then some (.i .i64 (.ofNat len))else none
 | _=>none
def mO {x x' v:V} (h:aL x=some v) (hx:RV ρ x x') {K:V→Prop} (U: ∀v',RV ρ v v'→K v'):A8 x' K:=by
 unfold aL at h;split at h
 ·obtain⟨es',h1,rfl⟩:=hx
  cases h;have:=(FZ.1 h1).len;exact U _ (by simp only[RV];rw[this];rfl)
 ·obtain⟨m,h1,rfl⟩:=hx
  obtain⟨h2,h3⟩:=AZ h;cases h3;exact⟨Nat.le_of_ble_eq_true h2,U _ (by simp only[RV];rfl)⟩
 ·obtain⟨m,h1,rfl⟩:=hx
  obtain⟨h2,h3⟩:=AZ h;cases h3;exact⟨Nat.le_of_ble_eq_true h2,U _ (by simp only[RV];rfl)⟩
 ·cases h
def Un (s:St) (x:V):Option V:=
 match x with
 | .m n=>match s.t.get n with
   | some (.map kvs)=>bif Nat.ble kvs.length Ad then some (.i .i64 (.ofNat kvs.length))else none
   | _=>none
 | .mn=>some (.i .i64 0)
 | _=>none
def iZ {s:St} (hs:SR P ρ s σ) {x x' v:V} (h:Un s x=some v) (hx:RV ρ x x') {K:V→Prop} (U: ∀v',RV ρ v v'→K v'):J5 σ x' K:=by
 unfold Un at h;split at h
 ·obtain⟨m,h1,rfl⟩:=hx
  split at h
  ·rename_i kvs hg
   obtain⟨h2,h3⟩:=AZ h;cases h3;obtain⟨o',g2,kvs',g3,rfl⟩:=hs.at hg h1;simp only[J5,g2];have:=g3.len;exact⟨by rw[this];exact Nat.le_of_ble_eq_true h2,U _ (by simp only[RV];rw[this];rfl)⟩
  ·cases h
 ·cases h
  simp only[RV]at hx;subst hx;exact U _ (by simp only[RV])
 ·cases h
def Ig (s:St) (sz:Nat) (y:V):Option (List (List V)):=
 match y with
 | .l ys _=>bif ys.all (fun e=>Nat.beq e.length sz)then some ys else none
 | .sl m len _=>match s.t.get m with
   | some (.arr s' ys)=>bif Nat.beq s' sz&&Nat.ble len ys.length then some (ys.take len)else none
   | _=>none
 | .sv m s1 off len=>match s.t.get m with
   | some (.arr s' ys)=>bif Nat.beq s1 sz&&(Nat.beq s' sz&&Nat.ble (off+len) ys.length)then some ((ys.drop off).take len)else none
   | _=>none
 | _=>none
def Hf {s:St} (hs:SR P ρ s σ) {sz:Nat} {y y':V} {ys:List (List V)} (h:Ig s sz y=some ys) (hy:RV ρ y y') {K:List (List V)→Prop} (U: ∀ys',dH ρ ys ys'→K ys'):rowsOf σ sz y' K:=by
 unfold Ig at h;split at h
 ·obtain⟨es',h1,rfl⟩:=hy
  obtain⟨h2,h3⟩:=AZ h;cases h3;exact⟨OZ h2 (FZ.1 h1),U _ (FZ.1 h1)⟩
 ·obtain⟨m,h1,rfl⟩:=hy
  split at h
  ·rename_i es hg
   obtain⟨o',g2,es',g3,rfl⟩:=hs.at hg h1;obtain⟨h2,h3⟩:=AZ h;simp only[BJ]at h2;cases h3;simp only[rowsOf,g2];exact⟨C3 h2.1,by rw[g3.len];exact Nat.le_of_ble_eq_true h2.2,U _ (g3.take _)⟩
  ·cases h
 ·obtain⟨m,h1,rfl⟩:=hy
  split at h
  ·rename_i es hg
   obtain⟨o',g2,es',g3,rfl⟩:=hs.at hg h1;obtain⟨h2,h3⟩:=AZ h;simp only[BJ]at h2;cases h3;simp only[rowsOf,g2];exact⟨C3 h2.1,C3 h2.2.1,by rw[g3.len];exact Nat.le_of_ble_eq_true h2.2.2,U _ ((g3.drop _).take _)⟩
  ·cases h
 ·cases h
def St.new {β:Type} (s:St) (o:EO) (K:Nat→St→Option β):Option β:=
 match s.nx with
 | 0=>Tr.put (some o) BF s.t 0 fun t=>K 0 ⟨1,t⟩
 | n+1=>bif Nat.ble (n+1) MX then Tr.put (some o) BF s.t (n+1) fun t=>K (n+1) ⟨n+2,t⟩else none
def St.Hy {β:Type} {s:St} {o:EO} {K:Nat→St→Option β} {x:β} (h:s.new o K=some x):s.nx≤MX∧K s.nx ⟨s.nx+1,Tr.set (some o) BF s.t s.nx⟩=some x:=by
 obtain⟨n,t⟩:=s;cases n with
 | zero=>simp only[St.new]at h;rw[Tr.put_eq]at h;exact⟨by simp[MX],h⟩
 | succ n=>
   simp only[St.new]at h;obtain⟨h1,h2⟩:=AZ h;rw[Tr.put_eq]at h2;exact⟨Nat.le_of_ble_eq_true h1,h2⟩
def Rt: ∀ {ys ys':List (List V)} {ns:List Int},FI ys=some ns→dH ρ ys ys'→FI ys'=some ns
 | [],ys',ns,h,hr=>by obtain rfl:ys'= []:=hr;exact h
 | e ::r,ys',ns,h,hr=>by
   unfold FI at h;split at h
   ·cases ‹_= []›
   ·rename_i n r' he
    cases he;obtain⟨e',r'',h1,h2,rfl⟩:=hr;obtain⟨v',l',h3,h4,rfl⟩:=h1;obtain rfl:l'= []:=h4;simp only[RV]at h3;subst h3;split at h
    ·rename_i l hl
     cases h;simp only[FI,Rt hl h2]
    ·cases h
   ·cases h
def db (s:St) (x:V):Option V:=
 match Ig s 1 x with
 | some ys=>match FI ys with
   | some ns=>some (.s ⟨(ns.map fun n=>UInt8.ofNat n.toNat).toArray⟩)
   | none=>none
 | none=>none
def mN {s:St} (hs:SR P ρ s σ) {x x' v:V} (h:db s x=some v) (hx:RV ρ x x') {K:V→Prop} (U: ∀v',RV ρ v v'→K v'):dX σ x' K:=by
 unfold db at h;split at h
 ·rename_i ys hys
  split at h
  ·rename_i ns hn
   cases h;refine Hf hs hys hx fun ys' hr=>?_
   rw[Rt hn hr];exact U _ (by simp only[RV])
  ·cases h
 ·cases h
def uz (b L:Nat):Bool:=Nat.ble L 1073741824&&Nat.ble b 131072
def S3 {b L:Nat} (h:uz b L=true):L≤Ad∧L*b≤140737488355328:=by
 simp only[uz,BJ]at h;have h1:=Nat.le_of_ble_eq_true h.1;have h2:=Nat.le_of_ble_eq_true h.2;have h3:L*b≤1073741824*131072:=Nat.mul_le_mul h1 h2;exact⟨by unfold Ad;omega,by omega⟩
def Lc (b : Nat) (s:St) (sz:Nat) (x y:V):Option (V×St):=
 match Ig s sz y with
 | some ys =>bif ys.all (fun e=>e.all CL)then
  match x with
  | .l es full=>bif es.all (fun e=>Nat.beq e.length sz)&&uz b (es.length+ys.length)then
   match ys with
   | []=>some (.l es full,s)
   | z::zs=>bif full then s.new (.arr sz (es++z::zs)) fun i s'=>some (.sl i (es.length+(z::zs).length) 0,s')else none
    else none
  | .sl n len _=>match s.t.get n with
    | some (.arr s1 es)=>bif Nat.beq s1 sz&&(Nat.beq len es.length&&uz b (es.length+ys.length))then
     Tr.put none BF s.t n fun t=>St.new ⟨s.nx,t⟩ (.arr sz (es++ys)) fun i s'=>some (.sl i (es.length+ys.length) 0,s')else none
    | _=>none
  | _=>none
   else none
 | none=>none
def X7 {b : Nat} {s s':St} (hs:SR P ρ s σ) {sz:Nat} {x x' y y' v:V} (h:Lc b s sz x y=some (v,s')) (hx:RV ρ x x') (hy:RV ρ y y') {K:V→AH→Prop}
    (U: ∀ρ' v' σ',ρ.le ρ'→RV ρ' v v'→SR P ρ' s' σ'→K v' σ'):AM b σ sz x' y' K:=by
 unfold Lc at h;split at h
 ·rename_i ys hys
  obtain⟨h1,h2⟩:=AZ h;refine Hf hs hys hy fun ys' hr=>⟨L3 h1 hr,?_⟩
  split at h2
  ·rename_i es full
   obtain⟨es',g1,rfl⟩:=hx;have g1:=FZ.1 g1;obtain⟨h3,h4⟩:=AZ h2;simp only[BJ]at h3;refine⟨OZ h3.1 g1,by rw[g1.len,hr.len];exact S3 h3.2,fun e=>?_,fun e=>?_⟩
   ·split at h4
    ·cases h4
     exact U ρ _ _ (.refl _) (by simp only[RV];exact⟨es',FZ.2 g1,rfl⟩) hs
    ·subst e
     have:=hr.len;simp at this
   ·split at h4
    ·cases hr
     exact absurd rfl e
    ·rename_i z zs
     obtain⟨h5,h6⟩:=AZ h4;obtain⟨h7,h8⟩:=St.Hy h6;cases h8;refine⟨h5,fun n cap hn hc=>?_⟩;obtain⟨ρ',q1,q2,q3⟩:=hs.new h7 hn cap (o:= .arr sz (es++z::zs)) (o':= .arr sz (es'++ys') cap) ⟨_,g1.app hr,rfl⟩;exact U ρ' _ _ q1 (by simp only[RV];exact⟨_,q2,by rw[g1.len,hr.len]⟩) q3
  ·rename_i n len
   obtain⟨m,g1,rfl⟩:=hx;split at h2
   ·rename_i s1 es hg
    obtain⟨o',g2,es',g3,rfl⟩:=hs.at hg g1;obtain⟨h3,h4⟩:=AZ h2;simp only[BJ]at h3;rw[Tr.put_eq]at h4;obtain⟨h5,h6⟩:=St.Hy h4;cases h6;have e1:=C3 h3.1;subst e1;simp only[g2];refine⟨trivial,trivial,by rw[g3.len];exact C3 h3.2.1,by rw[g3.len,hr.len];exact S3 h3.2.2,fun n' cap' hn hc=>?_⟩;obtain⟨ρ',q1,q2,q3⟩:=(hs.del hg g1).new h5 hn cap' (o:= .arr s1 (es++ys)) (o':= .arr s1 (es'++ys') cap') ⟨_,g3.app hr,rfl⟩;exact U ρ' _ _ q1 (by simp only[RV];exact⟨_,q2,by rw[g3.len,hr.len]⟩) q3
   ·cases h2
  ·cases h2
 ·cases h
def Up (b:Nat) (s:St) (sz:Nat) (x y:V):Option V:=
 match Ig s sz y with
 | some ys=>bif ys.all (fun e=>e.all CL)then
  match x with
  | .l es full=>bif es.all (fun e=>Nat.beq e.length sz)&&(uz b (es.length+ys.length)&&(full||ys.isEmpty))then some (.l (es++ys) false)else none
  | _=>none
   else none
 | none=>none
def ib {b:Nat} {s:St} (hs:SR P ρ s σ) {sz:Nat} {x x' y y' v:V} (h:Up b s sz x y=some v) (hx:RV ρ x x') (hy:RV ρ y y') {K:V→Prop} (U: ∀v',RV ρ v v'→K v'):Ah b σ sz x' y' K:=by
 unfold Up at h;split at h
 ·rename_i ys hys
  obtain⟨h1,h2⟩:=AZ h;refine Hf hs hys hy fun ys' hr=>⟨L3 h1 hr,?_⟩
  split at h2
  ·rename_i es full
   obtain⟨es',g1,rfl⟩:=hx;have g1:=FZ.1 g1;obtain⟨h3,h4⟩:=AZ h2;simp only[BJ,Fo]at h3;cases h4;refine⟨OZ h3.1 g1,by rw[g1.len,hr.len];exact S3 h3.2.1,fun e=>?_,U _ (by simp only[RV];exact⟨_,FZ.2 (g1.app hr),rfl⟩)⟩;rcases h3.2.2 with h|h
   ·exact h
   ·have:ys= []:=by simpa using h
    subst this;cases hr;exact absurd rfl e
  ·cases h2
 ·cases h
def jy (s:St) (sz:Nat) (ys:List (List V)) (n off len:Nat):Option (V×St):=
 match s.t.get n with
 | some (.arr s1 es)=>bif Nat.beq s1 sz&&Nat.ble (off+len) es.length then
  Tr.put (some (.arr s1 (es.take off++(ys.take (min ys.length len)++es.drop (off+min ys.length len))))) BF s.t n fun t=>some (.i .i64 (.ofNat (min ys.length len)),⟨s.nx,t⟩)else none
 | _=>none
def Zh {s s':St} (hs:SR P ρ s σ) {sz n off len:Nat} {ys ys':List (List V)} (hr:dH ρ ys ys') {m:Nat×Nat} (hm:ρ n=some m) {v:V} (h:jy s sz ys n off len=some (v,s')) {K:V→AH→Prop}
    (U: ∀v' σ',RV ρ v v'→SR P ρ s' σ'→K v' σ'):Oi σ sz ys' m.1 off len K:=by
 unfold jy at h;split at h
 ·rename_i s1 es hg
  obtain⟨o',g2,es',g3,rfl⟩:=hs.at hg hm;obtain⟨h3,h4⟩:=AZ h;simp only[BJ]at h3;rw[Tr.put_eq]at h4;cases h4;simp only[Oi,g2];refine⟨C3 h3.1,by rw[g3.len];exact Nat.le_of_ble_eq_true h3.2,?_⟩;rw[hr.len];exact U _ _ (by simp only[RV];rfl) (hs.A0 hg hm ⟨_,((g3.take off).app ((hr.take _).app (g3.drop _))),rfl⟩)
 ·cases h
def Uo (s:St) (sz:Nat) (x y:V):Option (V×St):=
 match Ig s sz y with
 | some ys=>bif ys.all (fun e=>e.all CL)then
  match x with
  | .sl n len _=>jy s sz ys n 0 len
  | .sv n s1 off len=>bif Nat.beq s1 sz then jy s sz ys n off len else none
  | _=>none
   else none
 | none=>none
def ia {s s':St} (hs:SR P ρ s σ) {sz:Nat} {x x' y y' v:V} (h:Uo s sz x y=some (v,s')) (hx:RV ρ x x') (hy:RV ρ y y') {K:V→AH→Prop}
    (U: ∀v' σ',RV ρ v v'→SR P ρ s' σ'→K v' σ'):Ag σ sz x' y' K:=by
 unfold Uo at h;split at h
 ·rename_i ys hys
  obtain⟨h1,h2⟩:=AZ h;refine Hf hs hys hy fun ys' hr=>⟨L3 h1 hr,?_⟩
  split at h2
  ·obtain⟨m,g1,rfl⟩:=hx
   exact Zh hs hr g1 h2 U
  ·obtain⟨m,g1,rfl⟩:=hx
   obtain⟨h3,h4⟩:=AZ h2;exact⟨C3 h3,Zh hs hr g1 h4 U⟩
  ·cases h2
 ·cases h
def UU (o:Option V) (d:Int):Option Int:=
 match o with
 | none=>some d
 | some (.i _ n)=>some n
 | _=>none
def nG (ρ:Ren):Option V→Option V→Prop
 | none,o=>o=none
 | some v,o=> ∃v',RV ρ v v'∧o=some v'
def Jc {o o':Option V} {d n:Int} (h:UU o d=some n) (ho:nG ρ o o') {K:Int→Prop} (U:K n):NV o' d K:=by
 unfold UU at h;split at h
 ·cases h;cases ho;exact U
 ·obtain⟨v',h1,rfl⟩:=ho
  simp only[RV]at h1;subst h1;cases h;exact U
 ·cases h
def PA (s : St) (sz:Nat) (x:V) (lo hi mx:Option V):Option (V×St):=
 match x with
 | .l es full=>match UU hi (.ofNat es.length),UU lo 0 with
   | some h,some l=>bif es.all (fun e=>Nat.beq e.length sz)&&(Oe 0 l&&(Oe l h&&Oe h (.ofNat es.length)))then
    match mx with
    | none=>some (.l ((es.take h.toNat).drop l.toNat) (full&&Z7 h (.ofNat es.length)),s)
    | some (.i _ m)=>bif Z7 m h then some (.l ((es.take h.toNat).drop l.toNat) true,s)else none
    | _=>none
     else none
   | _,_=>none
 | .sl n len _=>match UU hi (.ofNat len),UU lo 0 with
   | some h,some l=>bif Oe 0 l&&(Oe l h&&Oe h (.ofNat len))then
    match mx with
    | none=>some (.sv n sz l.toNat (h - l).toNat,s)
    | some (.i _ m)=>match s.t.get n with
      | some (.arr s1 es)=>bif Z7 m h&&(Z7 h (.ofNat len)&&(Z7 l 0&&(Nat.beq s1 sz&&Nat.beq len es.length)))then Tr.put none BF s.t n fun t=>St.new ⟨s.nx,t⟩ (.arr s1 es) fun i s'=>some (.sl i len 0,s')else none
      | _=>none
    | _=>none
     else none
   | _,_=>none
 | .sv n s1 off len=>match UU hi (.ofNat len),UU lo 0,mx with
   | some h,some l,none=>bif Nat.beq s1 sz&&(Oe 0 l&&(Oe l h&&Oe h (.ofNat len)))then some (.sv n sz (off+l.toNat) (h - l).toNat,s)else none
   | _,_,_=>none
 | _=>none
def TE {a b:Int} (h:Z7 a b=true):a=b:=by rw[TF]at h;simpa using h
def cG {s s':St} (hs:SR P ρ s σ) {sz:Nat} {x x' v:V} {lo hi mx lo' hi' mx':Option V} (h:PA s sz x lo hi mx=some (v,s')) (hx:RV ρ x x') (h1:nG ρ lo lo') (h2:nG ρ hi hi') (h3:nG ρ mx mx') {K:V→AH→Prop}
    (U: ∀ρ' v' σ',ρ.le ρ'→RV ρ' v v'→SR P ρ' s' σ'→K v' σ'):AU σ sz x' lo' hi' mx' K:=by
 unfold PA at h;split at h
 ·rename_i es full
  obtain⟨es',g1,rfl⟩:=hx;have g1:=FZ.1 g1;split at h
  ·rename_i hh ll e1 e2
   obtain⟨h4,h5⟩:=AZ h;simp only[BJ]at h4;refine⟨OZ h4.1 g1,?_⟩;rw[g1.len];refine Jc e1 h2 ?_;refine Jc e2 h1 ?_;refine⟨ER h4.2.1,ER h4.2.2.1,ER h4.2.2.2,?_⟩;split at h5
   ·cases h3
    cases h5;refine U ρ _ _ (.refl _) ?_ hs;simp only[RV];refine⟨_,FZ.2 ((g1.take _).drop _),?_⟩;congr 1;rw[TF];congr 1
   ·obtain⟨v',q1,rfl⟩:=h3
    simp only[RV]at q1;subst q1;obtain⟨h6,h7⟩:=AZ h5;cases h7;exact⟨TE h6,U ρ _ _ (.refl _) (by simp only[RV];exact⟨_,FZ.2 ((g1.take _).drop _),rfl⟩) hs⟩
   ·cases h5
  ·cases h
 ·rename_i n len
  obtain⟨m,g1,rfl⟩:=hx;split at h
  ·rename_i hh ll e1 e2
   obtain⟨h4,h5⟩:=AZ h;simp only[BJ]at h4;simp only[AU];refine Jc e1 h2 ?_;refine Jc e2 h1 ?_;refine⟨ER h4.1,ER h4.2.1,ER h4.2.2,?_⟩;split at h5
   ·cases h3
    cases h5;exact U ρ _ _ (.refl _) (by simp only[RV];exact⟨m,g1,rfl⟩) hs
   ·obtain⟨v',q1,rfl⟩:=h3
    simp only[RV]at q1;subst q1;split at h5
    ·rename_i s1 es hg
     obtain⟨o',g2,es',g3,rfl⟩:=hs.at hg g1;obtain⟨h6,h7⟩:=AZ h5;simp only[BJ]at h6;rw[Tr.put_eq]at h7;obtain⟨h8,h9⟩:=St.Hy h7;cases h9;simp only[g2];have h10:=C3 h6.2.2.2.2;refine⟨TE h6.1,TE h6.2.1,TE h6.2.2.1,C3 h6.2.2.2.1,trivial,by rw[g3.len];exact h10,.inr ?_⟩;obtain⟨ρ',q1,q2,q3⟩:=(hs.del hg g1).new h8 (DS σ m.1) n (o:= .arr s1 es) (o':= .arr s1 es' n) ⟨es',g3,rfl⟩
     have e:Gl.A0 (Gl.del σ m.1) m.1 (.arr s1 es' n)=Gl.A0 σ m.1 (.arr s1 es' n):=by
      funext k;by_cases hk:k=m.1
      ·simp[Gl.A0,hk]
      ·simp[Gl.A0,Gl.del,hk]
     rw[e]at q3;exact U ρ' _ _ q1 (by simp only[RV];exact⟨_,q2,rfl⟩) q3
    ·cases h5
   ·cases h5
  ·cases h
 ·obtain⟨m,g1,rfl⟩:=hx
  split at h
  ·rename_i hh ll e1 e2
   cases h3;obtain⟨h4,h5⟩:=AZ h;simp only[BJ]at h4;cases h5;simp only[AU];refine Jc e1 h2 ?_;refine Jc e2 h1 ?_;exact⟨ER h4.2.1,ER h4.2.2.1,ER h4.2.2.2,C3 h4.1,trivial,U ρ _ _ (.refl _) (by simp only[RV];exact⟨m,g1,rfl⟩) hs⟩
  ·cases h
 ·cases h
def MH: ∀ {cs ds:List V} {t:Bool},Bv cs ds=some t→CG cs=true∧CG ds=true
 | [],[],_,_=>⟨rfl,rfl⟩
 | x ::xs,y::ys,t,h=>by
   cases x<;>cases y<;>simp only[Bv]at h<;>first|cases h|skip
   split at h
   ·obtain⟨a,h1,_⟩:=Aj h
    obtain⟨h2,h3⟩:=MH h1;exact⟨by simp[CG,BT,h2],by simp[CG,BT,h3]⟩
   ·cases h
 | [],_::_,_,h=>by simp[Bv]at h
 | x::xs,[],_,h=>by cases x<;>simp[Bv]at h
def jx {cs cs':List V} (h:K5 ρ cs cs') (hp:CG cs=true):cs'=cs:=RL.fn cs _ _ (Bf.2 h) (RL.pure cs hp)
def dd (len:Nat) (neg:Bool) (x y:V):Option V:=
 match x,y with
 | .a cs,.a ds=>bif Nat.beq cs.length len then(match Bv cs ds with|some t=>some (.b (bif neg then !t else t))|none=>none)else none
 | _,_=>none
def mQ {len:Nat} {neg:Bool} {x x' y y' v:V} (h:dd len neg x y=some v) (hx:RV ρ x x') (hy:RV ρ y y') {K:V→Prop} (U: ∀v',RV ρ v v'→K v'):Sq len neg x' y' K:=by
 unfold dd at h;split at h
 ·rename_i cs ds
  obtain⟨cs',g1,rfl⟩:=hx;obtain⟨ds',g2,rfl⟩:=hy;obtain⟨h1,h2⟩:=AZ h;split at h2
  ·rename_i t ht
   cases h2;obtain⟨p1,p2⟩:=MH ht;have e1:=jx (Bf.1 g1) p1;have e2:=jx (Bf.1 g2) p2;subst e1;subst e2;simp only[Sq,h1,ht];exact U _ (by simp only[RV])
  ·cases h2
 ·cases h
def dc (kind:Nat) (neg:Bool) (x:V):Option V:=
 match kind,x with
 | 0,.pn=>some (.b (!neg))
 | 0,.rp _=>some (.b neg)
 | 0,.p _ _=>some (.b neg)
 | 0,.pe _ _ _ _=>some (.b neg)
 | 1,.sl _ _ _=>some (.b neg)
 | 1,.l (_::_) _=>some (.b neg)
 | 2,.Dm=>some (.b (!neg))
 | 2,.E2 _ _=>some (.b neg)
 | 3,.mn=>some (.b (!neg))
 | 3,.m _=>some (.b neg)
 | 4,.K8=>some (.b (!neg))
 | 4,.f _ _ _=>some (.b neg)
 | _,_=>none
def mP {kind:Nat} {neg:Bool} {x x' v:V} (h:dc kind neg x=some v) (hx:RV ρ x x') {K:V→Prop} (U: ∀v',RV ρ v v'→K v'):Iz kind neg x' K:=by
 unfold dc at h;split at h
 ·simp only[RV]at hx;subst hx;cases h;exact U _ (by simp only[RV])
 ·obtain⟨_,_,rfl⟩:=hx;cases h;exact U _ (by simp only[RV])
 ·obtain⟨_,_,rfl⟩:=hx;cases h;exact U _ (by simp only[RV])
 ·obtain⟨_,_,rfl⟩:=hx;cases h;exact U _ (by simp only[RV])
 ·obtain⟨_,_,rfl⟩:=hx;cases h;exact U _ (by simp only[RV])
 ·obtain⟨es',g1,rfl⟩:=hx
  cases h;obtain⟨y,ys,_,_,rfl⟩:=FZ.1 g1;exact⟨fun e=>(by cases e),fun _=>U _ (by simp only[RV])⟩
 ·simp only[RV]at hx;subst hx;cases h;exact U _ (by simp only[RV])
 ·obtain⟨_,_,rfl⟩:=hx;cases h;exact U _ (by simp only[RV])
 ·simp only[RV]at hx;subst hx;cases h;exact U _ (by simp only[RV])
 ·obtain⟨_,_,rfl⟩:=hx;cases h;exact U _ (by simp only[RV])
 ·simp only[RV]at hx;subst hx;cases h;exact U _ (by simp only[RV])
 ·obtain⟨_,_,_,_,_,_,rfl⟩:=hx;cases h;exact U _ (by simp only[RV])
 ·cases h
def JM (s:St) (sz:Nat) (z:List V) (x y:V):Option (V×St):=
 match x,y with
 | .i _ n,.i _ m=>bif Oe 0 n&&(Oe n m&&(Nat.ble m.toNat 1073741824&&CG z))then s.new (.arr sz (List.replicate n.toNat z)) fun i s'=>some (.sl i n.toNat 0,s')else none
 | _,_=>none
def WX {s s':St} (hs:SR P ρ s σ) {sz:Nat} {z:List V} {x x' y y' v:V} (h:JM s sz z x y=some (v,s')) (hx:RV ρ x x') (hy:RV ρ y y') {K:V→AH→Prop}
    (U: ∀ρ' v' σ',ρ.le ρ'→RV ρ' v v'→SR P ρ' s' σ'→K v' σ'):AN σ sz z x' y' K:=by
 unfold JM at h;split at h
 ·rename_i k1 n k2 m
  simp only[RV]at hx hy;subst hx;subst hy;obtain⟨h1,h2⟩:=AZ h;simp only[BJ]at h1;obtain⟨h3,h4⟩:=St.Hy h2;cases h4;have h5:=ER h1.1;have h7:=ER h1.2.1;have h6:m.toNat≤1073741824:=Nat.le_of_ble_eq_true h1.2.2.1;refine⟨h5,h7,by omega,fun id hid=>?_⟩;obtain⟨ρ',q1,q2,q3⟩:=hs.new h3 hid m.toNat (o:= .arr sz (List.replicate n.toNat z)) (o':= .arr sz (List.replicate n.toNat z) m.toNat) ⟨_,F2.rep (Bf.1 (RL.pure z h1.2.2.2)) _,rfl⟩;exact U ρ' _ _ q1 (by simp only[RV];exact⟨_,q2,rfl⟩) q3
 ·cases h
def Nr: ∀ {l:List IntKind} {cs:List V},Db l cs=true→CG cs=true
 | [],[],_=>rfl
 | q::l,x::cs,h=>by
   cases x<;>simp only[Db]at h<;>first|cases h|skip
   simp only[BJ]at h;simp[CG,BT,Nr h.2]
 | [],_::_,h=>by simp[Db]at h
 | _::_,[],h=>by simp[Db]at h
def FN {ks:KS} {v:V} (h:BX ks v=true):BT v=true:=by
 unfold BX at h;split at h
 ·rfl
 ·exact Nr h
 ·rfl
 ·cases h
def Rx {ks:KS} {key:V}: ∀ {kvs kvs':List (V×V)},(kvs.all fun kv=>BX ks kv.1)=true→F2 (RK ρ) kvs kvs'→nG ρ (Cj key kvs) (Cj key kvs')
 | [],_,_,h=>by cases h;rfl
 | (k,v)::r,_,ha,⟨y,ys,h1,h2,e⟩=>by
   subst e;obtain⟨k',v'⟩:=y;simp only[NS,BJ]at ha;have e1:k'=k:=RV.jh h1.1 (FN ha.1);subst e1;simp only[Cj];cases Ds key k' with
   | true=>exact⟨v',h1.2,rfl⟩
   | false=>exact Rx ha.2 h2
def VM {ks:KS} {key x x':V} (hp:BT key=true) (hx:RV ρ x x'): ∀ {kvs kvs':List (V×V)},(kvs.all fun kv=>BX ks kv.1)=true→F2 (RK ρ) kvs kvs'→F2 (RK ρ) (De key x kvs) (De key x' kvs')
 | [],_,_,h=>by cases h;exact F2.cons ⟨RV.pure key hp,hx⟩ F2.nil
 | (k,v)::r,_,ha,⟨y,ys,h1,h2,e⟩=>by
   subst e;obtain⟨k',v'⟩:=y;simp only[NS,BJ]at ha;have e1:k'=k:=RV.jh h1.1 (FN ha.1);subst e1;simp only[De];cases Ds key k' with
   | true=>exact F2.cons ⟨RV.pure key hp,hx⟩ h2
   | false=>exact F2.cons h1 (VM hp hx ha.2 h2)
def ZL {ks:KS} {kvs kvs':List (V×V)} (ha:(kvs.all fun kv=>BX ks kv.1)=true) (h:F2 (RK ρ) kvs kvs'): ∀kv∈kvs',BX ks kv.1=true:=fun kv hm=>by
 obtain⟨u,hu,hr⟩:=F2.mem h hm;rw[Em]at ha;have h1:=ha u hu;rw[RV.jh hr.1 (FN h1)];exact h1
def La (s:St) (ks:KS) (z:V) (ok:Bool) (vm vk:V):Option V:=
 bif BX ks vk&&BT z then
  match vm with
  | .m n=>match s.t.get n with
    | some (.map kvs)=>bif kvs.all (fun kv=>BX ks kv.1)then some (found z ok (Cj vk kvs))else none
    | _=>none
  | .mn=>some (found z ok none)
  | _=>none
 else none
def VY {z:V} {ok:Bool} (hz:BT z=true) {o o':Option V} (h:nG ρ o o'):RV ρ (found z ok o) (found z ok o'):=by
 cases o with
 | none=>
   cases h;cases ok with
   | true=>simp only[found,cond_true,RV];exact⟨_,Bf.2 (F2.cons (RV.pure z hz) (F2.cons (RV.pure _ rfl) F2.nil)),rfl⟩
   | false=>exact RV.pure z hz
 | some v=>
   obtain⟨v',h1,rfl⟩:=h;cases ok with
   | true=>simp only[found,cond_true,RV];exact⟨_,Bf.2 (F2.cons h1 (F2.cons (RV.pure _ rfl) F2.nil)),rfl⟩
   | false=>exact h1
def X6 {s:St} (hs:SR P ρ s σ) {ks:KS} {z:V} {ok:Bool} {vm vm' vk vk' v:V} (h:La s ks z ok vm vk=some v) (hm:RV ρ vm vm') (hk:RV ρ vk vk') {K:V→Prop} (U: ∀v',RV ρ v v'→K v'):AQ σ ks z ok vm' vk' K:=by
 unfold La at h;obtain⟨h1,h2⟩:=AZ h;simp only[BJ]at h1;have e:=RV.jh hk (FN h1.1);subst e;refine⟨h1.1,?_⟩;split at h2
 ·obtain⟨m,g1,rfl⟩:=hm
  split at h2
  ·rename_i kvs hg
   obtain⟨o',g2,kvs',g3,rfl⟩:=hs.at hg g1;obtain⟨h3,h4⟩:=AZ h2;cases h4;simp only[g2];exact⟨ZL h3 g3,U _ (VY h1.2 (Rx h3 g3))⟩
  ·cases h2
 ·simp only[RV]at hm
  subst hm;cases h2;exact U _ (VY h1.2 rfl)
 ·cases h2
def LZ (s:St) (ks:KS) (vm vk vv:V):Option St:=
 bif BX ks vk then
  match vm with
  | .m n=>match s.t.get n with
    | some (.map kvs)=>bif kvs.all (fun kv=>BX ks kv.1)then Tr.put (some (.map (De vk vv kvs))) BF s.t n fun t=>some ⟨s.nx,t⟩else none
    | _=>none
  | _=>none
 else none
def X5 {s s':St} (hs:SR P ρ s σ) {ks:KS} {vm vm' vk vk' vv vv':V} (h:LZ s ks vm vk vv=some s') (hm:RV ρ vm vm') (hk:RV ρ vk vk') (hv:RV ρ vv vv') {K:AH→Prop} (U: ∀σ',SR P ρ s' σ'→K σ') :
    AS σ ks vm' vk' vv' K:=by
 unfold LZ at h;obtain⟨h1,h2⟩:=AZ h;have e:=RV.jh hk (FN h1);subst e;refine⟨h1,?_⟩;split at h2
 ·obtain⟨m,g1,rfl⟩:=hm
  split at h2
  ·rename_i kvs hg
   obtain⟨o',g2,kvs',g3,rfl⟩:=hs.at hg g1;obtain⟨h3,h4⟩:=AZ h2;rw[Tr.put_eq]at h4;cases h4;simp only[g2];exact⟨ZL h3 g3,U _ (hs.A0 hg g1 ⟨_,VM (FN h1) hv h3 g3,rfl⟩)⟩
  ·cases h2
 ·cases h2
def Mm (env:Env):List V→List (Nat×Nat×Bm)→Option (List V)
 | cs,[]=>some cs
 | cs,(off,sz,x)::r=>
   match DU env x with
   | some v=>match cellsOf v with
     | some vc=>bif Nat.beq vc.length sz&&Nat.ble (off+sz) cs.length then Mm env (putAt cs off vc) r else none
     | none=>none
   | none=>none
def SM (he:RE ρ env env₀): ∀ {ps:List (Nat×Nat×Bm)} {cs cs' cs1:List V},Mm env cs ps=some cs1→K5 ρ cs cs'→ ∃cs1',J7 env₀ cs' ps=some cs1'∧K5 ρ cs1 cs1'
 | [],_,cs',_,h,hc=>by cases h;exact⟨cs',rfl,hc⟩
 | (off,sz,x)::r,cs,cs',cs1,h,hc=>by
   simp only[Mm]at h;split at h
   ·rename_i v hv
    split at h
    ·rename_i vc hvc
     obtain⟨h1,h2⟩:=AZ h;obtain⟨v',e1,e2⟩:=Ax he hv;obtain⟨vc',e3,e4⟩:=GP hvc e2;obtain⟨c,e5,e6⟩:=SM he h2 (Lo hc e4);refine⟨c,?_,e6⟩;simp only[J7,e1,e3];rw[e4.len,hc.len,h1];exact e5
    ·cases h
   ·cases h
def Mn (env:Env) (sz:Nat):List (List V)→List (Nat×Bm)→Option (List (List V))
 | es,[]=>some es
 | es,(i,x)::r=>
   match DU env x with
   | some v=>match cellsOf v with
     | some vc=>bif Nat.beq vc.length sz&&Nat.blt i es.length then Mn env sz (es.set i vc) r else none
     | none=>none
   | none=>none
def SN (he:RE ρ env env₀) {sz:Nat}: ∀ {ps:List (Nat×Bm)} {cs cs' cs1:List (List V)},Mn env sz cs ps=some cs1→dH ρ cs cs'→ ∃cs1',I8 env₀ sz cs' ps=some cs1'∧dH ρ cs1 cs1'
 | [],_,cs',_,h,hc=>by cases h;exact⟨cs',rfl,hc⟩
 | (i, x)::r,cs,cs',cs1,h,hc=>by
   simp only[Mn]at h;split at h
   ·rename_i v hv
    split at h
    ·rename_i vc hvc
     obtain⟨h1,h2⟩:=AZ h;obtain⟨v',e1,e2⟩:=Ax he hv;obtain⟨vc',e3,e4⟩:=GP hvc e2;obtain⟨c,e5,e6⟩:=SN he h2 (hc.set i e4);refine⟨c,?_,e6⟩;simp only[I8,e1,e3];rw[e4.len,hc.len,h1];exact e5
    ·cases h
   ·cases h
end Go.Gl
namespace Go.Gl
variable {P:Program} {ρ ρ':Ren} {σ:AH} {env env₀:Env}
def ob {α β:Type} (o:Option α) (k:α→Option β):Option β:=match o with|some v=>k v|none=>none
def AT {α β:Type} {o:Option α} {k:α→Option β} {r:β} (h:ob o k=some r): ∃v,o=some v∧k v=some r:=by
 cases o with
 | none=>cases h
 | some v=>exact⟨v,rfl,h⟩
def xe (ρ:Ren):Ae→Ae→Prop
 | .Bi v,x=> ∃v',RV ρ v v'∧x= .Bi v'
 | .normal,x=>x= .normal
 | .ret,x=>x= .ret
 | .exit id,x=>x= .exit id
def nH (ρ:Ren):R→R→Prop
 | .ret v,r=> ∃v',RV ρ v v'∧r= .ret v'
 | .Bi v,r=> ∃v',RV ρ v v'∧r= .Bi v'
abbrev CF:=FuncId→List V→St→Option (R×St)
abbrev CV:=V→List V→St→Option (R×St)
abbrev CP:=FuncId→List V→Option V
def Kf (P:Program) (c:CF):Prop:= ∀f vs s r s',c f vs s=some (r,s')→ ∀ρ vs' σ,K5 ρ vs vs'→SR P ρ s σ→ ∀Q:R→AH→Prop,(∀ρ' r' σ',ρ.le ρ'→nH ρ' r r'→SR P ρ' s' σ'→Q r' σ')→BC P f vs' σ Q
def Jf (P:Program) (c:CV):Prop:= ∀x vs s r s',c x vs s=some (r,s')→ ∀ρ x' vs' σ,RV ρ x x'→K5 ρ vs vs'→SR P ρ s σ→ ∀Q:R→AH→Prop,(∀ρ' r' σ',ρ.le ρ'→nH ρ' r r'→SR P ρ' s' σ'→Q r' σ')→A3 P x' vs' σ Q
def Ms (P:Program) (c:CP):Prop:= ∀f vs v,c f vs=some v→CG vs=true∧BT v=true∧Pure P f vs v
def ov (o:Option V) (s:St):Option (R×St):=match o with|some v=>some (.ret v,s)|none=>none
def CX {o:Option V} {s s':St} {r:R} (h:ov o s=some (r,s')): ∃v,o=some v∧r= .ret v∧s'=s:=by
 cases o with
 | none=>cases h
 | some v=>cases h;exact⟨v,rfl,rfl,rfl⟩
def os (o:Option St):Option (R×St):=match o with|some s=>some (.ret (.t []),s)|none=>none
def k7 {o:Option St} {s':St} {r:R} (h:os o=some (r,s')):o=some s'∧r= .ret (.t []):=by
 cases o with
 | none=>cases h
 | some v=>cases h;exact⟨rfl,rfl⟩
def Z6 (o:Option (V×St)):Option (R×St):=match o with|some (v,s)=>some (.ret v,s)|none=>none
def Lp {o:Option (V×St)} {s':St} {r:R} (h:Z6 o=some (r,s')): ∃v,o=some (v,s')∧r= .ret v:=by
 cases o with
 | none=>cases h
 | some v=>cases h;exact⟨_,rfl,rfl⟩
def KT (env:Env):Option Bm→Option (Option V)
 | none=>some none
 | some x=>match DU env x with|some v=>some (some v)|none=>none
def M4 (he:RE ρ env env₀) {x:Option Bm} {v:Option V} (h:KT env x=some v): ∃v',HR env₀ x=some v'∧nG ρ v v':=by
 cases x with
 | none=>cases h;exact⟨none,rfl,rfl⟩
 | some x=>
   simp only[KT]at h;split at h
   ·rename_i u hu
    cases h;obtain⟨v',h1,h2⟩:=Ax he hu;exact⟨some v',by simp only[HR,h1],v',h2,rfl⟩
   ·cases h
def da (t:TypeId) (z:V) (ok:Bool) (x:V):Option V:=
 match x with
 | .E2 t' v=>bif Nat.beq t' t then some (bif ok then .t [v,.b true]else v)else(bif ok&&BT z then some (.t [z,.b false])else none)
 | .Dm=>bif ok&&BT z then some (.t [z,.b false])else none
 | _=>none
def Mk (x:V):Option V:=
 match x with
 | .p n off=>some (.p n off)
 | .rp cs=>some (.rp cs)
 | .pe n sz i off=>some (.pe n sz i off)
 | .f (.func f) a b=>some (.f (.func f) a b)
 | .f (.yield f) a b=>some (.f (.yield f) a b)
 | _=>none
def Fg (cf:CF) (cv:CV) (cp:CP) (o:Fh) (env:Env) (s:St):Option (R×St):=
 match o with
 | .mv x=>ov (DU env x) s
 | .jc x=>ov (DU env x) s
 | .pick c a b=>ob (DU env c) fun vc=>ob (DU env a) fun va=>ob (DU env b) fun vb=>match vc with| .b t=>some (.ret (bif t then va else vb),s)|_=>none
 | .bin op x y=>ob (DU env x) fun vx=>ob (DU env y) fun vy=>ov (UW op vx vy) s
 | .jj neg x y=>ob (DU env x) fun vx=>ob (DU env y) fun vy=>match vx,vy with| .b p,.b q=>some (.ret (.b (bif neg then p != q else p==q)),s)|_,_=>none
 | .not x=>ob (DU env x) fun vx=>match vx with| .b p=>some (.ret (.b (!p)),s)|_=>none
 | .neg xor x=>ob (DU env x) fun vx=>match vx with| .i ka a=>some (.ret (.i ka (bif xor then bits .xor ka (bif ka.signed then -1 else ka.max) a else ka.wrap (0 - a))),s)|_=>none
 | .conv ka x=>ob (DU env x) fun vx=>match vx with| .i _ a=>some (.ret (.i ka (IU ka a)),s)|_=>none
 | .box x=>ob (DU env x) fun vx=>ob (cellsOf vx) fun cs=>s.new (.cs cs) fun i s'=>some (.ret (.p i 0),s')
 | .Qj x=>ob (DU env x) fun vx=>ob (cellsOf vx) fun cs=>some (.ret (.rp cs),s)
 | .Qk sz b x y=>ob (DU env x) fun vx=>ob (DU env y) fun vy=>ov (Up b s sz vx vy) s
 | .alloc z=>bif CG z then s.new (.cs z) fun i s'=>some (.ret (.p i 0),s')else none
 | .build z parts=>bif CG z then ob (Mm env z parts) fun cs=>some (.ret (.a cs),s)else none
 | .G8 _ len z parts=>bif CG z then ob (Mn env z.length (List.replicate len z) parts) fun es=>some (.ret (.l es true),s)else none
 | .load agg x=>ob (DU env x) fun vx=>ov (Ng s agg vx) s
 | .store sz a x=>ob (DU env a) fun va=>ob (DU env x) fun vx=>os (O9 s sz va vx)
 | .Gc off x=>ob (DU env x) fun vx=>ov (TG off vx) s
 | .field agg off x=>ob (DU env x) fun vx=>match vx with| .a cs=>ov (US agg cs off) s|_=>none
 | .LI sz arr x i=>ob (DU env x) fun vx=>ob (DU env i) fun vi=>ov (Ml sz arr vx vi) s
 | .index len sz agg x i=>ob (DU env x) fun vx=>ob (DU env i) fun vi=>ov (PB len sz agg vx vi) s
 | .slice sz x lo hi mx=>ob (DU env x) fun vx=>ob (KT env lo) fun l=>ob (KT env hi) fun h=>ob (KT env mx) fun m=>Z6 (PA s sz vx l h m)
 | .len x=>ob (DU env x) fun vx=>ov (aL vx) s
 | .Sp x=>ob (DU env x) fun vx=>ov (Un s vx) s
 | .UI x i=>ob (DU env x) fun vx=>ob (DU env i) fun vi=>ov (Um vx vi) s
 | .str x=>ob (DU env x) fun vx=>ov (db s vx) s
 | .append sz b x y=>ob (DU env x) fun vx=>ob (DU env y) fun vy=>Z6 (Lc b s sz vx vy)
 | .copy sz x y=>ob (DU env x) fun vx=>ob (DU env y) fun vy=>Z6 (Uo s sz vx vy)
 | .UK x y=>ob (DU env x) fun vx=>ob (DU env y) fun vy=>match vx,vy with| .i ka a,.i kb b=>bif decide (ka=kb)then some (.ret (.i ka (bif MR a b then b else a)),s)else none|_,_=>none
 | .UJ x y=>ob (DU env x) fun vx=>ob (DU env y) fun vy=>match vx,vy with| .i ka a,.i kb b=>bif decide (ka=kb)then some (.ret (.i ka (bif MR b a then b else a)),s)else none|_,_=>none
 | .extract i x=>ob (DU env x) fun vx=>match vx with| .t vs=>ov (vs[i]?) s|_=>none
 | .IZ x=>ob (DU env x) fun vx=>ov (Mk vx) s
 | .dB f first cap=>ob (N4 env first) fun vf=>ob (N4 env cap) fun vc=>bif Me f then some (.ret (.f f vf vc),s)else none
 | .NZ t x=>ob (DU env x) fun vx=>some (.ret (.E2 t vx),s)
 | .c8 t z ok x=>ob (DU env x) fun vx=>ov (da t z ok vx) s
 | .panic x=>ob (DU env x) fun vx=>match vx with| .E2 t v=>some (.Bi (.E2 t v),s)|_=>none
 | .call f args=>ob (N4 env args) fun vs=>cf f vs s
 | .ji len neg x y=>ob (DU env x) fun vx=>ob (DU env y) fun vy=>ov (dd len neg vx vy) s
 | .dF kind neg x=>ob (DU env x) fun vx=>ov (dc kind neg vx) s
 | .Fq sz _ z x y=>ob (DU env x) fun vx=>ob (DU env y) fun vy=>Z6 (JM s sz z vx vy)
 | .NY=>s.new (.map []) fun i s'=>some (.ret (.m i),s')
 | .lookup ks z ok m key=>ob (DU env m) fun vm=>ob (DU env key) fun vk=>ov (La s ks z ok vm vk) s
 | .Es ks m key x=>ob (DU env m) fun vm=>ob (DU env key) fun vk=>ob (DU env x) fun vx=>os (LZ s ks vm vk vx)
 | .LM f args=>ob (N4 env args) fun vs=>ov (cp f vs) s
 | .JB x args=>ob (DU env x) fun vx=>ob (N4 env args) fun vs=>cv vx vs s
 | .inv tab x args=>ob (DU env x) fun vx=>ob (N4 env args) fun vs=>match vx with| .E2 t v=>ob (look t tab) fun f=>cf f (v::vs) s|_=>none
 | _=>none
def mM {t:TypeId} {z:V} {ok:Bool} {x x' v:V} (h:da t z ok x=some v) (hx:RV ρ x x') {K:V→Prop} (U: ∀v',RV ρ v v'→K v') :
    match(generalizing:=false) x' with
     | .E2 t' v=>(t'=t→K (bif ok then .t [v,.b true]else v))∧(t'≠t→ok=true∧K (.t [z,.b false]))
     | .Dm=>ok=true∧K (.t [z,.b false])
     | _=>False:=by
 have zz: ∀ {v},BT z=true→some (V.t [z,.b false])=some v→K (.t [z,.b false])→K v:=fun _ e k=>by cases e;exact k
 unfold da at h;split at h
 ·rename_i t' u
  obtain⟨u',h1,rfl⟩:=hx;refine⟨fun e=>?_,fun e=>?_⟩
  ·subst e
   rw[Nat.beq_refl]at h;cases h;cases ok with
   | true=>exact U _ (by simp only[cond_true,RV];exact⟨_,Bf.2 (F2.cons h1 (F2.cons (RV.pure _ rfl) F2.nil)),rfl⟩)
   | false=>exact U _ h1
  ·have hb:Nat.beq t' t=false:=by
    cases hb:Nat.beq t' t with
    | false=>rfl
    | true=>exact absurd (C3 hb) e
   rw[hb]at h;obtain⟨h2,h3⟩:=AZ h;simp only[BJ]at h2;cases h3;exact⟨h2.1,U _ (by simp only[RV];exact⟨_,Bf.2 (F2.cons (RV.pure _ h2.2) (F2.cons (RV.pure _ rfl) F2.nil)),rfl⟩)⟩
 ·simp only[RV]at hx
  subst hx;obtain⟨h2,h3⟩:=AZ h;simp only[BJ]at h2;cases h3;exact⟨h2.1,U _ (by simp only[RV];exact⟨_,Bf.2 (F2.cons (RV.pure _ h2.2) (F2.cons (RV.pure _ rfl) F2.nil)),rfl⟩)⟩
 ·cases h
def cH {x x' v:V} (h:Mk x=some v) (hx:RV ρ x x') {K:V→Prop} (U: ∀v',RV ρ v v'→K v') :
    match(generalizing:=false) x' with
     | .p n off=>K (.p n off)
     | .rp cs=>K (.rp cs)
     | .pe n sz i off=>K (.pe n sz i off)
     | .f (.func f) first cap=>K (.f (.func f) first cap)
     | .f (.yield l) first cap=>K (.f (.yield l) first cap)
     | _=>False:=by
 have hv:v=x:=by unfold Mk at h;split at h<;>cases h<;>rfl
 subst hv;have hk:=U _ hx;unfold Mk at h;split at h
 ·obtain⟨_,_,rfl⟩:=hx;exact hk
 ·obtain⟨_,_,rfl⟩:=hx;exact hk
 ·obtain⟨_,_,rfl⟩:=hx;exact hk
 ·obtain⟨fn,a,b,h1,_,_,rfl⟩:=hx
  simp only[Z9]at h1;subst h1;exact hk
 ·obtain⟨fn,a,b,h1,_,_,rfl⟩:=hx
  obtain⟨m,_,rfl⟩:=h1;exact hk
 ·cases h
def fL {cf:CF} {cv:CV} {cp:CP} (hcf:Kf P cf) (hcv:Jf P cv) (hcp:Ms P cp) {o:Fh} {s s':St} {r:R} (h:Fg cf cv cp o env s=some (r,s')) (he:RE ρ env env₀) (hs:SR P ρ s σ) {k kp:V→AH→Prop}
    (hk: ∀ρ' r' σ',ρ.le ρ'→nH ρ' r r'→SR P ρ' s' σ'→qk k kp r' σ'):FQ P o env₀ σ k kp:=by
 have hv: ∀ {v:V},r= .ret v→s'=s→ ∀v',RV ρ v v'→k v' σ:=fun e1 e2 v' g=>by
  subst e1;subst e2;exact hk ρ (.ret v') σ (.refl _) ⟨v',g,rfl⟩ hs
 have hvs: ∀ {v:V},r= .ret v→ ∀v' σ',RV ρ v v'→SR P ρ s' σ'→k v' σ':=fun e1 v' σ' g g2=>by
  subst e1;exact hk ρ (.ret v') σ' (.refl _) ⟨v',g,rfl⟩ g2
 have hvr: ∀ {v:V},r= .ret v→ ∀ρ' v' σ',ρ.le ρ'→RV ρ' v v'→SR P ρ' s' σ'→k v' σ':=fun e1 ρ' v' σ' g0 g g2=>by
  subst e1;exact hk ρ' (.ret v') σ' g0 ⟨v',g,rfl⟩ g2
 have hu: ∀ {o1:Option St},os o1=some (r,s')→o1=some s'∧ ∀σ',SR P ρ s' σ'→k (.t []) σ':=fun h=>by
  obtain⟨h1,h2⟩:=k7 h;subst h2;exact⟨h1,fun σ' h3=>hk ρ (.ret (.t [])) σ' (.refl _) ⟨_,RV.pure _ rfl,rfl⟩ h3⟩
 cases o<;>simp only[Fg]at h<;>simp only[FQ]
 case mv x=>
  obtain⟨v,h1,h2,h3⟩:=CX h;obtain⟨v',e1,e2⟩:=Ax he h1;rw[e1];exact hv h2 h3 _ e2
 case jc x=>
  obtain⟨v,h1,h2,h3⟩:=CX h;obtain⟨v',e1,e2⟩:=Ax he h1;rw[e1];exact⟨v',σ,Sub.refl _,.refl _,hv h2 h3 _ e2⟩
 case pick c a b=>
  replace h:=AT h;obtain⟨vc,h1,h⟩:=h;replace h:=AT h;obtain⟨va,h2,h⟩:=h;replace h:=AT h;obtain⟨vb,h3,h⟩:=h;obtain⟨vc',e1,r1⟩:=Ax he h1;obtain⟨va',e2,r2⟩:=Ax he h2;obtain⟨vb',e3,r3⟩:=Ax he h3;rw[e1,e2,e3];simp only[wv];split at h
  ·rename_i t
   simp only[RV]at r1;subst r1;cases h;have hh:=hv rfl rfl (bif t then va' else vb') (by cases t;exact r3;exact r2);cases t<;>cases va'<;>first|exact hh|(cases vb'<;>exact hh)
  ·cases h
 case bin op x y=>
  replace h:=AT h;obtain⟨vx,h1,h⟩:=h;replace h:=AT h;obtain⟨vy,h2,h⟩:=h;obtain⟨v,h3,h4,h5⟩:=CX h;obtain⟨vx',e1,r1⟩:=Ax he h1;obtain⟨vy',e2,r2⟩:=Ax he h2;obtain⟨p1,p2,p3,p4⟩:=mR h3;rw[e1,e2,RV.jh r1 p1,RV.jh r2 p2];exact p4 (fun v=>k v σ) (hv h4 h5 _ (RV.pure _ p3))
 case jj neg x y=>
  replace h:=AT h;obtain⟨vx,h1,h⟩:=h;replace h:=AT h;obtain⟨vy,h2,h⟩:=h;obtain⟨vx',e1,r1⟩:=Ax he h1;obtain⟨vy',e2,r2⟩:=Ax he h2;rw[e1,e2];split at h
  ·simp only[RV]at r1 r2
   subst r1;subst r2;cases h;exact hv rfl rfl _ (RV.pure _ rfl)
  ·cases h
 case not x=>
  replace h:=AT h;obtain⟨vx,h1,h⟩:=h;obtain⟨vx',e1,r1⟩:=Ax he h1;rw[e1];split at h
  ·simp only[RV]at r1
   subst r1;cases h;exact hv rfl rfl _ (RV.pure _ rfl)
  ·cases h
 case neg xor x=>
  replace h:=AT h;obtain⟨vx,h1,h⟩:=h;obtain⟨vx',e1,r1⟩:=Ax he h1;rw[e1];split at h
  ·simp only[RV]at r1
   subst r1;cases h;exact hv rfl rfl _ (RV.pure _ rfl)
  ·cases h
 case conv ka x=>
  replace h:=AT h;obtain⟨vx,h1,h⟩:=h;obtain⟨vx',e1,r1⟩:=Ax he h1;rw[e1];split at h
  ·simp only[RV]at r1
   subst r1;cases h;have:=hv rfl rfl _ (RV.pure _ rfl);rw[JH]at this;exact this
  ·cases h
 case box x=>
  replace h:=AT h;obtain⟨vx,h1,h⟩:=h;replace h:=AT h;obtain⟨cs,h2,h⟩:=h;obtain⟨vx',e1,r1⟩:=Ax he h1;obtain⟨cs',e2,r2⟩:=GP h2 r1;obtain⟨h3,h4⟩:=St.Hy h;cases h4;rw[e1];simp only[wv,e2];intro n hn;obtain⟨ρ',q1,q2,q3⟩:=hs.new h3 hn 0 (o:= .cs cs) (o':= .cs cs') ⟨_,r2,rfl⟩;exact hvr rfl ρ' _ _ q1 (by simp only[RV];exact⟨_,q2,rfl⟩) q3
 case Qj x=>
  replace h:=AT h;obtain⟨vx,h1,h⟩:=h;replace h:=AT h;obtain⟨cs,h2,h⟩:=h;obtain⟨vx',e1,r1⟩:=Ax he h1;obtain⟨cs',e2,r2⟩:=GP h2 r1;cases h;rw[e1];simp only[wv,e2];exact hv rfl rfl _ (by simp only[RV];exact⟨_,Bf.2 r2,rfl⟩)
 case Qk sz b x y=>
  replace h:=AT h;obtain⟨vx,h1,h⟩:=h;replace h:=AT h;obtain⟨vy,h2,h⟩:=h;obtain⟨v,h3,h4,h5⟩:=CX h;obtain⟨vx',e1,r1⟩:=Ax he h1;obtain⟨vy',e2,r2⟩:=Ax he h2;rw[e1,e2];exact ib hs h3 r1 r2 (hv h4 h5)
 case alloc z=>
  replace h:=AZ h;obtain⟨h0,h⟩:=h;obtain⟨h3,h4⟩:=St.Hy h;cases h4;intro n hn;obtain⟨ρ',q1,q2,q3⟩:=hs.new h3 hn 0 (o:= .cs z) (o':= .cs z) ⟨_,Bf.1 (RL.pure z h0),rfl⟩;exact hvr rfl ρ' _ _ q1 (by simp only[RV];exact⟨_,q2,rfl⟩) q3
 case build z parts=>
  replace h:=AZ h;obtain⟨h0,h⟩:=h;replace h:=AT h;obtain⟨cs,h1,h⟩:=h;cases h;obtain⟨cs',e1,r1⟩:=SM he h1 (Bf.1 (RL.pure z h0));rw[e1];exact hv rfl rfl _ (by simp only[RV];exact⟨_,Bf.2 r1,rfl⟩)
 case G8 b len z parts=>
  replace h:=AZ h;obtain⟨h0,h⟩:=h;replace h:=AT h;obtain⟨cs,h1,h⟩:=h;cases h;obtain⟨cs',e1,r1⟩:=SN he h1 (F2.rep (Bf.1 (RL.pure z h0)) len);rw[e1];exact hv rfl rfl _ (by simp only[RV];exact⟨_,FZ.2 r1,rfl⟩)
 case load agg x=>
  replace h:=AT h;obtain⟨vx,h1,h⟩:=h;obtain⟨v,h3,h4,h5⟩:=CX h;obtain⟨vx',e1,r1⟩:=Ax he h1;rw[e1];exact Vf hs h3 r1 (hv h4 h5)
 case store sz a x=>
  replace h:=AT h;obtain⟨vx,h1,h⟩:=h;replace h:=AT h;obtain⟨vy,h2,h⟩:=h;obtain⟨vx',e1,r1⟩:=Ax he h1;obtain⟨vy',e2,r2⟩:=Ax he h2;obtain⟨h3,h4⟩:=hu h;rw[e1,e2];exact cF hs h3 r1 r2 h4
 case Gc off x=>
  replace h:=AT h;obtain⟨vx,h1,h⟩:=h;obtain⟨v,h3,h4,h5⟩:=CX h;obtain⟨vx',e1,r1⟩:=Ax he h1;rw[e1];exact cK h3 r1 (hv h4 h5)
 case field agg off x=>
  replace h:=AT h;obtain⟨vx,h1,h⟩:=h;obtain⟨vx',e1,r1⟩:=Ax he h1;rw[e1];split at h
  ·obtain⟨v,h3,h4,h5⟩:=CX h
   obtain⟨c,g1,rfl⟩:=r1;exact Lb h3 (Bf.1 g1) (hv h4 h5)
  ·cases h
 case LI sz arr x i=>
  replace h:=AT h;obtain⟨vx,h1,h⟩:=h;replace h:=AT h;obtain⟨vy,h2,h⟩:=h;obtain⟨v,h3,h4,h5⟩:=CX h;obtain⟨vx',e1,r1⟩:=Ax he h1;obtain⟨vy',e2,r2⟩:=Ax he h2;rw[e1,e2];exact cJ h3 r1 r2 (hv h4 h5)
 case index len sz agg x i=>
  replace h:=AT h;obtain⟨vx,h1,h⟩:=h;replace h:=AT h;obtain⟨vy,h2,h⟩:=h;obtain⟨v,h3,h4,h5⟩:=CX h;obtain⟨vx',e1,r1⟩:=Ax he h1;obtain⟨vy',e2,r2⟩:=Ax he h2;rw[e1,e2];exact cI h3 r1 r2 (hv h4 h5)
 case slice sz x lo hi mx=>
  replace h:=AT h;obtain⟨vx,h1,h⟩:=h;replace h:=AT h;obtain⟨l,h2,h⟩:=h;replace h:=AT h;obtain⟨hh,h3,h⟩:=h;replace h:=AT h;obtain⟨m,h4,h⟩:=h;obtain⟨v,h5,h6⟩:=Lp h;obtain⟨vx',e1,r1⟩:=Ax he h1;obtain⟨l',e2,r2⟩:=M4 he h2;obtain⟨hh',e3,r3⟩:=M4 he h3;obtain⟨m',e4,r4⟩:=M4 he h4;rw[e1,e2,e3,e4];exact cG hs h5 r1 r2 r3 r4 (hvr h6)
 case len x=>
  replace h:=AT h;obtain⟨vx,h1,h⟩:=h;obtain⟨v,h3,h4,h5⟩:=CX h;obtain⟨vx',e1,r1⟩:=Ax he h1;rw[e1];exact mO h3 r1 (hv h4 h5)
 case Sp x=>
  replace h:=AT h;obtain⟨vx,h1,h⟩:=h;obtain⟨v,h3,h4,h5⟩:=CX h;obtain⟨vx',e1,r1⟩:=Ax he h1;rw[e1];exact iZ hs h3 r1 (hv h4 h5)
 case UI x i=>
  replace h:=AT h;obtain⟨vx,h1,h⟩:=h;replace h:=AT h;obtain⟨vi,h2,h⟩:=h;obtain⟨v,h3,h4,h5⟩:=CX h;obtain⟨vx',e1,r1⟩:=Ax he h1;obtain⟨vi',e2,r2⟩:=Ax he h2;rw[e1,e2];exact iY h3 r1 r2 (hv h4 h5)
 case str x=>
  replace h:=AT h;obtain⟨vx,h1,h⟩:=h;obtain⟨v,h3,h4,h5⟩:=CX h;obtain⟨vx',e1,r1⟩:=Ax he h1;rw[e1];exact mN hs h3 r1 (hv h4 h5)
 case append sz b x y=>
  replace h:=AT h;obtain⟨vx,h1,h⟩:=h;replace h:=AT h;obtain⟨vy,h2,h⟩:=h;obtain⟨v,h3,h4⟩:=Lp h;obtain⟨vx',e1,r1⟩:=Ax he h1;obtain⟨vy',e2,r2⟩:=Ax he h2;rw[e1,e2];exact X7 hs h3 r1 r2 (hvr h4)
 case copy sz x y=>
  replace h:=AT h;obtain⟨vx,h1,h⟩:=h;replace h:=AT h;obtain⟨vy,h2,h⟩:=h;obtain⟨v,h3,h4⟩:=Lp h;obtain⟨vx',e1,r1⟩:=Ax he h1;obtain⟨vy',e2,r2⟩:=Ax he h2;rw[e1,e2];exact ia hs h3 r1 r2 (hvs h4)
 case UK x y=>
  replace h:=AT h;obtain⟨vx,h1,h⟩:=h;replace h:=AT h;obtain⟨vy,h2,h⟩:=h;obtain⟨vx',e1,r1⟩:=Ax he h1;obtain⟨vy',e2,r2⟩:=Ax he h2;rw[e1,e2];split at h
  ·rename_i ka a kb b
   simp only[RV]at r1 r2;subst r1;subst r2;obtain⟨h3,h4⟩:=AZ h;cases h4;refine⟨of_decide_eq_true h3,?_⟩;have:=hv rfl rfl _ (RV.pure _ rfl);rw[O7]at this;by_cases e:a<b
   ·rw[if_pos e];rw[decide_eq_true e]at this;exact this
   ·rw[if_neg e];rw[decide_eq_false e]at this;exact this
  ·cases h
 case UJ x y=>
  replace h:=AT h;obtain⟨vx,h1,h⟩:=h;replace h:=AT h;obtain⟨vy,h2,h⟩:=h;obtain⟨vx',e1,r1⟩:=Ax he h1;obtain⟨vy',e2,r2⟩:=Ax he h2;rw[e1,e2];split at h
  ·rename_i ka a kb b
   simp only[RV]at r1 r2;subst r1;subst r2;obtain⟨h3,h4⟩:=AZ h;cases h4;refine⟨of_decide_eq_true h3,?_⟩;have:=hv rfl rfl _ (RV.pure _ rfl);rw[O7]at this;by_cases e:b<a
   ·rw[if_pos e];rw[decide_eq_true e]at this;exact this
   ·rw[if_neg e];rw[decide_eq_false e]at this;exact this
  ·cases h
 case extract i x=>
  replace h:=AT h;obtain⟨vx,h1,h⟩:=h;obtain⟨vx',e1,r1⟩:=Ax he h1;rw[e1];split at h
  ·obtain⟨v,h3,h4,h5⟩:=CX h
   obtain⟨c,g1,rfl⟩:=r1;obtain⟨y,g2,g3⟩:=(Bf.1 g1).get h3;simp only[wv,g2];exact hv h4 h5 _ g3
  ·cases h
 case IZ x=>
  replace h:=AT h;obtain⟨vx,h1,h⟩:=h;obtain⟨v,h3,h4,h5⟩:=CX h;obtain⟨vx',e1,r1⟩:=Ax he h1;rw[e1];exact cH (K:=fun v=>k v σ) h3 r1 (hv h4 h5)
 case dB f first cap=>
  replace h:=AT h;obtain⟨vf,h1,h⟩:=h;replace h:=AT h;obtain⟨vc,h2,h⟩:=h;obtain⟨h3,h4⟩:=AZ h;cases h4;obtain⟨vf',e1,r1⟩:=H7 he h1;obtain⟨vc',e2,r2⟩:=H7 he h2;rw[e1,e2];refine hv rfl rfl _ ?_;simp only[RV];exact⟨f,vf',vc',by cases f<;>first|rfl|(simp[Me]at h3),Bf.2 r1,Bf.2 r2,rfl⟩
 case NZ t x=>
  replace h:=AT h;obtain⟨vx,h1,h⟩:=h;cases h;obtain⟨vx',e1,r1⟩:=Ax he h1;rw[e1];exact hv rfl rfl _ (by simp only[RV];exact⟨_,r1,rfl⟩)
 case c8 t z ok x=>
  replace h:=AT h;obtain⟨vx,h1,h⟩:=h;obtain⟨v,h3,h4,h5⟩:=CX h;obtain⟨vx',e1,r1⟩:=Ax he h1;rw[e1];exact mM (K:=fun v=>k v σ) h3 r1 (hv h4 h5)
 case panic x=>
  replace h:=AT h;obtain⟨vx,h1,h⟩:=h;obtain⟨vx',e1,r1⟩:=Ax he h1;rw[e1];split at h
  ·rename_i t v
   obtain⟨v',g1,rfl⟩:=r1;cases h;exact hk ρ (.Bi (.E2 t v')) σ (.refl _) ⟨_,by simp only[RV];exact⟨v',g1,rfl⟩,rfl⟩ hs
  ·cases h
 case call f args=>
  replace h:=AT h;obtain⟨vs,h1,h⟩:=h;obtain⟨vs',e1,r1⟩:=H7 he h1;rw[e1];exact hcf f vs s r s' h ρ vs' σ r1 hs _ hk
 case ji len neg x y=>
  replace h:=AT h;obtain⟨vx,h1,h⟩:=h;replace h:=AT h;obtain⟨vy,h2,h⟩:=h;obtain⟨v,h3,h4,h5⟩:=CX h;obtain⟨vx',e1,r1⟩:=Ax he h1;obtain⟨vy',e2,r2⟩:=Ax he h2;rw[e1,e2];exact mQ h3 r1 r2 (hv h4 h5)
 case dF kind neg x=>
  replace h:=AT h;obtain⟨vx,h1,h⟩:=h;obtain⟨v,h3,h4,h5⟩:=CX h;obtain⟨vx',e1,r1⟩:=Ax he h1;rw[e1];exact mP h3 r1 (hv h4 h5)
 case Fq sz b z x y=>
  replace h:=AT h;obtain⟨vx,h1,h⟩:=h;replace h:=AT h;obtain⟨vy,h2,h⟩:=h;obtain⟨v,h3,h4⟩:=Lp h;obtain⟨vx',e1,r1⟩:=Ax he h1;obtain⟨vy',e2,r2⟩:=Ax he h2;rw[e1,e2];exact WX hs h3 r1 r2 (hvr h4)
 case NY=>
  obtain⟨h3,h4⟩:=St.Hy h;cases h4;intro n hn;obtain⟨ρ',q1,q2,q3⟩:=hs.new h3 hn 0 (o:= .map []) (o':= .map []) ⟨[],F2.nil,rfl⟩;exact hvr rfl ρ' _ _ q1 (by simp only[RV];exact⟨_,q2,rfl⟩) q3
 case lookup ks z ok m key=>
  replace h:=AT h;obtain⟨vx,h1,h⟩:=h;replace h:=AT h;obtain⟨vy,h2,h⟩:=h;obtain⟨v,h3,h4,h5⟩:=CX h;obtain⟨vx',e1,r1⟩:=Ax he h1;obtain⟨vy',e2,r2⟩:=Ax he h2;rw[e1,e2];exact X6 hs h3 r1 r2 (hv h4 h5)
 case Es ks m key x=>
  replace h:=AT h;obtain⟨vx,h1,h⟩:=h;replace h:=AT h;obtain⟨vy,h2,h⟩:=h;replace h:=AT h;obtain⟨vz,h3,h⟩:=h;obtain⟨vx',e1,r1⟩:=Ax he h1;obtain⟨vy',e2,r2⟩:=Ax he h2;obtain⟨vz',e3,r3⟩:=Ax he h3;obtain⟨h4,h5⟩:=hu h;rw[e1,e2,e3];exact X5 hs h4 r1 r2 r3 h5
 case LM f args=>
  replace h:=AT h;obtain⟨vs,h1,h⟩:=h;obtain⟨v,h3,h4,h5⟩:=CX h;obtain⟨vs',e1,r1⟩:=H7 he h1;obtain⟨p1,p2,p3⟩:=hcp f vs v h3;rw[e1,jx r1 p1];exact⟨v,p3,hv h4 h5 _ (RV.pure _ p2)⟩
 case JB x args=>
  replace h:=AT h;obtain⟨vx,h1,h⟩:=h;replace h:=AT h;obtain⟨vs,h2,h⟩:=h;obtain⟨vx',e1,r1⟩:=Ax he h1;obtain⟨vs',e2,r2⟩:=H7 he h2;rw[e1,e2];exact hcv vx vs s r s' h ρ vx' vs' σ r1 r2 hs _ hk
 case inv tab x args=>
  replace h:=AT h;obtain⟨vx,h1,h⟩:=h;replace h:=AT h;obtain⟨vs,h2,h⟩:=h;obtain⟨vx',e1,r1⟩:=Ax he h1;obtain⟨vs',e2,r2⟩:=H7 he h2;rw[e1,e2];split at h
  ·rename_i t v
   obtain⟨v',g1,rfl⟩:=r1;obtain⟨f,h3,h4⟩:=AT h;simp only[wv,ws,BA,h3];exact hcf f (v::vs) s r s' h4 ρ (v'::vs') σ (F2.cons g1 r2) hs _ hk
  ·cases h
 all_goals cases h
end Go.Gl
