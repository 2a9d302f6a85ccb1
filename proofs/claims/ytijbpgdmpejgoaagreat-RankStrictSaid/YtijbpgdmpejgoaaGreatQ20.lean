import Derived.Test.YtijbpgdmpejgoaaGreatQ19
set_option linter.all false
set_option linter.unusedVariables false
set_option linter.unusedSimpArgs false
namespace Go.Gl
variable {P:Program} {ρ ρ':Ren} {σ:AG} {env env₀:Env}
structure St where
 nx:Nat
 t:Tr EO
def RK (ρ:Ren) (a b:V×V):Prop:=RV ρ a.1 b.1∧RV ρ a.2 b.2
def RBe (ρ:Ren) (a b:Nat×V):Prop:=b.1=a.1∧RV ρ a.2 b.2
abbrev RE (ρ:Ren):Env→Env→Prop:=F2 (RBe ρ)
abbrev Jl (ρ:Ren):List V→List V→Prop:=F2 (RV ρ)
abbrev ZA (ρ:Ren):List (List V)→List (List V)→Prop:=F2 (F2 (RV ρ))
def RO (P:Program) (ρ:Ren) (cap:Nat):EO→O→Prop
 | .cs vs,o=> ∃vs',Jl ρ vs vs'∧o= .cs vs'
 | .arr sz es,o=> ∃es',ZA ρ es es'∧o= .arr sz es' cap
 | .map kvs,o=> ∃kvs',F2 (RK ρ) kvs kvs'∧o= .map kvs'
 | .loop st env ps a b,o=> ∃env',RE ρ env env'∧o= .loop st env' (By P ps a b)
def Kz:Nat:=1000000000
structure SR (P:Program) (ρ:Ren) (s:St) (σ:AG):Prop where
 get: ∀i o,s.t.get i=some o→ ∃m,ρ i=some m∧ ∃o',σ m.1=some o'∧RO P ρ m.2 o o'
 inj: ∀i j o o' m m',s.t.get i=some o→s.t.get j=some o'→ρ i=some m→ρ j=some m'→m.1=m'.1→i=j
 qz: ∀i,s.nx≤i→ρ i=none
 lim:s.nx≤Kz+1
theorem Jl.mono (h:ρ.le ρ') {a b:List V} (k:Jl ρ a b):Jl ρ' a b:=F2.mono (fun _ _=>RV.mono h _ _) k
theorem ZA.mono (h:ρ.le ρ') {a b:List (List V)} (k:ZA ρ a b):ZA ρ' a b:=F2.mono (fun _ _=>Jl.mono h) k
theorem RE.mono (h:ρ.le ρ') {a b:Env} (k:RE ρ a b):RE ρ' a b:=F2.mono (fun _ _ k=>⟨k.1,RV.mono h _ _ k.2⟩) k
theorem RO.mono (h:ρ.le ρ') {c:Nat} {a:EO} {b:O} (k:RO P ρ c a b):RO P ρ' c a b:=by
 cases a with
 | cs vs=>obtain⟨v,h1,h2⟩:=k;exact⟨v,h1.mono h,h2⟩
 | arr sz es=>obtain⟨v,h1,h2⟩:=k;exact⟨v,h1.mono h,h2⟩
 | map kvs=>obtain⟨v,h1,h2⟩:=k;exact⟨v,F2.mono (fun _ _ k=>⟨RV.mono h _ _ k.1,RV.mono h _ _ k.2⟩) h1,h2⟩
 | loop st env ps a b=>obtain⟨v,h1,h2⟩:=k;exact⟨v,h1.mono h,h2⟩
theorem Xc {k:Nat} (h:k≤Kz):k+1<2 ^ BA:=by simp only[Kz,BA]at *;omega
theorem SR.lt {s:St} (hs:SR P ρ s σ) {i:Nat} {m:Nat×Nat} (h:ρ i=some m):i≤Kz:=by
 have h1:=hs.qz i;have h2:=hs.lim;rcases Nat.lt_or_ge i s.nx with h3|h3
 ·omega
 ·rw[h1 h3]at h;cases h
theorem SR.new {s:St} (hs:SR P ρ s σ) (hl:s.nx≤Kz) {n:Nat} (hn:σ n=none) (cap:Nat) {o:EO} {o':O} (ho:RO P ρ cap o o') :
 ∃ρ',ρ.le ρ'∧ρ' s.nx=some (n,cap)∧SR P ρ' ⟨s.nx+1,Tr.set (some o) BA s.t s.nx⟩ (BI σ n o'):=by
 have hle:ρ.le (fun i=>if i=s.nx then some (n,cap)else ρ i):=fun i m h=>by
  have:i≠s.nx:=fun e=>by rw[hs.qz i (by omega)]at h;cases h
  simp[this,h]
 refine⟨_,hle,by simp,⟨fun i o1 h1=>?_,fun i j o1 o2 m m' h1 h2 h3 h4 h5=>?_,fun i hi=>?_,by show s.nx+1≤_;omega⟩⟩
 ·rw[Tr.Dq _ _ _ (Xc hl)]at h1
  by_cases e:i=s.nx
  ·rw[if_pos e]at h1
   cases h1;exact⟨(n,cap),by simp[e],o',DE _ _ _,ho.mono hle⟩
  ·rw[if_neg e]at h1
   obtain⟨m,h2,o2,h3,h4⟩:=hs.get i o1 h1;refine⟨m,by simp[e,h2],o2,?_,h4.mono hle⟩;rw[Cf _ _ (fun e'=>by rw[e',hn]at h3;cases h3)];exact h3
 ·rw[Tr.Dq _ _ _ (Xc hl)]at h1 h2
  by_cases e:i=s.nx<;>by_cases e':j=s.nx
  ·omega
  ·exfalso
   rw[if_neg e']at h2;simp only[e,if_true,Ha]at h3;simp only[e',if_false]at h4;obtain⟨m2,h6,o3,h7,_⟩:=hs.get j o2 h2;rw[h6]at h4;cases h4;rw[←h5,←h3,hn]at h7;cases h7
  ·exfalso
   rw[if_neg e]at h1;simp only[e',if_true,Ha]at h4;simp only[e,if_false]at h3;obtain⟨m2,h6,o3,h7,_⟩:=hs.get i o1 h1;rw[h6]at h3;cases h3;rw[h5,←h4,hn]at h7;cases h7
  ·rw[if_neg e]at h1
   rw[if_neg e']at h2;simp only[e,if_false]at h3;simp only[e',if_false]at h4;exact hs.inj i j o1 o2 m m' h1 h2 h3 h4 h5
 ·have hi':s.nx+1≤i:=hi
  have:i≠s.nx:=by omega
  simp only[this,if_false];exact hs.qz i (by omega)
theorem SR.BI {s:St} (hs:SR P ρ s σ) {i:Nat} {m:Nat×Nat} {o:EO} (hi:s.t.get i=some o) (hm:ρ i=some m) {o1:EO} {o1':O} (ho:RO P ρ m.2 o1 o1') :
 SR P ρ ⟨s.nx,Tr.set (some o1) BA s.t i⟩ (Gl.BI σ m.1 o1'):=by
 have hl:=Xc (hs.lt hm);refine⟨fun j o2 h1=>?_,fun j j' o2 o3 m1 m2 h1 h2 h3 h4 h5=>?_,hs.qz,hs.lim⟩
 ·rw[Tr.Dq _ _ _ hl]at h1
  by_cases e:j=i
  ·subst e
   rw[if_pos rfl]at h1;cases h1;exact⟨m,hm,o1',DE _ _ _,ho⟩
  ·rw[if_neg e]at h1
   obtain⟨m1,h2,o3,h3,h4⟩:=hs.get j o2 h1;refine⟨m1,h2,o3,?_,h4⟩;rw[Cf _ _ (fun e'=>e (hs.inj j i o2 o m1 m h1 hi h2 hm e'))];exact h3
 ·rw[Tr.Dq _ _ _ hl]at h1 h2
  have g1: ∃q,s.t.get j=some q:=by
   by_cases e:j=i
   ·exact⟨o,e ▸ hi⟩
   ·rw[if_neg e]at h1;exact⟨_,h1⟩
  have g2: ∃q,s.t.get j'=some q:=by
   by_cases e:j'=i
   ·exact⟨o,e ▸ hi⟩
   ·rw[if_neg e]at h2;exact⟨_,h2⟩
  obtain⟨q1,g1⟩:=g1;obtain⟨q2,g2⟩:=g2;exact hs.inj j j' q1 q2 m1 m2 g1 g2 h3 h4 h5
theorem SR.del {s:St} (hs:SR P ρ s σ) {i:Nat} {m:Nat×Nat} {o:EO} (hi:s.t.get i=some o) (hm:ρ i=some m) :
 SR P ρ ⟨s.nx,Tr.set none BA s.t i⟩ (Gl.del σ m.1):=by
 have hl:=Xc (hs.lt hm)
 have sub: ∀j q,(Tr.set none BA s.t i).get j=some q→j≠i∧s.t.get j=some q:=fun j q h=>by
  rw[Tr.Dq _ _ _ hl]at h;by_cases e:j=i
  ·rw[if_pos e]at h;cases h
  ·rw[if_neg e]at h;exact⟨e,h⟩
 refine⟨fun j o2 h1=>?_,fun j j' o2 o3 m1 m2 h1 h2 h3 h4 h5=>?_,hs.qz,hs.lim⟩
 ·obtain⟨e,h1⟩:=sub j o2 h1
  obtain⟨m1,h2,o3,h3,h4⟩:=hs.get j o2 h1;refine⟨m1,h2,o3,?_,h4⟩;have:m1.1≠m.1:=fun e'=>e (hs.inj j i o2 o m1 m h1 hi h2 hm e')
  simp[Gl.del,this,h3]
 ·exact hs.inj j j' o2 o3 m1 m2 (sub _ _ h1).2 (sub _ _ h2).2 h3 h4 h5
theorem SR.at {s:St} (hs:SR P ρ s σ) {i:Nat} {m:Nat×Nat} {o:EO} (hi:s.t.get i=some o) (hm:ρ i=some m): ∃o',σ m.1=some o'∧RO P ρ m.2 o o':=by
 obtain⟨m',h1,h2⟩:=hs.get i o hi;rw[hm]at h1;cases h1;exact h2
theorem RE.get: ∀ {env env₀:Env},RE ρ env env₀→ ∀ {k:Nat} {v:V},Gl.get k env=some v→ ∃v',Gl.get k env₀=some v'∧RV ρ v v'
 | (j,u)::r,_,⟨y,ys,h1,h2,e⟩,k,v,h=>by
   subst e;obtain⟨j',u'⟩:=y;have e1:j'=j:=h1.1;subst e1;simp only[Gl.get]at h ⊢;cases hb:Nat.beq j' k with
   | true=>rw[hb]at h;simp only[cond_true]at h ⊢;cases h;exact⟨u',rfl,h1.2⟩
   | false=>rw[hb]at h;simp only[cond_false]at h ⊢;exact RE.get h2 h
theorem RE.wy: ∀ {env env₀:Env},RE ρ env env₀→ ∀ {k:Nat},Gl.get k env=none→Gl.get k env₀=none
 | [],_,h,k,_=>by cases h;rfl
 | (j,u)::r,_,⟨y,ys,h1,h2,e⟩,k,h=>by
   subst e;obtain⟨j',u'⟩:=y;have e1:j'=j:=h1.1;subst e1;simp only[Gl.get]at h ⊢;cases hb:Nat.beq j' k with
   | true=>rw[hb]at h;simp only[cond_true]at h;cases h
   | false=>rw[hb]at h;simp only[cond_false]at h ⊢;exact RE.wy h2 h
def DL (env:Env):Bj→Option V
 | .t n=>get n env
 | .c v=>bif Aq v then some v else none
theorem Ao (he:RE ρ env env₀) {x:Bj} {v:V} (h:DL env x=some v): ∃v',ev env₀ x=some v'∧RV ρ v v':=by
 cases x with
 | t n=>exact he.get h
 | c u=>
   simp only[DL]at h;cases hb:Aq u with
   | true=>rw[hb]at h;cases h;exact⟨_,rfl,RV.pure _ hb⟩
   | false=>rw[hb]at h;cases h
def MQ (env:Env):List Bj→Option (List V)
 | []=>some []
 | x ::r=>match DL env x with
   | some v=>match MQ env r with
     | some vs=>some (v::vs)
     | none=>none
   | none=>none
theorem HI (he:RE ρ env env₀): ∀ {l:List Bj} {vs:List V},MQ env l=some vs→ ∃vs',Rt env₀ l=some vs'∧Jl ρ vs vs'
 | [],_,h=>by cases h;exact⟨[],rfl,rfl⟩
 | x ::r,vs,h=>by
   simp only[MQ]at h;split at h
   ·rename_i v hv
    split at h
    ·rename_i us hu
     cases h;obtain⟨v',h1,h2⟩:=Ao he hv;obtain⟨vs',h3,h4⟩:=HI he hu;exact⟨v'::vs',by simp only[Rt,h1,h3],F2.cons h2 h4⟩
    ·cases h
   ·cases h
def HS (k:IntKind) (n:Int):Int:=
 match k,n with
 | .i64,.ofNat m=>bif Nat.ble m 9223372036854775807 then .ofNat m else IntKind.i64.wrap (.ofNat m)
 | .u64,.ofNat m=>bif Nat.ble m 18446744073709551615 then .ofNat m else IntKind.u64.wrap (.ofNat m)
 | k,n=>k.wrap n
theorem wrap_u64 {n:Int} (h1:0≤n) (h2:n≤18446744073709551615):IntKind.u64.wrap n=n:=by
 have e:IntKind.u64.wrap n=n % 18446744073709551616:=by simp[IntKind.wrap,IntKind.bits,IntKind.signed]
 rw[e];omega
theorem ofNat_eq (m:Nat):Int.ofNat m=(m:Int):=rfl
theorem Hw (k:IntKind) (n:Int):HS k n=k.wrap n:=by
 unfold HS;split
 ·rename_i m
  cases h:Nat.ble m 9223372036854775807 with
  | true=>
    have h':m≤9223372036854775807:=by rw[Nat.ble_eq]at h;exact h
    rw[cond_true,ofNat_eq];exact(wrap64 (by omega) (by omega)).symm
  | false=>rfl
 ·rename_i m
  cases h:Nat.ble m 18446744073709551615 with
  | true=>
    have h':m≤18446744073709551615:=by rw[Nat.ble_eq]at h;exact h
    rw[cond_true,ofNat_eq];exact(wrap_u64 (by omega) (by omega)).symm
  | false=>rfl
 ·rfl
def Kx (a b:Int):Bool:=
 match a,b with
 | .ofNat m,.ofNat n=>Nat.ble (m+1) n
 | .negSucc _,.ofNat _=>true
 | .ofNat _,.negSucc _=>false
 | .negSucc m,.negSucc n=>Nat.ble (n+1) m
theorem NS (a b:Int):Kx a b=decide (a<b):=by
 cases a<;>cases b<;>simp only[Kx]
 ·rename_i m n
  rw[Bool.eq_iff_iff,Nat.ble_eq,DU];simp;omega
 ·rename_i m n
  symm;rw[decide_eq_false_iff_not];simp;omega
 ·rename_i m n
  symm;rw[DU];simp;omega
 ·rename_i m n
  rw[Bool.eq_iff_iff,Nat.ble_eq,DU];omega
def Mv (a b:Int):Bool:= !Kx b a
theorem aD (a b:Int):Mv a b=decide (a≤b):=by
 rw[Mv,NS,Bool.eq_iff_iff];simp
def XY (a b:Int):Bool:=
 match a,b with
 | .ofNat m,.ofNat n=>Nat.beq m n
 | .negSucc m,.negSucc n=>Nat.beq m n
 | _,_=>false
theorem Qn (a b:Int):XY a b=(a==b):=by
 cases a<;>cases b<;>simp only[XY]
 ·rename_i m n
  rw[Bool.eq_iff_iff,Nat.beq_eq,Dp];exact⟨fun e=>by rw[e],fun e=>by cases e;rfl⟩
 ·rename_i m n
  rw[Bool.eq_iff_iff,Dp];exact⟨fun e=>(by cases e),fun e=>by cases e⟩
 ·rename_i m n
  rw[Bool.eq_iff_iff,Dp];exact⟨fun e=>(by cases e),fun e=>by cases e⟩
 ·rename_i m n
  rw[Bool.eq_iff_iff,Nat.beq_eq,Dp];exact⟨fun e=>by rw[e],fun e=>by cases e;rfl⟩
theorem Dv {a b:Int} (h:Mv a b=true):a≤b:=by rw[aD]at h;exact of_decide_eq_true h
theorem K9 {a b:Int} (h:Kx a b=true):a<b:=by rw[NS]at h;exact of_decide_eq_true h
def NP (op:BinOp) (k:IntKind) (x y:Int):Int:=
 match k,x,y with
 | .u64,.ofNat a,.ofNat b=>bif Nat.ble a 18446744073709551615&&Nat.ble b 18446744073709551615 then
  match op with
  | .and=> .ofNat (Nat.land a b)
  | .or=> .ofNat (Nat.lor a b)
  | op=>bits op .u64 (.ofNat a) (.ofNat b)
   else bits op .u64 (.ofNat a) (.ofNat b)
 | k,x,y=>bits op k x y
theorem cW (op:BinOp) (k:IntKind) (x y:Int):NP op k x y=bits op k x y:=by
 unfold NP;split
 ·rename_i a b
  cases h:Nat.ble a 18446744073709551615&&Nat.ble b 18446744073709551615 with
  | false=>rfl
  | true=>
    simp only[BO]at h;have h1:=Nat.le_of_ble_eq_true h.1;have h2:=Nat.le_of_ble_eq_true h.2
    have e1:(BitVec.ofInt 64 (Int.ofNat a)).toNat=a:=by
     rw[show Int.ofNat a=(a:Int) from rfl,BitVec.ofInt_natCast,BitVec.toNat_ofNat];omega
    have e2:(BitVec.ofInt 64 (Int.ofNat b)).toNat=b:=by
     rw[show Int.ofNat b=(b:Int) from rfl,BitVec.ofInt_natCast,BitVec.toNat_ofNat];omega
    simp only[cond_true];split
    ·have e3:bits .and .u64 (Int.ofNat a) (Int.ofNat b)=IntKind.u64.wrap (((BitVec.ofInt 64 (Int.ofNat a))&&&(BitVec.ofInt 64 (Int.ofNat b))).toNat:Int):=rfl
     rw[e3,BitVec.toNat_and,e1,e2];have:a&&&b<2 ^ 64:=Nat.and_lt_two_pow _ (by omega);rw[wrap_u64 (by omega) (by omega)];rfl
    ·have e3:bits .or .u64 (Int.ofNat a) (Int.ofNat b)=IntKind.u64.wrap (((BitVec.ofInt 64 (Int.ofNat a))|||(BitVec.ofInt 64 (Int.ofNat b))).toNat:Int):=rfl
     rw[e3,BitVec.toNat_or,e1,e2];have:a|||b<2 ^ 64:=Nat.or_lt_two_pow (by omega) (by omega)
     rw[wrap_u64 (by omega) (by omega)];rfl
    ·rfl
 ·rfl
def SD (op:BinOp) (x y:V):Option V:=
 match x,y with
 | .i ka a,.i kb b=>
   match op with
   | .add=>bif decide (ka=kb)then some (.i ka (HS ka (a+b)))else none
   | .sub=>bif decide (ka=kb)then some (.i ka (HS ka (a - b)))else none
   | .mul=>bif decide (ka=kb)then some (.i ka (HS ka (a*b)))else none
   | .quo=>bif decide (ka=kb)&& !XY b 0 then some (.i ka (HS ka (a.tdiv b)))else none
   | .rem=>bif decide (ka=kb)&& !XY b 0 then some (.i ka (a.tmod b))else none
   | .eql=>bif decide (ka=kb)then some (.b (XY a b))else none
   | .neq=>bif decide (ka=kb)then some (.b (!XY a b))else none
   | .lss=>bif decide (ka=kb)then some (.b (Kx a b))else none
   | .leq=>bif decide (ka=kb)then some (.b (Mv a b))else none
   | .gtr=>bif decide (ka=kb)then some (.b (Kx b a))else none
   | .geq=>bif decide (ka=kb)then some (.b (Mv b a))else none
   | .shl=>bif Mv 0 b then some (.i ka (HS ka (a*2 ^ (min b.toNat ka.bits))))else none
   | .shr=>bif Mv 0 b then some (.i ka (a.fdiv (2 ^ (min b.toNat ka.bits))))else none
   | op=>bif decide (ka=kb)then some (.i ka (NP op ka a b))else none
 | _,_=>none
theorem AT {α:Type} {c:Bool} {x:Option α} {v:α} (h:(bif c then x else none)=some v):c=true∧x=some v:=by
 cases c with
 | true=>exact⟨rfl,h⟩
 | false=>cases h
theorem js {op:BinOp} {x y v:V} (h:SD op x y=some v):Aq x=true∧Aq y=true∧Aq v=true∧ ∀K:V→Prop,K v→R3 op x y K:=by
 unfold SD at h;split at h
 ·rename_i ka a kb b
  refine⟨rfl,rfl,?_⟩
  cases op<;>simp only at h<;>obtain⟨h1,h2⟩:=AT h<;>cases h2<;>refine⟨rfl,fun K U=>?_⟩<;>
   (try simp only[BO,DU,Bool.not_eq_true',Qn,beq_eq_false_iff_ne]at h1)<;>
   (try simp only[Hw,NS,aD,Qn,cW]at U)<;>simp only[R3]
  all_goals first
   | exact⟨h1,U⟩
   | exact⟨h1.1,h1.2,U⟩
   | exact⟨Dv h1,U⟩
 ·cases h
theorem Fj {v v':V} {cs:List V} (h:cellsOf v=some cs) (hv:RV ρ v v'): ∃cs',cellsOf v'=some cs'∧Jl ρ cs cs':=by
 cases v with
 | a cs0=>
   cases h;obtain⟨c,h1,rfl⟩:=hv;exact⟨c,rfl,Ba.1 h1⟩
 | t _=>cases h
 | any=>cases h
 | _ =>
   cases h
   have:cellsOf v'=some [v']:=by
    simp only[RV]at hv
    first
     | (rw[hv];rfl)
     | (obtain⟨_,_,hv⟩:=hv;rw[hv];rfl)
     | (obtain⟨_,_,_,_,_,_,hv⟩:=hv;rw[hv];rfl)
   exact⟨[v'],this,F2.cons hv F2.nil⟩
theorem eT {v v':V} (hv:RV ρ v v'):B7 v'=B7 v:=by
 cases v<;>simp only[RV]at hv<;>first
  | (rw[hv];done)
  | (obtain⟨_,_,hv⟩:=hv;rw[hv];rfl)
  | (obtain⟨_,_,_,_,_,_,hv⟩:=hv;rw[hv];rfl)
theorem XJ {vs vs':List V} (h:vs.all B7=true) (hv:Jl ρ vs vs'):vs'.all B7=true:=by
 rw[GL]at *;intro v hm;obtain⟨u,hu,hr⟩:=F2.mem hv hm;rw[eT hr];exact h u hu
theorem Kc {vs vs':List (List V)} (h:(vs.all fun e=>e.all B7)=true) (hv:ZA ρ vs vs'): ∀e∈vs',∀v∈e,B7 v=true:=by
 rw[GL]at h;intro e he;obtain⟨u,hu,hr⟩:=F2.mem hv he;have:=XJ (h u hu) hr
 rwa [GL]at this
theorem Ms {sz:Nat} {vs vs':List (List V)} (h:(vs.all fun e=>Nat.beq e.length sz)=true) (hv:ZA ρ vs vs'): ∀e∈vs',e.length=sz:=by
 rw[GL]at h;intro e he;obtain⟨u,hu,hr⟩:=F2.mem hv he;rw[hr.len];exact Ci (h u hu)
theorem KK: ∀ {vc vc':List V} {cs cs':List V} {off:Nat},Jl ρ cs cs'→Jl ρ vc vc'→Jl ρ (putAt cs off vc) (putAt cs' off vc')
 | [],_,_,_,_,h,h'=>by cases h';exact h
 | _::_,_,_,_,off,h,⟨y,ys,h1,h2,e⟩=>by
   subst e;simp only[putAt];exact KK (h.set off h1) h2
def SA (agg:Option Nat) (cs:List V) (off:Nat):Option V:=
 match agg with
 | none=>cs[off]?
 | some n=>bif Nat.ble (off+n) cs.length then some (.a ((cs.drop off).take n))else none
theorem J7 {agg:Option Nat} {cs cs':List V} {off:Nat} {v:V} (h:SA agg cs off=some v) (hc:Jl ρ cs cs') {K:V→Prop} (U: ∀v',RV ρ v v'→K v'):cut agg cs' off K:=by
 cases agg with
 | none=>
   obtain⟨y,h1,h2⟩:=hc.get h;simp only[cut,h1];exact U _ h2
 | some n=>
   obtain⟨h1,h2⟩:=AT h;cases h2;refine⟨by rw[hc.len];exact Nat.le_of_ble_eq_true h1,U _ ?_⟩;simp only[RV];exact⟨_,Ba.2 ((hc.drop off).take n),rfl⟩
def Lz (s:St) (agg:Option Nat) (x:V):Option V:=
 match x with
 | .rp cs=>SA agg cs 0
 | .p n off=>match s.t.get n with
   | some (.cs vs)=>SA agg vs off
   | _=>none
 | .pe n sz i off=>match s.t.get n with
   | some (.arr sz' es)=>bif Nat.beq sz sz' then(match es[i]? with|some e=>SA agg e off|none=>none)else none
   | _=>none
 | _=>none
theorem TO {s:St} (hs:SR P ρ s σ) {agg:Option Nat} {x x' v:V} (h:Lz s agg x=some v) (hx:RV ρ x x') {K:V→Prop} (U: ∀v',RV ρ v v'→K v'):An σ agg x' K:=by
 unfold Lz at h;split at h
 ·obtain⟨c,h1,rfl⟩:=hx
  exact J7 h (Ba.1 h1) U
 ·obtain⟨m,h1,rfl⟩:=hx
  split at h
  ·rename_i vs hg
   obtain⟨o',h2,vs',h3,rfl⟩:=hs.at hg h1;simp only[An,NG,h2];exact J7 h h3 U
  ·cases h
 ·obtain⟨m,h1,rfl⟩:=hx
  split at h
  ·rename_i es hg
   obtain⟨o',h2,es',h3,rfl⟩:=hs.at hg h1;obtain⟨h4,h5⟩:=AT h;split at h5
   ·rename_i e he
    obtain⟨e',h6,h7⟩:=h3.get he;simp only[An,NH,h2,h6];exact⟨Ci h4,J7 h5 h7 U⟩
   ·cases h5
  ·cases h
 ·cases h
def NU (s : St) (sz:Nat) (a x:V):Option St:=
 match cellsOf x with
 | some vc =>bif Nat.beq vc.length sz&&vc.all B7 then
  match a with
  | .p n off=>match s.t.get n with
    | some (.cs vs)=>bif Nat.ble (off+sz) vs.length then Tr.put (some (.cs (putAt vs off vc))) BA s.t n fun t=>some ⟨s.nx,t⟩else none
    | _=>none
  | .pe n s' i off=>match s.t.get n with
    | some (.arr s1 es)=>bif Nat.beq s' s1&&Nat.ble (off+sz) s' then
     (match es[i]? with|some e=>Tr.put (some (.arr s1 (es.set i (putAt e off vc)))) BA s.t n fun t=>some ⟨s.nx,t⟩|none=>none)else none
    | _=>none
  | _=>none
   else none
 | none=>none
theorem Yc {s s':St} (hs:SR P ρ s σ) {sz:Nat} {a a' x x':V} (h:NU s sz a x=some s') (ha:RV ρ a a') (hx:RV ρ x x') {K:AG→Prop} (U: ∀σ',SR P ρ s' σ'→K σ'):Af σ sz a' x' K:=by
 unfold NU at h;split at h
 ·rename_i vc hvc
  obtain⟨vc',e1,e2⟩:=Fj hvc hx;obtain⟨h1,h2⟩:=AT h;simp only[BO]at h1;simp only[Af,e1];refine⟨by rw[e2.len];exact Ci h1.1,XJ h1.2 e2,?_⟩;split at h2
  ·obtain⟨m,g1,rfl⟩:=ha
   split at h2
   ·rename_i vs hg
    obtain⟨o',g2,vs',g3,rfl⟩:=hs.at hg g1;obtain⟨h3,h4⟩:=AT h2;rw[Tr.put_eq]at h4;cases h4;simp only[g2];exact⟨by rw[g3.len];exact Nat.le_of_ble_eq_true h3,U _ (hs.BI hg g1 ⟨_,KK g3 e2,rfl⟩)⟩
   ·cases h2
  ·obtain⟨m,g1,rfl⟩:=ha
   split at h2
   ·rename_i es hg
    obtain⟨o',g2,vs',g3,rfl⟩:=hs.at hg g1;obtain⟨h3,h4⟩:=AT h2;simp only[BO]at h3;split at h4
    ·rename_i e he
     rw[Tr.put_eq]at h4;cases h4;obtain⟨e',g4,g5⟩:=g3.get he;simp only[g2,g4];have e:=Ci h3.1;subst e;exact⟨rfl,Nat.le_of_ble_eq_true h3.2,U _ (hs.BI hg g1 ⟨_,g3.set _ (KK g5 e2),rfl⟩)⟩
    ·cases h4
   ·cases h2
  ·cases h2
 ·cases h
def Qo (off:Nat) (x:V):Option V:=
 match x with
 | .rp cs=>some (.rp (cs.drop off))
 | .p n o=>some (.p n (o+off))
 | .pe n sz i o=>some (.pe n sz i (o+off))
 | _=>none
theorem Yh {off:Nat} {x x' v:V} (h:Qo off x=some v) (hx:RV ρ x x') {K:V→Prop} (U: ∀v',RV ρ v v'→K v'):JH off x' K:=by
 unfold Qo at h;split at h
 ·obtain⟨c,h1,rfl⟩:=hx
  cases h;exact U _ (by simp only[RV];exact⟨_,Ba.2 ((Ba.1 h1).drop off),rfl⟩)
 ·obtain⟨m,h1,rfl⟩:=hx
  cases h;exact U _ (by simp only[RV];exact⟨m,h1,rfl⟩)
 ·obtain⟨m,h1,rfl⟩:=hx
  cases h;exact U _ (by simp only[RV];exact⟨m,h1,rfl⟩)
 ·cases h
def LF (sz:Nat) (arr:Option Nat) (x i:V):Option V:=
 match i with
 | .i _ j=>bif Mv 0 j then
  match arr,x with
  | none,.l es _=>match es[j.toNat]? with|some e=>bif Nat.beq e.length sz then some (.rp e)else none|none=>none
  | none,.sl n len _=>bif Kx j len then some (.pe n sz j.toNat 0)else none
  | none,.sv n s off len=>bif Nat.beq s sz&&Kx j len then some (.pe n sz (off+j.toNat) 0)else none
  | some m,.rp cs=>bif Kx j m then some (.rp (cs.drop (j.toNat*sz)))else none
  | some m,.p n o=>bif Kx j m then some (.p n (o+j.toNat*sz))else none
  | some m,.pe n s q o=>bif Kx j m then some (.pe n s q (o+j.toNat*sz))else none
  | _,_=>none
   else none
 | _=>none
theorem Yg {sz:Nat} {arr:Option Nat} {x x' i i' v:V} (h:LF sz arr x i=some v) (hx:RV ρ x x') (hi:RV ρ i i') {K:V→Prop} (U: ∀v',RV ρ v v'→K v'):Ab sz arr x' i' K:=by
 unfold LF at h;split at h
 ·rename_i kj j
  simp only[RV]at hi;subst hi;obtain⟨h0,h⟩:=AT h;have h0:=Dv h0;split at h
  ·obtain⟨es',h1,rfl⟩:=hx
   split at h
   ·rename_i e he
    obtain⟨h2,h3⟩:=AT h;cases h3;obtain⟨e',h4,h5⟩:=(Eu.1 h1).get he;exact⟨h0,e',h4,by rw[h5.len];exact Ci h2,U _ (by simp only[RV];exact⟨e',Ba.2 h5,rfl⟩)⟩
   ·cases h
  ·obtain⟨m,h1,rfl⟩:=hx
   obtain⟨h2,h3⟩:=AT h;cases h3;exact⟨h0,K9 h2,U _ (by simp only[RV];exact⟨m,h1,rfl⟩)⟩
  ·obtain⟨m,h1,rfl⟩:=hx
   obtain⟨h2,h3⟩:=AT h;simp only[BO]at h2;cases h3;exact⟨Ci h2.1,h0,K9 h2.2,U _ (by simp only[RV];exact⟨m,h1,rfl⟩)⟩
  ·obtain⟨c,h1,rfl⟩:=hx
   obtain⟨h2,h3⟩:=AT h;cases h3;exact⟨h0,K9 h2,U _ (by simp only[RV];exact⟨_,Ba.2 ((Ba.1 h1).drop _),rfl⟩)⟩
  ·obtain⟨m,h1,rfl⟩:=hx
   obtain⟨h2,h3⟩:=AT h;cases h3;exact⟨h0,K9 h2,U _ (by simp only[RV];exact⟨m,h1,rfl⟩)⟩
  ·obtain⟨m,h1,rfl⟩:=hx
   obtain⟨h2,h3⟩:=AT h;cases h3;exact⟨h0,K9 h2,U _ (by simp only[RV];exact⟨m,h1,rfl⟩)⟩
  ·cases h
 ·cases h
def NW (len sz:Nat) (agg:Option Nat) (x i:V):Option V:=
 match x,i with
 | .a cs,.i _ j=>bif Mv 0 j&&Kx j len then SA agg cs (j.toNat*sz)else none
 | _,_=>none
theorem Yf {len sz:Nat} {agg:Option Nat} {x x' i i' v:V} (h:NW len sz agg x i=some v) (hx:RV ρ x x') (hi:RV ρ i i') {K:V→Prop} (U: ∀v',RV ρ v v'→K v'):JG len sz agg x' i' K:=by
 unfold NW at h;split at h
 ·simp only[RV]at hi
  subst hi;obtain⟨c,h1,rfl⟩:=hx;obtain⟨h2,h3⟩:=AT h;simp only[BO]at h2;exact⟨Dv h2.1,K9 h2.2,J7 h3 (Ba.1 h1) U⟩
 ·cases h
def SV (x i:V):Option V:=
 match x,i with
 | .s b,.i _ j=>bif Mv 0 j then(match b.data.toList[j.toNat]? with|some c=>some (.i .u8 (.ofNat c.toNat))|none=>none)else none
 | _,_=>none
theorem cE {x x' i i' v:V} (h:SV x i=some v) (hx:RV ρ x x') (hi:RV ρ i i') {K:V→Prop} (U: ∀v',RV ρ v v'→K v'):NL x' i' K:=by
 unfold SV at h;split at h
 ·simp only[RV]at hi hx
  subst hi;subst hx;obtain⟨h2,h3⟩:=AT h;refine⟨Dv h2,?_⟩;split at h3
  ·rename_i c hc
   cases h3;rw[hc];exact U _ (by simp only[RV];rfl)
  ·cases h3
 ·cases h
def Xh (x:V):Option V:=
 match x with
 | .l es _=>some (.i .i64 (.ofNat es.length))
 | .sl _ len _=>bif Nat.ble len Ax then some (.i .i64 (.ofNat len))else none
 | .sv _ _ _ len=>bif Nat.ble len Ax then some (.i .i64 (.ofNat len))else none
 | _=>none
theorem jo {x x' v:V} (h:Xh x=some v) (hx:RV ρ x x') {K:V→Prop} (U: ∀v',RV ρ v v'→K v'):BZ x' K:=by
 unfold Xh at h;split at h
 ·obtain⟨es',h1,rfl⟩:=hx
  cases h;have:=(Eu.1 h1).len;exact U _ (by simp only[RV];rw[this];rfl)
 ·obtain⟨m,h1,rfl⟩:=hx
  obtain⟨h2,h3⟩:=AT h;cases h3;exact⟨Nat.le_of_ble_eq_true h2,U _ (by simp only[RV];rfl)⟩
 ·obtain⟨m,h1,rfl⟩:=hx
  obtain⟨h2,h3⟩:=AT h;cases h3;exact⟨Nat.le_of_ble_eq_true h2,U _ (by simp only[RV];rfl)⟩
 ·cases h
def SW (s:St) (x:V):Option V:=
 match x with
 | .m n=>match s.t.get n with
   | some (.map kvs)=>bif Nat.ble kvs.length Ax then some (.i .i64 (.ofNat kvs.length))else none
   | _=>none
 | .mn=>some (.i .i64 0)
 | _=>none
theorem cF {s:St} (hs:SR P ρ s σ) {x x' v:V} (h:SW s x=some v) (hx:RV ρ x x') {K:V→Prop} (U: ∀v',RV ρ v v'→K v'):It σ x' K:=by
 unfold SW at h;split at h
 ·obtain⟨m,h1,rfl⟩:=hx
  split at h
  ·rename_i kvs hg
   obtain⟨h2,h3⟩:=AT h;cases h3;obtain⟨o',g2,kvs',g3,rfl⟩:=hs.at hg h1;simp only[It,g2];have:=g3.len;exact⟨by rw[this];exact Nat.le_of_ble_eq_true h2,U _ (by simp only[RV];rw[this];rfl)⟩
  ·cases h
 ·cases h
  simp only[RV]at hx;subst hx;exact U _ (by simp only[RV])
 ·cases h
def HW (s:St) (sz:Nat) (y:V):Option (List (List V)):=
 match y with
 | .l ys _=>bif ys.all (fun e=>Nat.beq e.length sz)then some ys else none
 | .sl m len _=>match s.t.get m with
   | some (.arr s' ys)=>bif Nat.beq s' sz&&Nat.ble len ys.length then some (ys.take len)else none
   | _=>none
 | .sv m s1 off len=>match s.t.get m with
   | some (.arr s' ys)=>bif Nat.beq s1 sz&&(Nat.beq s' sz&&Nat.ble (off+len) ys.length)then some ((ys.drop off).take len)else none
   | _=>none
 | _=>none
theorem Gm {s:St} (hs:SR P ρ s σ) {sz:Nat} {y y':V} {ys:List (List V)} (h:HW s sz y=some ys) (hy:RV ρ y y') {K:List (List V)→Prop} (U: ∀ys',ZA ρ ys ys'→K ys'):rowsOf σ sz y' K:=by
 unfold HW at h;split at h
 ·obtain⟨es',h1,rfl⟩:=hy
  obtain⟨h2,h3⟩:=AT h;cases h3;exact⟨Ms h2 (Eu.1 h1),U _ (Eu.1 h1)⟩
 ·obtain⟨m,h1,rfl⟩:=hy
  split at h
  ·rename_i es hg
   obtain⟨o',g2,es',g3,rfl⟩:=hs.at hg h1;obtain⟨h2,h3⟩:=AT h;simp only[BO]at h2;cases h3;simp only[rowsOf,g2];exact⟨Ci h2.1,by rw[g3.len];exact Nat.le_of_ble_eq_true h2.2,U _ (g3.take _)⟩
  ·cases h
 ·obtain⟨m,h1,rfl⟩:=hy
  split at h
  ·rename_i es hg
   obtain⟨o',g2,es',g3,rfl⟩:=hs.at hg h1;obtain⟨h2,h3⟩:=AT h;simp only[BO]at h2;cases h3;simp only[rowsOf,g2];exact⟨Ci h2.1,Ci h2.2.1,by rw[g3.len];exact Nat.le_of_ble_eq_true h2.2.2,U _ ((g3.drop _).take _)⟩
  ·cases h
 ·cases h
def St.new {β:Type} (s:St) (o:EO) (K:Nat→St→Option β):Option β:=
 match s.nx with
 | 0=>Tr.put (some o) BA s.t 0 fun t=>K 0 ⟨1,t⟩
 | n+1=>bif Nat.ble (n+1) Kz then Tr.put (some o) BA s.t (n+1) fun t=>K (n+1) ⟨n+2,t⟩else none
theorem St.HC {β:Type} {s:St} {o:EO} {K:Nat→St→Option β} {x:β} (h:s.new o K=some x):s.nx≤Kz∧K s.nx ⟨s.nx+1,Tr.set (some o) BA s.t s.nx⟩=some x:=by
 obtain⟨n,t⟩:=s;cases n with
 | zero=>simp only[St.new]at h;rw[Tr.put_eq]at h;exact⟨by simp[Kz],h⟩
 | succ n=>
   simp only[St.new]at h;obtain⟨h1,h2⟩:=AT h;rw[Tr.put_eq]at h2;exact⟨Nat.le_of_ble_eq_true h1,h2⟩
theorem Pc: ∀ {ys ys':List (List V)} {ns:List Int},Ea ys=some ns→ZA ρ ys ys'→Ea ys'=some ns
 | [],ys',ns,h,hr=>by obtain rfl:ys'= []:=hr;exact h
 | e ::r,ys',ns,h,hr=>by
   unfold Ea at h;split at h
   ·cases ‹_= []›
   ·rename_i n r' he
    cases he;obtain⟨e',r'',h1,h2,rfl⟩:=hr;obtain⟨v',l',h3,h4,rfl⟩:=h1;obtain rfl:l'= []:=h4;simp only[RV]at h3;subst h3;split at h
    ·rename_i l hl
     cases h;simp only[Ea,Pc hl h2]
    ·cases h
   ·cases h
def ZY (s:St) (x:V):Option V:=
 match HW s 1 x with
 | some ys=>match Ea ys with
   | some ns=>some (.s ⟨(ns.map fun n=>UInt8.ofNat n.toNat).toArray⟩)
   | none=>none
 | none=>none
theorem jn {s:St} (hs:SR P ρ s σ) {x x' v:V} (h:ZY s x=some v) (hx:RV ρ x x') {K:V→Prop} (U: ∀v',RV ρ v v'→K v'):ZU σ x' K:=by
 unfold ZY at h;split at h
 ·rename_i ys hys
  split at h
  ·rename_i ns hn
   cases h;refine Gm hs hys hx fun ys' hr=>?_
   rw[Pc hn hr];exact U _ (by simp only[RV])
  ·cases h
 ·cases h
def wJ (b L:Nat):Bool:=Nat.ble L 1073741824&&Nat.ble b 131072
theorem Qc {b L:Nat} (h:wJ b L=true):L≤Ax∧L*b≤140737488355328:=by
 simp only[wJ,BO]at h;have h1:=Nat.le_of_ble_eq_true h.1;have h2:=Nat.le_of_ble_eq_true h.2;have h3:L*b≤1073741824*131072:=Nat.mul_le_mul h1 h2;exact⟨by unfold Ax;omega,by omega⟩
def J8 (b : Nat) (s:St) (sz:Nat) (x y:V):Option (V×St):=
 match HW s sz y with
 | some ys =>bif ys.all (fun e=>e.all B7)then
  match x with
  | .l es full=>bif es.all (fun e=>Nat.beq e.length sz)&&wJ b (es.length+ys.length)then
   match ys with
   | []=>some (.l es full,s)
   | z::zs=>bif full then s.new (.arr sz (es++z::zs)) fun i s'=>some (.sl i (es.length+(z::zs).length) 0,s')else none
    else none
  | .sl n len _=>match s.t.get n with
    | some (.arr s1 es)=>bif Nat.beq s1 sz&&(Nat.beq len es.length&&wJ b (es.length+ys.length))then
     Tr.put none BA s.t n fun t=>St.new ⟨s.nx,t⟩ (.arr sz (es++ys)) fun i s'=>some (.sl i (es.length+ys.length) 0,s')else none
    | _=>none
  | _=>none
   else none
 | none=>none
theorem Vq {b:Nat} {s s':St} (hs:SR P ρ s σ) {sz:Nat} {x x' y y' v:V} (h:J8 b s sz x y=some (v,s')) (hx:RV ρ x x') (hy:RV ρ y y') {K:V→AG→Prop}
 (U: ∀ρ' v' σ',ρ.le ρ'→RV ρ' v v'→SR P ρ' s' σ'→K v' σ'):AQ b σ sz x' y' K:=by
 unfold J8 at h;split at h
 ·rename_i ys hys
  obtain⟨h1,h2⟩:=AT h;refine Gm hs hys hy fun ys' hr=>⟨Kc h1 hr,?_⟩
  split at h2
  ·rename_i es full
   obtain⟨es',g1,rfl⟩:=hx;have g1:=Eu.1 g1;obtain⟨h3,h4⟩:=AT h2;simp only[BO]at h3;refine⟨Ms h3.1 g1,by rw[g1.len,hr.len];exact Qc h3.2,fun e=>?_,fun e=>?_⟩
   ·split at h4
    ·cases h4
     exact U ρ _ _ (.refl _) (by simp only[RV];exact⟨es',Eu.2 g1,rfl⟩) hs
    ·subst e
     have:=hr.len;simp at this
   ·split at h4
    ·cases hr
     exact absurd rfl e
    ·rename_i z zs
     obtain⟨h5,h6⟩:=AT h4;obtain⟨h7,h8⟩:=St.HC h6;cases h8;refine⟨h5,fun n cap hn hc=>?_⟩;obtain⟨ρ',q1,q2,q3⟩:=hs.new h7 hn cap (o:= .arr sz (es++z::zs)) (o':= .arr sz (es'++ys') cap) ⟨_,g1.app hr,rfl⟩;exact U ρ' _ _ q1 (by simp only[RV];exact⟨_,q2,by rw[g1.len,hr.len]⟩) q3
  ·rename_i n len
   obtain⟨m,g1,rfl⟩:=hx;split at h2
   ·rename_i s1 es hg
    obtain⟨o',g2,es',g3,rfl⟩:=hs.at hg g1;obtain⟨h3,h4⟩:=AT h2;simp only[BO]at h3;rw[Tr.put_eq]at h4;obtain⟨h5,h6⟩:=St.HC h4;cases h6;have e1:=Ci h3.1;subst e1;simp only[g2];refine⟨trivial,trivial,by rw[g3.len];exact Ci h3.2.1,by rw[g3.len,hr.len];exact Qc h3.2.2,fun n' cap' hn hc=>?_⟩;obtain⟨ρ',q1,q2,q3⟩:=(hs.del hg g1).new h5 hn cap' (o:= .arr s1 (es++ys)) (o':= .arr s1 (es'++ys') cap') ⟨_,g3.app hr,rfl⟩;exact U ρ' _ _ q1 (by simp only[RV];exact⟨_,q2,by rw[g3.len,hr.len]⟩) q3
   ·cases h2
  ·cases h2
 ·cases h
def SY (b:Nat) (s:St) (sz:Nat) (x y:V):Option V:=
 match HW s sz y with
 | some ys=>bif ys.all (fun e=>e.all B7)then
  match x with
  | .l es full=>bif es.all (fun e=>Nat.beq e.length sz)&&(wJ b (es.length+ys.length)&&(full||ys.isEmpty))then some (.l (es++ys) false)else none
  | _=>none
   else none
 | none=>none
theorem cH {b:Nat} {s:St} (hs:SR P ρ s σ) {sz:Nat} {x x' y y' v:V} (h:SY b s sz x y=some v) (hx:RV ρ x x') (hy:RV ρ y y') {K:V→Prop} (U: ∀v',RV ρ v v'→K v'):A4 b σ sz x' y' K:=by
 unfold SY at h;split at h
 ·rename_i ys hys
  obtain⟨h1,h2⟩:=AT h;refine Gm hs hys hy fun ys' hr=>⟨Kc h1 hr,?_⟩
  split at h2
  ·rename_i es full
   obtain⟨es',g1,rfl⟩:=hx;have g1:=Eu.1 g1;obtain⟨h3,h4⟩:=AT h2;simp only[BO,Bool.or_eq_true]at h3;cases h4;refine⟨Ms h3.1 g1,by rw[g1.len,hr.len];exact Qc h3.2.1,fun e=>?_,U _ (by simp only[RV];exact⟨_,Eu.2 (g1.app hr),rfl⟩)⟩;rcases h3.2.2 with h|h
   ·exact h
   ·have:ys= []:=by simpa using h
    subst this;cases hr;exact absurd rfl e
  ·cases h2
 ·cases h
def dM (s:St) (sz:Nat) (ys:List (List V)) (n off len:Nat):Option (V×St):=
 match s.t.get n with
 | some (.arr s1 es)=>bif Nat.beq s1 sz&&Nat.ble (off+len) es.length then
  Tr.put (some (.arr s1 (es.take off++(ys.take (min ys.length len)++es.drop (off+min ys.length len))))) BA s.t n fun t=>some (.i .i64 (.ofNat (min ys.length len)),⟨s.nx,t⟩)else none
 | _=>none
theorem XD {s s':St} (hs:SR P ρ s σ) {sz n off len:Nat} {ys ys':List (List V)} (hr:ZA ρ ys ys') {m:Nat×Nat} (hm:ρ n=some m) {v:V} (h:dM s sz ys n off len=some (v,s')) {K:V→AG→Prop}
 (U: ∀v' σ',RV ρ v v'→SR P ρ s' σ'→K v' σ'):M4 σ sz ys' m.1 off len K:=by
 unfold dM at h;split at h
 ·rename_i s1 es hg
  obtain⟨o',g2,es',g3,rfl⟩:=hs.at hg hm;obtain⟨h3,h4⟩:=AT h;simp only[BO]at h3;rw[Tr.put_eq]at h4;cases h4;simp only[M4,g2];refine⟨Ci h3.1,by rw[g3.len];exact Nat.le_of_ble_eq_true h3.2,?_⟩;rw[hr.len];exact U _ _ (by simp only[RV];rfl) (hs.BI hg hm ⟨_,((g3.take off).app ((hr.take _).app (g3.drop _))),rfl⟩)
 ·cases h
def SX (s:St) (sz:Nat) (x y:V):Option (V×St):=
 match HW s sz y with
 | some ys=>bif ys.all (fun e=>e.all B7)then
  match x with
  | .sl n len _=>dM s sz ys n 0 len
  | .sv n s1 off len=>bif Nat.beq s1 sz then dM s sz ys n off len else none
  | _=>none
   else none
 | none=>none
theorem cG {s s':St} (hs:SR P ρ s σ) {sz:Nat} {x x' y y' v:V} (h:SX s sz x y=some (v,s')) (hx:RV ρ x x') (hy:RV ρ y y') {K:V→AG→Prop}
 (U: ∀v' σ',RV ρ v v'→SR P ρ s' σ'→K v' σ'):Az σ sz x' y' K:=by
 unfold SX at h;split at h
 ·rename_i ys hys
  obtain⟨h1,h2⟩:=AT h;refine Gm hs hys hy fun ys' hr=>⟨Kc h1 hr,?_⟩
  split at h2
  ·obtain⟨m,g1,rfl⟩:=hx
   exact XD hs hr g1 h2 U
  ·obtain⟨m,g1,rfl⟩:=hx
   obtain⟨h3,h4⟩:=AT h2;exact⟨Ci h3,XD hs hr g1 h4 U⟩
  ·cases h2
 ·cases h
def SC (o:Option V) (d:Int):Option Int:=
 match o with
 | none=>some d
 | some (.i _ n)=>some n
 | _=>none
def kN (ρ:Ren):Option V→Option V→Prop
 | none,o=>o=none
 | some v,o=> ∃v',RV ρ v v'∧o=some v'
theorem IC {o o':Option V} {d n:Int} (h:SC o d=some n) (ho:kN ρ o o') {K:Int→Prop} (U:K n):Oh o' d K:=by
 unfold SC at h;split at h
 ·cases h;cases ho;exact U
 ·obtain⟨v',h1,rfl⟩:=ho
  simp only[RV]at h1;subst h1;cases h;exact U
 ·cases h
def NV (s : St) (sz:Nat) (x:V) (lo hi mx:Option V):Option (V×St):=
 match x with
 | .l es full=>match SC hi (.ofNat es.length),SC lo 0 with
   | some h,some l=>bif es.all (fun e=>Nat.beq e.length sz)&&(Mv 0 l&&(Mv l h&&Mv h (.ofNat es.length)))then
    match mx with
    | none=>some (.l ((es.take h.toNat).drop l.toNat) (full&&XY h (.ofNat es.length)),s)
    | some (.i _ m)=>bif XY m h then some (.l ((es.take h.toNat).drop l.toNat) true,s)else none
    | _=>none
     else none
   | _,_=>none
 | .sl n len _=>match SC hi (.ofNat len),SC lo 0 with
   | some h,some l=>bif Mv 0 l&&(Mv l h&&Mv h (.ofNat len))then
    match mx with
    | none=>some (.sv n sz l.toNat (h - l).toNat,s)
    | some (.i _ m)=>match s.t.get n with
      | some (.arr s1 es)=>bif XY m h&&(XY h (.ofNat len)&&(XY l 0&&(Nat.beq s1 sz&&Nat.beq len es.length)))then Tr.put none BA s.t n fun t=>St.new ⟨s.nx,t⟩ (.arr s1 es) fun i s'=>some (.sl i len 0,s')else none
      | _=>none
    | _=>none
     else none
   | _,_=>none
 | .sv n s1 off len=>match SC hi (.ofNat len),SC lo 0,mx with
   | some h,some l,none=>bif Nat.beq s1 sz&&(Mv 0 l&&(Mv l h&&Mv h (.ofNat len)))then some (.sv n sz (off+l.toNat) (h - l).toNat,s)else none
   | _,_,_=>none
 | _=>none
theorem Qm {a b:Int} (h:XY a b=true):a=b:=by rw[Qn]at h;simpa using h
theorem Yd {s s':St} (hs:SR P ρ s σ) {sz:Nat} {x x' v:V} {lo hi mx lo' hi' mx':Option V} (h:NV s sz x lo hi mx=some (v,s')) (hx:RV ρ x x') (h1:kN ρ lo lo') (h2:kN ρ hi hi') (h3:kN ρ mx mx') {K:V→AG→Prop}
 (U: ∀ρ' v' σ',ρ.le ρ'→RV ρ' v v'→SR P ρ' s' σ'→K v' σ'):Ac σ sz x' lo' hi' mx' K:=by
 unfold NV at h;split at h
 ·rename_i es full
  obtain⟨es',g1,rfl⟩:=hx;have g1:=Eu.1 g1;split at h
  ·rename_i hh ll e1 e2
   obtain⟨h4,h5⟩:=AT h;simp only[BO]at h4;refine⟨Ms h4.1 g1,?_⟩;rw[g1.len];refine IC e1 h2 ?_;refine IC e2 h1 ?_;refine⟨Dv h4.2.1,Dv h4.2.2.1,Dv h4.2.2.2,?_⟩;split at h5
   ·cases h3
    cases h5;refine U ρ _ _ (.refl _) ?_ hs;simp only[RV];refine⟨_,Eu.2 ((g1.take _).drop _),?_⟩;congr 1;rw[Qn];congr 1
   ·obtain⟨v',q1,rfl⟩:=h3
    simp only[RV]at q1;subst q1;obtain⟨h6,h7⟩:=AT h5;cases h7;exact⟨Qm h6,U ρ _ _ (.refl _) (by simp only[RV];exact⟨_,Eu.2 ((g1.take _).drop _),rfl⟩) hs⟩
   ·cases h5
  ·cases h
 ·rename_i n len
  obtain⟨m,g1,rfl⟩:=hx;split at h
  ·rename_i hh ll e1 e2
   obtain⟨h4,h5⟩:=AT h;simp only[BO]at h4;simp only[Ac];refine IC e1 h2 ?_;refine IC e2 h1 ?_;refine⟨Dv h4.1,Dv h4.2.1,Dv h4.2.2,?_⟩;split at h5
   ·cases h3
    cases h5;exact U ρ _ _ (.refl _) (by simp only[RV];exact⟨m,g1,rfl⟩) hs
   ·obtain⟨v',q1,rfl⟩:=h3
    simp only[RV]at q1;subst q1;split at h5
    ·rename_i s1 es hg
     obtain⟨o',g2,es',g3,rfl⟩:=hs.at hg g1;obtain⟨h6,h7⟩:=AT h5;simp only[BO]at h6;rw[Tr.put_eq]at h7;obtain⟨h8,h9⟩:=St.HC h7;cases h9;simp only[g2];have h10:=Ci h6.2.2.2.2;refine⟨Qm h6.1,Qm h6.2.1,Qm h6.2.2.1,Ci h6.2.2.2.1,trivial,by rw[g3.len];exact h10,.inr ?_⟩;obtain⟨ρ',q1,q2,q3⟩:=(hs.del hg g1).new h8 (DI σ m.1) n (o:= .arr s1 es) (o':= .arr s1 es' n) ⟨es',g3,rfl⟩
     have e:Gl.BI (Gl.del σ m.1) m.1 (.arr s1 es' n)=Gl.BI σ m.1 (.arr s1 es' n):=by
      funext k;by_cases hk:k=m.1
      ·simp[Gl.BI,hk]
      ·simp[Gl.BI,Gl.del,hk]
     rw[e]at q3;exact U ρ' _ _ q1 (by simp only[RV];exact⟨_,q2,rfl⟩) q3
    ·cases h5
   ·cases h5
  ·cases h
 ·obtain⟨m,g1,rfl⟩:=hx
  split at h
  ·rename_i hh ll e1 e2
   cases h3;obtain⟨h4,h5⟩:=AT h;simp only[BO]at h4;cases h5;simp only[Ac];refine IC e1 h2 ?_;refine IC e2 h1 ?_;exact⟨Dv h4.2.1,Dv h4.2.2.1,Dv h4.2.2.2,Ci h4.1,trivial,U ρ _ _ (.refl _) (by simp only[RV];exact⟨m,g1,rfl⟩) hs⟩
  ·cases h
 ·cases h
theorem Ks: ∀ {cs ds:List V} {t:Bool},Bn cs ds=some t→BK cs=true∧BK ds=true
 | [],[],_,_=>⟨rfl,rfl⟩
 | x ::xs,y::ys,t,h=>by
   cases x<;>cases y<;>simp only[Bn]at h<;>first|cases h|skip
   split at h
   ·obtain⟨a,h1,_⟩:=Ag h
    obtain⟨h2,h3⟩:=Ks h1;exact⟨by simp[BK,Aq,h2],by simp[BK,Aq,h3]⟩
   ·cases h
 | [],_::_,_,h=>by simp[Bn]at h
 | x::xs,[],_,h=>by cases x<;>simp[Bn]at h
theorem dL {cs cs':List V} (h:Jl ρ cs cs') (hp:BK cs=true):cs'=cs:=RL.fn cs _ _ (Ba.2 h) (RL.pure cs hp)
def Za (len:Nat) (neg:Bool) (x y:V):Option V:=
 match x,y with
 | .a cs,.a ds=>bif Nat.beq cs.length len then(match Bn cs ds with|some t=>some (.b (bif neg then !t else t))|none=>none)else none
 | _,_=>none
theorem jr {len:Nat} {neg:Bool} {x x' y y' v:V} (h:Za len neg x y=some v) (hx:RV ρ x x') (hy:RV ρ y y') {K:V→Prop} (U: ∀v',RV ρ v v'→K v'):QR len neg x' y' K:=by
 unfold Za at h;split at h
 ·rename_i cs ds
  obtain⟨cs',g1,rfl⟩:=hx;obtain⟨ds',g2,rfl⟩:=hy;obtain⟨h1,h2⟩:=AT h;split at h2
  ·rename_i t ht
   cases h2;obtain⟨p1,p2⟩:=Ks ht;have e1:=dL (Ba.1 g1) p1;have e2:=dL (Ba.1 g2) p2;subst e1;subst e2;simp only[QR,h1,ht];exact U _ (by simp only[RV])
  ·cases h2
 ·cases h
def ZZ (kind:Nat) (neg:Bool) (x:V):Option V:=
 match kind,x with
 | 0,.pn=>some (.b (!neg))
 | 0,.rp _=>some (.b neg)
 | 0,.p _ _=>some (.b neg)
 | 0,.pe _ _ _ _=>some (.b neg)
 | 1,.sl _ _ _=>some (.b neg)
 | 1,.l (_::_) _=>some (.b neg)
 | 2,.DN=>some (.b (!neg))
 | 2,.ET _ _=>some (.b neg)
 | 3,.mn=>some (.b (!neg))
 | 3,.m _=>some (.b neg)
 | 4,.GP=>some (.b (!neg))
 | 4,.f _ _ _=>some (.b neg)
 | _,_=>none
theorem jq {kind:Nat} {neg:Bool} {x x' v:V} (h:ZZ kind neg x=some v) (hx:RV ρ x x') {K:V→Prop} (U: ∀v',RV ρ v v'→K v'):Hj kind neg x' K:=by
 unfold ZZ at h;split at h
 ·simp only[RV]at hx;subst hx;cases h;exact U _ (by simp only[RV])
 ·obtain⟨_,_,rfl⟩:=hx;cases h;exact U _ (by simp only[RV])
 ·obtain⟨_,_,rfl⟩:=hx;cases h;exact U _ (by simp only[RV])
 ·obtain⟨_,_,rfl⟩:=hx;cases h;exact U _ (by simp only[RV])
 ·obtain⟨_,_,rfl⟩:=hx;cases h;exact U _ (by simp only[RV])
 ·obtain⟨es',g1,rfl⟩:=hx
  cases h;obtain⟨y,ys,_,_,rfl⟩:=Eu.1 g1;exact⟨fun e=>(by cases e),fun _=>U _ (by simp only[RV])⟩
 ·simp only[RV]at hx;subst hx;cases h;exact U _ (by simp only[RV])
 ·obtain⟨_,_,rfl⟩:=hx;cases h;exact U _ (by simp only[RV])
 ·simp only[RV]at hx;subst hx;cases h;exact U _ (by simp only[RV])
 ·obtain⟨_,_,rfl⟩:=hx;cases h;exact U _ (by simp only[RV])
 ·simp only[RV]at hx;subst hx;cases h;exact U _ (by simp only[RV])
 ·obtain⟨_,_,_,_,_,_,rfl⟩:=hx;cases h;exact U _ (by simp only[RV])
 ·cases h
def H0 (s:St) (sz:Nat) (z:List V) (x y:V):Option (V×St):=
 match x,y with
 | .i _ n,.i _ m=>bif Mv 0 n&&(Mv n m&&(Nat.ble m.toNat 1073741824&&BK z))then s.new (.arr sz (List.replicate n.toNat z)) fun i s'=>some (.sl i n.toNat 0,s')else none
 | _,_=>none
theorem T6 {s s':St} (hs:SR P ρ s σ) {sz:Nat} {z:List V} {x x' y y' v:V} (h:H0 s sz z x y=some (v,s')) (hx:RV ρ x x') (hy:RV ρ y y') {K:V→AG→Prop}
 (U: ∀ρ' v' σ',ρ.le ρ'→RV ρ' v v'→SR P ρ' s' σ'→K v' σ'):AR σ sz z x' y' K:=by
 unfold H0 at h;split at h
 ·rename_i k1 n k2 m
  simp only[RV]at hx hy;subst hx;subst hy;obtain⟨h1,h2⟩:=AT h;simp only[BO]at h1;obtain⟨h3,h4⟩:=St.HC h2;cases h4;have h5:=Dv h1.1;have h7:=Dv h1.2.1;have h6:m.toNat≤1073741824:=Nat.le_of_ble_eq_true h1.2.2.1;refine⟨h5,h7,by omega,fun id hid=>?_⟩;obtain⟨ρ',q1,q2,q3⟩:=hs.new h3 hid m.toNat (o:= .arr sz (List.replicate n.toNat z)) (o':= .arr sz (List.replicate n.toNat z) m.toNat) ⟨_,F2.rep (Ba.1 (RL.pure z h1.2.2.2)) _,rfl⟩;exact U ρ' _ _ q1 (by simp only[RV];exact⟨_,q2,rfl⟩) q3
 ·cases h
theorem MA: ∀ {l:List IntKind} {cs:List V},DP l cs=true→BK cs=true
 | [],[],_=>rfl
 | q::l,x::cs,h=>by
   cases x<;>simp only[DP]at h<;>first|cases h|skip
   simp only[BO]at h;simp[BK,Aq,MA h.2]
 | [],_::_,h=>by simp[DP]at h
 | _::_,[],h=>by simp[DP]at h
theorem Ee {ks:KS} {v:V} (h:BM ks v=true):Aq v=true:=by
 unfold BM at h;split at h
 ·rfl
 ·exact MA h
 ·rfl
 ·cases h
theorem Pg {ks:KS} {key:V}: ∀ {kvs kvs':List (V×V)},(kvs.all fun kv=>BM ks kv.1)=true→F2 (RK ρ) kvs kvs'→kN ρ (CR key kvs) (CR key kvs')
 | [],_,_,h=>by cases h;rfl
 | (k,v)::r,_,ha,⟨y,ys,h1,h2,e⟩=>by
   subst e;obtain⟨k',v'⟩:=y;simp only[List.all_cons,BO]at ha;have e1:k'=k:=RV.dC h1.1 (Ee ha.1);subst e1;simp only[CR];cases DX key k' with
   | true=>exact⟨v',h1.2,rfl⟩
   | false=>exact Pg ha.2 h2
theorem S6 {ks:KS} {key x x':V} (hp:Aq key=true) (hx:RV ρ x x'): ∀ {kvs kvs':List (V×V)},(kvs.all fun kv=>BM ks kv.1)=true→F2 (RK ρ) kvs kvs'→F2 (RK ρ) (DW key x kvs) (DW key x' kvs')
 | [],_,_,h=>by cases h;exact F2.cons ⟨RV.pure key hp,hx⟩ F2.nil
 | (k,v)::r,_,ha,⟨y,ys,h1,h2,e⟩=>by
   subst e;obtain⟨k',v'⟩:=y;simp only[List.all_cons,BO]at ha;have e1:k'=k:=RV.dC h1.1 (Ee ha.1);subst e1;simp only[DW];cases DX key k' with
   | true=>exact F2.cons ⟨RV.pure key hp,hx⟩ h2
   | false=>exact F2.cons h1 (S6 hp hx ha.2 h2)
theorem Ws {ks:KS} {kvs kvs':List (V×V)} (ha:(kvs.all fun kv=>BM ks kv.1)=true) (h:F2 (RK ρ) kvs kvs'): ∀kv∈kvs',BM ks kv.1=true:=fun kv hm=>by
 obtain⟨u,hu,hr⟩:=F2.mem h hm;rw[GL]at ha;have h1:=ha u hu;rw[RV.dC hr.1 (Ee h1)];exact h1
def J6 (s:St) (ks:KS) (z:V) (ok:Bool) (vm vk:V):Option V:=
 bif BM ks vk&&Aq z then
  match vm with
  | .m n=>match s.t.get n with
    | some (.map kvs)=>bif kvs.all (fun kv=>BM ks kv.1)then some (found z ok (CR vk kvs))else none
    | _=>none
  | .mn=>some (found z ok none)
  | _=>none
 else none
theorem TJ {z:V} {ok:Bool} (hz:Aq z=true) {o o':Option V} (h:kN ρ o o'):RV ρ (found z ok o) (found z ok o'):=by
 cases o with
 | none=>
   cases h;cases ok with
   | true=>simp only[found,cond_true,RV];exact⟨_,Ba.2 (F2.cons (RV.pure z hz) (F2.cons (RV.pure _ rfl) F2.nil)),rfl⟩
   | false=>exact RV.pure z hz
 | some v=>
   obtain⟨v',h1,rfl⟩:=h;cases ok with
   | true=>simp only[found,cond_true,RV];exact⟨_,Ba.2 (F2.cons h1 (F2.cons (RV.pure _ rfl) F2.nil)),rfl⟩
   | false=>exact h1
theorem Vp {s:St} (hs:SR P ρ s σ) {ks:KS} {z:V} {ok:Bool} {vm vm' vk vk' v:V} (h:J6 s ks z ok vm vk=some v) (hm:RV ρ vm vm') (hk:RV ρ vk vk') {K:V→Prop} (U: ∀v',RV ρ v v'→K v'):AW σ ks z ok vm' vk' K:=by
 unfold J6 at h;obtain⟨h1,h2⟩:=AT h;simp only[BO]at h1;have e:=RV.dC hk (Ee h1.1);subst e;refine⟨h1.1,?_⟩;split at h2
 ·obtain⟨m,g1,rfl⟩:=hm
  split at h2
  ·rename_i kvs hg
   obtain⟨o',g2,kvs',g3,rfl⟩:=hs.at hg g1;obtain⟨h3,h4⟩:=AT h2;cases h4;simp only[g2];exact⟨Ws h3 g3,U _ (TJ h1.2 (Pg h3 g3))⟩
  ·cases h2
 ·simp only[RV]at hm
  subst hm;cases h2;exact U _ (TJ h1.2 rfl)
 ·cases h2
def J5 (s:St) (ks:KS) (vm vk vv:V):Option St:=
 bif BM ks vk then
  match vm with
  | .m n=>match s.t.get n with
    | some (.map kvs)=>bif kvs.all (fun kv=>BM ks kv.1)then Tr.put (some (.map (DW vk vv kvs))) BA s.t n fun t=>some ⟨s.nx,t⟩else none
    | _=>none
  | _=>none
 else none
theorem Vo {s s':St} (hs:SR P ρ s σ) {ks:KS} {vm vm' vk vk' vv vv':V} (h:J5 s ks vm vk vv=some s') (hm:RV ρ vm vm') (hk:RV ρ vk vk') (hv:RV ρ vv vv') {K:AG→Prop} (U: ∀σ',SR P ρ s' σ'→K σ') :
 Aa σ ks vm' vk' vv' K:=by
 unfold J5 at h;obtain⟨h1,h2⟩:=AT h;have e:=RV.dC hk (Ee h1);subst e;refine⟨h1,?_⟩;split at h2
 ·obtain⟨m,g1,rfl⟩:=hm
  split at h2
  ·rename_i kvs hg
   obtain⟨o',g2,kvs',g3,rfl⟩:=hs.at hg g1;obtain⟨h3,h4⟩:=AT h2;rw[Tr.put_eq]at h4;cases h4;simp only[g2];exact⟨Ws h3 g3,U _ (hs.BI hg g1 ⟨_,S6 (Ee h1) hv h3 g3,rfl⟩)⟩
  ·cases h2
 ·cases h2
def LG (env:Env):List V→List (Nat×Nat×Bj)→Option (List V)
 | cs,[]=>some cs
 | cs,(off,sz,x)::r=>
   match DL env x with
   | some v=>match cellsOf v with
     | some vc=>bif Nat.beq vc.length sz&&Nat.ble (off+sz) cs.length then LG env (putAt cs off vc) r else none
     | none=>none
   | none=>none
theorem P0 (he:RE ρ env env₀): ∀ {ps:List (Nat×Nat×Bj)} {cs cs' cs1:List V},LG env cs ps=some cs1→Jl ρ cs cs'→ ∃cs1',Iw env₀ cs' ps=some cs1'∧Jl ρ cs1 cs1'
 | [],_,cs',_,h,hc=>by cases h;exact⟨cs',rfl,hc⟩
 | (off,sz,x)::r,cs,cs',cs1,h,hc=>by
   simp only[LG]at h;split at h
   ·rename_i v hv
    split at h
    ·rename_i vc hvc
     obtain⟨h1,h2⟩:=AT h;obtain⟨v',e1,e2⟩:=Ao he hv;obtain⟨vc',e3,e4⟩:=Fj hvc e2;obtain⟨c,e5,e6⟩:=P0 he h2 (KK hc e4);refine⟨c,?_,e6⟩;simp only[Iw,e1,e3];rw[e4.len,hc.len,h1];exact e5
    ·cases h
   ·cases h
def LH (env:Env) (sz:Nat):List (List V)→List (Nat×Bj)→Option (List (List V))
 | es,[]=>some es
 | es,(i,x)::r=>
   match DL env x with
   | some v=>match cellsOf v with
     | some vc=>bif Nat.beq vc.length sz&&Nat.blt i es.length then LH env sz (es.set i vc) r else none
     | none=>none
   | none=>none
theorem P1 (he:RE ρ env env₀) {sz:Nat}: ∀ {ps:List (Nat×Bj)} {cs cs' cs1:List (List V)},LH env sz cs ps=some cs1→ZA ρ cs cs'→ ∃cs1',Hn env₀ sz cs' ps=some cs1'∧ZA ρ cs1 cs1'
 | [],_,cs',_,h,hc=>by cases h;exact⟨cs',rfl,hc⟩
 | (i, x)::r,cs,cs',cs1,h,hc=>by
   simp only[LH]at h;split at h
   ·rename_i v hv
    split at h
    ·rename_i vc hvc
     obtain⟨h1,h2⟩:=AT h;obtain⟨v',e1,e2⟩:=Ao he hv;obtain⟨vc',e3,e4⟩:=Fj hvc e2;obtain⟨c,e5,e6⟩:=P1 he h2 (hc.set i e4);refine⟨c,?_,e6⟩;simp only[Hn,e1,e3];rw[e4.len,hc.len,h1];exact e5
    ·cases h
   ·cases h
end Go.Gl
