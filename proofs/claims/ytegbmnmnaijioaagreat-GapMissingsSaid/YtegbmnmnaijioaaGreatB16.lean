import Derived.Test.YtegbmnmnaijioaaGreatB15
set_option linter.all false
set_option linter.defProp false
noncomputable section
namespace Go.Gl
variable {P:Program} {ρ ρ':Ren} {σ:AH} {env env₀:Env}
structure St where
 nx:Nat
 t:Tr EO
def RK (ρ:Ren) (a b:V×V):Prop:=RV ρ a.1 b.1∧RV ρ a.2 b.2
def RBe (ρ:Ren) (a b:Nat×V):Prop:=b.1=a.1∧RV ρ a.2 b.2
abbrev RE (ρ:Ren):Env→Env→Prop:=F2 (RBe ρ)
abbrev Kb (ρ:Ren):List V→List V→Prop:=F2 (RV ρ)
abbrev bI (ρ:Ren):List (List V)→List (List V)→Prop:=F2 (F2 (RV ρ))
def RO (P:Program) (ρ:Ren) (cap:Nat):EO→O→Prop
 | .cs vs,o=> ∃vs',Kb ρ vs vs'∧o= .cs vs'
 | .arr sz es,o=> ∃es',bI ρ es es'∧o= .arr sz es' cap
 | .map kvs,o=> ∃kvs',F2 (RK ρ) kvs kvs'∧o= .map kvs'
 | .loop st env ps a b,o=> ∃env',RE ρ env env'∧o= .loop st env' (B4 P ps a b)
def Ls:Nat:=1000000000
structure SR (P:Program) (ρ:Ren) (s:St) (σ:AH):Prop where
 get: ∀i o,s.t.get i=some o→ ∃m,ρ i=some m∧ ∃o',σ m.1=some o'∧RO P ρ m.2 o o'
 inj: ∀i j o o' m m',s.t.get i=some o→s.t.get j=some o'→ρ i=some m→ρ j=some m'→m.1=m'.1→i=j
 mI: ∀i,s.nx≤i→ρ i=none
 lim:s.nx≤Ls+1
def Kb.mono (h:ρ.le ρ') {a b:List V} (k:Kb ρ a b):Kb ρ' a b:=F2.mono (fun _ _=>RV.mono h _ _) k
def bI.mono (h:ρ.le ρ') {a b:List (List V)} (k:bI ρ a b):bI ρ' a b:=F2.mono (fun _ _=>Kb.mono h) k
def RE.mono (h:ρ.le ρ') {a b:Env} (k:RE ρ a b):RE ρ' a b:=F2.mono (fun _ _ k=>⟨k.1,RV.mono h _ _ k.2⟩) k
def RO.mono (h:ρ.le ρ') {c:Nat} {a:EO} {b:O} (k:RO P ρ c a b):RO P ρ' c a b:=by
 cases a with
 | cs vs=>obtain⟨v,h1,h2⟩:=k;exact⟨v,h1.mono h,h2⟩
 | arr sz es=>obtain⟨v,h1,h2⟩:=k;exact⟨v,h1.mono h,h2⟩
 | map kvs=>obtain⟨v,h1,h2⟩:=k;exact⟨v,F2.mono (fun _ _ k=>⟨RV.mono h _ _ k.1,RV.mono h _ _ k.2⟩) h1,h2⟩
 | loop st env ps a b=>obtain⟨v,h1,h2⟩:=k;exact⟨v,h1.mono h,h2⟩
def ZL {k:Nat} (h:k≤Ls):k+1<2 ^ BE:=by simp only[Ls,BE]at *;omega
def SR.lt {s:St} (hs:SR P ρ s σ) {i:Nat} {m:Nat×Nat} (h:ρ i=some m):i≤Ls:=by
 have h1:=hs.mI i;have h2:=hs.lim;rcases Nat.lt_or_ge i s.nx with h3|h3
 ·omega
 ·rw[h1 h3]at h;cases h
def SR.new {s:St} (hs:SR P ρ s σ) (hl:s.nx≤Ls) {n:Nat} (hn:σ n=none) (cap:Nat) {o:EO} {o':O} (ho:RO P ρ cap o o') :
    ∃ρ',ρ.le ρ'∧ρ' s.nx=some (n,cap)∧SR P ρ' ⟨s.nx+1,Tr.set (some o) BE s.t s.nx⟩ (Az σ n o'):=by
 have hle:ρ.le (fun i=>if i=s.nx then some (n,cap)else ρ i):=fun i m h=>by
  have:i≠s.nx:=fun e=>by rw[hs.mI i (by omega)]at h;cases h
  simp[this,h]
 refine⟨_,hle,by simp,⟨fun i o1 h1=>?_,fun i j o1 o2 m m' h1 h2 h3 h4 h5=>?_,fun i hi=>?_,by show s.nx+1≤_;omega⟩⟩
 ·rw[Tr.Dv _ _ _ (ZL hl)]at h1
  by_cases e:i=s.nx
  ·rw[if_pos e]at h1
   cases h1;exact⟨(n,cap),by simp[e],o',C6 _ _ _,ho.mono hle⟩
  ·rw[if_neg e]at h1
   obtain⟨m,h2,o2,h3,h4⟩:=hs.get i o1 h1;refine⟨m,by simp[e,h2],o2,?_,h4.mono hle⟩;rw[CZ _ _ (fun e'=>by rw[e',hn]at h3;cases h3)];exact h3
 ·rw[Tr.Dv _ _ _ (ZL hl)]at h1 h2
  by_cases e:i=s.nx<;>by_cases e':j=s.nx
  ·omega
  ·exfalso
   rw[if_neg e']at h2;simp only[e,if_true,I9]at h3;simp only[e',if_false]at h4;obtain⟨m2,h6,o3,h7,_⟩:=hs.get j o2 h2;rw[h6]at h4;cases h4;rw[←h5,←h3,hn]at h7;cases h7
  ·exfalso
   rw[if_neg e]at h1;simp only[e',if_true,I9]at h4;simp only[e,if_false]at h3;obtain⟨m2,h6,o3,h7,_⟩:=hs.get i o1 h1;rw[h6]at h3;cases h3;rw[h5,←h4,hn]at h7;cases h7
  ·rw[if_neg e]at h1
   rw[if_neg e']at h2;simp only[e,if_false]at h3;simp only[e',if_false]at h4;exact hs.inj i j o1 o2 m m' h1 h2 h3 h4 h5
 ·have hi':s.nx+1≤i:=hi
  have:i≠s.nx:=by omega
  simp only[this,if_false];exact hs.mI i (by omega)
def SR.Az {s:St} (hs:SR P ρ s σ) {i:Nat} {m:Nat×Nat} {o:EO} (hi:s.t.get i=some o) (hm:ρ i=some m) {o1:EO} {o1':O} (ho:RO P ρ m.2 o1 o1') :
    SR P ρ ⟨s.nx,Tr.set (some o1) BE s.t i⟩ (Gl.Az σ m.1 o1'):=by
 have hl:=ZL (hs.lt hm);refine⟨fun j o2 h1=>?_,fun j j' o2 o3 m1 m2 h1 h2 h3 h4 h5=>?_,hs.mI,hs.lim⟩
 ·rw[Tr.Dv _ _ _ hl]at h1
  by_cases e:j=i
  ·subst e
   rw[if_pos rfl]at h1;cases h1;exact⟨m,hm,o1',C6 _ _ _,ho⟩
  ·rw[if_neg e]at h1
   obtain⟨m1,h2,o3,h3,h4⟩:=hs.get j o2 h1;refine⟨m1,h2,o3,?_,h4⟩;rw[CZ _ _ (fun e'=>e (hs.inj j i o2 o m1 m h1 hi h2 hm e'))];exact h3
 ·rw[Tr.Dv _ _ _ hl]at h1 h2
  have g1: ∃q,s.t.get j=some q:=by
   by_cases e:j=i
   ·exact⟨o,e ▸ hi⟩
   ·rw[if_neg e]at h1;exact⟨_,h1⟩
  have g2: ∃q,s.t.get j'=some q:=by
   by_cases e:j'=i
   ·exact⟨o,e ▸ hi⟩
   ·rw[if_neg e]at h2;exact⟨_,h2⟩
  obtain⟨q1,g1⟩:=g1;obtain⟨q2,g2⟩:=g2;exact hs.inj j j' q1 q2 m1 m2 g1 g2 h3 h4 h5
def SR.del {s:St} (hs:SR P ρ s σ) {i:Nat} {m:Nat×Nat} {o:EO} (hi:s.t.get i=some o) (hm:ρ i=some m) :
    SR P ρ ⟨s.nx,Tr.set none BE s.t i⟩ (Gl.del σ m.1):=by
 have hl:=ZL (hs.lt hm)
 have sub: ∀j q,(Tr.set none BE s.t i).get j=some q→j≠i∧s.t.get j=some q:=fun j q h=>by
  rw[Tr.Dv _ _ _ hl]at h;by_cases e:j=i
  ·rw[if_pos e]at h;cases h
  ·rw[if_neg e]at h;exact⟨e,h⟩
 refine⟨fun j o2 h1=>?_,fun j j' o2 o3 m1 m2 h1 h2 h3 h4 h5=>?_,hs.mI,hs.lim⟩
 ·obtain⟨e,h1⟩:=sub j o2 h1
  obtain⟨m1,h2,o3,h3,h4⟩:=hs.get j o2 h1;refine⟨m1,h2,o3,?_,h4⟩;have:m1.1≠m.1:=fun e'=>e (hs.inj j i o2 o m1 m h1 hi h2 hm e')
  simp[Gl.del,this,h3]
 ·exact hs.inj j j' o2 o3 m1 m2 (sub _ _ h1).2 (sub _ _ h2).2 h3 h4 h5
def SR.at {s:St} (hs:SR P ρ s σ) {i:Nat} {m:Nat×Nat} {o:EO} (hi:s.t.get i=some o) (hm:ρ i=some m): ∃o',σ m.1=some o'∧RO P ρ m.2 o o':=by
 obtain⟨m',h1,h2⟩:=hs.get i o hi;rw[hm]at h1;cases h1;exact h2
def RE.get: ∀ {env env₀:Env},RE ρ env env₀→ ∀ {k:Nat} {v:V},Gl.get k env=some v→ ∃v',Gl.get k env₀=some v'∧RV ρ v v'
 | (j,u)::r,_,⟨y,ys,h1,h2,e⟩,k,v,h=>by
   subst e;obtain⟨j',u'⟩:=y;have e1:j'=j:=h1.1;subst e1;simp only[Gl.get]at h ⊢;cases hb:Nat.beq j' k with
   | true=>rw[hb]at h;simp only[cond_true]at h ⊢;cases h;exact⟨u',rfl,h1.2⟩
   | false=>rw[hb]at h;simp only[cond_false]at h ⊢;exact RE.get h2 h
def RE.sx: ∀ {env env₀:Env},RE ρ env env₀→ ∀ {k:Nat},Gl.get k env=none→Gl.get k env₀=none
 | [],_,h,k,_=>by cases h;rfl
 | (j,u)::r,_,⟨y,ys,h1,h2,e⟩,k,h=>by
   subst e;obtain⟨j',u'⟩:=y;have e1:j'=j:=h1.1;subst e1;simp only[Gl.get]at h ⊢;cases hb:Nat.beq j' k with
   | true=>rw[hb]at h;simp only[cond_true]at h;cases h
   | false=>rw[hb]at h;simp only[cond_false]at h ⊢;exact RE.sx h2 h
def DM (env:Env):Bj→Option V
 | .t n=>get n env
 | .c v=>bif BL v then some v else none
def Ax (he:RE ρ env env₀) {x:Bj} {v:V} (h:DM env x=some v): ∃v',ev env₀ x=some v'∧RV ρ v v':=by
 cases x with
 | t n=>exact he.get h
 | c u=>
   simp only[DM]at h;cases hb:BL u with
   | true=>rw[hb]at h;cases h;exact⟨_,rfl,RV.pure _ hb⟩
   | false=>rw[hb]at h;cases h
def NT (env:Env):List Bj→Option (List V)
 | []=>some []
 | x ::r=>match DM env x with
   | some v=>match NT env r with
     | some vs=>some (v::vs)
     | none=>none
   | none=>none
def Ht (he:RE ρ env env₀): ∀ {l:List Bj} {vs:List V},NT env l=some vs→ ∃vs',TU env₀ l=some vs'∧Kb ρ vs vs'
 | [],_,h=>by cases h;exact⟨[],rfl,rfl⟩
 | x ::r,vs,h=>by
   simp only[NT]at h;split at h
   ·rename_i v hv
    split at h
    ·rename_i us hu
     cases h;obtain⟨v',h1,h2⟩:=Ax he hv;obtain⟨vs',h3,h4⟩:=Ht he hu;exact⟨v'::vs',by simp only[TU,h1,h3],F2.cons h2 h4⟩
    ·cases h
   ·cases h
def IB (k:IntKind) (n:Int):Int:=
 match k,n with
 | .i64,.ofNat m=>bif Nat.ble m 9223372036854775807 then .ofNat m else IntKind.i64.wrap (.ofNat m)
 | .u64,.ofNat m=>bif Nat.ble m 18446744073709551615 then .ofNat m else IntKind.u64.wrap (.ofNat m)
 | k,n=>k.wrap n
def wrap_u64 {n:Int} (h1:0≤n) (h2:n≤18446744073709551615):IntKind.u64.wrap n=n:=by
 have e:IntKind.u64.wrap n=n % 18446744073709551616:=by simp[IntKind.wrap,IntKind.bits,IntKind.signed]
 rw[e];omega
def ofNat_eq (m:Nat):Int.ofNat m=(m:Int):=rfl
def Iw (k:IntKind) (n:Int):IB k n=k.wrap n:=by
 unfold IB;split
 ·rename_i m
  cases h:Nat.ble m 9223372036854775807 with
  | true=>
    have h':m≤9223372036854775807:=by rw[Nat.ble_eq]at h;exact h
    rw[cond_true,ofNat_eq];exact(wrap64 (by omega) (by omega)).symm
  | false=>rfl
 ·rename_i m
  cases h:Nat.ble m 18446744073709551615 with
  | true=>
    have h':m≤18446744073709551615:=by rw[Nat.ble_eq]at h;exact h
    rw[cond_true,ofNat_eq];exact(wrap_u64 (by omega) (by omega)).symm
  | false=>rfl
 ·rfl
def Ln (a b:Int):Bool:=
 match a,b with
 | .ofNat m,.ofNat n=>Nat.ble (m+1) n
 | .negSucc _,.ofNat _=>true
 | .ofNat _,.negSucc _=>false
 | .negSucc m,.negSucc n=>Nat.ble (n+1) m
def OS (a b:Int):Ln a b=decide (a<b):=by
 cases a<;>cases b<;>simp only[Ln]
 ·rename_i m n
  rw[JZ,Nat.ble_eq,DZ];simp;omega
 ·rename_i m n
  symm;rw[decide_eq_false_iff_not];simp;omega
 ·rename_i m n
  symm;rw[DZ];simp;omega
 ·rename_i m n
  rw[JZ,Nat.ble_eq,DZ];omega
def N0 (a b:Int):Bool:= !Ln b a
def cg (a b:Int):N0 a b=decide (a≤b):=by
 rw[N0,OS,JZ];simp
def ZD (a b:Int):Bool:=
 match a,b with
 | .ofNat m,.ofNat n=>Nat.beq m n
 | .negSucc m,.negSucc n=>Nat.beq m n
 | _,_=>false
def SI (a b:Int):ZD a b=(a==b):=by
 cases a<;>cases b<;>simp only[ZD]
 ·rename_i m n
  rw[JZ,Nat.beq_eq,D4];exact⟨fun e=>by rw[e],fun e=>by cases e;rfl⟩
 ·rename_i m n
  rw[JZ,D4];exact⟨fun e=>(by cases e),fun e=>by cases e⟩
 ·rename_i m n
  rw[JZ,D4];exact⟨fun e=>(by cases e),fun e=>by cases e⟩
 ·rename_i m n
  rw[JZ,Nat.beq_eq,D4];exact⟨fun e=>by rw[e],fun e=>by cases e;rfl⟩
def EF {a b:Int} (h:N0 a b=true):a≤b:=by rw[cg]at h;exact of_decide_eq_true h
def L4 {a b:Int} (h:Ln a b=true):a<b:=by rw[OS]at h;exact of_decide_eq_true h
def OP (op:BinOp) (k:IntKind) (x y:Int):Int:=
 match k,x,y with
 | .u64,.ofNat a,.ofNat b=>bif Nat.ble a 18446744073709551615&&Nat.ble b 18446744073709551615 then
  match op with
  | .and=> .ofNat (Nat.land a b)
  | .or=> .ofNat (Nat.lor a b)
  | op=>bits op .u64 (.ofNat a) (.ofNat b)
   else bits op .u64 (.ofNat a) (.ofNat b)
 | k,x,y=>bits op k x y
def fl (op:BinOp) (k:IntKind) (x y:Int):OP op k x y=bits op k x y:=by
 unfold OP;split
 ·rename_i a b
  cases h:Nat.ble a 18446744073709551615&&Nat.ble b 18446744073709551615 with
  | false=>rfl
  | true=>
    simp only[BU]at h;have h1:=Nat.le_of_ble_eq_true h.1;have h2:=Nat.le_of_ble_eq_true h.2
    have e1:(BitVec.ofInt 64 (Int.ofNat a)).toNat=a:=by
     rw[show Int.ofNat a=(a:Int) from rfl,BitVec.ofInt_natCast,BitVec.toNat_ofNat];omega
    have e2:(BitVec.ofInt 64 (Int.ofNat b)).toNat=b:=by
     rw[show Int.ofNat b=(b:Int) from rfl,BitVec.ofInt_natCast,BitVec.toNat_ofNat];omega
    simp only[cond_true];split
    ·have e3:bits .and .u64 (Int.ofNat a) (Int.ofNat b)=IntKind.u64.wrap (((BitVec.ofInt 64 (Int.ofNat a))&&&(BitVec.ofInt 64 (Int.ofNat b))).toNat:Int):=rfl
     rw[e3,BitVec.toNat_and,e1,e2];have:a&&&b<2 ^ 64:=Nat.and_lt_two_pow _ (by omega);rw[wrap_u64 (by omega) (by omega)];rfl
    ·have e3:bits .or .u64 (Int.ofNat a) (Int.ofNat b)=IntKind.u64.wrap (((BitVec.ofInt 64 (Int.ofNat a))|||(BitVec.ofInt 64 (Int.ofNat b))).toNat:Int):=rfl
     rw[e3,BitVec.toNat_or,e1,e2];have:a|||b<2 ^ 64:=Nat.or_lt_two_pow (by omega) (by omega)
     rw[wrap_u64 (by omega) (by omega)];rfl
    ·rfl
 ·rfl
def Tq (op:BinOp) (x y:V):Option V:=
 match x,y with
 | .i ka a,.i kb b=>
   match op with
   | .add=>bif decide (ka=kb)then some (.i ka (IB ka (a+b)))else none
   | .sub=>bif decide (ka=kb)then some (.i ka (IB ka (a - b)))else none
   | .mul=>bif decide (ka=kb)then some (.i ka (IB ka (a*b)))else none
   | .quo=>bif decide (ka=kb)&& !ZD b 0 then some (.i ka (IB ka (a.tdiv b)))else none
   | .rem=>bif decide (ka=kb)&& !ZD b 0 then some (.i ka (a.tmod b))else none
   | .eql=>bif decide (ka=kb)then some (.b (ZD a b))else none
   | .neq=>bif decide (ka=kb)then some (.b (!ZD a b))else none
   | .lss=>bif decide (ka=kb)then some (.b (Ln a b))else none
   | .leq=>bif decide (ka=kb)then some (.b (N0 a b))else none
   | .gtr=>bif decide (ka=kb)then some (.b (Ln b a))else none
   | .geq=>bif decide (ka=kb)then some (.b (N0 b a))else none
   | .shl=>bif N0 0 b then some (.i ka (IB ka (a*2 ^ (min b.toNat ka.bits))))else none
   | .shr=>bif N0 0 b then some (.i ka (a.fdiv (2 ^ (min b.toNat ka.bits))))else none
   | op=>bif decide (ka=kb)then some (.i ka (OP op ka a b))else none
 | _,_=>none
def AZ {α:Type} {c:Bool} {x:Option α} {v:α} (h:(bif c then x else none)=some v):c=true∧x=some v:=by
 cases c with
 | true=>exact⟨rfl,h⟩
 | false=>cases h
def jw {op:BinOp} {x y v:V} (h:Tq op x y=some v):BL x=true∧BL y=true∧BL v=true∧ ∀K:V→Prop,K v→Ti op x y K:=by
 unfold Tq at h;split at h
 ·rename_i ka a kb b
  refine⟨rfl,rfl,?_⟩
  cases op<;>simp only at h<;>obtain⟨h1,h2⟩:=AZ h<;>cases h2<;>refine⟨rfl,fun K U=>?_⟩<;>
   (try simp only[BU,DZ,Bool.not_eq_true',SI,beq_eq_false_iff_ne]at h1)<;>
   (try simp only[Iw,OS,cg,SI,fl]at U)<;>simp only[Ti]
  all_goals first
   | exact⟨h1,U⟩
   | exact⟨h1.1,h1.2,U⟩
   | exact⟨EF h1,U⟩
 ·cases h
def GJ {v v':V} {cs:List V} (h:cellsOf v=some cs) (hv:RV ρ v v'): ∃cs',cellsOf v'=some cs'∧Kb ρ cs cs':=by
 cases v with
 | a cs0=>
   cases h;obtain⟨c,h1,rfl⟩:=hv;exact⟨c,rfl,Bd.1 h1⟩
 | t _=>cases h
 | any=>cases h
 | _ =>
   cases h
   have:cellsOf v'=some [v']:=by
    simp only[RV]at hv
    first
     | (rw[hv];rfl)
     | (obtain⟨_,_,hv⟩:=hv;rw[hv];rfl)
     | (obtain⟨_,_,_,_,_,_,hv⟩:=hv;rw[hv];rfl)
   exact⟨[v'],this,F2.cons hv F2.nil⟩
def ie {v v':V} (hv:RV ρ v v'):CE v'=CE v:=by
 cases v<;>simp only[RV]at hv<;>first
  | (rw[hv];done)
  | (obtain⟨_,_,hv⟩:=hv;rw[hv];rfl)
  | (obtain⟨_,_,_,_,_,_,hv⟩:=hv;rw[hv];rfl)
def Yx {vs vs':List V} (h:vs.all CE=true) (hv:Kb ρ vs vs'):vs'.all CE=true:=by
 rw[GP]at *;intro v hm;obtain⟨u,hu,hr⟩:=F2.mem hv hm;rw[ie hr];exact h u hu
def LU {vs vs':List (List V)} (h:(vs.all fun e=>e.all CE)=true) (hv:bI ρ vs vs'): ∀e∈vs',∀v∈e,CE v=true:=by
 rw[GP]at h;intro e he;obtain⟨u,hu,hr⟩:=F2.mem hv he;have:=Yx (h u hu) hr
 rwa [GP]at this
def Ny {sz:Nat} {vs vs':List (List V)} (h:(vs.all fun e=>Nat.beq e.length sz)=true) (hv:bI ρ vs vs'): ∀e∈vs',e.length=sz:=by
 rw[GP]at h;intro e he;obtain⟨u,hu,hr⟩:=F2.mem hv he;rw[hr.len];exact Cu (h u hu)
def LJ: ∀ {vc vc':List V} {cs cs':List V} {off:Nat},Kb ρ cs cs'→Kb ρ vc vc'→Kb ρ (putAt cs off vc) (putAt cs' off vc')
 | [],_,_,_,_,h,h'=>by cases h';exact h
 | _::_,_,_,_,off,h,⟨y,ys,h1,h2,e⟩=>by
   subst e;simp only[putAt];exact LJ (h.set off h1) h2
def Tn (agg:Option Nat) (cs:List V) (off:Nat):Option V:=
 match agg with
 | none=>cs[off]?
 | some n=>bif Nat.ble (off+n) cs.length then some (.a ((cs.drop off).take n))else none
def K7 {agg:Option Nat} {cs cs':List V} {off:Nat} {v:V} (h:Tn agg cs off=some v) (hc:Kb ρ cs cs') {K:V→Prop} (U: ∀v',RV ρ v v'→K v'):cut agg cs' off K:=by
 cases agg with
 | none=>
   obtain⟨y,h1,h2⟩:=hc.get h;simp only[cut,h1];exact U _ h2
 | some n=>
   obtain⟨h1,h2⟩:=AZ h;cases h2;refine⟨by rw[hc.len];exact Nat.le_of_ble_eq_true h1,U _ ?_⟩;simp only[RV];exact⟨_,Bd.2 ((hc.drop off).take n),rfl⟩
def Mz (s:St) (agg:Option Nat) (x:V):Option V:=
 match x with
 | .rp cs=>Tn agg cs 0
 | .p n off=>match s.t.get n with
   | some (.cs vs)=>Tn agg vs off
   | _=>none
 | .pe n sz i off=>match s.t.get n with
   | some (.arr sz' es)=>bif Nat.beq sz sz' then(match es[i]? with|some e=>Tn agg e off|none=>none)else none
   | _=>none
 | _=>none
def U2 {s:St} (hs:SR P ρ s σ) {agg:Option Nat} {x x' v:V} (h:Mz s agg x=some v) (hx:RV ρ x x') {K:V→Prop} (U: ∀v',RV ρ v v'→K v'):AX σ agg x' K:=by
 unfold Mz at h;split at h
 ·obtain⟨c,h1,rfl⟩:=hx
  exact K7 h (Bd.1 h1) U
 ·obtain⟨m,h1,rfl⟩:=hx
  split at h
  ·rename_i vs hg
   obtain⟨o',h2,vs',h3,rfl⟩:=hs.at hg h1;simp only[AX,OF,h2];exact K7 h h3 U
  ·cases h
 ·obtain⟨m,h1,rfl⟩:=hx
  split at h
  ·rename_i es hg
   obtain⟨o',h2,es',h3,rfl⟩:=hs.at hg h1;obtain⟨h4,h5⟩:=AZ h;split at h5
   ·rename_i e he
    obtain⟨e',h6,h7⟩:=h3.get he;simp only[AX,OG,h2,h6];exact⟨Cu h4,K7 h5 h7 U⟩
   ·cases h5
  ·cases h
 ·cases h
def OV (s : St) (sz:Nat) (a x:V):Option St:=
 match cellsOf x with
 | some vc =>bif Nat.beq vc.length sz&&vc.all CE then
  match a with
  | .p n off=>match s.t.get n with
    | some (.cs vs)=>bif Nat.ble (off+sz) vs.length then Tr.put (some (.cs (putAt vs off vc))) BE s.t n fun t=>some ⟨s.nx,t⟩else none
    | _=>none
  | .pe n s' i off=>match s.t.get n with
    | some (.arr s1 es)=>bif Nat.beq s' s1&&Nat.ble (off+sz) s' then
     (match es[i]? with|some e=>Tr.put (some (.arr s1 (es.set i (putAt e off vc)))) BE s.t n fun t=>some ⟨s.nx,t⟩|none=>none)else none
    | _=>none
  | _=>none
   else none
 | none=>none
def aO {s s':St} (hs:SR P ρ s σ) {sz:Nat} {a a' x x':V} (h:OV s sz a x=some s') (ha:RV ρ a a') (hx:RV ρ x x') {K:AH→Prop} (U: ∀σ',SR P ρ s' σ'→K σ'):AU σ sz a' x' K:=by
 unfold OV at h;split at h
 ·rename_i vc hvc
  obtain⟨vc',e1,e2⟩:=GJ hvc hx;obtain⟨h1,h2⟩:=AZ h;simp only[BU]at h1;simp only[AU,e1];refine⟨by rw[e2.len];exact Cu h1.1,Yx h1.2 e2,?_⟩;split at h2
  ·obtain⟨m,g1,rfl⟩:=ha
   split at h2
   ·rename_i vs hg
    obtain⟨o',g2,vs',g3,rfl⟩:=hs.at hg g1;obtain⟨h3,h4⟩:=AZ h2;rw[Tr.put_eq]at h4;cases h4;simp only[g2];exact⟨by rw[g3.len];exact Nat.le_of_ble_eq_true h3,U _ (hs.Az hg g1 ⟨_,LJ g3 e2,rfl⟩)⟩
   ·cases h2
  ·obtain⟨m,g1,rfl⟩:=ha
   split at h2
   ·rename_i es hg
    obtain⟨o',g2,vs',g3,rfl⟩:=hs.at hg g1;obtain⟨h3,h4⟩:=AZ h2;simp only[BU]at h3;split at h4
    ·rename_i e he
     rw[Tr.put_eq]at h4;cases h4;obtain⟨e',g4,g5⟩:=g3.get he;simp only[g2,g4];have e:=Cu h3.1;subst e;exact⟨rfl,Nat.le_of_ble_eq_true h3.2,U _ (hs.Az hg g1 ⟨_,g3.set _ (LJ g5 e2),rfl⟩)⟩
    ·cases h4
   ·cases h2
  ·cases h2
 ·cases h
def SJ (off:Nat) (x:V):Option V:=
 match x with
 | .rp cs=>some (.rp (cs.drop off))
 | .p n o=>some (.p n (o+off))
 | .pe n sz i o=>some (.pe n sz i (o+off))
 | _=>none
def aT {off:Nat} {x x' v:V} (h:SJ off x=some v) (hx:RV ρ x x') {K:V→Prop} (U: ∀v',RV ρ v v'→K v'):J4 off x' K:=by
 unfold SJ at h;split at h
 ·obtain⟨c,h1,rfl⟩:=hx
  cases h;exact U _ (by simp only[RV];exact⟨_,Bd.2 ((Bd.1 h1).drop off),rfl⟩)
 ·obtain⟨m,h1,rfl⟩:=hx
  cases h;exact U _ (by simp only[RV];exact⟨m,h1,rfl⟩)
 ·obtain⟨m,h1,rfl⟩:=hx
  cases h;exact U _ (by simp only[RV];exact⟨m,h1,rfl⟩)
 ·cases h
def L8 (sz:Nat) (arr:Option Nat) (x i:V):Option V:=
 match i with
 | .i _ j=>bif N0 0 j then
  match arr,x with
  | none,.l es _=>match es[j.toNat]? with|some e=>bif Nat.beq e.length sz then some (.rp e)else none|none=>none
  | none,.sl n len _=>bif Ln j len then some (.pe n sz j.toNat 0)else none
  | none,.sv n s off len=>bif Nat.beq s sz&&Ln j len then some (.pe n sz (off+j.toNat) 0)else none
  | some m,.rp cs=>bif Ln j m then some (.rp (cs.drop (j.toNat*sz)))else none
  | some m,.p n o=>bif Ln j m then some (.p n (o+j.toNat*sz))else none
  | some m,.pe n s q o=>bif Ln j m then some (.pe n s q (o+j.toNat*sz))else none
  | _,_=>none
   else none
 | _=>none
def aS {sz:Nat} {arr:Option Nat} {x x' i i' v:V} (h:L8 sz arr x i=some v) (hx:RV ρ x x') (hi:RV ρ i i') {K:V→Prop} (U: ∀v',RV ρ v v'→K v'):AT sz arr x' i' K:=by
 unfold L8 at h;split at h
 ·rename_i kj j
  simp only[RV]at hi;subst hi;obtain⟨h0,h⟩:=AZ h;have h0:=EF h0;split at h
  ·obtain⟨es',h1,rfl⟩:=hx
   split at h
   ·rename_i e he
    obtain⟨h2,h3⟩:=AZ h;cases h3;obtain⟨e',h4,h5⟩:=(FQ.1 h1).get he;exact⟨h0,e',h4,by rw[h5.len];exact Cu h2,U _ (by simp only[RV];exact⟨e',Bd.2 h5,rfl⟩)⟩
   ·cases h
  ·obtain⟨m,h1,rfl⟩:=hx
   obtain⟨h2,h3⟩:=AZ h;cases h3;exact⟨h0,L4 h2,U _ (by simp only[RV];exact⟨m,h1,rfl⟩)⟩
  ·obtain⟨m,h1,rfl⟩:=hx
   obtain⟨h2,h3⟩:=AZ h;simp only[BU]at h2;cases h3;exact⟨Cu h2.1,h0,L4 h2.2,U _ (by simp only[RV];exact⟨m,h1,rfl⟩)⟩
  ·obtain⟨c,h1,rfl⟩:=hx
   obtain⟨h2,h3⟩:=AZ h;cases h3;exact⟨h0,L4 h2,U _ (by simp only[RV];exact⟨_,Bd.2 ((Bd.1 h1).drop _),rfl⟩)⟩
  ·obtain⟨m,h1,rfl⟩:=hx
   obtain⟨h2,h3⟩:=AZ h;cases h3;exact⟨h0,L4 h2,U _ (by simp only[RV];exact⟨m,h1,rfl⟩)⟩
  ·obtain⟨m,h1,rfl⟩:=hx
   obtain⟨h2,h3⟩:=AZ h;cases h3;exact⟨h0,L4 h2,U _ (by simp only[RV];exact⟨m,h1,rfl⟩)⟩
  ·cases h
 ·cases h
def OX (len sz:Nat) (agg:Option Nat) (x i:V):Option V:=
 match x,i with
 | .a cs,.i _ j=>bif N0 0 j&&Ln j len then Tn agg cs (j.toNat*sz)else none
 | _,_=>none
def aR {len sz:Nat} {agg:Option Nat} {x x' i i' v:V} (h:OX len sz agg x i=some v) (hx:RV ρ x x') (hi:RV ρ i i') {K:V→Prop} (U: ∀v',RV ρ v v'→K v'):J3 len sz agg x' i' K:=by
 unfold OX at h;split at h
 ·simp only[RV]at hi
  subst hi;obtain⟨c,h1,rfl⟩:=hx;obtain⟨h2,h3⟩:=AZ h;simp only[BU]at h2;exact⟨EF h2.1,L4 h2.2,K7 h3 (Bd.1 h1) U⟩
 ·cases h
def T8 (x i:V):Option V:=
 match x,i with
 | .s b,.i _ j=>bif N0 0 j then(match b.data.toList[j.toNat]? with|some c=>some (.i .u8 (.ofNat c.toNat))|none=>none)else none
 | _,_=>none
def fO {x x' i i' v:V} (h:T8 x i=some v) (hx:RV ρ x x') (hi:RV ρ i i') {K:V→Prop} (U: ∀v',RV ρ v v'→K v'):OJ x' i' K:=by
 unfold T8 at h;split at h
 ·simp only[RV]at hi hx
  subst hi;subst hx;obtain⟨h2,h3⟩:=AZ h;refine⟨EF h2,?_⟩;split at h3
  ·rename_i c hc
   cases h3;rw[hc];exact U _ (by simp only[RV];rfl)
  ·cases h3
 ·cases h
def ZR (x:V):Option V:=
 match x with
 | .l es _=>some (.i .i64 (.ofNat es.length))
 | .sl _ len _=>bif Nat.ble len Aj then some (.i .i64 (.ofNat len))else none
 | .sv _ _ _ len=>bif Nat.ble len Aj then some (.i .i64 (.ofNat len))else none
 | _=>none
def jt {x x' v:V} (h:ZR x=some v) (hx:RV ρ x x') {K:V→Prop} (U: ∀v',RV ρ v v'→K v'):A0 x' K:=by
 unfold ZR at h;split at h
 ·obtain⟨es',h1,rfl⟩:=hx
  cases h;have:=(FQ.1 h1).len;exact U _ (by simp only[RV];rw[this];rfl)
 ·obtain⟨m,h1,rfl⟩:=hx
  obtain⟨h2,h3⟩:=AZ h;cases h3;exact⟨Nat.le_of_ble_eq_true h2,U _ (by simp only[RV];rfl)⟩
 ·obtain⟨m,h1,rfl⟩:=hx
  obtain⟨h2,h3⟩:=AZ h;cases h3;exact⟨Nat.le_of_ble_eq_true h2,U _ (by simp only[RV];rfl)⟩
 ·cases h
def T9 (s:St) (x:V):Option V:=
 match x with
 | .m n=>match s.t.get n with
   | some (.map kvs)=>bif Nat.ble kvs.length Aj then some (.i .i64 (.ofNat kvs.length))else none
   | _=>none
 | .mn=>some (.i .i64 0)
 | _=>none
def fP {s:St} (hs:SR P ρ s σ) {x x' v:V} (h:T9 s x=some v) (hx:RV ρ x x') {K:V→Prop} (U: ∀v',RV ρ v v'→K v'):Ji σ x' K:=by
 unfold T9 at h;split at h
 ·obtain⟨m,h1,rfl⟩:=hx
  split at h
  ·rename_i kvs hg
   obtain⟨h2,h3⟩:=AZ h;cases h3;obtain⟨o',g2,kvs',g3,rfl⟩:=hs.at hg h1;simp only[Ji,g2];have:=g3.len;exact⟨by rw[this];exact Nat.le_of_ble_eq_true h2,U _ (by simp only[RV];rw[this];rfl)⟩
  ·cases h
 ·cases h
  simp only[RV]at hx;subst hx;exact U _ (by simp only[RV])
 ·cases h
def IL (s:St) (sz:Nat) (y:V):Option (List (List V)):=
 match y with
 | .l ys _=>bif ys.all (fun e=>Nat.beq e.length sz)then some ys else none
 | .sl m len _=>match s.t.get m with
   | some (.arr s' ys)=>bif Nat.beq s' sz&&Nat.ble len ys.length then some (ys.take len)else none
   | _=>none
 | .sv m s1 off len=>match s.t.get m with
   | some (.arr s' ys)=>bif Nat.beq s1 sz&&(Nat.beq s' sz&&Nat.ble (off+len) ys.length)then some ((ys.drop off).take len)else none
   | _=>none
 | _=>none
def HR {s:St} (hs:SR P ρ s σ) {sz:Nat} {y y':V} {ys:List (List V)} (h:IL s sz y=some ys) (hy:RV ρ y y') {K:List (List V)→Prop} (U: ∀ys',bI ρ ys ys'→K ys'):rowsOf σ sz y' K:=by
 unfold IL at h;split at h
 ·obtain⟨es',h1,rfl⟩:=hy
  obtain⟨h2,h3⟩:=AZ h;cases h3;exact⟨Ny h2 (FQ.1 h1),U _ (FQ.1 h1)⟩
 ·obtain⟨m,h1,rfl⟩:=hy
  split at h
  ·rename_i es hg
   obtain⟨o',g2,es',g3,rfl⟩:=hs.at hg h1;obtain⟨h2,h3⟩:=AZ h;simp only[BU]at h2;cases h3;simp only[rowsOf,g2];exact⟨Cu h2.1,by rw[g3.len];exact Nat.le_of_ble_eq_true h2.2,U _ (g3.take _)⟩
  ·cases h
 ·obtain⟨m,h1,rfl⟩:=hy
  split at h
  ·rename_i es hg
   obtain⟨o',g2,es',g3,rfl⟩:=hs.at hg h1;obtain⟨h2,h3⟩:=AZ h;simp only[BU]at h2;cases h3;simp only[rowsOf,g2];exact⟨Cu h2.1,Cu h2.2.1,by rw[g3.len];exact Nat.le_of_ble_eq_true h2.2.2,U _ ((g3.drop _).take _)⟩
  ·cases h
 ·cases h
def St.new {β:Type} (s:St) (o:EO) (K:Nat→St→Option β):Option β:=
 match s.nx with
 | 0=>Tr.put (some o) BE s.t 0 fun t=>K 0 ⟨1,t⟩
 | n+1=>bif Nat.ble (n+1) Ls then Tr.put (some o) BE s.t (n+1) fun t=>K (n+1) ⟨n+2,t⟩else none
def St.Hm {β:Type} {s:St} {o:EO} {K:Nat→St→Option β} {x:β} (h:s.new o K=some x):s.nx≤Ls∧K s.nx ⟨s.nx+1,Tr.set (some o) BE s.t s.nx⟩=some x:=by
 obtain⟨n,t⟩:=s;cases n with
 | zero=>simp only[St.new]at h;rw[Tr.put_eq]at h;exact⟨by simp[Ls],h⟩
 | succ n=>
   simp only[St.new]at h;obtain⟨h1,h2⟩:=AZ h;rw[Tr.put_eq]at h2;exact⟨Nat.le_of_ble_eq_true h1,h2⟩
def Qr: ∀ {ys ys':List (List V)} {ns:List Int},E5 ys=some ns→bI ρ ys ys'→E5 ys'=some ns
 | [],ys',ns,h,hr=>by obtain rfl:ys'= []:=hr;exact h
 | e ::r,ys',ns,h,hr=>by
   unfold E5 at h;split at h
   ·cases ‹_= []›
   ·rename_i n r' he
    cases he;obtain⟨e',r'',h1,h2,rfl⟩:=hr;obtain⟨v',l',h3,h4,rfl⟩:=h1;obtain rfl:l'= []:=h4;simp only[RV]at h3;subst h3;split at h
    ·rename_i l hl
     cases h;simp only[E5,Qr hl h2]
    ·cases h
   ·cases h
def bc (s:St) (x:V):Option V:=
 match IL s 1 x with
 | some ys=>match E5 ys with
   | some ns=>some (.s ⟨(ns.map fun n=>UInt8.ofNat n.toNat).toArray⟩)
   | none=>none
 | none=>none
def js {s:St} (hs:SR P ρ s σ) {x x' v:V} (h:bc s x=some v) (hx:RV ρ x x') {K:V→Prop} (U: ∀v',RV ρ v v'→K v'):bY σ x' K:=by
 unfold bc at h;split at h
 ·rename_i ys hys
  split at h
  ·rename_i ns hn
   cases h;refine HR hs hys hx fun ys' hr=>?_
   rw[Qr hn hr];exact U _ (by simp only[RV])
  ·cases h
 ·cases h
def sN (b L:Nat):Bool:=Nat.ble L 1073741824&&Nat.ble b 131072
def R4 {b L:Nat} (h:sN b L=true):L≤Aj∧L*b≤140737488355328:=by
 simp only[sN,BU]at h;have h1:=Nat.le_of_ble_eq_true h.1;have h2:=Nat.le_of_ble_eq_true h.2;have h3:L*b≤1073741824*131072:=Nat.mul_le_mul h1 h2;exact⟨by unfold Aj;omega,by omega⟩
def K8 (b : Nat) (s:St) (sz:Nat) (x y:V):Option (V×St):=
 match IL s sz y with
 | some ys =>bif ys.all (fun e=>e.all CE)then
  match x with
  | .l es full=>bif es.all (fun e=>Nat.beq e.length sz)&&sN b (es.length+ys.length)then
   match ys with
   | []=>some (.l es full,s)
   | z::zs=>bif full then s.new (.arr sz (es++z::zs)) fun i s'=>some (.sl i (es.length+(z::zs).length) 0,s')else none
    else none
  | .sl n len _=>match s.t.get n with
    | some (.arr s1 es)=>bif Nat.beq s1 sz&&(Nat.beq len es.length&&sN b (es.length+ys.length))then
     Tr.put none BE s.t n fun t=>St.new ⟨s.nx,t⟩ (.arr sz (es++ys)) fun i s'=>some (.sl i (es.length+ys.length) 0,s')else none
    | _=>none
  | _=>none
   else none
 | none=>none
def XN {b : Nat} {s s':St} (hs:SR P ρ s σ) {sz:Nat} {x x' y y' v:V} (h:K8 b s sz x y=some (v,s')) (hx:RV ρ x x') (hy:RV ρ y y') {K:V→AH→Prop}
    (U: ∀ρ' v' σ',ρ.le ρ'→RV ρ' v v'→SR P ρ' s' σ'→K v' σ'):AL b σ sz x' y' K:=by
 unfold K8 at h;split at h
 ·rename_i ys hys
  obtain⟨h1,h2⟩:=AZ h;refine HR hs hys hy fun ys' hr=>⟨LU h1 hr,?_⟩
  split at h2
  ·rename_i es full
   obtain⟨es',g1,rfl⟩:=hx;have g1:=FQ.1 g1;obtain⟨h3,h4⟩:=AZ h2;simp only[BU]at h3;refine⟨Ny h3.1 g1,by rw[g1.len,hr.len];exact R4 h3.2,fun e=>?_,fun e=>?_⟩
   ·split at h4
    ·cases h4
     exact U ρ _ _ (.refl _) (by simp only[RV];exact⟨es',FQ.2 g1,rfl⟩) hs
    ·subst e
     have:=hr.len;simp at this
   ·split at h4
    ·cases hr
     exact absurd rfl e
    ·rename_i z zs
     obtain⟨h5,h6⟩:=AZ h4;obtain⟨h7,h8⟩:=St.Hm h6;cases h8;refine⟨h5,fun n cap hn hc=>?_⟩;obtain⟨ρ',q1,q2,q3⟩:=hs.new h7 hn cap (o:= .arr sz (es++z::zs)) (o':= .arr sz (es'++ys') cap) ⟨_,g1.app hr,rfl⟩;exact U ρ' _ _ q1 (by simp only[RV];exact⟨_,q2,by rw[g1.len,hr.len]⟩) q3
  ·rename_i n len
   obtain⟨m,g1,rfl⟩:=hx;split at h2
   ·rename_i s1 es hg
    obtain⟨o',g2,es',g3,rfl⟩:=hs.at hg g1;obtain⟨h3,h4⟩:=AZ h2;simp only[BU]at h3;rw[Tr.put_eq]at h4;obtain⟨h5,h6⟩:=St.Hm h4;cases h6;have e1:=Cu h3.1;subst e1;simp only[g2];refine⟨trivial,trivial,by rw[g3.len];exact Cu h3.2.1,by rw[g3.len,hr.len];exact R4 h3.2.2,fun n' cap' hn hc=>?_⟩;obtain⟨ρ',q1,q2,q3⟩:=(hs.del hg g1).new h5 hn cap' (o:= .arr s1 (es++ys)) (o':= .arr s1 (es'++ys') cap') ⟨_,g3.app hr,rfl⟩;exact U ρ' _ _ q1 (by simp only[RV];exact⟨_,q2,by rw[g3.len,hr.len]⟩) q3
   ·cases h2
  ·cases h2
 ·cases h
def UB (b:Nat) (s:St) (sz:Nat) (x y:V):Option V:=
 match IL s sz y with
 | some ys=>bif ys.all (fun e=>e.all CE)then
  match x with
  | .l es full=>bif es.all (fun e=>Nat.beq e.length sz)&&(sN b (es.length+ys.length)&&(full||ys.isEmpty))then some (.l (es++ys) false)else none
  | _=>none
   else none
 | none=>none
def fR {b:Nat} {s:St} (hs:SR P ρ s σ) {sz:Nat} {x x' y y' v:V} (h:UB b s sz x y=some v) (hx:RV ρ x x') (hy:RV ρ y y') {K:V→Prop} (U: ∀v',RV ρ v v'→K v'):Ae b σ sz x' y' K:=by
 unfold UB at h;split at h
 ·rename_i ys hys
  obtain⟨h1,h2⟩:=AZ h;refine HR hs hys hy fun ys' hr=>⟨LU h1 hr,?_⟩
  split at h2
  ·rename_i es full
   obtain⟨es',g1,rfl⟩:=hx;have g1:=FQ.1 g1;obtain⟨h3,h4⟩:=AZ h2;simp only[BU,Gj]at h3;cases h4;refine⟨Ny h3.1 g1,by rw[g1.len,hr.len];exact R4 h3.2.1,fun e=>?_,U _ (by simp only[RV];exact⟨_,FQ.2 (g1.app hr),rfl⟩)⟩;rcases h3.2.2 with h|h
   ·exact h
   ·have:ys= []:=by simpa using h
    subst this;cases hr;exact absurd rfl e
  ·cases h2
 ·cases h
def gl (s:St) (sz:Nat) (ys:List (List V)) (n off len:Nat):Option (V×St):=
 match s.t.get n with
 | some (.arr s1 es)=>bif Nat.beq s1 sz&&Nat.ble (off+len) es.length then
  Tr.put (some (.arr s1 (es.take off++(ys.take (min ys.length len)++es.drop (off+min ys.length len))))) BE s.t n fun t=>some (.i .i64 (.ofNat (min ys.length len)),⟨s.nx,t⟩)else none
 | _=>none
def Ym {s s':St} (hs:SR P ρ s σ) {sz n off len:Nat} {ys ys':List (List V)} (hr:bI ρ ys ys') {m:Nat×Nat} (hm:ρ n=some m) {v:V} (h:gl s sz ys n off len=some (v,s')) {K:V→AH→Prop}
    (U: ∀v' σ',RV ρ v v'→SR P ρ s' σ'→K v' σ'):N7 σ sz ys' m.1 off len K:=by
 unfold gl at h;split at h
 ·rename_i s1 es hg
  obtain⟨o',g2,es',g3,rfl⟩:=hs.at hg hm;obtain⟨h3,h4⟩:=AZ h;simp only[BU]at h3;rw[Tr.put_eq]at h4;cases h4;simp only[N7,g2];refine⟨Cu h3.1,by rw[g3.len];exact Nat.le_of_ble_eq_true h3.2,?_⟩;rw[hr.len];exact U _ _ (by simp only[RV];rfl) (hs.Az hg hm ⟨_,((g3.take off).app ((hr.take _).app (g3.drop _))),rfl⟩)
 ·cases h
def UA (s:St) (sz:Nat) (x y:V):Option (V×St):=
 match IL s sz y with
 | some ys=>bif ys.all (fun e=>e.all CE)then
  match x with
  | .sl n len _=>gl s sz ys n 0 len
  | .sv n s1 off len=>bif Nat.beq s1 sz then gl s sz ys n off len else none
  | _=>none
   else none
 | none=>none
def fQ {s s':St} (hs:SR P ρ s σ) {sz:Nat} {x x' y y' v:V} (h:UA s sz x y=some (v,s')) (hx:RV ρ x x') (hy:RV ρ y y') {K:V→AH→Prop}
    (U: ∀v' σ',RV ρ v v'→SR P ρ s' σ'→K v' σ'):Ad σ sz x' y' K:=by
 unfold UA at h;split at h
 ·rename_i ys hys
  obtain⟨h1,h2⟩:=AZ h;refine HR hs hys hy fun ys' hr=>⟨LU h1 hr,?_⟩
  split at h2
  ·obtain⟨m,g1,rfl⟩:=hx
   exact Ym hs hr g1 h2 U
  ·obtain⟨m,g1,rfl⟩:=hx
   obtain⟨h3,h4⟩:=AZ h2;exact⟨Cu h3,Ym hs hr g1 h4 U⟩
  ·cases h2
 ·cases h
def Tp (o:Option V) (d:Int):Option Int:=
 match o with
 | none=>some d
 | some (.i _ n)=>some n
 | _=>none
def kx (ρ:Ren):Option V→Option V→Prop
 | none,o=>o=none
 | some v,o=> ∃v',RV ρ v v'∧o=some v'
def JH {o o':Option V} {d n:Int} (h:Tp o d=some n) (ho:kx ρ o o') {K:Int→Prop} (U:K n):N2 o' d K:=by
 unfold Tp at h;split at h
 ·cases h;cases ho;exact U
 ·obtain⟨v',h1,rfl⟩:=ho
  simp only[RV]at h1;subst h1;cases h;exact U
 ·cases h
def OW (s : St) (sz:Nat) (x:V) (lo hi mx:Option V):Option (V×St):=
 match x with
 | .l es full=>match Tp hi (.ofNat es.length),Tp lo 0 with
   | some h,some l=>bif es.all (fun e=>Nat.beq e.length sz)&&(N0 0 l&&(N0 l h&&N0 h (.ofNat es.length)))then
    match mx with
    | none=>some (.l ((es.take h.toNat).drop l.toNat) (full&&ZD h (.ofNat es.length)),s)
    | some (.i _ m)=>bif ZD m h then some (.l ((es.take h.toNat).drop l.toNat) true,s)else none
    | _=>none
     else none
   | _,_=>none
 | .sl n len _=>match Tp hi (.ofNat len),Tp lo 0 with
   | some h,some l=>bif N0 0 l&&(N0 l h&&N0 h (.ofNat len))then
    match mx with
    | none=>some (.sv n sz l.toNat (h - l).toNat,s)
    | some (.i _ m)=>match s.t.get n with
      | some (.arr s1 es)=>bif ZD m h&&(ZD h (.ofNat len)&&(ZD l 0&&(Nat.beq s1 sz&&Nat.beq len es.length)))then Tr.put none BE s.t n fun t=>St.new ⟨s.nx,t⟩ (.arr s1 es) fun i s'=>some (.sl i len 0,s')else none
      | _=>none
    | _=>none
     else none
   | _,_=>none
 | .sv n s1 off len=>match Tp hi (.ofNat len),Tp lo 0,mx with
   | some h,some l,none=>bif Nat.beq s1 sz&&(N0 0 l&&(N0 l h&&N0 h (.ofNat len)))then some (.sv n sz (off+l.toNat) (h - l).toNat,s)else none
   | _,_,_=>none
 | _=>none
def SH {a b:Int} (h:ZD a b=true):a=b:=by rw[SI]at h;simpa using h
def aP {s s':St} (hs:SR P ρ s σ) {sz:Nat} {x x' v:V} {lo hi mx lo' hi' mx':Option V} (h:OW s sz x lo hi mx=some (v,s')) (hx:RV ρ x x') (h1:kx ρ lo lo') (h2:kx ρ hi hi') (h3:kx ρ mx mx') {K:V→AH→Prop}
    (U: ∀ρ' v' σ',ρ.le ρ'→RV ρ' v v'→SR P ρ' s' σ'→K v' σ'):AS σ sz x' lo' hi' mx' K:=by
 unfold OW at h;split at h
 ·rename_i es full
  obtain⟨es',g1,rfl⟩:=hx;have g1:=FQ.1 g1;split at h
  ·rename_i hh ll e1 e2
   obtain⟨h4,h5⟩:=AZ h;simp only[BU]at h4;refine⟨Ny h4.1 g1,?_⟩;rw[g1.len];refine JH e1 h2 ?_;refine JH e2 h1 ?_;refine⟨EF h4.2.1,EF h4.2.2.1,EF h4.2.2.2,?_⟩;split at h5
   ·cases h3
    cases h5;refine U ρ _ _ (.refl _) ?_ hs;simp only[RV];refine⟨_,FQ.2 ((g1.take _).drop _),?_⟩;congr 1;rw[SI];congr 1
   ·obtain⟨v',q1,rfl⟩:=h3
    simp only[RV]at q1;subst q1;obtain⟨h6,h7⟩:=AZ h5;cases h7;exact⟨SH h6,U ρ _ _ (.refl _) (by simp only[RV];exact⟨_,FQ.2 ((g1.take _).drop _),rfl⟩) hs⟩
   ·cases h5
  ·cases h
 ·rename_i n len
  obtain⟨m,g1,rfl⟩:=hx;split at h
  ·rename_i hh ll e1 e2
   obtain⟨h4,h5⟩:=AZ h;simp only[BU]at h4;simp only[AS];refine JH e1 h2 ?_;refine JH e2 h1 ?_;refine⟨EF h4.1,EF h4.2.1,EF h4.2.2,?_⟩;split at h5
   ·cases h3
    cases h5;exact U ρ _ _ (.refl _) (by simp only[RV];exact⟨m,g1,rfl⟩) hs
   ·obtain⟨v',q1,rfl⟩:=h3
    simp only[RV]at q1;subst q1;split at h5
    ·rename_i s1 es hg
     obtain⟨o',g2,es',g3,rfl⟩:=hs.at hg g1;obtain⟨h6,h7⟩:=AZ h5;simp only[BU]at h6;rw[Tr.put_eq]at h7;obtain⟨h8,h9⟩:=St.Hm h7;cases h9;simp only[g2];have h10:=Cu h6.2.2.2.2;refine⟨SH h6.1,SH h6.2.1,SH h6.2.2.1,Cu h6.2.2.2.1,trivial,by rw[g3.len];exact h10,.inr ?_⟩;obtain⟨ρ',q1,q2,q3⟩:=(hs.del hg g1).new h8 (DK σ m.1) n (o:= .arr s1 es) (o':= .arr s1 es' n) ⟨es',g3,rfl⟩
     have e:Gl.Az (Gl.del σ m.1) m.1 (.arr s1 es' n)=Gl.Az σ m.1 (.arr s1 es' n):=by
      funext k;by_cases hk:k=m.1
      ·simp[Gl.Az,hk]
      ·simp[Gl.Az,Gl.del,hk]
     rw[e]at q3;exact U ρ' _ _ q1 (by simp only[RV];exact⟨_,q2,rfl⟩) q3
    ·cases h5
   ·cases h5
  ·cases h
 ·obtain⟨m,g1,rfl⟩:=hx
  split at h
  ·rename_i hh ll e1 e2
   cases h3;obtain⟨h4,h5⟩:=AZ h;simp only[BU]at h4;cases h5;simp only[AS];refine JH e1 h2 ?_;refine JH e2 h1 ?_;exact⟨EF h4.2.1,EF h4.2.2.1,EF h4.2.2.2,Cu h4.1,trivial,U ρ _ _ (.refl _) (by simp only[RV];exact⟨m,g1,rfl⟩) hs⟩
  ·cases h
 ·cases h
def Li: ∀ {cs ds:List V} {t:Bool},Bq cs ds=some t→B6 cs=true∧B6 ds=true
 | [],[],_,_=>⟨rfl,rfl⟩
 | x ::xs,y::ys,t,h=>by
   cases x<;>cases y<;>simp only[Bq]at h<;>first|cases h|skip
   split at h
   ·obtain⟨a,h1,_⟩:=Ak h
    obtain⟨h2,h3⟩:=Li h1;exact⟨by simp[B6,BL,h2],by simp[B6,BL,h3]⟩
   ·cases h
 | [],_::_,_,h=>by simp[Bq]at h
 | x::xs,[],_,h=>by cases x<;>simp[Bq]at h
def gk {cs cs':List V} (h:Kb ρ cs cs') (hp:B6 cs=true):cs'=cs:=RL.fn cs _ _ (Bd.2 h) (RL.pure cs hp)
def bg (len:Nat) (neg:Bool) (x y:V):Option V:=
 match x,y with
 | .a cs,.a ds=>bif Nat.beq cs.length len then(match Bq cs ds with|some t=>some (.b (bif neg then !t else t))|none=>none)else none
 | _,_=>none
def jv {len:Nat} {neg:Bool} {x x' y y' v:V} (h:bg len neg x y=some v) (hx:RV ρ x x') (hy:RV ρ y y') {K:V→Prop} (U: ∀v',RV ρ v v'→K v'):Ro len neg x' y' K:=by
 unfold bg at h;split at h
 ·rename_i cs ds
  obtain⟨cs',g1,rfl⟩:=hx;obtain⟨ds',g2,rfl⟩:=hy;obtain⟨h1,h2⟩:=AZ h;split at h2
  ·rename_i t ht
   cases h2;obtain⟨p1,p2⟩:=Li ht;have e1:=gk (Bd.1 g1) p1;have e2:=gk (Bd.1 g2) p2;subst e1;subst e2;simp only[Ro,h1,ht];exact U _ (by simp only[RV])
  ·cases h2
 ·cases h
def bf (kind:Nat) (neg:Bool) (x:V):Option V:=
 match kind,x with
 | 0,.pn=>some (.b (!neg))
 | 0,.rp _=>some (.b neg)
 | 0,.p _ _=>some (.b neg)
 | 0,.pe _ _ _ _=>some (.b neg)
 | 1,.sl _ _ _=>some (.b neg)
 | 1,.l (_::_) _=>some (.b neg)
 | 2,.Db=>some (.b (!neg))
 | 2,.Er _ _=>some (.b neg)
 | 3,.mn=>some (.b (!neg))
 | 3,.m _=>some (.b neg)
 | 4,.Kf=>some (.b (!neg))
 | 4,.f _ _ _=>some (.b neg)
 | _,_=>none
def ju {kind:Nat} {neg:Bool} {x x' v:V} (h:bf kind neg x=some v) (hx:RV ρ x x') {K:V→Prop} (U: ∀v',RV ρ v v'→K v'):Ib kind neg x' K:=by
 unfold bf at h;split at h
 ·simp only[RV]at hx;subst hx;cases h;exact U _ (by simp only[RV])
 ·obtain⟨_,_,rfl⟩:=hx;cases h;exact U _ (by simp only[RV])
 ·obtain⟨_,_,rfl⟩:=hx;cases h;exact U _ (by simp only[RV])
 ·obtain⟨_,_,rfl⟩:=hx;cases h;exact U _ (by simp only[RV])
 ·obtain⟨_,_,rfl⟩:=hx;cases h;exact U _ (by simp only[RV])
 ·obtain⟨es',g1,rfl⟩:=hx
  cases h;obtain⟨y,ys,_,_,rfl⟩:=FQ.1 g1;exact⟨fun e=>(by cases e),fun _=>U _ (by simp only[RV])⟩
 ·simp only[RV]at hx;subst hx;cases h;exact U _ (by simp only[RV])
 ·obtain⟨_,_,rfl⟩:=hx;cases h;exact U _ (by simp only[RV])
 ·simp only[RV]at hx;subst hx;cases h;exact U _ (by simp only[RV])
 ·obtain⟨_,_,rfl⟩:=hx;cases h;exact U _ (by simp only[RV])
 ·simp only[RV]at hx;subst hx;cases h;exact U _ (by simp only[RV])
 ·obtain⟨_,_,_,_,_,_,rfl⟩:=hx;cases h;exact U _ (by simp only[RV])
 ·cases h
def I2 (s:St) (sz:Nat) (z:List V) (x y:V):Option (V×St):=
 match x,y with
 | .i _ n,.i _ m=>bif N0 0 n&&(N0 n m&&(Nat.ble m.toNat 1073741824&&B6 z))then s.new (.arr sz (List.replicate n.toNat z)) fun i s'=>some (.sl i n.toNat 0,s')else none
 | _,_=>none
def Vj {s s':St} (hs:SR P ρ s σ) {sz:Nat} {z:List V} {x x' y y' v:V} (h:I2 s sz z x y=some (v,s')) (hx:RV ρ x x') (hy:RV ρ y y') {K:V→AH→Prop}
    (U: ∀ρ' v' σ',ρ.le ρ'→RV ρ' v v'→SR P ρ' s' σ'→K v' σ'):AK σ sz z x' y' K:=by
 unfold I2 at h;split at h
 ·rename_i k1 n k2 m
  simp only[RV]at hx hy;subst hx;subst hy;obtain⟨h1,h2⟩:=AZ h;simp only[BU]at h1;obtain⟨h3,h4⟩:=St.Hm h2;cases h4;have h5:=EF h1.1;have h7:=EF h1.2.1;have h6:m.toNat≤1073741824:=Nat.le_of_ble_eq_true h1.2.2.1;refine⟨h5,h7,by omega,fun id hid=>?_⟩;obtain⟨ρ',q1,q2,q3⟩:=hs.new h3 hid m.toNat (o:= .arr sz (List.replicate n.toNat z)) (o':= .arr sz (List.replicate n.toNat z) m.toNat) ⟨_,F2.rep (Bd.1 (RL.pure z h1.2.2.2)) _,rfl⟩;exact U ρ' _ _ q1 (by simp only[RV];exact⟨_,q2,rfl⟩) q3
 ·cases h
def NA: ∀ {l:List IntKind} {cs:List V},DT l cs=true→B6 cs=true
 | [],[],_=>rfl
 | q::l,x::cs,h=>by
   cases x<;>simp only[DT]at h<;>first|cases h|skip
   simp only[BU]at h;simp[B6,BL,NA h.2]
 | [],_::_,h=>by simp[DT]at h
 | _::_,[],h=>by simp[DT]at h
def FB {ks:KS} {v:V} (h:BV ks v=true):BL v=true:=by
 unfold BV at h;split at h
 ·rfl
 ·exact NA h
 ·rfl
 ·cases h
def Qu {ks:KS} {key:V}: ∀ {kvs kvs':List (V×V)},(kvs.all fun kv=>BV ks kv.1)=true→F2 (RK ρ) kvs kvs'→kx ρ (Cp key kvs) (Cp key kvs')
 | [],_,_,h=>by cases h;rfl
 | (k,v)::r,_,ha,⟨y,ys,h1,h2,e⟩=>by
   subst e;obtain⟨k',v'⟩:=y;simp only[NN,BU]at ha;have e1:k'=k:=RV.gS h1.1 (FB ha.1);subst e1;simp only[Cp];cases EU key k' with
   | true=>exact⟨v',h1.2,rfl⟩
   | false=>exact Qu ha.2 h2
def Um {ks:KS} {key x x':V} (hp:BL key=true) (hx:RV ρ x x'): ∀ {kvs kvs':List (V×V)},(kvs.all fun kv=>BV ks kv.1)=true→F2 (RK ρ) kvs kvs'→F2 (RK ρ) (ET key x kvs) (ET key x' kvs')
 | [],_,_,h=>by cases h;exact F2.cons ⟨RV.pure key hp,hx⟩ F2.nil
 | (k,v)::r,_,ha,⟨y,ys,h1,h2,e⟩=>by
   subst e;obtain⟨k',v'⟩:=y;simp only[NN,BU]at ha;have e1:k'=k:=RV.gS h1.1 (FB ha.1);subst e1;simp only[ET];cases EU key k' with
   | true=>exact F2.cons ⟨RV.pure key hp,hx⟩ h2
   | false=>exact F2.cons h1 (Um hp hx ha.2 h2)
def YU {ks:KS} {kvs kvs':List (V×V)} (ha:(kvs.all fun kv=>BV ks kv.1)=true) (h:F2 (RK ρ) kvs kvs'): ∀kv∈kvs',BV ks kv.1=true:=fun kv hm=>by
 obtain⟨u,hu,hr⟩:=F2.mem h hm;rw[GP]at ha;have h1:=ha u hu;rw[RV.gS hr.1 (FB h1)];exact h1
def K6 (s:St) (ks:KS) (z:V) (ok:Bool) (vm vk:V):Option V:=
 bif BV ks vk&&BL z then
  match vm with
  | .m n=>match s.t.get n with
    | some (.map kvs)=>bif kvs.all (fun kv=>BV ks kv.1)then some (found z ok (Cp vk kvs))else none
    | _=>none
  | .mn=>some (found z ok none)
  | _=>none
 else none
def Ux {z:V} {ok:Bool} (hz:BL z=true) {o o':Option V} (h:kx ρ o o'):RV ρ (found z ok o) (found z ok o'):=by
 cases o with
 | none=>
   cases h;cases ok with
   | true=>simp only[found,cond_true,RV];exact⟨_,Bd.2 (F2.cons (RV.pure z hz) (F2.cons (RV.pure _ rfl) F2.nil)),rfl⟩
   | false=>exact RV.pure z hz
 | some v=>
   obtain⟨v',h1,rfl⟩:=h;cases ok with
   | true=>simp only[found,cond_true,RV];exact⟨_,Bd.2 (F2.cons h1 (F2.cons (RV.pure _ rfl) F2.nil)),rfl⟩
   | false=>exact h1
def XM {s:St} (hs:SR P ρ s σ) {ks:KS} {z:V} {ok:Bool} {vm vm' vk vk' v:V} (h:K6 s ks z ok vm vk=some v) (hm:RV ρ vm vm') (hk:RV ρ vk vk') {K:V→Prop} (U: ∀v',RV ρ v v'→K v'):AO σ ks z ok vm' vk' K:=by
 unfold K6 at h;obtain⟨h1,h2⟩:=AZ h;simp only[BU]at h1;have e:=RV.gS hk (FB h1.1);subst e;refine⟨h1.1,?_⟩;split at h2
 ·obtain⟨m,g1,rfl⟩:=hm
  split at h2
  ·rename_i kvs hg
   obtain⟨o',g2,kvs',g3,rfl⟩:=hs.at hg g1;obtain⟨h3,h4⟩:=AZ h2;cases h4;simp only[g2];exact⟨YU h3 g3,U _ (Ux h1.2 (Qu h3 g3))⟩
  ·cases h2
 ·simp only[RV]at hm
  subst hm;cases h2;exact U _ (Ux h1.2 rfl)
 ·cases h2
def K5 (s:St) (ks:KS) (vm vk vv:V):Option St:=
 bif BV ks vk then
  match vm with
  | .m n=>match s.t.get n with
    | some (.map kvs)=>bif kvs.all (fun kv=>BV ks kv.1)then Tr.put (some (.map (ET vk vv kvs))) BE s.t n fun t=>some ⟨s.nx,t⟩else none
    | _=>none
  | _=>none
 else none
def XL {s s':St} (hs:SR P ρ s σ) {ks:KS} {vm vm' vk vk' vv vv':V} (h:K5 s ks vm vk vv=some s') (hm:RV ρ vm vm') (hk:RV ρ vk vk') (hv:RV ρ vv vv') {K:AH→Prop} (U: ∀σ',SR P ρ s' σ'→K σ') :
    AP σ ks vm' vk' vv' K:=by
 unfold K5 at h;obtain⟨h1,h2⟩:=AZ h;have e:=RV.gS hk (FB h1);subst e;refine⟨h1,?_⟩;split at h2
 ·obtain⟨m,g1,rfl⟩:=hm
  split at h2
  ·rename_i kvs hg
   obtain⟨o',g2,kvs',g3,rfl⟩:=hs.at hg g1;obtain⟨h3,h4⟩:=AZ h2;rw[Tr.put_eq]at h4;cases h4;simp only[g2];exact⟨YU h3 g3,U _ (hs.Az hg g1 ⟨_,Um (FB h1) hv h3 g3,rfl⟩)⟩
  ·cases h2
 ·cases h2
def L9 (env:Env):List V→List (Nat×Nat×Bj)→Option (List V)
 | cs,[]=>some cs
 | cs,(off,sz,x)::r=>
   match DM env x with
   | some v=>match cellsOf v with
     | some vc=>bif Nat.beq vc.length sz&&Nat.ble (off+sz) cs.length then L9 env (putAt cs off vc) r else none
     | none=>none
   | none=>none
def RF (he:RE ρ env env₀): ∀ {ps:List (Nat×Nat×Bj)} {cs cs' cs1:List V},L9 env cs ps=some cs1→Kb ρ cs cs'→ ∃cs1',Jj env₀ cs' ps=some cs1'∧Kb ρ cs1 cs1'
 | [],_,cs',_,h,hc=>by cases h;exact⟨cs',rfl,hc⟩
 | (off,sz,x)::r,cs,cs',cs1,h,hc=>by
   simp only[L9]at h;split at h
   ·rename_i v hv
    split at h
    ·rename_i vc hvc
     obtain⟨h1,h2⟩:=AZ h;obtain⟨v',e1,e2⟩:=Ax he hv;obtain⟨vc',e3,e4⟩:=GJ hvc e2;obtain⟨c,e5,e6⟩:=RF he h2 (LJ hc e4);refine⟨c,?_,e6⟩;simp only[Jj,e1,e3];rw[e4.len,hc.len,h1];exact e5
    ·cases h
   ·cases h
def MA (env:Env) (sz:Nat):List (List V)→List (Nat×Bj)→Option (List (List V))
 | es,[]=>some es
 | es,(i,x)::r=>
   match DM env x with
   | some v=>match cellsOf v with
     | some vc=>bif Nat.beq vc.length sz&&Nat.blt i es.length then MA env sz (es.set i vc) r else none
     | none=>none
   | none=>none
def RG (he:RE ρ env env₀) {sz:Nat}: ∀ {ps:List (Nat×Bj)} {cs cs' cs1:List (List V)},MA env sz cs ps=some cs1→bI ρ cs cs'→ ∃cs1',Io env₀ sz cs' ps=some cs1'∧bI ρ cs1 cs1'
 | [],_,cs',_,h,hc=>by cases h;exact⟨cs',rfl,hc⟩
 | (i, x)::r,cs,cs',cs1,h,hc=>by
   simp only[MA]at h;split at h
   ·rename_i v hv
    split at h
    ·rename_i vc hvc
     obtain⟨h1,h2⟩:=AZ h;obtain⟨v',e1,e2⟩:=Ax he hv;obtain⟨vc',e3,e4⟩:=GJ hvc e2;obtain⟨c,e5,e6⟩:=RG he h2 (hc.set i e4);refine⟨c,?_,e6⟩;simp only[Io,e1,e3];rw[e4.len,hc.len,h1];exact e5
    ·cases h
   ·cases h
end Go.Gl
namespace Go.Gl
variable {P:Program} {ρ ρ':Ren} {σ:AH} {env env₀:Env}
def ob {α β:Type} (o:Option α) (k:α→Option β):Option β:=match o with|some v=>k v|none=>none
def AV {α β:Type} {o:Option α} {k:α→Option β} {r:β} (h:ob o k=some r): ∃v,o=some v∧k v=some r:=by
 cases o with
 | none=>cases h
 | some v=>exact⟨v,rfl,h⟩
def uU (ρ:Ren):Af→Af→Prop
 | .Bf v,x=> ∃v',RV ρ v v'∧x= .Bf v'
 | .normal,x=>x= .normal
 | .ret,x=>x= .ret
 | .exit id,x=>x= .exit id
def ky (ρ:Ren):R→R→Prop
 | .ret v,r=> ∃v',RV ρ v v'∧r= .ret v'
 | .Bf v,r=> ∃v',RV ρ v v'∧r= .Bf v'
abbrev CF:=FuncId→List V→St→Option (R×St)
abbrev CV:=V→List V→St→Option (R×St)
abbrev CP:=FuncId→List V→Option V
def KC (P:Program) (c:CF):Prop:= ∀f vs s r s',c f vs s=some (r,s')→ ∀ρ vs' σ,Kb ρ vs vs'→SR P ρ s σ→ ∀Q:R→AH→Prop,(∀ρ' r' σ',ρ.le ρ'→ky ρ' r r'→SR P ρ' s' σ'→Q r' σ')→A8 P f vs' σ Q
def JK (P:Program) (c:CV):Prop:= ∀x vs s r s',c x vs s=some (r,s')→ ∀ρ x' vs' σ,RV ρ x x'→Kb ρ vs vs'→SR P ρ s σ→ ∀Q:R→AH→Prop,(∀ρ' r' σ',ρ.le ρ'→ky ρ' r r'→SR P ρ' s' σ'→Q r' σ')→Aw P x' vs' σ Q
def MF (P:Program) (c:CP):Prop:= ∀f vs v,c f vs=some v→B6 vs=true∧BL v=true∧Pure P f vs v
def ov (o:Option V) (s:St):Option (R×St):=match o with|some v=>some (.ret v,s)|none=>none
def CO {o:Option V} {s s':St} {r:R} (h:ov o s=some (r,s')): ∃v,o=some v∧r= .ret v∧s'=s:=by
 cases o with
 | none=>cases h
 | some v=>cases h;exact⟨v,rfl,rfl,rfl⟩
def os (o:Option St):Option (R×St):=match o with|some s=>some (.ret (.t []),s)|none=>none
def iZ {o:Option St} {s':St} {r:R} (h:os o=some (r,s')):o=some s'∧r= .ret (.t []):=by
 cases o with
 | none=>cases h
 | some v=>cases h;exact⟨rfl,rfl⟩
def ZB (o:Option (V×St)):Option (R×St):=match o with|some (v,s)=>some (.ret v,s)|none=>none
def LK {o:Option (V×St)} {s':St} {r:R} (h:ZB o=some (r,s')): ∃v,o=some (v,s')∧r= .ret v:=by
 cases o with
 | none=>cases h
 | some v=>cases h;exact⟨_,rfl,rfl⟩
def J1 (env:Env):Option Bj→Option (Option V)
 | none=>some none
 | some x=>match DM env x with|some v=>some (some v)|none=>none
def MO (he:RE ρ env env₀) {x:Option Bj} {v:Option V} (h:J1 env x=some v): ∃v',HD env₀ x=some v'∧kx ρ v v':=by
 cases x with
 | none=>cases h;exact⟨none,rfl,rfl⟩
 | some x=>
   simp only[J1]at h;split at h
   ·rename_i u hu
    cases h;obtain⟨v',h1,h2⟩:=Ax he hu;exact⟨some v',by simp only[HD,h1],v',h2,rfl⟩
   ·cases h
def bb (t:TypeId) (z:V) (ok:Bool) (x:V):Option V:=
 match x with
 | .Er t' v=>bif Nat.beq t' t then some (bif ok then .t [v,.b true]else v)else(bif ok&&BL z then some (.t [z,.b false])else none)
 | .Db=>bif ok&&BL z then some (.t [z,.b false])else none
 | _=>none
def L7 (x:V):Option V:=
 match x with
 | .p n off=>some (.p n off)
 | .rp cs=>some (.rp cs)
 | .pe n sz i off=>some (.pe n sz i off)
 | .f (.func f) a b=>some (.f (.func f) a b)
 | .f (.yield f) a b=>some (.f (.yield f) a b)
 | _=>none
def FZ (cf:CF) (cv:CV) (cp:CP) (o:Fa) (env:Env) (s:St):Option (R×St):=
 match o with
 | .mv x=>ov (DM env x) s
 | .gN x=>ov (DM env x) s
 | .pick c a b=>ob (DM env c) fun vc=>ob (DM env a) fun va=>ob (DM env b) fun vb=>match vc with| .b t=>some (.ret (bif t then va else vb),s)|_=>none
 | .bin op x y=>ob (DM env x) fun vx=>ob (DM env y) fun vy=>ov (Tq op vx vy) s
 | .gU neg x y=>ob (DM env x) fun vx=>ob (DM env y) fun vy=>match vx,vy with| .b p,.b q=>some (.ret (.b (bif neg then p != q else p==q)),s)|_,_=>none
 | .not x=>ob (DM env x) fun vx=>match vx with| .b p=>some (.ret (.b (!p)),s)|_=>none
 | .neg xor x=>ob (DM env x) fun vx=>match vx with| .i ka a=>some (.ret (.i ka (bif xor then bits .xor ka (bif ka.signed then -1 else ka.max) a else ka.wrap (0 - a))),s)|_=>none
 | .conv ka x=>ob (DM env x) fun vx=>match vx with| .i _ a=>some (.ret (.i ka (IB ka a)),s)|_=>none
 | .box x=>ob (DM env x) fun vx=>ob (cellsOf vx) fun cs=>s.new (.cs cs) fun i s'=>some (.ret (.p i 0),s')
 | .P6 x=>ob (DM env x) fun vx=>ob (cellsOf vx) fun cs=>some (.ret (.rp cs),s)
 | .P7 sz b x y=>ob (DM env x) fun vx=>ob (DM env y) fun vy=>ov (UB b s sz vx vy) s
 | .alloc z=>bif B6 z then s.new (.cs z) fun i s'=>some (.ret (.p i 0),s')else none
 | .build z parts=>bif B6 z then ob (L9 env z parts) fun cs=>some (.ret (.a cs),s)else none
 | .Gy _ len z parts=>bif B6 z then ob (MA env z.length (List.replicate len z) parts) fun es=>some (.ret (.l es true),s)else none
 | .load agg x=>ob (DM env x) fun vx=>ov (Mz s agg vx) s
 | .store sz a x=>ob (DM env a) fun va=>ob (DM env x) fun vx=>os (OV s sz va vx)
 | .GU off x=>ob (DM env x) fun vx=>ov (SJ off vx) s
 | .field agg off x=>ob (DM env x) fun vx=>match vx with| .a cs=>ov (Tn agg cs off) s|_=>none
 | .Ko sz arr x i=>ob (DM env x) fun vx=>ob (DM env i) fun vi=>ov (L8 sz arr vx vi) s
 | .index len sz agg x i=>ob (DM env x) fun vx=>ob (DM env i) fun vi=>ov (OX len sz agg vx vi) s
 | .slice sz x lo hi mx=>ob (DM env x) fun vx=>ob (J1 env lo) fun l=>ob (J1 env hi) fun h=>ob (J1 env mx) fun m=>ZB (OW s sz vx l h m)
 | .len x=>ob (DM env x) fun vx=>ov (ZR vx) s
 | .Rn x=>ob (DM env x) fun vx=>ov (T9 s vx) s
 | .Tc x i=>ob (DM env x) fun vx=>ob (DM env i) fun vi=>ov (T8 vx vi) s
 | .str x=>ob (DM env x) fun vx=>ov (bc s vx) s
 | .append sz b x y=>ob (DM env x) fun vx=>ob (DM env y) fun vy=>ZB (K8 b s sz vx vy)
 | .copy sz x y=>ob (DM env x) fun vx=>ob (DM env y) fun vy=>ZB (UA s sz vx vy)
 | .Tf x y=>ob (DM env x) fun vx=>ob (DM env y) fun vy=>match vx,vy with| .i ka a,.i kb b=>bif decide (ka=kb)then some (.ret (.i ka (bif Ln a b then b else a)),s)else none|_,_=>none
 | .Te x y=>ob (DM env x) fun vx=>ob (DM env y) fun vy=>match vx,vy with| .i ka a,.i kb b=>bif decide (ka=kb)then some (.ret (.i ka (bif Ln b a then b else a)),s)else none|_,_=>none
 | .extract i x=>ob (DM env x) fun vx=>match vx with| .t vs=>ov (vs[i]?) s|_=>none
 | .IE x=>ob (DM env x) fun vx=>ov (L7 vx) s
 | .bB f first cap=>ob (NT env first) fun vf=>ob (NT env cap) fun vc=>bif Lz f then some (.ret (.f f vf vc),s)else none
 | .Mu t x=>ob (DM env x) fun vx=>some (.ret (.Er t vx),s)
 | .a7 t z ok x=>ob (DM env x) fun vx=>ov (bb t z ok vx) s
 | .panic x=>ob (DM env x) fun vx=>match vx with| .Er t v=>some (.Bf (.Er t v),s)|_=>none
 | .call f args=>ob (NT env args) fun vs=>cf f vs s
 | .gT len neg x y=>ob (DM env x) fun vx=>ob (DM env y) fun vy=>ov (bg len neg vx vy) s
 | .bG kind neg x=>ob (DM env x) fun vx=>ov (bf kind neg vx) s
 | .Fh sz _ z x y=>ob (DM env x) fun vx=>ob (DM env y) fun vy=>ZB (I2 s sz z vx vy)
 | .Mt=>s.new (.map []) fun i s'=>some (.ret (.m i),s')
 | .lookup ks z ok m key=>ob (DM env m) fun vm=>ob (DM env key) fun vk=>ov (K6 s ks z ok vm vk) s
 | .Eh ks m key x=>ob (DM env m) fun vm=>ob (DM env key) fun vk=>ob (DM env x) fun vx=>os (K5 s ks vm vk vx)
 | .Ks f args=>ob (NT env args) fun vs=>ov (cp f vs) s
 | .Ir x args=>ob (DM env x) fun vx=>ob (NT env args) fun vs=>cv vx vs s
 | .inv tab x args=>ob (DM env x) fun vx=>ob (NT env args) fun vs=>match vx with| .Er t v=>ob (look t tab) fun f=>cf f (v::vs) s|_=>none
 | _=>none
def jr {t:TypeId} {z:V} {ok:Bool} {x x' v:V} (h:bb t z ok x=some v) (hx:RV ρ x x') {K:V→Prop} (U: ∀v',RV ρ v v'→K v') :
    match(generalizing:=false) x' with
     | .Er t' v=>(t'=t→K (bif ok then .t [v,.b true]else v))∧(t'≠t→ok=true∧K (.t [z,.b false]))
     | .Db=>ok=true∧K (.t [z,.b false])
     | _=>False:=by
 have zz: ∀ {v},BL z=true→some (V.t [z,.b false])=some v→K (.t [z,.b false])→K v:=fun _ e k=>by cases e;exact k
 unfold bb at h;split at h
 ·rename_i t' u
  obtain⟨u',h1,rfl⟩:=hx;refine⟨fun e=>?_,fun e=>?_⟩
  ·subst e
   rw[Nat.beq_refl]at h;cases h;cases ok with
   | true=>exact U _ (by simp only[cond_true,RV];exact⟨_,Bd.2 (F2.cons h1 (F2.cons (RV.pure _ rfl) F2.nil)),rfl⟩)
   | false=>exact U _ h1
  ·have hb:Nat.beq t' t=false:=by
    cases hb:Nat.beq t' t with
    | false=>rfl
    | true=>exact absurd (Cu hb) e
   rw[hb]at h;obtain⟨h2,h3⟩:=AZ h;simp only[BU]at h2;cases h3;exact⟨h2.1,U _ (by simp only[RV];exact⟨_,Bd.2 (F2.cons (RV.pure _ h2.2) (F2.cons (RV.pure _ rfl) F2.nil)),rfl⟩)⟩
 ·simp only[RV]at hx
  subst hx;obtain⟨h2,h3⟩:=AZ h;simp only[BU]at h2;cases h3;exact⟨h2.1,U _ (by simp only[RV];exact⟨_,Bd.2 (F2.cons (RV.pure _ h2.2) (F2.cons (RV.pure _ rfl) F2.nil)),rfl⟩)⟩
 ·cases h
def aQ {x x' v:V} (h:L7 x=some v) (hx:RV ρ x x') {K:V→Prop} (U: ∀v',RV ρ v v'→K v') :
    match(generalizing:=false) x' with
     | .p n off=>K (.p n off)
     | .rp cs=>K (.rp cs)
     | .pe n sz i off=>K (.pe n sz i off)
     | .f (.func f) first cap=>K (.f (.func f) first cap)
     | .f (.yield l) first cap=>K (.f (.yield l) first cap)
     | _=>False:=by
 have hv:v=x:=by unfold L7 at h;split at h<;>cases h<;>rfl
 subst hv;have hk:=U _ hx;unfold L7 at h;split at h
 ·obtain⟨_,_,rfl⟩:=hx;exact hk
 ·obtain⟨_,_,rfl⟩:=hx;exact hk
 ·obtain⟨_,_,rfl⟩:=hx;exact hk
 ·obtain⟨fn,a,b,h1,_,_,rfl⟩:=hx
  simp only[ZF]at h1;subst h1;exact hk
 ·obtain⟨fn,a,b,h1,_,_,rfl⟩:=hx
  obtain⟨m,_,rfl⟩:=h1;exact hk
 ·cases h
def dB {cf:CF} {cv:CV} {cp:CP} (hcf:KC P cf) (hcv:JK P cv) (hcp:MF P cp) {o:Fa} {s s':St} {r:R} (h:FZ cf cv cp o env s=some (r,s')) (he:RE ρ env env₀) (hs:SR P ρ s σ) {k kp:V→AH→Prop}
    (hk: ∀ρ' r' σ',ρ.le ρ'→ky ρ' r r'→SR P ρ' s' σ'→qk k kp r' σ'):FE P o env₀ σ k kp:=by
 have hv: ∀ {v:V},r= .ret v→s'=s→ ∀v',RV ρ v v'→k v' σ:=fun e1 e2 v' g=>by
  subst e1;subst e2;exact hk ρ (.ret v') σ (.refl _) ⟨v',g,rfl⟩ hs
 have hvs: ∀ {v:V},r= .ret v→ ∀v' σ',RV ρ v v'→SR P ρ s' σ'→k v' σ':=fun e1 v' σ' g g2=>by
  subst e1;exact hk ρ (.ret v') σ' (.refl _) ⟨v',g,rfl⟩ g2
 have hvr: ∀ {v:V},r= .ret v→ ∀ρ' v' σ',ρ.le ρ'→RV ρ' v v'→SR P ρ' s' σ'→k v' σ':=fun e1 ρ' v' σ' g0 g g2=>by
  subst e1;exact hk ρ' (.ret v') σ' g0 ⟨v',g,rfl⟩ g2
 have hu: ∀ {o1:Option St},os o1=some (r,s')→o1=some s'∧ ∀σ',SR P ρ s' σ'→k (.t []) σ':=fun h=>by
  obtain⟨h1,h2⟩:=iZ h;subst h2;exact⟨h1,fun σ' h3=>hk ρ (.ret (.t [])) σ' (.refl _) ⟨_,RV.pure _ rfl,rfl⟩ h3⟩
 cases o<;>simp only[FZ]at h<;>simp only[FE]
 case mv x=>
  obtain⟨v,h1,h2,h3⟩:=CO h;obtain⟨v',e1,e2⟩:=Ax he h1;rw[e1];exact hv h2 h3 _ e2
 case gN x=>
  obtain⟨v,h1,h2,h3⟩:=CO h;obtain⟨v',e1,e2⟩:=Ax he h1;rw[e1];exact⟨v',σ,Sub.refl _,.refl _,hv h2 h3 _ e2⟩
 case pick c a b=>
  replace h:=AV h;obtain⟨vc,h1,h⟩:=h;replace h:=AV h;obtain⟨va,h2,h⟩:=h;replace h:=AV h;obtain⟨vb,h3,h⟩:=h;obtain⟨vc',e1,r1⟩:=Ax he h1;obtain⟨va',e2,r2⟩:=Ax he h2;obtain⟨vb',e3,r3⟩:=Ax he h3;rw[e1,e2,e3];simp only[wv];split at h
  ·rename_i t
   simp only[RV]at r1;subst r1;cases h;have hh:=hv rfl rfl (bif t then va' else vb') (by cases t;exact r3;exact r2);cases t<;>cases va'<;>first|exact hh|(cases vb'<;>exact hh)
  ·cases h
 case bin op x y=>
  replace h:=AV h;obtain⟨vx,h1,h⟩:=h;replace h:=AV h;obtain⟨vy,h2,h⟩:=h;obtain⟨v,h3,h4,h5⟩:=CO h;obtain⟨vx',e1,r1⟩:=Ax he h1;obtain⟨vy',e2,r2⟩:=Ax he h2;obtain⟨p1,p2,p3,p4⟩:=jw h3;rw[e1,e2,RV.gS r1 p1,RV.gS r2 p2];exact p4 (fun v=>k v σ) (hv h4 h5 _ (RV.pure _ p3))
 case gU neg x y=>
  replace h:=AV h;obtain⟨vx,h1,h⟩:=h;replace h:=AV h;obtain⟨vy,h2,h⟩:=h;obtain⟨vx',e1,r1⟩:=Ax he h1;obtain⟨vy',e2,r2⟩:=Ax he h2;rw[e1,e2];split at h
  ·simp only[RV]at r1 r2
   subst r1;subst r2;cases h;exact hv rfl rfl _ (RV.pure _ rfl)
  ·cases h
 case not x=>
  replace h:=AV h;obtain⟨vx,h1,h⟩:=h;obtain⟨vx',e1,r1⟩:=Ax he h1;rw[e1];split at h
  ·simp only[RV]at r1
   subst r1;cases h;exact hv rfl rfl _ (RV.pure _ rfl)
  ·cases h
 case neg xor x=>
  replace h:=AV h;obtain⟨vx,h1,h⟩:=h;obtain⟨vx',e1,r1⟩:=Ax he h1;rw[e1];split at h
  ·simp only[RV]at r1
   subst r1;cases h;exact hv rfl rfl _ (RV.pure _ rfl)
  ·cases h
 case conv ka x=>
  replace h:=AV h;obtain⟨vx,h1,h⟩:=h;obtain⟨vx',e1,r1⟩:=Ax he h1;rw[e1];split at h
  ·simp only[RV]at r1
   subst r1;cases h;have:=hv rfl rfl _ (RV.pure _ rfl);rw[Iw]at this;exact this
  ·cases h
 case box x=>
  replace h:=AV h;obtain⟨vx,h1,h⟩:=h;replace h:=AV h;obtain⟨cs,h2,h⟩:=h;obtain⟨vx',e1,r1⟩:=Ax he h1;obtain⟨cs',e2,r2⟩:=GJ h2 r1;obtain⟨h3,h4⟩:=St.Hm h;cases h4;rw[e1];simp only[wv,e2];intro n hn;obtain⟨ρ',q1,q2,q3⟩:=hs.new h3 hn 0 (o:= .cs cs) (o':= .cs cs') ⟨_,r2,rfl⟩;exact hvr rfl ρ' _ _ q1 (by simp only[RV];exact⟨_,q2,rfl⟩) q3
 case P6 x=>
  replace h:=AV h;obtain⟨vx,h1,h⟩:=h;replace h:=AV h;obtain⟨cs,h2,h⟩:=h;obtain⟨vx',e1,r1⟩:=Ax he h1;obtain⟨cs',e2,r2⟩:=GJ h2 r1;cases h;rw[e1];simp only[wv,e2];exact hv rfl rfl _ (by simp only[RV];exact⟨_,Bd.2 r2,rfl⟩)
 case P7 sz b x y=>
  replace h:=AV h;obtain⟨vx,h1,h⟩:=h;replace h:=AV h;obtain⟨vy,h2,h⟩:=h;obtain⟨v,h3,h4,h5⟩:=CO h;obtain⟨vx',e1,r1⟩:=Ax he h1;obtain⟨vy',e2,r2⟩:=Ax he h2;rw[e1,e2];exact fR hs h3 r1 r2 (hv h4 h5)
 case alloc z=>
  replace h:=AZ h;obtain⟨h0,h⟩:=h;obtain⟨h3,h4⟩:=St.Hm h;cases h4;intro n hn;obtain⟨ρ',q1,q2,q3⟩:=hs.new h3 hn 0 (o:= .cs z) (o':= .cs z) ⟨_,Bd.1 (RL.pure z h0),rfl⟩;exact hvr rfl ρ' _ _ q1 (by simp only[RV];exact⟨_,q2,rfl⟩) q3
 case build z parts=>
  replace h:=AZ h;obtain⟨h0,h⟩:=h;replace h:=AV h;obtain⟨cs,h1,h⟩:=h;cases h;obtain⟨cs',e1,r1⟩:=RF he h1 (Bd.1 (RL.pure z h0));rw[e1];exact hv rfl rfl _ (by simp only[RV];exact⟨_,Bd.2 r1,rfl⟩)
 case Gy b len z parts=>
  replace h:=AZ h;obtain⟨h0,h⟩:=h;replace h:=AV h;obtain⟨cs,h1,h⟩:=h;cases h;obtain⟨cs',e1,r1⟩:=RG he h1 (F2.rep (Bd.1 (RL.pure z h0)) len);rw[e1];exact hv rfl rfl _ (by simp only[RV];exact⟨_,FQ.2 r1,rfl⟩)
 case load agg x=>
  replace h:=AV h;obtain⟨vx,h1,h⟩:=h;obtain⟨v,h3,h4,h5⟩:=CO h;obtain⟨vx',e1,r1⟩:=Ax he h1;rw[e1];exact U2 hs h3 r1 (hv h4 h5)
 case store sz a x=>
  replace h:=AV h;obtain⟨vx,h1,h⟩:=h;replace h:=AV h;obtain⟨vy,h2,h⟩:=h;obtain⟨vx',e1,r1⟩:=Ax he h1;obtain⟨vy',e2,r2⟩:=Ax he h2;obtain⟨h3,h4⟩:=hu h;rw[e1,e2];exact aO hs h3 r1 r2 h4
 case GU off x=>
  replace h:=AV h;obtain⟨vx,h1,h⟩:=h;obtain⟨v,h3,h4,h5⟩:=CO h;obtain⟨vx',e1,r1⟩:=Ax he h1;rw[e1];exact aT h3 r1 (hv h4 h5)
 case field agg off x=>
  replace h:=AV h;obtain⟨vx,h1,h⟩:=h;obtain⟨vx',e1,r1⟩:=Ax he h1;rw[e1];split at h
  ·obtain⟨v,h3,h4,h5⟩:=CO h
   obtain⟨c,g1,rfl⟩:=r1;exact K7 h3 (Bd.1 g1) (hv h4 h5)
  ·cases h
 case Ko sz arr x i=>
  replace h:=AV h;obtain⟨vx,h1,h⟩:=h;replace h:=AV h;obtain⟨vy,h2,h⟩:=h;obtain⟨v,h3,h4,h5⟩:=CO h;obtain⟨vx',e1,r1⟩:=Ax he h1;obtain⟨vy',e2,r2⟩:=Ax he h2;rw[e1,e2];exact aS h3 r1 r2 (hv h4 h5)
 case index len sz agg x i=>
  replace h:=AV h;obtain⟨vx,h1,h⟩:=h;replace h:=AV h;obtain⟨vy,h2,h⟩:=h;obtain⟨v,h3,h4,h5⟩:=CO h;obtain⟨vx',e1,r1⟩:=Ax he h1;obtain⟨vy',e2,r2⟩:=Ax he h2;rw[e1,e2];exact aR h3 r1 r2 (hv h4 h5)
 case slice sz x lo hi mx=>
  replace h:=AV h;obtain⟨vx,h1,h⟩:=h;replace h:=AV h;obtain⟨l,h2,h⟩:=h;replace h:=AV h;obtain⟨hh,h3,h⟩:=h;replace h:=AV h;obtain⟨m,h4,h⟩:=h;obtain⟨v,h5,h6⟩:=LK h;obtain⟨vx',e1,r1⟩:=Ax he h1;obtain⟨l',e2,r2⟩:=MO he h2;obtain⟨hh',e3,r3⟩:=MO he h3;obtain⟨m',e4,r4⟩:=MO he h4;rw[e1,e2,e3,e4];exact aP hs h5 r1 r2 r3 r4 (hvr h6)
 case len x=>
  replace h:=AV h;obtain⟨vx,h1,h⟩:=h;obtain⟨v,h3,h4,h5⟩:=CO h;obtain⟨vx',e1,r1⟩:=Ax he h1;rw[e1];exact jt h3 r1 (hv h4 h5)
 case Rn x=>
  replace h:=AV h;obtain⟨vx,h1,h⟩:=h;obtain⟨v,h3,h4,h5⟩:=CO h;obtain⟨vx',e1,r1⟩:=Ax he h1;rw[e1];exact fP hs h3 r1 (hv h4 h5)
 case Tc x i=>
  replace h:=AV h;obtain⟨vx,h1,h⟩:=h;replace h:=AV h;obtain⟨vi,h2,h⟩:=h;obtain⟨v,h3,h4,h5⟩:=CO h;obtain⟨vx',e1,r1⟩:=Ax he h1;obtain⟨vi',e2,r2⟩:=Ax he h2;rw[e1,e2];exact fO h3 r1 r2 (hv h4 h5)
 case str x=>
  replace h:=AV h;obtain⟨vx,h1,h⟩:=h;obtain⟨v,h3,h4,h5⟩:=CO h;obtain⟨vx',e1,r1⟩:=Ax he h1;rw[e1];exact js hs h3 r1 (hv h4 h5)
 case append sz b x y=>
  replace h:=AV h;obtain⟨vx,h1,h⟩:=h;replace h:=AV h;obtain⟨vy,h2,h⟩:=h;obtain⟨v,h3,h4⟩:=LK h;obtain⟨vx',e1,r1⟩:=Ax he h1;obtain⟨vy',e2,r2⟩:=Ax he h2;rw[e1,e2];exact XN hs h3 r1 r2 (hvr h4)
 case copy sz x y=>
  replace h:=AV h;obtain⟨vx,h1,h⟩:=h;replace h:=AV h;obtain⟨vy,h2,h⟩:=h;obtain⟨v,h3,h4⟩:=LK h;obtain⟨vx',e1,r1⟩:=Ax he h1;obtain⟨vy',e2,r2⟩:=Ax he h2;rw[e1,e2];exact fQ hs h3 r1 r2 (hvs h4)
 case Tf x y=>
  replace h:=AV h;obtain⟨vx,h1,h⟩:=h;replace h:=AV h;obtain⟨vy,h2,h⟩:=h;obtain⟨vx',e1,r1⟩:=Ax he h1;obtain⟨vy',e2,r2⟩:=Ax he h2;rw[e1,e2];split at h
  ·rename_i ka a kb b
   simp only[RV]at r1 r2;subst r1;subst r2;obtain⟨h3,h4⟩:=AZ h;cases h4;refine⟨of_decide_eq_true h3,?_⟩;have:=hv rfl rfl _ (RV.pure _ rfl);rw[OS]at this;by_cases e:a<b
   ·rw[if_pos e];rw[decide_eq_true e]at this;exact this
   ·rw[if_neg e];rw[decide_eq_false e]at this;exact this
  ·cases h
 case Te x y=>
  replace h:=AV h;obtain⟨vx,h1,h⟩:=h;replace h:=AV h;obtain⟨vy,h2,h⟩:=h;obtain⟨vx',e1,r1⟩:=Ax he h1;obtain⟨vy',e2,r2⟩:=Ax he h2;rw[e1,e2];split at h
  ·rename_i ka a kb b
   simp only[RV]at r1 r2;subst r1;subst r2;obtain⟨h3,h4⟩:=AZ h;cases h4;refine⟨of_decide_eq_true h3,?_⟩;have:=hv rfl rfl _ (RV.pure _ rfl);rw[OS]at this;by_cases e:b<a
   ·rw[if_pos e];rw[decide_eq_true e]at this;exact this
   ·rw[if_neg e];rw[decide_eq_false e]at this;exact this
  ·cases h
 case extract i x=>
  replace h:=AV h;obtain⟨vx,h1,h⟩:=h;obtain⟨vx',e1,r1⟩:=Ax he h1;rw[e1];split at h
  ·obtain⟨v,h3,h4,h5⟩:=CO h
   obtain⟨c,g1,rfl⟩:=r1;obtain⟨y,g2,g3⟩:=(Bd.1 g1).get h3;simp only[wv,g2];exact hv h4 h5 _ g3
  ·cases h
 case IE x=>
  replace h:=AV h;obtain⟨vx,h1,h⟩:=h;obtain⟨v,h3,h4,h5⟩:=CO h;obtain⟨vx',e1,r1⟩:=Ax he h1;rw[e1];exact aQ (K:=fun v=>k v σ) h3 r1 (hv h4 h5)
 case bB f first cap=>
  replace h:=AV h;obtain⟨vf,h1,h⟩:=h;replace h:=AV h;obtain⟨vc,h2,h⟩:=h;obtain⟨h3,h4⟩:=AZ h;cases h4;obtain⟨vf',e1,r1⟩:=Ht he h1;obtain⟨vc',e2,r2⟩:=Ht he h2;rw[e1,e2];refine hv rfl rfl _ ?_;simp only[RV];exact⟨f,vf',vc',by cases f<;>first|rfl|(simp[Lz]at h3),Bd.2 r1,Bd.2 r2,rfl⟩
 case Mu t x=>
  replace h:=AV h;obtain⟨vx,h1,h⟩:=h;cases h;obtain⟨vx',e1,r1⟩:=Ax he h1;rw[e1];exact hv rfl rfl _ (by simp only[RV];exact⟨_,r1,rfl⟩)
 case a7 t z ok x=>
  replace h:=AV h;obtain⟨vx,h1,h⟩:=h;obtain⟨v,h3,h4,h5⟩:=CO h;obtain⟨vx',e1,r1⟩:=Ax he h1;rw[e1];exact jr (K:=fun v=>k v σ) h3 r1 (hv h4 h5)
 case panic x=>
  replace h:=AV h;obtain⟨vx,h1,h⟩:=h;obtain⟨vx',e1,r1⟩:=Ax he h1;rw[e1];split at h
  ·rename_i t v
   obtain⟨v',g1,rfl⟩:=r1;cases h;exact hk ρ (.Bf (.Er t v')) σ (.refl _) ⟨_,by simp only[RV];exact⟨v',g1,rfl⟩,rfl⟩ hs
  ·cases h
 case call f args=>
  replace h:=AV h;obtain⟨vs,h1,h⟩:=h;obtain⟨vs',e1,r1⟩:=Ht he h1;rw[e1];exact hcf f vs s r s' h ρ vs' σ r1 hs _ hk
 case gT len neg x y=>
  replace h:=AV h;obtain⟨vx,h1,h⟩:=h;replace h:=AV h;obtain⟨vy,h2,h⟩:=h;obtain⟨v,h3,h4,h5⟩:=CO h;obtain⟨vx',e1,r1⟩:=Ax he h1;obtain⟨vy',e2,r2⟩:=Ax he h2;rw[e1,e2];exact jv h3 r1 r2 (hv h4 h5)
 case bG kind neg x=>
  replace h:=AV h;obtain⟨vx,h1,h⟩:=h;obtain⟨v,h3,h4,h5⟩:=CO h;obtain⟨vx',e1,r1⟩:=Ax he h1;rw[e1];exact ju h3 r1 (hv h4 h5)
 case Fh sz b z x y=>
  replace h:=AV h;obtain⟨vx,h1,h⟩:=h;replace h:=AV h;obtain⟨vy,h2,h⟩:=h;obtain⟨v,h3,h4⟩:=LK h;obtain⟨vx',e1,r1⟩:=Ax he h1;obtain⟨vy',e2,r2⟩:=Ax he h2;rw[e1,e2];exact Vj hs h3 r1 r2 (hvr h4)
 case Mt=>
  obtain⟨h3,h4⟩:=St.Hm h;cases h4;intro n hn;obtain⟨ρ',q1,q2,q3⟩:=hs.new h3 hn 0 (o:= .map []) (o':= .map []) ⟨[],F2.nil,rfl⟩;exact hvr rfl ρ' _ _ q1 (by simp only[RV];exact⟨_,q2,rfl⟩) q3
 case lookup ks z ok m key=>
  replace h:=AV h;obtain⟨vx,h1,h⟩:=h;replace h:=AV h;obtain⟨vy,h2,h⟩:=h;obtain⟨v,h3,h4,h5⟩:=CO h;obtain⟨vx',e1,r1⟩:=Ax he h1;obtain⟨vy',e2,r2⟩:=Ax he h2;rw[e1,e2];exact XM hs h3 r1 r2 (hv h4 h5)
 case Eh ks m key x=>
  replace h:=AV h;obtain⟨vx,h1,h⟩:=h;replace h:=AV h;obtain⟨vy,h2,h⟩:=h;replace h:=AV h;obtain⟨vz,h3,h⟩:=h;obtain⟨vx',e1,r1⟩:=Ax he h1;obtain⟨vy',e2,r2⟩:=Ax he h2;obtain⟨vz',e3,r3⟩:=Ax he h3;obtain⟨h4,h5⟩:=hu h;rw[e1,e2,e3];exact XL hs h4 r1 r2 r3 h5
 case Ks f args=>
  replace h:=AV h;obtain⟨vs,h1,h⟩:=h;obtain⟨v,h3,h4,h5⟩:=CO h;obtain⟨vs',e1,r1⟩:=Ht he h1;obtain⟨p1,p2,p3⟩:=hcp f vs v h3;rw[e1,gk r1 p1];exact⟨v,p3,hv h4 h5 _ (RV.pure _ p2)⟩
 case Ir x args=>
  replace h:=AV h;obtain⟨vx,h1,h⟩:=h;replace h:=AV h;obtain⟨vs,h2,h⟩:=h;obtain⟨vx',e1,r1⟩:=Ax he h1;obtain⟨vs',e2,r2⟩:=Ht he h2;rw[e1,e2];exact hcv vx vs s r s' h ρ vx' vs' σ r1 r2 hs _ hk
 case inv tab x args=>
  replace h:=AV h;obtain⟨vx,h1,h⟩:=h;replace h:=AV h;obtain⟨vs,h2,h⟩:=h;obtain⟨vx',e1,r1⟩:=Ax he h1;obtain⟨vs',e2,r2⟩:=Ht he h2;rw[e1,e2];split at h
  ·rename_i t v
   obtain⟨v',g1,rfl⟩:=r1;obtain⟨f,h3,h4⟩:=AV h;simp only[wv,ws,A2,h3];exact hcf f (v::vs) s r s' h4 ρ (v'::vs') σ (F2.cons g1 r2) hs _ hk
  ·cases h
 all_goals cases h
end Go.Gl
