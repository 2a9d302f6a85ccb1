import Derived.Test.YtijbpgdmpejgoaaGreatQ22
set_option linter.all false
set_option linter.unusedVariables false
set_option linter.unusedSimpArgs false
namespace Go.Gl
variable {P:Program} {ρ ρ':Ren} {σ:AH} {env env₀:Env}
structure St where
 nx:Nat
 t:Tr EO
def RK (ρ:Ren) (a b:V×V):Prop:=RV ρ a.1 b.1∧RV ρ a.2 b.2
def RBe (ρ:Ren) (a b:Nat×V):Prop:=b.1=a.1∧RV ρ a.2 b.2
abbrev RE (ρ:Ren):Env→Env→Prop:=F2 (RBe ρ)
abbrev Kh (ρ:Ren):List V→List V→Prop:=F2 (RV ρ)
abbrev ZV (ρ:Ren):List (List V)→List (List V)→Prop:=F2 (F2 (RV ρ))
def RO (P:Program) (ρ:Ren) (cap:Nat):EO→O→Prop
 | .cs vs,o=> ∃vs',Kh ρ vs vs'∧o= .cs vs'
 | .arr sz es,o=> ∃es',ZV ρ es es'∧o= .arr sz es' cap
 | .map kvs,o=> ∃kvs',F2 (RK ρ) kvs kvs'∧o= .map kvs'
 | .loop st env ps a b,o=> ∃env',RE ρ env env'∧o= .loop st env' (CQ P ps a b)
def Lw:Nat:=1000000000
structure SR (P:Program) (ρ:Ren) (s:St) (σ:AH):Prop where
 get: ∀i o,s.t.get i=some o→ ∃m,ρ i=some m∧ ∃o',σ m.1=some o'∧RO P ρ m.2 o o'
 inj: ∀i j o o' m m',s.t.get i=some o→s.t.get j=some o'→ρ i=some m→ρ j=some m'→m.1=m'.1→i=j
 ri: ∀i,s.nx≤i→ρ i=none
 lim:s.nx≤Lw+1
theorem Kh.mono (h:ρ.le ρ') {a b:List V} (k:Kh ρ a b):Kh ρ' a b:=F2.mono (fun _ _=>RV.mono h _ _) k
theorem ZV.mono (h:ρ.le ρ') {a b:List (List V)} (k:ZV ρ a b):ZV ρ' a b:=F2.mono (fun _ _=>Kh.mono h) k
theorem RE.mono (h:ρ.le ρ') {a b:Env} (k:RE ρ a b):RE ρ' a b:=F2.mono (fun _ _ k=>⟨k.1,RV.mono h _ _ k.2⟩) k
theorem RO.mono (h:ρ.le ρ') {c:Nat} {a:EO} {b:O} (k:RO P ρ c a b):RO P ρ' c a b:=by
 cases a with
 | cs vs=>obtain⟨v,h1,h2⟩:=k;exact⟨v,h1.mono h,h2⟩
 | arr sz es=>obtain⟨v,h1,h2⟩:=k;exact⟨v,h1.mono h,h2⟩
 | map kvs=>obtain⟨v,h1,h2⟩:=k;exact⟨v,F2.mono (fun _ _ k=>⟨RV.mono h _ _ k.1,RV.mono h _ _ k.2⟩) h1,h2⟩
 | loop st env ps a b=>obtain⟨v,h1,h2⟩:=k;exact⟨v,h1.mono h,h2⟩
theorem X0 {k:Nat} (h:k≤Lw):k+1<2 ^ BL:=by simp only[Lw,BL]at *;omega
theorem SR.lt {s:St} (hs:SR P ρ s σ) {i:Nat} {m:Nat×Nat} (h:ρ i=some m):i≤Lw:=by
 have h1:=hs.ri i;have h2:=hs.lim;rcases Nat.lt_or_ge i s.nx with h3|h3
 ·omega
 ·rw[h1 h3]at h;cases h
theorem SR.new {s:St} (hs:SR P ρ s σ) (hl:s.nx≤Lw) {n:Nat} (hn:σ n=none) (cap:Nat) {o:EO} {o':O} (ho:RO P ρ cap o o') :
 ∃ρ',ρ.le ρ'∧ρ' s.nx=some (n,cap)∧SR P ρ' ⟨s.nx+1,Tr.set (some o) BL s.t s.nx⟩ (BI σ n o'):=by
 have hle:ρ.le (fun i=>if i=s.nx then some (n,cap)else ρ i):=fun i m h=>by
  have:i≠s.nx:=fun e=>by rw[hs.ri i (by omega)]at h;cases h
  simp[this,h]
 refine⟨_,hle,by simp,⟨fun i o1 h1=>?_,fun i j o1 o2 m m' h1 h2 h3 h4 h5=>?_,fun i hi=>?_,by show s.nx+1≤_;omega⟩⟩
 ·rw[Tr.ES _ _ _ (X0 hl)]at h1
  by_cases e:i=s.nx
  ·rw[if_pos e]at h1
   cases h1;exact⟨(n,cap),by simp[e],o',Dd _ _ _,ho.mono hle⟩
  ·rw[if_neg e]at h1
   obtain⟨m,h2,o2,h3,h4⟩:=hs.get i o1 h1;refine⟨m,by simp[e,h2],o2,?_,h4.mono hle⟩;rw[Cz _ _ (fun e'=>by rw[e',hn]at h3;cases h3)];exact h3
 ·rw[Tr.ES _ _ _ (X0 hl)]at h1 h2
  by_cases e:i=s.nx<;>by_cases e':j=s.nx
  ·omega
  ·exfalso
   rw[if_neg e']at h2;simp only[e,if_true,JX]at h3;simp only[e',if_false]at h4;obtain⟨m2,h6,o3,h7,_⟩:=hs.get j o2 h2;rw[h6]at h4;cases h4;rw[←h5,←h3,hn]at h7;cases h7
  ·exfalso
   rw[if_neg e]at h1;simp only[e',if_true,JX]at h4;simp only[e,if_false]at h3;obtain⟨m2,h6,o3,h7,_⟩:=hs.get i o1 h1;rw[h6]at h3;cases h3;rw[h5,←h4,hn]at h7;cases h7
  ·rw[if_neg e]at h1
   rw[if_neg e']at h2;simp only[e,if_false]at h3;simp only[e',if_false]at h4;exact hs.inj i j o1 o2 m m' h1 h2 h3 h4 h5
 ·have hi':s.nx+1≤i:=hi
  have:i≠s.nx:=by omega
  simp only[this,if_false];exact hs.ri i (by omega)
theorem SR.BI {s:St} (hs:SR P ρ s σ) {i:Nat} {m:Nat×Nat} {o:EO} (hi:s.t.get i=some o) (hm:ρ i=some m) {o1:EO} {o1':O} (ho:RO P ρ m.2 o1 o1') :
 SR P ρ ⟨s.nx,Tr.set (some o1) BL s.t i⟩ (Gl.BI σ m.1 o1'):=by
 have hl:=X0 (hs.lt hm);refine⟨fun j o2 h1=>?_,fun j j' o2 o3 m1 m2 h1 h2 h3 h4 h5=>?_,hs.ri,hs.lim⟩
 ·rw[Tr.ES _ _ _ hl]at h1
  by_cases e:j=i
  ·subst e
   rw[if_pos rfl]at h1;cases h1;exact⟨m,hm,o1',Dd _ _ _,ho⟩
  ·rw[if_neg e]at h1
   obtain⟨m1,h2,o3,h3,h4⟩:=hs.get j o2 h1;refine⟨m1,h2,o3,?_,h4⟩;rw[Cz _ _ (fun e'=>e (hs.inj j i o2 o m1 m h1 hi h2 hm e'))];exact h3
 ·rw[Tr.ES _ _ _ hl]at h1 h2
  have g1: ∃q,s.t.get j=some q:=by
   by_cases e:j=i
   ·exact⟨o,e ▸ hi⟩
   ·rw[if_neg e]at h1;exact⟨_,h1⟩
  have g2: ∃q,s.t.get j'=some q:=by
   by_cases e:j'=i
   ·exact⟨o,e ▸ hi⟩
   ·rw[if_neg e]at h2;exact⟨_,h2⟩
  obtain⟨q1,g1⟩:=g1;obtain⟨q2,g2⟩:=g2;exact hs.inj j j' q1 q2 m1 m2 g1 g2 h3 h4 h5
theorem SR.del {s:St} (hs:SR P ρ s σ) {i:Nat} {m:Nat×Nat} {o:EO} (hi:s.t.get i=some o) (hm:ρ i=some m) :
 SR P ρ ⟨s.nx,Tr.set none BL s.t i⟩ (Gl.del σ m.1):=by
 have hl:=X0 (hs.lt hm)
 have sub: ∀j q,(Tr.set none BL s.t i).get j=some q→j≠i∧s.t.get j=some q:=fun j q h=>by
  rw[Tr.ES _ _ _ hl]at h;by_cases e:j=i
  ·rw[if_pos e]at h;cases h
  ·rw[if_neg e]at h;exact⟨e,h⟩
 refine⟨fun j o2 h1=>?_,fun j j' o2 o3 m1 m2 h1 h2 h3 h4 h5=>?_,hs.ri,hs.lim⟩
 ·obtain⟨e,h1⟩:=sub j o2 h1
  obtain⟨m1,h2,o3,h3,h4⟩:=hs.get j o2 h1;refine⟨m1,h2,o3,?_,h4⟩;have:m1.1≠m.1:=fun e'=>e (hs.inj j i o2 o m1 m h1 hi h2 hm e')
  simp[Gl.del,this,h3]
 ·exact hs.inj j j' o2 o3 m1 m2 (sub _ _ h1).2 (sub _ _ h2).2 h3 h4 h5
theorem SR.at {s:St} (hs:SR P ρ s σ) {i:Nat} {m:Nat×Nat} {o:EO} (hi:s.t.get i=some o) (hm:ρ i=some m): ∃o',σ m.1=some o'∧RO P ρ m.2 o o':=by
 obtain⟨m',h1,h2⟩:=hs.get i o hi;rw[hm]at h1;cases h1;exact h2
theorem RE.get: ∀ {env env₀:Env},RE ρ env env₀→ ∀ {k:Nat} {v:V},Gl.get k env=some v→ ∃v',Gl.get k env₀=some v'∧RV ρ v v'
 | (j,u)::r,_,⟨y,ys,h1,h2,e⟩,k,v,h=>by
   subst e;obtain⟨j',u'⟩:=y;have e1:j'=j:=h1.1;subst e1;simp only[Gl.get]at h ⊢;cases hb:Nat.beq j' k with
   | true=>rw[hb]at h;simp only[cond_true]at h ⊢;cases h;exact⟨u',rfl,h1.2⟩
   | false=>rw[hb]at h;simp only[cond_false]at h ⊢;exact RE.get h2 h
theorem RE.yO: ∀ {env env₀:Env},RE ρ env env₀→ ∀ {k:Nat},Gl.get k env=none→Gl.get k env₀=none
 | [],_,h,k,_=>by cases h;rfl
 | (j,u)::r,_,⟨y,ys,h1,h2,e⟩,k,h=>by
   subst e;obtain⟨j',u'⟩:=y;have e1:j'=j:=h1.1;subst e1;simp only[Gl.get]at h ⊢;cases hb:Nat.beq j' k with
   | true=>rw[hb]at h;simp only[cond_true]at h;cases h
   | false=>rw[hb]at h;simp only[cond_false]at h ⊢;exact RE.yO h2 h
def Dj (env:Env):B1→Option V
 | .t n=>get n env
 | .c v=>bif A1 v then some v else none
theorem Ay (he:RE ρ env env₀) {x:B1} {v:V} (h:Dj env x=some v): ∃v',ev env₀ x=some v'∧RV ρ v v':=by
 cases x with
 | t n=>exact he.get h
 | c u=>
   simp only[Dj]at h;cases hb:A1 u with
   | true=>rw[hb]at h;cases h;exact⟨_,rfl,RV.pure _ hb⟩
   | false=>rw[hb]at h;cases h
def NN (env:Env):List B1→Option (List V)
 | []=>some []
 | x ::r=>match Dj env x with
   | some v=>match NN env r with
     | some vs=>some (v::vs)
     | none=>none
   | none=>none
theorem Hy (he:RE ρ env env₀): ∀ {l:List B1} {vs:List V},NN env l=some vs→ ∃vs',Sj env₀ l=some vs'∧Kh ρ vs vs'
 | [],_,h=>by cases h;exact⟨[],rfl,rfl⟩
 | x ::r,vs,h=>by
   simp only[NN]at h;split at h
   ·rename_i v hv
    split at h
    ·rename_i us hu
     cases h;obtain⟨v',h1,h2⟩:=Ay he hv;obtain⟨vs',h3,h4⟩:=Hy he hu;exact⟨v'::vs',by simp only[Sj,h1,h3],F2.cons h2 h4⟩
    ·cases h
   ·cases h
def IG (k:IntKind) (n:Int):Int:=
 match k,n with
 | .i64,.ofNat m=>bif Nat.ble m 9223372036854775807 then .ofNat m else IntKind.i64.wrap (.ofNat m)
 | .u64,.ofNat m=>bif Nat.ble m 18446744073709551615 then .ofNat m else IntKind.u64.wrap (.ofNat m)
 | k,n=>k.wrap n
theorem wrap_u64 {n:Int} (h1:0≤n) (h2:n≤18446744073709551615):IntKind.u64.wrap n=n:=by
 have e:IntKind.u64.wrap n=n % 18446744073709551616:=by simp[IntKind.wrap,IntKind.bits,IntKind.signed]
 rw[e];omega
theorem ofNat_eq (m:Nat):Int.ofNat m=(m:Int):=rfl
theorem Iy (k:IntKind) (n:Int):IG k n=k.wrap n:=by
 unfold IG;split
 ·rename_i m
  cases h:Nat.ble m 9223372036854775807 with
  | true=>
    have h':m≤9223372036854775807:=by rw[Nat.ble_eq]at h;exact h
    rw[cond_true,ofNat_eq];exact(wrap64 (by omega) (by omega)).symm
  | false=>rfl
 ·rename_i m
  cases h:Nat.ble m 18446744073709551615 with
  | true=>
    have h':m≤18446744073709551615:=by rw[Nat.ble_eq]at h;exact h
    rw[cond_true,ofNat_eq];exact(wrap_u64 (by omega) (by omega)).symm
  | false=>rfl
 ·rfl
def Lt (a b:Int):Bool:=
 match a,b with
 | .ofNat m,.ofNat n=>Nat.ble (m+1) n
 | .negSucc _,.ofNat _=>true
 | .ofNat _,.negSucc _=>false
 | .negSucc m,.negSucc n=>Nat.ble (n+1) m
theorem OL (a b:Int):Lt a b=decide (a<b):=by
 cases a<;>cases b<;>simp only[Lt]
 ·rename_i m n
  rw[Bool.eq_iff_iff,Nat.ble_eq,D8];simp;omega
 ·rename_i m n
  symm;rw[decide_eq_false_iff_not];simp;omega
 ·rename_i m n
  symm;rw[D8];simp;omega
 ·rename_i m n
  rw[Bool.eq_iff_iff,Nat.ble_eq,D8];omega
def Nw (a b:Int):Bool:= !Lt b a
theorem aU (a b:Int):Nw a b=decide (a≤b):=by
 rw[Nw,OL,Bool.eq_iff_iff];simp
def Xw (a b:Int):Bool:=
 match a,b with
 | .ofNat m,.ofNat n=>Nat.beq m n
 | .negSucc m,.negSucc n=>Nat.beq m n
 | _,_=>false
theorem Rp (a b:Int):Xw a b=(a==b):=by
 cases a<;>cases b<;>simp only[Xw]
 ·rename_i m n
  rw[Bool.eq_iff_iff,Nat.beq_eq,FQ];exact⟨fun e=>by rw[e],fun e=>by cases e;rfl⟩
 ·rename_i m n
  rw[Bool.eq_iff_iff,FQ];exact⟨fun e=>(by cases e),fun e=>by cases e⟩
 ·rename_i m n
  rw[Bool.eq_iff_iff,FQ];exact⟨fun e=>(by cases e),fun e=>by cases e⟩
 ·rename_i m n
  rw[Bool.eq_iff_iff,Nat.beq_eq,FQ];exact⟨fun e=>by rw[e],fun e=>by cases e;rfl⟩
theorem EY {a b:Int} (h:Nw a b=true):a≤b:=by rw[aU]at h;exact of_decide_eq_true h
theorem L4 {a b:Int} (h:Lt a b=true):a<b:=by rw[OL]at h;exact of_decide_eq_true h
def OH (op:BinOp) (k:IntKind) (x y:Int):Int:=
 match k,x,y with
 | .u64,.ofNat a,.ofNat b=>bif Nat.ble a 18446744073709551615&&Nat.ble b 18446744073709551615 then
  match op with
  | .and=> .ofNat (Nat.land a b)
  | .or=> .ofNat (Nat.lor a b)
  | op=>bits op .u64 (.ofNat a) (.ofNat b)
   else bits op .u64 (.ofNat a) (.ofNat b)
 | k,x,y=>bits op k x y
theorem dB (op:BinOp) (k:IntKind) (x y:Int):OH op k x y=bits op k x y:=by
 unfold OH;split
 ·rename_i a b
  cases h:Nat.ble a 18446744073709551615&&Nat.ble b 18446744073709551615 with
  | false=>rfl
  | true=>
    simp only[Bn]at h;have h1:=Nat.le_of_ble_eq_true h.1;have h2:=Nat.le_of_ble_eq_true h.2
    have e1:(BitVec.ofInt 64 (Int.ofNat a)).toNat=a:=by
     rw[show Int.ofNat a=(a:Int) from rfl,BitVec.ofInt_natCast,BitVec.toNat_ofNat];omega
    have e2:(BitVec.ofInt 64 (Int.ofNat b)).toNat=b:=by
     rw[show Int.ofNat b=(b:Int) from rfl,BitVec.ofInt_natCast,BitVec.toNat_ofNat];omega
    simp only[cond_true];split
    ·have e3:bits .and .u64 (Int.ofNat a) (Int.ofNat b)=IntKind.u64.wrap (((BitVec.ofInt 64 (Int.ofNat a))&&&(BitVec.ofInt 64 (Int.ofNat b))).toNat:Int):=rfl
     rw[e3,BitVec.toNat_and,e1,e2];have:a&&&b<2 ^ 64:=Nat.and_lt_two_pow _ (by omega);rw[wrap_u64 (by omega) (by omega)];rfl
    ·have e3:bits .or .u64 (Int.ofNat a) (Int.ofNat b)=IntKind.u64.wrap (((BitVec.ofInt 64 (Int.ofNat a))|||(BitVec.ofInt 64 (Int.ofNat b))).toNat:Int):=rfl
     rw[e3,BitVec.toNat_or,e1,e2];have:a|||b<2 ^ 64:=Nat.or_lt_two_pow (by omega) (by omega)
     rw[wrap_u64 (by omega) (by omega)];rfl
    ·rfl
 ·rfl
def S3 (op:BinOp) (x y:V):Option V:=
 match x,y with
 | .i ka a,.i kb b=>
   match op with
   | .add=>bif decide (ka=kb)then some (.i ka (IG ka (a+b)))else none
   | .sub=>bif decide (ka=kb)then some (.i ka (IG ka (a - b)))else none
   | .mul=>bif decide (ka=kb)then some (.i ka (IG ka (a*b)))else none
   | .quo=>bif decide (ka=kb)&& !Xw b 0 then some (.i ka (IG ka (a.tdiv b)))else none
   | .rem=>bif decide (ka=kb)&& !Xw b 0 then some (.i ka (a.tmod b))else none
   | .eql=>bif decide (ka=kb)then some (.b (Xw a b))else none
   | .neq=>bif decide (ka=kb)then some (.b (!Xw a b))else none
   | .lss=>bif decide (ka=kb)then some (.b (Lt a b))else none
   | .leq=>bif decide (ka=kb)then some (.b (Nw a b))else none
   | .gtr=>bif decide (ka=kb)then some (.b (Lt b a))else none
   | .geq=>bif decide (ka=kb)then some (.b (Nw b a))else none
   | .shl=>bif Nw 0 b then some (.i ka (IG ka (a*2 ^ (min b.toNat ka.bits))))else none
   | .shr=>bif Nw 0 b then some (.i ka (a.fdiv (2 ^ (min b.toNat ka.bits))))else none
   | op=>bif decide (ka=kb)then some (.i ka (OH op ka a b))else none
 | _,_=>none
theorem AY {α:Type} {c:Bool} {x:Option α} {v:α} (h:(bif c then x else none)=some v):c=true∧x=some v:=by
 cases c with
 | true=>exact⟨rfl,h⟩
 | false=>cases h
theorem kK {op:BinOp} {x y v:V} (h:S3 op x y=some v):A1 x=true∧A1 y=true∧A1 v=true∧ ∀K:V→Prop,K v→Sw op x y K:=by
 unfold S3 at h;split at h
 ·rename_i ka a kb b
  refine⟨rfl,rfl,?_⟩
  cases op<;>simp only at h<;>obtain⟨h1,h2⟩:=AY h<;>cases h2<;>refine⟨rfl,fun K U=>?_⟩<;>
   (try simp only[Bn,D8,Bool.not_eq_true',Rp,beq_eq_false_iff_ne]at h1)<;>
   (try simp only[Iy,OL,aU,Rp,dB]at U)<;>simp only[Sw]
  all_goals first
   | exact⟨h1,U⟩
   | exact⟨h1.1,h1.2,U⟩
   | exact⟨EY h1,U⟩
 ·cases h
theorem GQ {v v':V} {cs:List V} (h:cellsOf v=some cs) (hv:RV ρ v v'): ∃cs',cellsOf v'=some cs'∧Kh ρ cs cs':=by
 cases v with
 | a cs0=>
   cases h;obtain⟨c,h1,rfl⟩:=hv;exact⟨c,rfl,Bs.1 h1⟩
 | t _=>cases h
 | any=>cases h
 | _ =>
   cases h
   have:cellsOf v'=some [v']:=by
    simp only[RV]at hv
    first
     | (rw[hv];rfl)
     | (obtain⟨_,_,hv⟩:=hv;rw[hv];rfl)
     | (obtain⟨_,_,_,_,_,_,hv⟩:=hv;rw[hv];rfl)
   exact⟨[v'],this,F2.cons hv F2.nil⟩
theorem fE {v v':V} (hv:RV ρ v v'):Cb v'=Cb v:=by
 cases v<;>simp only[RV]at hv<;>first
  | (rw[hv];done)
  | (obtain⟨_,_,hv⟩:=hv;rw[hv];rfl)
  | (obtain⟨_,_,_,_,_,_,hv⟩:=hv;rw[hv];rfl)
theorem Xi {vs vs':List V} (h:vs.all Cb=true) (hv:Kh ρ vs vs'):vs'.all Cb=true:=by
 rw[IU]at *;intro v hm;obtain⟨u,hu,hr⟩:=F2.mem hv hm;rw[fE hr];exact h u hu
theorem LY {vs vs':List (List V)} (h:(vs.all fun e=>e.all Cb)=true) (hv:ZV ρ vs vs'): ∀e∈vs',∀v∈e,Cb v=true:=by
 rw[IU]at h;intro e he;obtain⟨u,hu,hr⟩:=F2.mem hv he;have:=Xi (h u hu) hr
 rwa [IU]at this
theorem Nu {sz:Nat} {vs vs':List (List V)} (h:(vs.all fun e=>Nat.beq e.length sz)=true) (hv:ZV ρ vs vs'): ∀e∈vs',e.length=sz:=by
 rw[IU]at h;intro e he;obtain⟨u,hu,hr⟩:=F2.mem hv he;rw[hr.len];exact DA (h u hu)
theorem LL: ∀ {vc vc':List V} {cs cs':List V} {off:Nat},Kh ρ cs cs'→Kh ρ vc vc'→Kh ρ (putAt cs off vc) (putAt cs' off vc')
 | [],_,_,_,_,h,h'=>by cases h';exact h
 | _::_,_,_,_,off,h,⟨y,ys,h1,h2,e⟩=>by
   subst e;simp only[putAt];exact LL (h.set off h1) h2
def S0 (agg:Option Nat) (cs:List V) (off:Nat):Option V:=
 match agg with
 | none=>cs[off]?
 | some n=>bif Nat.ble (off+n) cs.length then some (.a ((cs.drop off).take n))else none
theorem K8 {agg:Option Nat} {cs cs':List V} {off:Nat} {v:V} (h:S0 agg cs off=some v) (hc:Kh ρ cs cs') {K:V→Prop} (U: ∀v',RV ρ v v'→K v'):cut agg cs' off K:=by
 cases agg with
 | none=>
   obtain⟨y,h1,h2⟩:=hc.get h;simp only[cut,h1];exact U _ h2
 | some n=>
   obtain⟨h1,h2⟩:=AY h;cases h2;refine⟨by rw[hc.len];exact Nat.le_of_ble_eq_true h1,U _ ?_⟩;simp only[RV];exact⟨_,Bs.2 ((hc.drop off).take n),rfl⟩
def Ms (s:St) (agg:Option Nat) (x:V):Option V:=
 match x with
 | .rp cs=>S0 agg cs 0
 | .p n off=>match s.t.get n with
   | some (.cs vs)=>S0 agg vs off
   | _=>none
 | .pe n sz i off=>match s.t.get n with
   | some (.arr sz' es)=>bif Nat.beq sz sz' then(match es[i]? with|some e=>S0 agg e off|none=>none)else none
   | _=>none
 | _=>none
theorem T8 {s:St} (hs:SR P ρ s σ) {agg:Option Nat} {x x' v:V} (h:Ms s agg x=some v) (hx:RV ρ x x') {K:V→Prop} (U: ∀v',RV ρ v v'→K v'):A7 σ agg x' K:=by
 unfold Ms at h;split at h
 ·obtain⟨c,h1,rfl⟩:=hx
  exact K8 h (Bs.1 h1) U
 ·obtain⟨m,h1,rfl⟩:=hx
  split at h
  ·rename_i vs hg
   obtain⟨o',h2,vs',h3,rfl⟩:=hs.at hg h1;simp only[A7,N9,h2];exact K8 h h3 U
  ·cases h
 ·obtain⟨m,h1,rfl⟩:=hx
  split at h
  ·rename_i es hg
   obtain⟨o',h2,es',h3,rfl⟩:=hs.at hg h1;obtain⟨h4,h5⟩:=AY h;split at h5
   ·rename_i e he
    obtain⟨e',h6,h7⟩:=h3.get he;simp only[A7,OA,h2,h6];exact⟨DA h4,K8 h5 h7 U⟩
   ·cases h5
  ·cases h
 ·cases h
def OO (s : St) (sz:Nat) (a x:V):Option St:=
 match cellsOf x with
 | some vc =>bif Nat.beq vc.length sz&&vc.all Cb then
  match a with
  | .p n off=>match s.t.get n with
    | some (.cs vs)=>bif Nat.ble (off+sz) vs.length then Tr.put (some (.cs (putAt vs off vc))) BL s.t n fun t=>some ⟨s.nx,t⟩else none
    | _=>none
  | .pe n s' i off=>match s.t.get n with
    | some (.arr s1 es)=>bif Nat.beq s' s1&&Nat.ble (off+sz) s' then
     (match es[i]? with|some e=>Tr.put (some (.arr s1 (es.set i (putAt e off vc)))) BL s.t n fun t=>some ⟨s.nx,t⟩|none=>none)else none
    | _=>none
  | _=>none
   else none
 | none=>none
theorem Yz {s s':St} (hs:SR P ρ s σ) {sz:Nat} {a a' x x':V} (h:OO s sz a x=some s') (ha:RV ρ a a') (hx:RV ρ x x') {K:AH→Prop} (U: ∀σ',SR P ρ s' σ'→K σ'):Aq σ sz a' x' K:=by
 unfold OO at h;split at h
 ·rename_i vc hvc
  obtain⟨vc',e1,e2⟩:=GQ hvc hx;obtain⟨h1,h2⟩:=AY h;simp only[Bn]at h1;simp only[Aq,e1];refine⟨by rw[e2.len];exact DA h1.1,Xi h1.2 e2,?_⟩;split at h2
  ·obtain⟨m,g1,rfl⟩:=ha
   split at h2
   ·rename_i vs hg
    obtain⟨o',g2,vs',g3,rfl⟩:=hs.at hg g1;obtain⟨h3,h4⟩:=AY h2;rw[Tr.put_eq]at h4;cases h4;simp only[g2];exact⟨by rw[g3.len];exact Nat.le_of_ble_eq_true h3,U _ (hs.BI hg g1 ⟨_,LL g3 e2,rfl⟩)⟩
   ·cases h2
  ·obtain⟨m,g1,rfl⟩:=ha
   split at h2
   ·rename_i es hg
    obtain⟨o',g2,vs',g3,rfl⟩:=hs.at hg g1;obtain⟨h3,h4⟩:=AY h2;simp only[Bn]at h3;split at h4
    ·rename_i e he
     rw[Tr.put_eq]at h4;cases h4;obtain⟨e',g4,g5⟩:=g3.get he;simp only[g2,g4];have e:=DA h3.1;subst e;exact⟨rfl,Nat.le_of_ble_eq_true h3.2,U _ (hs.BI hg g1 ⟨_,g3.set _ (LL g5 e2),rfl⟩)⟩
    ·cases h4
   ·cases h2
  ·cases h2
 ·cases h
def Rq (off:Nat) (x:V):Option V:=
 match x with
 | .rp cs=>some (.rp (cs.drop off))
 | .p n o=>some (.p n (o+off))
 | .pe n sz i o=>some (.pe n sz i (o+off))
 | _=>none
theorem Y4 {off:Nat} {x x' v:V} (h:Rq off x=some v) (hx:RV ρ x x') {K:V→Prop} (U: ∀v',RV ρ v v'→K v'):KC off x' K:=by
 unfold Rq at h;split at h
 ·obtain⟨c,h1,rfl⟩:=hx
  cases h;exact U _ (by simp only[RV];exact⟨_,Bs.2 ((Bs.1 h1).drop off),rfl⟩)
 ·obtain⟨m,h1,rfl⟩:=hx
  cases h;exact U _ (by simp only[RV];exact⟨m,h1,rfl⟩)
 ·obtain⟨m,h1,rfl⟩:=hx
  cases h;exact U _ (by simp only[RV];exact⟨m,h1,rfl⟩)
 ·cases h
def L9 (sz:Nat) (arr:Option Nat) (x i:V):Option V:=
 match i with
 | .i _ j=>bif Nw 0 j then
  match arr,x with
  | none,.l es _=>match es[j.toNat]? with|some e=>bif Nat.beq e.length sz then some (.rp e)else none|none=>none
  | none,.sl n len _=>bif Lt j len then some (.pe n sz j.toNat 0)else none
  | none,.sv n s off len=>bif Nat.beq s sz&&Lt j len then some (.pe n sz (off+j.toNat) 0)else none
  | some m,.rp cs=>bif Lt j m then some (.rp (cs.drop (j.toNat*sz)))else none
  | some m,.p n o=>bif Lt j m then some (.p n (o+j.toNat*sz))else none
  | some m,.pe n s q o=>bif Lt j m then some (.pe n s q (o+j.toNat*sz))else none
  | _,_=>none
   else none
 | _=>none
theorem Y3 {sz:Nat} {arr:Option Nat} {x x' i i' v:V} (h:L9 sz arr x i=some v) (hx:RV ρ x x') (hi:RV ρ i i') {K:V→Prop} (U: ∀v',RV ρ v v'→K v'):Al sz arr x' i' K:=by
 unfold L9 at h;split at h
 ·rename_i kj j
  simp only[RV]at hi;subst hi;obtain⟨h0,h⟩:=AY h;have h0:=EY h0;split at h
  ·obtain⟨es',h1,rfl⟩:=hx
   split at h
   ·rename_i e he
    obtain⟨h2,h3⟩:=AY h;cases h3;obtain⟨e',h4,h5⟩:=(Fb.1 h1).get he;exact⟨h0,e',h4,by rw[h5.len];exact DA h2,U _ (by simp only[RV];exact⟨e',Bs.2 h5,rfl⟩)⟩
   ·cases h
  ·obtain⟨m,h1,rfl⟩:=hx
   obtain⟨h2,h3⟩:=AY h;cases h3;exact⟨h0,L4 h2,U _ (by simp only[RV];exact⟨m,h1,rfl⟩)⟩
  ·obtain⟨m,h1,rfl⟩:=hx
   obtain⟨h2,h3⟩:=AY h;simp only[Bn]at h2;cases h3;exact⟨DA h2.1,h0,L4 h2.2,U _ (by simp only[RV];exact⟨m,h1,rfl⟩)⟩
  ·obtain⟨c,h1,rfl⟩:=hx
   obtain⟨h2,h3⟩:=AY h;cases h3;exact⟨h0,L4 h2,U _ (by simp only[RV];exact⟨_,Bs.2 ((Bs.1 h1).drop _),rfl⟩)⟩
  ·obtain⟨m,h1,rfl⟩:=hx
   obtain⟨h2,h3⟩:=AY h;cases h3;exact⟨h0,L4 h2,U _ (by simp only[RV];exact⟨m,h1,rfl⟩)⟩
  ·obtain⟨m,h1,rfl⟩:=hx
   obtain⟨h2,h3⟩:=AY h;cases h3;exact⟨h0,L4 h2,U _ (by simp only[RV];exact⟨m,h1,rfl⟩)⟩
  ·cases h
 ·cases h
def OQ (len sz:Nat) (agg:Option Nat) (x i:V):Option V:=
 match x,i with
 | .a cs,.i _ j=>bif Nw 0 j&&Lt j len then S0 agg cs (j.toNat*sz)else none
 | _,_=>none
theorem Y2 {len sz:Nat} {agg:Option Nat} {x x' i i' v:V} (h:OQ len sz agg x i=some v) (hx:RV ρ x x') (hi:RV ρ i i') {K:V→Prop} (U: ∀v',RV ρ v v'→K v'):KB len sz agg x' i' K:=by
 unfold OQ at h;split at h
 ·simp only[RV]at hi
  subst hi;obtain⟨c,h1,rfl⟩:=hx;obtain⟨h2,h3⟩:=AY h;simp only[Bn]at h2;exact⟨EY h2.1,L4 h2.2,K8 h3 (Bs.1 h1) U⟩
 ·cases h
def TK (x i:V):Option V:=
 match x,i with
 | .s b,.i _ j=>bif Nw 0 j then(match b.data.toList[j.toNat]? with|some c=>some (.i .u8 (.ofNat c.toNat))|none=>none)else none
 | _,_=>none
theorem cY {x x' i i' v:V} (h:TK x i=some v) (hx:RV ρ x x') (hi:RV ρ i i') {K:V→Prop} (U: ∀v',RV ρ v v'→K v'):OC x' i' K:=by
 unfold TK at h;split at h
 ·simp only[RV]at hi hx
  subst hi;subst hx;obtain⟨h2,h3⟩:=AY h;refine⟨EY h2,?_⟩;split at h3
  ·rename_i c hc
   cases h3;rw[hc];exact U _ (by simp only[RV];rfl)
  ·cases h3
 ·cases h
def X6 (x:V):Option V:=
 match x with
 | .l es _=>some (.i .i64 (.ofNat es.length))
 | .sl _ len _=>bif Nat.ble len Ak then some (.i .i64 (.ofNat len))else none
 | .sv _ _ _ len=>bif Nat.ble len Ak then some (.i .i64 (.ofNat len))else none
 | _=>none
theorem kH {x x' v:V} (h:X6 x=some v) (hx:RV ρ x x') {K:V→Prop} (U: ∀v',RV ρ v v'→K v'):B8 x' K:=by
 unfold X6 at h;split at h
 ·obtain⟨es',h1,rfl⟩:=hx
  cases h;have:=(Fb.1 h1).len;exact U _ (by simp only[RV];rw[this];rfl)
 ·obtain⟨m,h1,rfl⟩:=hx
  obtain⟨h2,h3⟩:=AY h;cases h3;exact⟨Nat.le_of_ble_eq_true h2,U _ (by simp only[RV];rfl)⟩
 ·obtain⟨m,h1,rfl⟩:=hx
  obtain⟨h2,h3⟩:=AY h;cases h3;exact⟨Nat.le_of_ble_eq_true h2,U _ (by simp only[RV];rfl)⟩
 ·cases h
def TL (s:St) (x:V):Option V:=
 match x with
 | .m n=>match s.t.get n with
   | some (.map kvs)=>bif Nat.ble kvs.length Ak then some (.i .i64 (.ofNat kvs.length))else none
   | _=>none
 | .mn=>some (.i .i64 0)
 | _=>none
theorem cZ {s:St} (hs:SR P ρ s σ) {x x' v:V} (h:TL s x=some v) (hx:RV ρ x x') {K:V→Prop} (U: ∀v',RV ρ v v'→K v'):Jo σ x' K:=by
 unfold TL at h;split at h
 ·obtain⟨m,h1,rfl⟩:=hx
  split at h
  ·rename_i kvs hg
   obtain⟨h2,h3⟩:=AY h;cases h3;obtain⟨o',g2,kvs',g3,rfl⟩:=hs.at hg h1;simp only[Jo,g2];have:=g3.len;exact⟨by rw[this];exact Nat.le_of_ble_eq_true h2,U _ (by simp only[RV];rw[this];rfl)⟩
  ·cases h
 ·cases h
  simp only[RV]at hx;subst hx;exact U _ (by simp only[RV])
 ·cases h
def IN (s:St) (sz:Nat) (y:V):Option (List (List V)):=
 match y with
 | .l ys _=>bif ys.all (fun e=>Nat.beq e.length sz)then some ys else none
 | .sl m len _=>match s.t.get m with
   | some (.arr s' ys)=>bif Nat.beq s' sz&&Nat.ble len ys.length then some (ys.take len)else none
   | _=>none
 | .sv m s1 off len=>match s.t.get m with
   | some (.arr s' ys)=>bif Nat.beq s1 sz&&(Nat.beq s' sz&&Nat.ble (off+len) ys.length)then some ((ys.drop off).take len)else none
   | _=>none
 | _=>none
theorem HR {s:St} (hs:SR P ρ s σ) {sz:Nat} {y y':V} {ys:List (List V)} (h:IN s sz y=some ys) (hy:RV ρ y y') {K:List (List V)→Prop} (U: ∀ys',ZV ρ ys ys'→K ys'):rowsOf σ sz y' K:=by
 unfold IN at h;split at h
 ·obtain⟨es',h1,rfl⟩:=hy
  obtain⟨h2,h3⟩:=AY h;cases h3;exact⟨Nu h2 (Fb.1 h1),U _ (Fb.1 h1)⟩
 ·obtain⟨m,h1,rfl⟩:=hy
  split at h
  ·rename_i es hg
   obtain⟨o',g2,es',g3,rfl⟩:=hs.at hg h1;obtain⟨h2,h3⟩:=AY h;simp only[Bn]at h2;cases h3;simp only[rowsOf,g2];exact⟨DA h2.1,by rw[g3.len];exact Nat.le_of_ble_eq_true h2.2,U _ (g3.take _)⟩
  ·cases h
 ·obtain⟨m,h1,rfl⟩:=hy
  split at h
  ·rename_i es hg
   obtain⟨o',g2,es',g3,rfl⟩:=hs.at hg h1;obtain⟨h2,h3⟩:=AY h;simp only[Bn]at h2;cases h3;simp only[rowsOf,g2];exact⟨DA h2.1,DA h2.2.1,by rw[g3.len];exact Nat.le_of_ble_eq_true h2.2.2,U _ ((g3.drop _).take _)⟩
  ·cases h
 ·cases h
def St.new {β:Type} (s:St) (o:EO) (K:Nat→St→Option β):Option β:=
 match s.nx with
 | 0=>Tr.put (some o) BL s.t 0 fun t=>K 0 ⟨1,t⟩
 | n+1=>bif Nat.ble (n+1) Lw then Tr.put (some o) BL s.t (n+1) fun t=>K (n+1) ⟨n+2,t⟩else none
theorem St.Hq {β:Type} {s:St} {o:EO} {K:Nat→St→Option β} {x:β} (h:s.new o K=some x):s.nx≤Lw∧K s.nx ⟨s.nx+1,Tr.set (some o) BL s.t s.nx⟩=some x:=by
 obtain⟨n,t⟩:=s;cases n with
 | zero=>simp only[St.new]at h;rw[Tr.put_eq]at h;exact⟨by simp[Lw],h⟩
 | succ n=>
   simp only[St.new]at h;obtain⟨h1,h2⟩:=AY h;rw[Tr.put_eq]at h2;exact⟨Nat.le_of_ble_eq_true h1,h2⟩
theorem QR: ∀ {ys ys':List (List V)} {ns:List Int},FD ys=some ns→ZV ρ ys ys'→FD ys'=some ns
 | [],ys',ns,h,hr=>by obtain rfl:ys'= []:=hr;exact h
 | e ::r,ys',ns,h,hr=>by
   unfold FD at h;split at h
   ·cases ‹_= []›
   ·rename_i n r' he
    cases he;obtain⟨e',r'',h1,h2,rfl⟩:=hr;obtain⟨v',l',h3,h4,rfl⟩:=h1;obtain rfl:l'= []:=h4;simp only[RV]at h3;subst h3;split at h
    ·rename_i l hl
     cases h;simp only[FD,QR hl h2]
    ·cases h
   ·cases h
def Zn (s:St) (x:V):Option V:=
 match IN s 1 x with
 | some ys=>match FD ys with
   | some ns=>some (.s ⟨(ns.map fun n=>UInt8.ofNat n.toNat).toArray⟩)
   | none=>none
 | none=>none
theorem kG {s:St} (hs:SR P ρ s σ) {x x' v:V} (h:Zn s x=some v) (hx:RV ρ x x') {K:V→Prop} (U: ∀v',RV ρ v v'→K v'):Zj σ x' K:=by
 unfold Zn at h;split at h
 ·rename_i ys hys
  split at h
  ·rename_i ns hn
   cases h;refine HR hs hys hx fun ys' hr=>?_
   rw[QR hn hr];exact U _ (by simp only[RV])
  ·cases h
 ·cases h
def xr (b L:Nat):Bool:=Nat.ble L 1073741824&&Nat.ble b 131072
theorem Rb {b L:Nat} (h:xr b L=true):L≤Ak∧L*b≤140737488355328:=by
 simp only[xr,Bn]at h;have h1:=Nat.le_of_ble_eq_true h.1;have h2:=Nat.le_of_ble_eq_true h.2;have h3:L*b≤1073741824*131072:=Nat.mul_le_mul h1 h2;exact⟨by unfold Ak;omega,by omega⟩
def K9 (b : Nat) (s:St) (sz:Nat) (x y:V):Option (V×St):=
 match IN s sz y with
 | some ys =>bif ys.all (fun e=>e.all Cb)then
  match x with
  | .l es full=>bif es.all (fun e=>Nat.beq e.length sz)&&xr b (es.length+ys.length)then
   match ys with
   | []=>some (.l es full,s)
   | z::zs=>bif full then s.new (.arr sz (es++z::zs)) fun i s'=>some (.sl i (es.length+(z::zs).length) 0,s')else none
    else none
  | .sl n len _=>match s.t.get n with
    | some (.arr s1 es)=>bif Nat.beq s1 sz&&(Nat.beq len es.length&&xr b (es.length+ys.length))then
     Tr.put none BL s.t n fun t=>St.new ⟨s.nx,t⟩ (.arr sz (es++ys)) fun i s'=>some (.sl i (es.length+ys.length) 0,s')else none
    | _=>none
  | _=>none
   else none
 | none=>none
theorem WC {b:Nat} {s s':St} (hs:SR P ρ s σ) {sz:Nat} {x x' y y' v:V} (h:K9 b s sz x y=some (v,s')) (hx:RV ρ x x') (hy:RV ρ y y') {K:V→AH→Prop}
 (U: ∀ρ' v' σ',ρ.le ρ'→RV ρ' v v'→SR P ρ' s' σ'→K v' σ'):Aa b σ sz x' y' K:=by
 unfold K9 at h;split at h
 ·rename_i ys hys
  obtain⟨h1,h2⟩:=AY h;refine HR hs hys hy fun ys' hr=>⟨LY h1 hr,?_⟩
  split at h2
  ·rename_i es full
   obtain⟨es',g1,rfl⟩:=hx;have g1:=Fb.1 g1;obtain⟨h3,h4⟩:=AY h2;simp only[Bn]at h3;refine⟨Nu h3.1 g1,by rw[g1.len,hr.len];exact Rb h3.2,fun e=>?_,fun e=>?_⟩
   ·split at h4
    ·cases h4
     exact U ρ _ _ (.refl _) (by simp only[RV];exact⟨es',Fb.2 g1,rfl⟩) hs
    ·subst e
     have:=hr.len;simp at this
   ·split at h4
    ·cases hr
     exact absurd rfl e
    ·rename_i z zs
     obtain⟨h5,h6⟩:=AY h4;obtain⟨h7,h8⟩:=St.Hq h6;cases h8;refine⟨h5,fun n cap hn hc=>?_⟩;obtain⟨ρ',q1,q2,q3⟩:=hs.new h7 hn cap (o:= .arr sz (es++z::zs)) (o':= .arr sz (es'++ys') cap) ⟨_,g1.app hr,rfl⟩;exact U ρ' _ _ q1 (by simp only[RV];exact⟨_,q2,by rw[g1.len,hr.len]⟩) q3
  ·rename_i n len
   obtain⟨m,g1,rfl⟩:=hx;split at h2
   ·rename_i s1 es hg
    obtain⟨o',g2,es',g3,rfl⟩:=hs.at hg g1;obtain⟨h3,h4⟩:=AY h2;simp only[Bn]at h3;rw[Tr.put_eq]at h4;obtain⟨h5,h6⟩:=St.Hq h4;cases h6;have e1:=DA h3.1;subst e1;simp only[g2];refine⟨trivial,trivial,by rw[g3.len];exact DA h3.2.1,by rw[g3.len,hr.len];exact Rb h3.2.2,fun n' cap' hn hc=>?_⟩;obtain⟨ρ',q1,q2,q3⟩:=(hs.del hg g1).new h5 hn cap' (o:= .arr s1 (es++ys)) (o':= .arr s1 (es'++ys') cap') ⟨_,g3.app hr,rfl⟩;exact U ρ' _ _ q1 (by simp only[RV];exact⟨_,q2,by rw[g3.len,hr.len]⟩) q3
   ·cases h2
  ·cases h2
 ·cases h
def TN (b:Nat) (s:St) (sz:Nat) (x y:V):Option V:=
 match IN s sz y with
 | some ys=>bif ys.all (fun e=>e.all Cb)then
  match x with
  | .l es full=>bif es.all (fun e=>Nat.beq e.length sz)&&(xr b (es.length+ys.length)&&(full||ys.isEmpty))then some (.l (es++ys) false)else none
  | _=>none
   else none
 | none=>none
theorem cd {b:Nat} {s:St} (hs:SR P ρ s σ) {sz:Nat} {x x' y y' v:V} (h:TN b s sz x y=some v) (hx:RV ρ x x') (hy:RV ρ y y') {K:V→Prop} (U: ∀v',RV ρ v v'→K v'):BS b σ sz x' y' K:=by
 unfold TN at h;split at h
 ·rename_i ys hys
  obtain⟨h1,h2⟩:=AY h;refine HR hs hys hy fun ys' hr=>⟨LY h1 hr,?_⟩
  split at h2
  ·rename_i es full
   obtain⟨es',g1,rfl⟩:=hx;have g1:=Fb.1 g1;obtain⟨h3,h4⟩:=AY h2;simp only[Bn,Bool.or_eq_true]at h3;cases h4;refine⟨Nu h3.1 g1,by rw[g1.len,hr.len];exact Rb h3.2.1,fun e=>?_,U _ (by simp only[RV];exact⟨_,Fb.2 (g1.app hr),rfl⟩)⟩;rcases h3.2.2 with h|h
   ·exact h
   ·have:ys= []:=by simpa using h
    subst this;cases hr;exact absurd rfl e
  ·cases h2
 ·cases h
def dn (s:St) (sz:Nat) (ys:List (List V)) (n off len:Nat):Option (V×St):=
 match s.t.get n with
 | some (.arr s1 es)=>bif Nat.beq s1 sz&&Nat.ble (off+len) es.length then
  Tr.put (some (.arr s1 (es.take off++(ys.take (min ys.length len)++es.drop (off+min ys.length len))))) BL s.t n fun t=>some (.i .i64 (.ofNat (min ys.length len)),⟨s.nx,t⟩)else none
 | _=>none
theorem Xa {s s':St} (hs:SR P ρ s σ) {sz n off len:Nat} {ys ys':List (List V)} (hr:ZV ρ ys ys') {m:Nat×Nat} (hm:ρ n=some m) {v:V} (h:dn s sz ys n off len=some (v,s')) {K:V→AH→Prop}
 (U: ∀v' σ',RV ρ v v'→SR P ρ s' σ'→K v' σ'):N2 σ sz ys' m.1 off len K:=by
 unfold dn at h;split at h
 ·rename_i s1 es hg
  obtain⟨o',g2,es',g3,rfl⟩:=hs.at hg hm;obtain⟨h3,h4⟩:=AY h;simp only[Bn]at h3;rw[Tr.put_eq]at h4;cases h4;simp only[N2,g2];refine⟨DA h3.1,by rw[g3.len];exact Nat.le_of_ble_eq_true h3.2,?_⟩;rw[hr.len];exact U _ _ (by simp only[RV];rfl) (hs.BI hg hm ⟨_,((g3.take off).app ((hr.take _).app (g3.drop _))),rfl⟩)
 ·cases h
def TM (s:St) (sz:Nat) (x y:V):Option (V×St):=
 match IN s sz y with
 | some ys=>bif ys.all (fun e=>e.all Cb)then
  match x with
  | .sl n len _=>dn s sz ys n 0 len
  | .sv n s1 off len=>bif Nat.beq s1 sz then dn s sz ys n off len else none
  | _=>none
   else none
 | none=>none
theorem cb {s s':St} (hs:SR P ρ s σ) {sz:Nat} {x x' y y' v:V} (h:TM s sz x y=some (v,s')) (hx:RV ρ x x') (hy:RV ρ y y') {K:V→AH→Prop}
 (U: ∀v' σ',RV ρ v v'→SR P ρ s' σ'→K v' σ'):BO σ sz x' y' K:=by
 unfold TM at h;split at h
 ·rename_i ys hys
  obtain⟨h1,h2⟩:=AY h;refine HR hs hys hy fun ys' hr=>⟨LY h1 hr,?_⟩
  split at h2
  ·obtain⟨m,g1,rfl⟩:=hx
   exact Xa hs hr g1 h2 U
  ·obtain⟨m,g1,rfl⟩:=hx
   obtain⟨h3,h4⟩:=AY h2;exact⟨DA h3,Xa hs hr g1 h4 U⟩
  ·cases h2
 ·cases h
def S2 (o:Option V) (d:Int):Option Int:=
 match o with
 | none=>some d
 | some (.i _ n)=>some n
 | _=>none
def lH (ρ:Ren):Option V→Option V→Prop
 | none,o=>o=none
 | some v,o=> ∃v',RV ρ v v'∧o=some v'
theorem JG {o o':Option V} {d n:Int} (h:S2 o d=some n) (ho:lH ρ o o') {K:Int→Prop} (U:K n):Pb o' d K:=by
 unfold S2 at h;split at h
 ·cases h;cases ho;exact U
 ·obtain⟨v',h1,rfl⟩:=ho
  simp only[RV]at h1;subst h1;cases h;exact U
 ·cases h
def OP (s : St) (sz:Nat) (x:V) (lo hi mx:Option V):Option (V×St):=
 match x with
 | .l es full=>match S2 hi (.ofNat es.length),S2 lo 0 with
   | some h,some l=>bif es.all (fun e=>Nat.beq e.length sz)&&(Nw 0 l&&(Nw l h&&Nw h (.ofNat es.length)))then
    match mx with
    | none=>some (.l ((es.take h.toNat).drop l.toNat) (full&&Xw h (.ofNat es.length)),s)
    | some (.i _ m)=>bif Xw m h then some (.l ((es.take h.toNat).drop l.toNat) true,s)else none
    | _=>none
     else none
   | _,_=>none
 | .sl n len _=>match S2 hi (.ofNat len),S2 lo 0 with
   | some h,some l=>bif Nw 0 l&&(Nw l h&&Nw h (.ofNat len))then
    match mx with
    | none=>some (.sv n sz l.toNat (h - l).toNat,s)
    | some (.i _ m)=>match s.t.get n with
      | some (.arr s1 es)=>bif Xw m h&&(Xw h (.ofNat len)&&(Xw l 0&&(Nat.beq s1 sz&&Nat.beq len es.length)))then Tr.put none BL s.t n fun t=>St.new ⟨s.nx,t⟩ (.arr s1 es) fun i s'=>some (.sl i len 0,s')else none
      | _=>none
    | _=>none
     else none
   | _,_=>none
 | .sv n s1 off len=>match S2 hi (.ofNat len),S2 lo 0,mx with
   | some h,some l,none=>bif Nat.beq s1 sz&&(Nw 0 l&&(Nw l h&&Nw h (.ofNat len)))then some (.sv n sz (off+l.toNat) (h - l).toNat,s)else none
   | _,_,_=>none
 | _=>none
theorem Ro {a b:Int} (h:Xw a b=true):a=b:=by rw[Rp]at h;simpa using h
theorem Y0 {s s':St} (hs:SR P ρ s σ) {sz:Nat} {x x' v:V} {lo hi mx lo' hi' mx':Option V} (h:OP s sz x lo hi mx=some (v,s')) (hx:RV ρ x x') (h1:lH ρ lo lo') (h2:lH ρ hi hi') (h3:lH ρ mx mx') {K:V→AH→Prop}
 (U: ∀ρ' v' σ',ρ.le ρ'→RV ρ' v v'→SR P ρ' s' σ'→K v' σ'):Ao σ sz x' lo' hi' mx' K:=by
 unfold OP at h;split at h
 ·rename_i es full
  obtain⟨es',g1,rfl⟩:=hx;have g1:=Fb.1 g1;split at h
  ·rename_i hh ll e1 e2
   obtain⟨h4,h5⟩:=AY h;simp only[Bn]at h4;refine⟨Nu h4.1 g1,?_⟩;rw[g1.len];refine JG e1 h2 ?_;refine JG e2 h1 ?_;refine⟨EY h4.2.1,EY h4.2.2.1,EY h4.2.2.2,?_⟩;split at h5
   ·cases h3
    cases h5;refine U ρ _ _ (.refl _) ?_ hs;simp only[RV];refine⟨_,Fb.2 ((g1.take _).drop _),?_⟩;congr 1;rw[Rp];congr 1
   ·obtain⟨v',q1,rfl⟩:=h3
    simp only[RV]at q1;subst q1;obtain⟨h6,h7⟩:=AY h5;cases h7;exact⟨Ro h6,U ρ _ _ (.refl _) (by simp only[RV];exact⟨_,Fb.2 ((g1.take _).drop _),rfl⟩) hs⟩
   ·cases h5
  ·cases h
 ·rename_i n len
  obtain⟨m,g1,rfl⟩:=hx;split at h
  ·rename_i hh ll e1 e2
   obtain⟨h4,h5⟩:=AY h;simp only[Bn]at h4;simp only[Ao];refine JG e1 h2 ?_;refine JG e2 h1 ?_;refine⟨EY h4.1,EY h4.2.1,EY h4.2.2,?_⟩;split at h5
   ·cases h3
    cases h5;exact U ρ _ _ (.refl _) (by simp only[RV];exact⟨m,g1,rfl⟩) hs
   ·obtain⟨v',q1,rfl⟩:=h3
    simp only[RV]at q1;subst q1;split at h5
    ·rename_i s1 es hg
     obtain⟨o',g2,es',g3,rfl⟩:=hs.at hg g1;obtain⟨h6,h7⟩:=AY h5;simp only[Bn]at h6;rw[Tr.put_eq]at h7;obtain⟨h8,h9⟩:=St.Hq h7;cases h9;simp only[g2];have h10:=DA h6.2.2.2.2;refine⟨Ro h6.1,Ro h6.2.1,Ro h6.2.2.1,DA h6.2.2.2.1,trivial,by rw[g3.len];exact h10,.inr ?_⟩;obtain⟨ρ',q1,q2,q3⟩:=(hs.del hg g1).new h8 (Dh σ m.1) n (o:= .arr s1 es) (o':= .arr s1 es' n) ⟨es',g3,rfl⟩
     have e:Gl.BI (Gl.del σ m.1) m.1 (.arr s1 es' n)=Gl.BI σ m.1 (.arr s1 es' n):=by
      funext k;by_cases hk:k=m.1
      ·simp[Gl.BI,hk]
      ·simp[Gl.BI,Gl.del,hk]
     rw[e]at q3;exact U ρ' _ _ q1 (by simp only[RV];exact⟨_,q2,rfl⟩) q3
    ·cases h5
   ·cases h5
  ·cases h
 ·obtain⟨m,g1,rfl⟩:=hx
  split at h
  ·rename_i hh ll e1 e2
   cases h3;obtain⟨h4,h5⟩:=AY h;simp only[Bn]at h4;cases h5;simp only[Ao];refine JG e1 h2 ?_;refine JG e2 h1 ?_;exact⟨EY h4.2.1,EY h4.2.2.1,EY h4.2.2.2,DA h4.1,trivial,U ρ _ _ (.refl _) (by simp only[RV];exact⟨m,g1,rfl⟩) hs⟩
  ·cases h
 ·cases h
theorem Lm: ∀ {cs ds:List V} {t:Bool},B7 cs ds=some t→BX cs=true∧BX ds=true
 | [],[],_,_=>⟨rfl,rfl⟩
 | x ::xs,y::ys,t,h=>by
   cases x<;>cases y<;>simp only[B7]at h<;>first|cases h|skip
   split at h
   ·obtain⟨a,h1,_⟩:=Ai h
    obtain⟨h2,h3⟩:=Lm h1;exact⟨by simp[BX,A1,h2],by simp[BX,A1,h3]⟩
   ·cases h
 | [],_::_,_,h=>by simp[B7]at h
 | x::xs,[],_,h=>by cases x<;>simp[B7]at h
theorem dm {cs cs':List V} (h:Kh ρ cs cs') (hp:BX cs=true):cs'=cs:=RL.fn cs _ _ (Bs.2 h) (RL.pure cs hp)
def Zp (len:Nat) (neg:Bool) (x y:V):Option V:=
 match x,y with
 | .a cs,.a ds=>bif Nat.beq cs.length len then(match B7 cs ds with|some t=>some (.b (bif neg then !t else t))|none=>none)else none
 | _,_=>none
theorem kJ {len:Nat} {neg:Bool} {x x' y y' v:V} (h:Zp len neg x y=some v) (hx:RV ρ x x') (hy:RV ρ y y') {K:V→Prop} (U: ∀v',RV ρ v v'→K v'):RH len neg x' y' K:=by
 unfold Zp at h;split at h
 ·rename_i cs ds
  obtain⟨cs',g1,rfl⟩:=hx;obtain⟨ds',g2,rfl⟩:=hy;obtain⟨h1,h2⟩:=AY h;split at h2
  ·rename_i t ht
   cases h2;obtain⟨p1,p2⟩:=Lm ht;have e1:=dm (Bs.1 g1) p1;have e2:=dm (Bs.1 g2) p2;subst e1;subst e2;simp only[RH,h1,ht];exact U _ (by simp only[RV])
  ·cases h2
 ·cases h
def Zo (kind:Nat) (neg:Bool) (x:V):Option V:=
 match kind,x with
 | 0,.pn=>some (.b (!neg))
 | 0,.rp _=>some (.b neg)
 | 0,.p _ _=>some (.b neg)
 | 0,.pe _ _ _ _=>some (.b neg)
 | 1,.sl _ _ _=>some (.b neg)
 | 1,.l (_::_) _=>some (.b neg)
 | 2,.Dp=>some (.b (!neg))
 | 2,.E2 _ _=>some (.b neg)
 | 3,.mn=>some (.b (!neg))
 | 3,.m _=>some (.b neg)
 | 4,.HB=>some (.b (!neg))
 | 4,.f _ _ _=>some (.b neg)
 | _,_=>none
theorem kI {kind:Nat} {neg:Bool} {x x' v:V} (h:Zo kind neg x=some v) (hx:RV ρ x x') {K:V→Prop} (U: ∀v',RV ρ v v'→K v'):Ij kind neg x' K:=by
 unfold Zo at h;split at h
 ·simp only[RV]at hx;subst hx;cases h;exact U _ (by simp only[RV])
 ·obtain⟨_,_,rfl⟩:=hx;cases h;exact U _ (by simp only[RV])
 ·obtain⟨_,_,rfl⟩:=hx;cases h;exact U _ (by simp only[RV])
 ·obtain⟨_,_,rfl⟩:=hx;cases h;exact U _ (by simp only[RV])
 ·obtain⟨_,_,rfl⟩:=hx;cases h;exact U _ (by simp only[RV])
 ·obtain⟨es',g1,rfl⟩:=hx
  cases h;obtain⟨y,ys,_,_,rfl⟩:=Fb.1 g1;exact⟨fun e=>(by cases e),fun _=>U _ (by simp only[RV])⟩
 ·simp only[RV]at hx;subst hx;cases h;exact U _ (by simp only[RV])
 ·obtain⟨_,_,rfl⟩:=hx;cases h;exact U _ (by simp only[RV])
 ·simp only[RV]at hx;subst hx;cases h;exact U _ (by simp only[RV])
 ·obtain⟨_,_,rfl⟩:=hx;cases h;exact U _ (by simp only[RV])
 ·simp only[RV]at hx;subst hx;cases h;exact U _ (by simp only[RV])
 ·obtain⟨_,_,_,_,_,_,rfl⟩:=hx;cases h;exact U _ (by simp only[RV])
 ·cases h
def I3 (s:St) (sz:Nat) (z:List V) (x y:V):Option (V×St):=
 match x,y with
 | .i _ n,.i _ m=>bif Nw 0 n&&(Nw n m&&(Nat.ble m.toNat 1073741824&&BX z))then s.new (.arr sz (List.replicate n.toNat z)) fun i s'=>some (.sl i n.toNat 0,s')else none
 | _,_=>none
theorem Up {s s':St} (hs:SR P ρ s σ) {sz:Nat} {z:List V} {x x' y y' v:V} (h:I3 s sz z x y=some (v,s')) (hx:RV ρ x x') (hy:RV ρ y y') {K:V→AH→Prop}
 (U: ∀ρ' v' σ',ρ.le ρ'→RV ρ' v v'→SR P ρ' s' σ'→K v' σ'):Ac σ sz z x' y' K:=by
 unfold I3 at h;split at h
 ·rename_i k1 n k2 m
  simp only[RV]at hx hy;subst hx;subst hy;obtain⟨h1,h2⟩:=AY h;simp only[Bn]at h1;obtain⟨h3,h4⟩:=St.Hq h2;cases h4;have h5:=EY h1.1;have h7:=EY h1.2.1;have h6:m.toNat≤1073741824:=Nat.le_of_ble_eq_true h1.2.2.1;refine⟨h5,h7,by omega,fun id hid=>?_⟩;obtain⟨ρ',q1,q2,q3⟩:=hs.new h3 hid m.toNat (o:= .arr sz (List.replicate n.toNat z)) (o':= .arr sz (List.replicate n.toNat z) m.toNat) ⟨_,F2.rep (Bs.1 (RL.pure z h1.2.2.2)) _,rfl⟩;exact U ρ' _ _ q1 (by simp only[RV];exact⟨_,q2,rfl⟩) q3
 ·cases h
theorem M5: ∀ {l:List IntKind} {cs:List V},Dr l cs=true→BX cs=true
 | [],[],_=>rfl
 | q::l,x::cs,h=>by
   cases x<;>simp only[Dr]at h<;>first|cases h|skip
   simp only[Bn]at h;simp[BX,A1,M5 h.2]
 | [],_::_,h=>by simp[Dr]at h
 | _::_,[],h=>by simp[Dr]at h
theorem FI {ks:KS} {v:V} (h:Bb ks v=true):A1 v=true:=by
 unfold Bb at h;split at h
 ·rfl
 ·exact M5 h
 ·rfl
 ·cases h
theorem QU {ks:KS} {key:V}: ∀ {kvs kvs':List (V×V)},(kvs.all fun kv=>Bb ks kv.1)=true→F2 (RK ρ) kvs kvs'→lH ρ (Cr key kvs) (Cr key kvs')
 | [],_,_,h=>by cases h;rfl
 | (k,v)::r,_,ha,⟨y,ys,h1,h2,e⟩=>by
   subst e;obtain⟨k',v'⟩:=y;simp only[List.all_cons,Bn]at ha;have e1:k'=k:=RV.da h1.1 (FI ha.1);subst e1;simp only[Cr];cases D0 key k' with
   | true=>exact⟨v',h1.2,rfl⟩
   | false=>exact QU ha.2 h2
theorem Tt {ks:KS} {key x x':V} (hp:A1 key=true) (hx:RV ρ x x'): ∀ {kvs kvs':List (V×V)},(kvs.all fun kv=>Bb ks kv.1)=true→F2 (RK ρ) kvs kvs'→F2 (RK ρ) (Dy key x kvs) (Dy key x' kvs')
 | [],_,_,h=>by cases h;exact F2.cons ⟨RV.pure key hp,hx⟩ F2.nil
 | (k,v)::r,_,ha,⟨y,ys,h1,h2,e⟩=>by
   subst e;obtain⟨k',v'⟩:=y;simp only[List.all_cons,Bn]at ha;have e1:k'=k:=RV.da h1.1 (FI ha.1);subst e1;simp only[Dy];cases D0 key k' with
   | true=>exact F2.cons ⟨RV.pure key hp,hx⟩ h2
   | false=>exact F2.cons h1 (Tt hp hx ha.2 h2)
theorem XI {ks:KS} {kvs kvs':List (V×V)} (ha:(kvs.all fun kv=>Bb ks kv.1)=true) (h:F2 (RK ρ) kvs kvs'): ∀kv∈kvs',Bb ks kv.1=true:=fun kv hm=>by
 obtain⟨u,hu,hr⟩:=F2.mem h hm;rw[IU]at ha;have h1:=ha u hu;rw[RV.da hr.1 (FI h1)];exact h1
def K7 (s:St) (ks:KS) (z:V) (ok:Bool) (vm vk:V):Option V:=
 bif Bb ks vk&&A1 z then
  match vm with
  | .m n=>match s.t.get n with
    | some (.map kvs)=>bif kvs.all (fun kv=>Bb ks kv.1)then some (found z ok (Cr vk kvs))else none
    | _=>none
  | .mn=>some (found z ok none)
  | _=>none
 else none
theorem T4 {z:V} {ok:Bool} (hz:A1 z=true) {o o':Option V} (h:lH ρ o o'):RV ρ (found z ok o) (found z ok o'):=by
 cases o with
 | none=>
   cases h;cases ok with
   | true=>simp only[found,cond_true,RV];exact⟨_,Bs.2 (F2.cons (RV.pure z hz) (F2.cons (RV.pure _ rfl) F2.nil)),rfl⟩
   | false=>exact RV.pure z hz
 | some v=>
   obtain⟨v',h1,rfl⟩:=h;cases ok with
   | true=>simp only[found,cond_true,RV];exact⟨_,Bs.2 (F2.cons h1 (F2.cons (RV.pure _ rfl) F2.nil)),rfl⟩
   | false=>exact h1
theorem WB {s:St} (hs:SR P ρ s σ) {ks:KS} {z:V} {ok:Bool} {vm vm' vk vk' v:V} (h:K7 s ks z ok vm vk=some v) (hm:RV ρ vm vm') (hk:RV ρ vk vk') {K:V→Prop} (U: ∀v',RV ρ v v'→K v'):Ah σ ks z ok vm' vk' K:=by
 unfold K7 at h;obtain⟨h1,h2⟩:=AY h;simp only[Bn]at h1;have e:=RV.da hk (FI h1.1);subst e;refine⟨h1.1,?_⟩;split at h2
 ·obtain⟨m,g1,rfl⟩:=hm
  split at h2
  ·rename_i kvs hg
   obtain⟨o',g2,kvs',g3,rfl⟩:=hs.at hg g1;obtain⟨h3,h4⟩:=AY h2;cases h4;simp only[g2];exact⟨XI h3 g3,U _ (T4 h1.2 (QU h3 g3))⟩
  ·cases h2
 ·simp only[RV]at hm
  subst hm;cases h2;exact U _ (T4 h1.2 rfl)
 ·cases h2
def K6 (s:St) (ks:KS) (vm vk vv:V):Option St:=
 bif Bb ks vk then
  match vm with
  | .m n=>match s.t.get n with
    | some (.map kvs)=>bif kvs.all (fun kv=>Bb ks kv.1)then Tr.put (some (.map (Dy vk vv kvs))) BL s.t n fun t=>some ⟨s.nx,t⟩else none
    | _=>none
  | _=>none
 else none
theorem WA {s s':St} (hs:SR P ρ s σ) {ks:KS} {vm vm' vk vk' vv vv':V} (h:K6 s ks vm vk vv=some s') (hm:RV ρ vm vm') (hk:RV ρ vk vk') (hv:RV ρ vv vv') {K:AH→Prop} (U: ∀σ',SR P ρ s' σ'→K σ') :
 Ap σ ks vm' vk' vv' K:=by
 unfold K6 at h;obtain⟨h1,h2⟩:=AY h;have e:=RV.da hk (FI h1);subst e;refine⟨h1,?_⟩;split at h2
 ·obtain⟨m,g1,rfl⟩:=hm
  split at h2
  ·rename_i kvs hg
   obtain⟨o',g2,kvs',g3,rfl⟩:=hs.at hg g1;obtain⟨h3,h4⟩:=AY h2;rw[Tr.put_eq]at h4;cases h4;simp only[g2];exact⟨XI h3 g3,U _ (hs.BI hg g1 ⟨_,Tt (FI h1) hv h3 g3,rfl⟩)⟩
  ·cases h2
 ·cases h2
def MA (env:Env):List V→List (Nat×Nat×B1)→Option (List V)
 | cs,[]=>some cs
 | cs,(off,sz,x)::r=>
   match Dj env x with
   | some v=>match cellsOf v with
     | some vc=>bif Nat.beq vc.length sz&&Nat.ble (off+sz) cs.length then MA env (putAt cs off vc) r else none
     | none=>none
   | none=>none
theorem Qn (he:RE ρ env env₀): ∀ {ps:List (Nat×Nat×B1)} {cs cs' cs1:List V},MA env cs ps=some cs1→Kh ρ cs cs'→ ∃cs1',Jq env₀ cs' ps=some cs1'∧Kh ρ cs1 cs1'
 | [],_,cs',_,h,hc=>by cases h;exact⟨cs',rfl,hc⟩
 | (off,sz,x)::r,cs,cs',cs1,h,hc=>by
   simp only[MA]at h;split at h
   ·rename_i v hv
    split at h
    ·rename_i vc hvc
     obtain⟨h1,h2⟩:=AY h;obtain⟨v',e1,e2⟩:=Ay he hv;obtain⟨vc',e3,e4⟩:=GQ hvc e2;obtain⟨c,e5,e6⟩:=Qn he h2 (LL hc e4);refine⟨c,?_,e6⟩;simp only[Jq,e1,e3];rw[e4.len,hc.len,h1];exact e5
    ·cases h
   ·cases h
def MB (env:Env) (sz:Nat):List (List V)→List (Nat×B1)→Option (List (List V))
 | es,[]=>some es
 | es,(i,x)::r=>
   match Dj env x with
   | some v=>match cellsOf v with
     | some vc=>bif Nat.beq vc.length sz&&Nat.blt i es.length then MB env sz (es.set i vc) r else none
     | none=>none
   | none=>none
theorem Qo (he:RE ρ env env₀) {sz:Nat}: ∀ {ps:List (Nat×B1)} {cs cs' cs1:List (List V)},MB env sz cs ps=some cs1→ZV ρ cs cs'→ ∃cs1',Is env₀ sz cs' ps=some cs1'∧ZV ρ cs1 cs1'
 | [],_,cs',_,h,hc=>by cases h;exact⟨cs',rfl,hc⟩
 | (i, x)::r,cs,cs',cs1,h,hc=>by
   simp only[MB]at h;split at h
   ·rename_i v hv
    split at h
    ·rename_i vc hvc
     obtain⟨h1,h2⟩:=AY h;obtain⟨v',e1,e2⟩:=Ay he hv;obtain⟨vc',e3,e4⟩:=GQ hvc e2;obtain⟨c,e5,e6⟩:=Qo he h2 (hc.set i e4);refine⟨c,?_,e6⟩;simp only[Is,e1,e3];rw[e4.len,hc.len,h1];exact e5
    ·cases h
   ·cases h
end Go.Gl
