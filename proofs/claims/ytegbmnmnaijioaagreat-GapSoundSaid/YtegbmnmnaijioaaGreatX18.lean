import Derived.Test.YtegbmnmnaijioaaGreatX17
set_option linter.all false
set_option linter.defProp false
set_option maxHeartbeats 8000000
noncomputable section
namespace Go.Gl
variable {P:Program} {Y Y':Ren} {Z:AE} {env env₀:Env}
structure St where
 nx:Nat
 t:Tr EO
def RK (Y:Ren) (a b:V×V):Prop:=RV Y a.1 b.1/\RV Y a.2 b.2
def RBe (Y:Ren) (a b:Nat×V):Prop:=b.1=a.1/\RV Y a.2 b.2
abbrev RE (Y:Ren):Env->Env->Prop:=F2 (RBe Y)
abbrev Lt (Y:Ren):List V->List V->Prop:=F2 (RV Y)
abbrev gQ (Y:Ren):List (List V)->List (List V)->Prop:=F2 (F2 (RV Y))
def RO (P:Program) (Y:Ren) (cap:Nat):EO->O->Prop
 | .cs vs,o=> ∃vs',Lt Y vs vs'/\o= .cs vs'
 | .arr sz es,o=> ∃es',gQ Y es es'/\o= .arr sz es' cap
 | .map kvs,o=> ∃kvs',F2 (RK Y) kvs kvs'/\o= .map kvs'
 | .loop st env ps a b,o=> ∃env',RE Y env env'/\o= .loop st env' (Bk P ps a b)
def NV:Nat:=1000000000
structure SR (P:Program) (Y:Ren) (s:St) (Z:AE):Prop where
 get: ∀i o,s.t.get i=some o-> ∃m,Y i=some m/\ ∃o',Z m.1=some o'/\RO P Y m.2 o o'
 inj: ∀i j o o' m m',s.t.get i=some o->s.t.get j=some o'->Y i=some m->Y j=some m'->m.1=m'.1->i=j
 sm: ∀i,s.nx<=i->Y i=none
 lim:s.nx<=NV+1
def Lt.mono (h:Y.le Y') {a b:List V} (k:Lt Y a b):Lt Y' a b:=F2.mono (fun _ _=>RV.mono h _ _) k
def gQ.mono (h:Y.le Y') {a b:List (List V)} (k:gQ Y a b):gQ Y' a b:=F2.mono (fun _ _=>Lt.mono h) k
def RE.mono (h:Y.le Y') {a b:Env} (k:RE Y a b):RE Y' a b:=F2.mono (fun _ _ k=>⟨k.1,RV.mono h _ _ k.2⟩) k
def RO.mono (h:Y.le Y') {c:Nat} {a:EO} {b:O} (k:RO P Y c a b):RO P Y' c a b:=by
 cases a with
 | cs vs=>obtain⟨v,h1,h2⟩:=k;exact⟨v,h1.mono h,h2⟩
 | arr sz es=>obtain⟨v,h1,h2⟩:=k;exact⟨v,h1.mono h,h2⟩
 | map kvs=>obtain⟨v,h1,h2⟩:=k;exact⟨v,F2.mono (fun _ _ k=>⟨RV.mono h _ _ k.1,RV.mono h _ _ k.2⟩) h1,h2⟩
 | loop st env ps a b=>obtain⟨v,h1,h2⟩:=k;exact⟨v,h1.mono h,h2⟩
def dG {k:Nat} (h:k<=NV):k+1<2 ^ A8:=by simp only[NV,A8]at *;omega
def SR.lt {s:St} (hs:SR P Y s Z) {i:Nat} {m:Nat×Nat} (h:Y i=some m):i<=NV:=by
 have h1:=hs.sm i;have h2:=hs.lim;rcases Nat.lt_or_ge i s.nx with h3|h3
 .omega
 .rw[h1 h3]at h;cases h
def SR.new {s:St} (hs:SR P Y s Z) (hl:s.nx<=NV) {n:Nat} (hn:Z n=none) (cap:Nat) {o:EO} {o':O} (ho:RO P Y cap o o') :
    ∃Y',Y.le Y'/\Y' s.nx=some (n,cap)/\SR P Y' ⟨s.nx+1,Tr.set (some o) A8 s.t s.nx⟩ (B5 Z n o'):=by
 have hle:Y.le (fun i=>if i=s.nx then some (n,cap)else Y i):=fun i m h=>by
  have:i≠s.nx:=fun e=>by rw[hs.sm i (by omega)]at h;cases h
  simp[this,h]
 refine⟨_,hle,by simp,⟨fun i o1 h1=>?_,fun i j o1 o2 m m' h1 h2 h3 h4 h5=>?_,fun i hi=>?_,by show s.nx+1<=_;omega⟩⟩
 .rw[Tr.EB _ _ _ (dG hl)]at h1
  by_cases e:i=s.nx
  .rw[if_pos e]at h1
   cases h1;exact⟨(n,cap),by simp[e],o',DO _ _ _,ho.mono hle⟩
  .rw[if_neg e]at h1
   obtain⟨m,h2,o2,h3,h4⟩:=hs.get i o1 h1;refine⟨m,by simp[e,h2],o2,?_,h4.mono hle⟩;rw[Cn _ _ (fun e'=>by rw[e',hn]at h3;cases h3)];exact h3
 .rw[Tr.EB _ _ _ (dG hl)]at h1 h2
  by_cases e:i=s.nx<;>by_cases e':j=s.nx
  .omega
  .exfalso
   rw[if_neg e']at h2;simp only[e,if_true,JN]at h3;simp only[e',if_false]at h4;obtain⟨m2,h6,o3,h7,_⟩:=hs.get j o2 h2;rw[h6]at h4;cases h4;rw[<-h5,<-h3,hn]at h7;cases h7
  .exfalso
   rw[if_neg e]at h1;simp only[e',if_true,JN]at h4;simp only[e,if_false]at h3;obtain⟨m2,h6,o3,h7,_⟩:=hs.get i o1 h1;rw[h6]at h3;cases h3;rw[h5,<-h4,hn]at h7;cases h7
  .rw[if_neg e]at h1
   rw[if_neg e']at h2;simp only[e,if_false]at h3;simp only[e',if_false]at h4;exact hs.inj i j o1 o2 m m' h1 h2 h3 h4 h5
 .have hi':s.nx+1<=i:=hi
  have:i≠s.nx:=by omega
  simp only[this,if_false];exact hs.sm i (by omega)
def SR.B5 {s:St} (hs:SR P Y s Z) {i:Nat} {m:Nat×Nat} {o:EO} (hi:s.t.get i=some o) (hm:Y i=some m) {o1:EO} {o1':O} (ho:RO P Y m.2 o1 o1') :
    SR P Y ⟨s.nx,Tr.set (some o1) A8 s.t i⟩ (Gl.B5 Z m.1 o1'):=by
 have hl:=dG (hs.lt hm);refine⟨fun j o2 h1=>?_,fun j j' o2 o3 m1 m2 h1 h2 h3 h4 h5=>?_,hs.sm,hs.lim⟩
 .rw[Tr.EB _ _ _ hl]at h1
  by_cases e:j=i
  .subst e
   rw[if_pos rfl]at h1;cases h1;exact⟨m,hm,o1',DO _ _ _,ho⟩
  .rw[if_neg e]at h1
   obtain⟨m1,h2,o3,h3,h4⟩:=hs.get j o2 h1;refine⟨m1,h2,o3,?_,h4⟩;rw[Cn _ _ (fun e'=>e (hs.inj j i o2 o m1 m h1 hi h2 hm e'))];exact h3
 .rw[Tr.EB _ _ _ hl]at h1 h2
  have g1: ∃q,s.t.get j=some q:=by
   by_cases e:j=i
   .exact⟨o,e ▸ hi⟩
   .rw[if_neg e]at h1;exact⟨_,h1⟩
  have g2: ∃q,s.t.get j'=some q:=by
   by_cases e:j'=i
   .exact⟨o,e ▸ hi⟩
   .rw[if_neg e]at h2;exact⟨_,h2⟩
  obtain⟨q1,g1⟩:=g1;obtain⟨q2,g2⟩:=g2;exact hs.inj j j' q1 q2 m1 m2 g1 g2 h3 h4 h5
def SR.del {s:St} (hs:SR P Y s Z) {i:Nat} {m:Nat×Nat} {o:EO} (hi:s.t.get i=some o) (hm:Y i=some m) :
    SR P Y ⟨s.nx,Tr.set none A8 s.t i⟩ (Gl.del Z m.1):=by
 have hl:=dG (hs.lt hm)
 have sub: ∀j q,(Tr.set none A8 s.t i).get j=some q->j≠i/\s.t.get j=some q:=fun j q h=>by
  rw[Tr.EB _ _ _ hl]at h;by_cases e:j=i
  .rw[if_pos e]at h;cases h
  .rw[if_neg e]at h;exact⟨e,h⟩
 refine⟨fun j o2 h1=>?_,fun j j' o2 o3 m1 m2 h1 h2 h3 h4 h5=>?_,hs.sm,hs.lim⟩
 .obtain⟨e,h1⟩:=sub j o2 h1
  obtain⟨m1,h2,o3,h3,h4⟩:=hs.get j o2 h1;refine⟨m1,h2,o3,?_,h4⟩;have:m1.1≠m.1:=fun e'=>e (hs.inj j i o2 o m1 m h1 hi h2 hm e')
  simp[Gl.del,this,h3]
 .exact hs.inj j j' o2 o3 m1 m2 (sub _ _ h1).2 (sub _ _ h2).2 h3 h4 h5
def SR.at {s:St} (hs:SR P Y s Z) {i:Nat} {m:Nat×Nat} {o:EO} (hi:s.t.get i=some o) (hm:Y i=some m): ∃o',Z m.1=some o'/\RO P Y m.2 o o':=by
 obtain⟨m',h1,h2⟩:=hs.get i o hi;rw[hm]at h1;cases h1;exact h2
def RE.get: ∀ {env env₀:Env},RE Y env env₀-> ∀ {k:Nat} {v:V},Gl.get k env=some v-> ∃v',Gl.get k env₀=some v'/\RV Y v v'
 | (j,u)::r,_,⟨y,ys,h1,h2,e⟩,k,v,h=>by
   subst e;obtain⟨j',u'⟩:=y;have e1:j'=j:=h1.1;subst e1;simp only[Gl.get]at h ⊢;cases hb:Nat.beq j' k with
   | true=>rw[hb]at h;simp only[cond_true]at h ⊢;cases h;exact⟨u',rfl,h1.2⟩
   | false=>rw[hb]at h;simp only[cond_false]at h ⊢;exact RE.get h2 h
def RE.AAG: ∀ {env env₀:Env},RE Y env env₀-> ∀ {k:Nat},Gl.get k env=none->Gl.get k env₀=none
 | [],_,h,k,_=>by cases h;rfl
 | (j,u)::r,_,⟨y,ys,h1,h2,e⟩,k,h=>by
   subst e;obtain⟨j',u'⟩:=y;have e1:j'=j:=h1.1;subst e1;simp only[Gl.get]at h ⊢;cases hb:Nat.beq j' k with
   | true=>rw[hb]at h;simp only[cond_true]at h;cases h
   | false=>rw[hb]at h;simp only[cond_false]at h ⊢;exact RE.AAG h2 h
def Dh (env:Env):Bo->Option V
 | .t n=>get n env
 | .c v=>bif BM v then some v else none
def Ax (he:RE Y env env₀) {x:Bo} {v:V} (h:Dh env x=some v): ∃v',ev env₀ x=some v'/\RV Y v v':=by
 cases x with
 | t n=>exact he.get h
 | c u=>
   simp only[Dh]at h;cases hb:BM u with
   | true=>rw[hb]at h;cases h;exact⟨_,rfl,RV.pure _ hb⟩
   | false=>rw[hb]at h;cases h
def PD (env:Env):List Bo->Option (List V)
 | []=>some []
 | x ::r=>match Dh env x with
   | some v=>match PD env r with
     | some vs=>some (v::vs)
     | none=>none
   | none=>none
def Iq (he:RE Y env env₀): ∀ {l:List Bo} {vs:List V},PD env l=some vs-> ∃vs',VZ env₀ l=some vs'/\Lt Y vs vs'
 | [],_,h=>by cases h;exact⟨[],rfl,rfl⟩
 | x ::r,vs,h=>by
   simp only[PD]at h;split at h
   .rename_i v hv
    split at h
    .rename_i us hu
     cases h;obtain⟨v',h1,h2⟩:=Ax he hv;obtain⟨vs',h3,h4⟩:=Iq he hu;exact⟨v'::vs',by simp only[VZ,h1,h3],F2.cons h2 h4⟩
    .cases h
   .cases h
def I6 (k:IntKind) (n:Int):Int:=
 match k,n with
 | .i64,.ofNat m=>bif Nat.ble m 9223372036854775807 then .ofNat m else IntKind.i64.wrap (.ofNat m)
 | .u64,.ofNat m=>bif Nat.ble m 18446744073709551615 then .ofNat m else IntKind.u64.wrap (.ofNat m)
 | k,n=>k.wrap n
def wrap_u64 {n:Int} (h1:0<=n) (h2:n<=18446744073709551615):IntKind.u64.wrap n=n:=by
 have e:IntKind.u64.wrap n=n % 18446744073709551616:=by simp[IntKind.wrap,IntKind.bits,IntKind.signed]
 rw[e];omega
def ofNat_eq (m:Nat):Int.ofNat m=(m:Int):=rfl
def Js (k:IntKind) (n:Int):I6 k n=k.wrap n:=by
 unfold I6;split
 .rename_i m
  cases h:Nat.ble m 9223372036854775807 with
  | true=>
    have h':m<=9223372036854775807:=by rw[Nat.ble_eq]at h;exact h
    rw[cond_true,ofNat_eq];exact(wrap64 (by omega) (by omega)).symm
  | false=>rfl
 .rename_i m
  cases h:Nat.ble m 18446744073709551615 with
  | true=>
    have h':m<=18446744073709551615:=by rw[Nat.ble_eq]at h;exact h
    rw[cond_true,ofNat_eq];exact(wrap_u64 (by omega) (by omega)).symm
  | false=>rfl
 .rfl
def NO (a b:Int):Bool:=
 match a,b with
 | .ofNat m,.ofNat n=>Nat.ble (m+1) n
 | .negSucc _,.ofNat _=>true
 | .ofNat _,.negSucc _=>false
 | .negSucc m,.negSucc n=>Nat.ble (n+1) m
def QN (a b:Int):NO a b=decide (a<b):=by
 cases a<;>cases b<;>simp only[NO]
 .rename_i m n
  rw[G3,Nat.ble_eq,CC];simp;omega
 .rename_i m n
  symm;rw[decide_eq_false_iff_not];simp;omega
 .rename_i m n
  symm;rw[CC];simp;omega
 .rename_i m n
  rw[G3,Nat.ble_eq,CC];omega
def Pu (a b:Int):Bool:= !NO b a
def jV (a b:Int):Pu a b=decide (a<=b):=by
 rw[Pu,QN,G3];simp
def cu (a b:Int):Bool:=
 match a,b with
 | .ofNat m,.ofNat n=>Nat.beq m n
 | .negSucc m,.negSucc n=>Nat.beq m n
 | _,_=>false
def Uc (a b:Int):cu a b=(a==b):=by
 cases a<;>cases b<;>simp only[cu]
 .rename_i m n
  rw[G3,Nat.beq_eq,Cd];exact⟨fun e=>by rw[e],fun e=>by cases e;rfl⟩
 .rename_i m n
  rw[G3,Cd];exact⟨fun e=>(by cases e),fun e=>by cases e⟩
 .rename_i m n
  rw[G3,Cd];exact⟨fun e=>(by cases e),fun e=>by cases e⟩
 .rename_i m n
  rw[G3,Nat.beq_eq,Cd];exact⟨fun e=>by rw[e],fun e=>by cases e;rfl⟩
def Ee {a b:Int} (h:Pu a b=true):a<=b:=by rw[jV]at h;exact of_decide_eq_true h
def Ni {a b:Int} (h:NO a b=true):a<b:=by rw[QN]at h;exact of_decide_eq_true h
def QG (op:BinOp) (k:IntKind) (x y:Int):Int:=
 match k,x,y with
 | .u64,.ofNat a,.ofNat b=>bif Nat.ble a 18446744073709551615&&Nat.ble b 18446744073709551615 then
  match op with
  | .and=> .ofNat (Nat.land a b)
  | .or=> .ofNat (Nat.lor a b)
  | op=>bits op .u64 (.ofNat a) (.ofNat b)
   else bits op .u64 (.ofNat a) (.ofNat b)
 | k,x,y=>bits op k x y
def m9 (op:BinOp) (k:IntKind) (x y:Int):QG op k x y=bits op k x y:=by
 unfold QG;split
 .rename_i a b
  cases h:Nat.ble a 18446744073709551615&&Nat.ble b 18446744073709551615 with
  | false=>rfl
  | true=>
    simp only[A0]at h;have h1:=Nat.le_of_ble_eq_true h.1;have h2:=Nat.le_of_ble_eq_true h.2
    have e1:(BitVec.ofInt 64 (Int.ofNat a)).toNat=a:=by
     rw[show Int.ofNat a=(a:Int) from rfl,BitVec.ofInt_natCast,BitVec.toNat_ofNat];omega
    have e2:(BitVec.ofInt 64 (Int.ofNat b)).toNat=b:=by
     rw[show Int.ofNat b=(b:Int) from rfl,BitVec.ofInt_natCast,BitVec.toNat_ofNat];omega
    simp only[cond_true];split
    .have e3:bits .and .u64 (Int.ofNat a) (Int.ofNat b)=IntKind.u64.wrap (((BitVec.ofInt 64 (Int.ofNat a))&&&(BitVec.ofInt 64 (Int.ofNat b))).toNat:Int):=rfl
     rw[e3,BitVec.toNat_and,e1,e2];have:a&&&b<2 ^ 64:=Nat.and_lt_two_pow _ (by omega);rw[wrap_u64 (by omega) (by omega)];rfl
    .have e3:bits .or .u64 (Int.ofNat a) (Int.ofNat b)=IntKind.u64.wrap (((BitVec.ofInt 64 (Int.ofNat a))|||(BitVec.ofInt 64 (Int.ofNat b))).toNat:Int):=rfl
     rw[e3,BitVec.toNat_or,e1,e2];have:a|||b<2 ^ 64:=Nat.or_lt_two_pow (by omega) (by omega)
     rw[wrap_u64 (by omega) (by omega)];rfl
    .rfl
 .rfl
def Vu (op:BinOp) (x y:V):Option V:=
 match x,y with
 | .i ka a,.i kb b=>
   match op with
   | .add=>bif decide (ka=kb)then some (.i ka (I6 ka (a+b)))else none
   | .sub=>bif decide (ka=kb)then some (.i ka (I6 ka (a - b)))else none
   | .mul=>bif decide (ka=kb)then some (.i ka (I6 ka (a*b)))else none
   | .quo=>bif decide (ka=kb)&& !cu b 0 then some (.i ka (I6 ka (a.tdiv b)))else none
   | .rem=>bif decide (ka=kb)&& !cu b 0 then some (.i ka (a.tmod b))else none
   | .eql=>bif decide (ka=kb)then some (.b (cu a b))else none
   | .neq=>bif decide (ka=kb)then some (.b (!cu a b))else none
   | .lss=>bif decide (ka=kb)then some (.b (NO a b))else none
   | .leq=>bif decide (ka=kb)then some (.b (Pu a b))else none
   | .gtr=>bif decide (ka=kb)then some (.b (NO b a))else none
   | .geq=>bif decide (ka=kb)then some (.b (Pu b a))else none
   | .shl=>bif Pu 0 b then some (.i ka (I6 ka (a*2 ^ (min b.toNat ka.bits))))else none
   | .shr=>bif Pu 0 b then some (.i ka (a.fdiv (2 ^ (min b.toNat ka.bits))))else none
   | op=>bif decide (ka=kb)then some (.i ka (QG op ka a b))else none
 | _,_=>none
def AY {α:Type} {c:Bool} {x:Option α} {v:α} (h:(bif c then x else none)=some v):c=true/\x=some v:=by
 cases c with
 | true=>exact⟨rfl,h⟩
 | false=>cases h
def qs {op:BinOp} {x y v:V} (h:Vu op x y=some v):BM x=true/\BM y=true/\BM v=true/\ ∀K:V->Prop,K v->Vm op x y K:=by
 unfold Vu at h;split at h
 .rename_i ka a kb b
  refine⟨rfl,rfl,?_⟩
  cases op<;>simp only at h<;>obtain⟨h1,h2⟩:=AY h<;>cases h2<;>refine⟨rfl,fun K U=>?_⟩<;>
   (try simp only[A0,CC,Bool.not_eq_true',Uc,beq_eq_false_iff_ne]at h1)<;>
   (try simp only[Js,QN,jV,Uc,m9]at U)<;>simp only[Vm]
  all_goals first
   | exact⟨h1,U⟩
   | exact⟨h1.1,h1.2,U⟩
   | exact⟨Ee h1,U⟩
 .cases h
def Gn {v v':V} {cs:List V} (h:cellsOf v=some cs) (hv:RV Y v v'): ∃cs',cellsOf v'=some cs'/\Lt Y cs cs':=by
 cases v with
 | a cs0=>
   cases h;obtain⟨c,h1,rfl⟩:=hv;exact⟨c,rfl,Bf.1 h1⟩
 | t _=>cases h
 | any=>cases h
 | _ =>
   cases h
   have:cellsOf v'=some [v']:=by
    simp only[RV]at hv
    first
     | (rw[hv];rfl)
     | (obtain⟨_,_,hv⟩:=hv;rw[hv];rfl)
     | (obtain⟨_,_,_,_,_,_,hv⟩:=hv;rw[hv];rfl)
   exact⟨[v'],this,F2.cons hv F2.nil⟩
def pN {v v':V} (hv:RV Y v v'):CN v'=CN v:=by
 cases v<;>simp only[RV]at hv<;>first
  | (rw[hv];done)
  | (obtain⟨_,_,hv⟩:=hv;rw[hv];rfl)
  | (obtain⟨_,_,_,_,_,_,hv⟩:=hv;rw[hv];rfl)
def cN {vs vs':List V} (h:vs.all CN=true) (hv:Lt Y vs vs'):vs'.all CN=true:=by
 rw[DJ]at *;intro v hm;obtain⟨u,hu,hr⟩:=F2.mem hv hm;rw[pN hr];exact h u hu
def M1 {vs vs':List (List V)} (h:(vs.all fun e=>e.all CN)=true) (hv:gQ Y vs vs'): ∀e∈vs',∀v∈e,CN v=true:=by
 rw[DJ]at h;intro e he;obtain⟨u,hu,hr⟩:=F2.mem hv he;have:=cN (h u hu) hr
 rwa [DJ]at this
def Pm {sz:Nat} {vs vs':List (List V)} (h:(vs.all fun e=>Nat.beq e.length sz)=true) (hv:gQ Y vs vs'): ∀e∈vs',e.length=sz:=by
 rw[DJ]at h;intro e he;obtain⟨u,hu,hr⟩:=F2.mem hv he;rw[hr.len];exact DD (h u hu)
def Mg: ∀ {vc vc':List V} {cs cs':List V} {off:Nat},Lt Y cs cs'->Lt Y vc vc'->Lt Y (putAt cs off vc) (putAt cs' off vc')
 | [],_,_,_,_,h,h'=>by cases h';exact h
 | _::_,_,_,_,off,h,⟨y,ys,h1,h2,e⟩=>by
   subst e;simp only[putAt];exact Mg (h.set off h1) h2
def Vs (agg:Option Nat) (cs:List V) (off:Nat):Option V:=
 match agg with
 | none=>cs[off]?
 | some n=>bif Nat.ble (off+n) cs.length then some (.a ((cs.drop off).take n))else none
def MQ {agg:Option Nat} {cs cs':List V} {off:Nat} {v:V} (h:Vs agg cs off=some v) (hc:Lt Y cs cs') {K:V->Prop} (U: ∀v',RV Y v v'->K v'):cut agg cs' off K:=by
 cases agg with
 | none=>
   obtain⟨y,h1,h2⟩:=hc.get h;simp only[cut,h1];exact U _ h2
 | some n=>
   obtain⟨h1,h2⟩:=AY h;cases h2;refine⟨by rw[hc.len];exact Nat.le_of_ble_eq_true h1,U _ ?_⟩;simp only[RV];exact⟨_,Bf.2 ((hc.drop off).take n),rfl⟩
def Oe (s:St) (agg:Option Nat) (x:V):Option V:=
 match x with
 | .rp cs=>Vs agg cs 0
 | .p n off=>match s.t.get n with
   | some (.cs vs)=>Vs agg vs off
   | _=>none
 | .pe n sz i off=>match s.t.get n with
   | some (.arr sz' es)=>bif Nat.beq sz sz' then(match es[i]? with|some e=>Vs agg e off|none=>none)else none
   | _=>none
 | _=>none
def XT {s:St} (hs:SR P Y s Z) {agg:Option Nat} {x x' v:V} (h:Oe s agg x=some v) (hx:RV Y x x') {K:V->Prop} (U: ∀v',RV Y v v'->K v'):AT Z agg x' K:=by
 unfold Oe at h;split at h
 .obtain⟨c,h1,rfl⟩:=hx
  exact MQ h (Bf.1 h1) U
 .obtain⟨m,h1,rfl⟩:=hx
  split at h
  .rename_i vs hg
   obtain⟨o',h2,vs',h3,rfl⟩:=hs.at hg h1;simp only[AT,P6,h2];exact MQ h h3 U
  .cases h
 .obtain⟨m,h1,rfl⟩:=hx
  split at h
  .rename_i es hg
   obtain⟨o',h2,es',h3,rfl⟩:=hs.at hg h1;obtain⟨h4,h5⟩:=AY h;split at h5
   .rename_i e he
    obtain⟨e',h6,h7⟩:=h3.get he;simp only[AT,P7,h2,h6];exact⟨DD h4,MQ h5 h7 U⟩
   .cases h5
  .cases h
 .cases h
def QT (s : St) (sz:Nat) (a x:V):Option St:=
 match cellsOf x with
 | some vc =>bif Nat.beq vc.length sz&&vc.all CN then
  match a with
  | .p n off=>match s.t.get n with
    | some (.cs vs)=>bif Nat.ble (off+sz) vs.length then Tr.put (some (.cs (putAt vs off vc))) A8 s.t n fun t=>some ⟨s.nx,t⟩else none
    | _=>none
  | .pe n s' i off=>match s.t.get n with
    | some (.arr s1 es)=>bif Nat.beq s' s1&&Nat.ble (off+sz) s' then
     (match es[i]? with|some e=>Tr.put (some (.arr s1 (es.set i (putAt e off vc)))) A8 s.t n fun t=>some ⟨s.nx,t⟩|none=>none)else none
    | _=>none
  | _=>none
   else none
 | none=>none
def fO {s s':St} (hs:SR P Y s Z) {sz:Nat} {a a' x x':V} (h:QT s sz a x=some s') (ha:RV Y a a') (hx:RV Y x x') {K:AE->Prop} (U: ∀Z',SR P Y s' Z'->K Z'):AR Z sz a' x' K:=by
 unfold QT at h;split at h
 .rename_i vc hvc
  obtain⟨vc',e1,e2⟩:=Gn hvc hx;obtain⟨h1,h2⟩:=AY h;simp only[A0]at h1;simp only[AR,e1];refine⟨by rw[e2.len];exact DD h1.1,cN h1.2 e2,?_⟩;split at h2
  .obtain⟨m,g1,rfl⟩:=ha
   split at h2
   .rename_i vs hg
    obtain⟨o',g2,vs',g3,rfl⟩:=hs.at hg g1;obtain⟨h3,h4⟩:=AY h2;rw[Tr.put_eq]at h4;cases h4;simp only[g2];exact⟨by rw[g3.len];exact Nat.le_of_ble_eq_true h3,U _ (hs.B5 hg g1 ⟨_,Mg g3 e2,rfl⟩)⟩
   .cases h2
  .obtain⟨m,g1,rfl⟩:=ha
   split at h2
   .rename_i es hg
    obtain⟨o',g2,vs',g3,rfl⟩:=hs.at hg g1;obtain⟨h3,h4⟩:=AY h2;simp only[A0]at h3;split at h4
    .rename_i e he
     rw[Tr.put_eq]at h4;cases h4;obtain⟨e',g4,g5⟩:=g3.get he;simp only[g2,g4];have e:=DD h3.1;subst e;exact⟨rfl,Nat.le_of_ble_eq_true h3.2,U _ (hs.B5 hg g1 ⟨_,g3.set _ (Mg g5 e2),rfl⟩)⟩
    .cases h4
   .cases h2
  .cases h2
 .cases h
def Ud (off:Nat) (x:V):Option V:=
 match x with
 | .rp cs=>some (.rp (cs.drop off))
 | .p n o=>some (.p n (o+off))
 | .pe n sz i o=>some (.pe n sz i (o+off))
 | _=>none
def fT {off:Nat} {x x' v:V} (h:Ud off x=some v) (hx:RV Y x x') {K:V->Prop} (U: ∀v',RV Y v v'->K v'):LI off x' K:=by
 unfold Ud at h;split at h
 .obtain⟨c,h1,rfl⟩:=hx
  cases h;exact U _ (by simp only[RV];exact⟨_,Bf.2 ((Bf.1 h1).drop off),rfl⟩)
 .obtain⟨m,h1,rfl⟩:=hx
  cases h;exact U _ (by simp only[RV];exact⟨m,h1,rfl⟩)
 .obtain⟨m,h1,rfl⟩:=hx
  cases h;exact U _ (by simp only[RV];exact⟨m,h1,rfl⟩)
 .cases h
def No (sz:Nat) (arr:Option Nat) (x i:V):Option V:=
 match i with
 | .i _ j=>bif Pu 0 j then
  match arr,x with
  | none,.l es _=>match es[j.toNat]? with|some e=>bif Nat.beq e.length sz then some (.rp e)else none|none=>none
  | none,.sl n len _=>bif NO j len then some (.pe n sz j.toNat 0)else none
  | none,.sv n s off len=>bif Nat.beq s sz&&NO j len then some (.pe n sz (off+j.toNat) 0)else none
  | some m,.rp cs=>bif NO j m then some (.rp (cs.drop (j.toNat*sz)))else none
  | some m,.p n o=>bif NO j m then some (.p n (o+j.toNat*sz))else none
  | some m,.pe n s q o=>bif NO j m then some (.pe n s q (o+j.toNat*sz))else none
  | _,_=>none
   else none
 | _=>none
def fS {sz:Nat} {arr:Option Nat} {x x' i i' v:V} (h:No sz arr x i=some v) (hx:RV Y x x') (hi:RV Y i i') {K:V->Prop} (U: ∀v',RV Y v v'->K v'):AQ sz arr x' i' K:=by
 unfold No at h;split at h
 .rename_i kj j
  simp only[RV]at hi;subst hi;obtain⟨h0,h⟩:=AY h;have h0:=Ee h0;split at h
  .obtain⟨es',h1,rfl⟩:=hx
   split at h
   .rename_i e he
    obtain⟨h2,h3⟩:=AY h;cases h3;obtain⟨e',h4,h5⟩:=(Ft.1 h1).get he;exact⟨h0,e',h4,by rw[h5.len];exact DD h2,U _ (by simp only[RV];exact⟨e',Bf.2 h5,rfl⟩)⟩
   .cases h
  .obtain⟨m,h1,rfl⟩:=hx
   obtain⟨h2,h3⟩:=AY h;cases h3;exact⟨h0,Ni h2,U _ (by simp only[RV];exact⟨m,h1,rfl⟩)⟩
  .obtain⟨m,h1,rfl⟩:=hx
   obtain⟨h2,h3⟩:=AY h;simp only[A0]at h2;cases h3;exact⟨DD h2.1,h0,Ni h2.2,U _ (by simp only[RV];exact⟨m,h1,rfl⟩)⟩
  .obtain⟨c,h1,rfl⟩:=hx
   obtain⟨h2,h3⟩:=AY h;cases h3;exact⟨h0,Ni h2,U _ (by simp only[RV];exact⟨_,Bf.2 ((Bf.1 h1).drop _),rfl⟩)⟩
  .obtain⟨m,h1,rfl⟩:=hx
   obtain⟨h2,h3⟩:=AY h;cases h3;exact⟨h0,Ni h2,U _ (by simp only[RV];exact⟨m,h1,rfl⟩)⟩
  .obtain⟨m,h1,rfl⟩:=hx
   obtain⟨h2,h3⟩:=AY h;cases h3;exact⟨h0,Ni h2,U _ (by simp only[RV];exact⟨m,h1,rfl⟩)⟩
  .cases h
 .cases h
def QV (len sz:Nat) (agg:Option Nat) (x i:V):Option V:=
 match x,i with
 | .a cs,.i _ j=>bif Pu 0 j&&NO j len then Vs agg cs (j.toNat*sz)else none
 | _,_=>none
def fR {len sz:Nat} {agg:Option Nat} {x x' i i' v:V} (h:QV len sz agg x i=some v) (hx:RV Y x x') (hi:RV Y i i') {K:V->Prop} (U: ∀v',RV Y v v'->K v'):LH len sz agg x' i' K:=by
 unfold QV at h;split at h
 .simp only[RV]at hi
  subst hi;obtain⟨c,h1,rfl⟩:=hx;obtain⟨h2,h3⟩:=AY h;simp only[A0]at h2;exact⟨Ee h2.1,Ni h2.2,MQ h3 (Bf.1 h1) U⟩
 .cases h
def WL (x i:V):Option V:=
 match x,i with
 | .s b,.i _ j=>bif Pu 0 j then(match b.data.toList[j.toNat]? with|some c=>some (.i .u8 (.ofNat c.toNat))|none=>none)else none
 | _,_=>none
def ma {x x' i i' v:V} (h:WL x i=some v) (hx:RV Y x x') (hi:RV Y i i') {K:V->Prop} (U: ∀v',RV Y v v'->K v'):QA x' i' K:=by
 unfold WL at h;split at h
 .simp only[RV]at hi hx
  subst hi;subst hx;obtain⟨h2,h3⟩:=AY h;refine⟨Ee h2,?_⟩;split at h3
  .rename_i c hc
   cases h3;rw[hc];exact U _ (by simp only[RV];rfl)
  .cases h3
 .cases h
def dJ (x:V):Option V:=
 match x with
 | .l es _=>some (.i .i64 (.ofNat es.length))
 | .sl _ len _=>bif Nat.ble len Ae then some (.i .i64 (.ofNat len))else none
 | .sv _ _ _ len=>bif Nat.ble len Ae then some (.i .i64 (.ofNat len))else none
 | _=>none
def qo {x x' v:V} (h:dJ x=some v) (hx:RV Y x x') {K:V->Prop} (U: ∀v',RV Y v v'->K v'):As x' K:=by
 unfold dJ at h;split at h
 .obtain⟨es',h1,rfl⟩:=hx
  cases h;have:=(Ft.1 h1).len;exact U _ (by simp only[RV];rw[this];rfl)
 .obtain⟨m,h1,rfl⟩:=hx
  obtain⟨h2,h3⟩:=AY h;cases h3;exact⟨Nat.le_of_ble_eq_true h2,U _ (by simp only[RV];rfl)⟩
 .obtain⟨m,h1,rfl⟩:=hx
  obtain⟨h2,h3⟩:=AY h;cases h3;exact⟨Nat.le_of_ble_eq_true h2,U _ (by simp only[RV];rfl)⟩
 .cases h
def WN (s:St) (x:V):Option V:=
 match x with
 | .m n=>match s.t.get n with
   | some (.map kvs)=>bif Nat.ble kvs.length Ae then some (.i .i64 (.ofNat kvs.length))else none
   | _=>none
 | .mn=>some (.i .i64 0)
 | _=>none
def mb {s:St} (hs:SR P Y s Z) {x x' v:V} (h:WN s x=some v) (hx:RV Y x x') {K:V->Prop} (U: ∀v',RV Y v v'->K v'):Kv Z x' K:=by
 unfold WN at h;split at h
 .obtain⟨m,h1,rfl⟩:=hx
  split at h
  .rename_i kvs hg
   obtain⟨h2,h3⟩:=AY h;cases h3;obtain⟨o',g2,kvs',g3,rfl⟩:=hs.at hg h1;simp only[Kv,g2];have:=g3.len;exact⟨by rw[this];exact Nat.le_of_ble_eq_true h2,U _ (by simp only[RV];rw[this];rfl)⟩
  .cases h
 .cases h
  simp only[RV]at hx;subst hx;exact U _ (by simp only[RV])
 .cases h
def JG (s:St) (sz:Nat) (y:V):Option (List (List V)):=
 match y with
 | .l ys _=>bif ys.all (fun e=>Nat.beq e.length sz)then some ys else none
 | .sl m len _=>match s.t.get m with
   | some (.arr s' ys)=>bif Nat.beq s' sz&&Nat.ble len ys.length then some (ys.take len)else none
   | _=>none
 | .sv m s1 off len=>match s.t.get m with
   | some (.arr s' ys)=>bif Nat.beq s1 sz&&(Nat.beq s' sz&&Nat.ble (off+len) ys.length)then some ((ys.drop off).take len)else none
   | _=>none
 | _=>none
def IJ {s:St} (hs:SR P Y s Z) {sz:Nat} {y y':V} {ys:List (List V)} (h:JG s sz y=some ys) (hy:RV Y y y') {K:List (List V)->Prop} (U: ∀ys',gQ Y ys ys'->K ys'):rowsOf Z sz y' K:=by
 unfold JG at h;split at h
 .obtain⟨es',h1,rfl⟩:=hy
  obtain⟨h2,h3⟩:=AY h;cases h3;exact⟨Pm h2 (Ft.1 h1),U _ (Ft.1 h1)⟩
 .obtain⟨m,h1,rfl⟩:=hy
  split at h
  .rename_i es hg
   obtain⟨o',g2,es',g3,rfl⟩:=hs.at hg h1;obtain⟨h2,h3⟩:=AY h;simp only[A0]at h2;cases h3;simp only[rowsOf,g2];exact⟨DD h2.1,by rw[g3.len];exact Nat.le_of_ble_eq_true h2.2,U _ (g3.take _)⟩
  .cases h
 .obtain⟨m,h1,rfl⟩:=hy
  split at h
  .rename_i es hg
   obtain⟨o',g2,es',g3,rfl⟩:=hs.at hg h1;obtain⟨h2,h3⟩:=AY h;simp only[A0]at h2;cases h3;simp only[rowsOf,g2];exact⟨DD h2.1,DD h2.2.1,by rw[g3.len];exact Nat.le_of_ble_eq_true h2.2.2,U _ ((g3.drop _).take _)⟩
  .cases h
 .cases h
def St.new {β:Type} (s:St) (o:EO) (K:Nat->St->Option β):Option β:=
 match s.nx with
 | 0=>Tr.put (some o) A8 s.t 0 fun t=>K 0 ⟨1,t⟩
 | n+1=>bif Nat.ble (n+1) NV then Tr.put (some o) A8 s.t (n+1) fun t=>K (n+1) ⟨n+2,t⟩else none
def St.Ii {β:Type} {s:St} {o:EO} {K:Nat->St->Option β} {x:β} (h:s.new o K=some x):s.nx<=NV/\K s.nx ⟨s.nx+1,Tr.set (some o) A8 s.t s.nx⟩=some x:=by
 obtain⟨n,t⟩:=s;cases n with
 | zero=>simp only[St.new]at h;rw[Tr.put_eq]at h;exact⟨by simp[NV],h⟩
 | succ n=>
   simp only[St.new]at h;obtain⟨h1,h2⟩:=AY h;rw[Tr.put_eq]at h2;exact⟨Nat.le_of_ble_eq_true h1,h2⟩
def TI: ∀ {ys ys':List (List V)} {ns:List Int},FQ ys=some ns->gQ Y ys ys'->FQ ys'=some ns
 | [],ys',ns,h,hr=>by obtain rfl:ys'= []:=hr;exact h
 | e ::r,ys',ns,h,hr=>by
   unfold FQ at h;split at h
   .cases ‹_= []›
   .rename_i n r' he
    cases he;obtain⟨e',r'',h1,h2,rfl⟩:=hr;obtain⟨v',l',h3,h4,rfl⟩:=h1;obtain rfl:l'= []:=h4;simp only[RV]at h3;subst h3;split at h
    .rename_i l hl
     cases h;simp only[FQ,TI hl h2]
    .cases h
   .cases h
def iA (s:St) (x:V):Option V:=
 match JG s 1 x with
 | some ys=>match FQ ys with
   | some ns=>some (.s ⟨(ns.map fun n=>UInt8.ofNat n.toNat).toArray⟩)
   | none=>none
 | none=>none
def qn {s:St} (hs:SR P Y s Z) {x x' v:V} (h:iA s x=some v) (hx:RV Y x x') {K:V->Prop} (U: ∀v',RV Y v v'->K v'):gu Z x' K:=by
 unfold iA at h;split at h
 .rename_i ys hys
  split at h
  .rename_i ns hn
   cases h;refine IJ hs hys hx fun ys' hr=>?_
   rw[TI hn hr];exact U _ (by simp only[RV])
  .cases h
 .cases h
def zJ (b L:Nat):Bool:=Nat.ble L 1073741824&&Nat.ble b 131072
def UP {b L:Nat} (h:zJ b L=true):L<=Ae/\L*b<=140737488355328:=by
 simp only[zJ,A0]at h;have h1:=Nat.le_of_ble_eq_true h.1;have h2:=Nat.le_of_ble_eq_true h.2;have h3:L*b<=1073741824*131072:=Nat.mul_le_mul h1 h2;exact⟨by unfold Ae;omega,by omega⟩
def MR (b : Nat) (s:St) (sz:Nat) (x y:V):Option (V×St):=
 match JG s sz y with
 | some ys =>bif ys.all (fun e=>e.all CN)then
  match x with
  | .l es full=>bif es.all (fun e=>Nat.beq e.length sz)&&zJ b (es.length+ys.length)then
   match ys with
   | []=>some (.l es full,s)
   | z::zs=>bif full then s.new (.arr sz (es++z::zs)) fun i s'=>some (.sl i (es.length+(z::zs).length) 0,s')else none
    else none
  | .sl n len _=>match s.t.get n with
    | some (.arr s1 es)=>bif Nat.beq s1 sz&&(Nat.beq len es.length&&zJ b (es.length+ys.length))then
     Tr.put none A8 s.t n fun t=>St.new ⟨s.nx,t⟩ (.arr sz (es++ys)) fun i s'=>some (.sl i (es.length+ys.length) 0,s')else none
    | _=>none
  | _=>none
   else none
 | none=>none
def Zn {b : Nat} {s s':St} (hs:SR P Y s Z) {sz:Nat} {x x' y y' v:V} (h:MR b s sz x y=some (v,s')) (hx:RV Y x x') (hy:RV Y y y') {K:V->AE->Prop}
    (U: ∀Y' v' Z',Y.le Y'->RV Y' v v'->SR P Y' s' Z'->K v' Z'):AL b Z sz x' y' K:=by
 unfold MR at h;split at h
 .rename_i ys hys
  obtain⟨h1,h2⟩:=AY h;refine IJ hs hys hy fun ys' hr=>⟨M1 h1 hr,?_⟩
  split at h2
  .rename_i es full
   obtain⟨es',g1,rfl⟩:=hx;have g1:=Ft.1 g1;obtain⟨h3,h4⟩:=AY h2;simp only[A0]at h3;refine⟨Pm h3.1 g1,by rw[g1.len,hr.len];exact UP h3.2,fun e=>?_,fun e=>?_⟩
   .split at h4
    .cases h4
     exact U Y _ _ (.refl _) (by simp only[RV];exact⟨es',Ft.2 g1,rfl⟩) hs
    .subst e
     have:=hr.len;simp at this
   .split at h4
    .cases hr
     exact absurd rfl e
    .rename_i z zs
     obtain⟨h5,h6⟩:=AY h4;obtain⟨h7,h8⟩:=St.Ii h6;cases h8;refine⟨h5,fun n cap hn hc=>?_⟩;obtain⟨Y',q1,q2,q3⟩:=hs.new h7 hn cap (o:= .arr sz (es++z::zs)) (o':= .arr sz (es'++ys') cap) ⟨_,g1.app hr,rfl⟩;exact U Y' _ _ q1 (by simp only[RV];exact⟨_,q2,by rw[g1.len,hr.len]⟩) q3
  .rename_i n len
   obtain⟨m,g1,rfl⟩:=hx;split at h2
   .rename_i s1 es hg
    obtain⟨o',g2,es',g3,rfl⟩:=hs.at hg g1;obtain⟨h3,h4⟩:=AY h2;simp only[A0]at h3;rw[Tr.put_eq]at h4;obtain⟨h5,h6⟩:=St.Ii h4;cases h6;have e1:=DD h3.1;subst e1;simp only[g2];refine⟨trivial,trivial,by rw[g3.len];exact DD h3.2.1,by rw[g3.len,hr.len];exact UP h3.2.2,fun n' cap' hn hc=>?_⟩;obtain⟨Y',q1,q2,q3⟩:=(hs.del hg g1).new h5 hn cap' (o:= .arr s1 (es++ys)) (o':= .arr s1 (es'++ys') cap') ⟨_,g3.app hr,rfl⟩;exact U Y' _ _ q1 (by simp only[RV];exact⟨_,q2,by rw[g3.len,hr.len]⟩) q3
   .cases h2
  .cases h2
 .cases h
def WQ (b:Nat) (s:St) (sz:Nat) (x y:V):Option V:=
 match JG s sz y with
 | some ys=>bif ys.all (fun e=>e.all CN)then
  match x with
  | .l es full=>bif es.all (fun e=>Nat.beq e.length sz)&&(zJ b (es.length+ys.length)&&(full||ys.isEmpty))then some (.l (es++ys) false)else none
  | _=>none
   else none
 | none=>none
def me {b:Nat} {s:St} (hs:SR P Y s Z) {sz:Nat} {x x' y y' v:V} (h:WQ b s sz x y=some v) (hx:RV Y x x') (hy:RV Y y y') {K:V->Prop} (U: ∀v',RV Y v v'->K v'):AX b Z sz x' y' K:=by
 unfold WQ at h;split at h
 .rename_i ys hys
  obtain⟨h1,h2⟩:=AY h;refine IJ hs hys hy fun ys' hr=>⟨M1 h1 hr,?_⟩
  split at h2
  .rename_i es full
   obtain⟨es',g1,rfl⟩:=hx;have g1:=Ft.1 g1;obtain⟨h3,h4⟩:=AY h2;simp only[A0,Ea]at h3;cases h4;refine⟨Pm h3.1 g1,by rw[g1.len,hr.len];exact UP h3.2.1,fun e=>?_,U _ (by simp only[RV];exact⟨_,Ft.2 (g1.app hr),rfl⟩)⟩;rcases h3.2.2 with h|h
   .exact h
   .have:ys= []:=by simpa using h
    subst this;cases hr;exact absurd rfl e
  .cases h2
 .cases h
def oL (s:St) (sz:Nat) (ys:List (List V)) (n off len:Nat):Option (V×St):=
 match s.t.get n with
 | some (.arr s1 es)=>bif Nat.beq s1 sz&&Nat.ble (off+len) es.length then
  Tr.put (some (.arr s1 (es.take off++(ys.take (min ys.length len)++es.drop (off+min ys.length len))))) A8 s.t n fun t=>some (.i .i64 (.ofNat (min ys.length len)),⟨s.nx,t⟩)else none
 | _=>none
def cB {s s':St} (hs:SR P Y s Z) {sz n off len:Nat} {ys ys':List (List V)} (hr:gQ Y ys ys') {m:Nat×Nat} (hm:Y n=some m) {v:V} (h:oL s sz ys n off len=some (v,s')) {K:V->AE->Prop}
    (U: ∀v' Z',RV Y v v'->SR P Y s' Z'->K v' Z'):Pz Z sz ys' m.1 off len K:=by
 unfold oL at h;split at h
 .rename_i s1 es hg
  obtain⟨o',g2,es',g3,rfl⟩:=hs.at hg hm;obtain⟨h3,h4⟩:=AY h;simp only[A0]at h3;rw[Tr.put_eq]at h4;cases h4;simp only[Pz,g2];refine⟨DD h3.1,by rw[g3.len];exact Nat.le_of_ble_eq_true h3.2,?_⟩;rw[hr.len];exact U _ _ (by simp only[RV];rfl) (hs.B5 hg hm ⟨_,((g3.take off).app ((hr.take _).app (g3.drop _))),rfl⟩)
 .cases h
def WO (s:St) (sz:Nat) (x y:V):Option (V×St):=
 match JG s sz y with
 | some ys=>bif ys.all (fun e=>e.all CN)then
  match x with
  | .sl n len _=>oL s sz ys n 0 len
  | .sv n s1 off len=>bif Nat.beq s1 sz then oL s sz ys n off len else none
  | _=>none
   else none
 | none=>none
def mc {s s':St} (hs:SR P Y s Z) {sz:Nat} {x x' y y' v:V} (h:WO s sz x y=some (v,s')) (hx:RV Y x x') (hy:RV Y y y') {K:V->AE->Prop}
    (U: ∀v' Z',RV Y v v'->SR P Y s' Z'->K v' Z'):AW Z sz x' y' K:=by
 unfold WO at h;split at h
 .rename_i ys hys
  obtain⟨h1,h2⟩:=AY h;refine IJ hs hys hy fun ys' hr=>⟨M1 h1 hr,?_⟩
  split at h2
  .obtain⟨m,g1,rfl⟩:=hx
   exact cB hs hr g1 h2 U
  .obtain⟨m,g1,rfl⟩:=hx
   obtain⟨h3,h4⟩:=AY h2;exact⟨DD h3,cB hs hr g1 h4 U⟩
  .cases h2
 .cases h
def Vt (o:Option V) (d:Int):Option Int:=
 match o with
 | none=>some d
 | some (.i _ n)=>some n
 | _=>none
def ri (Y:Ren):Option V->Option V->Prop
 | none,o=>o=none
 | some v,o=> ∃v',RV Y v v'/\o=some v'
def KD {o o':Option V} {d n:Int} (h:Vt o d=some n) (ho:ri Y o o') {K:Int->Prop} (U:K n):O7 o' d K:=by
 unfold Vt at h;split at h
 .cases h;cases ho;exact U
 .obtain⟨v',h1,rfl⟩:=ho
  simp only[RV]at h1;subst h1;cases h;exact U
 .cases h
def QU (s : St) (sz:Nat) (x:V) (lo hi mx:Option V):Option (V×St):=
 match x with
 | .l es full=>match Vt hi (.ofNat es.length),Vt lo 0 with
   | some h,some l=>bif es.all (fun e=>Nat.beq e.length sz)&&(Pu 0 l&&(Pu l h&&Pu h (.ofNat es.length)))then
    match mx with
    | none=>some (.l ((es.take h.toNat).drop l.toNat) (full&&cu h (.ofNat es.length)),s)
    | some (.i _ m)=>bif cu m h then some (.l ((es.take h.toNat).drop l.toNat) true,s)else none
    | _=>none
     else none
   | _,_=>none
 | .sl n len _=>match Vt hi (.ofNat len),Vt lo 0 with
   | some h,some l=>bif Pu 0 l&&(Pu l h&&Pu h (.ofNat len))then
    match mx with
    | none=>some (.sv n sz l.toNat (h - l).toNat,s)
    | some (.i _ m)=>match s.t.get n with
      | some (.arr s1 es)=>bif cu m h&&(cu h (.ofNat len)&&(cu l 0&&(Nat.beq s1 sz&&Nat.beq len es.length)))then Tr.put none A8 s.t n fun t=>St.new ⟨s.nx,t⟩ (.arr s1 es) fun i s'=>some (.sl i len 0,s')else none
      | _=>none
    | _=>none
     else none
   | _,_=>none
 | .sv n s1 off len=>match Vt hi (.ofNat len),Vt lo 0,mx with
   | some h,some l,none=>bif Nat.beq s1 sz&&(Pu 0 l&&(Pu l h&&Pu h (.ofNat len)))then some (.sv n sz (off+l.toNat) (h - l).toNat,s)else none
   | _,_,_=>none
 | _=>none
def Ub {a b:Int} (h:cu a b=true):a=b:=by rw[Uc]at h;simpa using h
def fP {s s':St} (hs:SR P Y s Z) {sz:Nat} {x x' v:V} {lo hi mx lo' hi' mx':Option V} (h:QU s sz x lo hi mx=some (v,s')) (hx:RV Y x x') (h1:ri Y lo lo') (h2:ri Y hi hi') (h3:ri Y mx mx') {K:V->AE->Prop}
    (U: ∀Y' v' Z',Y.le Y'->RV Y' v v'->SR P Y' s' Z'->K v' Z'):AP Z sz x' lo' hi' mx' K:=by
 unfold QU at h;split at h
 .rename_i es full
  obtain⟨es',g1,rfl⟩:=hx;have g1:=Ft.1 g1;split at h
  .rename_i hh ll e1 e2
   obtain⟨h4,h5⟩:=AY h;simp only[A0]at h4;refine⟨Pm h4.1 g1,?_⟩;rw[g1.len];refine KD e1 h2 ?_;refine KD e2 h1 ?_;refine⟨Ee h4.2.1,Ee h4.2.2.1,Ee h4.2.2.2,?_⟩;split at h5
   .cases h3
    cases h5;refine U Y _ _ (.refl _) ?_ hs;simp only[RV];refine⟨_,Ft.2 ((g1.take _).drop _),?_⟩;congr 1;rw[Uc];congr 1
   .obtain⟨v',q1,rfl⟩:=h3
    simp only[RV]at q1;subst q1;obtain⟨h6,h7⟩:=AY h5;cases h7;exact⟨Ub h6,U Y _ _ (.refl _) (by simp only[RV];exact⟨_,Ft.2 ((g1.take _).drop _),rfl⟩) hs⟩
   .cases h5
  .cases h
 .rename_i n len
  obtain⟨m,g1,rfl⟩:=hx;split at h
  .rename_i hh ll e1 e2
   obtain⟨h4,h5⟩:=AY h;simp only[A0]at h4;simp only[AP];refine KD e1 h2 ?_;refine KD e2 h1 ?_;refine⟨Ee h4.1,Ee h4.2.1,Ee h4.2.2,?_⟩;split at h5
   .cases h3
    cases h5;exact U Y _ _ (.refl _) (by simp only[RV];exact⟨m,g1,rfl⟩) hs
   .obtain⟨v',q1,rfl⟩:=h3
    simp only[RV]at q1;subst q1;split at h5
    .rename_i s1 es hg
     obtain⟨o',g2,es',g3,rfl⟩:=hs.at hg g1;obtain⟨h6,h7⟩:=AY h5;simp only[A0]at h6;rw[Tr.put_eq]at h7;obtain⟨h8,h9⟩:=St.Ii h7;cases h9;simp only[g2];have h10:=DD h6.2.2.2.2;refine⟨Ub h6.1,Ub h6.2.1,Ub h6.2.2.1,DD h6.2.2.2.1,trivial,by rw[g3.len];exact h10,.inr ?_⟩;obtain⟨Y',q1,q2,q3⟩:=(hs.del hg g1).new h8 (Df Z m.1) n (o:= .arr s1 es) (o':= .arr s1 es' n) ⟨es',g3,rfl⟩
     have e:Gl.B5 (Gl.del Z m.1) m.1 (.arr s1 es' n)=Gl.B5 Z m.1 (.arr s1 es' n):=by
      funext k;by_cases hk:k=m.1
      .simp[Gl.B5,hk]
      .simp[Gl.B5,Gl.del,hk]
     rw[e]at q3;exact U Y' _ _ q1 (by simp only[RV];exact⟨_,q2,rfl⟩) q3
    .cases h5
   .cases h5
  .cases h
 .obtain⟨m,g1,rfl⟩:=hx
  split at h
  .rename_i hh ll e1 e2
   cases h3;obtain⟨h4,h5⟩:=AY h;simp only[A0]at h4;cases h5;simp only[AP];refine KD e1 h2 ?_;refine KD e2 h1 ?_;exact⟨Ee h4.2.1,Ee h4.2.2.1,Ee h4.2.2.2,DD h4.1,trivial,U Y _ _ (.refl _) (by simp only[RV];exact⟨m,g1,rfl⟩) hs⟩
  .cases h
 .cases h
def NI: ∀ {cs ds:List V} {t:Bool},Bw cs ds=some t->CH cs=true/\CH ds=true
 | [],[],_,_=>⟨rfl,rfl⟩
 | x ::xs,y::ys,t,h=>by
   cases x<;>cases y<;>simp only[Bw]at h<;>first|cases h|skip
   split at h
   .obtain⟨a,h1,_⟩:=Ai h
    obtain⟨h2,h3⟩:=NI h1;exact⟨by simp[CH,BM,h2],by simp[CH,BM,h3]⟩
   .cases h
 | [],_::_,_,h=>by simp[Bw]at h
 | x::xs,[],_,h=>by cases x<;>simp[Bw]at h
def oK {cs cs':List V} (h:Lt Y cs cs') (hp:CH cs=true):cs'=cs:=RL.fn cs _ _ (Bf.2 h) (RL.pure cs hp)
def iC (len:Nat) (neg:Bool) (x y:V):Option V:=
 match x,y with
 | .a cs,.a ds=>bif Nat.beq cs.length len then(match Bw cs ds with|some t=>some (.b (bif neg then !t else t))|none=>none)else none
 | _,_=>none
def qq {len:Nat} {neg:Bool} {x x' y y' v:V} (h:iC len neg x y=some v) (hx:RV Y x x') (hy:RV Y y y') {K:V->Prop} (U: ∀v',RV Y v v'->K v'):UD len neg x' y' K:=by
 unfold iC at h;split at h
 .rename_i cs ds
  obtain⟨cs',g1,rfl⟩:=hx;obtain⟨ds',g2,rfl⟩:=hy;obtain⟨h1,h2⟩:=AY h;split at h2
  .rename_i t ht
   cases h2;obtain⟨p1,p2⟩:=NI ht;have e1:=oK (Bf.1 g1) p1;have e2:=oK (Bf.1 g2) p2;subst e1;subst e2;simp only[UD,h1,ht];exact U _ (by simp only[RV])
  .cases h2
 .cases h
def iB (kind:Nat) (neg:Bool) (x:V):Option V:=
 match kind,x with
 | 0,.pn=>some (.b (!neg))
 | 0,.rp _=>some (.b neg)
 | 0,.p _ _=>some (.b neg)
 | 0,.pe _ _ _ _=>some (.b neg)
 | 1,.sl _ _ _=>some (.b neg)
 | 1,.l (_::_) _=>some (.b neg)
 | 2,.Dv=>some (.b (!neg))
 | 2,.FF _ _=>some (.b neg)
 | 3,.mn=>some (.b (!neg))
 | 3,.m _=>some (.b neg)
 | 4,.Lx=>some (.b (!neg))
 | 4,.f _ _ _=>some (.b neg)
 | _,_=>none
def qp {kind:Nat} {neg:Bool} {x x' v:V} (h:iB kind neg x=some v) (hx:RV Y x x') {K:V->Prop} (U: ∀v',RV Y v v'->K v'):JZ kind neg x' K:=by
 unfold iB at h;split at h
 .simp only[RV]at hx;subst hx;cases h;exact U _ (by simp only[RV])
 .obtain⟨_,_,rfl⟩:=hx;cases h;exact U _ (by simp only[RV])
 .obtain⟨_,_,rfl⟩:=hx;cases h;exact U _ (by simp only[RV])
 .obtain⟨_,_,rfl⟩:=hx;cases h;exact U _ (by simp only[RV])
 .obtain⟨_,_,rfl⟩:=hx;cases h;exact U _ (by simp only[RV])
 .obtain⟨es',g1,rfl⟩:=hx
  cases h;obtain⟨y,ys,_,_,rfl⟩:=Ft.1 g1;exact⟨fun e=>(by cases e),fun _=>U _ (by simp only[RV])⟩
 .simp only[RV]at hx;subst hx;cases h;exact U _ (by simp only[RV])
 .obtain⟨_,_,rfl⟩:=hx;cases h;exact U _ (by simp only[RV])
 .simp only[RV]at hx;subst hx;cases h;exact U _ (by simp only[RV])
 .obtain⟨_,_,rfl⟩:=hx;cases h;exact U _ (by simp only[RV])
 .simp only[RV]at hx;subst hx;cases h;exact U _ (by simp only[RV])
 .obtain⟨_,_,_,_,_,_,rfl⟩:=hx;cases h;exact U _ (by simp only[RV])
 .cases h
def Jy (s:St) (sz:Nat) (z:List V) (x y:V):Option (V×St):=
 match x,y with
 | .i _ n,.i _ m=>bif Pu 0 n&&(Pu n m&&(Nat.ble m.toNat 1073741824&&CH z))then s.new (.arr sz (List.replicate n.toNat z)) fun i s'=>some (.sl i n.toNat 0,s')else none
 | _,_=>none
def YE {s s':St} (hs:SR P Y s Z) {sz:Nat} {z:List V} {x x' y y' v:V} (h:Jy s sz z x y=some (v,s')) (hx:RV Y x x') (hy:RV Y y y') {K:V->AE->Prop}
    (U: ∀Y' v' Z',Y.le Y'->RV Y' v v'->SR P Y' s' Z'->K v' Z'):AJ Z sz z x' y' K:=by
 unfold Jy at h;split at h
 .rename_i k1 n k2 m
  simp only[RV]at hx hy;subst hx;subst hy;obtain⟨h1,h2⟩:=AY h;simp only[A0]at h1;obtain⟨h3,h4⟩:=St.Ii h2;cases h4;have h5:=Ee h1.1;have h7:=Ee h1.2.1;have h6:m.toNat<=1073741824:=Nat.le_of_ble_eq_true h1.2.2.1;refine⟨h5,h7,by omega,fun id hid=>?_⟩;obtain⟨Y',q1,q2,q3⟩:=hs.new h3 hid m.toNat (o:= .arr sz (List.replicate n.toNat z)) (o':= .arr sz (List.replicate n.toNat z) m.toNat) ⟨_,F2.rep (Bf.1 (RL.pure z h1.2.2.2)) _,rfl⟩;exact U Y' _ _ q1 (by simp only[RV];exact⟨_,q2,rfl⟩) q3
 .cases h
def Ov: ∀ {l:List IntKind} {cs:List V},Dn l cs=true->CH cs=true
 | [],[],_=>rfl
 | q::l,x::cs,h=>by
   cases x<;>simp only[Dn]at h<;>first|cases h|skip
   simp only[A0]at h;simp[CH,BM,Ov h.2]
 | [],_::_,h=>by simp[Dn]at h
 | _::_,[],h=>by simp[Dn]at h
def FZ {ks:KS} {v:V} (h:BV ks v=true):BM v=true:=by
 unfold BV at h;split at h
 .rfl
 .exact Ov h
 .rfl
 .cases h
def TM {ks:KS} {key:V}: ∀ {kvs kvs':List (V×V)},(kvs.all fun kv=>BV ks kv.1)=true->F2 (RK Y) kvs kvs'->ri Y (Co key kvs) (Co key kvs')
 | [],_,_,h=>by cases h;rfl
 | (k,v)::r,_,ha,⟨y,ys,h1,h2,e⟩=>by
   subst e;obtain⟨k',v'⟩:=y;simp only[R8,A0]at ha;have e1:k'=k:=RV.nr h1.1 (FZ ha.1);subst e1;simp only[Co];cases Dz key k' with
   | true=>exact⟨v',h1.2,rfl⟩
   | false=>exact TM ha.2 h2
def W9 {ks:KS} {key x x':V} (hp:BM key=true) (hx:RV Y x x'): ∀ {kvs kvs':List (V×V)},(kvs.all fun kv=>BV ks kv.1)=true->F2 (RK Y) kvs kvs'->F2 (RK Y) (Da key x kvs) (Da key x' kvs')
 | [],_,_,h=>by cases h;exact F2.cons ⟨RV.pure key hp,hx⟩ F2.nil
 | (k,v)::r,_,ha,⟨y,ys,h1,h2,e⟩=>by
   subst e;obtain⟨k',v'⟩:=y;simp only[R8,A0]at ha;have e1:k'=k:=RV.nr h1.1 (FZ ha.1);subst e1;simp only[Da];cases Dz key k' with
   | true=>exact F2.cons ⟨RV.pure key hp,hx⟩ h2
   | false=>exact F2.cons h1 (W9 hp hx ha.2 h2)
def bV {ks:KS} {kvs kvs':List (V×V)} (ha:(kvs.all fun kv=>BV ks kv.1)=true) (h:F2 (RK Y) kvs kvs'): ∀kv∈kvs',BV ks kv.1=true:=fun kv hm=>by
 obtain⟨u,hu,hr⟩:=F2.mem h hm;rw[DJ]at ha;have h1:=ha u hu;rw[RV.nr hr.1 (FZ h1)];exact h1
def MP (s:St) (ks:KS) (z:V) (ok:Bool) (vm vk:V):Option V:=
 bif BV ks vk&&BM z then
  match vm with
  | .m n=>match s.t.get n with
    | some (.map kvs)=>bif kvs.all (fun kv=>BV ks kv.1)then some (found z ok (Co vk kvs))else none
    | _=>none
  | .mn=>some (found z ok none)
  | _=>none
 else none
def XL {z:V} {ok:Bool} (hz:BM z=true) {o o':Option V} (h:ri Y o o'):RV Y (found z ok o) (found z ok o'):=by
 cases o with
 | none=>
   cases h;cases ok with
   | true=>simp only[found,cond_true,RV];exact⟨_,Bf.2 (F2.cons (RV.pure z hz) (F2.cons (RV.pure _ rfl) F2.nil)),rfl⟩
   | false=>exact RV.pure z hz
 | some v=>
   obtain⟨v',h1,rfl⟩:=h;cases ok with
   | true=>simp only[found,cond_true,RV];exact⟨_,Bf.2 (F2.cons h1 (F2.cons (RV.pure _ rfl) F2.nil)),rfl⟩
   | false=>exact h1
def Zm {s:St} (hs:SR P Y s Z) {ks:KS} {z:V} {ok:Bool} {vm vm' vk vk' v:V} (h:MP s ks z ok vm vk=some v) (hm:RV Y vm vm') (hk:RV Y vk vk') {K:V->Prop} (U: ∀v',RV Y v v'->K v'):AM Z ks z ok vm' vk' K:=by
 unfold MP at h;obtain⟨h1,h2⟩:=AY h;simp only[A0]at h1;have e:=RV.nr hk (FZ h1.1);subst e;refine⟨h1.1,?_⟩;split at h2
 .obtain⟨m,g1,rfl⟩:=hm
  split at h2
  .rename_i kvs hg
   obtain⟨o',g2,kvs',g3,rfl⟩:=hs.at hg g1;obtain⟨h3,h4⟩:=AY h2;cases h4;simp only[g2];exact⟨bV h3 g3,U _ (XL h1.2 (TM h3 g3))⟩
  .cases h2
 .simp only[RV]at hm
  subst hm;cases h2;exact U _ (XL h1.2 rfl)
 .cases h2
def MO (s:St) (ks:KS) (vm vk vv:V):Option St:=
 bif BV ks vk then
  match vm with
  | .m n=>match s.t.get n with
    | some (.map kvs)=>bif kvs.all (fun kv=>BV ks kv.1)then Tr.put (some (.map (Da vk vv kvs))) A8 s.t n fun t=>some ⟨s.nx,t⟩else none
    | _=>none
  | _=>none
 else none
def Zl {s s':St} (hs:SR P Y s Z) {ks:KS} {vm vm' vk vk' vv vv':V} (h:MO s ks vm vk vv=some s') (hm:RV Y vm vm') (hk:RV Y vk vk') (hv:RV Y vv vv') {K:AE->Prop} (U: ∀Z',SR P Y s' Z'->K Z') :
    AN Z ks vm' vk' vv' K:=by
 unfold MO at h;obtain⟨h1,h2⟩:=AY h;have e:=RV.nr hk (FZ h1);subst e;refine⟨h1,?_⟩;split at h2
 .obtain⟨m,g1,rfl⟩:=hm
  split at h2
  .rename_i kvs hg
   obtain⟨o',g2,kvs',g3,rfl⟩:=hs.at hg g1;obtain⟨h3,h4⟩:=AY h2;rw[Tr.put_eq]at h4;cases h4;simp only[g2];exact⟨bV h3 g3,U _ (hs.B5 hg g1 ⟨_,W9 (FZ h1) hv h3 g3,rfl⟩)⟩
  .cases h2
 .cases h2
def Np (env:Env):List V->List (Nat×Nat×Bo)->Option (List V)
 | cs,[]=>some cs
 | cs,(off,sz,x)::r=>
   match Dh env x with
   | some v=>match cellsOf v with
     | some vc=>bif Nat.beq vc.length sz&&Nat.ble (off+sz) cs.length then Np env (putAt cs off vc) r else none
     | none=>none
   | none=>none
def Tl (he:RE Y env env₀): ∀ {ps:List (Nat×Nat×Bo)} {cs cs' cs1:List V},Np env cs ps=some cs1->Lt Y cs cs'-> ∃cs1',K0 env₀ cs' ps=some cs1'/\Lt Y cs1 cs1'
 | [],_,cs',_,h,hc=>by cases h;exact⟨cs',rfl,hc⟩
 | (off,sz,x)::r,cs,cs',cs1,h,hc=>by
   simp only[Np]at h;split at h
   .rename_i v hv
    split at h
    .rename_i vc hvc
     obtain⟨h1,h2⟩:=AY h;obtain⟨v',e1,e2⟩:=Ax he hv;obtain⟨vc',e3,e4⟩:=Gn hvc e2;obtain⟨c,e5,e6⟩:=Tl he h2 (Mg hc e4);refine⟨c,?_,e6⟩;simp only[K0,e1,e3];rw[e4.len,hc.len,h1];exact e5
    .cases h
   .cases h
def Nq (env:Env) (sz:Nat):List (List V)->List (Nat×Bo)->Option (List (List V))
 | es,[]=>some es
 | es,(i,x)::r=>
   match Dh env x with
   | some v=>match cellsOf v with
     | some vc=>bif Nat.beq vc.length sz&&Nat.blt i es.length then Nq env sz (es.set i vc) r else none
     | none=>none
   | none=>none
def Tm (he:RE Y env env₀) {sz:Nat}: ∀ {ps:List (Nat×Bo)} {cs cs' cs1:List (List V)},Nq env sz cs ps=some cs1->gQ Y cs cs'-> ∃cs1',Jj env₀ sz cs' ps=some cs1'/\gQ Y cs1 cs1'
 | [],_,cs',_,h,hc=>by cases h;exact⟨cs',rfl,hc⟩
 | (i, x)::r,cs,cs',cs1,h,hc=>by
   simp only[Nq]at h;split at h
   .rename_i v hv
    split at h
    .rename_i vc hvc
     obtain⟨h1,h2⟩:=AY h;obtain⟨v',e1,e2⟩:=Ax he hv;obtain⟨vc',e3,e4⟩:=Gn hvc e2;obtain⟨c,e5,e6⟩:=Tm he h2 (hc.set i e4);refine⟨c,?_,e6⟩;simp only[Jj,e1,e3];rw[e4.len,hc.len,h1];exact e5
    .cases h
   .cases h
end Go.Gl
namespace Go.Gl
variable {P:Program} {Y Y':Ren} {Z:AE} {env env₀:Env}
def ob {α β:Type} (o:Option α) (k:α->Option β):Option β:=match o with|some v=>k v|none=>none
def AS {α β:Type} {o:Option α} {k:α->Option β} {r:β} (h:ob o k=some r): ∃v,o=some v/\k v=some r:=by
 cases o with
 | none=>cases h
 | some v=>exact⟨v,rfl,h⟩
def REx (Y:Ren):Ad->Ad->Prop
 | .Bh v,x=> ∃v',RV Y v v'/\x= .Bh v'
 | .normal,x=>x= .normal
 | .ret,x=>x= .ret
 | .exit id,x=>x= .exit id
def rj (Y:Ren):R->R->Prop
 | .ret v,r=> ∃v',RV Y v v'/\r= .ret v'
 | .Bh v,r=> ∃v',RV Y v v'/\r= .Bh v'
abbrev CF:=FuncId->List V->St->Option (R×St)
abbrev CV:=V->List V->St->Option (R×St)
abbrev CP:=FuncId->List V->Option V
def LQ (P:Program) (c:CF):Prop:= ∀f vs s r s',c f vs s=some (r,s')-> ∀Y vs' Z,Lt Y vs vs'->SR P Y s Z-> ∀Q:R->AE->Prop,(∀Y' r' Z',Y.le Y'->rj Y' r r'->SR P Y' s' Z'->Q r' Z')->Ar P f vs' Z Q
def KK (P:Program) (c:CV):Prop:= ∀x vs s r s',c x vs s=some (r,s')-> ∀Y x' vs' Z,RV Y x x'->Lt Y vs vs'->SR P Y s Z-> ∀Q:R->AE->Prop,(∀Y' r' Z',Y.le Y'->rj Y' r r'->SR P Y' s' Z'->Q r' Z')->Am P x' vs' Z Q
def Nw (P:Program) (c:CP):Prop:= ∀f vs v,c f vs=some v->CH vs=true/\BM v=true/\Pure P f vs v
def ov (o:Option V) (s:St):Option (R×St):=match o with|some v=>some (.ret v,s)|none=>none
def Cc {o:Option V} {s s':St} {r:R} (h:ov o s=some (r,s')): ∃v,o=some v/\r= .ret v/\s'=s:=by
 cases o with
 | none=>cases h
 | some v=>cases h;exact⟨v,rfl,rfl,rfl⟩
def os (o:Option St):Option (R×St):=match o with|some s=>some (.ret (.t []),s)|none=>none
def pH {o:Option St} {s':St} {r:R} (h:os o=some (r,s')):o=some s'/\r= .ret (.t []):=by
 cases o with
 | none=>cases h
 | some v=>cases h;exact⟨rfl,rfl⟩
def cq (o:Option (V×St)):Option (R×St):=match o with|some (v,s)=>some (.ret v,s)|none=>none
def Mh {o:Option (V×St)} {s':St} {r:R} (h:cq o=some (r,s')): ∃v,o=some (v,s')/\r= .ret v:=by
 cases o with
 | none=>cases h
 | some v=>cases h;exact⟨_,rfl,rfl⟩
def LG (env:Env):Option Bo->Option (Option V)
 | none=>some none
 | some x=>match Dh env x with|some v=>some (some v)|none=>none
def N7 (he:RE Y env env₀) {x:Option Bo} {v:Option V} (h:LG env x=some v): ∃v',H3 env₀ x=some v'/\ri Y v v':=by
 cases x with
 | none=>cases h;exact⟨none,rfl,rfl⟩
 | some x=>
   simp only[LG]at h;split at h
   .rename_i u hu
    cases h;obtain⟨v',h1,h2⟩:=Ax he hu;exact⟨some v',by simp only[H3,h1],v',h2,rfl⟩
   .cases h
def hZ (t:TypeId) (z:V) (ok:Bool) (x:V):Option V:=
 match x with
 | .FF t' v=>bif Nat.beq t' t then some (bif ok then .t [v,.b true]else v)else(bif ok&&BM z then some (.t [z,.b false])else none)
 | .Dv=>bif ok&&BM z then some (.t [z,.b false])else none
 | _=>none
def Nn (x:V):Option V:=
 match x with
 | .p n off=>some (.p n off)
 | .rp cs=>some (.rp cs)
 | .pe n sz i off=>some (.pe n sz i off)
 | .f (.func f) a b=>some (.f (.func f) a b)
 | .f (.yield f) a b=>some (.f (.yield f) a b)
 | _=>none
def F5 (cf:CF) (cv:CV) (cp:CP) (o:F6) (env:Env) (s:St):Option (R×St):=
 match o with
 | .mv x=>ov (Dh env x) s
 | .nk x=>ov (Dh env x) s
 | .pick c a b=>ob (Dh env c) fun vc=>ob (Dh env a) fun va=>ob (Dh env b) fun vb=>match vc with| .b t=>some (.ret (bif t then va else vb),s)|_=>none
 | .bin op x y=>ob (Dh env x) fun vx=>ob (Dh env y) fun vy=>ov (Vu op vx vy) s
 | .nu neg x y=>ob (Dh env x) fun vx=>ob (Dh env y) fun vy=>match vx,vy with| .b p,.b q=>some (.ret (.b (bif neg then p != q else p==q)),s)|_,_=>none
 | .not x=>ob (Dh env x) fun vx=>match vx with| .b p=>some (.ret (.b (!p)),s)|_=>none
 | .neg xor x=>ob (Dh env x) fun vx=>match vx with| .i ka a=>some (.ret (.i ka (bif xor then bits .xor ka (bif ka.signed then -1 else ka.max) a else ka.wrap (0 - a))),s)|_=>none
 | .conv ka x=>ob (Dh env x) fun vx=>match vx with| .i _ a=>some (.ret (.i ka (I6 ka a)),s)|_=>none
 | .box x=>ob (Dh env x) fun vx=>ob (cellsOf vx) fun cs=>s.new (.cs cs) fun i s'=>some (.ret (.p i 0),s')
 | .PF x=>ob (Dh env x) fun vx=>ob (cellsOf vx) fun cs=>some (.ret (.rp cs),s)
 | .SS sz b x y=>ob (Dh env x) fun vx=>ob (Dh env y) fun vy=>ov (WQ b s sz vx vy) s
 | .alloc z=>bif CH z then s.new (.cs z) fun i s'=>some (.ret (.p i 0),s')else none
 | .build z parts=>bif CH z then ob (Np env z parts) fun cs=>some (.ret (.a cs),s)else none
 | .Hi _ len z parts=>bif CH z then ob (Nq env z.length (List.replicate len z) parts) fun es=>some (.ret (.l es true),s)else none
 | .load agg x=>ob (Dh env x) fun vx=>ov (Oe s agg vx) s
 | .store sz a x=>ob (Dh env a) fun va=>ob (Dh env x) fun vx=>os (QT s sz va vx)
 | .F9 off x=>ob (Dh env x) fun vx=>ov (Ud off vx) s
 | .field agg off x=>ob (Dh env x) fun vx=>match vx with| .a cs=>ov (Vs agg cs off) s|_=>none
 | .L4 sz arr x i=>ob (Dh env x) fun vx=>ob (Dh env i) fun vi=>ov (No sz arr vx vi) s
 | .index len sz agg x i=>ob (Dh env x) fun vx=>ob (Dh env i) fun vi=>ov (QV len sz agg vx vi) s
 | .slice sz x lo hi mx=>ob (Dh env x) fun vx=>ob (LG env lo) fun l=>ob (LG env hi) fun h=>ob (LG env mx) fun m=>cq (QU s sz vx l h m)
 | .len x=>ob (Dh env x) fun vx=>ov (dJ vx) s
 | .UC x=>ob (Dh env x) fun vx=>ov (WN s vx) s
 | .Vd x i=>ob (Dh env x) fun vx=>ob (Dh env i) fun vi=>ov (WL vx vi) s
 | .str x=>ob (Dh env x) fun vx=>ov (iA s vx) s
 | .append sz b x y=>ob (Dh env x) fun vx=>ob (Dh env y) fun vy=>cq (MR b s sz vx vy)
 | .copy sz x y=>ob (Dh env x) fun vx=>ob (Dh env y) fun vy=>cq (WO s sz vx vy)
 | .Vi x y=>ob (Dh env x) fun vx=>ob (Dh env y) fun vy=>match vx,vy with| .i ka a,.i kb b=>bif decide (ka=kb)then some (.ret (.i ka (bif NO a b then b else a)),s)else none|_,_=>none
 | .Vh x y=>ob (Dh env x) fun vx=>ob (Dh env y) fun vy=>match vx,vy with| .i ka a,.i kb b=>bif decide (ka=kb)then some (.ret (.i ka (bif NO b a then b else a)),s)else none|_,_=>none
 | .extract i x=>ob (Dh env x) fun vx=>match vx with| .t vs=>ov (vs[i]?) s|_=>none
 | .JA x=>ob (Dh env x) fun vx=>ov (Nn vx) s
 | .gK f first cap=>ob (PD env first) fun vf=>ob (PD env cap) fun vc=>bif Nf f then some (.ret (.f f vf vc),s)else none
 | .OY t x=>ob (Dh env x) fun vx=>some (.ret (.FF t vx),s)
 | .gI t z ok x=>ob (Dh env x) fun vx=>ov (hZ t z ok vx) s
 | .panic x=>ob (Dh env x) fun vx=>match vx with| .FF t v=>some (.Bh (.FF t v),s)|_=>none
 | .call f args=>ob (PD env args) fun vs=>cf f vs s
 | .nt len neg x y=>ob (Dh env x) fun vx=>ob (Dh env y) fun vy=>ov (iC len neg vx vy) s
 | .gO kind neg x=>ob (Dh env x) fun vx=>ov (iB kind neg vx) s
 | .GJ sz _ z x y=>ob (Dh env x) fun vx=>ob (Dh env y) fun vy=>cq (Jy s sz z vx vy)
 | .OX=>s.new (.map []) fun i s'=>some (.ret (.m i),s')
 | .lookup ks z ok m key=>ob (Dh env m) fun vm=>ob (Dh env key) fun vk=>ov (MP s ks z ok vm vk) s
 | .Ed ks m key x=>ob (Dh env m) fun vm=>ob (Dh env key) fun vk=>ob (Dh env x) fun vx=>os (MO s ks vm vk vx)
 | .L8 f args=>ob (PD env args) fun vs=>ov (cp f vs) s
 | .Jm x args=>ob (Dh env x) fun vx=>ob (PD env args) fun vs=>cv vx vs s
 | .inv tab x args=>ob (Dh env x) fun vx=>ob (PD env args) fun vs=>match vx with| .FF t v=>ob (look t tab) fun f=>cf f (v::vs) s|_=>none
 | _=>none
def qm {t:TypeId} {z:V} {ok:Bool} {x x' v:V} (h:hZ t z ok x=some v) (hx:RV Y x x') {K:V->Prop} (U: ∀v',RV Y v v'->K v') :
    match(generalizing:=false) x' with
     | .FF t' v=>(t'=t->K (bif ok then .t [v,.b true]else v))/\(t'≠t->ok=true/\K (.t [z,.b false]))
     | .Dv=>ok=true/\K (.t [z,.b false])
     | _=>False:=by
 have zz: ∀ {v},BM z=true->some (V.t [z,.b false])=some v->K (.t [z,.b false])->K v:=fun _ e k=>by cases e;exact k
 unfold hZ at h;split at h
 .rename_i t' u
  obtain⟨u',h1,rfl⟩:=hx;refine⟨fun e=>?_,fun e=>?_⟩
  .subst e
   rw[Nat.beq_refl]at h;cases h;cases ok with
   | true=>exact U _ (by simp only[cond_true,RV];exact⟨_,Bf.2 (F2.cons h1 (F2.cons (RV.pure _ rfl) F2.nil)),rfl⟩)
   | false=>exact U _ h1
  .have hb:Nat.beq t' t=false:=by
    cases hb:Nat.beq t' t with
    | false=>rfl
    | true=>exact absurd (DD hb) e
   rw[hb]at h;obtain⟨h2,h3⟩:=AY h;simp only[A0]at h2;cases h3;exact⟨h2.1,U _ (by simp only[RV];exact⟨_,Bf.2 (F2.cons (RV.pure _ h2.2) (F2.cons (RV.pure _ rfl) F2.nil)),rfl⟩)⟩
 .simp only[RV]at hx
  subst hx;obtain⟨h2,h3⟩:=AY h;simp only[A0]at h2;cases h3;exact⟨h2.1,U _ (by simp only[RV];exact⟨_,Bf.2 (F2.cons (RV.pure _ h2.2) (F2.cons (RV.pure _ rfl) F2.nil)),rfl⟩)⟩
 .cases h
def fQ {x x' v:V} (h:Nn x=some v) (hx:RV Y x x') {K:V->Prop} (U: ∀v',RV Y v v'->K v') :
    match(generalizing:=false) x' with
     | .p n off=>K (.p n off)
     | .rp cs=>K (.rp cs)
     | .pe n sz i off=>K (.pe n sz i off)
     | .f (.func f) first cap=>K (.f (.func f) first cap)
     | .f (.yield l) first cap=>K (.f (.yield l) first cap)
     | _=>False:=by
 have hv:v=x:=by unfold Nn at h;split at h<;>cases h<;>rfl
 subst hv;have hk:=U _ hx;unfold Nn at h;split at h
 .obtain⟨_,_,rfl⟩:=hx;exact hk
 .obtain⟨_,_,rfl⟩:=hx;exact hk
 .obtain⟨_,_,rfl⟩:=hx;exact hk
 .obtain⟨fn,a,b,h1,_,_,rfl⟩:=hx
  simp only[c7]at h1;subst h1;exact hk
 .obtain⟨fn,a,b,h1,_,_,rfl⟩:=hx
  obtain⟨m,_,rfl⟩:=h1;exact hk
 .cases h
def jl {cf:CF} {cv:CV} {cp:CP} (hcf:LQ P cf) (hcv:KK P cv) (hcp:Nw P cp) {o:F6} {s s':St} {r:R} (h:F5 cf cv cp o env s=some (r,s')) (he:RE Y env env₀) (hs:SR P Y s Z) {k kp:V->AE->Prop}
    (hk: ∀Y' r' Z',Y.le Y'->rj Y' r r'->SR P Y' s' Z'->qk k kp r' Z'):Fc P o env₀ Z k kp:=by
 have hv: ∀ {v:V},r= .ret v->s'=s-> ∀v',RV Y v v'->k v' Z:=fun e1 e2 v' g=>by
  subst e1;subst e2;exact hk Y (.ret v') Z (.refl _) ⟨v',g,rfl⟩ hs
 have hvs: ∀ {v:V},r= .ret v-> ∀v' Z',RV Y v v'->SR P Y s' Z'->k v' Z':=fun e1 v' Z' g g2=>by
  subst e1;exact hk Y (.ret v') Z' (.refl _) ⟨v',g,rfl⟩ g2
 have hvr: ∀ {v:V},r= .ret v-> ∀Y' v' Z',Y.le Y'->RV Y' v v'->SR P Y' s' Z'->k v' Z':=fun e1 Y' v' Z' g0 g g2=>by
  subst e1;exact hk Y' (.ret v') Z' g0 ⟨v',g,rfl⟩ g2
 have hu: ∀ {o1:Option St},os o1=some (r,s')->o1=some s'/\ ∀Z',SR P Y s' Z'->k (.t []) Z':=fun h=>by
  obtain⟨h1,h2⟩:=pH h;subst h2;exact⟨h1,fun Z' h3=>hk Y (.ret (.t [])) Z' (.refl _) ⟨_,RV.pure _ rfl,rfl⟩ h3⟩
 cases o<;>simp only[F5]at h<;>simp only[Fc]
 case mv x=>
  obtain⟨v,h1,h2,h3⟩:=Cc h;obtain⟨v',e1,e2⟩:=Ax he h1;rw[e1];exact hv h2 h3 _ e2
 case nk x=>
  obtain⟨v,h1,h2,h3⟩:=Cc h;obtain⟨v',e1,e2⟩:=Ax he h1;rw[e1];exact⟨v',Z,Sub.refl _,.refl _,hv h2 h3 _ e2⟩
 case pick c a b=>
  replace h:=AS h;obtain⟨vc,h1,h⟩:=h;replace h:=AS h;obtain⟨va,h2,h⟩:=h;replace h:=AS h;obtain⟨vb,h3,h⟩:=h;obtain⟨vc',e1,r1⟩:=Ax he h1;obtain⟨va',e2,r2⟩:=Ax he h2;obtain⟨vb',e3,r3⟩:=Ax he h3;rw[e1,e2,e3];simp only[wv];split at h
  .rename_i t
   simp only[RV]at r1;subst r1;cases h;have hh:=hv rfl rfl (bif t then va' else vb') (by cases t;exact r3;exact r2);cases t<;>cases va'<;>first|exact hh|(cases vb'<;>exact hh)
  .cases h
 case bin op x y=>
  replace h:=AS h;obtain⟨vx,h1,h⟩:=h;replace h:=AS h;obtain⟨vy,h2,h⟩:=h;obtain⟨v,h3,h4,h5⟩:=Cc h;obtain⟨vx',e1,r1⟩:=Ax he h1;obtain⟨vy',e2,r2⟩:=Ax he h2;obtain⟨p1,p2,p3,p4⟩:=qs h3;rw[e1,e2,RV.nr r1 p1,RV.nr r2 p2];exact p4 (fun v=>k v Z) (hv h4 h5 _ (RV.pure _ p3))
 case nu neg x y=>
  replace h:=AS h;obtain⟨vx,h1,h⟩:=h;replace h:=AS h;obtain⟨vy,h2,h⟩:=h;obtain⟨vx',e1,r1⟩:=Ax he h1;obtain⟨vy',e2,r2⟩:=Ax he h2;rw[e1,e2];split at h
  .simp only[RV]at r1 r2
   subst r1;subst r2;cases h;exact hv rfl rfl _ (RV.pure _ rfl)
  .cases h
 case not x=>
  replace h:=AS h;obtain⟨vx,h1,h⟩:=h;obtain⟨vx',e1,r1⟩:=Ax he h1;rw[e1];split at h
  .simp only[RV]at r1
   subst r1;cases h;exact hv rfl rfl _ (RV.pure _ rfl)
  .cases h
 case neg xor x=>
  replace h:=AS h;obtain⟨vx,h1,h⟩:=h;obtain⟨vx',e1,r1⟩:=Ax he h1;rw[e1];split at h
  .simp only[RV]at r1
   subst r1;cases h;exact hv rfl rfl _ (RV.pure _ rfl)
  .cases h
 case conv ka x=>
  replace h:=AS h;obtain⟨vx,h1,h⟩:=h;obtain⟨vx',e1,r1⟩:=Ax he h1;rw[e1];split at h
  .simp only[RV]at r1
   subst r1;cases h;have:=hv rfl rfl _ (RV.pure _ rfl);rw[Js]at this;exact this
  .cases h
 case box x=>
  replace h:=AS h;obtain⟨vx,h1,h⟩:=h;replace h:=AS h;obtain⟨cs,h2,h⟩:=h;obtain⟨vx',e1,r1⟩:=Ax he h1;obtain⟨cs',e2,r2⟩:=Gn h2 r1;obtain⟨h3,h4⟩:=St.Ii h;cases h4;rw[e1];simp only[wv,e2];intro n hn;obtain⟨Y',q1,q2,q3⟩:=hs.new h3 hn 0 (o:= .cs cs) (o':= .cs cs') ⟨_,r2,rfl⟩;exact hvr rfl Y' _ _ q1 (by simp only[RV];exact⟨_,q2,rfl⟩) q3
 case PF x=>
  replace h:=AS h;obtain⟨vx,h1,h⟩:=h;replace h:=AS h;obtain⟨cs,h2,h⟩:=h;obtain⟨vx',e1,r1⟩:=Ax he h1;obtain⟨cs',e2,r2⟩:=Gn h2 r1;cases h;rw[e1];simp only[wv,e2];exact hv rfl rfl _ (by simp only[RV];exact⟨_,Bf.2 r2,rfl⟩)
 case SS sz b x y=>
  replace h:=AS h;obtain⟨vx,h1,h⟩:=h;replace h:=AS h;obtain⟨vy,h2,h⟩:=h;obtain⟨v,h3,h4,h5⟩:=Cc h;obtain⟨vx',e1,r1⟩:=Ax he h1;obtain⟨vy',e2,r2⟩:=Ax he h2;rw[e1,e2];exact me hs h3 r1 r2 (hv h4 h5)
 case alloc z=>
  replace h:=AY h;obtain⟨h0,h⟩:=h;obtain⟨h3,h4⟩:=St.Ii h;cases h4;intro n hn;obtain⟨Y',q1,q2,q3⟩:=hs.new h3 hn 0 (o:= .cs z) (o':= .cs z) ⟨_,Bf.1 (RL.pure z h0),rfl⟩;exact hvr rfl Y' _ _ q1 (by simp only[RV];exact⟨_,q2,rfl⟩) q3
 case build z parts=>
  replace h:=AY h;obtain⟨h0,h⟩:=h;replace h:=AS h;obtain⟨cs,h1,h⟩:=h;cases h;obtain⟨cs',e1,r1⟩:=Tl he h1 (Bf.1 (RL.pure z h0));rw[e1];exact hv rfl rfl _ (by simp only[RV];exact⟨_,Bf.2 r1,rfl⟩)
 case Hi b len z parts=>
  replace h:=AY h;obtain⟨h0,h⟩:=h;replace h:=AS h;obtain⟨cs,h1,h⟩:=h;cases h;obtain⟨cs',e1,r1⟩:=Tm he h1 (F2.rep (Bf.1 (RL.pure z h0)) len);rw[e1];exact hv rfl rfl _ (by simp only[RV];exact⟨_,Ft.2 r1,rfl⟩)
 case load agg x=>
  replace h:=AS h;obtain⟨vx,h1,h⟩:=h;obtain⟨v,h3,h4,h5⟩:=Cc h;obtain⟨vx',e1,r1⟩:=Ax he h1;rw[e1];exact XT hs h3 r1 (hv h4 h5)
 case store sz a x=>
  replace h:=AS h;obtain⟨vx,h1,h⟩:=h;replace h:=AS h;obtain⟨vy,h2,h⟩:=h;obtain⟨vx',e1,r1⟩:=Ax he h1;obtain⟨vy',e2,r2⟩:=Ax he h2;obtain⟨h3,h4⟩:=hu h;rw[e1,e2];exact fO hs h3 r1 r2 h4
 case F9 off x=>
  replace h:=AS h;obtain⟨vx,h1,h⟩:=h;obtain⟨v,h3,h4,h5⟩:=Cc h;obtain⟨vx',e1,r1⟩:=Ax he h1;rw[e1];exact fT h3 r1 (hv h4 h5)
 case field agg off x=>
  replace h:=AS h;obtain⟨vx,h1,h⟩:=h;obtain⟨vx',e1,r1⟩:=Ax he h1;rw[e1];split at h
  .obtain⟨v,h3,h4,h5⟩:=Cc h
   obtain⟨c,g1,rfl⟩:=r1;exact MQ h3 (Bf.1 g1) (hv h4 h5)
  .cases h
 case L4 sz arr x i=>
  replace h:=AS h;obtain⟨vx,h1,h⟩:=h;replace h:=AS h;obtain⟨vy,h2,h⟩:=h;obtain⟨v,h3,h4,h5⟩:=Cc h;obtain⟨vx',e1,r1⟩:=Ax he h1;obtain⟨vy',e2,r2⟩:=Ax he h2;rw[e1,e2];exact fS h3 r1 r2 (hv h4 h5)
 case index len sz agg x i=>
  replace h:=AS h;obtain⟨vx,h1,h⟩:=h;replace h:=AS h;obtain⟨vy,h2,h⟩:=h;obtain⟨v,h3,h4,h5⟩:=Cc h;obtain⟨vx',e1,r1⟩:=Ax he h1;obtain⟨vy',e2,r2⟩:=Ax he h2;rw[e1,e2];exact fR h3 r1 r2 (hv h4 h5)
 case slice sz x lo hi mx=>
  replace h:=AS h;obtain⟨vx,h1,h⟩:=h;replace h:=AS h;obtain⟨l,h2,h⟩:=h;replace h:=AS h;obtain⟨hh,h3,h⟩:=h;replace h:=AS h;obtain⟨m,h4,h⟩:=h;obtain⟨v,h5,h6⟩:=Mh h;obtain⟨vx',e1,r1⟩:=Ax he h1;obtain⟨l',e2,r2⟩:=N7 he h2;obtain⟨hh',e3,r3⟩:=N7 he h3;obtain⟨m',e4,r4⟩:=N7 he h4;rw[e1,e2,e3,e4];exact fP hs h5 r1 r2 r3 r4 (hvr h6)
 case len x=>
  replace h:=AS h;obtain⟨vx,h1,h⟩:=h;obtain⟨v,h3,h4,h5⟩:=Cc h;obtain⟨vx',e1,r1⟩:=Ax he h1;rw[e1];exact qo h3 r1 (hv h4 h5)
 case UC x=>
  replace h:=AS h;obtain⟨vx,h1,h⟩:=h;obtain⟨v,h3,h4,h5⟩:=Cc h;obtain⟨vx',e1,r1⟩:=Ax he h1;rw[e1];exact mb hs h3 r1 (hv h4 h5)
 case Vd x i=>
  replace h:=AS h;obtain⟨vx,h1,h⟩:=h;replace h:=AS h;obtain⟨vi,h2,h⟩:=h;obtain⟨v,h3,h4,h5⟩:=Cc h;obtain⟨vx',e1,r1⟩:=Ax he h1;obtain⟨vi',e2,r2⟩:=Ax he h2;rw[e1,e2];exact ma h3 r1 r2 (hv h4 h5)
 case str x=>
  replace h:=AS h;obtain⟨vx,h1,h⟩:=h;obtain⟨v,h3,h4,h5⟩:=Cc h;obtain⟨vx',e1,r1⟩:=Ax he h1;rw[e1];exact qn hs h3 r1 (hv h4 h5)
 case append sz b x y=>
  replace h:=AS h;obtain⟨vx,h1,h⟩:=h;replace h:=AS h;obtain⟨vy,h2,h⟩:=h;obtain⟨v,h3,h4⟩:=Mh h;obtain⟨vx',e1,r1⟩:=Ax he h1;obtain⟨vy',e2,r2⟩:=Ax he h2;rw[e1,e2];exact Zn hs h3 r1 r2 (hvr h4)
 case copy sz x y=>
  replace h:=AS h;obtain⟨vx,h1,h⟩:=h;replace h:=AS h;obtain⟨vy,h2,h⟩:=h;obtain⟨v,h3,h4⟩:=Mh h;obtain⟨vx',e1,r1⟩:=Ax he h1;obtain⟨vy',e2,r2⟩:=Ax he h2;rw[e1,e2];exact mc hs h3 r1 r2 (hvs h4)
 case Vi x y=>
  replace h:=AS h;obtain⟨vx,h1,h⟩:=h;replace h:=AS h;obtain⟨vy,h2,h⟩:=h;obtain⟨vx',e1,r1⟩:=Ax he h1;obtain⟨vy',e2,r2⟩:=Ax he h2;rw[e1,e2];split at h
  .rename_i ka a kb b
   simp only[RV]at r1 r2;subst r1;subst r2;obtain⟨h3,h4⟩:=AY h;cases h4;refine⟨of_decide_eq_true h3,?_⟩;have:=hv rfl rfl _ (RV.pure _ rfl);rw[QN]at this;by_cases e:a<b
   .rw[if_pos e];rw[decide_eq_true e]at this;exact this
   .rw[if_neg e];rw[decide_eq_false e]at this;exact this
  .cases h
 case Vh x y=>
  replace h:=AS h;obtain⟨vx,h1,h⟩:=h;replace h:=AS h;obtain⟨vy,h2,h⟩:=h;obtain⟨vx',e1,r1⟩:=Ax he h1;obtain⟨vy',e2,r2⟩:=Ax he h2;rw[e1,e2];split at h
  .rename_i ka a kb b
   simp only[RV]at r1 r2;subst r1;subst r2;obtain⟨h3,h4⟩:=AY h;cases h4;refine⟨of_decide_eq_true h3,?_⟩;have:=hv rfl rfl _ (RV.pure _ rfl);rw[QN]at this;by_cases e:b<a
   .rw[if_pos e];rw[decide_eq_true e]at this;exact this
   .rw[if_neg e];rw[decide_eq_false e]at this;exact this
  .cases h
 case extract i x=>
  replace h:=AS h;obtain⟨vx,h1,h⟩:=h;obtain⟨vx',e1,r1⟩:=Ax he h1;rw[e1];split at h
  .obtain⟨v,h3,h4,h5⟩:=Cc h
   obtain⟨c,g1,rfl⟩:=r1;obtain⟨y,g2,g3⟩:=(Bf.1 g1).get h3;simp only[wv,g2];exact hv h4 h5 _ g3
  .cases h
 case JA x=>
  replace h:=AS h;obtain⟨vx,h1,h⟩:=h;obtain⟨v,h3,h4,h5⟩:=Cc h;obtain⟨vx',e1,r1⟩:=Ax he h1;rw[e1];exact fQ (K:=fun v=>k v Z) h3 r1 (hv h4 h5)
 case gK f first cap=>
  replace h:=AS h;obtain⟨vf,h1,h⟩:=h;replace h:=AS h;obtain⟨vc,h2,h⟩:=h;obtain⟨h3,h4⟩:=AY h;cases h4;obtain⟨vf',e1,r1⟩:=Iq he h1;obtain⟨vc',e2,r2⟩:=Iq he h2;rw[e1,e2];refine hv rfl rfl _ ?_;simp only[RV];exact⟨f,vf',vc',by cases f<;>first|rfl|(simp[Nf]at h3),Bf.2 r1,Bf.2 r2,rfl⟩
 case OY t x=>
  replace h:=AS h;obtain⟨vx,h1,h⟩:=h;cases h;obtain⟨vx',e1,r1⟩:=Ax he h1;rw[e1];exact hv rfl rfl _ (by simp only[RV];exact⟨_,r1,rfl⟩)
 case gI t z ok x=>
  replace h:=AS h;obtain⟨vx,h1,h⟩:=h;obtain⟨v,h3,h4,h5⟩:=Cc h;obtain⟨vx',e1,r1⟩:=Ax he h1;rw[e1];exact qm (K:=fun v=>k v Z) h3 r1 (hv h4 h5)
 case panic x=>
  replace h:=AS h;obtain⟨vx,h1,h⟩:=h;obtain⟨vx',e1,r1⟩:=Ax he h1;rw[e1];split at h
  .rename_i t v
   obtain⟨v',g1,rfl⟩:=r1;cases h;exact hk Y (.Bh (.FF t v')) Z (.refl _) ⟨_,by simp only[RV];exact⟨v',g1,rfl⟩,rfl⟩ hs
  .cases h
 case call f args=>
  replace h:=AS h;obtain⟨vs,h1,h⟩:=h;obtain⟨vs',e1,r1⟩:=Iq he h1;rw[e1];exact hcf f vs s r s' h Y vs' Z r1 hs _ hk
 case nt len neg x y=>
  replace h:=AS h;obtain⟨vx,h1,h⟩:=h;replace h:=AS h;obtain⟨vy,h2,h⟩:=h;obtain⟨v,h3,h4,h5⟩:=Cc h;obtain⟨vx',e1,r1⟩:=Ax he h1;obtain⟨vy',e2,r2⟩:=Ax he h2;rw[e1,e2];exact qq h3 r1 r2 (hv h4 h5)
 case gO kind neg x=>
  replace h:=AS h;obtain⟨vx,h1,h⟩:=h;obtain⟨v,h3,h4,h5⟩:=Cc h;obtain⟨vx',e1,r1⟩:=Ax he h1;rw[e1];exact qp h3 r1 (hv h4 h5)
 case GJ sz b z x y=>
  replace h:=AS h;obtain⟨vx,h1,h⟩:=h;replace h:=AS h;obtain⟨vy,h2,h⟩:=h;obtain⟨v,h3,h4⟩:=Mh h;obtain⟨vx',e1,r1⟩:=Ax he h1;obtain⟨vy',e2,r2⟩:=Ax he h2;rw[e1,e2];exact YE hs h3 r1 r2 (hvr h4)
 case OX=>
  obtain⟨h3,h4⟩:=St.Ii h;cases h4;intro n hn;obtain⟨Y',q1,q2,q3⟩:=hs.new h3 hn 0 (o:= .map []) (o':= .map []) ⟨[],F2.nil,rfl⟩;exact hvr rfl Y' _ _ q1 (by simp only[RV];exact⟨_,q2,rfl⟩) q3
 case lookup ks z ok m key=>
  replace h:=AS h;obtain⟨vx,h1,h⟩:=h;replace h:=AS h;obtain⟨vy,h2,h⟩:=h;obtain⟨v,h3,h4,h5⟩:=Cc h;obtain⟨vx',e1,r1⟩:=Ax he h1;obtain⟨vy',e2,r2⟩:=Ax he h2;rw[e1,e2];exact Zm hs h3 r1 r2 (hv h4 h5)
 case Ed ks m key x=>
  replace h:=AS h;obtain⟨vx,h1,h⟩:=h;replace h:=AS h;obtain⟨vy,h2,h⟩:=h;replace h:=AS h;obtain⟨vz,h3,h⟩:=h;obtain⟨vx',e1,r1⟩:=Ax he h1;obtain⟨vy',e2,r2⟩:=Ax he h2;obtain⟨vz',e3,r3⟩:=Ax he h3;obtain⟨h4,h5⟩:=hu h;rw[e1,e2,e3];exact Zl hs h4 r1 r2 r3 h5
 case L8 f args=>
  replace h:=AS h;obtain⟨vs,h1,h⟩:=h;obtain⟨v,h3,h4,h5⟩:=Cc h;obtain⟨vs',e1,r1⟩:=Iq he h1;obtain⟨p1,p2,p3⟩:=hcp f vs v h3;rw[e1,oK r1 p1];exact⟨v,p3,hv h4 h5 _ (RV.pure _ p2)⟩
 case Jm x args=>
  replace h:=AS h;obtain⟨vx,h1,h⟩:=h;replace h:=AS h;obtain⟨vs,h2,h⟩:=h;obtain⟨vx',e1,r1⟩:=Ax he h1;obtain⟨vs',e2,r2⟩:=Iq he h2;rw[e1,e2];exact hcv vx vs s r s' h Y vx' vs' Z r1 r2 hs _ hk
 case inv tab x args=>
  replace h:=AS h;obtain⟨vx,h1,h⟩:=h;replace h:=AS h;obtain⟨vs,h2,h⟩:=h;obtain⟨vx',e1,r1⟩:=Ax he h1;obtain⟨vs',e2,r2⟩:=Iq he h2;rw[e1,e2];split at h
  .rename_i t v
   obtain⟨v',g1,rfl⟩:=r1;obtain⟨f,h3,h4⟩:=AS h;simp only[wv,ws,Av,h3];exact hcf f (v::vs) s r s' h4 Y (v'::vs') Z (F2.cons g1 r2) hs _ hk
  .cases h
 all_goals cases h
end Go.Gl
