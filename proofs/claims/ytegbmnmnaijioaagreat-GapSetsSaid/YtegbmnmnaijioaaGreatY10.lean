import Derived.Test.YtegbmnmnaijioaaGreatY9
set_option linter.all false
set_option linter.defProp false
set_option maxHeartbeats 8000000
noncomputable section
namespace Go.Gl
variable {P:Program} {Y Y':Ren} {Z:AE} {env env₀:Env}
structure St where
 nx:Nat
 t:Tr EO
def RK (Y:Ren) (a b:V×V):Prop:=RV Y a.1 b.1/\RV Y a.2 b.2
def RBe (Y:Ren) (a b:Nat×V):Prop:=b.1=a.1/\RV Y a.2 b.2
abbrev RE (Y:Ren):Env->Env->Prop:=F2 (RBe Y)
abbrev MG (Y:Ren):List V->List V->Prop:=F2 (RV Y)
abbrev gM (Y:Ren):List (List V)->List (List V)->Prop:=F2 (F2 (RV Y))
def RO (P:Program) (Y:Ren) (cap:Nat):EO->O->Prop
 | .cs vs,o=> ∃vs',MG Y vs vs'/\o= .cs vs'
 | .arr sz es,o=> ∃es',gM Y es es'/\o= .arr sz es' cap
 | .map kvs,o=> ∃kvs',F2 (RK Y) kvs kvs'/\o= .map kvs'
 | .loop st env ps a b,o=> ∃env',RE Y env env'/\o= .loop st env' (Bm P ps a b)
def Nt:Nat:=1000000000
structure SR (P:Program) (Y:Ren) (s:St) (Z:AE):Prop where
 get: ∀i o,s.t.get i=some o-> ∃m,Y i=some m/\ ∃o',Z m.1=some o'/\RO P Y m.2 o o'
 inj: ∀i j o o' m m',s.t.get i=some o->s.t.get j=some o'->Y i=some m->Y j=some m'->m.1=m'.1->i=j
 s5: ∀i,s.nx<=i->Y i=none
 lim:s.nx<=Nt+1
def MG.mono (h:Y.le Y') {a b:List V} (k:MG Y a b):MG Y' a b:=F2.mono (fun _ _=>RV.mono h _ _) k
def gM.mono (h:Y.le Y') {a b:List (List V)} (k:gM Y a b):gM Y' a b:=F2.mono (fun _ _=>MG.mono h) k
def RE.mono (h:Y.le Y') {a b:Env} (k:RE Y a b):RE Y' a b:=F2.mono (fun _ _ k=>⟨k.1,RV.mono h _ _ k.2⟩) k
def RO.mono (h:Y.le Y') {c:Nat} {a:EO} {b:O} (k:RO P Y c a b):RO P Y' c a b:=by
 cases a with
 | cs vs=>obtain⟨v,h1,h2⟩:=k;exact⟨v,h1.mono h,h2⟩
 | arr sz es=>obtain⟨v,h1,h2⟩:=k;exact⟨v,h1.mono h,h2⟩
 | map kvs=>obtain⟨v,h1,h2⟩:=k;exact⟨v,F2.mono (fun _ _ k=>⟨RV.mono h _ _ k.1,RV.mono h _ _ k.2⟩) h1,h2⟩
 | loop st env ps a b=>obtain⟨v,h1,h2⟩:=k;exact⟨v,h1.mono h,h2⟩
def dM {k:Nat} (h:k<=Nt):k+1<2 ^ BD:=by simp only[Nt,BD]at *;omega
def SR.lt {s:St} (hs:SR P Y s Z) {i:Nat} {m:Nat×Nat} (h:Y i=some m):i<=Nt:=by
 have h1:=hs.s5 i;have h2:=hs.lim;rcases Nat.lt_or_ge i s.nx with h3|h3
 .omega
 .rw[h1 h3]at h;cases h
def SR.new {s:St} (hs:SR P Y s Z) (hl:s.nx<=Nt) {n:Nat} (hn:Z n=none) (cap:Nat) {o:EO} {o':O} (ho:RO P Y cap o o') :
    ∃Y',Y.le Y'/\Y' s.nx=some (n,cap)/\SR P Y' ⟨s.nx+1,Tr.set (some o) BD s.t s.nx⟩ (B7 Z n o'):=by
 have hle:Y.le (fun i=>if i=s.nx then some (n,cap)else Y i):=fun i m h=>by
  have:i≠s.nx:=fun e=>by rw[hs.s5 i (by omega)]at h;cases h
  simp[this,h]
 refine⟨_,hle,by simp,⟨fun i o1 h1=>?_,fun i j o1 o2 m m' h1 h2 h3 h4 h5=>?_,fun i hi=>?_,by show s.nx+1<=_;omega⟩⟩
 .rw[Tr.EI _ _ _ (dM hl)]at h1
  by_cases e:i=s.nx
  .rw[if_pos e]at h1
   cases h1;exact⟨(n,cap),by simp[e],o',DJ _ _ _,ho.mono hle⟩
  .rw[if_neg e]at h1
   obtain⟨m,h2,o2,h3,h4⟩:=hs.get i o1 h1;refine⟨m,by simp[e,h2],o2,?_,h4.mono hle⟩;rw[Cm _ _ (fun e'=>by rw[e',hn]at h3;cases h3)];exact h3
 .rw[Tr.EI _ _ _ (dM hl)]at h1 h2
  by_cases e:i=s.nx<;>by_cases e':j=s.nx
  .omega
  .exfalso
   rw[if_neg e']at h2;simp only[e,if_true,JM]at h3;simp only[e',if_false]at h4;obtain⟨m2,h6,o3,h7,_⟩:=hs.get j o2 h2;rw[h6]at h4;cases h4;rw[<-h5,<-h3,hn]at h7;cases h7
  .exfalso
   rw[if_neg e]at h1;simp only[e',if_true,JM]at h4;simp only[e,if_false]at h3;obtain⟨m2,h6,o3,h7,_⟩:=hs.get i o1 h1;rw[h6]at h3;cases h3;rw[h5,<-h4,hn]at h7;cases h7
  .rw[if_neg e]at h1
   rw[if_neg e']at h2;simp only[e,if_false]at h3;simp only[e',if_false]at h4;exact hs.inj i j o1 o2 m m' h1 h2 h3 h4 h5
 .have hi':s.nx+1<=i:=hi
  have:i≠s.nx:=by omega
  simp only[this,if_false];exact hs.s5 i (by omega)
def SR.B7 {s:St} (hs:SR P Y s Z) {i:Nat} {m:Nat×Nat} {o:EO} (hi:s.t.get i=some o) (hm:Y i=some m) {o1:EO} {o1':O} (ho:RO P Y m.2 o1 o1') :
    SR P Y ⟨s.nx,Tr.set (some o1) BD s.t i⟩ (Gl.B7 Z m.1 o1'):=by
 have hl:=dM (hs.lt hm);refine⟨fun j o2 h1=>?_,fun j j' o2 o3 m1 m2 h1 h2 h3 h4 h5=>?_,hs.s5,hs.lim⟩
 .rw[Tr.EI _ _ _ hl]at h1
  by_cases e:j=i
  .subst e
   rw[if_pos rfl]at h1;cases h1;exact⟨m,hm,o1',DJ _ _ _,ho⟩
  .rw[if_neg e]at h1
   obtain⟨m1,h2,o3,h3,h4⟩:=hs.get j o2 h1;refine⟨m1,h2,o3,?_,h4⟩;rw[Cm _ _ (fun e'=>e (hs.inj j i o2 o m1 m h1 hi h2 hm e'))];exact h3
 .rw[Tr.EI _ _ _ hl]at h1 h2
  have g1: ∃q,s.t.get j=some q:=by
   by_cases e:j=i
   .exact⟨o,e ▸ hi⟩
   .rw[if_neg e]at h1;exact⟨_,h1⟩
  have g2: ∃q,s.t.get j'=some q:=by
   by_cases e:j'=i
   .exact⟨o,e ▸ hi⟩
   .rw[if_neg e]at h2;exact⟨_,h2⟩
  obtain⟨q1,g1⟩:=g1;obtain⟨q2,g2⟩:=g2;exact hs.inj j j' q1 q2 m1 m2 g1 g2 h3 h4 h5
def SR.del {s:St} (hs:SR P Y s Z) {i:Nat} {m:Nat×Nat} {o:EO} (hi:s.t.get i=some o) (hm:Y i=some m) :
    SR P Y ⟨s.nx,Tr.set none BD s.t i⟩ (Gl.del Z m.1):=by
 have hl:=dM (hs.lt hm)
 have sub: ∀j q,(Tr.set none BD s.t i).get j=some q->j≠i/\s.t.get j=some q:=fun j q h=>by
  rw[Tr.EI _ _ _ hl]at h;by_cases e:j=i
  .rw[if_pos e]at h;cases h
  .rw[if_neg e]at h;exact⟨e,h⟩
 refine⟨fun j o2 h1=>?_,fun j j' o2 o3 m1 m2 h1 h2 h3 h4 h5=>?_,hs.s5,hs.lim⟩
 .obtain⟨e,h1⟩:=sub j o2 h1
  obtain⟨m1,h2,o3,h3,h4⟩:=hs.get j o2 h1;refine⟨m1,h2,o3,?_,h4⟩;have:m1.1≠m.1:=fun e'=>e (hs.inj j i o2 o m1 m h1 hi h2 hm e')
  simp[Gl.del,this,h3]
 .exact hs.inj j j' o2 o3 m1 m2 (sub _ _ h1).2 (sub _ _ h2).2 h3 h4 h5
def SR.at {s:St} (hs:SR P Y s Z) {i:Nat} {m:Nat×Nat} {o:EO} (hi:s.t.get i=some o) (hm:Y i=some m): ∃o',Z m.1=some o'/\RO P Y m.2 o o':=by
 obtain⟨m',h1,h2⟩:=hs.get i o hi;rw[hm]at h1;cases h1;exact h2
def RE.get: ∀ {env env₀:Env},RE Y env env₀-> ∀ {k:Nat} {v:V},Gl.get k env=some v-> ∃v',Gl.get k env₀=some v'/\RV Y v v'
 | (j,u)::r,_,⟨y,ys,h1,h2,e⟩,k,v,h=>by
   subst e;obtain⟨j',u'⟩:=y;have e1:j'=j:=h1.1;subst e1;simp only[Gl.get]at h ⊢;cases hb:Nat.beq j' k with
   | true=>rw[hb]at h;simp only[cond_true]at h ⊢;cases h;exact⟨u',rfl,h1.2⟩
   | false=>rw[hb]at h;simp only[cond_false]at h ⊢;exact RE.get h2 h
def RE.AAQ: ∀ {env env₀:Env},RE Y env env₀-> ∀ {k:Nat},Gl.get k env=none->Gl.get k env₀=none
 | [],_,h,k,_=>by cases h;rfl
 | (j,u)::r,_,⟨y,ys,h1,h2,e⟩,k,h=>by
   subst e;obtain⟨j',u'⟩:=y;have e1:j'=j:=h1.1;subst e1;simp only[Gl.get]at h ⊢;cases hb:Nat.beq j' k with
   | true=>rw[hb]at h;simp only[cond_true]at h;cases h
   | false=>rw[hb]at h;simp only[cond_false]at h ⊢;exact RE.AAQ h2 h
def Dg (env:Env):Bq->Option V
 | .t n=>get n env
 | .c v=>bif BL v then some v else none
def Av (he:RE Y env env₀) {x:Bq} {v:V} (h:Dg env x=some v): ∃v',ev env₀ x=some v'/\RV Y v v':=by
 cases x with
 | t n=>exact he.get h
 | c u=>
   simp only[Dg]at h;cases hb:BL u with
   | true=>rw[hb]at h;cases h;exact⟨_,rfl,RV.pure _ hb⟩
   | false=>rw[hb]at h;cases h
def PV (env:Env):List Bq->Option (List V)
 | []=>some []
 | x ::r=>match Dg env x with
   | some v=>match PV env r with
     | some vs=>some (v::vs)
     | none=>none
   | none=>none
def I1 (he:RE Y env env₀): ∀ {l:List Bq} {vs:List V},PV env l=some vs-> ∃vs',Vu env₀ l=some vs'/\MG Y vs vs'
 | [],_,h=>by cases h;exact⟨[],rfl,rfl⟩
 | x ::r,vs,h=>by
   simp only[PV]at h;split at h
   .rename_i v hv
    split at h
    .rename_i us hu
     cases h;obtain⟨v',h1,h2⟩:=Av he hv;obtain⟨vs',h3,h4⟩:=I1 he hu;exact⟨v'::vs',by simp only[Vu,h1,h3],F2.cons h2 h4⟩
    .cases h
   .cases h
def JO (k:IntKind) (n:Int):Int:=
 match k,n with
 | .i64,.ofNat m=>bif Nat.ble m 9223372036854775807 then .ofNat m else IntKind.i64.wrap (.ofNat m)
 | .u64,.ofNat m=>bif Nat.ble m 18446744073709551615 then .ofNat m else IntKind.u64.wrap (.ofNat m)
 | k,n=>k.wrap n
def wrap_u64 {n:Int} (h1:0<=n) (h2:n<=18446744073709551615):IntKind.u64.wrap n=n:=by
 have e:IntKind.u64.wrap n=n % 18446744073709551616:=by simp[IntKind.wrap,IntKind.bits,IntKind.signed]
 rw[e];omega
def ofNat_eq (m:Nat):Int.ofNat m=(m:Int):=rfl
def J9 (k:IntKind) (n:Int):JO k n=k.wrap n:=by
 unfold JO;split
 .rename_i m
  cases h:Nat.ble m 9223372036854775807 with
  | true=>
    have h':m<=9223372036854775807:=by rw[Nat.ble_eq]at h;exact h
    rw[cond_true,ofNat_eq];exact(wrap64 (by omega) (by omega)).symm
  | false=>rfl
 .rename_i m
  cases h:Nat.ble m 18446744073709551615 with
  | true=>
    have h':m<=18446744073709551615:=by rw[Nat.ble_eq]at h;exact h
    rw[cond_true,ofNat_eq];exact(wrap_u64 (by omega) (by omega)).symm
  | false=>rfl
 .rfl
def Nn (a b:Int):Bool:=
 match a,b with
 | .ofNat m,.ofNat n=>Nat.ble (m+1) n
 | .negSucc _,.ofNat _=>true
 | .ofNat _,.negSucc _=>false
 | .negSucc m,.negSucc n=>Nat.ble (n+1) m
def Qi (a b:Int):Nn a b=decide (a<b):=by
 cases a<;>cases b<;>simp only[Nn]
 .rename_i m n
  rw[JK,Nat.ble_eq,Cp];simp;omega
 .rename_i m n
  symm;rw[decide_eq_false_iff_not];simp;omega
 .rename_i m n
  symm;rw[Cp];simp;omega
 .rename_i m n
  rw[JK,Nat.ble_eq,Cp];omega
def QG (a b:Int):Bool:= !Nn b a
def jP (a b:Int):QG a b=decide (a<=b):=by
 rw[QG,Qi,JK];simp
def dD (a b:Int):Bool:=
 match a,b with
 | .ofNat m,.ofNat n=>Nat.beq m n
 | .negSucc m,.negSucc n=>Nat.beq m n
 | _,_=>false
def Uv (a b:Int):dD a b=(a==b):=by
 cases a<;>cases b<;>simp only[dD]
 .rename_i m n
  rw[JK,Nat.beq_eq,C0];exact⟨fun e=>by rw[e],fun e=>by cases e;rfl⟩
 .rename_i m n
  rw[JK,C0];exact⟨fun e=>(by cases e),fun e=>by cases e⟩
 .rename_i m n
  rw[JK,C0];exact⟨fun e=>(by cases e),fun e=>by cases e⟩
 .rename_i m n
  rw[JK,Nat.beq_eq,C0];exact⟨fun e=>by rw[e],fun e=>by cases e;rfl⟩
def En {a b:Int} (h:QG a b=true):a<=b:=by rw[jP]at h;exact of_decide_eq_true h
def N4 {a b:Int} (h:Nn a b=true):a<b:=by rw[Qi]at h;exact of_decide_eq_true h
def Qf (op:BinOp) (k:IntKind) (x y:Int):Int:=
 match k,x,y with
 | .u64,.ofNat a,.ofNat b=>bif Nat.ble a 18446744073709551615&&Nat.ble b 18446744073709551615 then
  match op with
  | .and=> .ofNat (Nat.land a b)
  | .or=> .ofNat (Nat.lor a b)
  | op=>bits op .u64 (.ofNat a) (.ofNat b)
   else bits op .u64 (.ofNat a) (.ofNat b)
 | k,x,y=>bits op k x y
def m6 (op:BinOp) (k:IntKind) (x y:Int):Qf op k x y=bits op k x y:=by
 unfold Qf;split
 .rename_i a b
  cases h:Nat.ble a 18446744073709551615&&Nat.ble b 18446744073709551615 with
  | false=>rfl
  | true=>
    simp only[A9]at h;have h1:=Nat.le_of_ble_eq_true h.1;have h2:=Nat.le_of_ble_eq_true h.2
    have e1:(BitVec.ofInt 64 (Int.ofNat a)).toNat=a:=by
     rw[show Int.ofNat a=(a:Int) from rfl,BitVec.ofInt_natCast,BitVec.toNat_ofNat];omega
    have e2:(BitVec.ofInt 64 (Int.ofNat b)).toNat=b:=by
     rw[show Int.ofNat b=(b:Int) from rfl,BitVec.ofInt_natCast,BitVec.toNat_ofNat];omega
    simp only[cond_true];split
    .have e3:bits .and .u64 (Int.ofNat a) (Int.ofNat b)=IntKind.u64.wrap (((BitVec.ofInt 64 (Int.ofNat a))&&&(BitVec.ofInt 64 (Int.ofNat b))).toNat:Int):=rfl
     rw[e3,BitVec.toNat_and,e1,e2];have:a&&&b<2 ^ 64:=Nat.and_lt_two_pow _ (by omega);rw[wrap_u64 (by omega) (by omega)];rfl
    .have e3:bits .or .u64 (Int.ofNat a) (Int.ofNat b)=IntKind.u64.wrap (((BitVec.ofInt 64 (Int.ofNat a))|||(BitVec.ofInt 64 (Int.ofNat b))).toNat:Int):=rfl
     rw[e3,BitVec.toNat_or,e1,e2];have:a|||b<2 ^ 64:=Nat.or_lt_two_pow (by omega) (by omega)
     rw[wrap_u64 (by omega) (by omega)];rfl
    .rfl
 .rfl
def WG (op:BinOp) (x y:V):Option V:=
 match x,y with
 | .i ka a,.i kb b=>
   match op with
   | .add=>bif decide (ka=kb)then some (.i ka (JO ka (a+b)))else none
   | .sub=>bif decide (ka=kb)then some (.i ka (JO ka (a - b)))else none
   | .mul=>bif decide (ka=kb)then some (.i ka (JO ka (a*b)))else none
   | .quo=>bif decide (ka=kb)&& !dD b 0 then some (.i ka (JO ka (a.tdiv b)))else none
   | .rem=>bif decide (ka=kb)&& !dD b 0 then some (.i ka (a.tmod b))else none
   | .eql=>bif decide (ka=kb)then some (.b (dD a b))else none
   | .neq=>bif decide (ka=kb)then some (.b (!dD a b))else none
   | .lss=>bif decide (ka=kb)then some (.b (Nn a b))else none
   | .leq=>bif decide (ka=kb)then some (.b (QG a b))else none
   | .gtr=>bif decide (ka=kb)then some (.b (Nn b a))else none
   | .geq=>bif decide (ka=kb)then some (.b (QG b a))else none
   | .shl=>bif QG 0 b then some (.i ka (JO ka (a*2 ^ (min b.toNat ka.bits))))else none
   | .shr=>bif QG 0 b then some (.i ka (a.fdiv (2 ^ (min b.toNat ka.bits))))else none
   | op=>bif decide (ka=kb)then some (.i ka (Qf op ka a b))else none
 | _,_=>none
def AW {α:Type} {c:Bool} {x:Option α} {v:α} (h:(bif c then x else none)=some v):c=true/\x=some v:=by
 cases c with
 | true=>exact⟨rfl,h⟩
 | false=>cases h
def qm {op:BinOp} {x y v:V} (h:WG op x y=some v):BL x=true/\BL y=true/\BL v=true/\ ∀K:V->Prop,K v->V4 op x y K:=by
 unfold WG at h;split at h
 .rename_i ka a kb b
  refine⟨rfl,rfl,?_⟩
  cases op<;>simp only at h<;>obtain⟨h1,h2⟩:=AW h<;>cases h2<;>refine⟨rfl,fun K U=>?_⟩<;>
   (try simp only[A9,Cp,Bool.not_eq_true',Uv,beq_eq_false_iff_ne]at h1)<;>
   (try simp only[J9,Qi,jP,Uv,m6]at U)<;>simp only[V4]
  all_goals first
   | exact⟨h1,U⟩
   | exact⟨h1.1,h1.2,U⟩
   | exact⟨En h1,U⟩
 .cases h
def G4 {v v':V} {cs:List V} (h:cellsOf v=some cs) (hv:RV Y v v'): ∃cs',cellsOf v'=some cs'/\MG Y cs cs':=by
 cases v with
 | a cs0=>
   cases h;obtain⟨c,h1,rfl⟩:=hv;exact⟨c,rfl,Bi.1 h1⟩
 | t _=>cases h
 | any=>cases h
 | _ =>
   cases h
   have:cellsOf v'=some [v']:=by
    simp only[RV]at hv
    first
     | (rw[hv];rfl)
     | (obtain⟨_,_,hv⟩:=hv;rw[hv];rfl)
     | (obtain⟨_,_,_,_,_,_,hv⟩:=hv;rw[hv];rfl)
   exact⟨[v'],this,F2.cons hv F2.nil⟩
def pN {v v':V} (hv:RV Y v v'):CR v'=CR v:=by
 cases v<;>simp only[RV]at hv<;>first
  | (rw[hv];done)
  | (obtain⟨_,_,hv⟩:=hv;rw[hv];rfl)
  | (obtain⟨_,_,_,_,_,_,hv⟩:=hv;rw[hv];rfl)
def cW {vs vs':List V} (h:vs.all CR=true) (hv:MG Y vs vs'):vs'.all CR=true:=by
 rw[EG]at *;intro v hm;obtain⟨u,hu,hr⟩:=F2.mem hv hm;rw[pN hr];exact h u hu
def NN {vs vs':List (List V)} (h:(vs.all fun e=>e.all CR)=true) (hv:gM Y vs vs'): ∀e∈vs',∀v∈e,CR v=true:=by
 rw[EG]at h;intro e he;obtain⟨u,hu,hr⟩:=F2.mem hv he;have:=cW (h u hu) hr
 rwa [EG]at this
def QA {sz:Nat} {vs vs':List (List V)} (h:(vs.all fun e=>Nat.beq e.length sz)=true) (hv:gM Y vs vs'): ∀e∈vs',e.length=sz:=by
 rw[EG]at h;intro e he;obtain⟨u,hu,hr⟩:=F2.mem hv he;rw[hr.len];exact C7 (h u hu)
def M5: ∀ {vc vc':List V} {cs cs':List V} {off:Nat},MG Y cs cs'->MG Y vc vc'->MG Y (putAt cs off vc) (putAt cs' off vc')
 | [],_,_,_,_,h,h'=>by cases h';exact h
 | _::_,_,_,_,off,h,⟨y,ys,h1,h2,e⟩=>by
   subst e;simp only[putAt];exact M5 (h.set off h1) h2
def WB (agg:Option Nat) (cs:List V) (off:Nat):Option V:=
 match agg with
 | none=>cs[off]?
 | some n=>bif Nat.ble (off+n) cs.length then some (.a ((cs.drop off).take n))else none
def Mm {agg:Option Nat} {cs cs':List V} {off:Nat} {v:V} (h:WB agg cs off=some v) (hc:MG Y cs cs') {K:V->Prop} (U: ∀v',RV Y v v'->K v'):cut agg cs' off K:=by
 cases agg with
 | none=>
   obtain⟨y,h1,h2⟩:=hc.get h;simp only[cut,h1];exact U _ h2
 | some n=>
   obtain⟨h1,h2⟩:=AW h;cases h2;refine⟨by rw[hc.len];exact Nat.le_of_ble_eq_true h1,U _ ?_⟩;simp only[RV];exact⟨_,Bi.2 ((hc.drop off).take n),rfl⟩
def O4 (s:St) (agg:Option Nat) (x:V):Option V:=
 match x with
 | .rp cs=>WB agg cs 0
 | .p n off=>match s.t.get n with
   | some (.cs vs)=>WB agg vs off
   | _=>none
 | .pe n sz i off=>match s.t.get n with
   | some (.arr sz' es)=>bif Nat.beq sz sz' then(match es[i]? with|some e=>WB agg e off|none=>none)else none
   | _=>none
 | _=>none
def Xb {s:St} (hs:SR P Y s Z) {agg:Option Nat} {x x' v:V} (h:O4 s agg x=some v) (hx:RV Y x x') {K:V->Prop} (U: ∀v',RV Y v v'->K v'):AU Z agg x' K:=by
 unfold O4 at h;split at h
 .obtain⟨c,h1,rfl⟩:=hx
  exact Mm h (Bi.1 h1) U
 .obtain⟨m,h1,rfl⟩:=hx
  split at h
  .rename_i vs hg
   obtain⟨o',h2,vs',h3,rfl⟩:=hs.at hg h1;simp only[AU,QW,h2];exact Mm h h3 U
  .cases h
 .obtain⟨m,h1,rfl⟩:=hx
  split at h
  .rename_i es hg
   obtain⟨o',h2,es',h3,rfl⟩:=hs.at hg h1;obtain⟨h4,h5⟩:=AW h;split at h5
   .rename_i e he
    obtain⟨e',h6,h7⟩:=h3.get he;simp only[AU,QX,h2,h6];exact⟨C7 h4,Mm h5 h7 U⟩
   .cases h5
  .cases h
 .cases h
def Qk (s : St) (sz:Nat) (a x:V):Option St:=
 match cellsOf x with
 | some vc =>bif Nat.beq vc.length sz&&vc.all CR then
  match a with
  | .p n off=>match s.t.get n with
    | some (.cs vs)=>bif Nat.ble (off+sz) vs.length then Tr.put (some (.cs (putAt vs off vc))) BD s.t n fun t=>some ⟨s.nx,t⟩else none
    | _=>none
  | .pe n s' i off=>match s.t.get n with
    | some (.arr s1 es)=>bif Nat.beq s' s1&&Nat.ble (off+sz) s' then
     (match es[i]? with|some e=>Tr.put (some (.arr s1 (es.set i (putAt e off vc)))) BD s.t n fun t=>some ⟨s.nx,t⟩|none=>none)else none
    | _=>none
  | _=>none
   else none
 | none=>none
def fR {s s':St} (hs:SR P Y s Z) {sz:Nat} {a a' x x':V} (h:Qk s sz a x=some s') (ha:RV Y a a') (hx:RV Y x x') {K:AE->Prop} (U: ∀Z',SR P Y s' Z'->K Z'):AS Z sz a' x' K:=by
 unfold Qk at h;split at h
 .rename_i vc hvc
  obtain⟨vc',e1,e2⟩:=G4 hvc hx;obtain⟨h1,h2⟩:=AW h;simp only[A9]at h1;simp only[AS,e1];refine⟨by rw[e2.len];exact C7 h1.1,cW h1.2 e2,?_⟩;split at h2
  .obtain⟨m,g1,rfl⟩:=ha
   split at h2
   .rename_i vs hg
    obtain⟨o',g2,vs',g3,rfl⟩:=hs.at hg g1;obtain⟨h3,h4⟩:=AW h2;rw[Tr.put_eq]at h4;cases h4;simp only[g2];exact⟨by rw[g3.len];exact Nat.le_of_ble_eq_true h3,U _ (hs.B7 hg g1 ⟨_,M5 g3 e2,rfl⟩)⟩
   .cases h2
  .obtain⟨m,g1,rfl⟩:=ha
   split at h2
   .rename_i es hg
    obtain⟨o',g2,vs',g3,rfl⟩:=hs.at hg g1;obtain⟨h3,h4⟩:=AW h2;simp only[A9]at h3;split at h4
    .rename_i e he
     rw[Tr.put_eq]at h4;cases h4;obtain⟨e',g4,g5⟩:=g3.get he;simp only[g2,g4];have e:=C7 h3.1;subst e;exact⟨rfl,Nat.le_of_ble_eq_true h3.2,U _ (hs.B7 hg g1 ⟨_,g3.set _ (M5 g5 e2),rfl⟩)⟩
    .cases h4
   .cases h2
  .cases h2
 .cases h
def Uw (off:Nat) (x:V):Option V:=
 match x with
 | .rp cs=>some (.rp (cs.drop off))
 | .p n o=>some (.p n (o+off))
 | .pe n sz i o=>some (.pe n sz i (o+off))
 | _=>none
def fW {off:Nat} {x x' v:V} (h:Uw off x=some v) (hx:RV Y x x') {K:V->Prop} (U: ∀v',RV Y v v'->K v'):Lk off x' K:=by
 unfold Uw at h;split at h
 .obtain⟨c,h1,rfl⟩:=hx
  cases h;exact U _ (by simp only[RV];exact⟨_,Bi.2 ((Bi.1 h1).drop off),rfl⟩)
 .obtain⟨m,h1,rfl⟩:=hx
  cases h;exact U _ (by simp only[RV];exact⟨m,h1,rfl⟩)
 .obtain⟨m,h1,rfl⟩:=hx
  cases h;exact U _ (by simp only[RV];exact⟨m,h1,rfl⟩)
 .cases h
def OA (sz:Nat) (arr:Option Nat) (x i:V):Option V:=
 match i with
 | .i _ j=>bif QG 0 j then
  match arr,x with
  | none,.l es _=>match es[j.toNat]? with|some e=>bif Nat.beq e.length sz then some (.rp e)else none|none=>none
  | none,.sl n len _=>bif Nn j len then some (.pe n sz j.toNat 0)else none
  | none,.sv n s off len=>bif Nat.beq s sz&&Nn j len then some (.pe n sz (off+j.toNat) 0)else none
  | some m,.rp cs=>bif Nn j m then some (.rp (cs.drop (j.toNat*sz)))else none
  | some m,.p n o=>bif Nn j m then some (.p n (o+j.toNat*sz))else none
  | some m,.pe n s q o=>bif Nn j m then some (.pe n s q (o+j.toNat*sz))else none
  | _,_=>none
   else none
 | _=>none
def fV {sz:Nat} {arr:Option Nat} {x x' i i' v:V} (h:OA sz arr x i=some v) (hx:RV Y x x') (hi:RV Y i i') {K:V->Prop} (U: ∀v',RV Y v v'->K v'):AR sz arr x' i' K:=by
 unfold OA at h;split at h
 .rename_i kj j
  simp only[RV]at hi;subst hi;obtain⟨h0,h⟩:=AW h;have h0:=En h0;split at h
  .obtain⟨es',h1,rfl⟩:=hx
   split at h
   .rename_i e he
    obtain⟨h2,h3⟩:=AW h;cases h3;obtain⟨e',h4,h5⟩:=(F9.1 h1).get he;exact⟨h0,e',h4,by rw[h5.len];exact C7 h2,U _ (by simp only[RV];exact⟨e',Bi.2 h5,rfl⟩)⟩
   .cases h
  .obtain⟨m,h1,rfl⟩:=hx
   obtain⟨h2,h3⟩:=AW h;cases h3;exact⟨h0,N4 h2,U _ (by simp only[RV];exact⟨m,h1,rfl⟩)⟩
  .obtain⟨m,h1,rfl⟩:=hx
   obtain⟨h2,h3⟩:=AW h;simp only[A9]at h2;cases h3;exact⟨C7 h2.1,h0,N4 h2.2,U _ (by simp only[RV];exact⟨m,h1,rfl⟩)⟩
  .obtain⟨c,h1,rfl⟩:=hx
   obtain⟨h2,h3⟩:=AW h;cases h3;exact⟨h0,N4 h2,U _ (by simp only[RV];exact⟨_,Bi.2 ((Bi.1 h1).drop _),rfl⟩)⟩
  .obtain⟨m,h1,rfl⟩:=hx
   obtain⟨h2,h3⟩:=AW h;cases h3;exact⟨h0,N4 h2,U _ (by simp only[RV];exact⟨m,h1,rfl⟩)⟩
  .obtain⟨m,h1,rfl⟩:=hx
   obtain⟨h2,h3⟩:=AW h;cases h3;exact⟨h0,N4 h2,U _ (by simp only[RV];exact⟨m,h1,rfl⟩)⟩
  .cases h
 .cases h
def Qm (len sz:Nat) (agg:Option Nat) (x i:V):Option V:=
 match x,i with
 | .a cs,.i _ j=>bif QG 0 j&&Nn j len then WB agg cs (j.toNat*sz)else none
 | _,_=>none
def fU {len sz:Nat} {agg:Option Nat} {x x' i i' v:V} (h:Qm len sz agg x i=some v) (hx:RV Y x x') (hi:RV Y i i') {K:V->Prop} (U: ∀v',RV Y v v'->K v'):Lj len sz agg x' i' K:=by
 unfold Qm at h;split at h
 .simp only[RV]at hi
  subst hi;obtain⟨c,h1,rfl⟩:=hx;obtain⟨h2,h3⟩:=AW h;simp only[A9]at h2;exact⟨En h2.1,N4 h2.2,Mm h3 (Bi.1 h1) U⟩
 .cases h
def Wd (x i:V):Option V:=
 match x,i with
 | .s b,.i _ j=>bif QG 0 j then(match b.data.toList[j.toNat]? with|some c=>some (.i .u8 (.ofNat c.toNat))|none=>none)else none
 | _,_=>none
def mU {x x' i i' v:V} (h:Wd x i=some v) (hx:RV Y x x') (hi:RV Y i i') {K:V->Prop} (U: ∀v',RV Y v v'->K v'):Qa x' i' K:=by
 unfold Wd at h;split at h
 .simp only[RV]at hi hx
  subst hi;subst hx;obtain⟨h2,h3⟩:=AW h;refine⟨En h2,?_⟩;split at h3
  .rename_i c hc
   cases h3;rw[hc];exact U _ (by simp only[RV];rfl)
  .cases h3
 .cases h
def dR (x:V):Option V:=
 match x with
 | .l es _=>some (.i .i64 (.ofNat es.length))
 | .sl _ len _=>bif Nat.ble len Aa then some (.i .i64 (.ofNat len))else none
 | .sv _ _ _ len=>bif Nat.ble len Aa then some (.i .i64 (.ofNat len))else none
 | _=>none
def qi {x x' v:V} (h:dR x=some v) (hx:RV Y x x') {K:V->Prop} (U: ∀v',RV Y v v'->K v'):Ay x' K:=by
 unfold dR at h;split at h
 .obtain⟨es',h1,rfl⟩:=hx
  cases h;have:=(F9.1 h1).len;exact U _ (by simp only[RV];rw[this];rfl)
 .obtain⟨m,h1,rfl⟩:=hx
  obtain⟨h2,h3⟩:=AW h;cases h3;exact⟨Nat.le_of_ble_eq_true h2,U _ (by simp only[RV];rfl)⟩
 .obtain⟨m,h1,rfl⟩:=hx
  obtain⟨h2,h3⟩:=AW h;cases h3;exact⟨Nat.le_of_ble_eq_true h2,U _ (by simp only[RV];rfl)⟩
 .cases h
def We (s:St) (x:V):Option V:=
 match x with
 | .m n=>match s.t.get n with
   | some (.map kvs)=>bif Nat.ble kvs.length Aa then some (.i .i64 (.ofNat kvs.length))else none
   | _=>none
 | .mn=>some (.i .i64 0)
 | _=>none
def mV {s:St} (hs:SR P Y s Z) {x x' v:V} (h:We s x=some v) (hx:RV Y x x') {K:V->Prop} (U: ∀v',RV Y v v'->K v'):LK Z x' K:=by
 unfold We at h;split at h
 .obtain⟨m,h1,rfl⟩:=hx
  split at h
  .rename_i kvs hg
   obtain⟨h2,h3⟩:=AW h;cases h3;obtain⟨o',g2,kvs',g3,rfl⟩:=hs.at hg h1;simp only[LK,g2];have:=g3.len;exact⟨by rw[this];exact Nat.le_of_ble_eq_true h2,U _ (by simp only[RV];rw[this];rfl)⟩
  .cases h
 .cases h
  simp only[RV]at hx;subst hx;exact U _ (by simp only[RV])
 .cases h
def JZ (s:St) (sz:Nat) (y:V):Option (List (List V)):=
 match y with
 | .l ys _=>bif ys.all (fun e=>Nat.beq e.length sz)then some ys else none
 | .sl m len _=>match s.t.get m with
   | some (.arr s' ys)=>bif Nat.beq s' sz&&Nat.ble len ys.length then some (ys.take len)else none
   | _=>none
 | .sv m s1 off len=>match s.t.get m with
   | some (.arr s' ys)=>bif Nat.beq s1 sz&&(Nat.beq s' sz&&Nat.ble (off+len) ys.length)then some ((ys.drop off).take len)else none
   | _=>none
 | _=>none
def IS {s:St} (hs:SR P Y s Z) {sz:Nat} {y y':V} {ys:List (List V)} (h:JZ s sz y=some ys) (hy:RV Y y y') {K:List (List V)->Prop} (U: ∀ys',gM Y ys ys'->K ys'):rowsOf Z sz y' K:=by
 unfold JZ at h;split at h
 .obtain⟨es',h1,rfl⟩:=hy
  obtain⟨h2,h3⟩:=AW h;cases h3;exact⟨QA h2 (F9.1 h1),U _ (F9.1 h1)⟩
 .obtain⟨m,h1,rfl⟩:=hy
  split at h
  .rename_i es hg
   obtain⟨o',g2,es',g3,rfl⟩:=hs.at hg h1;obtain⟨h2,h3⟩:=AW h;simp only[A9]at h2;cases h3;simp only[rowsOf,g2];exact⟨C7 h2.1,by rw[g3.len];exact Nat.le_of_ble_eq_true h2.2,U _ (g3.take _)⟩
  .cases h
 .obtain⟨m,h1,rfl⟩:=hy
  split at h
  .rename_i es hg
   obtain⟨o',g2,es',g3,rfl⟩:=hs.at hg h1;obtain⟨h2,h3⟩:=AW h;simp only[A9]at h2;cases h3;simp only[rowsOf,g2];exact⟨C7 h2.1,C7 h2.2.1,by rw[g3.len];exact Nat.le_of_ble_eq_true h2.2.2,U _ ((g3.drop _).take _)⟩
  .cases h
 .cases h
def St.new {β:Type} (s:St) (o:EO) (K:Nat->St->Option β):Option β:=
 match s.nx with
 | 0=>Tr.put (some o) BD s.t 0 fun t=>K 0 ⟨1,t⟩
 | n+1=>bif Nat.ble (n+1) Nt then Tr.put (some o) BD s.t (n+1) fun t=>K (n+1) ⟨n+2,t⟩else none
def St.Iq {β:Type} {s:St} {o:EO} {K:Nat->St->Option β} {x:β} (h:s.new o K=some x):s.nx<=Nt/\K s.nx ⟨s.nx+1,Tr.set (some o) BD s.t s.nx⟩=some x:=by
 obtain⟨n,t⟩:=s;cases n with
 | zero=>simp only[St.new]at h;rw[Tr.put_eq]at h;exact⟨by simp[Nt],h⟩
 | succ n=>
   simp only[St.new]at h;obtain⟨h1,h2⟩:=AW h;rw[Tr.put_eq]at h2;exact⟨Nat.le_of_ble_eq_true h1,h2⟩
def TZ: ∀ {ys ys':List (List V)} {ns:List Int},Fk ys=some ns->gM Y ys ys'->Fk ys'=some ns
 | [],ys',ns,h,hr=>by obtain rfl:ys'= []:=hr;exact h
 | e ::r,ys',ns,h,hr=>by
   unfold Fk at h;split at h
   .cases ‹_= []›
   .rename_i n r' he
    cases he;obtain⟨e',r'',h1,h2,rfl⟩:=hr;obtain⟨v',l',h3,h4,rfl⟩:=h1;obtain rfl:l'= []:=h4;simp only[RV]at h3;subst h3;split at h
    .rename_i l hl
     cases h;simp only[Fk,TZ hl h2]
    .cases h
   .cases h
def gu (s:St) (x:V):Option V:=
 match JZ s 1 x with
 | some ys=>match Fk ys with
   | some ns=>some (.s ⟨(ns.map fun n=>UInt8.ofNat n.toNat).toArray⟩)
   | none=>none
 | none=>none
def qh {s:St} (hs:SR P Y s Z) {x x' v:V} (h:gu s x=some v) (hx:RV Y x x') {K:V->Prop} (U: ∀v',RV Y v v'->K v'):gm Z x' K:=by
 unfold gu at h;split at h
 .rename_i ys hys
  split at h
  .rename_i ns hn
   cases h;refine IS hs hys hx fun ys' hr=>?_
   rw[TZ hn hr];exact U _ (by simp only[RV])
  .cases h
 .cases h
def zw (b L:Nat):Bool:=Nat.ble L 1073741824&&Nat.ble b 131072
def Ug {b L:Nat} (h:zw b L=true):L<=Aa/\L*b<=140737488355328:=by
 simp only[zw,A9]at h;have h1:=Nat.le_of_ble_eq_true h.1;have h2:=Nat.le_of_ble_eq_true h.2;have h3:L*b<=1073741824*131072:=Nat.mul_le_mul h1 h2;exact⟨by unfold Aa;omega,by omega⟩
def Mn (b : Nat) (s:St) (sz:Nat) (x y:V):Option (V×St):=
 match JZ s sz y with
 | some ys =>bif ys.all (fun e=>e.all CR)then
  match x with
  | .l es full=>bif es.all (fun e=>Nat.beq e.length sz)&&zw b (es.length+ys.length)then
   match ys with
   | []=>some (.l es full,s)
   | z::zs=>bif full then s.new (.arr sz (es++z::zs)) fun i s'=>some (.sl i (es.length+(z::zs).length) 0,s')else none
    else none
  | .sl n len _=>match s.t.get n with
    | some (.arr s1 es)=>bif Nat.beq s1 sz&&(Nat.beq len es.length&&zw b (es.length+ys.length))then
     Tr.put none BD s.t n fun t=>St.new ⟨s.nx,t⟩ (.arr sz (es++ys)) fun i s'=>some (.sl i (es.length+ys.length) 0,s')else none
    | _=>none
  | _=>none
   else none
 | none=>none
def Zy {b : Nat} {s s':St} (hs:SR P Y s Z) {sz:Nat} {x x' y y' v:V} (h:Mn b s sz x y=some (v,s')) (hx:RV Y x x') (hy:RV Y y y') {K:V->AE->Prop}
    (U: ∀Y' v' Z',Y.le Y'->RV Y' v v'->SR P Y' s' Z'->K v' Z'):AK b Z sz x' y' K:=by
 unfold Mn at h;split at h
 .rename_i ys hys
  obtain⟨h1,h2⟩:=AW h;refine IS hs hys hy fun ys' hr=>⟨NN h1 hr,?_⟩
  split at h2
  .rename_i es full
   obtain⟨es',g1,rfl⟩:=hx;have g1:=F9.1 g1;obtain⟨h3,h4⟩:=AW h2;simp only[A9]at h3;refine⟨QA h3.1 g1,by rw[g1.len,hr.len];exact Ug h3.2,fun e=>?_,fun e=>?_⟩
   .split at h4
    .cases h4
     exact U Y _ _ (.refl _) (by simp only[RV];exact⟨es',F9.2 g1,rfl⟩) hs
    .subst e
     have:=hr.len;simp at this
   .split at h4
    .cases hr
     exact absurd rfl e
    .rename_i z zs
     obtain⟨h5,h6⟩:=AW h4;obtain⟨h7,h8⟩:=St.Iq h6;cases h8;refine⟨h5,fun n cap hn hc=>?_⟩;obtain⟨Y',q1,q2,q3⟩:=hs.new h7 hn cap (o:= .arr sz (es++z::zs)) (o':= .arr sz (es'++ys') cap) ⟨_,g1.app hr,rfl⟩;exact U Y' _ _ q1 (by simp only[RV];exact⟨_,q2,by rw[g1.len,hr.len]⟩) q3
  .rename_i n len
   obtain⟨m,g1,rfl⟩:=hx;split at h2
   .rename_i s1 es hg
    obtain⟨o',g2,es',g3,rfl⟩:=hs.at hg g1;obtain⟨h3,h4⟩:=AW h2;simp only[A9]at h3;rw[Tr.put_eq]at h4;obtain⟨h5,h6⟩:=St.Iq h4;cases h6;have e1:=C7 h3.1;subst e1;simp only[g2];refine⟨trivial,trivial,by rw[g3.len];exact C7 h3.2.1,by rw[g3.len,hr.len];exact Ug h3.2.2,fun n' cap' hn hc=>?_⟩;obtain⟨Y',q1,q2,q3⟩:=(hs.del hg g1).new h5 hn cap' (o:= .arr s1 (es++ys)) (o':= .arr s1 (es'++ys') cap') ⟨_,g3.app hr,rfl⟩;exact U Y' _ _ q1 (by simp only[RV];exact⟨_,q2,by rw[g3.len,hr.len]⟩) q3
   .cases h2
  .cases h2
 .cases h
def Wg (b:Nat) (s:St) (sz:Nat) (x y:V):Option V:=
 match JZ s sz y with
 | some ys=>bif ys.all (fun e=>e.all CR)then
  match x with
  | .l es full=>bif es.all (fun e=>Nat.beq e.length sz)&&(zw b (es.length+ys.length)&&(full||ys.isEmpty))then some (.l (es++ys) false)else none
  | _=>none
   else none
 | none=>none
def mX {b:Nat} {s:St} (hs:SR P Y s Z) {sz:Nat} {x x' y y' v:V} (h:Wg b s sz x y=some v) (hx:RV Y x x') (hy:RV Y y y') {K:V->Prop} (U: ∀v',RV Y v v'->K v'):AY b Z sz x' y' K:=by
 unfold Wg at h;split at h
 .rename_i ys hys
  obtain⟨h1,h2⟩:=AW h;refine IS hs hys hy fun ys' hr=>⟨NN h1 hr,?_⟩
  split at h2
  .rename_i es full
   obtain⟨es',g1,rfl⟩:=hx;have g1:=F9.1 g1;obtain⟨h3,h4⟩:=AW h2;simp only[A9,E9]at h3;cases h4;refine⟨QA h3.1 g1,by rw[g1.len,hr.len];exact Ug h3.2.1,fun e=>?_,U _ (by simp only[RV];exact⟨_,F9.2 (g1.app hr),rfl⟩)⟩;rcases h3.2.2 with h|h
   .exact h
   .have:ys= []:=by simpa using h
    subst this;cases hr;exact absurd rfl e
  .cases h2
 .cases h
def oI (s:St) (sz:Nat) (ys:List (List V)) (n off len:Nat):Option (V×St):=
 match s.t.get n with
 | some (.arr s1 es)=>bif Nat.beq s1 sz&&Nat.ble (off+len) es.length then
  Tr.put (some (.arr s1 (es.take off++(ys.take (min ys.length len)++es.drop (off+min ys.length len))))) BD s.t n fun t=>some (.i .i64 (.ofNat (min ys.length len)),⟨s.nx,t⟩)else none
 | _=>none
def cK {s s':St} (hs:SR P Y s Z) {sz n off len:Nat} {ys ys':List (List V)} (hr:gM Y ys ys') {m:Nat×Nat} (hm:Y n=some m) {v:V} (h:oI s sz ys n off len=some (v,s')) {K:V->AE->Prop}
    (U: ∀v' Z',RV Y v v'->SR P Y s' Z'->K v' Z'):QM Z sz ys' m.1 off len K:=by
 unfold oI at h;split at h
 .rename_i s1 es hg
  obtain⟨o',g2,es',g3,rfl⟩:=hs.at hg hm;obtain⟨h3,h4⟩:=AW h;simp only[A9]at h3;rw[Tr.put_eq]at h4;cases h4;simp only[QM,g2];refine⟨C7 h3.1,by rw[g3.len];exact Nat.le_of_ble_eq_true h3.2,?_⟩;rw[hr.len];exact U _ _ (by simp only[RV];rfl) (hs.B7 hg hm ⟨_,((g3.take off).app ((hr.take _).app (g3.drop _))),rfl⟩)
 .cases h
def Wf (s:St) (sz:Nat) (x y:V):Option (V×St):=
 match JZ s sz y with
 | some ys=>bif ys.all (fun e=>e.all CR)then
  match x with
  | .sl n len _=>oI s sz ys n 0 len
  | .sv n s1 off len=>bif Nat.beq s1 sz then oI s sz ys n off len else none
  | _=>none
   else none
 | none=>none
def mW {s s':St} (hs:SR P Y s Z) {sz:Nat} {x x' y y' v:V} (h:Wf s sz x y=some (v,s')) (hx:RV Y x x') (hy:RV Y y y') {K:V->AE->Prop}
    (U: ∀v' Z',RV Y v v'->SR P Y s' Z'->K v' Z'):AX Z sz x' y' K:=by
 unfold Wf at h;split at h
 .rename_i ys hys
  obtain⟨h1,h2⟩:=AW h;refine IS hs hys hy fun ys' hr=>⟨NN h1 hr,?_⟩
  split at h2
  .obtain⟨m,g1,rfl⟩:=hx
   exact cK hs hr g1 h2 U
  .obtain⟨m,g1,rfl⟩:=hx
   obtain⟨h3,h4⟩:=AW h2;exact⟨C7 h3,cK hs hr g1 h4 U⟩
  .cases h2
 .cases h
def WE (o:Option V) (d:Int):Option Int:=
 match o with
 | none=>some d
 | some (.i _ n)=>some n
 | _=>none
def rV (Y:Ren):Option V->Option V->Prop
 | none,o=>o=none
 | some v,o=> ∃v',RV Y v v'/\o=some v'
def Ke {o o':Option V} {d n:Int} (h:WE o d=some n) (ho:rV Y o o') {K:Int->Prop} (U:K n):Ow o' d K:=by
 unfold WE at h;split at h
 .cases h;cases ho;exact U
 .obtain⟨v',h1,rfl⟩:=ho
  simp only[RV]at h1;subst h1;cases h;exact U
 .cases h
def Ql (s : St) (sz:Nat) (x:V) (lo hi mx:Option V):Option (V×St):=
 match x with
 | .l es full=>match WE hi (.ofNat es.length),WE lo 0 with
   | some h,some l=>bif es.all (fun e=>Nat.beq e.length sz)&&(QG 0 l&&(QG l h&&QG h (.ofNat es.length)))then
    match mx with
    | none=>some (.l ((es.take h.toNat).drop l.toNat) (full&&dD h (.ofNat es.length)),s)
    | some (.i _ m)=>bif dD m h then some (.l ((es.take h.toNat).drop l.toNat) true,s)else none
    | _=>none
     else none
   | _,_=>none
 | .sl n len _=>match WE hi (.ofNat len),WE lo 0 with
   | some h,some l=>bif QG 0 l&&(QG l h&&QG h (.ofNat len))then
    match mx with
    | none=>some (.sv n sz l.toNat (h - l).toNat,s)
    | some (.i _ m)=>match s.t.get n with
      | some (.arr s1 es)=>bif dD m h&&(dD h (.ofNat len)&&(dD l 0&&(Nat.beq s1 sz&&Nat.beq len es.length)))then Tr.put none BD s.t n fun t=>St.new ⟨s.nx,t⟩ (.arr s1 es) fun i s'=>some (.sl i len 0,s')else none
      | _=>none
    | _=>none
     else none
   | _,_=>none
 | .sv n s1 off len=>match WE hi (.ofNat len),WE lo 0,mx with
   | some h,some l,none=>bif Nat.beq s1 sz&&(QG 0 l&&(QG l h&&QG h (.ofNat len)))then some (.sv n sz (off+l.toNat) (h - l).toNat,s)else none
   | _,_,_=>none
 | _=>none
def Uu {a b:Int} (h:dD a b=true):a=b:=by rw[Uv]at h;simpa using h
def fS {s s':St} (hs:SR P Y s Z) {sz:Nat} {x x' v:V} {lo hi mx lo' hi' mx':Option V} (h:Ql s sz x lo hi mx=some (v,s')) (hx:RV Y x x') (h1:rV Y lo lo') (h2:rV Y hi hi') (h3:rV Y mx mx') {K:V->AE->Prop}
    (U: ∀Y' v' Z',Y.le Y'->RV Y' v v'->SR P Y' s' Z'->K v' Z'):AQ Z sz x' lo' hi' mx' K:=by
 unfold Ql at h;split at h
 .rename_i es full
  obtain⟨es',g1,rfl⟩:=hx;have g1:=F9.1 g1;split at h
  .rename_i hh ll e1 e2
   obtain⟨h4,h5⟩:=AW h;simp only[A9]at h4;refine⟨QA h4.1 g1,?_⟩;rw[g1.len];refine Ke e1 h2 ?_;refine Ke e2 h1 ?_;refine⟨En h4.2.1,En h4.2.2.1,En h4.2.2.2,?_⟩;split at h5
   .cases h3
    cases h5;refine U Y _ _ (.refl _) ?_ hs;simp only[RV];refine⟨_,F9.2 ((g1.take _).drop _),?_⟩;congr 1;rw[Uv];congr 1
   .obtain⟨v',q1,rfl⟩:=h3
    simp only[RV]at q1;subst q1;obtain⟨h6,h7⟩:=AW h5;cases h7;exact⟨Uu h6,U Y _ _ (.refl _) (by simp only[RV];exact⟨_,F9.2 ((g1.take _).drop _),rfl⟩) hs⟩
   .cases h5
  .cases h
 .rename_i n len
  obtain⟨m,g1,rfl⟩:=hx;split at h
  .rename_i hh ll e1 e2
   obtain⟨h4,h5⟩:=AW h;simp only[A9]at h4;simp only[AQ];refine Ke e1 h2 ?_;refine Ke e2 h1 ?_;refine⟨En h4.1,En h4.2.1,En h4.2.2,?_⟩;split at h5
   .cases h3
    cases h5;exact U Y _ _ (.refl _) (by simp only[RV];exact⟨m,g1,rfl⟩) hs
   .obtain⟨v',q1,rfl⟩:=h3
    simp only[RV]at q1;subst q1;split at h5
    .rename_i s1 es hg
     obtain⟨o',g2,es',g3,rfl⟩:=hs.at hg g1;obtain⟨h6,h7⟩:=AW h5;simp only[A9]at h6;rw[Tr.put_eq]at h7;obtain⟨h8,h9⟩:=St.Iq h7;cases h9;simp only[g2];have h10:=C7 h6.2.2.2.2;refine⟨Uu h6.1,Uu h6.2.1,Uu h6.2.2.1,C7 h6.2.2.2.1,trivial,by rw[g3.len];exact h10,.inr ?_⟩;obtain⟨Y',q1,q2,q3⟩:=(hs.del hg g1).new h8 (De Z m.1) n (o:= .arr s1 es) (o':= .arr s1 es' n) ⟨es',g3,rfl⟩
     have e:Gl.B7 (Gl.del Z m.1) m.1 (.arr s1 es' n)=Gl.B7 Z m.1 (.arr s1 es' n):=by
      funext k;by_cases hk:k=m.1
      .simp[Gl.B7,hk]
      .simp[Gl.B7,Gl.del,hk]
     rw[e]at q3;exact U Y' _ _ q1 (by simp only[RV];exact⟨_,q2,rfl⟩) q3
    .cases h5
   .cases h5
  .cases h
 .obtain⟨m,g1,rfl⟩:=hx
  split at h
  .rename_i hh ll e1 e2
   cases h3;obtain⟨h4,h5⟩:=AW h;simp only[A9]at h4;cases h5;simp only[AQ];refine Ke e1 h2 ?_;refine Ke e2 h1 ?_;exact⟨En h4.2.1,En h4.2.2.1,En h4.2.2.2,C7 h4.1,trivial,U Y _ _ (.refl _) (by simp only[RV];exact⟨m,g1,rfl⟩) hs⟩
  .cases h
 .cases h
def Nc: ∀ {cs ds:List V} {t:Bool},Bz cs ds=some t->CM cs=true/\CM ds=true
 | [],[],_,_=>⟨rfl,rfl⟩
 | x ::xs,y::ys,t,h=>by
   cases x<;>cases y<;>simp only[Bz]at h<;>first|cases h|skip
   split at h
   .obtain⟨a,h1,_⟩:=Aj h
    obtain⟨h2,h3⟩:=Nc h1;exact⟨by simp[CM,BL,h2],by simp[CM,BL,h3]⟩
   .cases h
 | [],_::_,_,h=>by simp[Bz]at h
 | x::xs,[],_,h=>by cases x<;>simp[Bz]at h
def oH {cs cs':List V} (h:MG Y cs cs') (hp:CM cs=true):cs'=cs:=RL.fn cs _ _ (Bi.2 h) (RL.pure cs hp)
def gx (len:Nat) (neg:Bool) (x y:V):Option V:=
 match x,y with
 | .a cs,.a ds=>bif Nat.beq cs.length len then(match Bz cs ds with|some t=>some (.b (bif neg then !t else t))|none=>none)else none
 | _,_=>none
def ql {len:Nat} {neg:Bool} {x x' y y' v:V} (h:gx len neg x y=some v) (hx:RV Y x x') (hy:RV Y y y') {K:V->Prop} (U: ∀v',RV Y v v'->K v'):UU len neg x' y' K:=by
 unfold gx at h;split at h
 .rename_i cs ds
  obtain⟨cs',g1,rfl⟩:=hx;obtain⟨ds',g2,rfl⟩:=hy;obtain⟨h1,h2⟩:=AW h;split at h2
  .rename_i t ht
   cases h2;obtain⟨p1,p2⟩:=Nc ht;have e1:=oH (Bi.1 g1) p1;have e2:=oH (Bi.1 g2) p2;subst e1;subst e2;simp only[UU,h1,ht];exact U _ (by simp only[RV])
  .cases h2
 .cases h
def gw (kind:Nat) (neg:Bool) (x:V):Option V:=
 match kind,x with
 | 0,.pn=>some (.b (!neg))
 | 0,.rp _=>some (.b neg)
 | 0,.p _ _=>some (.b neg)
 | 0,.pe _ _ _ _=>some (.b neg)
 | 1,.sl _ _ _=>some (.b neg)
 | 1,.l (_::_) _=>some (.b neg)
 | 2,.D0=>some (.b (!neg))
 | 2,.FV _ _=>some (.b neg)
 | 3,.mn=>some (.b (!neg))
 | 3,.m _=>some (.b neg)
 | 4,.MK=>some (.b (!neg))
 | 4,.f _ _ _=>some (.b neg)
 | _,_=>none
def qj {kind:Nat} {neg:Bool} {x x' v:V} (h:gw kind neg x=some v) (hx:RV Y x x') {K:V->Prop} (U: ∀v',RV Y v v'->K v'):Jq kind neg x' K:=by
 unfold gw at h;split at h
 .simp only[RV]at hx;subst hx;cases h;exact U _ (by simp only[RV])
 .obtain⟨_,_,rfl⟩:=hx;cases h;exact U _ (by simp only[RV])
 .obtain⟨_,_,rfl⟩:=hx;cases h;exact U _ (by simp only[RV])
 .obtain⟨_,_,rfl⟩:=hx;cases h;exact U _ (by simp only[RV])
 .obtain⟨_,_,rfl⟩:=hx;cases h;exact U _ (by simp only[RV])
 .obtain⟨es',g1,rfl⟩:=hx
  cases h;obtain⟨y,ys,_,_,rfl⟩:=F9.1 g1;exact⟨fun e=>(by cases e),fun _=>U _ (by simp only[RV])⟩
 .simp only[RV]at hx;subst hx;cases h;exact U _ (by simp only[RV])
 .obtain⟨_,_,rfl⟩:=hx;cases h;exact U _ (by simp only[RV])
 .simp only[RV]at hx;subst hx;cases h;exact U _ (by simp only[RV])
 .obtain⟨_,_,rfl⟩:=hx;cases h;exact U _ (by simp only[RV])
 .simp only[RV]at hx;subst hx;cases h;exact U _ (by simp only[RV])
 .obtain⟨_,_,_,_,_,_,rfl⟩:=hx;cases h;exact U _ (by simp only[RV])
 .cases h
def KF (s:St) (sz:Nat) (z:List V) (x y:V):Option (V×St):=
 match x,y with
 | .i _ n,.i _ m=>bif QG 0 n&&(QG n m&&(Nat.ble m.toNat 1073741824&&CM z))then s.new (.arr sz (List.replicate n.toNat z)) fun i s'=>some (.sl i n.toNat 0,s')else none
 | _,_=>none
def YQ {s s':St} (hs:SR P Y s Z) {sz:Nat} {z:List V} {x x' y y' v:V} (h:KF s sz z x y=some (v,s')) (hx:RV Y x x') (hy:RV Y y y') {K:V->AE->Prop}
    (U: ∀Y' v' Z',Y.le Y'->RV Y' v v'->SR P Y' s' Z'->K v' Z'):AJ Z sz z x' y' K:=by
 unfold KF at h;split at h
 .rename_i k1 n k2 m
  simp only[RV]at hx hy;subst hx;subst hy;obtain⟨h1,h2⟩:=AW h;simp only[A9]at h1;obtain⟨h3,h4⟩:=St.Iq h2;cases h4;have h5:=En h1.1;have h7:=En h1.2.1;have h6:m.toNat<=1073741824:=Nat.le_of_ble_eq_true h1.2.2.1;refine⟨h5,h7,by omega,fun id hid=>?_⟩;obtain⟨Y',q1,q2,q3⟩:=hs.new h3 hid m.toNat (o:= .arr sz (List.replicate n.toNat z)) (o':= .arr sz (List.replicate n.toNat z) m.toNat) ⟨_,F2.rep (Bi.1 (RL.pure z h1.2.2.2)) _,rfl⟩;exact U Y' _ _ q1 (by simp only[RV];exact⟨_,q2,rfl⟩) q3
 .cases h
def PH: ∀ {l:List IntKind} {cs:List V},Dp l cs=true->CM cs=true
 | [],[],_=>rfl
 | q::l,x::cs,h=>by
   cases x<;>simp only[Dp]at h<;>first|cases h|skip
   simp only[A9]at h;simp[CM,BL,PH h.2]
 | [],_::_,h=>by simp[Dp]at h
 | _::_,[],h=>by simp[Dp]at h
def Ft {ks:KS} {v:V} (h:BW ks v=true):BL v=true:=by
 unfold BW at h;split at h
 .rfl
 .exact PH h
 .rfl
 .cases h
def Td {ks:KS} {key:V}: ∀ {kvs kvs':List (V×V)},(kvs.all fun kv=>BW ks kv.1)=true->F2 (RK Y) kvs kvs'->rV Y (Cn key kvs) (Cn key kvs')
 | [],_,_,h=>by cases h;rfl
 | (k,v)::r,_,ha,⟨y,ys,h1,h2,e⟩=>by
   subst e;obtain⟨k',v'⟩:=y;simp only[K5,A9]at ha;have e1:k'=k:=RV.ni h1.1 (Ft ha.1);subst e1;simp only[Cn];cases D6 key k' with
   | true=>exact⟨v',h1.2,rfl⟩
   | false=>exact Td ha.2 h2
def XK {ks:KS} {key x x':V} (hp:BL key=true) (hx:RV Y x x'): ∀ {kvs kvs':List (V×V)},(kvs.all fun kv=>BW ks kv.1)=true->F2 (RK Y) kvs kvs'->F2 (RK Y) (DZ key x kvs) (DZ key x' kvs')
 | [],_,_,h=>by cases h;exact F2.cons ⟨RV.pure key hp,hx⟩ F2.nil
 | (k,v)::r,_,ha,⟨y,ys,h1,h2,e⟩=>by
   subst e;obtain⟨k',v'⟩:=y;simp only[K5,A9]at ha;have e1:k'=k:=RV.ni h1.1 (Ft ha.1);subst e1;simp only[DZ];cases D6 key k' with
   | true=>exact F2.cons ⟨RV.pure key hp,hx⟩ h2
   | false=>exact F2.cons h1 (XK hp hx ha.2 h2)
def bc {ks:KS} {kvs kvs':List (V×V)} (ha:(kvs.all fun kv=>BW ks kv.1)=true) (h:F2 (RK Y) kvs kvs'): ∀kv∈kvs',BW ks kv.1=true:=fun kv hm=>by
 obtain⟨u,hu,hr⟩:=F2.mem h hm;rw[EG]at ha;have h1:=ha u hu;rw[RV.ni hr.1 (Ft h1)];exact h1
def Ml (s:St) (ks:KS) (z:V) (ok:Bool) (vm vk:V):Option V:=
 bif BW ks vk&&BL z then
  match vm with
  | .m n=>match s.t.get n with
    | some (.map kvs)=>bif kvs.all (fun kv=>BW ks kv.1)then some (found z ok (Cn vk kvs))else none
    | _=>none
  | .mn=>some (found z ok none)
  | _=>none
 else none
def XU {z:V} {ok:Bool} (hz:BL z=true) {o o':Option V} (h:rV Y o o'):RV Y (found z ok o) (found z ok o'):=by
 cases o with
 | none=>
   cases h;cases ok with
   | true=>simp only[found,cond_true,RV];exact⟨_,Bi.2 (F2.cons (RV.pure z hz) (F2.cons (RV.pure _ rfl) F2.nil)),rfl⟩
   | false=>exact RV.pure z hz
 | some v=>
   obtain⟨v',h1,rfl⟩:=h;cases ok with
   | true=>simp only[found,cond_true,RV];exact⟨_,Bi.2 (F2.cons h1 (F2.cons (RV.pure _ rfl) F2.nil)),rfl⟩
   | false=>exact h1
def Zx {s:St} (hs:SR P Y s Z) {ks:KS} {z:V} {ok:Bool} {vm vm' vk vk' v:V} (h:Ml s ks z ok vm vk=some v) (hm:RV Y vm vm') (hk:RV Y vk vk') {K:V->Prop} (U: ∀v',RV Y v v'->K v'):AM Z ks z ok vm' vk' K:=by
 unfold Ml at h;obtain⟨h1,h2⟩:=AW h;simp only[A9]at h1;have e:=RV.ni hk (Ft h1.1);subst e;refine⟨h1.1,?_⟩;split at h2
 .obtain⟨m,g1,rfl⟩:=hm
  split at h2
  .rename_i kvs hg
   obtain⟨o',g2,kvs',g3,rfl⟩:=hs.at hg g1;obtain⟨h3,h4⟩:=AW h2;cases h4;simp only[g2];exact⟨bc h3 g3,U _ (XU h1.2 (Td h3 g3))⟩
  .cases h2
 .simp only[RV]at hm
  subst hm;cases h2;exact U _ (XU h1.2 rfl)
 .cases h2
def Mk (s:St) (ks:KS) (vm vk vv:V):Option St:=
 bif BW ks vk then
  match vm with
  | .m n=>match s.t.get n with
    | some (.map kvs)=>bif kvs.all (fun kv=>BW ks kv.1)then Tr.put (some (.map (DZ vk vv kvs))) BD s.t n fun t=>some ⟨s.nx,t⟩else none
    | _=>none
  | _=>none
 else none
def Zw {s s':St} (hs:SR P Y s Z) {ks:KS} {vm vm' vk vk' vv vv':V} (h:Mk s ks vm vk vv=some s') (hm:RV Y vm vm') (hk:RV Y vk vk') (hv:RV Y vv vv') {K:AE->Prop} (U: ∀Z',SR P Y s' Z'->K Z') :
    AO Z ks vm' vk' vv' K:=by
 unfold Mk at h;obtain⟨h1,h2⟩:=AW h;have e:=RV.ni hk (Ft h1);subst e;refine⟨h1,?_⟩;split at h2
 .obtain⟨m,g1,rfl⟩:=hm
  split at h2
  .rename_i kvs hg
   obtain⟨o',g2,kvs',g3,rfl⟩:=hs.at hg g1;obtain⟨h3,h4⟩:=AW h2;rw[Tr.put_eq]at h4;cases h4;simp only[g2];exact⟨bc h3 g3,U _ (hs.B7 hg g1 ⟨_,XK (Ft h1) hv h3 g3,rfl⟩)⟩
  .cases h2
 .cases h2
def OB (env:Env):List V->List (Nat×Nat×Bq)->Option (List V)
 | cs,[]=>some cs
 | cs,(off,sz,x)::r=>
   match Dg env x with
   | some v=>match cellsOf v with
     | some vc=>bif Nat.beq vc.length sz&&Nat.ble (off+sz) cs.length then OB env (putAt cs off vc) r else none
     | none=>none
   | none=>none
def T0 (he:RE Y env env₀): ∀ {ps:List (Nat×Nat×Bq)} {cs cs' cs1:List V},OB env cs ps=some cs1->MG Y cs cs'-> ∃cs1',LM env₀ cs' ps=some cs1'/\MG Y cs1 cs1'
 | [],_,cs',_,h,hc=>by cases h;exact⟨cs',rfl,hc⟩
 | (off,sz,x)::r,cs,cs',cs1,h,hc=>by
   simp only[OB]at h;split at h
   .rename_i v hv
    split at h
    .rename_i vc hvc
     obtain⟨h1,h2⟩:=AW h;obtain⟨v',e1,e2⟩:=Av he hv;obtain⟨vc',e3,e4⟩:=G4 hvc e2;obtain⟨c,e5,e6⟩:=T0 he h2 (M5 hc e4);refine⟨c,?_,e6⟩;simp only[LM,e1,e3];rw[e4.len,hc.len,h1];exact e5
    .cases h
   .cases h
def OC (env:Env) (sz:Nat):List (List V)->List (Nat×Bq)->Option (List (List V))
 | es,[]=>some es
 | es,(i,x)::r=>
   match Dg env x with
   | some v=>match cellsOf v with
     | some vc=>bif Nat.beq vc.length sz&&Nat.blt i es.length then OC env sz (es.set i vc) r else none
     | none=>none
   | none=>none
def T1 (he:RE Y env env₀) {sz:Nat}: ∀ {ps:List (Nat×Bq)} {cs cs' cs1:List (List V)},OC env sz cs ps=some cs1->gM Y cs cs'-> ∃cs1',J4 env₀ sz cs' ps=some cs1'/\gM Y cs1 cs1'
 | [],_,cs',_,h,hc=>by cases h;exact⟨cs',rfl,hc⟩
 | (i, x)::r,cs,cs',cs1,h,hc=>by
   simp only[OC]at h;split at h
   .rename_i v hv
    split at h
    .rename_i vc hvc
     obtain⟨h1,h2⟩:=AW h;obtain⟨v',e1,e2⟩:=Av he hv;obtain⟨vc',e3,e4⟩:=G4 hvc e2;obtain⟨c,e5,e6⟩:=T1 he h2 (hc.set i e4);refine⟨c,?_,e6⟩;simp only[J4,e1,e3];rw[e4.len,hc.len,h1];exact e5
    .cases h
   .cases h
end Go.Gl
namespace Go.Gl
variable {P:Program} {Y Y':Ren} {Z:AE} {env env₀:Env}
def ob {α β:Type} (o:Option α) (k:α->Option β):Option β:=match o with|some v=>k v|none=>none
def AT {α β:Type} {o:Option α} {k:α->Option β} {r:β} (h:ob o k=some r): ∃v,o=some v/\k v=some r:=by
 cases o with
 | none=>cases h
 | some v=>exact⟨v,rfl,h⟩
def REx (Y:Ren):Ac->Ac->Prop
 | .Bk v,x=> ∃v',RV Y v v'/\x= .Bk v'
 | .normal,x=>x= .normal
 | .ret,x=>x= .ret
 | .exit id,x=>x= .exit id
def rW (Y:Ren):R->R->Prop
 | .ret v,r=> ∃v',RV Y v v'/\r= .ret v'
 | .Bk v,r=> ∃v',RV Y v v'/\r= .Bk v'
abbrev CF:=FuncId->List V->St->Option (R×St)
abbrev CV:=V->List V->St->Option (R×St)
abbrev CP:=FuncId->List V->Option V
def Lq (P:Program) (c:CF):Prop:= ∀f vs s r s',c f vs s=some (r,s')-> ∀Y vs' Z,MG Y vs vs'->SR P Y s Z-> ∀Q:R->AE->Prop,(∀Y' r' Z',Y.le Y'->rW Y' r r'->SR P Y' s' Z'->Q r' Z')->Au P f vs' Z Q
def Kj (P:Program) (c:CV):Prop:= ∀x vs s r s',c x vs s=some (r,s')-> ∀Y x' vs' Z,RV Y x x'->MG Y vs vs'->SR P Y s Z-> ∀Q:R->AE->Prop,(∀Y' r' Z',Y.le Y'->rW Y' r r'->SR P Y' s' Z'->Q r' Z')->Ao P x' vs' Z Q
def OI (P:Program) (c:CP):Prop:= ∀f vs v,c f vs=some v->CM vs=true/\BL v=true/\Pure P f vs v
def ov (o:Option V) (s:St):Option (R×St):=match o with|some v=>some (.ret v,s)|none=>none
def Ce {o:Option V} {s s':St} {r:R} (h:ov o s=some (r,s')): ∃v,o=some v/\r= .ret v/\s'=s:=by
 cases o with
 | none=>cases h
 | some v=>cases h;exact⟨v,rfl,rfl,rfl⟩
def os (o:Option St):Option (R×St):=match o with|some s=>some (.ret (.t []),s)|none=>none
def pH {o:Option St} {s':St} {r:R} (h:os o=some (r,s')):o=some s'/\r= .ret (.t []):=by
 cases o with
 | none=>cases h
 | some v=>cases h;exact⟨rfl,rfl⟩
def dA (o:Option (V×St)):Option (R×St):=match o with|some (v,s)=>some (.ret v,s)|none=>none
def M6 {o:Option (V×St)} {s':St} {r:R} (h:dA o=some (r,s')): ∃v,o=some (v,s')/\r= .ret v:=by
 cases o with
 | none=>cases h
 | some v=>cases h;exact⟨_,rfl,rfl⟩
def Li (env:Env):Option Bq->Option (Option V)
 | none=>some none
 | some x=>match Dg env x with|some v=>some (some v)|none=>none
def OT (he:RE Y env env₀) {x:Option Bq} {v:Option V} (h:Li env x=some v): ∃v',IB env₀ x=some v'/\rV Y v v':=by
 cases x with
 | none=>cases h;exact⟨none,rfl,rfl⟩
 | some x=>
   simp only[Li]at h;split at h
   .rename_i u hu
    cases h;obtain⟨v',h1,h2⟩:=Av he hu;exact⟨some v',by simp only[IB,h1],v',h2,rfl⟩
   .cases h
def gr (t:TypeId) (z:V) (ok:Bool) (x:V):Option V:=
 match x with
 | .FV t' v=>bif Nat.beq t' t then some (bif ok then .t [v,.b true]else v)else(bif ok&&BL z then some (.t [z,.b false])else none)
 | .D0=>bif ok&&BL z then some (.t [z,.b false])else none
 | _=>none
def N9 (x:V):Option V:=
 match x with
 | .p n off=>some (.p n off)
 | .rp cs=>some (.rp cs)
 | .pe n sz i off=>some (.pe n sz i off)
 | .f (.func f) a b=>some (.f (.func f) a b)
 | .f (.yield f) a b=>some (.f (.yield f) a b)
 | _=>none
def GN (cf:CF) (cv:CV) (cp:CP) (o:GO) (env:Env) (s:St):Option (R×St):=
 match o with
 | .mv x=>ov (Dg env x) s
 | .nf x=>ov (Dg env x) s
 | .pick c a b=>ob (Dg env c) fun vc=>ob (Dg env a) fun va=>ob (Dg env b) fun vb=>match vc with| .b t=>some (.ret (bif t then va else vb),s)|_=>none
 | .bin op x y=>ob (Dg env x) fun vx=>ob (Dg env y) fun vy=>ov (WG op vx vy) s
 | .nk neg x y=>ob (Dg env x) fun vx=>ob (Dg env y) fun vy=>match vx,vy with| .b p,.b q=>some (.ret (.b (bif neg then p != q else p==q)),s)|_,_=>none
 | .not x=>ob (Dg env x) fun vx=>match vx with| .b p=>some (.ret (.b (!p)),s)|_=>none
 | .neg xor x=>ob (Dg env x) fun vx=>match vx with| .i ka a=>some (.ret (.i ka (bif xor then bits .xor ka (bif ka.signed then -1 else ka.max) a else ka.wrap (0 - a))),s)|_=>none
 | .conv ka x=>ob (Dg env x) fun vx=>match vx with| .i _ a=>some (.ret (.i ka (JO ka a)),s)|_=>none
 | .box x=>ob (Dg env x) fun vx=>ob (cellsOf vx) fun cs=>s.new (.cs cs) fun i s'=>some (.ret (.p i 0),s')
 | .Pa x=>ob (Dg env x) fun vx=>ob (cellsOf vx) fun cs=>some (.ret (.rp cs),s)
 | .Sl sz b x y=>ob (Dg env x) fun vx=>ob (Dg env y) fun vy=>ov (Wg b s sz vx vy) s
 | .alloc z=>bif CM z then s.new (.cs z) fun i s'=>some (.ret (.p i 0),s')else none
 | .build z parts=>bif CM z then ob (OB env z parts) fun cs=>some (.ret (.a cs),s)else none
 | .Hs _ len z parts=>bif CM z then ob (OC env z.length (List.replicate len z) parts) fun es=>some (.ret (.l es true),s)else none
 | .load agg x=>ob (Dg env x) fun vx=>ov (O4 s agg vx) s
 | .store sz a x=>ob (Dg env a) fun va=>ob (Dg env x) fun vx=>os (Qk s sz va vx)
 | .GS off x=>ob (Dg env x) fun vx=>ov (Uw off vx) s
 | .field agg off x=>ob (Dg env x) fun vx=>match vx with| .a cs=>ov (WB agg cs off) s|_=>none
 | .MQ sz arr x i=>ob (Dg env x) fun vx=>ob (Dg env i) fun vi=>ov (OA sz arr vx vi) s
 | .index len sz agg x i=>ob (Dg env x) fun vx=>ob (Dg env i) fun vi=>ov (Qm len sz agg vx vi) s
 | .slice sz x lo hi mx=>ob (Dg env x) fun vx=>ob (Li env lo) fun l=>ob (Li env hi) fun h=>ob (Li env mx) fun m=>dA (Ql s sz vx l h m)
 | .len x=>ob (Dg env x) fun vx=>ov (dR vx) s
 | .UT x=>ob (Dg env x) fun vx=>ov (We s vx) s
 | .Vy x i=>ob (Dg env x) fun vx=>ob (Dg env i) fun vi=>ov (Wd vx vi) s
 | .str x=>ob (Dg env x) fun vx=>ov (gu s vx) s
 | .append sz b x y=>ob (Dg env x) fun vx=>ob (Dg env y) fun vy=>dA (Mn b s sz vx vy)
 | .copy sz x y=>ob (Dg env x) fun vx=>ob (Dg env y) fun vy=>dA (Wf s sz vx vy)
 | .V1 x y=>ob (Dg env x) fun vx=>ob (Dg env y) fun vy=>match vx,vy with| .i ka a,.i kb b=>bif decide (ka=kb)then some (.ret (.i ka (bif Nn a b then b else a)),s)else none|_,_=>none
 | .V0 x y=>ob (Dg env x) fun vx=>ob (Dg env y) fun vy=>match vx,vy with| .i ka a,.i kb b=>bif decide (ka=kb)then some (.ret (.i ka (bif Nn b a then b else a)),s)else none|_,_=>none
 | .extract i x=>ob (Dg env x) fun vx=>match vx with| .t vs=>ov (vs[i]?) s|_=>none
 | .JU x=>ob (Dg env x) fun vx=>ov (N9 vx) s
 | .gI f first cap=>ob (PV env first) fun vf=>ob (PV env cap) fun vc=>bif N2 f then some (.ret (.f f vf vc),s)else none
 | .O0 t x=>ob (Dg env x) fun vx=>some (.ret (.FV t vx),s)
 | .gF t z ok x=>ob (Dg env x) fun vx=>ov (gr t z ok vx) s
 | .panic x=>ob (Dg env x) fun vx=>match vx with| .FV t v=>some (.Bk (.FV t v),s)|_=>none
 | .call f args=>ob (PV env args) fun vs=>cf f vs s
 | .nj len neg x y=>ob (Dg env x) fun vx=>ob (Dg env y) fun vy=>ov (gx len neg vx vy) s
 | .gK kind neg x=>ob (Dg env x) fun vx=>ov (gw kind neg vx) s
 | .GZ sz _ z x y=>ob (Dg env x) fun vx=>ob (Dg env y) fun vy=>dA (KF s sz z vx vy)
 | .Oz=>s.new (.map []) fun i s'=>some (.ret (.m i),s')
 | .lookup ks z ok m key=>ob (Dg env m) fun vm=>ob (Dg env key) fun vk=>ov (Ml s ks z ok vm vk) s
 | .Em ks m key x=>ob (Dg env m) fun vm=>ob (Dg env key) fun vk=>ob (Dg env x) fun vx=>os (Mk s ks vm vk vx)
 | .MW f args=>ob (PV env args) fun vs=>ov (cp f vs) s
 | .J7 x args=>ob (Dg env x) fun vx=>ob (PV env args) fun vs=>cv vx vs s
 | .inv tab x args=>ob (Dg env x) fun vx=>ob (PV env args) fun vs=>match vx with| .FV t v=>ob (look t tab) fun f=>cf f (v::vs) s|_=>none
 | _=>none
def qg {t:TypeId} {z:V} {ok:Bool} {x x' v:V} (h:gr t z ok x=some v) (hx:RV Y x x') {K:V->Prop} (U: ∀v',RV Y v v'->K v') :
    match(generalizing:=false) x' with
     | .FV t' v=>(t'=t->K (bif ok then .t [v,.b true]else v))/\(t'≠t->ok=true/\K (.t [z,.b false]))
     | .D0=>ok=true/\K (.t [z,.b false])
     | _=>False:=by
 have zz: ∀ {v},BL z=true->some (V.t [z,.b false])=some v->K (.t [z,.b false])->K v:=fun _ e k=>by cases e;exact k
 unfold gr at h;split at h
 .rename_i t' u
  obtain⟨u',h1,rfl⟩:=hx;refine⟨fun e=>?_,fun e=>?_⟩
  .subst e
   rw[Nat.beq_refl]at h;cases h;cases ok with
   | true=>exact U _ (by simp only[cond_true,RV];exact⟨_,Bi.2 (F2.cons h1 (F2.cons (RV.pure _ rfl) F2.nil)),rfl⟩)
   | false=>exact U _ h1
  .have hb:Nat.beq t' t=false:=by
    cases hb:Nat.beq t' t with
    | false=>rfl
    | true=>exact absurd (C7 hb) e
   rw[hb]at h;obtain⟨h2,h3⟩:=AW h;simp only[A9]at h2;cases h3;exact⟨h2.1,U _ (by simp only[RV];exact⟨_,Bi.2 (F2.cons (RV.pure _ h2.2) (F2.cons (RV.pure _ rfl) F2.nil)),rfl⟩)⟩
 .simp only[RV]at hx
  subst hx;obtain⟨h2,h3⟩:=AW h;simp only[A9]at h2;cases h3;exact⟨h2.1,U _ (by simp only[RV];exact⟨_,Bi.2 (F2.cons (RV.pure _ h2.2) (F2.cons (RV.pure _ rfl) F2.nil)),rfl⟩)⟩
 .cases h
def fT {x x' v:V} (h:N9 x=some v) (hx:RV Y x x') {K:V->Prop} (U: ∀v',RV Y v v'->K v') :
    match(generalizing:=false) x' with
     | .p n off=>K (.p n off)
     | .rp cs=>K (.rp cs)
     | .pe n sz i off=>K (.pe n sz i off)
     | .f (.func f) first cap=>K (.f (.func f) first cap)
     | .f (.yield l) first cap=>K (.f (.yield l) first cap)
     | _=>False:=by
 have hv:v=x:=by unfold N9 at h;split at h<;>cases h<;>rfl
 subst hv;have hk:=U _ hx;unfold N9 at h;split at h
 .obtain⟨_,_,rfl⟩:=hx;exact hk
 .obtain⟨_,_,rfl⟩:=hx;exact hk
 .obtain⟨_,_,rfl⟩:=hx;exact hk
 .obtain⟨fn,a,b,h1,_,_,rfl⟩:=hx
  simp only[dF]at h1;subst h1;exact hk
 .obtain⟨fn,a,b,h1,_,_,rfl⟩:=hx
  obtain⟨m,_,rfl⟩:=h1;exact hk
 .cases h
def je {cf:CF} {cv:CV} {cp:CP} (hcf:Lq P cf) (hcv:Kj P cv) (hcp:OI P cp) {o:GO} {s s':St} {r:R} (h:GN cf cv cp o env s=some (r,s')) (he:RE Y env env₀) (hs:SR P Y s Z) {k kp:V->AE->Prop}
    (hk: ∀Y' r' Z',Y.le Y'->rW Y' r r'->SR P Y' s' Z'->qk k kp r' Z'):Fw P o env₀ Z k kp:=by
 have hv: ∀ {v:V},r= .ret v->s'=s-> ∀v',RV Y v v'->k v' Z:=fun e1 e2 v' g=>by
  subst e1;subst e2;exact hk Y (.ret v') Z (.refl _) ⟨v',g,rfl⟩ hs
 have hvs: ∀ {v:V},r= .ret v-> ∀v' Z',RV Y v v'->SR P Y s' Z'->k v' Z':=fun e1 v' Z' g g2=>by
  subst e1;exact hk Y (.ret v') Z' (.refl _) ⟨v',g,rfl⟩ g2
 have hvr: ∀ {v:V},r= .ret v-> ∀Y' v' Z',Y.le Y'->RV Y' v v'->SR P Y' s' Z'->k v' Z':=fun e1 Y' v' Z' g0 g g2=>by
  subst e1;exact hk Y' (.ret v') Z' g0 ⟨v',g,rfl⟩ g2
 have hu: ∀ {o1:Option St},os o1=some (r,s')->o1=some s'/\ ∀Z',SR P Y s' Z'->k (.t []) Z':=fun h=>by
  obtain⟨h1,h2⟩:=pH h;subst h2;exact⟨h1,fun Z' h3=>hk Y (.ret (.t [])) Z' (.refl _) ⟨_,RV.pure _ rfl,rfl⟩ h3⟩
 cases o<;>simp only[GN]at h<;>simp only[Fw]
 case mv x=>
  obtain⟨v,h1,h2,h3⟩:=Ce h;obtain⟨v',e1,e2⟩:=Av he h1;rw[e1];exact hv h2 h3 _ e2
 case nf x=>
  obtain⟨v,h1,h2,h3⟩:=Ce h;obtain⟨v',e1,e2⟩:=Av he h1;rw[e1];exact⟨v',Z,Sub.refl _,.refl _,hv h2 h3 _ e2⟩
 case pick c a b=>
  replace h:=AT h;obtain⟨vc,h1,h⟩:=h;replace h:=AT h;obtain⟨va,h2,h⟩:=h;replace h:=AT h;obtain⟨vb,h3,h⟩:=h;obtain⟨vc',e1,r1⟩:=Av he h1;obtain⟨va',e2,r2⟩:=Av he h2;obtain⟨vb',e3,r3⟩:=Av he h3;rw[e1,e2,e3];simp only[wv];split at h
  .rename_i t
   simp only[RV]at r1;subst r1;cases h;have hh:=hv rfl rfl (bif t then va' else vb') (by cases t;exact r3;exact r2);cases t<;>cases va'<;>first|exact hh|(cases vb'<;>exact hh)
  .cases h
 case bin op x y=>
  replace h:=AT h;obtain⟨vx,h1,h⟩:=h;replace h:=AT h;obtain⟨vy,h2,h⟩:=h;obtain⟨v,h3,h4,h5⟩:=Ce h;obtain⟨vx',e1,r1⟩:=Av he h1;obtain⟨vy',e2,r2⟩:=Av he h2;obtain⟨p1,p2,p3,p4⟩:=qm h3;rw[e1,e2,RV.ni r1 p1,RV.ni r2 p2];exact p4 (fun v=>k v Z) (hv h4 h5 _ (RV.pure _ p3))
 case nk neg x y=>
  replace h:=AT h;obtain⟨vx,h1,h⟩:=h;replace h:=AT h;obtain⟨vy,h2,h⟩:=h;obtain⟨vx',e1,r1⟩:=Av he h1;obtain⟨vy',e2,r2⟩:=Av he h2;rw[e1,e2];split at h
  .simp only[RV]at r1 r2
   subst r1;subst r2;cases h;exact hv rfl rfl _ (RV.pure _ rfl)
  .cases h
 case not x=>
  replace h:=AT h;obtain⟨vx,h1,h⟩:=h;obtain⟨vx',e1,r1⟩:=Av he h1;rw[e1];split at h
  .simp only[RV]at r1
   subst r1;cases h;exact hv rfl rfl _ (RV.pure _ rfl)
  .cases h
 case neg xor x=>
  replace h:=AT h;obtain⟨vx,h1,h⟩:=h;obtain⟨vx',e1,r1⟩:=Av he h1;rw[e1];split at h
  .simp only[RV]at r1
   subst r1;cases h;exact hv rfl rfl _ (RV.pure _ rfl)
  .cases h
 case conv ka x=>
  replace h:=AT h;obtain⟨vx,h1,h⟩:=h;obtain⟨vx',e1,r1⟩:=Av he h1;rw[e1];split at h
  .simp only[RV]at r1
   subst r1;cases h;have:=hv rfl rfl _ (RV.pure _ rfl);rw[J9]at this;exact this
  .cases h
 case box x=>
  replace h:=AT h;obtain⟨vx,h1,h⟩:=h;replace h:=AT h;obtain⟨cs,h2,h⟩:=h;obtain⟨vx',e1,r1⟩:=Av he h1;obtain⟨cs',e2,r2⟩:=G4 h2 r1;obtain⟨h3,h4⟩:=St.Iq h;cases h4;rw[e1];simp only[wv,e2];intro n hn;obtain⟨Y',q1,q2,q3⟩:=hs.new h3 hn 0 (o:= .cs cs) (o':= .cs cs') ⟨_,r2,rfl⟩;exact hvr rfl Y' _ _ q1 (by simp only[RV];exact⟨_,q2,rfl⟩) q3
 case Pa x=>
  replace h:=AT h;obtain⟨vx,h1,h⟩:=h;replace h:=AT h;obtain⟨cs,h2,h⟩:=h;obtain⟨vx',e1,r1⟩:=Av he h1;obtain⟨cs',e2,r2⟩:=G4 h2 r1;cases h;rw[e1];simp only[wv,e2];exact hv rfl rfl _ (by simp only[RV];exact⟨_,Bi.2 r2,rfl⟩)
 case Sl sz b x y=>
  replace h:=AT h;obtain⟨vx,h1,h⟩:=h;replace h:=AT h;obtain⟨vy,h2,h⟩:=h;obtain⟨v,h3,h4,h5⟩:=Ce h;obtain⟨vx',e1,r1⟩:=Av he h1;obtain⟨vy',e2,r2⟩:=Av he h2;rw[e1,e2];exact mX hs h3 r1 r2 (hv h4 h5)
 case alloc z=>
  replace h:=AW h;obtain⟨h0,h⟩:=h;obtain⟨h3,h4⟩:=St.Iq h;cases h4;intro n hn;obtain⟨Y',q1,q2,q3⟩:=hs.new h3 hn 0 (o:= .cs z) (o':= .cs z) ⟨_,Bi.1 (RL.pure z h0),rfl⟩;exact hvr rfl Y' _ _ q1 (by simp only[RV];exact⟨_,q2,rfl⟩) q3
 case build z parts=>
  replace h:=AW h;obtain⟨h0,h⟩:=h;replace h:=AT h;obtain⟨cs,h1,h⟩:=h;cases h;obtain⟨cs',e1,r1⟩:=T0 he h1 (Bi.1 (RL.pure z h0));rw[e1];exact hv rfl rfl _ (by simp only[RV];exact⟨_,Bi.2 r1,rfl⟩)
 case Hs b len z parts=>
  replace h:=AW h;obtain⟨h0,h⟩:=h;replace h:=AT h;obtain⟨cs,h1,h⟩:=h;cases h;obtain⟨cs',e1,r1⟩:=T1 he h1 (F2.rep (Bi.1 (RL.pure z h0)) len);rw[e1];exact hv rfl rfl _ (by simp only[RV];exact⟨_,F9.2 r1,rfl⟩)
 case load agg x=>
  replace h:=AT h;obtain⟨vx,h1,h⟩:=h;obtain⟨v,h3,h4,h5⟩:=Ce h;obtain⟨vx',e1,r1⟩:=Av he h1;rw[e1];exact Xb hs h3 r1 (hv h4 h5)
 case store sz a x=>
  replace h:=AT h;obtain⟨vx,h1,h⟩:=h;replace h:=AT h;obtain⟨vy,h2,h⟩:=h;obtain⟨vx',e1,r1⟩:=Av he h1;obtain⟨vy',e2,r2⟩:=Av he h2;obtain⟨h3,h4⟩:=hu h;rw[e1,e2];exact fR hs h3 r1 r2 h4
 case GS off x=>
  replace h:=AT h;obtain⟨vx,h1,h⟩:=h;obtain⟨v,h3,h4,h5⟩:=Ce h;obtain⟨vx',e1,r1⟩:=Av he h1;rw[e1];exact fW h3 r1 (hv h4 h5)
 case field agg off x=>
  replace h:=AT h;obtain⟨vx,h1,h⟩:=h;obtain⟨vx',e1,r1⟩:=Av he h1;rw[e1];split at h
  .obtain⟨v,h3,h4,h5⟩:=Ce h
   obtain⟨c,g1,rfl⟩:=r1;exact Mm h3 (Bi.1 g1) (hv h4 h5)
  .cases h
 case MQ sz arr x i=>
  replace h:=AT h;obtain⟨vx,h1,h⟩:=h;replace h:=AT h;obtain⟨vy,h2,h⟩:=h;obtain⟨v,h3,h4,h5⟩:=Ce h;obtain⟨vx',e1,r1⟩:=Av he h1;obtain⟨vy',e2,r2⟩:=Av he h2;rw[e1,e2];exact fV h3 r1 r2 (hv h4 h5)
 case index len sz agg x i=>
  replace h:=AT h;obtain⟨vx,h1,h⟩:=h;replace h:=AT h;obtain⟨vy,h2,h⟩:=h;obtain⟨v,h3,h4,h5⟩:=Ce h;obtain⟨vx',e1,r1⟩:=Av he h1;obtain⟨vy',e2,r2⟩:=Av he h2;rw[e1,e2];exact fU h3 r1 r2 (hv h4 h5)
 case slice sz x lo hi mx=>
  replace h:=AT h;obtain⟨vx,h1,h⟩:=h;replace h:=AT h;obtain⟨l,h2,h⟩:=h;replace h:=AT h;obtain⟨hh,h3,h⟩:=h;replace h:=AT h;obtain⟨m,h4,h⟩:=h;obtain⟨v,h5,h6⟩:=M6 h;obtain⟨vx',e1,r1⟩:=Av he h1;obtain⟨l',e2,r2⟩:=OT he h2;obtain⟨hh',e3,r3⟩:=OT he h3;obtain⟨m',e4,r4⟩:=OT he h4;rw[e1,e2,e3,e4];exact fS hs h5 r1 r2 r3 r4 (hvr h6)
 case len x=>
  replace h:=AT h;obtain⟨vx,h1,h⟩:=h;obtain⟨v,h3,h4,h5⟩:=Ce h;obtain⟨vx',e1,r1⟩:=Av he h1;rw[e1];exact qi h3 r1 (hv h4 h5)
 case UT x=>
  replace h:=AT h;obtain⟨vx,h1,h⟩:=h;obtain⟨v,h3,h4,h5⟩:=Ce h;obtain⟨vx',e1,r1⟩:=Av he h1;rw[e1];exact mV hs h3 r1 (hv h4 h5)
 case Vy x i=>
  replace h:=AT h;obtain⟨vx,h1,h⟩:=h;replace h:=AT h;obtain⟨vi,h2,h⟩:=h;obtain⟨v,h3,h4,h5⟩:=Ce h;obtain⟨vx',e1,r1⟩:=Av he h1;obtain⟨vi',e2,r2⟩:=Av he h2;rw[e1,e2];exact mU h3 r1 r2 (hv h4 h5)
 case str x=>
  replace h:=AT h;obtain⟨vx,h1,h⟩:=h;obtain⟨v,h3,h4,h5⟩:=Ce h;obtain⟨vx',e1,r1⟩:=Av he h1;rw[e1];exact qh hs h3 r1 (hv h4 h5)
 case append sz b x y=>
  replace h:=AT h;obtain⟨vx,h1,h⟩:=h;replace h:=AT h;obtain⟨vy,h2,h⟩:=h;obtain⟨v,h3,h4⟩:=M6 h;obtain⟨vx',e1,r1⟩:=Av he h1;obtain⟨vy',e2,r2⟩:=Av he h2;rw[e1,e2];exact Zy hs h3 r1 r2 (hvr h4)
 case copy sz x y=>
  replace h:=AT h;obtain⟨vx,h1,h⟩:=h;replace h:=AT h;obtain⟨vy,h2,h⟩:=h;obtain⟨v,h3,h4⟩:=M6 h;obtain⟨vx',e1,r1⟩:=Av he h1;obtain⟨vy',e2,r2⟩:=Av he h2;rw[e1,e2];exact mW hs h3 r1 r2 (hvs h4)
 case V1 x y=>
  replace h:=AT h;obtain⟨vx,h1,h⟩:=h;replace h:=AT h;obtain⟨vy,h2,h⟩:=h;obtain⟨vx',e1,r1⟩:=Av he h1;obtain⟨vy',e2,r2⟩:=Av he h2;rw[e1,e2];split at h
  .rename_i ka a kb b
   simp only[RV]at r1 r2;subst r1;subst r2;obtain⟨h3,h4⟩:=AW h;cases h4;refine⟨of_decide_eq_true h3,?_⟩;have:=hv rfl rfl _ (RV.pure _ rfl);rw[Qi]at this;by_cases e:a<b
   .rw[if_pos e];rw[decide_eq_true e]at this;exact this
   .rw[if_neg e];rw[decide_eq_false e]at this;exact this
  .cases h
 case V0 x y=>
  replace h:=AT h;obtain⟨vx,h1,h⟩:=h;replace h:=AT h;obtain⟨vy,h2,h⟩:=h;obtain⟨vx',e1,r1⟩:=Av he h1;obtain⟨vy',e2,r2⟩:=Av he h2;rw[e1,e2];split at h
  .rename_i ka a kb b
   simp only[RV]at r1 r2;subst r1;subst r2;obtain⟨h3,h4⟩:=AW h;cases h4;refine⟨of_decide_eq_true h3,?_⟩;have:=hv rfl rfl _ (RV.pure _ rfl);rw[Qi]at this;by_cases e:b<a
   .rw[if_pos e];rw[decide_eq_true e]at this;exact this
   .rw[if_neg e];rw[decide_eq_false e]at this;exact this
  .cases h
 case extract i x=>
  replace h:=AT h;obtain⟨vx,h1,h⟩:=h;obtain⟨vx',e1,r1⟩:=Av he h1;rw[e1];split at h
  .obtain⟨v,h3,h4,h5⟩:=Ce h
   obtain⟨c,g1,rfl⟩:=r1;obtain⟨y,g2,g3⟩:=(Bi.1 g1).get h3;simp only[wv,g2];exact hv h4 h5 _ g3
  .cases h
 case JU x=>
  replace h:=AT h;obtain⟨vx,h1,h⟩:=h;obtain⟨v,h3,h4,h5⟩:=Ce h;obtain⟨vx',e1,r1⟩:=Av he h1;rw[e1];exact fT (K:=fun v=>k v Z) h3 r1 (hv h4 h5)
 case gI f first cap=>
  replace h:=AT h;obtain⟨vf,h1,h⟩:=h;replace h:=AT h;obtain⟨vc,h2,h⟩:=h;obtain⟨h3,h4⟩:=AW h;cases h4;obtain⟨vf',e1,r1⟩:=I1 he h1;obtain⟨vc',e2,r2⟩:=I1 he h2;rw[e1,e2];refine hv rfl rfl _ ?_;simp only[RV];exact⟨f,vf',vc',by cases f<;>first|rfl|(simp[N2]at h3),Bi.2 r1,Bi.2 r2,rfl⟩
 case O0 t x=>
  replace h:=AT h;obtain⟨vx,h1,h⟩:=h;cases h;obtain⟨vx',e1,r1⟩:=Av he h1;rw[e1];exact hv rfl rfl _ (by simp only[RV];exact⟨_,r1,rfl⟩)
 case gF t z ok x=>
  replace h:=AT h;obtain⟨vx,h1,h⟩:=h;obtain⟨v,h3,h4,h5⟩:=Ce h;obtain⟨vx',e1,r1⟩:=Av he h1;rw[e1];exact qg (K:=fun v=>k v Z) h3 r1 (hv h4 h5)
 case panic x=>
  replace h:=AT h;obtain⟨vx,h1,h⟩:=h;obtain⟨vx',e1,r1⟩:=Av he h1;rw[e1];split at h
  .rename_i t v
   obtain⟨v',g1,rfl⟩:=r1;cases h;exact hk Y (.Bk (.FV t v')) Z (.refl _) ⟨_,by simp only[RV];exact⟨v',g1,rfl⟩,rfl⟩ hs
  .cases h
 case call f args=>
  replace h:=AT h;obtain⟨vs,h1,h⟩:=h;obtain⟨vs',e1,r1⟩:=I1 he h1;rw[e1];exact hcf f vs s r s' h Y vs' Z r1 hs _ hk
 case nj len neg x y=>
  replace h:=AT h;obtain⟨vx,h1,h⟩:=h;replace h:=AT h;obtain⟨vy,h2,h⟩:=h;obtain⟨v,h3,h4,h5⟩:=Ce h;obtain⟨vx',e1,r1⟩:=Av he h1;obtain⟨vy',e2,r2⟩:=Av he h2;rw[e1,e2];exact ql h3 r1 r2 (hv h4 h5)
 case gK kind neg x=>
  replace h:=AT h;obtain⟨vx,h1,h⟩:=h;obtain⟨v,h3,h4,h5⟩:=Ce h;obtain⟨vx',e1,r1⟩:=Av he h1;rw[e1];exact qj h3 r1 (hv h4 h5)
 case GZ sz b z x y=>
  replace h:=AT h;obtain⟨vx,h1,h⟩:=h;replace h:=AT h;obtain⟨vy,h2,h⟩:=h;obtain⟨v,h3,h4⟩:=M6 h;obtain⟨vx',e1,r1⟩:=Av he h1;obtain⟨vy',e2,r2⟩:=Av he h2;rw[e1,e2];exact YQ hs h3 r1 r2 (hvr h4)
 case Oz=>
  obtain⟨h3,h4⟩:=St.Iq h;cases h4;intro n hn;obtain⟨Y',q1,q2,q3⟩:=hs.new h3 hn 0 (o:= .map []) (o':= .map []) ⟨[],F2.nil,rfl⟩;exact hvr rfl Y' _ _ q1 (by simp only[RV];exact⟨_,q2,rfl⟩) q3
 case lookup ks z ok m key=>
  replace h:=AT h;obtain⟨vx,h1,h⟩:=h;replace h:=AT h;obtain⟨vy,h2,h⟩:=h;obtain⟨v,h3,h4,h5⟩:=Ce h;obtain⟨vx',e1,r1⟩:=Av he h1;obtain⟨vy',e2,r2⟩:=Av he h2;rw[e1,e2];exact Zx hs h3 r1 r2 (hv h4 h5)
 case Em ks m key x=>
  replace h:=AT h;obtain⟨vx,h1,h⟩:=h;replace h:=AT h;obtain⟨vy,h2,h⟩:=h;replace h:=AT h;obtain⟨vz,h3,h⟩:=h;obtain⟨vx',e1,r1⟩:=Av he h1;obtain⟨vy',e2,r2⟩:=Av he h2;obtain⟨vz',e3,r3⟩:=Av he h3;obtain⟨h4,h5⟩:=hu h;rw[e1,e2,e3];exact Zw hs h4 r1 r2 r3 h5
 case MW f args=>
  replace h:=AT h;obtain⟨vs,h1,h⟩:=h;obtain⟨v,h3,h4,h5⟩:=Ce h;obtain⟨vs',e1,r1⟩:=I1 he h1;obtain⟨p1,p2,p3⟩:=hcp f vs v h3;rw[e1,oH r1 p1];exact⟨v,p3,hv h4 h5 _ (RV.pure _ p2)⟩
 case J7 x args=>
  replace h:=AT h;obtain⟨vx,h1,h⟩:=h;replace h:=AT h;obtain⟨vs,h2,h⟩:=h;obtain⟨vx',e1,r1⟩:=Av he h1;obtain⟨vs',e2,r2⟩:=I1 he h2;rw[e1,e2];exact hcv vx vs s r s' h Y vx' vs' Z r1 r2 hs _ hk
 case inv tab x args=>
  replace h:=AT h;obtain⟨vx,h1,h⟩:=h;replace h:=AT h;obtain⟨vs,h2,h⟩:=h;obtain⟨vx',e1,r1⟩:=Av he h1;obtain⟨vs',e2,r2⟩:=I1 he h2;rw[e1,e2];split at h
  .rename_i t v
   obtain⟨v',g1,rfl⟩:=r1;obtain⟨f,h3,h4⟩:=AT h;simp only[wv,ws,A0,h3];exact hcf f (v::vs) s r s' h4 Y (v'::vs') Z (F2.cons g1 r2) hs _ hk
  .cases h
 all_goals cases h
end Go.Gl
namespace Go.Gl
variable {P:Program} {Y Y':Ren} {Z:AE} {env env₀:Env}
def Jk (cf:CF) (cv:CV) (cp:CP) (o:Ar) (env:Env) (s:St):Option (R×St):=
 match o.guard with
 | none=>GN cf cv cp o.op env s
 | some (g,b)=>match get g env with
   | some (.b t)=>bif t==b then GN cf cv cp o.op env s else some (.ret (.t []),s)
   | some (.t [])=>some (.ret (.t []),s)
   | _=>none
def Mi {cf:CF} {cv:CV} {cp:CP} (hcf:Lq P cf) (hcv:Kj P cv) (hcp:OI P cp) {o:Ar} {s s':St} {r:R} (h:Jk cf cv cp o env s=some (r,s')) (he:RE Y env env₀) (hs:SR P Y s Z) {k kp:V->AE->Prop}
    (hk: ∀Y' r' Z',Y.le Y'->rW Y' r r'->SR P Y' s' Z'->qk k kp r' Z'):Im P o env₀ Z k kp:=by
 unfold Jk at h;unfold Im
 have skip:some (R.ret (.t []),s)=some (r,s')->k (.t []) Z:=fun e=>by
  cases e;exact hk Y (.ret (.t [])) Z (.refl _) ⟨_,RV.pure _ rfl,rfl⟩ hs
 split at h
 .rename_i hg
  rw[hg];exact je hcf hcv hcp h he hs hk
 .rename_i g b hg
  rw[hg];split at h
  .rename_i t ht
   obtain⟨v',h1,h2⟩:=he.get ht;simp only[RV]at h2;subst h2;simp only[h1];refine⟨fun e=>?_,fun e=>?_⟩
   .subst e
    rw[beq_self_eq_true]at h;exact je hcf hcv hcp h he hs hk
   .subst e
    have:((!b)==b)=false:=by cases b<;>rfl
    rw[this]at h;exact skip h
  .rename_i ht
   obtain⟨v',h1,h2⟩:=he.get ht;have e:=RV.ni h2 rfl;subst e;simp only[h1];exact skip h
  .cases h
def It {β:Type} (v:V) (K:V->β):β:=
 match v with
 | .i k (.ofNat 0)=>K (.i k (.ofNat 0))
 | .i k (.ofNat (m+1))=>K (.i k (.ofNat (m+1)))
 | .i k (.negSucc 0)=>K (.i k (.negSucc 0))
 | .i k (.negSucc (m+1))=>K (.i k (.negSucc (m+1)))
 | .b true=>K (.b true)
 | .b false=>K (.b false)
 | v=>K v
def Ia {β:Type} (v:V) (K:V->β):It v K=K v:=by
 unfold It;split<;>rfl
abbrev Rs:=Option (Ac×Env×St)
def WA (cf:CF) (cv:CV) (cp:CP):List Ar->Env->St->Rs
 | [],env,s=>some (.normal,env,s)
 | o::r,env,s=>match Jk cf cv cp o env s with
   | some (.ret v,s')=>It v fun v=>WA cf cv cp r (put o.dst v env) s'
   | some (.Bk v,s')=>some (.Bk v,env,s')
   | none=>none
def RE.put (h:RE Y env env₀) {v v':V} (hv:RV Y v v') (d:Option Nat):RE Y (Gl.put d v env) (Gl.put d v' env₀):=by
 cases d with
 | none=>exact h
 | some d=>exact F2.cons ⟨rfl,hv⟩ h
def RE.prune (h:RE Y env env₀): ∀l:List Nat,RE Y (Gl.prune l env) (Gl.prune l env₀)
 | []=>F2.nil
 | k ::r=>by
   simp only[Gl.prune];cases hg:Gl.get k env with
   | none=>rw[h.AAQ hg];exact RE.prune h r
   | some v=>
     obtain⟨v',h1,h2⟩:=h.get hg;rw[h1];exact F2.cons ⟨rfl,h2⟩ (RE.prune h r)
def RE.args: ∀ {vs vs':List V} {i:Nat},MG Y vs vs'->RE Y (BA i vs) (BA i vs')
 | [],_,_,h=>by cases h;exact F2.nil
 | _::_,_,i,⟨y,ys,h1,h2,e⟩=>by subst e;exact F2.cons ⟨rfl,h1⟩ (RE.args h2)
def RE.binds: ∀ {ps:List Nat} {vs vs':List V} {env env₀:Env},MG Y vs vs'->RE Y env env₀->RE Y (Et ps vs env) (Et ps vs' env₀)
 | [],vs,vs',_,_,_,he=>by cases vs<;>cases vs'<;>exact he
 | p::ps,[],_,_,_,h,he=>by cases h;exact he
 | p::ps,_::_,_,_,_,⟨y,ys,h1,h2,e⟩,he=>by subst e;simp only[Et];exact RE.binds h2 (RE.put he h1 (some p))
def cJ {cf:CF} {cv:CV} {cp:CP} (hcf:Lq P cf) (hcv:Kj P cv) (hcp:OI P cp): ∀ {ops:List Ar} {env env₀:Env} {Y:Ren} {Z:AE} {s s':St} {ex:Ac} {env':Env},WA cf cv cp ops env s=some (ex,env',s')->RE Y env env₀->SR P Y s Z->
    ∀ {K:Env->AE->Prop} {kp:Env->V->AE->Prop},(∀Y' env₁ Z',Y.le Y'->ex= .normal->RE Y' env' env₁->SR P Y' s' Z'->K env₁ Z')->(∀Y' v v' env₁ Z',Y.le Y'->ex= .Bk v->RV Y' v v'->RE Y' env' env₁->SR P Y' s' Z'->kp env₁ v' Z')->
    (∀id,ex≠ .exit id)/\ex≠ .ret/\Jw P ops K kp env₀ Z
 | [],env,env₀,Y,Z,s,s',ex,env',h,he,hs,K,kp,U,hp=>by cases h;exact⟨fun _ e=>(by cases e),fun e=>(by cases e),U Y _ _ (.refl _) rfl he hs⟩
 | o :: r, env,env₀,Y,Z,s,s',ex,env',h,he,hs,K,kp,U,hp=>by
   simp only[Jw]
   have h':(match Jk cf cv cp o env s with
    | some (.ret v,s')=>It v fun v=>WA cf cv cp r (put o.dst v env) s'
    | some (.Bk v,s')=>some (.Bk v,env,s')
    | none=>none)=some (ex,env',s'):=h
   split at h'
   .rename_i v s1 h1
    rw[Ia]at h'
    have base: ∀Y1 v' Z1,Y.le Y1->RV Y1 v v'->SR P Y1 s1 Z1->(∀id,ex≠ .exit id)/\ex≠ .ret/\Jw P r K kp (put o.dst v' env₀) Z1:=fun Y1 v' Z1 q1 q2 q3=>
     cJ hcf hcv hcp h' ((he.mono q1).put q2 o.dst) q3 (fun Y' e₁ Z' p1 p2 p3 p4=>U Y' e₁ Z' (q1.trans p1) p2 p3 p4) (fun Y' v v' e₁ Z' p1 p2 p3 p4 p5=>hp Y' v v' e₁ Z' (q1.trans p1) p2 p3 p4 p5)
    have hx : (∀id,ex≠ .exit id)/\ex≠ .ret:=by
     clear base U hp
     have gen: ∀(ops:List Ar) (env:Env) (s:St),WA cf cv cp ops env s=some (ex,env',s')->(∀id,ex≠ .exit id)/\ex≠ .ret:=by
      intro ops
      induction ops with
      | nil=>intro env s h;cases h;exact⟨fun _ e=>(by cases e),fun e=>(by cases e)⟩
      | cons o r ih=>
        intro env s h
        have h':(match Jk cf cv cp o env s with
         | some (.ret v,s')=>It v fun v=>WA cf cv cp r (put o.dst v env) s'
         | some (.Bk v,s')=>some (.Bk v,env,s')
         | none=>none)=some (ex,env',s'):=h
        split at h'
        .rw[Ia]at h';exact ih _ _ h'
        .cases h';exact⟨fun _ e=>(by cases e),fun e=>(by cases e)⟩
        .cases h'
     exact gen _ _ _ h'
    refine⟨hx.1,hx.2,Mi hcf hcv hcp h1 he hs fun Y1 r1 Z1 q1 q2 q3=>?_⟩;obtain⟨v',q4,rfl⟩:=q2;exact(base Y1 v' Z1 q1 q4 q3).2.2
   .rename_i v s1 h1
    cases h';refine⟨fun _ e=>(by cases e),fun e=>(by cases e),Mi hcf hcv hcp h1 he hs fun Y1 r1 Z1 q1 q2 q3=>?_⟩;obtain⟨v',q4,rfl⟩:=q2;exact hp Y1 v v' _ Z1 q1 rfl q4 (he.mono q1) q3
   .cases h'
def nV (cf:CF) (cv:CV) (cp:CP) (re:List Ar) (env:Env) (s:St):Bool:=
 re.all fun x=>match Jk cf cv cp x env s with
  | some (.ret u,_)=>match x.dst with
    | none=>true
    | some d=>match get d env with|some w=>FD u w|none=>false
  | _=>false
def S4 (cf:CF) (cv:CV) (cp:CP):List Cr->Env->St->Rs
 | [],env,s=>some (.normal,env,s)
 | d::r,env,s=>match Jk cf cv cp d.o env s with
   | some (.ret v,s')=>It v fun v=>bif nV cf cv cp d.re (put d.o.dst v env) s' then S4 cf cv cp r (put d.o.dst v env) s' else none
   | some (.Bk v,s')=>some (.Bk v,[],s')
   | none=>none
def jd {cf:CF} {cv:CV} {cp:CP} (hcf:Lq P cf) (hcv:Kj P cv) (hcp:OI P cp) {s:St} (he:RE Y env env₀) (hs:SR P Y s Z): ∀ {re:List Ar},nV cf cv cp re env s=true->EX P re env₀ Z
 | [],_=>trivial
 | x ::r,h=>by
   have h':((match Jk cf cv cp x env s with
    | some (.ret u,_)=>match x.dst with
      | none=>true
      | some d=>match get d env with|some w=>FD u w|none=>false
    | _=>false)&&nV cf cv cp r env s)=true:=h
   simp only[A9]at h';refine⟨?_,jd hcf hcv hcp he hs h'.2⟩;have h1:=h'.1;split at h1
   .rename_i u s1 hu
    refine Mi hcf hcv hcp hu he hs fun Y1 r1 Z1 q1 q2 q3=>?_
    obtain⟨u',q4,rfl⟩:=q2;intro d hd;rw[hd]at h1;simp only at h1;split at h1
    .rename_i w hw
     obtain⟨w',g1,g2⟩:=he.get hw;have e:=P9 _ _ h1;subst e;rw[g1,RV.fn u w' u' (RV.mono q1 _ _ g2) q4]
    .cases h1
   .cases h1
def RI {cf:CF} {cv:CV} {cp:CP} (hcf:Lq P cf) (hcv:Kj P cv) (hcp:OI P cp): ∀ {ops:List Cr} {env env₀:Env} {Y:Ren} {Z:AE} {s s':St} {ex:Ac} {env':Env},S4 cf cv cp ops env s=some (ex,env',s')->RE Y env env₀->SR P Y s Z->
    ∀ {K:Env->AE->Prop} {kp:V->AE->Prop},(∀Y' env₁ Z',Y.le Y'->ex= .normal->RE Y' env' env₁->SR P Y' s' Z'->K env₁ Z')->(∀Y' v v' Z',Y.le Y'->ex= .Bk v->env'= []->RV Y' v v'->SR P Y' s' Z'->kp v' Z')->
    Dc P ops K kp env₀ Z
 | [],env,env₀,Y,Z,s,s',ex,env',h,he,hs,K,kp,U,hp=>by cases h;exact U Y _ _ (.refl _) rfl he hs
 | d ::r,env,env₀,Y,Z,s,s',ex,env',h,he,hs,K,kp,U,hp=>by
   simp only[Dc]
   have h':(match Jk cf cv cp d.o env s with
    | some (.ret v,s')=>It v fun v=>bif nV cf cv cp d.re (put d.o.dst v env) s' then S4 cf cv cp r (put d.o.dst v env) s' else none
    | some (.Bk v,s')=>some (.Bk v,[],s')
    | none=>none)=some (ex,env',s'):=h
   split at h'
   .rename_i v s1 h1
    rw[Ia]at h';obtain⟨h2,h3⟩:=AW h';refine Mi hcf hcv hcp h1 he hs fun Y1 r1 Z1 q1 q2 q3=>?_
    obtain⟨v',q4,rfl⟩:=q2;have he':=(he.mono q1).put q4 d.o.dst;exact⟨jd hcf hcv hcp he' q3 h2,RI hcf hcv hcp h3 he' q3 (fun Y' e₁ Z' p1 p2 p3 p4=>U Y' e₁ Z' (q1.trans p1) p2 p3 p4) (fun Y' v v' Z' p1 p2 p3 p4 p5=>hp Y' v v' Z' (q1.trans p1) p2 p3 p4 p5)⟩
   .rename_i v s1 h1
    cases h';refine Mi hcf hcv hcp h1 he hs fun Y1 r1 Z1 q1 q2 q3=>?_
    obtain⟨v',q4,rfl⟩:=q2;exact hp Y1 v v' Z1 q1 rfl rfl q4 q3
   .cases h'
def La {α β:Type} (f:α->Option β):List α->Option (List β)
 | []=>some []
 | x::r=>ob (f x) fun y=>ob (La f r) fun ys=>some (y::ys)
def GG (s:St):Nat->V->Option V
 | 0,_=>none
 | d + 1,v=>bif BL v then some v else
   match v with
   | .p n 0=>match s.t.get n with
     | some (.cs vs)=>ob (La (GG s d) vs) fun us=>some (.rp us)
     | _=>none
   | .sl n len _=>match s.t.get n with
     | some (.arr _ es)=>bif Nat.beq len es.length then ob (La (La (GG s d)) es) fun us=>some (.l us false)else none
     | _=>none
   | .a cs=>ob (La (GG s d) cs) fun us=>some (.a us)
   | .t cs=>ob (La (GG s d) cs) fun us=>some (.t us)
   | .rp cs=>ob (La (GG s d) cs) fun us=>some (.rp us)
   | .l es f=>ob (La (La (GG s d)) es) fun us=>some (.l us f)
   | .FV t x=>ob (GG s d x) fun u=>some (.FV t u)
   | _=>none
def QN (s:St):Nat->V->List Nat
 | 0,_=>[]
 | d + 1,v=>bif BL v then []else
   match v with
   | .p n 0=>match s.t.get n with
     | some (.cs vs)=>n::vs.flatMap (QN s d)
     | _=>[]
   | .sl n _ _=>match s.t.get n with
     | some (.arr _ es)=>n::es.flatMap fun e=>e.flatMap (QN s d)
     | _=>[]
   | .a cs=>cs.flatMap (QN s d)
   | .t cs=>cs.flatMap (QN s d)
   | .rp cs=>cs.flatMap (QN s d)
   | .l es _=>es.flatMap fun e=>e.flatMap (QN s d)
   | .FV _ x=>QN s d x
   | _=>[]
def Qn (s:St):List Nat->St
 | []=>s
 | i::r=>match s.t.get i with
   | some _=>Tr.put none BD s.t i fun t=>Qn ⟨s.nx,t⟩ r
   | none=>Qn s r
def Oi: ∀ {l:List Nat} {s:St} {Z:AE},SR P Y s Z-> ∃Z',SR P Y (Qn s l) Z'/\Sub Z' Z/\ ∀i∈l,∀m,Y i=some m->(s.t.get i).isSome=true->Z' m.1=none
 | [],s,Z,h=>⟨Z,h,Sub.refl _,fun _ h=>by cases h⟩
 | i ::r,s,Z,h=>by
   simp only[Qn];split
   .rename_i o hg
    rw[Tr.put_eq];obtain⟨m,hm,_⟩:=h.get i o hg;obtain⟨Z',h1,h2,h3⟩:=Oi (l:=r) (h.del hg hm);have hsub:Sub (del Z m.1) Z:=GY Z m.1;refine⟨Z',h1,h2.trans hsub,fun j hj m' hm' hl=>?_⟩;by_cases e:j=i
    .subst e
     rw[hm]at hm';cases hm';exact h2.none (De Z m.1)
    .rcases GM.1 hj with e'|hj
     .exact absurd e' e
     .refine h3 j hj m' hm' ?_
      show((Tr.set none BD s.t i).get j).isSome=true;rw[Tr.EI _ _ _ (dM (h.lt hm)),if_neg e];exact hl
   .rename_i hg
    obtain⟨Z',h1,h2,h3⟩:=Oi (l:=r) h;refine⟨Z',h1,h2,fun j hj m' hm' hl=>?_⟩;rcases GM.1 hj with e'|hj
    .subst e';rw[hg]at hl;cases hl
    .exact h3 j hj m' hm' hl
def IL {f:V->Option V} {g:V->List Nat} {s:St} {Z Z':AE} (hf: ∀v v' u,f v=some u->RV Y v v'->(∀i∈g v,∀m,Y i=some m->(s.t.get i).isSome=true->Z' m.1=none)->F3 Z Z' v' u): ∀ {vs vs' us:List V},La f vs=some us->MG Y vs vs'->
    (∀i∈vs.flatMap g,∀m,Y i=some m->(s.t.get i).isSome=true->Z' m.1=none)->DW Z Z' vs' us
 | [],_,_,h,h',_=>by cases h;cases h';exact .nil
 | x::r,_,us,h,⟨y,ys,h1,h2,e⟩,hd=>by
   subst e;replace h:=AT h;obtain⟨u,h3,h⟩:=h;replace h:=AT h;obtain⟨us,h4,h⟩:=h;cases h;exact .cons (hf _ _ _ h3 h1 fun i hi=>hd i (by simp only[List.flatMap_cons,Dy];exact .inl hi)) (IL hf h4 h2 fun i hi=>hd i (by simp only[List.flatMap_cons,Dy];exact .inr hi))
def OY {f:V->Option V} {g:V->List Nat} {s:St} {Z Z':AE} (hf: ∀v v' u,f v=some u->RV Y v v'->(∀i∈g v,∀m,Y i=some m->(s.t.get i).isSome=true->Z' m.1=none)->F3 Z Z' v' u): ∀ {vs vs' us:List (List V)},La (La f) vs=some us->gM Y vs vs'->
    (∀i∈vs.flatMap (fun e=>e.flatMap g),∀m,Y i=some m->(s.t.get i).isSome=true->Z' m.1=none)->Fa Z Z' vs' us
 | [],_,_,h,h',_=>by cases h;cases h';exact .nil
 | x::r,_,us,h,⟨y,ys,h1,h2,e⟩,hd=>by
   subst e;replace h:=AT h;obtain⟨u,h3,h⟩:=h;replace h:=AT h;obtain⟨us,h4,h⟩:=h;cases h;exact .cons (IL hf h3 h1 fun i hi=>hd i (by simp only[List.flatMap_cons,Dy];exact .inl hi)) (OY hf h4 h2 fun i hi=>hd i (by simp only[List.flatMap_cons,Dy];exact .inr hi))
def RD {s : St} (hs:SR P Y s Z) {Z':AE}: ∀(d:Nat) (v v' u:V),GG s d v=some u->RV Y v v'->(∀i∈QN s d v,∀m,Y i=some m->(s.t.get i).isSome=true->Z' m.1=none)->F3 Z Z' v' u
 | 0,_,_,_,h,_,_=>by cases h
 | d + 1,v,v',u,h,hv,hd=>by
   have ih:=RD hs (Z':=Z') d;simp only[GG]at h;simp only[QN]at hd;cases hp:BL v with
   | true=>
     rw[hp]at h;cases h;rw[RV.ni hv hp];exact .refl _
   | false=>
     rw[hp]at h hd;simp only[cond_false]at h hd;split at h
     .obtain⟨m,g1,rfl⟩:=hv
      split at h
      .rename_i vs hg
       replace h:=AT h;obtain⟨us,h1,h⟩:=h;cases h;simp only[hg]at hd;obtain⟨o',g2,vs',g3,rfl⟩:=hs.at hg g1;exact .cs g2 (hd _ (.head _) m g1 (by rw[hg];rfl)) (IL ih h1 g3 fun i hi=>hd i (.tail _ hi))
      .cases h
     .obtain⟨m,g1,rfl⟩:=hv
      split at h
      .rename_i es hg
       replace h:=AW h;obtain⟨h0,h⟩:=h;replace h:=AT h;obtain⟨us,h1,h⟩:=h;cases h;simp only[hg]at hd;obtain⟨o',g2,es',g3,rfl⟩:=hs.at hg g1;exact .arr g2 (hd _ (.head _) m g1 (by rw[hg];rfl)) (by rw[g3.len];exact C7 h0) (OY ih h1 g3 fun i hi=>hd i (.tail _ hi))
      .cases h
     .replace h:=AT h;obtain⟨us,h1,h⟩:=h
      cases h;obtain⟨c,g1,rfl⟩:=hv;exact .a (IL ih h1 (Bi.1 g1) hd)
     .replace h:=AT h;obtain⟨us,h1,h⟩:=h
      cases h;obtain⟨c,g1,rfl⟩:=hv;exact .t (IL ih h1 (Bi.1 g1) hd)
     .replace h:=AT h;obtain⟨us,h1,h⟩:=h
      cases h;obtain⟨c,g1,rfl⟩:=hv;exact .rp (IL ih h1 (Bi.1 g1) hd)
     .replace h:=AT h;obtain⟨us,h1,h⟩:=h
      cases h;obtain⟨c,g1,rfl⟩:=hv;exact .l (fun e=>e) (OY ih h1 (F9.1 g1) hd)
     .replace h:=AT h;obtain⟨us,h1,h⟩:=h
      cases h;obtain⟨c,g1,rfl⟩:=hv;exact .FV (ih _ _ _ h1 g1 hd)
     .cases h
def vH {s:St} (hs:SR P Y s Z) (d:Nat) (v v' u:V) (h:GG s d v=some u) (hv:RV Y v v'):F3 Z emp v' u:=RD hs d v v' u h hv fun _ _ _ _ _=>rfl
def Gf {f:V->Option V} (hf: ∀v u,f v=some u->BL u=true): ∀ {vs us:List V},La f vs=some us->CM us=true
 | [],_,h=>by cases h;rfl
 | x::r,us,h=>by
   replace h:=AT h;obtain⟨u,h3,h⟩:=h;replace h:=AT h;obtain⟨us,h4,h⟩:=h;cases h;simp only[CM,hf _ _ h3,Gf hf h4,Bool.and_self]
def L2 {f:V->Option V} (hf: ∀v u,f v=some u->BL u=true): ∀ {vs us:List (List V)},La (La f) vs=some us->S0 us=true
 | [],_,h=>by cases h;rfl
 | x::r,us,h=>by
   replace h:=AT h;obtain⟨u,h3,h⟩:=h;replace h:=AT h;obtain⟨us,h4,h⟩:=h;cases h;simp only[S0,Gf hf h3,L2 hf h4,Bool.and_self]
def XT (s : St): ∀(d:Nat) (v u:V),GG s d v=some u->BL u=true
 | 0,_,_,h=>by cases h
 | d + 1,v,u,h=>by
   have ih:=XT s d;simp only[GG]at h;cases hp:BL v with
   | true=>rw[hp]at h;cases h;exact hp
   | false=>
     rw[hp]at h;simp only[cond_false]at h;split at h
     .split at h
      .replace h:=AT h;obtain⟨us,h1,h⟩:=h
       cases h;simp only[BL];exact Gf ih h1
      .cases h
     .split at h
      .replace h:=AW h;obtain⟨h0,h⟩:=h
       replace h:=AT h;obtain⟨us,h1,h⟩:=h;cases h;simp only[BL];exact L2 ih h1
      .cases h
     .replace h:=AT h;obtain⟨us,h1,h⟩:=h
      cases h;simp only[BL];exact Gf ih h1
     .replace h:=AT h;obtain⟨us,h1,h⟩:=h
      cases h;simp only[BL];exact Gf ih h1
     .replace h:=AT h;obtain⟨us,h1,h⟩:=h
      cases h;simp only[BL];exact Gf ih h1
     .replace h:=AT h;obtain⟨us,h1,h⟩:=h
      cases h;simp only[BL];exact L2 ih h1
     .replace h:=AT h;obtain⟨us,h1,h⟩:=h
      cases h;simp only[BL];exact ih _ _ h1
     .cases h
def V6:Nat:=60
def tX:Option (R×St)->Option (R×St)
 | some (.ret v,s)=>ob (GG s V6 v) fun u=>some (.ret u,Qn s (QN s V6 v))
 | r=>r
def Au.GG {f:FuncId} {args:List V} {Z:AE} {Q Q':R->AE->Prop} (h:Au P f args Z Q) (hq: ∀r Z',Q r Z'->(∃v vf Z'',r= .ret v/\Sub Z'' Z'/\F3 Z' Z'' v vf/\Q' (.ret vf) Z'')\/Q' r Z'):Au P f args Z Q':=
 ⟨h.1,fun F w cs h1 h2=>Calls.mono (h.2 F w cs h1 h2) fun e w' ⟨r,Z',q1,q2,q3,q4⟩=>by
  rcases hq r Z' q1 with⟨v,vf,Z'',rfl,p1,p2,p3⟩|h
  .obtain⟨c,rfl,q5⟩:=q2
   exact⟨.ret vf,Z'',p3,⟨c,rfl,p2.rel q3 p1 q5⟩,q3.drop p1,q4.trans (CD.drop w' p1)⟩
  .exact⟨r,Z',h,q2,q3,q4⟩⟩
inductive dG where
 | fn (n:Nat) (ac:AV) (AG:List RS)
 | dfr (n:Nat) (aA:AV) (ops:List Ar) (x:Bq) (aC:AV) (AG:List RS) (l1 l2:List Nat)
 | zq (n:Nat) (k:Nat) (ops:List Ar) (ac:AV) (l:List Nat)
 | fnz (n:Nat) (ac:AV) (AG:List RS)
 | dK (c:List V->St->Option (R×St))
 | pld (n:Nat) (ac:AV)
def Pc (P:Program) (f:FuncId):dG->Prop
 | .fn n ac AG=> ∀(args:List V) (Z:AE) (Q:R->AE->Prop),args.length<=n->T P ac (WK AG Q) (BA 0 args) Z->Au P f args Z Q
 | .fnz n ac AG=> ∀(args:List V) (Z:AE) (Q:R->AE->Prop),args.length<=n->T P ac (WK AG Q) (BA 0 args) Z->Au P f args Z Q
 | .dfr n aA ops x aC AG l1 l2=> ∀(args:List V) (Z:AE) (Q:R->AE->Prop),args.length<=n->T P (.seq l1 aA (.DB ops)) (Cd (QP P x l2 aC AG Q)) (BA 0 args) Z->Au P f args Z Q
 | .zq n k ops ac l=> ∀(args:List V) (m:Option V) (Z:AE) (Q:AE->Prop),args.length<=n->T P (.seq l (.DB ops) ac) (Pd Q) (put (some k) (m.getD .D0) (BA 0 args)) Z->H7 P f args m Z Q
 | .dK c=> ∀vs s r s',c vs s=some (r,s')-> ∀Y vs' Z,MG Y vs vs'->SR P Y s Z-> ∀Q:R->AE->Prop,(∀Y' r' Z',Y.le Y'->rW Y' r r'->SR P Y' s' Z'->Q r' Z')->Au P f vs' Z Q
 | .pld n ac=> ∀(args:List V) (Z:AE) (Q:AE->Prop),args.length<=n->T P ac (Pd Q) (BA 0 args) Z->H7 P f args none Z Q
abbrev K9:=FuncId->Option dG
def MY (P:Program) (tab:K9):Prop:= ∀f fs,tab f=some fs->Pc P f fs
abbrev FZ:=FuncId->List (List V×V)
def Ht (P:Program) (memo:FZ):Prop:= ∀f,∀m∈memo f,CM m.1=true/\BL m.2=true/\Pure P f m.1 m.2
def aF (s:St) (env:Env):List RS->Option (List V)
 | []=>some []
 | .t n::r=>ob (get n env) fun v=>ob (aF s env r) fun vs=>some (v::vs)
 | .c n g::r=>ob (get n env) fun a=>ob (O4 s g a) fun v=>ob (aF s env r) fun vs=>some (v::vs)
def N8 {s:St} (he:RE Y env env₀) (hs:SR P Y s Z): ∀ {l:List RS} {vs:List V},aF s env l=some vs-> ∀ {K:List V->Prop},(∀vs',MG Y vs vs'->K vs')->Vt Z env₀ l K
 | [],vs,h,K,U=>by cases h;exact U _ F2.nil
 | .t n::r,vs,h,K,U=>by
   replace h:=AT h;obtain⟨v,h1,h⟩:=h;replace h:=AT h;obtain⟨us,h2,h⟩:=h;cases h;obtain⟨v',e1,e2⟩:=he.get h1;simp only[Vt,e1,FJ];exact N8 he hs h2 fun us' hu=>U _ (F2.cons e2 hu)
 | .c n g::r,vs,h,K,U=>by
   replace h:=AT h;obtain⟨a,h1,h⟩:=h;replace h:=AT h;obtain⟨v,h3,h⟩:=h;replace h:=AT h;obtain⟨us,h2,h⟩:=h;cases h;obtain⟨v',e1,e2⟩:=he.get h1;simp only[Vt,e1,FJ];exact Xb hs h3 e2 fun w hw=>N8 he hs h2 fun us' hu=>U _ (F2.cons hw hu)
def Pq {vs vs':List V} (h:MG Y vs vs'):RV Y (FC vs) (FC vs'):=by
 match vs,vs',h with
 | [],_,h=>cases h;simp only[FC,RV];exact⟨[],Bi.2 F2.nil,rfl⟩
 | [v],_,⟨y,ys,h1,h2,e⟩=>cases h2;subst e;exact h1
 | v::u::r,_,⟨y,ys,h1,⟨z,zs,h2,h3,e⟩,e'⟩=>
   subst e;subst e';show RV Y (.t (v::u::r)) (.t (y::z::zs));simp only[RV];exact⟨_,Bi.2 (F2.cons h1 (F2.cons h2 h3)),rfl⟩
def dQ (AG:List RS) (r:Rs):Option (R×St):=
 match r with
 | some (.normal,env,s)=>ob (aF s env AG) fun vs=>some (.ret (FC vs),s)
 | some (.ret,env,s)=>ob (aF s env AG) fun vs=>some (.ret (FC vs),s)
 | some (.Bk v,_,s)=>some (.Bk v,s)
 | _=>none
def Ym (tab:K9) (ih:AV->Env->St->Rs) (g:FuncId) (cap:List V) (m:Option V) (AG:List RS) (env:Env) (s:St):Option (R×St):=
 match tab g with
 | some (.zq n k ops ac l)=>bif Nat.ble cap.length n then
  match ih (.seq l (.DB ops) ac) (put (some k) (m.getD .D0) (BA 0 cap)) s with
  | some (.normal,_,s')=>ob (aF s' env AG) fun vs=>some (.ret (FC vs),s')
  | some (.ret,_,s')=>ob (aF s' env AG) fun vs=>some (.ret (FC vs),s')
  | _=>none
   else none
 | some (.pld n ac)=>match m with
   | some _=>none
   | none=>bif Nat.ble cap.length n then
     match ih ac (BA 0 cap) s with
     | some (.normal,_,s')=>ob (aF s' env AG) fun vs=>some (.ret (FC vs),s')
     | some (.ret,_,s')=>ob (aF s' env AG) fun vs=>some (.ret (FC vs),s')
     | _=>none
   else none
 | _=>none
def S5 (tab:K9) (ih:AV->Env->St->Rs) (f:FuncId) (vs:List V) (s:St):Option (R×St):=
 match tab f with
 | some (.fn n ac AG)=>bif Nat.ble vs.length n then dQ AG (ih ac (BA 0 vs) s)else none
 | some (.dfr n aA ops x aC AG l1 l2)=>bif Nat.ble vs.length n then
  match ih (.seq l1 aA (.DB ops)) (BA 0 vs) s with
  | some (.normal,env,s1)=>match Dg env x with
    | some (.f (.func g) [] cap)=>match ih aC (prune l2 env) s1 with
      | some (.normal,env2,s2)=>Ym tab ih g cap none AG env2 s2
      | some (.ret,env2,s2)=>Ym tab ih g cap none AG env2 s2
      | some (.Bk v,env2,s2)=>Ym tab ih g cap (some v) AG env2 s2
      | _=>none
    | _=>none
  | _=>none
   else none
 | some (.fnz n ac AG)=>bif Nat.ble vs.length n then tX (dQ AG (ih ac (BA 0 vs) s))else none
 | some (.dK c)=>c vs s
 | _=>none
def WZ (vs:List V):List (List V×V)->Option V
 | []=>none
 | m::r=>bif Nw m.1 vs then some m.2 else WZ vs r
def Hr (tab:K9) (memo:FZ) (ih:AV->Env->St->Rs):CF:=fun f vs s=>
 match memo f with
 | []=>S5 tab ih f vs s
 | m::r=>match WZ vs (m::r)with
   | some v=>some (.ret v,s)
   | none=>S5 tab ih f vs s
def OE (tab:K9) (memo:FZ) (ih:AV->Env->St->Rs):CV:=fun x vs s=>
 match x with
 | .f (.func f) first cap=>Hr tab memo ih f (first++vs++cap) s
 | .f (.yield L) [] []=>match s.t.get L with
   | some (.loop .ready env ps a b)=>bif Nat.beq vs.length ps.length then
    Tr.put none BD s.t L fun t=>match ih a (Et ps vs env) ⟨s.nx,t⟩with
    | some (.normal,env1,s1)=>match ih b env1 s1 with
      | some (.normal,_,s2)=>Tr.put (some (.loop .ready env ps a b)) BD s2.t L fun t=>some (.ret (.b true),⟨s2.nx,t⟩)
      | some (.ret,_,s2)=>Tr.put (some (.loop .ret env ps a b)) BD s2.t L fun t=>some (.ret (.b false),⟨s2.nx,t⟩)
      | some (.exit id,_,s2)=>Tr.put (some (.loop (.exit id) env ps a b)) BD s2.t L fun t=>some (.ret (.b false),⟨s2.nx,t⟩)
      | some (.Bk v,_,s2)=>some (.Bk v,s2)
      | none=>none
    | _=>none
     else none
   | _=>none
 | _=>none
def Qe (tab:K9) (memo:FZ) (ih:AV->Env->St->Rs):CP:=fun f vs=>
 bif CM vs then match Hr tab memo ih f vs ⟨0,.leaf⟩with
  | some (.ret v,s)=>match GG s V6 v with
    | some u=>bif BL u then some u else none
    | none=>none
  | _=>none
 else none
def JY (tab:K9) (memo:FZ) (ih:AV->Env->St->Rs) (c:AV) (env:Env) (s:St):Rs:=
 match c with
 | .skip=>some (.normal,env,s)
 | .ret=>some (.ret,env,s)
 | .exit id=>some (.exit id,env,s)
 | .DB ops=>WA (Hr tab memo ih) (OE tab memo ih) (Qe tab memo ih) ops env s
 | .He l ops=>match S4 (Hr tab memo ih) (OE tab memo ih) (Qe tab memo ih) ops env s with
   | some (.normal,env',s')=>some (.normal,prune l env',s')
   | r=>r
 | .seq l a b=>match ih a env s with
   | some (.normal,env',s')=>ih b (prune l env') s'
   | r=>r
 | .cond c a b=>match Dg env c with
   | some (.b true)=>ih a env s
   | some (.b false)=>ih b env s
   | _=>none
 | .block id a=>match ih a env s with
   | some (.exit id',env',s')=>bif Nat.beq id' id then some (.normal,env',s')else some (.exit id',env',s')
   | r=>r
 | .scope a=>ih a env s
 | .loop l a=>match ih a (prune l env) s with
   | some (.normal,env',s')=>ih (.loop l a) env' s'
   | r=>r
 | .D8 l g ps a b=>match Dg env g with
   | some (.f (.func gf) [] cap)=>s.new (.loop .ready (prune l env) ps a b) fun i s1=>
    match Hr tab memo ih gf (.f (.yield i) [] []::cap) s1 with
    | some (.ret _,s2)=>match s2.t.get i with
      | some (.loop st _ _ _ _)=>Tr.put none BD s2.t i fun t=>some ((match st with| .ready=> .normal| .ret=> .ret| .exit id=> .exit id),env,⟨s2.nx,t⟩)
      | _=>none
    | some (.Bk v,s2)=>match s2.t.get i with
      | some _=>Tr.put none BD s2.t i fun t=>some (.Bk v,env,⟨s2.nx,t⟩)
      | none=>none
    | none=>none
   | _=>none
def run (tab:K9) (memo:FZ):Nat->AV->Env->St->Rs
 | 0,_,_,_=>none
 | n+1,c,env,s=>JY tab memo (run tab memo n) c env s
def S8 (P:Program) (ih:AV->Env->St->Rs):Prop:= ∀c env s ex env' s',ih c env s=some (ex,env',s')-> ∀Y env₀ Z,RE Y env env₀->SR P Y s Z->
 ∀Q:Ac->Env->AE->Prop,(∀Y' ex₀ env₁ Z',Y.le Y'->REx Y' ex ex₀->RE Y' env' env₁->SR P Y' s' Z'->Q ex₀ env₁ Z')->T P c Q env₀ Z
def REx.normal {ex:Ac} (h:REx Y .normal ex):ex= .normal:=h
def cI {AG:List RS} {ex:Ac} {env':Env} {s1 s':St} {r:R} (h:dQ AG (some (ex,env',s1))=some (r,s')) {Q:R->AE->Prop}
    (hQ: ∀Y' r' Z',Y.le Y'->rW Y' r r'->SR P Y' s' Z'->Q r' Z') {Y':Ren} {ex₀:Ac} {env₁:Env} {Z':AE} (q1:Y.le Y') (q2:REx Y' ex ex₀) (q3:RE Y' env' env₁) (q4:SR P Y' s1 Z'):WK AG Q ex₀ env₁ Z':=by
 cases ex with
 | normal=>
   cases q2;replace h:=AT h;obtain⟨vs,h1,h⟩:=h;cases h;exact N8 q3 q4 h1 fun vs' hv=>⟨_,Z',Sub.refl _,.refl _,hQ Y' _ Z' q1 ⟨_,Pq hv,rfl⟩ q4⟩
 | ret=>
   cases q2;replace h:=AT h;obtain⟨vs,h1,h⟩:=h;cases h;exact N8 q3 q4 h1 fun vs' hv=>⟨_,Z',Sub.refl _,.refl _,hQ Y' _ Z' q1 ⟨_,Pq hv,rfl⟩ q4⟩
 | exit id=>cases h
 | Bk v=>
   cases h;obtain⟨v',h1,rfl⟩:=q2;exact⟨v',Z',Sub.refl _,.refl _,hQ Y' (.Bk v') Z' q1 ⟨v',h1,rfl⟩ q4⟩
def H7.mono {f:FuncId} {args:List V} {m:Option V} {Z:AE} {Q Q':AE->Prop} (h:H7 P f args m Z Q) (hq: ∀Z',Q Z'->Q' Z'):H7 P f args m Z Q':=
 ⟨h.1,fun F w cs u h1 h2 h3=>CallsDIn.mono (h.2 F w cs u h1 h2 h3) fun e u' w' ⟨a,b,Z',c,d⟩=>⟨a,b,Z',hq _ c,d⟩⟩
def VV {tab:K9} (ht:MY P tab) {ih:AV->Env->St->Rs} (hi:S8 P ih) {g:FuncId} {cap cap':List V} {m m':Option V} {AG:List RS} {s s':St} {r:R} (h:Ym tab ih g cap m AG env s=some (r,s'))
    (he:RE Y env env₀) (hs:SR P Y s Z) (hc:MG Y cap cap') (hm:rV Y m m') {Q:R->AE->Prop} (hQ: ∀Y' r' Z',Y.le Y'->rW Y' r r'->SR P Y' s' Z'->Q r' Z') :
    H7 P g cap' m' Z fun Z'=>Vt Z' env₀ AG fun vs=>Am Z' (FC vs) Q:=by
 unfold Ym at h;split at h
 .rename_i n k ops ac l htab
  obtain⟨h1,h2⟩:=AW h
  have hg:RV Y (m.getD .D0) (m'.getD .D0):=by
   cases m with
   | none=>cases hm;exact RV.pure _ rfl
   | some v=>obtain⟨v',h3,rfl⟩:=hm;exact h3
  have fin: ∀ {ex:Ac} {e2:Env} {s2:St},ih (.seq l (.DB ops) ac) (put (some k) (m.getD .D0) (BA 0 cap)) s=some (ex,e2,s2)->(ex= .normal\/ex= .ret)->(ob (aF s2 env AG) fun vs=>some (R.ret (FC vs),s2))=some (r,s')->
   H7 P g cap' m' Z fun Z'=>Vt Z' env₀ AG fun vs=>Am Z' (FC vs) Q:=fun {ex e2 s2} q1 q2 q3=>by
   obtain⟨vs,q4,q5⟩:=AT q3;cases q5;refine ht g _ htab cap' m' Z _ (by rw[hc.len];exact Nat.le_of_ble_eq_true h1) ?_;refine hi _ _ _ _ _ _ q1 Y _ Z ((RE.args hc).put hg (some k)) hs _ fun Y' ex₀ e₁ Z' p1 p2 p3 p4=>?_
   have base:Vt Z' env₀ AG fun vs=>Am Z' (FC vs) Q:=N8 (he.mono p1) p4 q4 fun vs' hv=>⟨_,Z',Sub.refl _,.refl _,hQ Y' _ Z' p1 ⟨_,Pq hv,rfl⟩ p4⟩
   rcases q2 with e|e
   .subst e;cases p2;exact base
   .subst e;cases p2;exact base
  split at h2
  .rename_i hr;exact fin hr (.inl rfl) h2
  .rename_i hr;exact fin hr (.inr rfl) h2
  .cases h2
 .rename_i n ac htab
  cases m with
  | some v=>cases h
  | none=>
    cases hm;obtain⟨h1,h2⟩:=AW h
    have fin: ∀ {ex:Ac} {e2:Env} {s2:St},ih ac (BA 0 cap) s=some (ex,e2,s2)->(ex= .normal\/ex= .ret)->(ob (aF s2 env AG) fun vs=>some (R.ret (FC vs),s2))=some (r,s')->
     H7 P g cap' none Z fun Z'=>Vt Z' env₀ AG fun vs=>Am Z' (FC vs) Q:=fun {ex e2 s2} q1 q2 q3=>by
     obtain⟨vs,q4,q5⟩:=AT q3;cases q5;refine ht g _ htab cap' Z _ (by rw[hc.len];exact Nat.le_of_ble_eq_true h1) ?_;refine hi _ _ _ _ _ _ q1 Y _ Z (RE.args hc) hs _ fun Y' ex₀ e₁ Z' p1 p2 p3 p4=>?_
     have base:Vt Z' env₀ AG fun vs=>Am Z' (FC vs) Q:=N8 (he.mono p1) p4 q4 fun vs' hv=>⟨_,Z',Sub.refl _,.refl _,hQ Y' _ Z' p1 ⟨_,Pq hv,rfl⟩ p4⟩
     rcases q2 with e|e
     .subst e;cases p2;exact base
     .subst e;cases p2;exact base
    split at h2
    .rename_i hr;exact fin hr (.inl rfl) h2
    .rename_i hr;exact fin hr (.inr rfl) h2
    .cases h2
 .cases h
def Xj {tab:K9} (ht:MY P tab) {ih:AV->Env->St->Rs} (hi:S8 P ih):Lq P (S5 tab ih):=by
 intro f vs s r s' h Y vs' Z hv hs Q hQ;unfold S5 at h;split at h
 .rename_i n ac AG htab
  obtain⟨h1,h2⟩:=AW h;cases hr:ih ac (BA 0 vs) s with
  | none=>rw[hr]at h2;cases h2
  | some x=>
    obtain⟨ex,env',s1⟩:=x;rw[hr]at h2;refine ht f _ htab vs' Z Q (by rw[hv.len];exact Nat.le_of_ble_eq_true h1) ?_;exact hi _ _ _ _ _ _ hr Y _ Z (RE.args hv) hs _ fun Y' ex₀ e₁ Z' p1 p2 p3 p4=>cI h2 hQ p1 p2 p3 p4
 .rename_i n aA ops x aC AG l1 l2 htab
  obtain⟨h1,h2⟩:=AW h;split at h2
  .rename_i env1 s1 hr1
   split at h2
   .rename_i g cap hx
    refine ht f _ htab vs' Z Q (by rw[hv.len];exact Nat.le_of_ble_eq_true h1) ?_;refine hi _ _ _ _ _ _ hr1 Y _ Z (RE.args hv) hs _ fun Y1 ex₀ e₁ Z1 p1 p2 p3 p4=>?_
    cases p2;obtain⟨x',q1,fn',a',b',q2,q3,q4,rfl⟩:=Av p3 hx;simp only[dF]at q2;subst q2;have q3:=Bi.1 q3;cases q3;show QP P x l2 aC AG Q e₁ Z1;simp only[QP,q1,FJ];split at h2
    .rename_i env2 s2 hr2
     refine hi _ _ _ _ _ _ hr2 Y1 _ Z1 (p3.prune l2) p4 _ fun Y2 ex₀ e₂ Z2 u1 u2 u3 u4=>?_
     cases u2;exact VV ht hi h2 u3 u4 (MG.mono u1 (Bi.1 q4)) rfl fun Y3 r' Z3 w1 w2 w3=>hQ Y3 r' Z3 ((p1.trans u1).trans w1) w2 w3
    .rename_i env2 s2 hr2
     refine hi _ _ _ _ _ _ hr2 Y1 _ Z1 (p3.prune l2) p4 _ fun Y2 ex₀ e₂ Z2 u1 u2 u3 u4=>?_
     cases u2;exact VV ht hi h2 u3 u4 (MG.mono u1 (Bi.1 q4)) rfl fun Y3 r' Z3 w1 w2 w3=>hQ Y3 r' Z3 ((p1.trans u1).trans w1) w2 w3
    .rename_i v env2 s2 hr2
     refine hi _ _ _ _ _ _ hr2 Y1 _ Z1 (p3.prune l2) p4 _ fun Y2 ex₀ e₂ Z2 u1 u2 u3 u4=>?_
     obtain⟨v',u5,rfl⟩:=u2;exact VV ht hi h2 u3 u4 (MG.mono u1 (Bi.1 q4)) ⟨v',u5,rfl⟩ fun Y3 r' Z3 w1 w2 w3=>hQ Y3 r' Z3 ((p1.trans u1).trans w1) w2 w3
    .cases h2
   .cases h2
  .cases h2
 .rename_i n ac AG htab
  replace h:=AW h;obtain⟨h1,h2⟩:=h;cases hr:ih ac (BA 0 vs) s with
  | none=>rw[hr]at h2;cases h2
  | some x=>
    obtain⟨ex,env',s1⟩:=x;rw[hr]at h2;cases he:dQ AG (some (ex,env',s1))with
    | none=>rw[he]at h2;cases h2
    | some y=>
      obtain⟨r1,s2⟩:=y;rw[he]at h2
      have hc:Au P f vs' Z fun r' Z'=> ∃Y',Y.le Y'/\rW Y' r1 r'/\SR P Y' s2 Z':=by
       refine ht f _ htab vs' Z _ (by rw[hv.len];exact Nat.le_of_ble_eq_true h1) ?_;exact hi _ _ _ _ _ _ hr Y _ Z (RE.args hv) hs _ fun Y' ex₀ e₁ Z' p1 p2 p3 p4=>cI he (fun Y' r' Z' a b c=>⟨Y',a,b,c⟩) p1 p2 p3 p4
      refine hc.GG fun r' Z' ⟨Y',q1,q2,q3⟩=>?_
      cases r1 with
      | Bk v=>
        cases h2;exact .inr (hQ Y' _ _ q1 q2 q3)
      | ret v=>
        obtain⟨v',q4,rfl⟩:=q2;obtain⟨u,h3,h4⟩:=AT h2;cases h4;obtain⟨Z'',g1,g2,g3⟩:=Oi (l:=QN s2 V6 v) q3;by_cases hp:BL u=true
        .exact .inl ⟨v',u,Z'',rfl,g2,RD q3 V6 v v' u h3 q4 g3,hQ Y' _ _ q1 ⟨u,RV.pure u hp,rfl⟩ g1⟩
        .exact absurd (XT s2 V6 v u h3) hp
 .rename_i c htab
  exact ht f _ htab vs s r s' h Y vs' Z hv hs Q hQ
 .cases h
def XX {vs:List V}: ∀ {l:List (List V×V)} {v:V},WZ vs l=some v->(vs,v)∈l
 | [],_,h=>by cases h
 | m ::r,v,h=>by
   simp only[WZ]at h;cases hb:Nw m.1 vs with
   | true=>
     rw[hb]at h;cases h;have:=HU _ _ hb;obtain⟨a,b⟩:=m;subst this;exact .head _
   | false=>rw[hb]at h;exact .tail _ (XX h)
def Om {tab:K9} (ht:MY P tab) {memo:FZ} (hm:Ht P memo) {ih:AV->Env->St->Rs} (hi:S8 P ih):Lq P (Hr tab memo ih):=by
 intro f vs s r s' h Y vs' Z hv hs Q hQ;unfold Hr at h;split at h
 .exact Xj ht hi f vs s r s' h Y vs' Z hv hs Q hQ
 .rename_i m l hml
  split at h
  .rename_i v hf
   cases h;have hmem:=XX hf;rw[<-hml]at hmem;obtain⟨h1,h2,h3⟩:=hm f _ hmem;rw[oH hv h1];refine(h3.use (Z:=Z) (k:=fun v Z'=>Q (.ret v) Z') (kp:=fun v Z'=>Q (.Bk v) Z') ?_).mono fun r Z' h=>?_
   .exact hQ Y _ Z (.refl _) ⟨v,RV.pure v h2,rfl⟩ hs
   .cases r<;>exact h
  .exact Xj ht hi f vs s r s' h Y vs' Z hv hs Q hQ
def SR.back {s:St} (hs:SR P Y s Z) {i:Nat} {m:Nat×Nat} (hm:Y i=some m) (hn:Z m.1=none) {o1:EO} {o1':O} (ho:RO P Y m.2 o1 o1') :
    SR P Y ⟨s.nx,Tr.set (some o1) BD s.t i⟩ (Gl.B7 Z m.1 o1'):=by
 have hl:=dM (hs.lt hm)
 have hno:s.t.get i=none:=by
  cases hg:s.t.get i with
  | none=>rfl
  | some o=>
    obtain⟨o',h1,_⟩:=hs.at hg hm;rw[hn]at h1;cases h1
 have nm: ∀ {j q m1},s.t.get j=some q->Y j=some m1->m1.1≠m.1:=fun {j q m1} h1 h2 e=>by
  obtain⟨o',h3,_⟩:=hs.at h1 h2;rw[e,hn]at h3;cases h3
 refine⟨fun j o2 h1=>?_,fun j j' o2 o3 m1 m2 h1 h2 h3 h4 h5=>?_,hs.s5,hs.lim⟩
 .rw[Tr.EI _ _ _ hl]at h1
  by_cases e:j=i
  .subst e
   rw[if_pos rfl]at h1;cases h1;exact⟨m,hm,o1',DJ _ _ _,ho⟩
  .rw[if_neg e]at h1
   obtain⟨m1,h2,o3,h3,h4⟩:=hs.get j o2 h1;exact⟨m1,h2,o3,by rw[Cm _ _ (nm h1 h2)];exact h3,h4⟩
 .rw[Tr.EI _ _ _ hl]at h1 h2
  by_cases e:j=i<;>by_cases e':j'=i
  .omega
  .exfalso
   subst e;rw[if_neg e']at h2;rw[hm]at h3;cases h3;exact nm h2 h4 h5.symm
  .exfalso
   subst e';rw[if_neg e]at h1;rw[hm]at h4;cases h4;exact nm h1 h3 h5
  .rw[if_neg e]at h1
   rw[if_neg e']at h2;exact hs.inj j j' o2 o3 m1 m2 h1 h2 h3 h4 h5
def fp {tab:K9} (ht:MY P tab) {memo:FZ} (hm:Ht P memo) {ih:AV->Env->St->Rs} (hi:S8 P ih):Kj P (OE tab memo ih):=by
 intro x vs s r s' h Y x' vs' Z hx hv hs Q hQ;unfold OE at h;split at h
 .rename_i f first cap
  obtain⟨fn',a',b',h1,h2,h3,rfl⟩:=hx;simp only[dF]at h1;subst h1;exact Om ht hm hi f _ s r s' h Y _ Z (((Bi.1 h2).app hv).app (Bi.1 h3)) hs Q hQ
 .rename_i L
  obtain⟨fn',a',b',⟨m,h1,rfl⟩,h2,h3,rfl⟩:=hx;have h2:=Bi.1 h2;have h3:=Bi.1 h3;cases h2;cases h3;split at h
  .rename_i env1 ps a b hg
   obtain⟨o',g1,env1',g2,rfl⟩:=hs.at hg h1;obtain⟨h4,h5⟩:=AW h;rw[Tr.put_eq]at h5;show Ny P m.1 vs' Z Q;refine SD g1 (by rw[hv.len];exact C7 h4) ?_;split at h5
   .rename_i e2 s1 hr1
    refine hi _ _ _ _ _ _ hr1 Y _ _ (RE.binds hv g2) (hs.del hg h1) _ fun Y1 ex₀ e₁ Z1 p1 p2 p3 p4=>?_
    cases p2;show T P b _ e₁ Z1;have hm1:=p1 _ _ h1;split at h5
    .rename_i e3 s2 hr2
     refine hi _ _ _ _ _ _ hr2 Y1 _ _ p3 p4 _ fun Y2 ex₀ e₂ Z2 u1 u2 u3 u4 hno=>?_
     cases u2;rw[Tr.put_eq]at h5;cases h5;exact hQ Y2 _ _ (p1.trans u1) ⟨_,RV.pure _ rfl,rfl⟩ (u4.back (u1 _ _ hm1) hno ⟨_,g2.mono (p1.trans u1),rfl⟩)
    .rename_i e3 s2 hr2
     refine hi _ _ _ _ _ _ hr2 Y1 _ _ p3 p4 _ fun Y2 ex₀ e₂ Z2 u1 u2 u3 u4 hno=>?_
     cases u2;rw[Tr.put_eq]at h5;cases h5;exact hQ Y2 _ _ (p1.trans u1) ⟨_,RV.pure _ rfl,rfl⟩ (u4.back (u1 _ _ hm1) hno ⟨_,g2.mono (p1.trans u1),rfl⟩)
    .rename_i id e3 s2 hr2
     refine hi _ _ _ _ _ _ hr2 Y1 _ _ p3 p4 _ fun Y2 ex₀ e₂ Z2 u1 u2 u3 u4 hno=>?_
     cases u2;rw[Tr.put_eq]at h5;cases h5;exact hQ Y2 _ _ (p1.trans u1) ⟨_,RV.pure _ rfl,rfl⟩ (u4.back (u1 _ _ hm1) hno ⟨_,g2.mono (p1.trans u1),rfl⟩)
    .rename_i v e3 s2 hr2
     refine hi _ _ _ _ _ _ hr2 Y1 _ _ p3 p4 _ fun Y2 ex₀ e₂ Z2 u1 u2 u3 u4 hno=>?_
     obtain⟨v',u5,rfl⟩:=u2;cases h5;exact hQ Y2 _ _ (p1.trans u1) ⟨v',u5,rfl⟩ u4
    .cases h5
   .cases h5
  .cases h
 .cases h
def SR.emp:SR P (fun _=>none) ⟨0,.leaf⟩ Gl.emp:=⟨fun _ _ h=>(by cases h),fun _ _ _ _ _ _ h=>(by cases h),fun _ _=>rfl,by show 0<=Nt+1;omega⟩
def Xk {tab:K9} (ht:MY P tab) {memo:FZ} (hm:Ht P memo) {ih:AV->Env->St->Rs} (hi:S8 P ih):OI P (Qe tab memo ih):=by
 intro f vs v h;unfold Qe at h;obtain⟨h1,h2⟩:=AW h;split at h2
 .rename_i u s hr
  split at h2
  .rename_i w hw
   obtain⟨h3,h4⟩:=AW h2;cases h4;refine⟨h1,h3,?_⟩;refine(Om ht hm hi f vs _ _ _ hr (fun _=>none) vs Gl.emp (Bi.1 (RL.pure vs h1)) SR.emp (fun r Z'=> ∃Y' u',RV Y' u u'/\SR P Y' s Z'/\r= .ret u') fun Y' r' Z' _ q2 q3=>?_).GG fun r Z' ⟨Y',u',q1,q2,e⟩=>?_
   .obtain⟨u',q4,rfl⟩:=q2
    exact⟨Y',u',q4,q3,rfl⟩
   .subst e
    exact .inl ⟨u',v,Gl.emp,rfl,fun n o ho=>(by cases ho),vH q2 V6 u u' v hw q1,rfl,rfl⟩
  .cases h2
 .cases h2
def tn {tab : K9} (ht:MY P tab) {memo:FZ} (hm:Ht P memo): ∀n,S8 P (run tab memo n):=by
 intro n
 induction n using Nat.strongRecOn with
 | ind n IH=>
   cases n with
   | zero=>intro c env s ex env' s' h;cases h
   | succ n=>
     have hi:=IH n (Nat.lt_succ_self n);have hcf:=Om ht hm hi;have hcv:=fp ht hm hi;have hcp:=Xk ht hm hi;intro c env s ex env' s' h Y env₀ Z he hs Q hQ;have h:JY tab memo (run tab memo n) c env s=some (ex,env',s'):=h;cases c with
     | skip=>cases h;exact hQ Y _ _ _ (.refl _) rfl he hs
     | ret=>cases h;exact hQ Y _ _ _ (.refl _) rfl he hs
     | exit id=>cases h;exact hQ Y _ _ _ (.refl _) rfl he hs
     | DB ops=>
       simp only[JY]at h;refine(cJ hcf hcv hcp h he hs (K:=fun env Z=>Q .normal env Z) (kp:=fun env v Z=>Q (.Bk v) env Z) (fun Y' e₁ Z' q1 q2 q3 q4=>?_) (fun Y' v v' e₁ Z' q1 q2 q3 q4 q5=>?_)).2.2
       .subst q2;exact hQ Y' _ _ _ q1 rfl q3 q4
       .subst q2;exact hQ Y' _ _ _ q1 ⟨v',q3,rfl⟩ q4 q5
     | He l ops=>
       simp only[JY]at h;show Dc P ops (fun env Z=>Q .normal (prune l env) Z) (fun v Z=> ∀Z',Sub Z Z'->Q (.Bk v) [] Z') env₀ Z;split at h
       .rename_i e1 s1 hr
        cases h;exact RI hcf hcv hcp hr he hs (fun Y' e₁ Z' q1 q2 q3 q4=>hQ Y' _ _ _ q1 rfl (q3.prune l) q4) (fun Y' v v' Z' q1 q2 q3 q4 q5=>by cases q2)
       .rename_i hne
        refine RI hcf hcv hcp h he hs (fun Y' e₁ Z' q1 q2 q3 q4=>?_) (fun Y' v v' Z' q1 q2 q3 q4 q5=>?_)
        .subst q2;exact absurd h (hne _ _)
        .subst q2;subst q3;exact fun Z2 hs2=>hQ Y' _ _ _ q1 ⟨v',q4,rfl⟩ F2.nil ⟨fun i o hi=>let⟨m,a1,o',a2,a3⟩:=q5.get i o hi;⟨m,a1,o',hs2 _ _ a2,a3⟩,q5.inj,q5.s5,q5.lim⟩
     | seq l a b=>
       simp only[JY]at h;show T P a (Ac.andThen (fun env Z=>Fz (prune l env) Z (T P b Q)) Q) env₀ Z;split at h
       .rename_i e1 s1 hr
        refine hi _ _ _ _ _ _ hr Y _ Z he hs _ fun Y1 ex₀ e₁ Z1 p1 p2 p3 p4=>?_
        cases p2;exact .inl <| hi _ _ _ _ _ _ h Y1 _ Z1 (p3.prune l) p4 _ fun Y2 ex₀ e₂ Z2 u1 u2 u3 u4=>hQ Y2 _ _ _ (p1.trans u1) u2 u3 u4
       .rename_i hne
        refine hi _ _ _ _ _ _ h Y _ Z he hs _ fun Y1 ex₀ e₁ Z1 p1 p2 p3 p4=>?_
        have hf:=hQ Y1 _ _ _ p1 p2 p3 p4;cases ex with
        | normal=>exact absurd h (hne _ _)
        | ret=>cases p2;exact hf
        | exit id=>cases p2;exact hf
        | Bk v=>obtain⟨v',u1,rfl⟩:=p2;exact hf
     | cond c a b=>
       simp only[JY]at h;simp only[T];split at h
       .rename_i hc
        obtain⟨v',q1,q2⟩:=Av he hc;simp only[RV]at q2;subst q2;rw[q1];exact⟨fun _=>hi _ _ _ _ _ _ h Y _ Z he hs _ hQ,fun e=>by cases e⟩
       .rename_i hc
        obtain⟨v',q1,q2⟩:=Av he hc;simp only[RV]at q2;subst q2;rw[q1];exact⟨fun e=>(by cases e),fun _=>hi _ _ _ _ _ _ h Y _ Z he hs _ hQ⟩
       .cases h
     | block id a=>
       simp only[JY]at h;show T P a (Ac.inBlock id Q) env₀ Z;split at h
       .rename_i id' e1 s1 hr
        refine hi _ _ _ _ _ _ hr Y _ Z he hs _ fun Y1 ex₀ e₁ Z1 p1 p2 p3 p4=>?_
        cases p2;simp only[Ac.inBlock];cases hb:Nat.beq id' id with
        | true=>rw[hb]at h;cases h;exact hQ Y1 _ _ _ p1 rfl p3 p4
        | false=>rw[hb]at h;cases h;exact hQ Y1 _ _ _ p1 rfl p3 p4
       .rename_i hne
        refine hi _ _ _ _ _ _ h Y _ Z he hs _ fun Y1 ex₀ e₁ Z1 p1 p2 p3 p4=>?_
        have hf:=hQ Y1 _ _ _ p1 p2 p3 p4;cases ex with
        | normal=>cases p2;exact hf
        | ret=>cases p2;exact hf
        | exit id=>exact absurd h (hne _ _ _)
        | Bk v=>obtain⟨v',u1,rfl⟩:=p2;exact hf
     | scope a=>
       simp only[JY]at h;exact hi _ _ _ _ _ _ h Y _ Z he hs _ hQ
     | loop l a=>
       refine⟨fun m E τ=>m<=n+1/\ ∃e s1 Y1,Y.le Y1/\RE Y1 (prune l e) E/\SR P Y1 s1 τ/\run tab memo m (.loop l a) e s1=some (ex,env',s'),⟨n+1,Hz _,env,s,Y,.refl _,he.prune l,hs,h⟩,?_⟩;rintro m E τ ⟨hm1,e,s1,Y1,q1,q2,q3,q4⟩;cases m with
       | zero=>cases q4
       | succ m=>
         have hi1:=IH m (by omega)
         have q4:(match run tab memo m a (prune l e) s1 with
          | some (.normal,env',s')=>run tab memo m (.loop l a) env' s'
          | r=>r)=some (ex,env',s'):=q4
         split at q4
         .rename_i e2 s2 hr
          refine hi1 _ _ _ _ _ _ hr Y1 _ τ q2 q3 _ fun Y2 ex₀ e₁ Z1 p1 p2 p3 p4=>?_
          cases p2;exact⟨m,Nat.lt_succ_self m,by omega,e2,s2,Y2,q1.trans p1,p3.prune l,p4,q4⟩
         .rename_i hne
          refine hi1 _ _ _ _ _ _ q4 Y1 _ τ q2 q3 _ fun Y2 ex₀ e₁ Z1 p1 p2 p3 p4=>?_
          have hf:=hQ Y2 _ _ _ (q1.trans p1) p2 p3 p4;cases ex with
          | normal=>exact absurd q4 (hne _ _)
          | ret=>cases p2;exact hf
          | exit id=>cases p2;exact hf
          | Bk v=>obtain⟨v',u1,rfl⟩:=p2;exact hf
     | D8 l g ps a b=>
       simp only[JY]at h;simp only[T];split at h
       .rename_i gf cap hg
        obtain⟨x',q1,fn',a',b',q2,q3,q4,rfl⟩:=Av he hg;simp only[dF]at q2;subst q2;have q3:=Bi.1 q3;have q4:=Bi.1 q4;cases q3;rw[q1];intro L hL;obtain⟨h1,h2⟩:=St.Iq h;obtain⟨Y1,p1,p2,p3⟩:=hs.new h1 hL 0 (o:= .loop .ready (prune l env) ps a b) (o':= .loop .ready (prune l env₀) (Bm P ps a b)) ⟨_,he.prune l,rfl⟩
        have hfy:RV Y1 (.f (.yield s.nx) [] []) (.f (.yield L) [] []):=by
         simp only[RV];exact⟨.yield L,[],[],⟨_,p2,rfl⟩,Bi.2 F2.nil,Bi.2 F2.nil,rfl⟩
        split at h2
        .rename_i v s2 hr
         refine hcf gf _ _ _ _ hr Y1 _ _ (F2.cons hfy (MG.mono p1 q4)) p3 _ fun Y2 r' Z2 u1 u2 u3=>?_
         obtain⟨v',_,rfl⟩:=u2;split at h2
         .rename_i st e9 ps9 a9 b9 hg2
          rw[Tr.put_eq]at h2;have hm2:=u1 _ _ p2;obtain⟨o',w1,e8,w2,rfl⟩:=u3.at hg2 hm2;refine⟨st,e8,_,w1,?_⟩;have hd:=u3.del hg2 hm2;cases st<;>(simp only[id]at h2;cases h2;exact hQ Y2 _ _ _ (p1.trans u1) rfl (he.mono (p1.trans u1)) hd)
         .cases h2
        .rename_i v s2 hr
         refine hcf gf _ _ _ _ hr Y1 _ _ (F2.cons hfy (MG.mono p1 q4)) p3 _ fun Y2 r' Z2 u1 u2 u3=>?_
         obtain⟨v',u4,rfl⟩:=u2;split at h2
         .rename_i o9 hg2
          rw[Tr.put_eq]at h2;have hm2:=u1 _ _ p2;have hd:=u3.del hg2 hm2;cases h2;exact hQ Y2 _ _ _ (p1.trans u1) ⟨v',u4,rfl⟩ (he.mono (p1.trans u1)) hd
         .cases h2
        .cases h2
       .cases h
def im (tab:K9) (memo:FZ) (n:Nat) (f:FuncId) (vs:List V) (v:V):Bool:=
 match Qe tab memo (run tab memo n) f vs with
 | some u=>FD u v
 | none=>false
def X7 {tab:K9} (ht:MY P tab) {memo:FZ} (hm:Ht P memo) {n:Nat} {f:FuncId} {vs:List V} {v:V} (h:im tab memo n f vs v=true):CM vs=true/\BL v=true/\Pure P f vs v:=by
 unfold im at h;split at h
 .rename_i u hu
  have:=P9 _ _ h;subst this;exact Xk ht hm (tn ht hm n) f vs u hu
 .cases h
end Go.Gl
namespace Go.Gl
variable {P:Program} {Y Y':Ren} {Z:AE}
def ZB (sz:Nat) (vs:List V) (s:St):Option (R×St):=
 match vs with
 | [.l es f]=>match JZ s sz (.l es f)with
   | some []=>some (.ret (.l [] true),s)
   | some (y::ys)=>bif (y::ys).all (fun e=>e.all CR)&&Nat.ble (y::ys).length 1073741824 then s.new (.arr sz (y::ys)) fun i s'=>some (.ret (.sl i (y::ys).length 0),s')else none
   | none=>none
 | [.sl n len c]=>match JZ s sz (.sl n len c)with
   | some []=>some (.ret (.l [] true),s)
   | some (y::ys)=>bif (y::ys).all (fun e=>e.all CR)&&Nat.ble (y::ys).length 1073741824 then s.new (.arr sz (y::ys)) fun i s'=>some (.ret (.sl i (y::ys).length 0),s')else none
   | none=>none
 | _=>none
def aX {α:Type} (p:Nat->α->Prop) (f:Nat->Nat) (t:Tr α):Prop:= ∀j a,t.get j=some a->p (f j) a
def rK {α:Type} {p:Nat->α->Prop} {f:Nat->Nat}:aX p f .leaf:=fun _ _ h=>by cases h
def l6:Ht P (fun _=>[]):=fun _ _ h=>by cases h
end Go.Gl
