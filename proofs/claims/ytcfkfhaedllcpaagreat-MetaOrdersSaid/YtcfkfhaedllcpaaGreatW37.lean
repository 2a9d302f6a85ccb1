import Derived.Test.YtcfkfhaedllcpaaGreatW36
set_option linter.all false
set_option linter.defProp false
set_option maxHeartbeats 8000000
noncomputable section
namespace Go.Gl
variable {P:Program} {Y Y':Ren} {Z:AE} {env env₀:Env}
structure St where
 nx:Nat
 t:Tr EO
def RK (Y:Ren) (a b:V×V):Prop:=RV Y a.1 b.1/\RV Y a.2 b.2
def RBe (Y:Ren) (a b:Nat×V):Prop:=b.1=a.1/\RV Y a.2 b.2
abbrev RE (Y:Ren):Env->Env->Prop:=F2 (RBe Y)
abbrev LK (Y:Ren):List V->List V->Prop:=F2 (RV Y)
abbrev da (Y:Ren):List (List V)->List (List V)->Prop:=F2 (F2 (RV Y))
def RO (P:Program) (Y:Ren) (cap:Nat):EO->O->Prop
 | .cs vs,o=> ∃vs',LK Y vs vs'/\o= .cs vs'
 | .arr sz es,o=> ∃es',da Y es es'/\o= .arr sz es' cap
 | .map kvs,o=> ∃kvs',F2 (RK Y) kvs kvs'/\o= .map kvs'
 | .loop st env ps a b,o=> ∃env',RE Y env env'/\o= .loop st env' (Bt P ps a b)
def Mm:Nat:=1000000000
structure SR (P:Program) (Y:Ren) (s:St) (Z:AE):Prop where
 get: ∀i o,s.t.get i=some o-> ∃m,Y i=some m/\ ∃o',Z m.1=some o'/\RO P Y m.2 o o'
 inj: ∀i j o o' m m',s.t.get i=some o->s.t.get j=some o'->Y i=some m->Y j=some m'->m.1=m'.1->i=j
 pN: ∀i,s.nx<=i->Y i=none
 lim:s.nx<=Mm+1
def LK.mono (h:Y.le Y') {a b:List V} (k:LK Y a b):LK Y' a b:=F2.mono (fun _ _=>RV.mono h _ _) k
def da.mono (h:Y.le Y') {a b:List (List V)} (k:da Y a b):da Y' a b:=F2.mono (fun _ _=>LK.mono h) k
def RE.mono (h:Y.le Y') {a b:Env} (k:RE Y a b):RE Y' a b:=F2.mono (fun _ _ k=>⟨k.1,RV.mono h _ _ k.2⟩) k
def RO.mono (h:Y.le Y') {c:Nat} {a:EO} {b:O} (k:RO P Y c a b):RO P Y' c a b:=by
 cases a with
 | cs vs=>obtain⟨v,h1,h2⟩:=k;exact⟨v,h1.mono h,h2⟩
 | arr sz es=>obtain⟨v,h1,h2⟩:=k;exact⟨v,h1.mono h,h2⟩
 | map kvs=>obtain⟨v,h1,h2⟩:=k;exact⟨v,F2.mono (fun _ _ k=>⟨RV.mono h _ _ k.1,RV.mono h _ _ k.2⟩) h1,h2⟩
 | loop st env ps a b=>obtain⟨v,h1,h2⟩:=k;exact⟨v,h1.mono h,h2⟩
def ak {k:Nat} (h:k<=Mm):k+1<2 ^ A7:=by simp only[Mm,A7]at *;omega
def SR.lt {s:St} (hs:SR P Y s Z) {i:Nat} {m:Nat×Nat} (h:Y i=some m):i<=Mm:=by
 have h1:=hs.pN i;have h2:=hs.lim;rcases Nat.lt_or_ge i s.nx with h3|h3
 .omega
 .rw[h1 h3]at h;cases h
def SR.new {s:St} (hs:SR P Y s Z) (hl:s.nx<=Mm) {n:Nat} (hn:Z n=none) (cap:Nat) {o:EO} {o':O} (ho:RO P Y cap o o') :
    ∃Y',Y.le Y'/\Y' s.nx=some (n,cap)/\SR P Y' ⟨s.nx+1,Tr.set (some o) A7 s.t s.nx⟩ (Bd Z n o'):=by
 have hle:Y.le (fun i=>if i=s.nx then some (n,cap)else Y i):=fun i m h=>by
  have:i≠s.nx:=fun e=>by rw[hs.pN i (by omega)]at h;cases h
  simp[this,h]
 refine⟨_,hle,by simp,⟨fun i o1 h1=>?_,fun i j o1 o2 m m' h1 h2 h3 h4 h5=>?_,fun i hi=>?_,by show s.nx+1<=_;omega⟩⟩
 .rw[Tr.Ds _ _ _ (ak hl)]at h1
  by_cases e:i=s.nx
  .rw[if_pos e]at h1
   cases h1;exact⟨(n,cap),by simp[e],o',C2 _ _ _,ho.mono hle⟩
  .rw[if_neg e]at h1
   obtain⟨m,h2,o2,h3,h4⟩:=hs.get i o1 h1;refine⟨m,by simp[e,h2],o2,?_,h4.mono hle⟩;rw[CY _ _ (fun e'=>by rw[e',hn]at h3;cases h3)];exact h3
 .rw[Tr.Ds _ _ _ (ak hl)]at h1 h2
  by_cases e:i=s.nx<;>by_cases e':j=s.nx
  .omega
  .exfalso
   rw[if_neg e']at h2;simp only[e,if_true,Hl]at h3;simp only[e',if_false]at h4;obtain⟨m2,h6,o3,h7,_⟩:=hs.get j o2 h2;rw[h6]at h4;cases h4;rw[<-h5,<-h3,hn]at h7;cases h7
  .exfalso
   rw[if_neg e]at h1;simp only[e',if_true,Hl]at h4;simp only[e,if_false]at h3;obtain⟨m2,h6,o3,h7,_⟩:=hs.get i o1 h1;rw[h6]at h3;cases h3;rw[h5,<-h4,hn]at h7;cases h7
  .rw[if_neg e]at h1
   rw[if_neg e']at h2;simp only[e,if_false]at h3;simp only[e',if_false]at h4;exact hs.inj i j o1 o2 m m' h1 h2 h3 h4 h5
 .have hi':s.nx+1<=i:=hi
  have:i≠s.nx:=by omega
  simp only[this,if_false];exact hs.pN i (by omega)
def SR.Bd {s:St} (hs:SR P Y s Z) {i:Nat} {m:Nat×Nat} {o:EO} (hi:s.t.get i=some o) (hm:Y i=some m) {o1:EO} {o1':O} (ho:RO P Y m.2 o1 o1') :
    SR P Y ⟨s.nx,Tr.set (some o1) A7 s.t i⟩ (Gl.Bd Z m.1 o1'):=by
 have hl:=ak (hs.lt hm);refine⟨fun j o2 h1=>?_,fun j j' o2 o3 m1 m2 h1 h2 h3 h4 h5=>?_,hs.pN,hs.lim⟩
 .rw[Tr.Ds _ _ _ hl]at h1
  by_cases e:j=i
  .subst e
   rw[if_pos rfl]at h1;cases h1;exact⟨m,hm,o1',C2 _ _ _,ho⟩
  .rw[if_neg e]at h1
   obtain⟨m1,h2,o3,h3,h4⟩:=hs.get j o2 h1;refine⟨m1,h2,o3,?_,h4⟩;rw[CY _ _ (fun e'=>e (hs.inj j i o2 o m1 m h1 hi h2 hm e'))];exact h3
 .rw[Tr.Ds _ _ _ hl]at h1 h2
  have g1: ∃q,s.t.get j=some q:=by
   by_cases e:j=i
   .exact⟨o,e ▸ hi⟩
   .rw[if_neg e]at h1;exact⟨_,h1⟩
  have g2: ∃q,s.t.get j'=some q:=by
   by_cases e:j'=i
   .exact⟨o,e ▸ hi⟩
   .rw[if_neg e]at h2;exact⟨_,h2⟩
  obtain⟨q1,g1⟩:=g1;obtain⟨q2,g2⟩:=g2;exact hs.inj j j' q1 q2 m1 m2 g1 g2 h3 h4 h5
def SR.del {s:St} (hs:SR P Y s Z) {i:Nat} {m:Nat×Nat} {o:EO} (hi:s.t.get i=some o) (hm:Y i=some m) :
    SR P Y ⟨s.nx,Tr.set none A7 s.t i⟩ (Gl.del Z m.1):=by
 have hl:=ak (hs.lt hm)
 have sub: ∀j q,(Tr.set none A7 s.t i).get j=some q->j≠i/\s.t.get j=some q:=fun j q h=>by
  rw[Tr.Ds _ _ _ hl]at h;by_cases e:j=i
  .rw[if_pos e]at h;cases h
  .rw[if_neg e]at h;exact⟨e,h⟩
 refine⟨fun j o2 h1=>?_,fun j j' o2 o3 m1 m2 h1 h2 h3 h4 h5=>?_,hs.pN,hs.lim⟩
 .obtain⟨e,h1⟩:=sub j o2 h1
  obtain⟨m1,h2,o3,h3,h4⟩:=hs.get j o2 h1;refine⟨m1,h2,o3,?_,h4⟩;have:m1.1≠m.1:=fun e'=>e (hs.inj j i o2 o m1 m h1 hi h2 hm e')
  simp[Gl.del,this,h3]
 .exact hs.inj j j' o2 o3 m1 m2 (sub _ _ h1).2 (sub _ _ h2).2 h3 h4 h5
def SR.at {s:St} (hs:SR P Y s Z) {i:Nat} {m:Nat×Nat} {o:EO} (hi:s.t.get i=some o) (hm:Y i=some m): ∃o',Z m.1=some o'/\RO P Y m.2 o o':=by
 obtain⟨m',h1,h2⟩:=hs.get i o hi;rw[hm]at h1;cases h1;exact h2
def RE.get: ∀ {env env₀:Env},RE Y env env₀-> ∀ {k:Nat} {v:V},Gl.get k env=some v-> ∃v',Gl.get k env₀=some v'/\RV Y v v'
 | (j,u)::r,_,⟨y,ys,h1,h2,e⟩,k,v,h=>by
   subst e;obtain⟨j',u'⟩:=y;have e1:j'=j:=h1.1;subst e1;simp only[Gl.get]at h ⊢;cases hb:Nat.beq j' k with
   | true=>rw[hb]at h;simp only[cond_true]at h ⊢;cases h;exact⟨u',rfl,h1.2⟩
   | false=>rw[hb]at h;simp only[cond_false]at h ⊢;exact RE.get h2 h
def RE.wR: ∀ {env env₀:Env},RE Y env env₀-> ∀ {k:Nat},Gl.get k env=none->Gl.get k env₀=none
 | [],_,h,k,_=>by cases h;rfl
 | (j,u)::r,_,⟨y,ys,h1,h2,e⟩,k,h=>by
   subst e;obtain⟨j',u'⟩:=y;have e1:j'=j:=h1.1;subst e1;simp only[Gl.get]at h ⊢;cases hb:Nat.beq j' k with
   | true=>rw[hb]at h;simp only[cond_true]at h;cases h
   | false=>rw[hb]at h;simp only[cond_false]at h ⊢;exact RE.wR h2 h
def DN (env:Env):Bf->Option V
 | .t n=>get n env
 | .c v=>bif BJ v then some v else none
def Ar (he:RE Y env env₀) {x:Bf} {v:V} (h:DN env x=some v): ∃v',ev env₀ x=some v'/\RV Y v v':=by
 cases x with
 | t n=>exact he.get h
 | c u=>
   simp only[DN]at h;cases hb:BJ u with
   | true=>rw[hb]at h;cases h;exact⟨_,rfl,RV.pure _ hb⟩
   | false=>rw[hb]at h;cases h
def OP (env:Env):List Bf->Option (List V)
 | []=>some []
 | x ::r=>match DN env x with
   | some v=>match OP env r with
     | some vs=>some (v::vs)
     | none=>none
   | none=>none
def H3 (he:RE Y env env₀): ∀ {l:List Bf} {vs:List V},OP env l=some vs-> ∃vs',Ud env₀ l=some vs'/\LK Y vs vs'
 | [],_,h=>by cases h;exact⟨[],rfl,rfl⟩
 | x ::r,vs,h=>by
   simp only[OP]at h;split at h
   .rename_i v hv
    split at h
    .rename_i us hu
     cases h;obtain⟨v',h1,h2⟩:=Ar he hv;obtain⟨vs',h3,h4⟩:=H3 he hu;exact⟨v'::vs',by simp only[Ud,h1,h3],F2.cons h2 h4⟩
    .cases h
   .cases h
def IP (k:IntKind) (n:Int):Int:=
 match k,n with
 | .i64,.ofNat m=>bif Nat.ble m 9223372036854775807 then .ofNat m else IntKind.i64.wrap (.ofNat m)
 | .u64,.ofNat m=>bif Nat.ble m 18446744073709551615 then .ofNat m else IntKind.u64.wrap (.ofNat m)
 | k,n=>k.wrap n
def wrap_u64 {n:Int} (h1:0<=n) (h2:n<=18446744073709551615):IntKind.u64.wrap n=n:=by
 have e:IntKind.u64.wrap n=n % 18446744073709551616:=by simp[IntKind.wrap,IntKind.bits,IntKind.signed]
 rw[e];omega
def ofNat_eq (m:Nat):Int.ofNat m=(m:Int):=rfl
def JD (k:IntKind) (n:Int):IP k n=k.wrap n:=by
 unfold IP;split
 .rename_i m
  cases h:Nat.ble m 9223372036854775807 with
  | true=>
    have h':m<=9223372036854775807:=by rw[Nat.ble_eq]at h;exact h
    rw[cond_true,ofNat_eq];exact(wrap64 (by omega) (by omega)).symm
  | false=>rfl
 .rename_i m
  cases h:Nat.ble m 18446744073709551615 with
  | true=>
    have h':m<=18446744073709551615:=by rw[Nat.ble_eq]at h;exact h
    rw[cond_true,ofNat_eq];exact(wrap_u64 (by omega) (by omega)).symm
  | false=>rfl
 .rfl
def Mh (a b:Int):Bool:=
 match a,b with
 | .ofNat m,.ofNat n=>Nat.ble (m+1) n
 | .negSucc _,.ofNat _=>true
 | .ofNat _,.negSucc _=>false
 | .negSucc m,.negSucc n=>Nat.ble (n+1) m
def PL (a b:Int):Mh a b=decide (a<b):=by
 cases a<;>cases b<;>simp only[Mh]
 .rename_i m n
  rw[J1,Nat.ble_eq,CN];simp;omega
 .rename_i m n
  symm;rw[decide_eq_false_iff_not];simp;omega
 .rename_i m n
  symm;rw[CN];simp;omega
 .rename_i m n
  rw[J1,Nat.ble_eq,CN];omega
def Ow (a b:Int):Bool:= !Mh b a
def fV (a b:Int):Ow a b=decide (a<=b):=by
 rw[Ow,PL,J1];simp
def aY (a b:Int):Bool:=
 match a,b with
 | .ofNat m,.ofNat n=>Nat.beq m n
 | .negSucc m,.negSucc n=>Nat.beq m n
 | _,_=>false
def Td (a b:Int):aY a b=(a==b):=by
 cases a<;>cases b<;>simp only[aY]
 .rename_i m n
  rw[J1,Nat.beq_eq,EU];exact⟨fun e=>by rw[e],fun e=>by cases e;rfl⟩
 .rename_i m n
  rw[J1,EU];exact⟨fun e=>(by cases e),fun e=>by cases e⟩
 .rename_i m n
  rw[J1,EU];exact⟨fun e=>(by cases e),fun e=>by cases e⟩
 .rename_i m n
  rw[J1,Nat.beq_eq,EU];exact⟨fun e=>by rw[e],fun e=>by cases e;rfl⟩
def EK {a b:Int} (h:Ow a b=true):a<=b:=by rw[fV]at h;exact of_decide_eq_true h
def Mw {a b:Int} (h:Mh a b=true):a<b:=by rw[PL]at h;exact of_decide_eq_true h
def PJ (op:BinOp) (k:IntKind) (x y:Int):Int:=
 match k,x,y with
 | .u64,.ofNat a,.ofNat b=>bif Nat.ble a 18446744073709551615&&Nat.ble b 18446744073709551615 then
  match op with
  | .and=> .ofNat (Nat.land a b)
  | .or=> .ofNat (Nat.lor a b)
  | op=>bits op .u64 (.ofNat a) (.ofNat b)
   else bits op .u64 (.ofNat a) (.ofNat b)
 | k,x,y=>bits op k x y
def jd (op:BinOp) (k:IntKind) (x y:Int):PJ op k x y=bits op k x y:=by
 unfold PJ;split
 .rename_i a b
  cases h:Nat.ble a 18446744073709551615&&Nat.ble b 18446744073709551615 with
  | false=>rfl
  | true=>
    simp only[BD]at h;have h1:=Nat.le_of_ble_eq_true h.1;have h2:=Nat.le_of_ble_eq_true h.2
    have e1:(BitVec.ofInt 64 (Int.ofNat a)).toNat=a:=by
     rw[show Int.ofNat a=(a:Int) from rfl,BitVec.ofInt_natCast,BitVec.toNat_ofNat];omega
    have e2:(BitVec.ofInt 64 (Int.ofNat b)).toNat=b:=by
     rw[show Int.ofNat b=(b:Int) from rfl,BitVec.ofInt_natCast,BitVec.toNat_ofNat];omega
    simp only[cond_true];split
    .have e3:bits .and .u64 (Int.ofNat a) (Int.ofNat b)=IntKind.u64.wrap (((BitVec.ofInt 64 (Int.ofNat a))&&&(BitVec.ofInt 64 (Int.ofNat b))).toNat:Int):=rfl
     rw[e3,BitVec.toNat_and,e1,e2];have:a&&&b<2 ^ 64:=Nat.and_lt_two_pow _ (by omega);rw[wrap_u64 (by omega) (by omega)];rfl
    .have e3:bits .or .u64 (Int.ofNat a) (Int.ofNat b)=IntKind.u64.wrap (((BitVec.ofInt 64 (Int.ofNat a))|||(BitVec.ofInt 64 (Int.ofNat b))).toNat:Int):=rfl
     rw[e3,BitVec.toNat_or,e1,e2];have:a|||b<2 ^ 64:=Nat.or_lt_two_pow (by omega) (by omega)
     rw[wrap_u64 (by omega) (by omega)];rfl
    .rfl
 .rfl
def Uw (op:BinOp) (x y:V):Option V:=
 match x,y with
 | .i ka a,.i kb b=>
   match op with
   | .add=>bif decide (ka=kb)then some (.i ka (IP ka (a+b)))else none
   | .sub=>bif decide (ka=kb)then some (.i ka (IP ka (a - b)))else none
   | .mul=>bif decide (ka=kb)then some (.i ka (IP ka (a*b)))else none
   | .quo=>bif decide (ka=kb)&& !aY b 0 then some (.i ka (IP ka (a.tdiv b)))else none
   | .rem=>bif decide (ka=kb)&& !aY b 0 then some (.i ka (a.tmod b))else none
   | .eql=>bif decide (ka=kb)then some (.b (aY a b))else none
   | .neq=>bif decide (ka=kb)then some (.b (!aY a b))else none
   | .lss=>bif decide (ka=kb)then some (.b (Mh a b))else none
   | .leq=>bif decide (ka=kb)then some (.b (Ow a b))else none
   | .gtr=>bif decide (ka=kb)then some (.b (Mh b a))else none
   | .geq=>bif decide (ka=kb)then some (.b (Ow b a))else none
   | .shl=>bif Ow 0 b then some (.i ka (IP ka (a*2 ^ (min b.toNat ka.bits))))else none
   | .shr=>bif Ow 0 b then some (.i ka (a.fdiv (2 ^ (min b.toNat ka.bits))))else none
   | op=>bif decide (ka=kb)then some (.i ka (PJ op ka a b))else none
 | _,_=>none
def AW {α:Type} {c:Bool} {x:Option α} {v:α} (h:(bif c then x else none)=some v):c=true/\x=some v:=by
 cases c with
 | true=>exact⟨rfl,h⟩
 | false=>cases h
def nD {op:BinOp} {x y v:V} (h:Uw op x y=some v):BJ x=true/\BJ y=true/\BJ v=true/\ ∀K:V->Prop,K v->Up op x y K:=by
 unfold Uw at h;split at h
 .rename_i ka a kb b
  refine⟨rfl,rfl,?_⟩
  cases op<;>simp only at h<;>obtain⟨h1,h2⟩:=AW h<;>cases h2<;>refine⟨rfl,fun K U=>?_⟩<;>
   (try simp only[BD,CN,Bool.not_eq_true',Td,beq_eq_false_iff_ne]at h1)<;>
   (try simp only[JD,PL,fV,Td,jd]at U)<;>simp only[Up]
  all_goals first
   | exact⟨h1,U⟩
   | exact⟨h1.1,h1.2,U⟩
   | exact⟨EK h1,U⟩
 .cases h
def GN {v v':V} {cs:List V} (h:cellsOf v=some cs) (hv:RV Y v v'): ∃cs',cellsOf v'=some cs'/\LK Y cs cs':=by
 cases v with
 | a cs0=>
   cases h;obtain⟨c,h1,rfl⟩:=hv;exact⟨c,rfl,BY.1 h1⟩
 | t _=>cases h
 | any=>cases h
 | _ =>
   cases h
   have:cellsOf v'=some [v']:=by
    simp only[RV]at hv
    first
     | (rw[hv];rfl)
     | (obtain⟨_,_,hv⟩:=hv;rw[hv];rfl)
     | (obtain⟨_,_,_,_,_,_,hv⟩:=hv;rw[hv];rfl)
   exact⟨[v'],this,F2.cons hv F2.nil⟩
def lZ {v v':V} (hv:RV Y v v'):CC v'=CC v:=by
 cases v<;>simp only[RV]at hv<;>first
  | (rw[hv];done)
  | (obtain⟨_,_,hv⟩:=hv;rw[hv];rfl)
  | (obtain⟨_,_,_,_,_,_,hv⟩:=hv;rw[hv];rfl)
def aD {vs vs':List V} (h:vs.all CC=true) (hv:LK Y vs vs'):vs'.all CC=true:=by
 rw[E3]at *;intro v hm;obtain⟨u,hu,hr⟩:=F2.mem hv hm;rw[lZ hr];exact h u hu
def MH {vs vs':List (List V)} (h:(vs.all fun e=>e.all CC)=true) (hv:da Y vs vs'): ∀e∈vs',∀v∈e,CC v=true:=by
 rw[E3]at h;intro e he;obtain⟨u,hu,hr⟩:=F2.mem hv he;have:=aD (h u hu) hr
 rwa [E3]at this
def Ov {sz:Nat} {vs vs':List (List V)} (h:(vs.all fun e=>Nat.beq e.length sz)=true) (hv:da Y vs vs'): ∀e∈vs',e.length=sz:=by
 rw[E3]at h;intro e he;obtain⟨u,hu,hr⟩:=F2.mem hv he;rw[hr.len];exact Ct (h u hu)
def L0: ∀ {vc vc':List V} {cs cs':List V} {off:Nat},LK Y cs cs'->LK Y vc vc'->LK Y (putAt cs off vc) (putAt cs' off vc')
 | [],_,_,_,_,h,h'=>by cases h';exact h
 | _::_,_,_,_,off,h,⟨y,ys,h1,h2,e⟩=>by
   subst e;simp only[putAt];exact L0 (h.set off h1) h2
def Uu (agg:Option Nat) (cs:List V) (off:Nat):Option V:=
 match agg with
 | none=>cs[off]?
 | some n=>bif Nat.ble (off+n) cs.length then some (.a ((cs.drop off).take n))else none
def Ln {agg:Option Nat} {cs cs':List V} {off:Nat} {v:V} (h:Uu agg cs off=some v) (hc:LK Y cs cs') {K:V->Prop} (U: ∀v',RV Y v v'->K v'):cut agg cs' off K:=by
 cases agg with
 | none=>
   obtain⟨y,h1,h2⟩:=hc.get h;simp only[cut,h1];exact U _ h2
 | some n=>
   obtain⟨h1,h2⟩:=AW h;cases h2;refine⟨by rw[hc.len];exact Nat.le_of_ble_eq_true h1,U _ ?_⟩;simp only[RV];exact⟨_,BY.2 ((hc.drop off).take n),rfl⟩
def Ny (s:St) (agg:Option Nat) (x:V):Option V:=
 match x with
 | .rp cs=>Uu agg cs 0
 | .p n off=>match s.t.get n with
   | some (.cs vs)=>Uu agg vs off
   | _=>none
 | .pe n sz i off=>match s.t.get n with
   | some (.arr sz' es)=>bif Nat.beq sz sz' then(match es[i]? with|some e=>Uu agg e off|none=>none)else none
   | _=>none
 | _=>none
def V4 {s:St} (hs:SR P Y s Z) {agg:Option Nat} {x x' v:V} (h:Ny s agg x=some v) (hx:RV Y x x') {K:V->Prop} (U: ∀v',RV Y v v'->K v'):AX Z agg x' K:=by
 unfold Ny at h;split at h
 .obtain⟨c,h1,rfl⟩:=hx
  exact Ln h (BY.1 h1) U
 .obtain⟨m,h1,rfl⟩:=hx
  split at h
  .rename_i vs hg
   obtain⟨o',h2,vs',h3,rfl⟩:=hs.at hg h1;simp only[AX,PA,h2];exact Ln h h3 U
  .cases h
 .obtain⟨m,h1,rfl⟩:=hx
  split at h
  .rename_i es hg
   obtain⟨o',h2,es',h3,rfl⟩:=hs.at hg h1;obtain⟨h4,h5⟩:=AW h;split at h5
   .rename_i e he
    obtain⟨e',h6,h7⟩:=h3.get he;simp only[AX,PB,h2,h6];exact⟨Ct h4,Ln h5 h7 U⟩
   .cases h5
  .cases h
 .cases h
def PO (s : St) (sz:Nat) (a x:V):Option St:=
 match cellsOf x with
 | some vc =>bif Nat.beq vc.length sz&&vc.all CC then
  match a with
  | .p n off=>match s.t.get n with
    | some (.cs vs)=>bif Nat.ble (off+sz) vs.length then Tr.put (some (.cs (putAt vs off vc))) A7 s.t n fun t=>some ⟨s.nx,t⟩else none
    | _=>none
  | .pe n s' i off=>match s.t.get n with
    | some (.arr s1 es)=>bif Nat.beq s' s1&&Nat.ble (off+sz) s' then
     (match es[i]? with|some e=>Tr.put (some (.arr s1 (es.set i (putAt e off vc)))) A7 s.t n fun t=>some ⟨s.nx,t⟩|none=>none)else none
    | _=>none
  | _=>none
   else none
 | none=>none
def cg {s s':St} (hs:SR P Y s Z) {sz:Nat} {a a' x x':V} (h:PO s sz a x=some s') (ha:RV Y a a') (hx:RV Y x x') {K:AE->Prop} (U: ∀Z',SR P Y s' Z'->K Z'):AT Z sz a' x' K:=by
 unfold PO at h;split at h
 .rename_i vc hvc
  obtain⟨vc',e1,e2⟩:=GN hvc hx;obtain⟨h1,h2⟩:=AW h;simp only[BD]at h1;simp only[AT,e1];refine⟨by rw[e2.len];exact Ct h1.1,aD h1.2 e2,?_⟩;split at h2
  .obtain⟨m,g1,rfl⟩:=ha
   split at h2
   .rename_i vs hg
    obtain⟨o',g2,vs',g3,rfl⟩:=hs.at hg g1;obtain⟨h3,h4⟩:=AW h2;rw[Tr.put_eq]at h4;cases h4;simp only[g2];exact⟨by rw[g3.len];exact Nat.le_of_ble_eq_true h3,U _ (hs.Bd hg g1 ⟨_,L0 g3 e2,rfl⟩)⟩
   .cases h2
  .obtain⟨m,g1,rfl⟩:=ha
   split at h2
   .rename_i es hg
    obtain⟨o',g2,vs',g3,rfl⟩:=hs.at hg g1;obtain⟨h3,h4⟩:=AW h2;simp only[BD]at h3;split at h4
    .rename_i e he
     rw[Tr.put_eq]at h4;cases h4;obtain⟨e',g4,g5⟩:=g3.get he;simp only[g2,g4];have e:=Ct h3.1;subst e;exact⟨rfl,Nat.le_of_ble_eq_true h3.2,U _ (hs.Bd hg g1 ⟨_,g3.set _ (L0 g5 e2),rfl⟩)⟩
    .cases h4
   .cases h2
  .cases h2
 .cases h
def Te (off:Nat) (x:V):Option V:=
 match x with
 | .rp cs=>some (.rp (cs.drop off))
 | .p n o=>some (.p n (o+off))
 | .pe n sz i o=>some (.pe n sz i (o+off))
 | _=>none
def ct {off:Nat} {x x' v:V} (h:Te off x=some v) (hx:RV Y x x') {K:V->Prop} (U: ∀v',RV Y v v'->K v'):Kb off x' K:=by
 unfold Te at h;split at h
 .obtain⟨c,h1,rfl⟩:=hx
  cases h;exact U _ (by simp only[RV];exact⟨_,BY.2 ((BY.1 h1).drop off),rfl⟩)
 .obtain⟨m,h1,rfl⟩:=hx
  cases h;exact U _ (by simp only[RV];exact⟨m,h1,rfl⟩)
 .obtain⟨m,h1,rfl⟩:=hx
  cases h;exact U _ (by simp only[RV];exact⟨m,h1,rfl⟩)
 .cases h
def M4 (sz:Nat) (arr:Option Nat) (x i:V):Option V:=
 match i with
 | .i _ j=>bif Ow 0 j then
  match arr,x with
  | none,.l es _=>match es[j.toNat]? with|some e=>bif Nat.beq e.length sz then some (.rp e)else none|none=>none
  | none,.sl n len _=>bif Mh j len then some (.pe n sz j.toNat 0)else none
  | none,.sv n s off len=>bif Nat.beq s sz&&Mh j len then some (.pe n sz (off+j.toNat) 0)else none
  | some m,.rp cs=>bif Mh j m then some (.rp (cs.drop (j.toNat*sz)))else none
  | some m,.p n o=>bif Mh j m then some (.p n (o+j.toNat*sz))else none
  | some m,.pe n s q o=>bif Mh j m then some (.pe n s q (o+j.toNat*sz))else none
  | _,_=>none
   else none
 | _=>none
def cr {sz:Nat} {arr:Option Nat} {x x' i i' v:V} (h:M4 sz arr x i=some v) (hx:RV Y x x') (hi:RV Y i i') {K:V->Prop} (U: ∀v',RV Y v v'->K v'):AR sz arr x' i' K:=by
 unfold M4 at h;split at h
 .rename_i kj j
  simp only[RV]at hi;subst hi;obtain⟨h0,h⟩:=AW h;have h0:=EK h0;split at h
  .obtain⟨es',h1,rfl⟩:=hx
   split at h
   .rename_i e he
    obtain⟨h2,h3⟩:=AW h;cases h3;obtain⟨e',h4,h5⟩:=(Fa.1 h1).get he;exact⟨h0,e',h4,by rw[h5.len];exact Ct h2,U _ (by simp only[RV];exact⟨e',BY.2 h5,rfl⟩)⟩
   .cases h
  .obtain⟨m,h1,rfl⟩:=hx
   obtain⟨h2,h3⟩:=AW h;cases h3;exact⟨h0,Mw h2,U _ (by simp only[RV];exact⟨m,h1,rfl⟩)⟩
  .obtain⟨m,h1,rfl⟩:=hx
   obtain⟨h2,h3⟩:=AW h;simp only[BD]at h2;cases h3;exact⟨Ct h2.1,h0,Mw h2.2,U _ (by simp only[RV];exact⟨m,h1,rfl⟩)⟩
  .obtain⟨c,h1,rfl⟩:=hx
   obtain⟨h2,h3⟩:=AW h;cases h3;exact⟨h0,Mw h2,U _ (by simp only[RV];exact⟨_,BY.2 ((BY.1 h1).drop _),rfl⟩)⟩
  .obtain⟨m,h1,rfl⟩:=hx
   obtain⟨h2,h3⟩:=AW h;cases h3;exact⟨h0,Mw h2,U _ (by simp only[RV];exact⟨m,h1,rfl⟩)⟩
  .obtain⟨m,h1,rfl⟩:=hx
   obtain⟨h2,h3⟩:=AW h;cases h3;exact⟨h0,Mw h2,U _ (by simp only[RV];exact⟨m,h1,rfl⟩)⟩
  .cases h
 .cases h
def PR (len sz:Nat) (agg:Option Nat) (x i:V):Option V:=
 match x,i with
 | .a cs,.i _ j=>bif Ow 0 j&&Mh j len then Uu agg cs (j.toNat*sz)else none
 | _,_=>none
def cq {len sz:Nat} {agg:Option Nat} {x x' i i' v:V} (h:PR len sz agg x i=some v) (hx:RV Y x x') (hi:RV Y i i') {K:V->Prop} (U: ∀v',RV Y v v'->K v'):Ka len sz agg x' i' K:=by
 unfold PR at h;split at h
 .simp only[RV]at hi
  subst hi;obtain⟨c,h1,rfl⟩:=hx;obtain⟨h2,h3⟩:=AW h;simp only[BD]at h2;exact⟨EK h2.1,Mw h2.2,Ln h3 (BY.1 h1) U⟩
 .cases h
def VB (x i:V):Option V:=
 match x,i with
 | .s b,.i _ j=>bif Ow 0 j then(match b.data.toList[j.toNat]? with|some c=>some (.i .u8 (.ofNat c.toNat))|none=>none)else none
 | _,_=>none
def jG {x x' i i' v:V} (h:VB x i=some v) (hx:RV Y x x') (hi:RV Y i i') {K:V->Prop} (U: ∀v',RV Y v v'->K v'):PE x' i' K:=by
 unfold VB at h;split at h
 .simp only[RV]at hi hx
  subst hi;subst hx;obtain⟨h2,h3⟩:=AW h;refine⟨EK h2,?_⟩;split at h3
  .rename_i c hc
   cases h3;rw[hc];exact U _ (by simp only[RV];rfl)
  .cases h3
 .cases h
def az (x:V):Option V:=
 match x with
 | .l es _=>some (.i .i64 (.ofNat es.length))
 | .sl _ len _=>bif Nat.ble len AY then some (.i .i64 (.ofNat len))else none
 | .sv _ _ _ len=>bif Nat.ble len AY then some (.i .i64 (.ofNat len))else none
 | _=>none
def m8 {x x' v:V} (h:az x=some v) (hx:RV Y x x') {K:V->Prop} (U: ∀v',RV Y v v'->K v'):A4 x' K:=by
 unfold az at h;split at h
 .obtain⟨es',h1,rfl⟩:=hx
  cases h;have:=(Fa.1 h1).len;exact U _ (by simp only[RV];rw[this];rfl)
 .obtain⟨m,h1,rfl⟩:=hx
  obtain⟨h2,h3⟩:=AW h;cases h3;exact⟨Nat.le_of_ble_eq_true h2,U _ (by simp only[RV];rfl)⟩
 .obtain⟨m,h1,rfl⟩:=hx
  obtain⟨h2,h3⟩:=AW h;cases h3;exact⟨Nat.le_of_ble_eq_true h2,U _ (by simp only[RV];rfl)⟩
 .cases h
def VC (s:St) (x:V):Option V:=
 match x with
 | .m n=>match s.t.get n with
   | some (.map kvs)=>bif Nat.ble kvs.length AY then some (.i .i64 (.ofNat kvs.length))else none
   | _=>none
 | .mn=>some (.i .i64 0)
 | _=>none
def jH {s:St} (hs:SR P Y s Z) {x x' v:V} (h:VC s x=some v) (hx:RV Y x x') {K:V->Prop} (U: ∀v',RV Y v v'->K v'):J7 Z x' K:=by
 unfold VC at h;split at h
 .obtain⟨m,h1,rfl⟩:=hx
  split at h
  .rename_i kvs hg
   obtain⟨h2,h3⟩:=AW h;cases h3;obtain⟨o',g2,kvs',g3,rfl⟩:=hs.at hg h1;simp only[J7,g2];have:=g3.len;exact⟨by rw[this];exact Nat.le_of_ble_eq_true h2,U _ (by simp only[RV];rw[this];rfl)⟩
  .cases h
 .cases h
  simp only[RV]at hx;subst hx;exact U _ (by simp only[RV])
 .cases h
def Ie (s:St) (sz:Nat) (y:V):Option (List (List V)):=
 match y with
 | .l ys _=>bif ys.all (fun e=>Nat.beq e.length sz)then some ys else none
 | .sl m len _=>match s.t.get m with
   | some (.arr s' ys)=>bif Nat.beq s' sz&&Nat.ble len ys.length then some (ys.take len)else none
   | _=>none
 | .sv m s1 off len=>match s.t.get m with
   | some (.arr s' ys)=>bif Nat.beq s1 sz&&(Nat.beq s' sz&&Nat.ble (off+len) ys.length)then some ((ys.drop off).take len)else none
   | _=>none
 | _=>none
def HU {s:St} (hs:SR P Y s Z) {sz:Nat} {y y':V} {ys:List (List V)} (h:Ie s sz y=some ys) (hy:RV Y y y') {K:List (List V)->Prop} (U: ∀ys',da Y ys ys'->K ys'):rowsOf Z sz y' K:=by
 unfold Ie at h;split at h
 .obtain⟨es',h1,rfl⟩:=hy
  obtain⟨h2,h3⟩:=AW h;cases h3;exact⟨Ov h2 (Fa.1 h1),U _ (Fa.1 h1)⟩
 .obtain⟨m,h1,rfl⟩:=hy
  split at h
  .rename_i es hg
   obtain⟨o',g2,es',g3,rfl⟩:=hs.at hg h1;obtain⟨h2,h3⟩:=AW h;simp only[BD]at h2;cases h3;simp only[rowsOf,g2];exact⟨Ct h2.1,by rw[g3.len];exact Nat.le_of_ble_eq_true h2.2,U _ (g3.take _)⟩
  .cases h
 .obtain⟨m,h1,rfl⟩:=hy
  split at h
  .rename_i es hg
   obtain⟨o',g2,es',g3,rfl⟩:=hs.at hg h1;obtain⟨h2,h3⟩:=AW h;simp only[BD]at h2;cases h3;simp only[rowsOf,g2];exact⟨Ct h2.1,Ct h2.2.1,by rw[g3.len];exact Nat.le_of_ble_eq_true h2.2.2,U _ ((g3.drop _).take _)⟩
  .cases h
 .cases h
def St.new {β:Type} (s:St) (o:EO) (K:Nat->St->Option β):Option β:=
 match s.nx with
 | 0=>Tr.put (some o) A7 s.t 0 fun t=>K 0 ⟨1,t⟩
 | n+1=>bif Nat.ble (n+1) Mm then Tr.put (some o) A7 s.t (n+1) fun t=>K (n+1) ⟨n+2,t⟩else none
def St.Hu {β:Type} {s:St} {o:EO} {K:Nat->St->Option β} {x:β} (h:s.new o K=some x):s.nx<=Mm/\K s.nx ⟨s.nx+1,Tr.set (some o) A7 s.t s.nx⟩=some x:=by
 obtain⟨n,t⟩:=s;cases n with
 | zero=>simp only[St.new]at h;rw[Tr.put_eq]at h;exact⟨by simp[Mm],h⟩
 | succ n=>
   simp only[St.new]at h;obtain⟨h1,h2⟩:=AW h;rw[Tr.put_eq]at h2;exact⟨Nat.le_of_ble_eq_true h1,h2⟩
def SE: ∀ {ys ys':List (List V)} {ns:List Int},FF ys=some ns->da Y ys ys'->FF ys'=some ns
 | [],ys',ns,h,hr=>by obtain rfl:ys'= []:=hr;exact h
 | e ::r,ys',ns,h,hr=>by
   unfold FF at h;split at h
   .cases ‹_= []›
   .rename_i n r' he
    cases he;obtain⟨e',r'',h1,h2,rfl⟩:=hr;obtain⟨v',l',h3,h4,rfl⟩:=h1;obtain rfl:l'= []:=h4;simp only[RV]at h3;subst h3;split at h
    .rename_i l hl
     cases h;simp only[FF,SE hl h2]
    .cases h
   .cases h
def eE (s:St) (x:V):Option V:=
 match Ie s 1 x with
 | some ys=>match FF ys with
   | some ns=>some (.s ⟨(ns.map fun n=>UInt8.ofNat n.toNat).toArray⟩)
   | none=>none
 | none=>none
def m7 {s:St} (hs:SR P Y s Z) {x x' v:V} (h:eE s x=some v) (hx:RV Y x x') {K:V->Prop} (U: ∀v',RV Y v v'->K v'):dv Z x' K:=by
 unfold eE at h;split at h
 .rename_i ys hys
  split at h
  .rename_i ns hn
   cases h;refine HU hs hys hx fun ys' hr=>?_
   rw[SE hn hr];exact U _ (by simp only[RV])
  .cases h
 .cases h
def vY (b L:Nat):Bool:=Nat.ble L 1073741824&&Nat.ble b 131072
def TQ {b L:Nat} (h:vY b L=true):L<=AY/\L*b<=140737488355328:=by
 simp only[vY,BD]at h;have h1:=Nat.le_of_ble_eq_true h.1;have h2:=Nat.le_of_ble_eq_true h.2;have h3:L*b<=1073741824*131072:=Nat.mul_le_mul h1 h2;exact⟨by unfold AY;omega,by omega⟩
def Lo (b : Nat) (s:St) (sz:Nat) (x y:V):Option (V×St):=
 match Ie s sz y with
 | some ys =>bif ys.all (fun e=>e.all CC)then
  match x with
  | .l es full=>bif es.all (fun e=>Nat.beq e.length sz)&&vY b (es.length+ys.length)then
   match ys with
   | []=>some (.l es full,s)
   | z::zs=>bif full then s.new (.arr sz (es++z::zs)) fun i s'=>some (.sl i (es.length+(z::zs).length) 0,s')else none
    else none
  | .sl n len _=>match s.t.get n with
    | some (.arr s1 es)=>bif Nat.beq s1 sz&&(Nat.beq len es.length&&vY b (es.length+ys.length))then
     Tr.put none A7 s.t n fun t=>St.new ⟨s.nx,t⟩ (.arr sz (es++ys)) fun i s'=>some (.sl i (es.length+ys.length) 0,s')else none
    | _=>none
  | _=>none
   else none
 | none=>none
def YR {b : Nat} {s s':St} (hs:SR P Y s Z) {sz:Nat} {x x' y y' v:V} (h:Lo b s sz x y=some (v,s')) (hx:RV Y x x') (hy:RV Y y y') {K:V->AE->Prop}
    (U: ∀Y' v' Z',Y.le Y'->RV Y' v v'->SR P Y' s' Z'->K v' Z'):AJ b Z sz x' y' K:=by
 unfold Lo at h;split at h
 .rename_i ys hys
  obtain⟨h1,h2⟩:=AW h;refine HU hs hys hy fun ys' hr=>⟨MH h1 hr,?_⟩
  split at h2
  .rename_i es full
   obtain⟨es',g1,rfl⟩:=hx;have g1:=Fa.1 g1;obtain⟨h3,h4⟩:=AW h2;simp only[BD]at h3;refine⟨Ov h3.1 g1,by rw[g1.len,hr.len];exact TQ h3.2,fun e=>?_,fun e=>?_⟩
   .split at h4
    .cases h4
     exact U Y _ _ (.refl _) (by simp only[RV];exact⟨es',Fa.2 g1,rfl⟩) hs
    .subst e
     have:=hr.len;simp at this
   .split at h4
    .cases hr
     exact absurd rfl e
    .rename_i z zs
     obtain⟨h5,h6⟩:=AW h4;obtain⟨h7,h8⟩:=St.Hu h6;cases h8;refine⟨h5,fun n cap hn hc=>?_⟩;obtain⟨Y',q1,q2,q3⟩:=hs.new h7 hn cap (o:= .arr sz (es++z::zs)) (o':= .arr sz (es'++ys') cap) ⟨_,g1.app hr,rfl⟩;exact U Y' _ _ q1 (by simp only[RV];exact⟨_,q2,by rw[g1.len,hr.len]⟩) q3
  .rename_i n len
   obtain⟨m,g1,rfl⟩:=hx;split at h2
   .rename_i s1 es hg
    obtain⟨o',g2,es',g3,rfl⟩:=hs.at hg g1;obtain⟨h3,h4⟩:=AW h2;simp only[BD]at h3;rw[Tr.put_eq]at h4;obtain⟨h5,h6⟩:=St.Hu h4;cases h6;have e1:=Ct h3.1;subst e1;simp only[g2];refine⟨trivial,trivial,by rw[g3.len];exact Ct h3.2.1,by rw[g3.len,hr.len];exact TQ h3.2.2,fun n' cap' hn hc=>?_⟩;obtain⟨Y',q1,q2,q3⟩:=(hs.del hg g1).new h5 hn cap' (o:= .arr s1 (es++ys)) (o':= .arr s1 (es'++ys') cap') ⟨_,g3.app hr,rfl⟩;exact U Y' _ _ q1 (by simp only[RV];exact⟨_,q2,by rw[g3.len,hr.len]⟩) q3
   .cases h2
  .cases h2
 .cases h
def VE (b:Nat) (s:St) (sz:Nat) (x y:V):Option V:=
 match Ie s sz y with
 | some ys=>bif ys.all (fun e=>e.all CC)then
  match x with
  | .l es full=>bif es.all (fun e=>Nat.beq e.length sz)&&(vY b (es.length+ys.length)&&(full||ys.isEmpty))then some (.l (es++ys) false)else none
  | _=>none
   else none
 | none=>none
def jK {b:Nat} {s:St} (hs:SR P Y s Z) {sz:Nat} {x x' y y' v:V} (h:VE b s sz x y=some v) (hx:RV Y x x') (hy:RV Y y y') {K:V->Prop} (U: ∀v',RV Y v v'->K v'):Ad b Z sz x' y' K:=by
 unfold VE at h;split at h
 .rename_i ys hys
  obtain⟨h1,h2⟩:=AW h;refine HU hs hys hy fun ys' hr=>⟨MH h1 hr,?_⟩
  split at h2
  .rename_i es full
   obtain⟨es',g1,rfl⟩:=hx;have g1:=Fa.1 g1;obtain⟨h3,h4⟩:=AW h2;simp only[BD,Fl]at h3;cases h4;refine⟨Ov h3.1 g1,by rw[g1.len,hr.len];exact TQ h3.2.1,fun e=>?_,U _ (by simp only[RV];exact⟨_,Fa.2 (g1.app hr),rfl⟩)⟩;rcases h3.2.2 with h|h
   .exact h
   .have:ys= []:=by simpa using h
    subst this;cases hr;exact absurd rfl e
  .cases h2
 .cases h
def kT (s:St) (sz:Nat) (ys:List (List V)) (n off len:Nat):Option (V×St):=
 match s.t.get n with
 | some (.arr s1 es)=>bif Nat.beq s1 sz&&Nat.ble (off+len) es.length then
  Tr.put (some (.arr s1 (es.take off++(ys.take (min ys.length len)++es.drop (off+min ys.length len))))) A7 s.t n fun t=>some (.i .i64 (.ofNat (min ys.length len)),⟨s.nx,t⟩)else none
 | _=>none
def Z0 {s s':St} (hs:SR P Y s Z) {sz n off len:Nat} {ys ys':List (List V)} (hr:da Y ys ys') {m:Nat×Nat} (hm:Y n=some m) {v:V} (h:kT s sz ys n off len=some (v,s')) {K:V->AE->Prop}
    (U: ∀v' Z',RV Y v v'->SR P Y s' Z'->K v' Z'):O3 Z sz ys' m.1 off len K:=by
 unfold kT at h;split at h
 .rename_i s1 es hg
  obtain⟨o',g2,es',g3,rfl⟩:=hs.at hg hm;obtain⟨h3,h4⟩:=AW h;simp only[BD]at h3;rw[Tr.put_eq]at h4;cases h4;simp only[O3,g2];refine⟨Ct h3.1,by rw[g3.len];exact Nat.le_of_ble_eq_true h3.2,?_⟩;rw[hr.len];exact U _ _ (by simp only[RV];rfl) (hs.Bd hg hm ⟨_,((g3.take off).app ((hr.take _).app (g3.drop _))),rfl⟩)
 .cases h
def VD (s:St) (sz:Nat) (x y:V):Option (V×St):=
 match Ie s sz y with
 | some ys=>bif ys.all (fun e=>e.all CC)then
  match x with
  | .sl n len _=>kT s sz ys n 0 len
  | .sv n s1 off len=>bif Nat.beq s1 sz then kT s sz ys n off len else none
  | _=>none
   else none
 | none=>none
def jJ {s s':St} (hs:SR P Y s Z) {sz:Nat} {x x' y y' v:V} (h:VD s sz x y=some (v,s')) (hx:RV Y x x') (hy:RV Y y y') {K:V->AE->Prop}
    (U: ∀v' Z',RV Y v v'->SR P Y s' Z'->K v' Z'):Ac Z sz x' y' K:=by
 unfold VD at h;split at h
 .rename_i ys hys
  obtain⟨h1,h2⟩:=AW h;refine HU hs hys hy fun ys' hr=>⟨MH h1 hr,?_⟩
  split at h2
  .obtain⟨m,g1,rfl⟩:=hx
   exact Z0 hs hr g1 h2 U
  .obtain⟨m,g1,rfl⟩:=hx
   obtain⟨h3,h4⟩:=AW h2;exact⟨Ct h3,Z0 hs hr g1 h4 U⟩
  .cases h2
 .cases h
def Uv (o:Option V) (d:Int):Option Int:=
 match o with
 | none=>some d
 | some (.i _ n)=>some n
 | _=>none
def oD (Y:Ren):Option V->Option V->Prop
 | none,o=>o=none
 | some v,o=> ∃v',RV Y v v'/\o=some v'
def Je {o o':Option V} {d n:Int} (h:Uv o d=some n) (ho:oD Y o o') {K:Int->Prop} (U:K n):OL o' d K:=by
 unfold Uv at h;split at h
 .cases h;cases ho;exact U
 .obtain⟨v',h1,rfl⟩:=ho
  simp only[RV]at h1;subst h1;cases h;exact U
 .cases h
def PQ (s : St) (sz:Nat) (x:V) (lo hi mx:Option V):Option (V×St):=
 match x with
 | .l es full=>match Uv hi (.ofNat es.length),Uv lo 0 with
   | some h,some l=>bif es.all (fun e=>Nat.beq e.length sz)&&(Ow 0 l&&(Ow l h&&Ow h (.ofNat es.length)))then
    match mx with
    | none=>some (.l ((es.take h.toNat).drop l.toNat) (full&&aY h (.ofNat es.length)),s)
    | some (.i _ m)=>bif aY m h then some (.l ((es.take h.toNat).drop l.toNat) true,s)else none
    | _=>none
     else none
   | _,_=>none
 | .sl n len _=>match Uv hi (.ofNat len),Uv lo 0 with
   | some h,some l=>bif Ow 0 l&&(Ow l h&&Ow h (.ofNat len))then
    match mx with
    | none=>some (.sv n sz l.toNat (h - l).toNat,s)
    | some (.i _ m)=>match s.t.get n with
      | some (.arr s1 es)=>bif aY m h&&(aY h (.ofNat len)&&(aY l 0&&(Nat.beq s1 sz&&Nat.beq len es.length)))then Tr.put none A7 s.t n fun t=>St.new ⟨s.nx,t⟩ (.arr s1 es) fun i s'=>some (.sl i len 0,s')else none
      | _=>none
    | _=>none
     else none
   | _,_=>none
 | .sv n s1 off len=>match Uv hi (.ofNat len),Uv lo 0,mx with
   | some h,some l,none=>bif Nat.beq s1 sz&&(Ow 0 l&&(Ow l h&&Ow h (.ofNat len)))then some (.sv n sz (off+l.toNat) (h - l).toNat,s)else none
   | _,_,_=>none
 | _=>none
def Tc {a b:Int} (h:aY a b=true):a=b:=by rw[Td]at h;simpa using h
def cj {s s':St} (hs:SR P Y s Z) {sz:Nat} {x x' v:V} {lo hi mx lo' hi' mx':Option V} (h:PQ s sz x lo hi mx=some (v,s')) (hx:RV Y x x') (h1:oD Y lo lo') (h2:oD Y hi hi') (h3:oD Y mx mx') {K:V->AE->Prop}
    (U: ∀Y' v' Z',Y.le Y'->RV Y' v v'->SR P Y' s' Z'->K v' Z'):AQ Z sz x' lo' hi' mx' K:=by
 unfold PQ at h;split at h
 .rename_i es full
  obtain⟨es',g1,rfl⟩:=hx;have g1:=Fa.1 g1;split at h
  .rename_i hh ll e1 e2
   obtain⟨h4,h5⟩:=AW h;simp only[BD]at h4;refine⟨Ov h4.1 g1,?_⟩;rw[g1.len];refine Je e1 h2 ?_;refine Je e2 h1 ?_;refine⟨EK h4.2.1,EK h4.2.2.1,EK h4.2.2.2,?_⟩;split at h5
   .cases h3
    cases h5;refine U Y _ _ (.refl _) ?_ hs;simp only[RV];refine⟨_,Fa.2 ((g1.take _).drop _),?_⟩;congr 1;rw[Td];congr 1
   .obtain⟨v',q1,rfl⟩:=h3
    simp only[RV]at q1;subst q1;obtain⟨h6,h7⟩:=AW h5;cases h7;exact⟨Tc h6,U Y _ _ (.refl _) (by simp only[RV];exact⟨_,Fa.2 ((g1.take _).drop _),rfl⟩) hs⟩
   .cases h5
  .cases h
 .rename_i n len
  obtain⟨m,g1,rfl⟩:=hx;split at h
  .rename_i hh ll e1 e2
   obtain⟨h4,h5⟩:=AW h;simp only[BD]at h4;simp only[AQ];refine Je e1 h2 ?_;refine Je e2 h1 ?_;refine⟨EK h4.1,EK h4.2.1,EK h4.2.2,?_⟩;split at h5
   .cases h3
    cases h5;exact U Y _ _ (.refl _) (by simp only[RV];exact⟨m,g1,rfl⟩) hs
   .obtain⟨v',q1,rfl⟩:=h3
    simp only[RV]at q1;subst q1;split at h5
    .rename_i s1 es hg
     obtain⟨o',g2,es',g3,rfl⟩:=hs.at hg g1;obtain⟨h6,h7⟩:=AW h5;simp only[BD]at h6;rw[Tr.put_eq]at h7;obtain⟨h8,h9⟩:=St.Hu h7;cases h9;simp only[g2];have h10:=Ct h6.2.2.2.2;refine⟨Tc h6.1,Tc h6.2.1,Tc h6.2.2.1,Ct h6.2.2.2.1,trivial,by rw[g3.len];exact h10,.inr ?_⟩;obtain⟨Y',q1,q2,q3⟩:=(hs.del hg g1).new h8 (DL Z m.1) n (o:= .arr s1 es) (o':= .arr s1 es' n) ⟨es',g3,rfl⟩
     have e:Gl.Bd (Gl.del Z m.1) m.1 (.arr s1 es' n)=Gl.Bd Z m.1 (.arr s1 es' n):=by
      funext k;by_cases hk:k=m.1
      .simp[Gl.Bd,hk]
      .simp[Gl.Bd,Gl.del,hk]
     rw[e]at q3;exact U Y' _ _ q1 (by simp only[RV];exact⟨_,q2,rfl⟩) q3
    .cases h5
   .cases h5
  .cases h
 .obtain⟨m,g1,rfl⟩:=hx
  split at h
  .rename_i hh ll e1 e2
   cases h3;obtain⟨h4,h5⟩:=AW h;simp only[BD]at h4;cases h5;simp only[AQ];refine Je e1 h2 ?_;refine Je e2 h1 ?_;exact⟨EK h4.2.1,EK h4.2.2.1,EK h4.2.2.2,Ct h4.1,trivial,U Y _ _ (.refl _) (by simp only[RV];exact⟨m,g1,rfl⟩) hs⟩
  .cases h
 .cases h
def MX: ∀ {cs ds:List V} {t:Bool},Bo cs ds=some t->B6 cs=true/\B6 ds=true
 | [],[],_,_=>⟨rfl,rfl⟩
 | x ::xs,y::ys,t,h=>by
   cases x<;>cases y<;>simp only[Bo]at h<;>first|cases h|skip
   split at h
   .obtain⟨a,h1,_⟩:=Ag h
    obtain⟨h2,h3⟩:=MX h1;exact⟨by simp[B6,BJ,h2],by simp[B6,BJ,h3]⟩
   .cases h
 | [],_::_,_,h=>by simp[Bo]at h
 | x::xs,[],_,h=>by cases x<;>simp[Bo]at h
def kR {cs cs':List V} (h:LK Y cs cs') (hp:B6 cs=true):cs'=cs:=RL.fn cs _ _ (BY.2 h) (RL.pure cs hp)
def eG (len:Nat) (neg:Bool) (x y:V):Option V:=
 match x,y with
 | .a cs,.a ds=>bif Nat.beq cs.length len then(match Bo cs ds with|some t=>some (.b (bif neg then !t else t))|none=>none)else none
 | _,_=>none
def nC {len:Nat} {neg:Bool} {x x' y y' v:V} (h:eG len neg x y=some v) (hx:RV Y x x') (hy:RV Y y y') {K:V->Prop} (U: ∀v',RV Y v v'->K v'):TD len neg x' y' K:=by
 unfold eG at h;split at h
 .rename_i cs ds
  obtain⟨cs',g1,rfl⟩:=hx;obtain⟨ds',g2,rfl⟩:=hy;obtain⟨h1,h2⟩:=AW h;split at h2
  .rename_i t ht
   cases h2;obtain⟨p1,p2⟩:=MX ht;have e1:=kR (BY.1 g1) p1;have e2:=kR (BY.1 g2) p2;subst e1;subst e2;simp only[TD,h1,ht];exact U _ (by simp only[RV])
  .cases h2
 .cases h
def eF (kind:Nat) (neg:Bool) (x:V):Option V:=
 match kind,x with
 | 0,.pn=>some (.b (!neg))
 | 0,.rp _=>some (.b neg)
 | 0,.p _ _=>some (.b neg)
 | 0,.pe _ _ _ _=>some (.b neg)
 | 1,.sl _ _ _=>some (.b neg)
 | 1,.l (_::_) _=>some (.b neg)
 | 2,.DZ=>some (.b (!neg))
 | 2,.Ey _ _=>some (.b neg)
 | 3,.mn=>some (.b (!neg))
 | 3,.m _=>some (.b neg)
 | 4,.LN=>some (.b (!neg))
 | 4,.f _ _ _=>some (.b neg)
 | _,_=>none
def m9 {kind:Nat} {neg:Bool} {x x' v:V} (h:eF kind neg x=some v) (hx:RV Y x x') {K:V->Prop} (U: ∀v',RV Y v v'->K v'):Iz kind neg x' K:=by
 unfold eF at h;split at h
 .simp only[RV]at hx;subst hx;cases h;exact U _ (by simp only[RV])
 .obtain⟨_,_,rfl⟩:=hx;cases h;exact U _ (by simp only[RV])
 .obtain⟨_,_,rfl⟩:=hx;cases h;exact U _ (by simp only[RV])
 .obtain⟨_,_,rfl⟩:=hx;cases h;exact U _ (by simp only[RV])
 .obtain⟨_,_,rfl⟩:=hx;cases h;exact U _ (by simp only[RV])
 .obtain⟨es',g1,rfl⟩:=hx
  cases h;obtain⟨y,ys,_,_,rfl⟩:=Fa.1 g1;exact⟨fun e=>(by cases e),fun _=>U _ (by simp only[RV])⟩
 .simp only[RV]at hx;subst hx;cases h;exact U _ (by simp only[RV])
 .obtain⟨_,_,rfl⟩:=hx;cases h;exact U _ (by simp only[RV])
 .simp only[RV]at hx;subst hx;cases h;exact U _ (by simp only[RV])
 .obtain⟨_,_,rfl⟩:=hx;cases h;exact U _ (by simp only[RV])
 .simp only[RV]at hx;subst hx;cases h;exact U _ (by simp only[RV])
 .obtain⟨_,_,_,_,_,_,rfl⟩:=hx;cases h;exact U _ (by simp only[RV])
 .cases h
def JI (s:St) (sz:Nat) (z:List V) (x y:V):Option (V×St):=
 match x,y with
 | .i _ n,.i _ m=>bif Ow 0 n&&(Ow n m&&(Nat.ble m.toNat 1073741824&&B6 z))then s.new (.arr sz (List.replicate n.toNat z)) fun i s'=>some (.sl i n.toNat 0,s')else none
 | _,_=>none
def Wr {s s':St} (hs:SR P Y s Z) {sz:Nat} {z:List V} {x x' y y' v:V} (h:JI s sz z x y=some (v,s')) (hx:RV Y x x') (hy:RV Y y y') {K:V->AE->Prop}
    (U: ∀Y' v' Z',Y.le Y'->RV Y' v v'->SR P Y' s' Z'->K v' Z'):AK Z sz z x' y' K:=by
 unfold JI at h;split at h
 .rename_i k1 n k2 m
  simp only[RV]at hx hy;subst hx;subst hy;obtain⟨h1,h2⟩:=AW h;simp only[BD]at h1;obtain⟨h3,h4⟩:=St.Hu h2;cases h4;have h5:=EK h1.1;have h7:=EK h1.2.1;have h6:m.toNat<=1073741824:=Nat.le_of_ble_eq_true h1.2.2.1;refine⟨h5,h7,by omega,fun id hid=>?_⟩;obtain⟨Y',q1,q2,q3⟩:=hs.new h3 hid m.toNat (o:= .arr sz (List.replicate n.toNat z)) (o':= .arr sz (List.replicate n.toNat z) m.toNat) ⟨_,F2.rep (BY.1 (RL.pure z h1.2.2.2)) _,rfl⟩;exact U Y' _ _ q1 (by simp only[RV];exact⟨_,q2,rfl⟩) q3
 .cases h
def N9: ∀ {l:List IntKind} {cs:List V},DT l cs=true->B6 cs=true
 | [],[],_=>rfl
 | q::l,x::cs,h=>by
   cases x<;>simp only[DT]at h<;>first|cases h|skip
   simp only[BD]at h;simp[B6,BJ,N9 h.2]
 | [],_::_,h=>by simp[DT]at h
 | _::_,[],h=>by simp[DT]at h
def FM {ks:KS} {v:V} (h:BN ks v=true):BJ v=true:=by
 unfold BN at h;split at h
 .rfl
 .exact N9 h
 .rfl
 .cases h
def SL {ks:KS} {key:V}: ∀ {kvs kvs':List (V×V)},(kvs.all fun kv=>BN ks kv.1)=true->F2 (RK Y) kvs kvs'->oD Y (CZ key kvs) (CZ key kvs')
 | [],_,_,h=>by cases h;rfl
 | (k,v)::r,_,ha,⟨y,ys,h1,h2,e⟩=>by
   subst e;obtain⟨k',v'⟩:=y;simp only[LC,BD]at ha;have e1:k'=k:=RV.kC h1.1 (FM ha.1);subst e1;simp only[CZ];cases Df key k' with
   | true=>exact⟨v',h1.2,rfl⟩
   | false=>exact SL ha.2 h2
def Vl {ks:KS} {key x x':V} (hp:BJ key=true) (hx:RV Y x x'): ∀ {kvs kvs':List (V×V)},(kvs.all fun kv=>BN ks kv.1)=true->F2 (RK Y) kvs kvs'->F2 (RK Y) (DV key x kvs) (DV key x' kvs')
 | [],_,_,h=>by cases h;exact F2.cons ⟨RV.pure key hp,hx⟩ F2.nil
 | (k,v)::r,_,ha,⟨y,ys,h1,h2,e⟩=>by
   subst e;obtain⟨k',v'⟩:=y;simp only[LC,BD]at ha;have e1:k'=k:=RV.kC h1.1 (FM ha.1);subst e1;simp only[DV];cases Df key k' with
   | true=>exact F2.cons ⟨RV.pure key hp,hx⟩ h2
   | false=>exact F2.cons h1 (Vl hp hx ha.2 h2)
def Zf {ks:KS} {kvs kvs':List (V×V)} (ha:(kvs.all fun kv=>BN ks kv.1)=true) (h:F2 (RK Y) kvs kvs'): ∀kv∈kvs',BN ks kv.1=true:=fun kv hm=>by
 obtain⟨u,hu,hr⟩:=F2.mem h hm;rw[E3]at ha;have h1:=ha u hu;rw[RV.kC hr.1 (FM h1)];exact h1
def Lm (s:St) (ks:KS) (z:V) (ok:Bool) (vm vk:V):Option V:=
 bif BN ks vk&&BJ z then
  match vm with
  | .m n=>match s.t.get n with
    | some (.map kvs)=>bif kvs.all (fun kv=>BN ks kv.1)then some (found z ok (CZ vk kvs))else none
    | _=>none
  | .mn=>some (found z ok none)
  | _=>none
 else none
def Vy {z:V} {ok:Bool} (hz:BJ z=true) {o o':Option V} (h:oD Y o o'):RV Y (found z ok o) (found z ok o'):=by
 cases o with
 | none=>
   cases h;cases ok with
   | true=>simp only[found,cond_true,RV];exact⟨_,BY.2 (F2.cons (RV.pure z hz) (F2.cons (RV.pure _ rfl) F2.nil)),rfl⟩
   | false=>exact RV.pure z hz
 | some v=>
   obtain⟨v',h1,rfl⟩:=h;cases ok with
   | true=>simp only[found,cond_true,RV];exact⟨_,BY.2 (F2.cons h1 (F2.cons (RV.pure _ rfl) F2.nil)),rfl⟩
   | false=>exact h1
def YQ {s:St} (hs:SR P Y s Z) {ks:KS} {z:V} {ok:Bool} {vm vm' vk vk' v:V} (h:Lm s ks z ok vm vk=some v) (hm:RV Y vm vm') (hk:RV Y vk vk') {K:V->Prop} (U: ∀v',RV Y v v'->K v'):AM Z ks z ok vm' vk' K:=by
 unfold Lm at h;obtain⟨h1,h2⟩:=AW h;simp only[BD]at h1;have e:=RV.kC hk (FM h1.1);subst e;refine⟨h1.1,?_⟩;split at h2
 .obtain⟨m,g1,rfl⟩:=hm
  split at h2
  .rename_i kvs hg
   obtain⟨o',g2,kvs',g3,rfl⟩:=hs.at hg g1;obtain⟨h3,h4⟩:=AW h2;cases h4;simp only[g2];exact⟨Zf h3 g3,U _ (Vy h1.2 (SL h3 g3))⟩
  .cases h2
 .simp only[RV]at hm
  subst hm;cases h2;exact U _ (Vy h1.2 rfl)
 .cases h2
def Ll (s:St) (ks:KS) (vm vk vv:V):Option St:=
 bif BN ks vk then
  match vm with
  | .m n=>match s.t.get n with
    | some (.map kvs)=>bif kvs.all (fun kv=>BN ks kv.1)then Tr.put (some (.map (DV vk vv kvs))) A7 s.t n fun t=>some ⟨s.nx,t⟩else none
    | _=>none
  | _=>none
 else none
def YP {s s':St} (hs:SR P Y s Z) {ks:KS} {vm vm' vk vk' vv vv':V} (h:Ll s ks vm vk vv=some s') (hm:RV Y vm vm') (hk:RV Y vk vk') (hv:RV Y vv vv') {K:AE->Prop} (U: ∀Z',SR P Y s' Z'->K Z') :
    AN Z ks vm' vk' vv' K:=by
 unfold Ll at h;obtain⟨h1,h2⟩:=AW h;have e:=RV.kC hk (FM h1);subst e;refine⟨h1,?_⟩;split at h2
 .obtain⟨m,g1,rfl⟩:=hm
  split at h2
  .rename_i kvs hg
   obtain⟨o',g2,kvs',g3,rfl⟩:=hs.at hg g1;obtain⟨h3,h4⟩:=AW h2;rw[Tr.put_eq]at h4;cases h4;simp only[g2];exact⟨Zf h3 g3,U _ (hs.Bd hg g1 ⟨_,Vl (FM h1) hv h3 g3,rfl⟩)⟩
  .cases h2
 .cases h2
def M5 (env:Env):List V->List (Nat×Nat×Bf)->Option (List V)
 | cs,[]=>some cs
 | cs,(off,sz,x)::r=>
   match DN env x with
   | some v=>match cellsOf v with
     | some vc=>bif Nat.beq vc.length sz&&Nat.ble (off+sz) cs.length then M5 env (putAt cs off vc) r else none
     | none=>none
   | none=>none
def Sk (he:RE Y env env₀): ∀ {ps:List (Nat×Nat×Bf)} {cs cs' cs1:List V},M5 env cs ps=some cs1->LK Y cs cs'-> ∃cs1',J9 env₀ cs' ps=some cs1'/\LK Y cs1 cs1'
 | [],_,cs',_,h,hc=>by cases h;exact⟨cs',rfl,hc⟩
 | (off,sz,x)::r,cs,cs',cs1,h,hc=>by
   simp only[M5]at h;split at h
   .rename_i v hv
    split at h
    .rename_i vc hvc
     obtain⟨h1,h2⟩:=AW h;obtain⟨v',e1,e2⟩:=Ar he hv;obtain⟨vc',e3,e4⟩:=GN hvc e2;obtain⟨c,e5,e6⟩:=Sk he h2 (L0 hc e4);refine⟨c,?_,e6⟩;simp only[J9,e1,e3];rw[e4.len,hc.len,h1];exact e5
    .cases h
   .cases h
def M6 (env:Env) (sz:Nat):List (List V)->List (Nat×Bf)->Option (List (List V))
 | es,[]=>some es
 | es,(i,x)::r=>
   match DN env x with
   | some v=>match cellsOf v with
     | some vc=>bif Nat.beq vc.length sz&&Nat.blt i es.length then M6 env sz (es.set i vc) r else none
     | none=>none
   | none=>none
def Sl (he:RE Y env env₀) {sz:Nat}: ∀ {ps:List (Nat×Bf)} {cs cs' cs1:List (List V)},M6 env sz cs ps=some cs1->da Y cs cs'-> ∃cs1',I8 env₀ sz cs' ps=some cs1'/\da Y cs1 cs1'
 | [],_,cs',_,h,hc=>by cases h;exact⟨cs',rfl,hc⟩
 | (i, x)::r,cs,cs',cs1,h,hc=>by
   simp only[M6]at h;split at h
   .rename_i v hv
    split at h
    .rename_i vc hvc
     obtain⟨h1,h2⟩:=AW h;obtain⟨v',e1,e2⟩:=Ar he hv;obtain⟨vc',e3,e4⟩:=GN hvc e2;obtain⟨c,e5,e6⟩:=Sl he h2 (hc.set i e4);refine⟨c,?_,e6⟩;simp only[I8,e1,e3];rw[e4.len,hc.len,h1];exact e5
    .cases h
   .cases h
end Go.Gl
