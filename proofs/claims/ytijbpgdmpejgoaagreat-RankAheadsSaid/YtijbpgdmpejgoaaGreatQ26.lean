import Derived.Test.YtijbpgdmpejgoaaGreatQ25
set_option linter.all false
set_option linter.unusedVariables false
set_option linter.unusedSimpArgs false
namespace Go.Gl
variable {P:Program}
structure Cd where
 M:Nat
 E:Env
abbrev An:=Option (Ag×Cd×St)
theorem KH {α β:Type} (c:Bool) (x:Option α) (g:α→Option β):ob (bif c then x else none) g=bif c then ob x g else none:=by cases c<;>rfl
noncomputable def dk (env:Env) (n:Nat) (K:V→An):An:=@List.rec (Nat×V) (fun _=>Nat→(V→An)→An) (fun _ _=>none) (fun p _ ih n K=>@Bool.rec (fun _=>An) (ih n K) (K p.2) (Nat.beq p.1 n)) env n K
theorem fm (env:Env) (n:Nat) (K:V→An):dk env n K=ob (get n env) K:=by
 induction env with
 | nil=>rfl
 | cons p r ih=>
   obtain⟨j,v⟩:=p;show @Bool.rec (fun _=>An) (dk r n K) (K v) (Nat.beq j n)=ob (bif Nat.beq j n then some v else get n r) K;cases Nat.beq j n
   ·exact ih
   ·rfl
noncomputable def RD {α:Type} (cs:List α) (i:Nat) (K:α→An):An:=@List.rec α (fun _=>Nat→(α→An)→An) (fun _ _=>none) (fun v _ ih i K=>@Nat.rec (fun _=>An) (K v) (fun j _=>ih j K) i) cs i K
theorem K1 {α:Type} (cs:List α): ∀(i:Nat) (K:α→An),RD cs i K=ob cs[i]? K:=by
 induction cs with
 | nil=>intro i K;rfl
 | cons v r ih=>
   intro i K;cases i with
   | zero=>rfl
   | succ j=>exact ih j K
noncomputable def F5 {α:Type} (cs:List α):Nat:=@List.rec α (fun _=>Nat) 0 (fun _ _ ih=>Nat.succ ih) cs
theorem FM {α:Type} (cs:List α):F5 cs=cs.length:=by
 induction cs with
 | nil=>rfl
 | cons v r ih=>show Nat.succ (F5 r)=_;rw[ih];rfl
noncomputable def TO {α:Type} (cs:List α) (n:Nat):List α:=@Nat.rec (fun _=>List α→List α) (fun cs=>cs) (fun _ ih cs=>@List.rec α (fun _=>(List α→List α)→List α) (fun _=>[]) (fun _ r _ ih=>ih r) cs ih) n cs
theorem Oj {α:Type}: ∀(n:Nat) (cs:List α),TO cs n=cs.drop n
 | 0,cs=>rfl
 | n+1,[]=>rfl
 | n+1,v::r=>Oj n r
noncomputable def Wa {α:Type} (cs:List α) (n:Nat):List α:=@List.rec α (fun _=>Nat→List α) (fun _=>[]) (fun v _ ih n=>@Nat.rec (fun _=>List α) [] (fun j _=>v::ih j) n) cs n
theorem bb {α:Type} (cs:List α): ∀n:Nat,Wa cs n=cs.take n:=by
 induction cs with
 | nil=>intro n;cases n<;>rfl
 | cons v r ih=>
   intro n;cases n with
   | zero=>rfl
   | succ j=>show v::Wa r j=_;rw[ih];rfl
noncomputable def U7 {α:Type} (cs:List α) (n:Nat) (x:α):List α:=@List.rec α (fun _=>Nat→α→List α) (fun _ _=>[]) (fun v r ih n x=>@Nat.rec (fun _=>List α) (x::r) (fun j _=>v::ih j x) n) cs n x
theorem R2 {α:Type} (cs:List α) (x:α): ∀n:Nat,U7 cs n x=cs.set n x:=by
 induction cs with
 | nil=>intro n;rfl
 | cons v r ih=>
   intro n;cases n with
   | zero=>rfl
   | succ j=>show v::U7 r j x=_;rw[ih];rfl
noncomputable def sG {α:Type} (f:α→Bool) (cs:List α):Bool:=@List.rec α (fun _=>(α→Bool)→Bool) (fun _=>true) (fun v _ ih f=>@Bool.rec (fun _=>Bool) false (ih f) (f v)) cs f
theorem kg {α:Type} (f:α→Bool) (cs:List α):sG f cs=cs.all f:=by
 induction cs with
 | nil=>rfl
 | cons v r ih=>
   show @Bool.rec (fun _=>Bool) false (sG f r) (f v)=_;rw[List.all_cons,ih];cases f v<;>rfl
noncomputable def a8 (v:V) (K:V→An):An:=@V.rec (fun _=>V→(V→An)→An) (fun _=>Unit) (fun _=>Unit) (fun _ v K=>K v) (fun _ _ v K=>K v) (fun _ v K=>K v) (fun v K=>K v) (fun _ _ v K=>@Bool.rec (fun _=>An) none (K v) (A1 v)) (fun _ _ v K=>@Bool.rec (fun _=>An) none (K v) (A1 v)) (fun _ _ _ v K=>@Bool.rec (fun _=>An) none (K v) (A1 v)) (fun _ _ _ v K=>@Bool.rec (fun _=>An) none (K v) (A1 v)) (fun _ _ _ _ v K=>@Bool.rec (fun _=>An) none (K v) (A1 v)) (fun _ _ _ _ v K=>@Bool.rec (fun _=>An) none (K v) (A1 v)) (fun _ v K=>@Bool.rec (fun _=>An) none (K v) (A1 v)) (fun v K=>K v) (fun _ _ _ _ _ v K=>@Bool.rec (fun _=>An) none (K v) (A1 v)) (fun v K=>K v) (fun _ _ _ v K=>@Bool.rec (fun _=>An) none (K v) (A1 v)) (fun v K=>K v) (fun _ _ v K=>@Bool.rec (fun _=>An) none (K v) (A1 v)) (fun _ _ v K=>@Bool.rec (fun _=>An) none (K v) (A1 v)) (fun v K=>@Bool.rec (fun _=>An) none (K v) (A1 v)) () (fun _ _ _ _=>()) () (fun _ _ _ _=>()) v v K
theorem BZ {α:Type} (c:Bool) (x y:α): @Bool.rec (fun _=>α) y x c=bif c then x else y:=by cases c<;>rfl
theorem ZB (v:V) (K:V→An):a8 v K=ob (bif A1 v then some v else none) K:=by
 rw[KH];cases v<;>first|rfl|exact BZ _ _ _
noncomputable def NX (M n:Nat):Bool:=Nat.beq (Nat.land (Nat.shiftRight M n) 1) 1
noncomputable def RM (e:Cd) (n:Nat):Option V:=bif NX e.1 n then get n e.2 else none
def Ib (e:Cd) (env:Env):Prop:= ∀n,RM e n=get n env
noncomputable def B9 (x:B1) (e:Cd) (K:V→An):An:=@B1.rec (fun _=>Cd→(V→An)→An) (fun n e K=>@Bool.rec (fun _=>An) none (dk e.2 n K) (NX e.1 n)) (fun v _ K=>a8 v K) x e K
theorem BJ {e:Cd} {env:Env} (he:Ib e env) (x:B1) (K:V→An):B9 x e K=ob (Dj env x) K:=by
 cases x with
 | t n=>
   show @Bool.rec (fun _=>An) none (dk e.2 n K) (NX e.1 n)=ob (get n env) K;rw[←he n,RM,BZ,KH,fm]
 | c v=>exact ZB v K
noncomputable def Kk (l:List B1) (env:Cd) (K:List V→An):An:=@List.rec B1 (fun _=>Cd→(List V→An)→An) (fun _ K=>K []) (fun x _ ih env K=>B9 x env fun v=>ih env fun vs=>K (v::vs)) l env K
theorem B6 {e:Cd} {env:Env} (he:Ib e env): ∀(l:List B1) (K:List V→An),Kk l e K=ob (NN env l) K
 | [],K=>rfl
 | x ::r,K=>by
   show(B9 x e fun v=>Kk r e fun vs=>K (v::vs))=_;rw[BJ he];simp only[NN];cases Dj env x with
   | none=>rfl
   | some v=>
     simp only[ob];rw[B6 he r];cases NN env r<;>rfl
noncomputable def VA (x:Option B1) (e:Cd) (K:Option V→An):An:=@Option.rec B1 (fun _=>Cd→(Option V→An)→An) (fun _ K=>K none) (fun x e K=>B9 x e fun v=>K (some v)) x e K
theorem CH {e:Cd} {env:Env} (he:Ib e env) (x:Option B1) (K:Option V→An):VA x e K=ob (J8 env x) K:=by
 cases x with
 | none=>rfl
 | some x=>
   show(B9 x e fun v=>K (some v))=_;rw[BJ he];simp only[J8];cases Dj env x<;>rfl
noncomputable def yK (k:IntKind):Nat:=@IntKind.rec (fun _=>Nat) 0 1 2 3 4 5 6 7 k
noncomputable def Lx (a b:IntKind):Bool:=Nat.beq (yK a) (yK b)
theorem kB (a b:IntKind):Lx a b=decide (a=b):=by cases a<;>cases b<;>rfl
noncomputable def y7 (a b:Int):Int:=@Int.rec (fun _=>Int→Int) (fun m b=>@Int.rec (fun _=>Nat→Int) (fun n m=>Int.ofNat (Nat.add m n)) (fun n m=>Int.ofNat m+Int.negSucc n) b m) (fun m b=>Int.negSucc m+b) a b
theorem k8 (a b:Int):y7 a b=a+b:=by cases a<;>cases b<;>rfl
noncomputable def x6 (a b:Int):Int:=@Int.rec (fun _=>Int→Int) (fun m b=>@Int.rec (fun _=>Nat→Int) (fun n m=>@Bool.rec (fun _=>Int) (Int.negSucc (Nat.sub n (Nat.succ m))) (Int.ofNat (Nat.sub m n)) (Nat.ble n m)) (fun n m=>Int.ofNat m - Int.negSucc n) b m) (fun m b=>Int.negSucc m - b) a b
theorem eL (a b:Int):x6 a b=a - b:=by
 cases a with
 | negSucc m=>rfl
 | ofNat m=>
   cases b with
   | negSucc n=>rfl
   | ofNat n=>
     show @Bool.rec (fun _=>Int) (Int.negSucc (n - (m+1))) (Int.ofNat (m - n)) (Nat.ble n m)=_;cases h:Nat.ble n m with
     | true=>
       have:=Nat.le_of_ble_eq_true h;show Int.ofNat (m - n)=(m:Int) - (n:Int);simp only[Int.ofNat_eq_natCast];omega
     | false=>
       have: ¬n≤m:=fun h'=>by rw[Nat.ble_eq_true_of_le h']at h;cases h
       show Int.negSucc (n - (m+1))=(m:Int) - (n:Int);omega
noncomputable def ZR (a b:Int):Bool:=@Int.rec (fun _=>Int→Bool) (fun m b=>@Int.rec (fun _=>Nat→Bool) (fun n m=>Nat.ble (Nat.succ m) n) (fun _ _=>false) b m) (fun m b=>@Int.rec (fun _=>Nat→Bool) (fun _ _=>true) (fun n m=>Nat.ble (Nat.succ n) m) b m) a b
theorem Rc (a b:Int):ZR a b=Lt a b:=by cases a<;>cases b<;>rfl
noncomputable def eqI (a b:Int):Bool:=@Int.rec (fun _=>Int→Bool) (fun m b=>@Int.rec (fun _=>Nat→Bool) (fun n m=>Nat.beq m n) (fun _ _=>false) b m) (fun m b=>@Int.rec (fun _=>Nat→Bool) (fun _ _=>false) (fun n m=>Nat.beq m n) b m) a b
theorem uU (a b:Int):eqI a b=Xw a b:=by cases a<;>cases b<;>rfl
noncomputable def RF (b:Bool):Bool:=@Bool.rec (fun _=>Bool) true false b
theorem fH (b:Bool):RF b= !b:=by cases b<;>rfl
noncomputable def ZY (a:Int):Nat:=@Int.rec (fun _=>Nat) (fun n=>n) (fun _=>0) a
theorem OI (a:Int):ZY a=a.toNat:=by cases a<;>rfl
noncomputable def WZ (k:IntKind) (n:Int):Int:=@IntKind.rec (fun _=>Int→Int) (fun n=>IntKind.i8.wrap n) (fun n=>IntKind.i16.wrap n) (fun n=>IntKind.i32.wrap n)
 (fun n=>@Int.rec (fun _=>Int) (fun m=>@Bool.rec (fun _=>Int) (IntKind.i64.wrap (Int.ofNat m)) (Int.ofNat m) (Nat.ble m 9223372036854775807)) (fun m=>@Bool.rec (fun _=>Int) (IntKind.i64.wrap (Int.negSucc m)) (Int.negSucc m) (Nat.ble m 9223372036854775807)) n)
 (fun n=>IntKind.u8.wrap n) (fun n=>IntKind.u16.wrap n) (fun n=>IntKind.u32.wrap n)
 (fun n=>@Int.rec (fun _=>Int) (fun m=>@Bool.rec (fun _=>Int) (IntKind.u64.wrap (Int.ofNat m)) (Int.ofNat m) (Nat.ble m 18446744073709551615)) (fun m=>IntKind.u64.wrap (Int.negSucc m)) n) k n
theorem bT (k:IntKind) (n:Int):WZ k n=k.wrap n:=by
 cases k<;>try rfl
 ·cases n with
  | ofNat m=>
    have:=Iy .i64 (.ofNat m);simp only[IG]at this;rw[←this];show @Bool.rec (fun _=>Int) _ _ _=_;cases Nat.ble m 9223372036854775807<;>rfl
  | negSucc m=>
    show @Bool.rec (fun _=>Int) (IntKind.i64.wrap (Int.negSucc m)) (Int.negSucc m) (Nat.ble m 9223372036854775807)=_;cases h:Nat.ble m 9223372036854775807 with
    | false=>rfl
    | true=>
      have:=Nat.le_of_ble_eq_true h;show Int.negSucc m=_;exact(wrap64 (by omega) (by omega)).symm
 ·cases n with
  | ofNat m=>
    have:=Iy .u64 (.ofNat m);simp only[IG]at this;rw[←this];show @Bool.rec (fun _=>Int) _ _ _=_;cases Nat.ble m 18446744073709551615<;>rfl
  | negSucc m=>rfl
noncomputable def x7 (k:IntKind) (a b:Int):Int:=@Int.rec (fun _=>Int→IntKind→Int) (fun m b _=>Int.ofNat (Nat.shiftRight m (Nat.min (ZY b) k.bits))) (fun m b k=>(Int.negSucc m).fdiv (2 ^ (min b.toNat k.bits))) a b k
theorem eO (k:IntKind) (a b:Int):x7 k a b=a.fdiv (2 ^ (min b.toNat k.bits)):=by
 cases a with
 | negSucc m=>rfl
 | ofNat m=>
   show Int.ofNat (m >>> (min (ZY b) k.bits))=_;rw[OI,Nat.shiftRight_eq_div_pow];have:(2:Int) ^ (min b.toNat k.bits)=((2 ^ (min b.toNat k.bits):Nat):Int):=by simp
   rw[this];exact(Int.ofNat_fdiv _ _)
noncomputable def x8 (k:IntKind) (a b:Int):Int:=@Int.rec (fun _=>Int→IntKind→Int) (fun m b _=>Int.ofNat (Nat.shiftLeft m (Nat.min (ZY b) k.bits))) (fun m b k=>(Int.negSucc m)*(2 ^ (min b.toNat k.bits))) a b k
theorem eP (k:IntKind) (a b:Int):x8 k a b=a*(2 ^ (min b.toNat k.bits)):=by
 cases a with
 | negSucc m=>rfl
 | ofNat m=>
   show Int.ofNat (m <<< (min (ZY b) k.bits))=_;rw[OI,Nat.shiftLeft_eq];simp
noncomputable def asI (v:V) (K:IntKind→Int→An):An:=@V.rec (fun _=>(IntKind→Int→An)→An) (fun _=>Unit) (fun _=>Unit) (fun _ K=>none) (fun k n K=>K k n) (fun _ K=>none) (fun K=>none) (fun _ _ K=>none) (fun _ _ K=>none) (fun _ _ _ K=>none) (fun _ _ _ K=>none) (fun _ _ _ _ K=>none) (fun _ _ _ _ K=>none) (fun _ K=>none) (fun K=>none) (fun _ _ _ _ _ K=>none) (fun K=>none) (fun _ _ _ K=>none) (fun K=>none) (fun _ _ K=>none) (fun _ _ K=>none) (fun K=>none) () (fun _ _ _ _=>()) () (fun _ _ _ _=>()) v K
def isI:V→Option (IntKind×Int)| .i k n=>some (k,n)|_=>none
theorem VU (v:V) (K:IntKind→Int→An):asI v K=ob (isI v) fun p=>K p.1 p.2:=by cases v<;>rfl
noncomputable def eE (op:BinOp) (vx vy:V) (K:V→An):An:=asI vx fun ka a=>asI vy fun kb b=>@BinOp.rec (fun _=>IntKind→Int→IntKind→Int→(V→An)→An) (fun ka a kb b K=>@Bool.rec (fun _=>An) none (K (.i ka (WZ ka (y7 a b)))) (Lx ka kb)) (fun ka a kb b K=>@Bool.rec (fun _=>An) none (K (.i ka (WZ ka (x6 a b)))) (Lx ka kb)) (fun ka a kb b K=>ob (S3 .mul (.i ka a) (.i kb b)) K) (fun ka a kb b K=>ob (S3 .quo (.i ka a) (.i kb b)) K) (fun ka a kb b K=>ob (S3 .rem (.i ka a) (.i kb b)) K) (fun ka a kb b K=>@Bool.rec (fun _=>An) none (K (.i ka (OH .and ka a b))) (Lx ka kb)) (fun ka a kb b K=>@Bool.rec (fun _=>An) none (K (.i ka (OH .or ka a b))) (Lx ka kb)) (fun ka a kb b K=>@Bool.rec (fun _=>An) none (K (.i ka (OH .xor ka a b))) (Lx ka kb)) (fun ka a kb b K=>@Bool.rec (fun _=>An) none (K (.i ka (WZ ka (x8 ka a b)))) (RF (ZR b 0))) (fun ka a kb b K=>@Bool.rec (fun _=>An) none (K (.i ka (x7 ka a b))) (RF (ZR b 0))) (fun ka a kb b K=>@Bool.rec (fun _=>An) none (K (.i ka (OH .andNot ka a b))) (Lx ka kb)) (fun ka a kb b K=>@Bool.rec (fun _=>An) none (K (.b (eqI a b))) (Lx ka kb)) (fun ka a kb b K=>@Bool.rec (fun _=>An) none (K (.b (RF (eqI a b)))) (Lx ka kb)) (fun ka a kb b K=>@Bool.rec (fun _=>An) none (K (.b (ZR a b))) (Lx ka kb)) (fun ka a kb b K=>@Bool.rec (fun _=>An) none (K (.b (RF (ZR b a)))) (Lx ka kb)) (fun ka a kb b K=>@Bool.rec (fun _=>An) none (K (.b (ZR b a))) (Lx ka kb)) (fun ka a kb b K=>@Bool.rec (fun _=>An) none (K (.b (RF (ZR a b)))) (Lx ka kb)) op ka a kb b K
theorem kX (op:BinOp) (vx vy:V) (K:V→An):eE op vx vy K=ob (S3 op vx vy) K:=by
 unfold eE;rw[VU];cases vx<;>first|rfl|skip
 rename_i ka a;simp only[isI,ob];rw[VU];cases vy<;>first|(cases op<;>rfl)|skip
 rename_i kb b;simp only[isI,ob];cases op<;>first|rfl|skip
 all_goals
  simp only[S3];simp only[BZ,kB,bT,k8,eL,uU,Rc,fH,eP,eO,Iy,Nw,ob]
  first
   | (cases decide (ka=kb)<;>rfl)
   | (cases Lt b 0<;>rfl)
noncomputable def X3 {α:Type} (t:Tr α) (k:Nat):Option α:=@Tr.rec α (fun _=>Nat→Option α) (fun _=>none) (fun o _ _ ihl ihr k=>@Nat.rec (fun _=>Option α) o (fun j _=>@Bool.rec (fun _=>Option α) (ihr (Nat.div j 2)) (ihl (Nat.div j 2)) (Nat.beq (Nat.mod j 2) 0)) k) t k
theorem SI {α:Type} (t:Tr α): ∀k:Nat,X3 t k=t.get k:=by
 induction t with
 | leaf=>intro k;rfl
 | node o l r ihl ihr=>
   intro k;cases k with
   | zero=>rfl
   | succ j=>
     show @Bool.rec (fun _=>Option α) (X3 r (j / 2)) (X3 l (j / 2)) (Nat.beq (j % 2) 0)=bif Nat.beq (j % 2) 0 then l.get (j / 2)else r.get (j / 2);rw[ihl,ihr];cases Nat.beq (j % 2) 0<;>rfl
noncomputable def RA {α β:Type} (x:Option α) (d:Nat) (t:Tr α) (k:Nat) (K:Tr α→β):β:=
 @Nat.rec (fun _=>Tr α→Nat→(Tr α→β)→β) (fun t _ K=>K t)
  (fun _ ih t k K=>@Tr.rec α (fun _=>Nat→(Tr α→β)→β)
   (fun k K=>@Nat.rec (fun _=>β) (K (.node x .leaf .leaf)) (fun j _=>@Bool.rec (fun _=>β) (ih .leaf (Nat.div j 2) fun r=>K (.node none .leaf r)) (ih .leaf (Nat.div j 2) fun l=>K (.node none l .leaf)) (Nat.beq (Nat.mod j 2) 0)) k)
   (fun o l r _ _ k K=>@Nat.rec (fun _=>β) (K (.node x l r)) (fun j _=>@Bool.rec (fun _=>β) (ih r (Nat.div j 2) fun r=>K (.node o l r)) (ih l (Nat.div j 2) fun l=>K (.node o l r)) (Nat.beq (Nat.mod j 2) 0)) k) t k K) d t k K
theorem Gi {α β:Type} (x:Option α): ∀(d:Nat) (t:Tr α) (k:Nat) (K:Tr α→β),RA x d t k K=Tr.put x d t k K
 | 0,t,k,K=>rfl
 | d+1,.leaf,0,K=>rfl
 | d+1,.node _ _ _,0,K=>rfl
 | d+1,.leaf,j+1,K=>by
   show @Bool.rec (fun _=>β) (RA x d .leaf (j / 2) fun r=>K (.node none .leaf r)) (RA x d .leaf (j / 2) fun l=>K (.node none l .leaf)) (Nat.beq (j % 2) 0)=bif Nat.beq (j % 2) 0 then _ else _;rw[Gi x d,Gi x d,BZ]
 | d+1,.node o l r,j+1,K=>by
   show @Bool.rec (fun _=>β) (RA x d r (j / 2) fun r=>K (.node o l r)) (RA x d l (j / 2) fun l=>K (.node o l r)) (Nat.beq (j % 2) 0)=bif Nat.beq (j % 2) 0 then _ else _;rw[Gi x d,Gi x d,BZ]
noncomputable def Zi (s:St) (o:EO) (K:Nat→St→An):An:=@Nat.rec (fun _=>An) (RA (some o) BL s.t 0 fun t=>K 0 ⟨1,t⟩) (fun n _=>@Bool.rec (fun _=>An) none (RA (some o) BL s.t (Nat.succ n) fun t=>K (Nat.succ n) ⟨Nat.succ (Nat.succ n),t⟩) (Nat.ble (Nat.succ n) Lw)) s.nx
theorem fM {γ:Type} (s:St) (o:EO) (f:Nat→St→Option γ) (K:γ→An):ob (s.new o f) K=Zi s o fun i s'=>ob (f i s') K:=by
 obtain⟨n,t⟩:=s;cases n with
 | zero=>
   unfold Zi;simp only[St.new];rw[Gi,Tr.put_eq,Tr.put_eq];rfl
 | succ n=>
   unfold Zi;simp only[St.new];rw[Gi,Tr.put_eq,Tr.put_eq,BZ,KH]
noncomputable def zR (o:EO) (K:List V→An):An:=@EO.rec (fun _=>(List V→An)→An) (fun vs K=>K vs) (fun _ _ _=>none) (fun _ _=>none) (fun _ _ _ _ _ _=>none) o K
noncomputable def sd (o:EO) (K:Nat→List (List V)→An):An:=@EO.rec (fun _=>(Nat→List (List V)→An)→An) (fun _ _=>none) (fun sz es K=>K sz es) (fun _ _=>none) (fun _ _ _ _ _ _=>none) o K
noncomputable def obQ {α:Type} (o:Option α) (K:α→An):An:=@Option.rec α (fun _=>(α→An)→An) (fun _=>none) (fun a K=>K a) o K
theorem aO {α:Type} (o:Option α) (K:α→An):obQ o K=ob o K:=by cases o<;>rfl
noncomputable def Wh (s:St) (n:Nat) (K:List V→An):An:=obQ (X3 s.t n) fun o=>zR o K
noncomputable def Ri (s:St) (n:Nat) (K:Nat→List (List V)→An):An:=obQ (X3 s.t n) fun o=>sd o K
theorem T2 (s:St) (n:Nat) (K:List V→An):Wh s n K=match s.t.get n with|some (.cs vs)=>K vs|_=>none:=by
 unfold Wh;rw[aO,SI];cases s.t.get n with
 | none=>rfl
 | some o=>cases o<;>rfl
theorem Qe (s:St) (n:Nat) (K:Nat→List (List V)→An):Ri s n K=match s.t.get n with|some (.arr sz es)=>K sz es|_=>none:=by
 unfold Ri;rw[aO,SI];cases s.t.get n with
 | none=>rfl
 | some o=>cases o<;>rfl
noncomputable def VE (agg:Option Nat) (cs:List V) (off:Nat) (K:V→An):An:=@Option.rec Nat (fun _=>List V→Nat→(V→An)→An) (fun cs off K=>RD cs off K)
 (fun n cs off K=>@Bool.rec (fun _=>An) (@Bool.rec (fun _=>An) none (K (.a (Wa (TO cs off) n))) (Nat.ble (Nat.add off n) (F5 cs))) (K (.a cs)) (@Bool.rec (fun _=>Bool) false (Nat.beq n (F5 cs)) (Nat.beq off 0))) agg cs off K
theorem Nq (agg:Option Nat) (cs:List V) (off:Nat) (K:V→An):VE agg cs off K=ob (S0 agg cs off) K:=by
 cases agg with
 | none=>exact K1 cs off K
 | some n=>
   show @Bool.rec (fun _=>An) (@Bool.rec (fun _=>An) none (K (.a (Wa (TO cs off) n))) (Nat.ble (off+n) (F5 cs))) (K (.a cs)) (@Bool.rec (fun _=>Bool) false (Nat.beq n (F5 cs)) (Nat.beq off 0))=_;simp only[S0];rw[bb,Oj,FM,KH];cases h1:Nat.beq off 0 with
   | false=>exact BZ _ _ _
   | true=>
     cases h2:Nat.beq n cs.length with
     | false=>exact BZ _ _ _
     | true=>
       have:=DA h1;subst this;have:=DA h2;subst this;show K (.a cs)=_;rw[Nat.ble_eq_true_of_le (by omega)];simp[ob]
noncomputable def Zx (s:St) (agg:Option Nat) (x:V) (K:V→An):An:=@V.rec (fun _=>St→Option Nat→(V→An)→An) (fun _=>Unit) (fun _=>Unit) (fun _ s agg K=>none) (fun _ _ s agg K=>none) (fun _ s agg K=>none) (fun s agg K=>none) (fun n off s agg K=>Wh s n fun vs=>VE agg vs off K) (fun cs _ s agg K=>VE agg cs 0 K) (fun _ _ _ s agg K=>none) (fun _ _ _ s agg K=>none) (fun _ _ _ _ s agg K=>none) (fun n sz i off s agg K=>Ri s n fun sz1 es=>@Bool.rec (fun _=>An) none (RD es i fun e=>VE agg e off K) (Nat.beq sz sz1)) (fun _ s agg K=>none) (fun s agg K=>none) (fun _ _ _ _ _ s agg K=>none) (fun s agg K=>none) (fun _ _ _ s agg K=>none) (fun s agg K=>none) (fun _ _ s agg K=>none) (fun _ _ s agg K=>none) (fun s agg K=>none) () (fun _ _ _ _=>()) () (fun _ _ _ _=>()) x s agg K
theorem cI (s:St) (agg:Option Nat) (x:V) (K:V→An):Zx s agg x K=ob (Ms s agg x) K:=by
 cases x<;>first|rfl|skip
 ·rename_i n off
  refine(T2 _ _ _).trans ?_;simp only[Ms];cases s.t.get n with
  | none=>rfl
  | some o=>cases o<;>first|rfl|exact Nq _ _ _ _
 ·exact Nq _ _ _ _
 ·rename_i n sz i off
  refine(Qe _ _ _).trans ?_;simp only[Ms];cases s.t.get n with
  | none=>rfl
  | some o=>
    cases o<;>first|rfl|skip
    rename_i sz1 es;simp only;rw[BZ,KH,K1];congr 1;cases es[i]? with
    | none=>rfl
    | some e=>exact Nq _ _ _ _
noncomputable def G3 (v:V) (K:List V→An):An:=@V.rec (fun _=>V→(List V→An)→An) (fun _=>Unit) (fun _=>Unit) (fun _ v K=>K [v]) (fun _ _ v K=>K [v]) (fun _ v K=>K [v]) (fun v K=>K [v]) (fun _ _ v K=>K [v]) (fun _ _ v K=>K [v]) (fun _ _ _ v K=>K [v]) (fun _ _ _ v K=>K [v]) (fun _ _ _ _ v K=>K [v]) (fun _ _ _ _ v K=>K [v]) (fun _ v K=>K [v]) (fun v K=>K [v]) (fun _ _ _ _ _ v K=>K [v]) (fun v K=>K [v]) (fun _ _ _ v K=>K [v]) (fun v K=>K [v]) (fun cs _ v K=>K cs) (fun _ _ v K=>none) (fun v K=>none) () (fun _ _ _ _=>()) () (fun _ _ _ _=>()) v v K
theorem Hf (v:V) (K:List V→An):G3 v K=ob (cellsOf v) K:=by cases v<;>rfl
noncomputable def yA (v:V):Bool:=@V.rec (fun _=>Bool) (fun _=>Unit) (fun _=>Unit) (fun _=>true) (fun _ _=>true) (fun _=>true) (true) (fun _ _=>true) (fun _ _=>true) (fun _ _ _=>true) (fun _ _ _=>true) (fun _ _ _ _=>true) (fun _ _ _ _=>true) (fun _=>true) (true) (fun _ _ _ _ _=>true) (true) (fun _ _ _=>true) (true) (fun _ _=>false) (fun _ _=>false) (false) () (fun _ _ _ _=>()) () (fun _ _ _ _=>()) v
theorem fF:yA=Cb:=funext fun v=>by cases v<;>rfl
noncomputable def Ze (cs:List V) (o:Nat) (vc:List V):List V:=@List.rec V (fun _=>List V→Nat→List V) (fun cs _=>cs) (fun v _ ih cs o=>ih (U7 cs o v) (Nat.succ o)) vc cs o
theorem Nh: ∀(vc cs:List V) (o:Nat),Ze cs o vc=putAt cs o vc
 | [],_,_=>rfl
 | v::r,cs,o=>by
   show Ze (U7 cs o v) (o+1) r=_;rw[Nh r,R2];rfl
noncomputable def df (cs:List V) (o:Nat) (vc:List V):List V:=@Bool.rec (fun _=>List V) (Ze cs o vc) vc (@Bool.rec (fun _=>Bool) false (Nat.beq (F5 vc) (F5 cs)) (Nat.beq o 0))
theorem YP: ∀(vc pre cs:List V),vc.length=cs.length→putAt (pre++cs) pre.length vc=pre++vc:=by
 intro vc
 induction vc with
 | nil=>intro pre cs hl;cases cs with
   | nil=>rfl
   | cons _ _=>cases hl
 | cons x vc ih=>
   intro pre cs hl;cases cs with
   | nil=>cases hl
   | cons y cs=>
     simp only[putAt];rw[List.set_append_right _ _ (Nat.le_refl _),Nat.sub_self,List.set_cons_zero];have:=ih (pre++[x]) cs (by simpa using hl);simp only[Sl,NW,List.length_nil,Nat.zero_add,WU,List.singleton_append]at this;exact this
theorem Wz (cs:List V) (o:Nat) (vc:List V):df cs o vc=putAt cs o vc:=by
 unfold df;cases h1:Nat.beq o 0 with
 | false=>exact Nh vc cs o
 | true=>
   rw[FM,FM];cases h2:Nat.beq vc.length cs.length with
   | false=>exact Nh vc cs o
   | true=>
     have:=DA h1;subst this;exact(YP vc [] cs (DA h2)).symm
noncomputable def aF (s:St) (sz:Nat) (a:V) (vc:List V) (K:St→An):An:=@V.rec (fun _=>St→Nat→List V→(St→An)→An) (fun _=>Unit) (fun _=>Unit) (fun _ s sz vc K=>none) (fun _ _ s sz vc K=>none) (fun _ s sz vc K=>none) (fun s sz vc K=>none) (fun n off s sz vc K=>Wh s n fun vs=>@Bool.rec (fun _=>An) none (RA (some (.cs (df vs off vc))) BL s.t n fun t=>K ⟨s.nx,t⟩) (Nat.ble (Nat.add off sz) (F5 vs))) (fun _ _ s sz vc K=>none) (fun _ _ _ s sz vc K=>none) (fun _ _ _ s sz vc K=>none) (fun _ _ _ _ s sz vc K=>none) (fun n s' i off s sz vc K=>Ri s n fun s1 es=>@Bool.rec (fun _=>An) none (@Bool.rec (fun _=>An) none (RD es i fun e=>RA (some (.arr s1 (U7 es i (df e off vc)))) BL s.t n fun t=>K ⟨s.nx,t⟩) (Nat.ble (Nat.add off sz) s')) (Nat.beq s' s1)) (fun _ s sz vc K=>none) (fun s sz vc K=>none) (fun _ _ _ _ _ s sz vc K=>none) (fun s sz vc K=>none) (fun _ _ _ s sz vc K=>none) (fun s sz vc K=>none) (fun _ _ s sz vc K=>none) (fun _ _ s sz vc K=>none) (fun s sz vc K=>none) () (fun _ _ _ _=>()) () (fun _ _ _ _=>()) a s sz vc K
noncomputable def RU (s:St) (sz:Nat) (a x:V) (K:St→An):An:=G3 x fun vc=>@Bool.rec (fun _=>An) none (@Bool.rec (fun _=>An) none (aF s sz a vc K) (sG yA vc)) (Nat.beq (F5 vc) sz)
theorem YD (s : St) (sz:Nat) (a x:V) (K:St→An):RU s sz a x K=ob (OO s sz a x) K:=by
 unfold RU OO;rw[Hf];cases cellsOf x with
 | none=>rfl
 | some vc =>
   simp only[ob,FM,kg,fF];cases Nat.beq vc.length sz with
   | false=>rfl
   | true=>
     cases vc.all Cb with
     | false=>rfl
     | true=>
       simp only[Bool.and_true,cond_true];show aF s sz a vc K=_;cases a<;>first|rfl|skip
       ·rename_i n off
        refine(T2 _ _ _).trans ?_;simp only;cases s.t.get n with
        | none=>rfl
        | some o=>
          cases o<;>first|rfl|skip
          rename_i vs;simp only;rw[Gi,Tr.put_eq,Wz,FM,BZ,Tr.put_eq];show(bif Nat.ble (off+sz) vs.length then _ else none)=_;cases Nat.ble (off+sz) vs.length<;>rfl
       ·rename_i n s' i off
        refine(Qe _ _ _).trans ?_;simp only;cases s.t.get n with
        | none=>rfl
        | some o=>
          cases o<;>first|rfl|skip
          rename_i s1 es;simp only;rw[BZ,BZ,K1];show(bif Nat.beq s' s1 then(bif Nat.ble (off+sz) s' then _ else none)else none)=_;cases Nat.beq s' s1<;>cases Nat.ble (off+sz) s'<;>try rfl
          simp only[cond_true,Bool.and_true];cases es[i]? with
          | none=>rfl
          | some e=>
            simp only[ob];rw[Gi,Tr.put_eq,Wz,R2,Tr.put_eq]
noncomputable def VQ (off:Nat) (x:V) (K:V→An):An:=@V.rec (fun _=>Nat→(V→An)→An) (fun _=>Unit) (fun _=>Unit) (fun _ off K=>none) (fun _ _ off K=>none) (fun _ off K=>none) (fun off K=>none) (fun n o off K=>K (.p n (Nat.add o off))) (fun cs _ off K=>K (.rp (TO cs off))) (fun _ _ _ off K=>none) (fun _ _ _ off K=>none) (fun _ _ _ _ off K=>none) (fun n sz i o off K=>K (.pe n sz i (Nat.add o off))) (fun _ off K=>none) (fun off K=>none) (fun _ _ _ _ _ off K=>none) (fun off K=>none) (fun _ _ _ off K=>none) (fun off K=>none) (fun _ _ off K=>none) (fun _ _ off K=>none) (fun off K=>none) () (fun _ _ _ _=>()) () (fun _ _ _ _=>()) x off K
theorem Yy (off:Nat) (x:V) (K:V→An):VQ off x K=ob (Rq off x) K:=by
 cases x<;>first|rfl|skip
 show K (.rp (TO _ off))=_;rw[Oj];rfl
noncomputable def aZ (sz:Nat) (x:V) (j:Int) (K:V→An):An:=@V.rec (fun _=>Nat→Int→(V→An)→An) (fun _=>Unit) (fun _=>Unit) (fun _ sz j K=>none) (fun _ _ sz j K=>none) (fun _ sz j K=>none) (fun sz j K=>none) (fun _ _ sz j K=>none) (fun _ _ sz j K=>none) (fun es _ _ sz j K=>RD es (ZY j) fun e=>@Bool.rec (fun _=>An) none (K (.rp e)) (Nat.beq (F5 e) sz)) (fun n len _ sz j K=>@Bool.rec (fun _=>An) none (K (.pe n sz (ZY j) 0)) (ZR j (Int.ofNat len))) (fun n s off len sz j K=>@Bool.rec (fun _=>An) none (@Bool.rec (fun _=>An) none (K (.pe n sz (Nat.add off (ZY j)) 0)) (ZR j (Int.ofNat len))) (Nat.beq s sz)) (fun _ _ _ _ sz j K=>none) (fun _ sz j K=>none) (fun sz j K=>none) (fun _ _ _ _ _ sz j K=>none) (fun sz j K=>none) (fun _ _ _ sz j K=>none) (fun sz j K=>none) (fun _ _ sz j K=>none) (fun _ _ sz j K=>none) (fun sz j K=>none) () (fun _ _ _ _=>()) () (fun _ _ _ _=>()) x sz j K
noncomputable def VN (sz:Nat) (arr:Option Nat) (x i:V) (K:V→An):An:=@Option.rec Nat (fun _=>Nat→V→V→(V→An)→An) (fun sz x i K=>asI i fun _ j=>@Bool.rec (fun _=>An) (aZ sz x j K) none (ZR j 0)) (fun m sz x i K=>ob (L9 sz (some m) x i) K) arr sz x i K
theorem Yk (sz:Nat) (arr:Option Nat) (x i:V) (K:V→An):VN sz arr x i K=ob (L9 sz arr x i) K:=by
 cases arr with
 | some m=>rfl
 | none=>
   refine(VU _ _).trans ?_;cases i<;>first|rfl|skip
   rename_i k j;simp only[isI,ob,L9,Nw,Rc];cases Lt j 0 with
   | true=>rfl
   | false=>
     show aZ sz x j K=_;cases x<;>first|rfl|skip
     ·rename_i es full
      show RD es (ZY j) _=_;rw[K1,OI];simp only[Bool.not_false,cond_true];cases es[j.toNat]? with
      | none=>rfl
      | some e=>
        simp only[ob,FM];cases Nat.beq e.length sz<;>rfl
     ·rename_i n len cap
      show @Bool.rec (fun _=>An) none (K (.pe n sz (ZY j) 0)) (ZR j (Int.ofNat len))=_;rw[OI,Rc];simp only[Bool.not_false,cond_true];have:Lt j (Int.ofNat len)=Lt j (len:Int):=rfl;rw[this];cases Lt j (len:Int)<;>rfl
     ·rename_i n s off len
      show @Bool.rec (fun _=>An) none (@Bool.rec (fun _=>An) none (K (.pe n sz (off+ZY j) 0)) (ZR j (Int.ofNat len))) (Nat.beq s sz)=_;rw[OI,Rc];simp only[Bool.not_false,cond_true];have:Lt j (Int.ofNat len)=Lt j (len:Int):=rfl;rw[this];cases Nat.beq s sz<;>cases Lt j (len:Int)<;>rfl
noncomputable def r8 (x:V) (K:V→An):An:=@V.rec (fun _=>(V→An)→An) (fun _=>Unit) (fun _=>Unit) (fun _ K=>none) (fun _ _ K=>none) (fun _ K=>none) (fun K=>none) (fun _ _ K=>none) (fun _ _ K=>none) (fun es _ _ K=>K (.i .i64 (Int.ofNat (F5 es)))) (fun _ len _ K=>@Bool.rec (fun _=>An) none (K (.i .i64 (Int.ofNat len))) (Nat.ble len Ak)) (fun _ _ _ len K=>@Bool.rec (fun _=>An) none (K (.i .i64 (Int.ofNat len))) (Nat.ble len Ak)) (fun _ _ _ _ K=>none) (fun _ K=>none) (fun K=>none) (fun _ _ _ _ _ K=>none) (fun K=>none) (fun _ _ _ K=>none) (fun K=>none) (fun _ _ K=>none) (fun _ _ K=>none) (fun K=>none) () (fun _ _ _ _=>()) () (fun _ _ _ _=>()) x K
theorem fP (x:V) (K:V→An):r8 x K=ob (X6 x) K:=by
 cases x<;>first|rfl|skip
 ·show K (.i .i64 (Int.ofNat (F5 _)))=_
  rw[FM];rfl
 ·show @Bool.rec (fun _=>An) none _ (Nat.ble _ Ak)=_
  rw[BZ];simp only[X6];rw[KH];rfl
 ·show @Bool.rec (fun _=>An) none _ (Nat.ble _ Ak)=_
  rw[BZ];simp only[X6];rw[KH];rfl
noncomputable def VJ (x:V) (K:V→An):An:=@V.rec (fun _=>V→(V→An)→An) (fun _=>Unit) (fun _=>Unit) (fun _ x K=>none) (fun _ _ x K=>none) (fun _ x K=>none) (fun x K=>none) (fun _ _ x K=>K x) (fun _ _ x K=>K x) (fun _ _ _ x K=>none) (fun _ _ _ x K=>none) (fun _ _ _ _ x K=>none) (fun _ _ _ _ x K=>K x) (fun _ x K=>none) (fun x K=>none) (fun _ _ _ _ _ x K=>ob (L8 x) K) (fun x K=>none) (fun _ _ _ x K=>none) (fun x K=>none) (fun _ _ x K=>none) (fun _ _ x K=>none) (fun x K=>none) () (fun _ _ _ _=>()) () (fun _ _ _ _=>()) x x K
theorem YY (x:V) (K:V→An):VJ x K=ob (L8 x) K:=by cases x<;>rfl
noncomputable def asT (v:V) (K:List V→An):An:=@V.rec (fun _=>(List V→An)→An) (fun _=>Unit) (fun _=>Unit) (fun _ K=>none) (fun _ _ K=>none) (fun _ K=>none) (fun K=>none) (fun _ _ K=>none) (fun _ _ K=>none) (fun _ _ _ K=>none) (fun _ _ _ K=>none) (fun _ _ _ _ K=>none) (fun _ _ _ _ K=>none) (fun _ K=>none) (fun K=>none) (fun _ _ _ _ _ K=>none) (fun K=>none) (fun _ _ _ K=>none) (fun K=>none) (fun _ _ K=>none) (fun vs _ K=>K vs) (fun K=>none) () (fun _ _ _ _=>()) () (fun _ _ _ _=>()) v K
noncomputable def lF (v:V) (K:Bool→An):An:=@V.rec (fun _=>(Bool→An)→An) (fun _=>Unit) (fun _=>Unit) (fun x K=>K x) (fun _ _ K=>none) (fun _ K=>none) (fun K=>none) (fun _ _ K=>none) (fun _ _ K=>none) (fun _ _ _ K=>none) (fun _ _ _ K=>none) (fun _ _ _ _ K=>none) (fun _ _ _ _ K=>none) (fun _ K=>none) (fun K=>none) (fun _ _ _ _ _ K=>none) (fun K=>none) (fun _ _ _ K=>none) (fun K=>none) (fun _ _ K=>none) (fun _ _ K=>none) (fun K=>none) () (fun _ _ _ _=>()) () (fun _ _ _ _=>()) v K
noncomputable def asA (v:V) (K:List V→An):An:=@V.rec (fun _=>(List V→An)→An) (fun _=>Unit) (fun _=>Unit) (fun _ K=>none) (fun _ _ K=>none) (fun _ K=>none) (fun K=>none) (fun _ _ K=>none) (fun _ _ K=>none) (fun _ _ _ K=>none) (fun _ _ _ K=>none) (fun _ _ _ _ K=>none) (fun _ _ _ _ K=>none) (fun _ K=>none) (fun K=>none) (fun _ _ _ _ _ K=>none) (fun K=>none) (fun _ _ _ K=>none) (fun K=>none) (fun cs _ K=>K cs) (fun _ _ K=>none) (fun K=>none) () (fun _ _ _ _=>()) () (fun _ _ _ _=>()) v K
noncomputable def VC (v:V) (K:V→An):An:=@V.rec (fun _=>V→(V→An)→An) (fun _=>Unit) (fun _=>Unit) (fun x v K=>@Bool.rec (fun _=>An) (K (.b false)) (K (.b true)) x) (fun k n v K=>@Int.rec (fun _=>An) (fun m=>@Nat.rec (fun _=>An) (K (.i k (Int.ofNat 0))) (fun j _=>K (.i k (Int.ofNat (Nat.succ j)))) m) (fun m=>@Nat.rec (fun _=>An) (K (.i k (Int.negSucc 0))) (fun j _=>K (.i k (Int.negSucc (Nat.succ j)))) m) n) (fun _ v K=>K v) (fun v K=>K v) (fun _ _ v K=>K v) (fun _ _ v K=>K v) (fun _ _ _ v K=>K v) (fun _ _ _ v K=>K v) (fun _ _ _ _ v K=>K v) (fun _ _ _ _ v K=>K v) (fun _ v K=>K v) (fun v K=>K v) (fun _ _ _ _ _ v K=>K v) (fun v K=>K v) (fun _ _ _ v K=>K v) (fun v K=>K v) (fun _ _ v K=>K v) (fun _ _ v K=>K v) (fun v K=>K v) () (fun _ _ _ _=>()) () (fun _ _ _ _=>()) v v K
theorem XP (v:V) (K:V→An):VC v K=K v:=by
 cases v<;>first|rfl|skip
 ·rename_i x;cases x<;>rfl
 ·rename_i k n
  cases n with
  | ofNat m=>cases m<;>rfl
  | negSucc m=>cases m<;>rfl
def fin (o:Option (R×St)) (k kp:V→St→An):An:=match o with
 | some (.ret v,s)=>k v s
 | some (.By v,s)=>kp v s
 | none=>none
noncomputable def Cc (o:Option (R×St)) (k kp:V→St→An):An:=@Option.rec (R×St) (fun _=>(V→St→An)→(V→St→An)→An) (fun _ _=>none) (fun p k kp=>@R.rec (fun _=>St→(V→St→An)→(V→St→An)→An) (fun v s k _=>k v s) (fun v s _ kp=>kp v s) p.1 p.2 k kp) o k kp
theorem B5 (o:Option (R×St)) (k kp:V→St→An):Cc o k kp=fin o k kp:=by
 cases o with
 | none=>rfl
 | some p=>
   obtain⟨r,s⟩:=p;cases r<;>rfl
theorem G1 (o:Option V) (s:St) (k kp:V→St→An):fin (ov o s) k kp=ob o fun v=>k v s:=by cases o<;>rfl
theorem uT (o:Option St) (k kp:V→St→An):fin (os o) k kp=ob o fun s=>k (.t []) s:=by cases o<;>rfl
theorem Bh {α:Type} (o:Option α) (f:α→Option (R×St)) (k kp:V→St→An):fin (ob o f) k kp=ob o fun a=>fin (f a) k kp:=by cases o<;>rfl
abbrev OK:=CF→CV→CP→Cd→St→(V→St→An)→(V→St→An)→An
noncomputable def Rm (e:Cd) (ps:List (Nat×Nat×B1)) (cs:List V) (K:List V→An):An:=@List.rec (Nat×Nat×B1) (fun _=>List V→(List V→An)→An) (fun cs K=>K cs)
 (fun p _ ih cs K=>B9 p.2.2 e fun v=>G3 v fun vc=>@Bool.rec (fun _=>An) none (@Bool.rec (fun _=>An) none (ih (Ze cs p.1 vc) K) (Nat.ble (Nat.add p.1 p.2.1) (F5 cs))) (Nat.beq (F5 vc) p.2.1)) ps cs K
theorem Qi {e:Cd} {env:Env} (he:Ib e env): ∀(ps:List (Nat×Nat×B1)) (cs:List V) (K:List V→An),Rm e ps cs K=ob (MA env cs ps) K
 | [],cs,K=>rfl
 | (off, sz,x)::r,cs,K=>by
   show(B9 x e fun v=>G3 v fun vc=>@Bool.rec (fun _=>An) none (@Bool.rec (fun _=>An) none (Rm e r (Ze cs off vc) K) (Nat.ble (off+sz) (F5 cs))) (Nat.beq (F5 vc) sz))=_;rw[BJ he];simp only[MA];cases Dj env x with
   | none=>rfl
   | some v=>
     simp only[ob];rw[Hf];cases cellsOf v with
     | none=>rfl
     | some vc=>
       simp only[ob,FM,Nh];cases Nat.beq vc.length sz with
       | false=>rfl
       | true=>
         cases Nat.ble (off+sz) cs.length with
         | false=>rfl
         | true=>exact Qi he r _ K
noncomputable def Rn (e:Cd) (sz:Nat) (ps:List (Nat×B1)) (es:List (List V)) (K:List (List V)→An):An:=@List.rec (Nat×B1) (fun _=>List (List V)→(List (List V)→An)→An) (fun es K=>K es)
 (fun p _ ih es K=>B9 p.2 e fun v=>G3 v fun vc=>@Bool.rec (fun _=>An) none (@Bool.rec (fun _=>An) none (ih (U7 es p.1 vc) K) (Nat.ble (Nat.succ p.1) (F5 es))) (Nat.beq (F5 vc) sz)) ps es K
theorem Qk {e:Cd} {env:Env} (he:Ib e env) (sz:Nat): ∀(ps:List (Nat×B1)) (es:List (List V)) (K:List (List V)→An),Rn e sz ps es K=ob (MB env sz es ps) K
 | [],es,K=>rfl
 | (i, x)::r,es,K=>by
   show(B9 x e fun v=>G3 v fun vc=>@Bool.rec (fun _=>An) none (@Bool.rec (fun _=>An) none (Rn e sz r (U7 es i vc) K) (Nat.ble (Nat.succ i) (F5 es))) (Nat.beq (F5 vc) sz))=_;rw[BJ he];simp only[MB];cases Dj env x with
   | none=>rfl
   | some v=>
     simp only[ob];rw[Hf];cases cellsOf v with
     | none=>rfl
     | some vc=>
       simp only[ob,FM,R2,Nat.blt,Nat.succ_eq_add_one];cases Nat.beq vc.length sz with
       | false=>rfl
       | true=>
         cases Nat.ble (i+1) es.length with
         | false=>rfl
         | true=>exact Qk he sz r _ K
noncomputable def opK (o:FA):OK:=@FA.rec (fun _=>OK)
 (fun x cf cv cp env s kk kp=>B9 x env fun v=>kk v s)
 (fun x cf cv cp env s kk kp=>B9 x env fun v=>kk v s)
 (fun c a b cf cv cp env s kk kp=>B9 c env fun vc=>B9 a env fun va=>B9 b env fun vb=>lF vc fun t=>@Bool.rec (fun _=>An) (kk vb s) (kk va s) t)
 (fun op x y cf cv cp env s kk kp=>B9 x env fun vx=>B9 y env fun vy=>eE op vx vy fun v=>kk v s)
 (fun neg x y cf cv cp env s kk kp=>B9 x env fun vx=>B9 y env fun vy=>Cc (match vx,vy with| .b p,.b q=>some (.ret (.b (bif neg then p != q else p==q)),s)|_,_=>none) kk kp)
 (fun len neg x y cf cv cp env s kk kp=>B9 x env fun vx=>B9 y env fun vy=>Cc (ov (Zp len neg vx vy) s) kk kp)
 (fun kind neg x cf cv cp env s kk kp=>B9 x env fun vx=>Cc (ov (Zo kind neg vx) s) kk kp)
 (fun x cf cv cp env s kk kp=>B9 x env fun vx=>lF vx fun p=>kk (.b (RF p)) s)
 (fun xor x cf cv cp env s kk kp=>B9 x env fun vx=>Cc (match vx with| .i ka a=>some (.ret (.i ka (bif xor then bits .xor ka (bif ka.signed then -1 else ka.max) a else ka.wrap (0 - a))),s)|_=>none) kk kp)
 (fun k x cf cv cp env s kk kp=>B9 x env fun vx=>Cc (match vx with| .i _ a=>some (.ret (.i k (IG k a)),s)|_=>none) kk kp)
 (fun x cf cv cp env s kk kp=>B9 x env fun vx=>G3 vx fun cs=>Zi s (.cs cs) fun i s=>kk (.p i 0) s)
 (fun x cf cv cp env s kk kp=>B9 x env fun vx=>G3 vx fun cs=>kk (.rp cs) s)
 (fun sz bytes x y cf cv cp env s kk kp=>B9 x env fun vx=>B9 y env fun vy=>Cc (ov (TN bytes s sz vx vy) s) kk kp)
 (fun zero cf cv cp env s kk kp=>Cc (bif BX zero then s.new (.cs zero) fun i s=>some (.ret (.p i 0),s)else none) kk kp)
 (fun zero parts cf cv cp env s kk kp=>@Bool.rec (fun _=>An) none (Rm env parts zero fun cs=>kk (.a cs) s) (BX zero))
 (fun sz len zero parts cf cv cp env s kk kp=>@Bool.rec (fun _=>An) none (Rn env (F5 zero) parts (List.replicate len zero) fun es=>kk (.l es true) s) (BX zero))
 (fun agg x cf cv cp env s kk kp=>B9 x env fun vx=>Zx s agg vx fun v=>kk v s)
 (fun sz a x cf cv cp env s kk kp=>B9 a env fun va=>B9 x env fun vx=>RU s sz va vx fun s=>kk (.t []) s)
 (fun off x cf cv cp env s kk kp=>B9 x env fun vx=>VQ off vx fun v=>kk v s)
 (fun agg off x cf cv cp env s kk kp=>B9 x env fun vx=>asA vx fun cs=>VE agg cs off fun v=>kk v s)
 (fun sz arr x i cf cv cp env s kk kp=>B9 x env fun vx=>B9 i env fun vi=>VN sz arr vx vi fun v=>kk v s)
 (fun len sz agg x i cf cv cp env s kk kp=>B9 x env fun vx=>B9 i env fun vi=>Cc (ov (OQ len sz agg vx vi) s) kk kp)
 (fun sz x lo hi mx cf cv cp env s kk kp=>B9 x env fun vx=>VA lo env fun l=>VA hi env fun h=>VA mx env fun m=>Cc (Xv (OP s sz vx l h m)) kk kp)
 (fun x cf cv cp env s kk kp=>B9 x env fun vx=>r8 vx fun v=>kk v s)
 (fun x cf cv cp env s kk kp=>B9 x env fun vx=>Cc (ov (TL s vx) s) kk kp)
 (fun x cf cv cp env s kk kp=>B9 x env fun vx=>Cc (ov (Zn s vx) s) kk kp)
 (fun x i cf cv cp env s kk kp=>B9 x env fun vx=>B9 i env fun vi=>Cc (ov (TK vx vi) s) kk kp)
 (fun sz bytes x y cf cv cp env s kk kp=>B9 x env fun vx=>B9 y env fun vy=>Cc (Xv (K9 bytes s sz vx vy)) kk kp)
 (fun sz x y cf cv cp env s kk kp=>B9 x env fun vx=>B9 y env fun vy=>Cc (Xv (TM s sz vx vy)) kk kp)
 (fun x y cf cv cp env s kk kp=>B9 x env fun vx=>B9 y env fun vy=>Cc (match vx,vy with| .i ka a,.i kb b=>bif decide (ka=kb)then some (.ret (.i ka (bif Lt a b then b else a)),s)else none|_,_=>none) kk kp)
 (fun x y cf cv cp env s kk kp=>B9 x env fun vx=>B9 y env fun vy=>Cc (match vx,vy with| .i ka a,.i kb b=>bif decide (ka=kb)then some (.ret (.i ka (bif Lt b a then b else a)),s)else none|_,_=>none) kk kp)
 (fun i x cf cv cp env s kk kp=>B9 x env fun vx=>asT vx fun vs=>RD vs i fun v=>kk v s)
 (fun x cf cv cp env s kk kp=>B9 x env fun vx=>VJ vx fun v=>kk v s)
 (fun f first cap cf cv cp env s kk kp=>Kk first env fun vf=>Kk cap env fun vc=>@Bool.rec (fun _=>An) none (kk (.f f vf vc) s) (L2 f))
 (fun cf cv cp env s kk kp=>Cc (s.new (.map []) fun i s=>some (.ret (.m i),s)) kk kp)
 (fun sz bytes zero len cap cf cv cp env s kk kp=>B9 len env fun vx=>B9 cap env fun vy=>Cc (Xv (I3 s sz zero vx vy)) kk kp)
 (fun ks zero ok m k cf cv cp env s kk kp=>B9 m env fun vm=>B9 k env fun vk=>Cc (ov (K7 s ks zero ok vm vk) s) kk kp)
 (fun ks m k v cf cv cp env s kk kp=>B9 m env fun vm=>B9 k env fun vk=>B9 v env fun vx=>Cc (os (K6 s ks vm vk vx)) kk kp)
 (fun t x cf cv cp env s kk kp=>B9 x env fun vx=>kk (.E2 t vx) s)
 (fun t zero ok x cf cv cp env s kk kp=>B9 x env fun vx=>Cc (ov (Zm t zero ok vx) s) kk kp)
 (fun x cf cv cp env s kk kp=>B9 x env fun vx=>Cc (match vx with| .E2 t v=>some (.By (.E2 t v),s)|_=>none) kk kp)
 (fun f args cf cv cp env s kk kp=>Kk args env fun vs=>Cc (cf f vs s) kk kp)
 (fun f args cf cv cp env s kk kp=>Kk args env fun vs=>Cc (ov (cp f vs) s) kk kp)
 (fun x args cf cv cp env s kk kp=>B9 x env fun vx=>Kk args env fun vs=>Cc (cv vx vs s) kk kp)
 (fun x args cf cv cp env s kk kp=>none)
 (fun tab x args cf cv cp env s kk kp=>B9 x env fun vx=>Kk args env fun vs=>Cc (match vx with| .E2 t v=>ob (look t tab) fun f=>cf f (v::vs) s|_=>none) kk kp) o
theorem bu {vc va vb:V} {s:St} {kk kp:V→St→An}:lF vc (fun t=>@Bool.rec (fun _=>An) (kk vb s) (kk va s) t)=fin (match vc with| .b t=>some (.ret (bif t then va else vb),s)|_=>none) kk kp:=by
 cases vc<;>first|rfl|skip
 rename_i t;cases t<;>rfl
theorem not_eq {vx:V} {s:St} {kk kp:V→St→An}:lF vx (fun p=>kk (.b (RF p)) s)=fin (match vx with| .b p=>some (.ret (.b (!p)),s)|_=>none) kk kp:=by
 cases vx<;>first|rfl|skip
 rename_i t;cases t<;>rfl
theorem SM {c:Bool} {x:Option (R×St)} {kk kp:V→St→An}:fin (bif c then x else none) kk kp=bif c then fin x kk kp else none:=by cases c<;>rfl
theorem aN {e:Cd} {env:Env} (he:Ib e env) (o:FA) (cf:CF) (cv:CV) (cp:CP) (s:St) (kk kp:V→St→An):opK o cf cv cp e s kk kp=fin (Fq cf cv cp o env s) kk kp:=by
 cases o with
 | mv x=>
   show(B9 x e fun v=>kk v s)=_;simp only[BJ he,Fq,G1]
 | Ux x=>
   show(B9 x e fun v=>kk v s)=_;simp only[BJ he,Fq,G1]
 | pick c a b=>
   show(B9 c e fun vc=>B9 a e fun va=>B9 b e fun vb=>lF vc fun t=>@Bool.rec (fun _=>An) (kk vb s) (kk va s) t)=_;simp only[BJ he,Fq,Bh,bu (kp:=kp)];rfl
 | bin op x y=>
   show(B9 x e fun vx=>B9 y e fun vy=>eE op vx vy fun v=>kk v s)=_;simp only[BJ he,Fq,Bh,G1,kX]
 | Sk neg x y=>
   show(B9 x e fun vx=>B9 y e fun vy=>Cc (match vx,vy with| .b p,.b q=>some (.ret (.b (bif neg then p != q else p==q)),s)|_,_=>none) kk kp)=_;simp only[BJ he,B6 he,CH he,Fq,Bh,B5]
   try rfl
 | dR len neg x y=>
   show(B9 x e fun vx=>B9 y e fun vy=>Cc (ov (Zp len neg vx vy) s) kk kp)=_;simp only[BJ he,B6 he,CH he,Fq,Bh,B5]
   try rfl
 | U0 kind neg x=>
   show(B9 x e fun vx=>Cc (ov (Zo kind neg vx) s) kk kp)=_;simp only[BJ he,B6 he,CH he,Fq,Bh,B5]
   try rfl
 | not x=>
   show(B9 x e fun vx=>lF vx fun p=>kk (.b (RF p)) s)=_;simp only[BJ he,Fq,Bh,not_eq (kp:=kp)];rfl
 | neg xor x=>
   show(B9 x e fun vx=>Cc (match vx with| .i ka a=>some (.ret (.i ka (bif xor then bits .xor ka (bif ka.signed then -1 else ka.max) a else ka.wrap (0 - a))),s)|_=>none) kk kp)=_;simp only[BJ he,B6 he,CH he,Fq,Bh,B5]
   try rfl
 | conv k x=>
   show(B9 x e fun vx=>Cc (match vx with| .i _ a=>some (.ret (.i k (IG k a)),s)|_=>none) kk kp)=_;simp only[BJ he,B6 he,CH he,Fq,Bh,B5]
   try rfl
 | box x=>
   show(B9 x e fun vx=>G3 vx fun cs=>Zi s (.cs cs) fun i s=>kk (.p i 0) s)=_;simp only[BJ he,Fq,Bh,Hf];congr 1;funext vx;congr 1;funext cs;have: ∀o:Option (R×St),fin o kk kp=ob o fun p=>fin (some p) kk kp:=fun o=>by cases o<;>rfl
   rw[this,fM];rfl
 | NQ x=>
   show(B9 x e fun vx=>G3 vx fun cs=>kk (.rp cs) s)=_;simp only[BJ he,Fq,Bh,Hf];rfl
 | N6 sz bytes x y=>
   show(B9 x e fun vx=>B9 y e fun vy=>Cc (ov (TN bytes s sz vx vy) s) kk kp)=_;simp only[BJ he,B6 he,CH he,Fq,Bh,B5]
   try rfl
 | alloc zero=>
   show(Cc (bif BX zero then s.new (.cs zero) fun i s=>some (.ret (.p i 0),s)else none) kk kp)=_;simp only[B5,Fq]
 | build zero parts=>
   show(@Bool.rec (fun _=>An) none (Rm e parts zero fun cs=>kk (.a cs) s) (BX zero))=_;simp only[Fq,SM,Bh,Qi he,BZ];rfl
 | Ab sz len zero parts=>
   show(@Bool.rec (fun _=>An) none (Rn e (F5 zero) parts (List.replicate len zero) fun es=>kk (.l es true) s) (BX zero))=_;simp only[Fq,SM,Bh,Qk he,BZ,FM];rfl
 | load agg x=>
   show(B9 x e fun vx=>Zx s agg vx fun v=>kk v s)=_;simp only[BJ he,Fq,Bh,G1,cI]
 | store sz a x=>
   show(B9 a e fun va=>B9 x e fun vx=>RU s sz va vx fun s=>kk (.t []) s)=_;simp only[BJ he,Fq,Bh,uT,YD]
 | HH off x=>
   show(B9 x e fun vx=>VQ off vx fun v=>kk v s)=_;simp only[BJ he,Fq,Bh,G1,Yy]
 | field agg off x=>
   show(B9 x e fun vx=>asA vx fun cs=>VE agg cs off fun v=>kk v s)=_;simp only[BJ he,Fq,Bh];congr 1;funext vx;cases vx<;>first|rfl|skip
   show VE agg _ off _=_;rw[Nq,G1]
 | Bi sz arr x i=>
   show(B9 x e fun vx=>B9 i e fun vi=>VN sz arr vx vi fun v=>kk v s)=_;simp only[BJ he,Fq,Bh,G1,Yk]
 | index len sz agg x i=>
   show(B9 x e fun vx=>B9 i e fun vi=>Cc (ov (OQ len sz agg vx vi) s) kk kp)=_;simp only[BJ he,B6 he,CH he,Fq,Bh,B5]
   try rfl
 | slice sz x lo hi mx=>
   show(B9 x e fun vx=>VA lo e fun l=>VA hi e fun h=>VA mx e fun m=>Cc (Xv (OP s sz vx l h m)) kk kp)=_;simp only[BJ he,B6 he,CH he,Fq,Bh,B5]
   try rfl
 | len x=>
   show(B9 x e fun vx=>r8 vx fun v=>kk v s)=_;simp only[BJ he,Fq,Bh,G1,fP]
 | RG x=>
   show(B9 x e fun vx=>Cc (ov (TL s vx) s) kk kp)=_;simp only[BJ he,B6 he,CH he,Fq,Bh,B5]
   try rfl
 | str x=>
   show(B9 x e fun vx=>Cc (ov (Zn s vx) s) kk kp)=_;simp only[BJ he,B6 he,CH he,Fq,Bh,B5]
   try rfl
 | Pe x i=>
   show(B9 x e fun vx=>B9 i e fun vi=>Cc (ov (TK vx vi) s) kk kp)=_;simp only[BJ he,B6 he,CH he,Fq,Bh,B5]
   try rfl
 | append sz bytes x y=>
   show(B9 x e fun vx=>B9 y e fun vy=>Cc (Xv (K9 bytes s sz vx vy)) kk kp)=_;simp only[BJ he,B6 he,CH he,Fq,Bh,B5]
   try rfl
 | copy sz x y=>
   show(B9 x e fun vx=>B9 y e fun vy=>Cc (Xv (TM s sz vx vy)) kk kp)=_;simp only[BJ he,B6 he,CH he,Fq,Bh,B5]
   try rfl
 | Jb x y=>
   show(B9 x e fun vx=>B9 y e fun vy=>Cc (match vx,vy with| .i ka a,.i kb b=>bif decide (ka=kb)then some (.ret (.i ka (bif Lt a b then b else a)),s)else none|_,_=>none) kk kp)=_;simp only[BJ he,B6 he,CH he,Fq,Bh,B5]
   try rfl
 | NM x y=>
   show(B9 x e fun vx=>B9 y e fun vy=>Cc (match vx,vy with| .i ka a,.i kb b=>bif decide (ka=kb)then some (.ret (.i ka (bif Lt b a then b else a)),s)else none|_,_=>none) kk kp)=_;simp only[BJ he,B6 he,CH he,Fq,Bh,B5]
   try rfl
 | extract i x=>
   show(B9 x e fun vx=>asT vx fun vs=>RD vs i fun v=>kk v s)=_;simp only[BJ he,Fq,Bh];congr 1;funext vx;cases vx<;>first|rfl|skip
   show RD _ i _=_;rw[K1,G1]
 | Ei x=>
   show(B9 x e fun vx=>VJ vx fun v=>kk v s)=_;simp only[BJ he,Fq,Bh,G1,YY]
 | G8 f first cap=>
   show(Kk first e fun vf=>Kk cap e fun vc=>@Bool.rec (fun _=>An) none (kk (.f f vf vc) s) (L2 f))=_;simp only[B6 he,Fq,SM,Bh,BZ];rfl
 | GZ=>
   show(Cc (s.new (.map []) fun i s=>some (.ret (.m i),s)) kk kp)=_;simp only[B5,Fq]
 | Dv sz bytes zero len cap=>
   show(B9 len e fun vx=>B9 cap e fun vy=>Cc (Xv (I3 s sz zero vx vy)) kk kp)=_;simp only[BJ he,B6 he,CH he,Fq,Bh,B5]
   try rfl
 | lookup ks zero ok m k=>
   show(B9 m e fun vm=>B9 k e fun vk=>Cc (ov (K7 s ks zero ok vm vk) s) kk kp)=_;simp only[BJ he,B6 he,CH he,Fq,Bh,B5]
   try rfl
 | DO ks m k v=>
   show(B9 m e fun vm=>B9 k e fun vk=>B9 v e fun vx=>Cc (os (K6 s ks vm vk vx)) kk kp)=_;simp only[BJ he,B6 he,CH he,Fq,Bh,B5]
   try rfl
 | FW t x=>
   show(B9 x e fun vx=>kk (.E2 t vx) s)=_;simp only[BJ he,Fq,Bh];rfl
 | WW t zero ok x=>
   show(B9 x e fun vx=>Cc (ov (Zm t zero ok vx) s) kk kp)=_;simp only[BJ he,B6 he,CH he,Fq,Bh,B5]
   try rfl
 | panic x=>
   show(B9 x e fun vx=>Cc (match vx with| .E2 t v=>some (.By (.E2 t v),s)|_=>none) kk kp)=_;simp only[BJ he,B6 he,CH he,Fq,Bh,B5]
   try rfl
 | call f args=>
   show(Kk args e fun vs=>Cc (cf f vs s) kk kp)=_;simp only[BJ he,B6 he,CH he,Fq,Bh,B5]
   try rfl
 | Jr f args=>
   show(Kk args e fun vs=>Cc (ov (cp f vs) s) kk kp)=_;simp only[BJ he,B6 he,CH he,Fq,Bh,B5]
   try rfl
 | CC x args=>
   show(B9 x e fun vx=>Kk args e fun vs=>Cc (cv vx vs s) kk kp)=_;simp only[BJ he,B6 he,CH he,Fq,Bh,B5]
   try rfl
 | VR x args=>
   rfl
 | inv tab x args=>
   show(B9 x e fun vx=>Kk args e fun vs=>Cc (match vx with| .E2 t v=>ob (look t tab) fun f=>cf f (v::vs) s|_=>none) kk kp)=_;simp only[BJ he,B6 he,CH he,Fq,Bh,B5]
   try rfl
noncomputable def sD (g:Bool) (t:Bool) (y:An) (n:An):An:=@Bool.rec (fun _=>An) (@Bool.rec (fun _=>An) y n g) (@Bool.rec (fun _=>An) n y g) t
theorem fj (g t:Bool) (y n:An):sD g t y n=bif t==g then y else n:=by cases g<;>cases t<;>rfl
noncomputable def yN (v:V) (g:Bool) (y:An) (n:An):An:=@V.rec (fun _=>Bool→An→An→An) (fun _=>Unit) (fun _=>Unit) (fun t g y n=>sD g t y n) (fun _ _ g y n=>none) (fun _ g y n=>none) (fun g y n=>none) (fun _ _ g y n=>none) (fun _ _ g y n=>none) (fun _ _ _ g y n=>none) (fun _ _ _ g y n=>none) (fun _ _ _ _ g y n=>none) (fun _ _ _ _ g y n=>none) (fun _ g y n=>none) (fun g y n=>none) (fun _ _ _ _ _ g y n=>none) (fun g y n=>none) (fun _ _ _ g y n=>none) (fun g y n=>none) (fun _ _ g y n=>none) (fun vs _ g y n=>@List.rec V (fun _=>An→An) (fun n=>n) (fun _ _ _ _=>none) vs n) (fun g y n=>none) () (fun _ _ _ _=>()) () (fun _ _ _ _=>()) v g y n
noncomputable def grdK (g:Nat×Bool) (o:FA):OK:=fun cf cv cp e s kk kp=>B9 (.t g.1) e fun v=>yN v g.2 (opK o cf cv cp e s kk kp) (kk (.t []) s)
noncomputable def U6 (g:Option (Nat×Bool)) (o:FA):OK:=@Option.rec (Nat×Bool) (fun _=>FA→OK) (fun o=>opK o) (fun g o=>grdK g o) g o
theorem R1 {e:Cd} {env:Env} (he:Ib e env) (d:Option Nat) (g:Option (Nat×Bool)) (o:FA) (cf:CF) (cv:CV) (cp:CP) (s:St) (kk kp:V→St→An):U6 g o cf cv cp e s kk kp=fin (IY cf cv cp ⟨d,o,g⟩ env s) kk kp:=by
 cases g with
 | none=>exact aN he o cf cv cp s kk kp
 | some g=>
   obtain⟨g,b⟩:=g;show(B9 (.t g) e fun v=>yN v b (opK o cf cv cp e s kk kp) (kk (.t []) s))=_;rw[BJ he,aN he];simp only[IY,Dj];cases get g env with
   | none=>rfl
   | some v=>
     simp only[ob];cases v<;>first|rfl|skip
     ·rename_i t
      show sD b t _ _=_;rw[fj];simp only;cases t==b<;>rfl
     ·rename_i vs
      cases vs<;>rfl
noncomputable def Mm (d:Option Nat) (v:V) (e:Cd):Cd:=@Option.rec Nat (fun _=>V→Cd→Cd) (fun _ e=>e) (fun d v e=>⟨Nat.lor e.1 (Nat.shiftLeft 1 d),(d,v)::e.2⟩) d v e
theorem J3 (M n:Nat):NX M n=M.testBit n:=by
 have h1:(M >>> n)&&&1=(M >>> n) % 2:=Nat.and_one_is_mod _;have h2:NX M n=Nat.beq ((M >>> n)&&&1) 1:=rfl;rw[h2,h1,Nat.testBit_eq_decide_div_mod_eq,Nat.shiftRight_eq_div_pow];cases h:decide (M / 2 ^ n % 2=1)with
 | true=>rw[of_decide_eq_true h];rfl
 | false=>
   have:=of_decide_eq_false h;cases hb:Nat.beq (M / 2 ^ n % 2) 1 with
   | false=>rfl
   | true=>exact absurd (Nat.eq_of_beq_eq_true hb) this
theorem OT (M d n:Nat):NX (Nat.lor M (Nat.shiftLeft 1 d)) n=(NX M n||Nat.beq d n):=by
 rw[J3,J3];show(M|||1 <<< d).testBit n=_;rw[Nat.testBit_or,Nat.one_shiftLeft,Nat.testBit_two_pow];congr 1;cases hb:Nat.beq d n with
 | true=>simp[Nat.eq_of_beq_eq_true hb]
 | false=>simpa using Nat.ne_of_beq_eq_false hb
theorem Ib.push {e:Cd} {env:Env} (he:Ib e env) (d:Option Nat) (v:V):Ib (Mm d v e) (put d v env):=by
 cases d with
 | none=>exact he
 | some d=>
   intro n;show(bif NX (Nat.lor e.1 (Nat.shiftLeft 1 d)) n then(bif Nat.beq d n then some v else get n e.2)else none)=bif Nat.beq d n then some v else get n env;rw[OT,←he n,RM];cases Nat.beq d n<;>cases NX e.1 n<;>rfl
noncomputable def Zh (ops:List AW) (cf:CF) (cv:CV) (cp:CP) (env:Cd) (s:St):An:=@List.rec AW (fun _=>CF→CV→CP→Cd→St→An) (fun _ _ _ env s=>some (.normal,env,s))
 (fun o _ ih cf cv cp env s=>U6 o.3 o.2 cf cv cp env s (fun v s=>VC v fun v=>ih cf cv cp (Mm o.1 v env) s) (fun v s=>some (.By v,env,s))) ops cf cv cp env s
def GW:An→Rs→Prop
 | some (x,e,s),some (x',env,s')=>x=x'∧s=s'∧Ib e env
 | none,none=>True
 | _,_=>False
theorem W7 (cf:CF) (cv:CV) (cp:CP): ∀(ops:List AW) {e:Cd} {env:Env} (s:St),Ib e env→GW (Zh ops cf cv cp e s) (Sz cf cv cp ops env s)
 | [],e,env,s,he=>⟨rfl,rfl,he⟩
 | o ::r,e,env,s,he=>by
   show GW (U6 o.3 o.2 cf cv cp e s (fun v s=>VC v fun v=>Zh r cf cv cp (Mm o.1 v e) s) (fun v s=>some (.By v,e,s))) _;rw[R1 he o.1];show GW (fin (IY cf cv cp o env s) _ _) _;simp only[Sz];cases IY cf cv cp o env s with
   | none=>trivial
   | some p=>
     obtain⟨x,s'⟩:=p;cases x with
     | By v=>exact⟨rfl,rfl,he⟩
     | ret v=>
       show GW (VC v fun v=>Zh r cf cv cp (Mm o.1 v e) s') (Hr v _);rw[XP,Hb];exact W7 cf cv cp r s' (he.push o.1 v)
noncomputable def xn (re:List AW) (cf:CF) (cv:CV) (cp:CP) (e:Cd) (s:St) (K:An):An:=@List.rec AW (fun _=>CF→CV→CP→Cd→St→An→An) (fun _ _ _ _ _ K=>K)
 (fun o _ ih cf cv cp e s K=>U6 o.3 o.2 cf cv cp e s (fun u _=>@Option.rec Nat (fun _=>An) (ih cf cv cp e s K) (fun d=>B9 (.t d) e fun w=>@Bool.rec (fun _=>An) none (ih cf cv cp e s K) (Eo u w)) o.1) (fun _ _=>none)) re cf cv cp e s K
theorem aH (cf:CF) (cv:CV) (cp:CP) {e:Cd} {env:Env} (he:Ib e env) (s:St) (K:An): ∀re:List AW,xn re cf cv cp e s K=bif dS cf cv cp re env s then K else none
 | []=>rfl
 | o ::r=>by
   show U6 o.3 o.2 cf cv cp e s (fun u _=>@Option.rec Nat (fun _=>An) (xn r cf cv cp e s K) (fun d=>B9 (.t d) e fun w=>@Bool.rec (fun _=>An) none (xn r cf cv cp e s K) (Eo u w)) o.1) (fun _ _=>none)=_;rw[R1 he o.1,aH cf cv cp he s K r]
   have h':dS cf cv cp (o::r) env s=((match IY cf cv cp o env s with
    | some (.ret u,_)=>match o.dst with
      | none=>true
      | some d=>match get d env with|some w=>Eo u w|none=>false
    | _=>false)&&dS cf cv cp r env s):=rfl
   rw[h'];show fin (IY cf cv cp o env s) _ _=_;cases IY cf cv cp o env s with
   | none=>rfl
   | some p=>
     obtain⟨x,s'⟩:=p;cases x with
     | By v=>rfl
     | ret u=>
       obtain⟨d,op,g⟩:=o;cases d with
       | none=>simp only[fin,Bool.true_and]
       | some d=>
         simp only[fin];rw[BJ he];simp only[Dj];cases get d env with
         | none=>rfl
         | some w=>
           simp only[ob];cases Eo u w<;>simp
noncomputable def TP (ops:List Cg) (cf:CF) (cv:CV) (cp:CP) (e:Cd) (s:St):An:=@List.rec Cg (fun _=>CF→CV→CP→Cd→St→An) (fun _ _ _ e s=>some (.normal,e,s))
 (fun d _ ih cf cv cp e s=>U6 d.2.3 d.2.2 cf cv cp e s (fun v s=>VC v fun v=>(fun e=>xn d.4 cf cv cp e s (ih cf cv cp e s)) (Mm d.2.1 v e)) (fun v s=>some (.By v,⟨0,[]⟩,s))) ops cf cv cp e s
theorem Ib.nil {M:Nat}:Ib ⟨M,[]⟩ []:=fun n=>by
 show(bif NX M n then none else none)=none;cases NX M n<;>rfl
theorem T9 (cf:CF) (cv:CV) (cp:CP): ∀(ops:List Cg) {e:Cd} {env:Env} (s:St),Ib e env→GW (TP ops cf cv cp e s) (P1 cf cv cp ops env s)
 | [],e,env,s,he=>⟨rfl,rfl,he⟩
 | d ::r,e,env,s,he=>by
   show GW (U6 d.2.3 d.2.2 cf cv cp e s (fun v s=>VC v fun v=>(fun e=>xn d.4 cf cv cp e s (TP r cf cv cp e s)) (Mm d.2.1 v e)) (fun v s=>some (.By v,⟨0,[]⟩,s))) _;rw[R1 he d.2.1];show GW (fin (IY cf cv cp d.o env s) _ _) _;simp only[P1];cases IY cf cv cp d.o env s with
   | none=>trivial
   | some p=>
     obtain⟨x,s'⟩:=p;cases x with
     | By v=>exact⟨rfl,rfl,Ib.nil⟩
     | ret v=>
       show GW (VC v fun v=>xn d.4 cf cv cp (Mm d.2.1 v e) s' (TP r cf cv cp (Mm d.2.1 v e) s')) (Hr v _);rw[XP,Hb,aH cf cv cp (he.push d.2.1 v)];show GW (bif dS cf cv cp d.re (put d.o.dst v env) s' then _ else none) (bif dS cf cv cp d.re (put d.o.dst v env) s' then _ else none);cases dS cf cv cp d.re (put d.o.dst v env) s' with
       | false=>trivial
       | true=>exact T9 cf cv cp r s' (he.push d.2.1 v)
noncomputable def Py (l:List Nat):Nat:=@List.rec Nat (fun _=>Nat) 0 (fun n _ ih=>Nat.lor ih (Nat.shiftLeft 1 n)) l
noncomputable def L3 (l:List Nat) (e:Cd):Cd:=⟨Nat.land e.1 (Py l),e.2⟩
theorem TV: ∀(l:List Nat) (n:Nat),NX (Py l) n=l.any fun k=>Nat.beq k n
 | [],n=>by rw[J3];exact Nat.zero_testBit n
 | k::r,n=>by
   show NX (Nat.lor (Py r) (Nat.shiftLeft 1 k)) n=_;rw[OT,TV r n,List.any_cons,Bool.or_comm]
theorem Lj: ∀(l:List Nat) (env:Env) (n:Nat),get n (prune l env)=bif l.any (fun k=>Nat.beq k n)then get n env else none
 | [],env,n=>rfl
 | k ::r,env,n=>by
   have ih:=Lj r env n;simp only[prune,List.any_cons];cases hk:Nat.beq k n with
   | true=>
     have:=Nat.eq_of_beq_eq_true hk;subst this;cases hg:get k env with
     | none=>
       simp only;rw[ih,hg];cases(r.any fun j=>Nat.beq j k)<;>rfl
     | some v=>simp[get,hk]
   | false=>
     simp only[Bool.false_or];cases hg:get k env with
     | none=>exact ih
     | some v=>
       simp only[get,hk,cond_false];exact ih
theorem Ib.prune {e:Cd} {env:Env} (he:Ib e env) (l:List Nat):Ib (L3 l e) (Gl.prune l env):=fun n=>by
 show(bif NX (Nat.land e.1 (Py l)) n then get n e.2 else none)=_
 have:NX (Nat.land e.1 (Py l)) n=(NX e.1 n&&NX (Py l) n):=by
  rw[J3,J3,J3];exact Nat.testBit_and _ _ _
 rw[this,Lj,←he n,RM,TV];cases NX e.1 n<;>cases(l.any fun k=>Nat.beq k n)<;>rfl
noncomputable def Su (l:List Nat) (e:Cd) (K:Env→An):An:=@List.rec Nat (fun _=>Cd→(Env→An)→An) (fun _ K=>K [])
 (fun n _ ih e K=>@Bool.rec (fun _=>An) (ih e K) (@List.rec (Nat×V) (fun _=>Nat→An→(V→An)→An) (fun _ x _=>x) (fun p _ ih n x K=>@Bool.rec (fun _=>An) (ih n x K) (K p.2) (Nat.beq p.1 n)) e.2 n (ih e K) (fun v=>ih e fun r=>K ((n,v)::r))) (NX e.1 n)) l e K
theorem eQ (env:Env) (n:Nat) (x:An) (K:V→An): @List.rec (Nat×V) (fun _=>Nat→An→(V→An)→An) (fun _ x _=>x) (fun p _ ih n x K=>@Bool.rec (fun _=>An) (ih n x K) (K p.2) (Nat.beq p.1 n)) env n x K=match get n env with|some v=>K v|none=>x:=by
 induction env with
 | nil=>rfl
 | cons p r ih=>
   obtain⟨j,v⟩:=p;show @Bool.rec (fun _=>An) _ (K v) (Nat.beq j n)=match(bif Nat.beq j n then some v else get n r)with|some v=>K v|none=>x
   cases Nat.beq j n
   ·exact ih
   ·rfl
theorem Nk {e:Cd} {env:Env} (he:Ib e env): ∀(l:List Nat) (K:Env→An),Su l e K=K (Gl.prune l env)
 | [],K=>rfl
 | n ::r,K=>by
   show @Bool.rec (fun _=>An) (Su r e K) (@List.rec (Nat×V) (fun _=>Nat→An→(V→An)→An) (fun _ x _=>x) (fun p _ ih n x K=>@Bool.rec (fun _=>An) (ih n x K) (K p.2) (Nat.beq p.1 n)) e.2 n (Su r e K) (fun v=>Su r e fun r=>K ((n,v)::r))) (NX e.1 n)=_;rw[eQ,Nk he r];simp only[Nk he r,Gl.prune];rw[←he n,RM];cases NX e.1 n with
   | false=>rfl
   | true=>
     simp only[cond_true];cases get n e.2<;>rfl
noncomputable def IJ (env:Env):Nat:=@List.rec (Nat×V) (fun _=>Nat) 0 (fun p _ ih=>Nat.lor ih (Nat.shiftLeft 1 p.1)) env
theorem P9: ∀(env:Env) (n:Nat),NX (IJ env) n=(get n env).isSome
 | [],n=>by rw[J3];exact Nat.zero_testBit n
 | (k,v)::r,n=>by
   show NX (Nat.lor (IJ r) (Nat.shiftLeft 1 k)) n=_;rw[OT,P9 r n];simp only[get];cases Nat.beq k n<;>simp
theorem Ib.of (env:Env):Ib ⟨IJ env,env⟩ env:=fun n=>by
 show(bif NX (IJ env) n then get n env else none)=_;rw[P9];cases get n env<;>rfl
abbrev IH:=AK→Cd→St→An
noncomputable def Pv (r:An) (K:Cd→St→An):An:=@Option.rec (Ag×Cd×St) (fun _=>(Cd→St→An)→An) (fun _=>none) (fun p K=>@Ag.rec (fun _=>Cd→St→(Ag×Cd×St)→(Cd→St→An)→An) (fun env s _ K=>K env s) (fun _ _ _ p _=>some p) (fun _ _ p _=>some p) (fun _ _ _ p _=>some p) p.1 p.2.1 p.2.2 p K) r K
def zS (r:Rs) (K':Env→St→Rs):Rs:=match r with|some (.normal,env,s)=>K' env s|r=>r
theorem MK {r:An} {r':Rs} (h:GW r r') {K:Cd→St→An} {K':Env→St→Rs} (U: ∀e env s,Ib e env→GW (K e s) (K' env s)):GW (Pv r K) (zS r' K'):=by
 cases r with
 | none=>cases r' with|none=>trivial|some p=>exact h.elim
 | some p=>
   cases r' with
   | none=>exact h.elim
   | some p'=>
     obtain⟨x,e,s⟩:=p;obtain⟨x',env,s'⟩:=p';obtain⟨rfl,rfl,he⟩:=h;cases x with
     | normal=>exact U e env s he
     | exit id=>exact⟨rfl,rfl,he⟩
     | ret=>exact⟨rfl,rfl,he⟩
     | By v=>exact⟨rfl,rfl,he⟩
noncomputable def N4 (s:St) (e:Cd):List RS→Option (List V)
 | []=>some []
 | .t n::r=>ob (RM e n) fun v=>ob (N4 s e r) fun vs=>some (v::vs)
 | .c n g::r=>ob (RM e n) fun a=>ob (Ms s g a) fun v=>ob (N4 s e r) fun vs=>some (v::vs)
noncomputable def Wi (AN:List RS) (r:An):Option (R×St):=
 match r with
 | some (.normal,env,s)=>ob (N4 s env AN) fun vs=>some (.ret (En vs),s)
 | some (.ret,env,s)=>ob (N4 s env AN) fun vs=>some (.ret (En vs),s)
 | some (.By v,_,s)=>some (.By v,s)
 | _=>none
noncomputable def TJ (tab:JY) (ih:IH) (g:FuncId) (cap:List V) (m:Option V) (AN:List RS) (env:Cd) (s:St):Option (R×St):=
 match tab g with
 | some (.xp n k ops ac l)=>bif Nat.ble cap.length n then
  match ih (.seq l (.Am ops) ac) ⟨IJ (put (some k) (m.getD .Dp) (BA 0 cap)),put (some k) (m.getD .Dp) (BA 0 cap)⟩ s with
  | some (.normal,_,s')=>ob (N4 s' env AN) fun vs=>some (.ret (En vs),s')
  | some (.ret,_,s')=>ob (N4 s' env AN) fun vs=>some (.ret (En vs),s')
  | _=>none
   else none
 | some (.pld n ac)=>match m with
   | some _=>none
   | none=>bif Nat.ble cap.length n then
     match ih ac ⟨IJ (BA 0 cap),BA 0 cap⟩ s with
     | some (.normal,_,s')=>ob (N4 s' env AN) fun vs=>some (.ret (En vs),s')
     | some (.ret,_,s')=>ob (N4 s' env AN) fun vs=>some (.ret (En vs),s')
     | _=>none
   else none
 | _=>none
noncomputable def Rt (tab:JY) (ih:IH) (f:FuncId) (vs:List V) (s:St):Option (R×St):=
 match tab f with
 | some (.fn n ac AN)=>bif Nat.ble vs.length n then Wi AN (ih ac ⟨IJ (BA 0 vs),BA 0 vs⟩ s)else none
 | some (.xv n aA ops x aC AN l1 l2)=>bif Nat.ble vs.length n then
  match ih (.seq l1 aA (.Am ops)) ⟨IJ (BA 0 vs),BA 0 vs⟩ s with
  | some (.normal,env,s1)=>match(match x with| .t n=>RM env n| .c v=>bif A1 v then some v else none)with
    | some (.f (.func g) [] cap)=>match ih aC (L3 l2 env) s1 with
      | some (.normal,env2,s2)=>TJ tab ih g cap none AN env2 s2
      | some (.ret,env2,s2)=>TJ tab ih g cap none AN env2 s2
      | some (.By v,env2,s2)=>TJ tab ih g cap (some v) AN env2 s2
      | _=>none
    | _=>none
  | _=>none
   else none
 | some (.dY n ac AN)=>bif Nat.ble vs.length n then y5 (Wi AN (ih ac ⟨IJ (BA 0 vs),BA 0 vs⟩ s))else none
 | some (.U9 c)=>c vs s
 | _=>none
noncomputable def FN (tab:JY) (memo:DT) (ih:IH):CF:=fun f vs s=>
 match memo f with
 | []=>Rt tab ih f vs s
 | m::r=>match TH vs (m::r)with
   | some v=>some (.ret v,s)
   | none=>Rt tab ih f vs s
noncomputable def JI (tab:JY) (memo:DT) (ih:IH):CV:=fun x vs s=>
 match x with
 | .f (.func f) first cap=>FN tab memo ih f (first++vs++cap) s
 | .f (.yield L) [] []=>match s.t.get L with
   | some (.loop .ready env ps a b)=>bif Nat.beq vs.length ps.length then
    Tr.put none BL s.t L fun t=>match ih a ⟨IJ (FE ps vs env),FE ps vs env⟩ ⟨s.nx,t⟩with
    | some (.normal,env1,s1)=>match ih b env1 s1 with
      | some (.normal,_,s2)=>Tr.put (some (.loop .ready env ps a b)) BL s2.t L fun t=>some (.ret (.b true),⟨s2.nx,t⟩)
      | some (.ret,_,s2)=>Tr.put (some (.loop .ret env ps a b)) BL s2.t L fun t=>some (.ret (.b false),⟨s2.nx,t⟩)
      | some (.exit id,_,s2)=>Tr.put (some (.loop (.exit id) env ps a b)) BL s2.t L fun t=>some (.ret (.b false),⟨s2.nx,t⟩)
      | some (.By v,_,s2)=>some (.By v,s2)
      | none=>none
    | _=>none
     else none
   | _=>none
 | _=>none
noncomputable def KG (tab:JY) (memo:DT) (ih:IH):CP:=fun f vs=>
 bif BX vs then match FN tab memo ih f vs ⟨0,.leaf⟩with
  | some (.ret v,s)=>match I9 s Sx v with
    | some u=>bif A1 u then some u else none
    | none=>none
  | _=>none
 else none
abbrev SK:=JY→DT→IH→Cd→St→An
noncomputable def aG (c:AK):SK:=@AK.rec (fun _=>SK)
 (fun _ _ _ env s=>some (.normal,env,s))
 (fun ops tab memo ih env s=>Zh ops (FN tab memo ih) (JI tab memo ih) (KG tab memo ih) env s)
 (fun l ops tab memo ih env s=>Pv (TP ops (FN tab memo ih) (JI tab memo ih) (KG tab memo ih) env s) fun env s=>some (.normal,L3 l env,s))
 (fun l a b _ _ _ _ ih env s=>Pv (ih a env s) fun env s=>ih b (L3 l env) s)
 (fun c a b _ _ _ _ ih env s=>B9 c env fun v=>lF v fun t=>@Bool.rec (fun _=>An) (ih b env s) (ih a env s) t)
 (fun id a _ tab memo ih env s=>match ih a env s with
  | some (.exit id',env',s')=>bif Nat.beq id' id then some (.normal,env',s')else some (.exit id',env',s')
  | r=>r)
 (fun l a _ _ _ ih env s=>Su l env fun E=>Pv (ih a ⟨IJ E,E⟩ s) fun env s=>ih (.loop l a) env s)
 (fun id _ _ _ env s=>some (.exit id,env,s))
 (fun _ _ _ env s=>some (.ret,env,s))
 (fun a _ _ _ ih env s=>ih a env s)
 (fun l g ps a b _ _ tab memo ih env s=>B9 g env fun v=>match v with
  | .f (.func gf) [] cap=>Su l env fun E=>s.new (.loop .ready E ps a b) fun i s1=>
   match FN tab memo ih gf (.f (.yield i) [] []::cap) s1 with
   | some (.ret _,s2)=>match s2.t.get i with
     | some (.loop st _ _ _ _)=>Tr.put none BL s2.t i fun t=>some ((match st with| .ready=> .normal| .ret=> .ret| .exit id=> .exit id),env,⟨s2.nx,t⟩)
     | _=>none
   | some (.By v,s2)=>match s2.t.get i with
     | some _=>Tr.put none BL s2.t i fun t=>some (.By v,env,⟨s2.nx,t⟩)
     | none=>none
   | none=>none
  | _=>none) c
noncomputable def runK (tab:JY) (memo:DT) (n:Nat):IH:=@Nat.rec (fun _=>IH) (fun _ _ _=>none) (fun _ ih c env s=>aG c tab memo ih env s) n
def VH (ihm:IH) (ih:AK→Env→St→Rs):Prop:= ∀c {e env} s,Ib e env→GW (ihm c e s) (ih c env s)
theorem K5 {s:St} {e:Cd} {env:Env} (he:Ib e env): ∀l:List RS,N4 s e l=WX s env l
 | []=>rfl
 | .t n::r=>by simp only[N4,WX,he n,K5 he r]
 | .c n g::r=>by simp only[N4,WX,he n,K5 he r]
theorem T7 {AN:List RS} {r:An} {r':Rs} (h:GW r r'):Wi AN r=X5 AN r':=by
 cases r with
 | none=>cases r' with|none=>rfl|some p=>exact h.elim
 | some p=>
   cases r' with
   | none=>exact h.elim
   | some p'=>
     obtain⟨x,e,s⟩:=p;obtain⟨x',env,s'⟩:=p';obtain⟨rfl,rfl,he⟩:=h;cases x<;>first|rfl|simp only[Wi,X5,K5 he]
theorem cX {tab:JY} {ihm:IH} {ih:AK→Env→St→Rs} (hi:VH ihm ih) {g:FuncId} {cap:List V} {m:Option V} {AN:List RS} {e:Cd} {env:Env} (he:Ib e env) (s:St):TJ tab ihm g cap m AN e s=VD tab ih g cap m AN env s:=by
 unfold TJ VD;cases tab g with
 | none=>rfl
 | some fs =>
   cases fs<;>first|rfl|skip
   ·rename_i n k ops ac l
    simp only;have:=hi (.seq l (.Am ops) ac) s (Ib.of (put (some k) (m.getD .Dp) (BA 0 cap)))
    revert this
    cases ihm (.seq l (.Am ops) ac) _ s with
    | none=>cases ih (.seq l (.Am ops) ac) _ s with|none=>intro _;rfl|some p=>intro h;exact h.elim
    | some p=>
      cases ih (.seq l (.Am ops) ac) _ s with
      | none=>intro h;exact h.elim
      | some p'=>
        obtain⟨x,e1,s1⟩:=p;obtain⟨x',env1,s1'⟩:=p';rintro⟨rfl,rfl,he1⟩;cases x<;>simp only[K5 he]
   ·rename_i n ac
    cases m with
    | some v=>rfl
    | none=>
      simp only;have:=hi ac s (Ib.of (BA 0 cap))
      revert this
      cases ihm ac _ s with
      | none=>cases ih ac _ s with|none=>intro _;rfl|some p=>intro h;exact h.elim
      | some p=>
        cases ih ac _ s with
        | none=>intro h;exact h.elim
        | some p'=>
          obtain⟨x,e1,s1⟩:=p;obtain⟨x',env1,s1'⟩:=p';rintro⟨rfl,rfl,he1⟩;cases x<;>simp only[K5 he]
theorem ZG {tab : JY} {ihm:IH} {ih:AK→Env→St→Rs} (hi:VH ihm ih) (f:FuncId) (vs:List V) (s:St):Rt tab ihm f vs s=P2 tab ih f vs s:=by
 unfold Rt P2;cases tab f with
 | none=>rfl
 | some fs =>
   cases fs with
   | xp n k ops ac l=>rfl
   | U9 c=>rfl
   | pld n ac=>rfl
   | fn n ac AN=>simp only;rw[T7 (hi ac s (Ib.of (BA 0 vs)))]
   | dY n ac AN=>simp only;rw[T7 (hi ac s (Ib.of (BA 0 vs)))]
   | xv n aA ops x aC AN l1 l2=>
     simp only;have:=hi (.seq l1 aA (.Am ops)) s (Ib.of (BA 0 vs))
     revert this
     cases ihm (.seq l1 aA (.Am ops)) _ s with
     | none=>cases ih (.seq l1 aA (.Am ops)) _ s with|none=>intro _;rfl|some p=>intro h;exact h.elim
     | some p=>
       cases ih (.seq l1 aA (.Am ops)) _ s with
       | none=>intro h;exact h.elim
       | some p'=>
         obtain⟨x1,e1,s1⟩:=p;obtain⟨x1',env1,s1'⟩:=p';rintro⟨rfl,rfl,he1⟩;cases x1<;>first|rfl|skip
         simp only;have hx:(match x with| .t n=>RM e1 n| .c v=>bif A1 v then some v else none)=Dj env1 x:=by cases x<;>first|exact he1 _|rfl
         rw[hx];cases Dj env1 x with
         | none=>rfl
         | some v=>
           cases v<;>first|rfl|skip
           rename_i fn first cap
           cases fn<;>first|rfl|skip
           cases first<;>first|rfl|skip
           simp only;have:=hi aC s1 (he1.prune l2)
           revert this
           cases ihm aC (L3 l2 e1) s1 with
           | none=>cases ih aC (Gl.prune l2 env1) s1 with|none=>intro _;rfl|some p=>intro h;exact h.elim
           | some p=>
             cases ih aC (Gl.prune l2 env1) s1 with
             | none=>intro h;exact h.elim
             | some p'=>
               obtain⟨x2,e2,s2⟩:=p;obtain⟨x2',env2,s2'⟩:=p';rintro⟨rfl,rfl,he2⟩;cases x2<;>simp only[cX hi he2]
theorem GR {tab:JY} {memo:DT} {ihm:IH} {ih:AK→Env→St→Rs} (hi:VH ihm ih):FN tab memo ihm=G4 tab memo ih:=by
 funext f vs s;unfold FN G4;simp only[ZG hi];rfl
theorem PU {tab:JY} {memo:DT} {ihm:IH} {ih:AK→Env→St→Rs} (hi:VH ihm ih):JI tab memo ihm=MC tab memo ih:=by
 funext x vs s;unfold JI MC;rw[GR hi];cases x<;>first|rfl|skip
 rename_i fn first cap
 cases fn<;>first|rfl|skip
 cases first<;>first|rfl|skip
 cases cap<;>first|rfl|skip
 rename_i L;simp only;cases s.t.get L with
 | none=>rfl
 | some o=>
   cases o<;>first|rfl|skip
   rename_i st env ps a b;cases st<;>first|rfl|skip
   simp only;congr 2;funext t;have:=hi a ⟨s.nx,t⟩ (Ib.of (FE ps vs env))
   revert this
   cases ihm a _ ⟨s.nx,t⟩with
   | none=>cases ih a _ ⟨s.nx,t⟩with|none=>intro _;rfl|some p=>intro h;exact h.elim
   | some p=>
     cases ih a _ ⟨s.nx,t⟩with
     | none=>intro h;exact h.elim
     | some p'=>
       obtain⟨x1,e1,s1⟩:=p;obtain⟨x1',env1,s1'⟩:=p';rintro⟨rfl,rfl,he1⟩;cases x1<;>first|rfl|skip
       simp only;have:=hi b s1 he1
       revert this
       cases ihm b e1 s1 with
       | none=>cases ih b env1 s1 with|none=>intro _;rfl|some p=>intro h;exact h.elim
       | some p=>
         cases ih b env1 s1 with
         | none=>intro h;exact h.elim
         | some p'=>
           obtain⟨x2,e2,s2⟩:=p;obtain⟨x2',env2,s2'⟩:=p';rintro⟨rfl,rfl,he2⟩;cases x2<;>rfl
theorem Me {tab:JY} {memo:DT} {ihm:IH} {ih:AK→Env→St→Rs} (hi:VH ihm ih):KG tab memo ihm=OG tab memo ih:=by
 funext f vs;unfold KG OG;rw[GR hi];rfl
theorem bc {tab:JY} {memo:DT} {ihm:IH} {ih:AK→Env→St→Rs} (hi:VH ihm ih) (c:AK) {e:Cd} {env:Env} (s:St) (he:Ib e env):GW (aG c tab memo ihm e s) (IM tab memo ih c env s):=by
 cases c with
 | skip=>exact⟨rfl,rfl,he⟩
 | ret=>exact⟨rfl,rfl,he⟩
 | exit id=>exact⟨rfl,rfl,he⟩
 | scope a=>exact hi a s he
 | Am ops=>
   show GW (Zh ops (FN tab memo ihm) (JI tab memo ihm) (KG tab memo ihm) e s) _;rw[GR hi,PU hi,Me hi];exact W7 _ _ _ ops s he
 | A9 l ops=>
   show GW (Pv (TP ops (FN tab memo ihm) (JI tab memo ihm) (KG tab memo ihm) e s) fun env s=>some (.normal,L3 l env,s)) _;rw[GR hi,PU hi,Me hi];exact MK (K':=fun env s=>some (.normal,Gl.prune l env,s)) (T9 _ _ _ ops s he) fun _ _ s he=>⟨rfl,rfl,he.prune l⟩
 | seq l a b=>exact MK (K':=fun env s=>ih b (Gl.prune l env) s) (hi a s he) fun _ _ s he=>hi b s (he.prune l)
 | cond c a b=>
   show GW (B9 c e fun v=>lF v fun t=>@Bool.rec (fun _=>An) (ihm b e s) (ihm a e s) t) _;rw[BJ he];simp only[IM];cases Dj env c with
   | none=>trivial
   | some v=>
     cases v<;>first|trivial|skip
     rename_i t;cases t
     ·exact hi b s he
     ·exact hi a s he
 | block id a=>
   have:=hi a s he;show GW (match ihm a e s with|some (.exit id',env',s')=>bif Nat.beq id' id then some (.normal,env',s')else some (.exit id',env',s')|r=>r) (match ih a env s with|some (.exit id',env',s')=>bif Nat.beq id' id then some (.normal,env',s')else some (.exit id',env',s')|r=>r)
   revert this
   cases ihm a e s with
   | none=>cases ih a env s with|none=>intro _;trivial|some p=>intro h;exact h.elim
   | some p=>
     cases ih a env s with
     | none=>intro h;exact h.elim
     | some p'=>
       obtain⟨x1,e1,s1⟩:=p;obtain⟨x1',env1,s1'⟩:=p';rintro⟨rfl,rfl,he1⟩;cases x1 with
       | exit id'=>
         simp only;cases Nat.beq id' id<;>exact⟨rfl,rfl,he1⟩
       | normal=>exact⟨rfl,rfl,he1⟩
       | ret=>exact⟨rfl,rfl,he1⟩
       | By v=>exact⟨rfl,rfl,he1⟩
 | loop l a=>
   show GW (Su l e fun E=>Pv (ihm a ⟨IJ E,E⟩ s) fun env s=>ihm (.loop l a) env s) _;rw[Nk he];exact MK (K':=fun env s=>ih (.loop l a) env s) (hi a s (Ib.of _)) fun _ _ s he=>hi (.loop l a) s he
 | C8 l g ps a b=>
   show GW (B9 g e fun v=>match v with
   | .f (.func gf) [] cap=>Su l e fun E=>s.new (.loop .ready E ps a b) fun i s1=>
    match FN tab memo ihm gf (.f (.yield i) [] []::cap) s1 with
    | some (.ret _,s2)=>match s2.t.get i with
      | some (.loop st _ _ _ _)=>Tr.put none BL s2.t i fun t=>some ((match st with| .ready=> .normal| .ret=> .ret| .exit id=> .exit id),e,⟨s2.nx,t⟩)
      | _=>none
    | some (.By v,s2)=>match s2.t.get i with
      | some _=>Tr.put none BL s2.t i fun t=>some (.By v,e,⟨s2.nx,t⟩)
      | none=>none
    | none=>none
   | _=>none) _
   rw[BJ he,GR hi];simp only[IM];cases Dj env g with
   | none=>trivial
   | some v=>
     cases v<;>first|trivial|skip
     rename_i fn first cap
     cases fn<;>first|trivial|skip
     cases first<;>first|trivial|skip
     rename_i gf;simp only[ob];rw[Nk he]
     have hnew: ∀ {β γ:Type} (o:EO) (f:Nat→St→Option β) (g:Nat→St→Option γ) (Rl:Option β→Option γ→Prop),Rl none none→(∀i s,Rl (f i s) (g i s))→Rl (s.new o f) (s.new o g):=fun {β γ} o f g Rl h0 h1=>by
      obtain⟨n,t⟩:=s;cases n with
      | zero=>simp only[St.new];rw[Tr.put_eq,Tr.put_eq];exact h1 _ _
      | succ n=>
        simp only[St.new];rw[Tr.put_eq,Tr.put_eq];cases Nat.ble (n+1) Lw
        ·exact h0
        ·exact h1 _ _
     refine hnew _ _ _ GW trivial fun i s1=>?_
     cases G4 tab memo ih gf (.f (.yield i) [] []::cap) s1 with
     | none=>trivial
     | some p=>
       obtain⟨x,s2⟩:=p;cases x with
       | ret v=>
         simp only;cases s2.t.get i with
         | none=>trivial
         | some o=>
           cases o<;>first|trivial|skip
           simp only;rw[Tr.put_eq,Tr.put_eq];exact⟨rfl,rfl,he⟩
       | By v=>
         simp only;cases s2.t.get i with
         | none=>trivial
         | some o=>
           simp only;rw[Tr.put_eq,Tr.put_eq];exact⟨rfl,rfl,he⟩
theorem Wt (tab:JY) (memo:DT): ∀n:Nat,VH (runK tab memo n) (run tab memo n)
 | 0=>fun _ _ _ _ _=>trivial
 | n+1=>fun c _ _ s he=>bc (Wt tab memo n) c s he
noncomputable def FR (tab:JY) (memo:DT) (n:Nat) (f:FuncId) (vs:List V) (v:V):Bool:=
 match KG tab memo (runK tab memo n) f vs with
 | some u=>Eo u v
 | none=>false
theorem Bd {tab:JY} (ht:Kv P tab) {memo:DT} (hm:DJ P memo) {n:Nat} {f:FuncId} {vs:List V} {v:V} (h:FR tab memo n f vs v=true):BX vs=true∧A1 v=true∧Pure P f vs v:=by
 unfold FR at h;rw[Me (Wt tab memo n)]at h;exact UX ht hm h
noncomputable def Fk (t:Tr BN):JY:=fun f=>X3 t f
theorem CG {t:Tr BN} (h:P7 (fun i=>AZ P i) id t):Kv P (Fk t):=fun f fs e=>h f fs ((SI t f).symm.trans e)
noncomputable def DB (m:DT) (f:FuncId) (a:List V) (v:V):DT:=fun g=>@Bool.rec (fun _=>List (List V×V)) (m g) ((a,v)::m g) (Nat.beq f g)
theorem BE {m:DT} (h:DJ P m) {f:FuncId} {a:List V} {v:V} (h1:BX a=true∧A1 v=true∧Pure P f a v):DJ P (DB m f a v):=fun g e he=>by
 unfold DB at he;cases hb:Nat.beq f g with
 | false=>rw[hb]at he;exact h g e he
 | true=>
   rw[hb]at he;have:=DA hb;subst this;rcases IF.1 he with rfl|he
   ·exact h1
   ·exact h f e he
end Go.Gl
