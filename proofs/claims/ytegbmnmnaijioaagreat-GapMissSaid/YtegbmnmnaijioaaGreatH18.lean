import Derived.Test.YtegbmnmnaijioaaGreatProg
import Derived.KernelRfl
import Derived.Test.YtegbmnmnaijioaaGreatH6
import Derived.Test.YtegbmnmnaijioaaGreatH17
set_option linter.all false
set_option linter.defProp false
noncomputable section
namespace Go.Gl
variable {P:Program}
structure CS where
 M:Nat
 E:Env
abbrev An:=Option (Ag×CS×St)
def Ke {α β:Type} (c:Bool) (x:Option α) (g:α→Option β):ob (bif c then x else none) g=bif c then ob x g else none:=by cases c<;>rfl
def lD (env:Env) (n:Nat) (K:V→An):An:=@List.rec (Nat×V) (fun _=>Nat→(V→An)→An) (fun _ _=>none) (fun p _ ih n K=>@Bool.rec (fun _=>An) (ih n K) (K p.2) (Nat.beq p.1 n)) env n K
def m6 (env:Env) (n:Nat) (K:V→An):lD env n K=ob (get n env) K:=by
 induction env with
 | nil=>rfl
 | cons p r ih=>
   obtain⟨j,v⟩:=p;show @Bool.rec (fun _=>An) (lD r n K) (K v) (Nat.beq j n)=ob (bif Nat.beq j n then some v else get n r) K;cases Nat.beq j n
   ·exact ih
   ·rfl
def Sg {α:Type} (cs:List α) (i:Nat) (K:α→An):An:=@List.rec α (fun _=>Nat→(α→An)→An) (fun _ _=>none) (fun v _ ih i K=>@Nat.rec (fun _=>An) (K v) (fun j _=>ih j K) i) cs i K
def LQ {α:Type} (cs:List α): ∀(i:Nat) (K:α→An),Sg cs i K=ob cs[i]? K:=by
 induction cs with
 | nil=>intro i K;rfl
 | cons v r ih=>
   intro i K;cases i with
   | zero=>rfl
   | succ j=>exact ih j K
def GU {α:Type} (cs:List α):Nat:=@List.rec α (fun _=>Nat) 0 (fun _ _ ih=>Nat.succ ih) cs
def Fk {α:Type} (cs:List α):GU cs=cs.length:=by
 induction cs with
 | nil=>rfl
 | cons v r ih=>show Nat.succ (GU r)=_;rw[ih];rfl
def U8 {α:Type} (cs:List α) (n:Nat):List α:=@Nat.rec (fun _=>List α→List α) (fun cs=>cs) (fun _ ih cs=>@List.rec α (fun _=>(List α→List α)→List α) (fun _=>[]) (fun _ r _ ih=>ih r) cs ih) n cs
def Pm {α:Type}: ∀(n:Nat) (cs:List α),U8 cs n=cs.drop n
 | 0,cs=>rfl
 | n+1,[]=>rfl
 | n+1,v::r=>Pm n r
def Y0 {α:Type} (cs:List α) (n:Nat):List α:=@List.rec α (fun _=>Nat→List α) (fun _=>[]) (fun v _ ih n=>@Nat.rec (fun _=>List α) [] (fun j _=>v::ih j) n) cs n
def iO {α:Type} (cs:List α): ∀n:Nat,Y0 cs n=cs.take n:=by
 induction cs with
 | nil=>intro n;cases n<;>rfl
 | cons v r ih=>
   intro n;cases n with
   | zero=>rfl
   | succ j=>show v::Y0 r j=_;rw[ih];rfl
def XE {α:Type} (cs:List α) (n:Nat) (x:α):List α:=@List.rec α (fun _=>Nat→α→List α) (fun _ _=>[]) (fun v r ih n x=>@Nat.rec (fun _=>List α) (x::r) (fun j _=>v::ih j x) n) cs n x
def TQ {α:Type} (cs:List α) (x:α): ∀n:Nat,XE cs n x=cs.set n x:=by
 induction cs with
 | nil=>intro n;rfl
 | cons v r ih=>
   intro n;cases n with
   | zero=>rfl
   | succ j=>show v::XE r j x=_;rw[ih];rfl
def qU {α:Type} (f:α→Bool) (cs:List α):Bool:=@List.rec α (fun _=>(α→Bool)→Bool) (fun _=>true) (fun v _ ih f=>@Bool.rec (fun _=>Bool) false (ih f) (f v)) cs f
def oD {α:Type} (f:α→Bool) (cs:List α):qU f cs=cs.all f:=by
 induction cs with
 | nil=>rfl
 | cons v r ih=>
   show @Bool.rec (fun _=>Bool) false (qU f r) (f v)=_;rw[SZ,ih];cases f v<;>rfl
def gg (v:V) (K:V→An):An:=@V.rec (fun _=>V→(V→An)→An) (fun _=>Unit) (fun _=>Unit) (fun _ v K=>K v) (fun _ _ v K=>K v) (fun _ v K=>K v) (fun v K=>K v) (fun _ _ v K=>@Bool.rec (fun _=>An) none (K v) (BO v)) (fun _ _ v K=>@Bool.rec (fun _=>An) none (K v) (BO v)) (fun _ _ _ v K=>@Bool.rec (fun _=>An) none (K v) (BO v)) (fun _ _ _ v K=>@Bool.rec (fun _=>An) none (K v) (BO v)) (fun _ _ _ _ v K=>@Bool.rec (fun _=>An) none (K v) (BO v)) (fun _ _ _ _ v K=>@Bool.rec (fun _=>An) none (K v) (BO v)) (fun _ v K=>@Bool.rec (fun _=>An) none (K v) (BO v)) (fun v K=>K v) (fun _ _ _ _ _ v K=>@Bool.rec (fun _=>An) none (K v) (BO v)) (fun v K=>K v) (fun _ _ _ v K=>@Bool.rec (fun _=>An) none (K v) (BO v)) (fun v K=>K v) (fun _ _ v K=>@Bool.rec (fun _=>An) none (K v) (BO v)) (fun _ _ v K=>@Bool.rec (fun _=>An) none (K v) (BO v)) (fun v K=>@Bool.rec (fun _=>An) none (K v) (BO v)) () (fun _ _ _ _=>()) () (fun _ _ _ _=>()) v v K
def BS {α:Type} (c:Bool) (x y:α): @Bool.rec (fun _=>α) y x c=bif c then x else y:=by cases c<;>rfl
def dJ (v:V) (K:V→An):gg v K=ob (bif BO v then some v else none) K:=by
 rw[Ke];cases v<;>first|rfl|exact BS _ _ _
def OB (M n:Nat):Bool:=Nat.beq (Nat.land (Nat.shiftRight M n) 1) 1
def Sm (e:CS) (n:Nat):Option V:=bif OB e.1 n then get n e.2 else none
def Ix (e:CS) (env:Env):Prop:= ∀n,Sm e n=get n env
def B0 (x:Bt) (e:CS) (K:V→An):An:=@Bt.rec (fun _=>CS→(V→An)→An) (fun n e K=>@Bool.rec (fun _=>An) none (lD e.2 n K) (OB e.1 n)) (fun v _ K=>gg v K) x e K
def BL {e:CS} {env:Env} (he:Ix e env) (x:Bt) (K:V→An):B0 x e K=ob (Dg env x) K:=by
 cases x with
 | t n=>
   show @Bool.rec (fun _=>An) none (lD e.2 n K) (OB e.1 n)=ob (get n env) K;rw[←he n,Sm,BS,Ke,m6]
 | c v=>exact dJ v K
def K7 (l:List Bt) (env:CS) (K:List V→An):An:=@List.rec Bt (fun _=>CS→(List V→An)→An) (fun _ K=>K []) (fun x _ ih env K=>B0 x env fun v=>ih env fun vs=>K (v::vs)) l env K
def By {e:CS} {env:Env} (he:Ix e env): ∀(l:List Bt) (K:List V→An),K7 l e K=ob (N3 env l) K
 | [],K=>rfl
 | x ::r,K=>by
   show(B0 x e fun v=>K7 r e fun vs=>K (v::vs))=_;rw[BL he];simp only[N3];cases Dg env x with
   | none=>rfl
   | some v=>
     simp only[ob];rw[By he r];cases N3 env r<;>rfl
def XH (x:Option Bt) (e:CS) (K:Option V→An):An:=@Option.rec Bt (fun _=>CS→(Option V→An)→An) (fun _ K=>K none) (fun x e K=>B0 x e fun v=>K (some v)) x e K
def B5 {e:CS} {env:Env} (he:Ix e env) (x:Option Bt) (K:Option V→An):XH x e K=ob (KQ env x) K:=by
 cases x with
 | none=>rfl
 | some x=>
   show(B0 x e fun v=>K (some v))=_;rw[BL he];simp only[KQ];cases Dg env x<;>rfl
def wg (k:IntKind):Nat:=@IntKind.rec (fun _=>Nat) 0 1 2 3 4 5 6 7 k
def MU (a b:IntKind):Bool:=Nat.beq (wg a) (wg b)
def nP (a b:IntKind):MU a b=decide (a=b):=by cases a<;>cases b<;>rfl
def wx (a b:Int):Int:=@Int.rec (fun _=>Int→Int) (fun m b=>@Int.rec (fun _=>Nat→Int) (fun n m=>Int.ofNat (Nat.add m n)) (fun n m=>Int.ofNat m+Int.negSucc n) b m) (fun m b=>Int.negSucc m+b) a b
def oJ (a b:Int):wx a b=a+b:=by cases a<;>cases b<;>rfl
def wV (a b:Int):Int:=@Int.rec (fun _=>Int→Int) (fun m b=>@Int.rec (fun _=>Nat→Int) (fun n m=>@Bool.rec (fun _=>Int) (Int.negSucc (Nat.sub n (Nat.succ m))) (Int.ofNat (Nat.sub m n)) (Nat.ble n m)) (fun n m=>Int.ofNat m - Int.negSucc n) b m) (fun m b=>Int.negSucc m - b) a b
def lP (a b:Int):wV a b=a - b:=by
 cases a with
 | negSucc m=>rfl
 | ofNat m=>
   cases b with
   | negSucc n=>rfl
   | ofNat n=>
     show @Bool.rec (fun _=>Int) (Int.negSucc (n - (m+1))) (Int.ofNat (m - n)) (Nat.ble n m)=_;cases h:Nat.ble n m with
     | true=>
       have:=Nat.le_of_ble_eq_true h;show Int.ofNat (m - n)=(m:Int) - (n:Int);simp only[Int.ofNat_eq_natCast];omega
     | false=>
       have: ¬n≤m:=fun h'=>by rw[Nat.ble_eq_true_of_le h']at h;cases h
       show Int.negSucc (n - (m+1))=(m:Int) - (n:Int);omega
def di (a b:Int):Bool:=@Int.rec (fun _=>Int→Bool) (fun m b=>@Int.rec (fun _=>Nat→Bool) (fun n m=>Nat.ble (Nat.succ m) n) (fun _ _=>false) b m) (fun m b=>@Int.rec (fun _=>Nat→Bool) (fun _ _=>true) (fun n m=>Nat.ble (Nat.succ n) m) b m) a b
def S3 (a b:Int):di a b=MN a b:=by cases a<;>cases b<;>rfl
def yh (a b:Int):Bool:=@Int.rec (fun _=>Int→Bool) (fun m b=>@Int.rec (fun _=>Nat→Bool) (fun n m=>Nat.beq m n) (fun _ _=>false) b m) (fun m b=>@Int.rec (fun _=>Nat→Bool) (fun _ _=>false) (fun n m=>Nat.beq m n) b m) a b
def sI (a b:Int):yh a b=a7 a b:=by cases a<;>cases b<;>rfl
def Sh (b:Bool):Bool:=@Bool.rec (fun _=>Bool) true false b
def mL (b:Bool):Sh b= !b:=by cases b<;>rfl
def dv (a:Int):Nat:=@Int.rec (fun _=>Nat) (fun n=>n) (fun _=>0) a
def O6 (a:Int):dv a=a.toNat:=by cases a<;>rfl
def Yy (k:IntKind) (n:Int):Int:=@IntKind.rec (fun _=>Int→Int) (fun n=>IntKind.i8.wrap n) (fun n=>IntKind.i16.wrap n) (fun n=>IntKind.i32.wrap n)
 (fun n=>@Int.rec (fun _=>Int) (fun m=>@Bool.rec (fun _=>Int) (IntKind.i64.wrap (Int.ofNat m)) (Int.ofNat m) (Nat.ble m 9223372036854775807)) (fun m=>@Bool.rec (fun _=>Int) (IntKind.i64.wrap (Int.negSucc m)) (Int.negSucc m) (Nat.ble m 9223372036854775807)) n)
 (fun n=>IntKind.u8.wrap n) (fun n=>IntKind.u16.wrap n) (fun n=>IntKind.u32.wrap n)
 (fun n=>@Int.rec (fun _=>Int) (fun m=>@Bool.rec (fun _=>Int) (IntKind.u64.wrap (Int.ofNat m)) (Int.ofNat m) (Nat.ble m 18446744073709551615)) (fun m=>IntKind.u64.wrap (Int.negSucc m)) n) k n
def iF (k:IntKind) (n:Int):Yy k n=k.wrap n:=by
 cases k<;>try rfl
 ·cases n with
  | ofNat m=>
    have:=JG .i64 (.ofNat m);simp only[IW]at this;rw[←this];show @Bool.rec (fun _=>Int) _ _ _=_;cases Nat.ble m 9223372036854775807<;>rfl
  | negSucc m=>
    show @Bool.rec (fun _=>Int) (IntKind.i64.wrap (Int.negSucc m)) (Int.negSucc m) (Nat.ble m 9223372036854775807)=_;cases h:Nat.ble m 9223372036854775807 with
    | false=>rfl
    | true=>
      have:=Nat.le_of_ble_eq_true h;show Int.negSucc m=_;exact(wrap64 (by omega) (by omega)).symm
 ·cases n with
  | ofNat m=>
    have:=JG .u64 (.ofNat m);simp only[IW]at this;rw[←this];show @Bool.rec (fun _=>Int) _ _ _=_;cases Nat.ble m 18446744073709551615<;>rfl
  | negSucc m=>rfl
def wX (k:IntKind) (a b:Int):Int:=@Int.rec (fun _=>Int→IntKind→Int) (fun m b _=>Int.ofNat (Nat.shiftRight m (Nat.min (dv b) k.bits))) (fun m b k=>(Int.negSucc m).fdiv (2 ^ (min b.toNat k.bits))) a b k
def lV (k:IntKind) (a b:Int):wX k a b=a.fdiv (2 ^ (min b.toNat k.bits)):=by
 cases a with
 | negSucc m=>rfl
 | ofNat m=>
   show Int.ofNat (m >>> (min (dv b) k.bits))=_;rw[O6,Nat.shiftRight_eq_div_pow];have:(2:Int) ^ (min b.toNat k.bits)=((2 ^ (min b.toNat k.bits):Nat):Int):=by simp
   rw[this];exact(Int.ofNat_fdiv _ _)
def wY (k:IntKind) (a b:Int):Int:=@Int.rec (fun _=>Int→IntKind→Int) (fun m b _=>Int.ofNat (Nat.shiftLeft m (Nat.min (dv b) k.bits))) (fun m b k=>(Int.negSucc m)*(2 ^ (min b.toNat k.bits))) a b k
def lX (k:IntKind) (a b:Int):wY k a b=a*(2 ^ (min b.toNat k.bits)):=by
 cases a with
 | negSucc m=>rfl
 | ofNat m=>
   show Int.ofNat (m <<< (min (dv b) k.bits))=_;rw[O6,Nat.shiftLeft_eq];simp
def yP (v:V) (K:IntKind→Int→An):An:=@V.rec (fun _=>(IntKind→Int→An)→An) (fun _=>Unit) (fun _=>Unit) (fun _ K=>none) (fun k n K=>K k n) (fun _ K=>none) (fun K=>none) (fun _ _ K=>none) (fun _ _ K=>none) (fun _ _ _ K=>none) (fun _ _ _ K=>none) (fun _ _ _ _ K=>none) (fun _ _ _ _ K=>none) (fun _ K=>none) (fun K=>none) (fun _ _ _ _ _ K=>none) (fun K=>none) (fun _ _ _ K=>none) (fun K=>none) (fun _ _ K=>none) (fun _ _ K=>none) (fun K=>none) () (fun _ _ _ _=>()) () (fun _ _ _ _=>()) v K
def yO:V→Option (IntKind×Int)| .i k n=>some (k,n)|_=>none
def Xu (v:V) (K:IntKind→Int→An):yP v K=ob (yO v) fun p=>K p.1 p.2:=by cases v<;>rfl
def lH (op:BinOp) (vx vy:V) (K:V→An):An:=yP vx fun ka a=>yP vy fun kb b=>@BinOp.rec (fun _=>IntKind→Int→IntKind→Int→(V→An)→An) (fun ka a kb b K=>@Bool.rec (fun _=>An) none (K (.i ka (Yy ka (wx a b)))) (MU ka kb)) (fun ka a kb b K=>@Bool.rec (fun _=>An) none (K (.i ka (Yy ka (wV a b)))) (MU ka kb)) (fun ka a kb b K=>ob (Uk .mul (.i ka a) (.i kb b)) K) (fun ka a kb b K=>ob (Uk .quo (.i ka a) (.i kb b)) K) (fun ka a kb b K=>ob (Uk .rem (.i ka a) (.i kb b)) K) (fun ka a kb b K=>@Bool.rec (fun _=>An) none (K (.i ka (O2 .and ka a b))) (MU ka kb)) (fun ka a kb b K=>@Bool.rec (fun _=>An) none (K (.i ka (O2 .or ka a b))) (MU ka kb)) (fun ka a kb b K=>@Bool.rec (fun _=>An) none (K (.i ka (O2 .xor ka a b))) (MU ka kb)) (fun ka a kb b K=>@Bool.rec (fun _=>An) none (K (.i ka (Yy ka (wY ka a b)))) (Sh (di b 0))) (fun ka a kb b K=>@Bool.rec (fun _=>An) none (K (.i ka (wX ka a b))) (Sh (di b 0))) (fun ka a kb b K=>@Bool.rec (fun _=>An) none (K (.i ka (O2 .andNot ka a b))) (MU ka kb)) (fun ka a kb b K=>@Bool.rec (fun _=>An) none (K (.b (yh a b))) (MU ka kb)) (fun ka a kb b K=>@Bool.rec (fun _=>An) none (K (.b (Sh (yh a b)))) (MU ka kb)) (fun ka a kb b K=>@Bool.rec (fun _=>An) none (K (.b (di a b))) (MU ka kb)) (fun ka a kb b K=>@Bool.rec (fun _=>An) none (K (.b (Sh (di b a)))) (MU ka kb)) (fun ka a kb b K=>@Bool.rec (fun _=>An) none (K (.b (di b a))) (MU ka kb)) (fun ka a kb b K=>@Bool.rec (fun _=>An) none (K (.b (Sh (di a b)))) (MU ka kb)) op ka a kb b K
def n8 (op:BinOp) (vx vy:V) (K:V→An):lH op vx vy K=ob (Uk op vx vy) K:=by
 unfold lH;rw[Xu];cases vx<;>first|rfl|skip
 rename_i ka a;simp only[yO,ob];rw[Xu];cases vy<;>first|(cases op<;>rfl)|skip
 rename_i kb b;simp only[yO,ob];cases op<;>first|rfl|skip
 all_goals
  simp only[Uk];simp only[BS,nP,iF,oJ,lP,sI,S3,mL,lX,lV,JG,OY,ob]
  first
   | (cases decide (ka=kb)<;>rfl)
   | (cases MN b 0<;>rfl)
def bI {α:Type} (t:Tr α) (k:Nat):Option α:=@Tr.rec α (fun _=>Nat→Option α) (fun _=>none) (fun o _ _ ihl ihr k=>@Nat.rec (fun _=>Option α) o (fun j _=>@Bool.rec (fun _=>Option α) (ihr (Nat.div j 2)) (ihl (Nat.div j 2)) (Nat.beq (Nat.mod j 2) 0)) k) t k
def Ti {α:Type} (t:Tr α): ∀k:Nat,bI t k=t.get k:=by
 induction t with
 | leaf=>intro k;rfl
 | node o l r ihl ihr=>
   intro k;cases k with
   | zero=>rfl
   | succ j=>
     show @Bool.rec (fun _=>Option α) (bI r (j / 2)) (bI l (j / 2)) (Nat.beq (j % 2) 0)=bif Nat.beq (j % 2) 0 then l.get (j / 2)else r.get (j / 2);rw[ihl,ihr];cases Nat.beq (j % 2) 0<;>rfl
def Sd {α β:Type} (x:Option α) (d:Nat) (t:Tr α) (k:Nat) (K:Tr α→β):β:=
 @Nat.rec (fun _=>Tr α→Nat→(Tr α→β)→β) (fun t _ K=>K t)
  (fun _ ih t k K=>@Tr.rec α (fun _=>Nat→(Tr α→β)→β)
   (fun k K=>@Nat.rec (fun _=>β) (K (.node x .leaf .leaf)) (fun j _=>@Bool.rec (fun _=>β) (ih .leaf (Nat.div j 2) fun r=>K (.node none .leaf r)) (ih .leaf (Nat.div j 2) fun l=>K (.node none l .leaf)) (Nat.beq (Nat.mod j 2) 0)) k)
   (fun o l r _ _ k K=>@Nat.rec (fun _=>β) (K (.node x l r)) (fun j _=>@Bool.rec (fun _=>β) (ih r (Nat.div j 2) fun r=>K (.node o l r)) (ih l (Nat.div j 2) fun l=>K (.node o l r)) (Nat.beq (Nat.mod j 2) 0)) k) t k K) d t k K
def G1 {α β:Type} (x:Option α): ∀(d:Nat) (t:Tr α) (k:Nat) (K:Tr α→β),Sd x d t k K=Tr.put x d t k K
 | 0,t,k,K=>rfl
 | d+1,.leaf,0,K=>rfl
 | d+1,.node _ _ _,0,K=>rfl
 | d+1,.leaf,j+1,K=>by
   show @Bool.rec (fun _=>β) (Sd x d .leaf (j / 2) fun r=>K (.node none .leaf r)) (Sd x d .leaf (j / 2) fun l=>K (.node none l .leaf)) (Nat.beq (j % 2) 0)=bif Nat.beq (j % 2) 0 then _ else _;rw[G1 x d,G1 x d,BS]
 | d+1,.node o l r,j+1,K=>by
   show @Bool.rec (fun _=>β) (Sd x d r (j / 2) fun r=>K (.node o l r)) (Sd x d l (j / 2) fun l=>K (.node o l r)) (Nat.beq (j % 2) 0)=bif Nat.beq (j % 2) 0 then _ else _;rw[G1 x d,G1 x d,BS]
def eL (s:St) (o:EO) (K:Nat→St→An):An:=@Nat.rec (fun _=>An) (Sd (some o) BF s.t 0 fun t=>K 0 ⟨1,t⟩) (fun n _=>@Bool.rec (fun _=>An) none (Sd (some o) BF s.t (Nat.succ n) fun t=>K (Nat.succ n) ⟨Nat.succ (Nat.succ n),t⟩) (Nat.ble (Nat.succ n) MT)) s.nx
def mP {γ:Type} (s:St) (o:EO) (f:Nat→St→Option γ) (K:γ→An):ob (s.new o f) K=eL s o fun i s'=>ob (f i s') K:=by
 obtain⟨n,t⟩:=s;cases n with
 | zero=>
   unfold eL;simp only[St.new];rw[G1,Tr.put_eq,Tr.put_eq];rfl
 | succ n=>
   unfold eL;simp only[St.new];rw[G1,Tr.put_eq,Tr.put_eq,BS,Ke]
def xN (o:EO) (K:List V→An):An:=@EO.rec (fun _=>(List V→An)→An) (fun vs K=>K vs) (fun _ _ _=>none) (fun _ _=>none) (fun _ _ _ _ _ _=>none) o K
def rH (o:EO) (K:Nat→List (List V)→An):An:=@EO.rec (fun _=>(Nat→List (List V)→An)→An) (fun _ _=>none) (fun sz es K=>K sz es) (fun _ _=>none) (fun _ _ _ _ _ _=>none) o K
def yd {α:Type} (o:Option α) (K:α→An):An:=@Option.rec α (fun _=>(α→An)→An) (fun _=>none) (fun a K=>K a) o K
def fh {α:Type} (o:Option α) (K:α→An):yd o K=ob o K:=by cases o<;>rfl
def Y9 (s:St) (n:Nat) (K:List V→An):An:=yd (bI s.t n) fun o=>xN o K
def S7 (s:St) (n:Nat) (K:Nat→List (List V)→An):An:=yd (bI s.t n) fun o=>rH o K
def V0 (s:St) (n:Nat) (K:List V→An):Y9 s n K=match s.t.get n with|some (.cs vs)=>K vs|_=>none:=by
 unfold Y9;rw[fh,Ti];cases s.t.get n with
 | none=>rfl
 | some o=>cases o<;>rfl
def R6 (s:St) (n:Nat) (K:Nat→List (List V)→An):S7 s n K=match s.t.get n with|some (.arr sz es)=>K sz es|_=>none:=by
 unfold S7;rw[fh,Ti];cases s.t.get n with
 | none=>rfl
 | some o=>cases o<;>rfl
def XN (agg:Option Nat) (cs:List V) (off:Nat) (K:V→An):An:=@Option.rec Nat (fun _=>List V→Nat→(V→An)→An) (fun cs off K=>Sg cs off K)
 (fun n cs off K=>@Bool.rec (fun _=>An) (@Bool.rec (fun _=>An) none (K (.a (Y0 (U8 cs off) n))) (Nat.ble (Nat.add off n) (GU cs))) (K (.a cs)) (@Bool.rec (fun _=>Bool) false (Nat.beq n (GU cs)) (Nat.beq off 0))) agg cs off K
def OU (agg:Option Nat) (cs:List V) (off:Nat) (K:V→An):XN agg cs off K=ob (Uh agg cs off) K:=by
 cases agg with
 | none=>exact LQ cs off K
 | some n=>
   show @Bool.rec (fun _=>An) (@Bool.rec (fun _=>An) none (K (.a (Y0 (U8 cs off) n))) (Nat.ble (off+n) (GU cs))) (K (.a cs)) (@Bool.rec (fun _=>Bool) false (Nat.beq n (GU cs)) (Nat.beq off 0))=_;simp only[Uh];rw[iO,Pm,Fk,Ke];cases h1:Nat.beq off 0 with
   | false=>exact BS _ _ _
   | true=>
     cases h2:Nat.beq n cs.length with
     | false=>exact BS _ _ _
     | true=>
       have:=DD h1;subst this;have:=DD h2;subst this;show K (.a cs)=_;rw[Nat.ble_eq_true_of_le (by omega)];simp[ob]
def ep (s:St) (agg:Option Nat) (x:V) (K:V→An):An:=@V.rec (fun _=>St→Option Nat→(V→An)→An) (fun _=>Unit) (fun _=>Unit) (fun _ s agg K=>none) (fun _ _ s agg K=>none) (fun _ s agg K=>none) (fun s agg K=>none) (fun n off s agg K=>Y9 s n fun vs=>XN agg vs off K) (fun cs _ s agg K=>XN agg cs 0 K) (fun _ _ _ s agg K=>none) (fun _ _ _ s agg K=>none) (fun _ _ _ _ s agg K=>none) (fun n sz i off s agg K=>S7 s n fun sz1 es=>@Bool.rec (fun _=>An) none (Sg es i fun e=>XN agg e off K) (Nat.beq sz sz1)) (fun _ s agg K=>none) (fun s agg K=>none) (fun _ _ _ _ _ s agg K=>none) (fun s agg K=>none) (fun _ _ _ s agg K=>none) (fun s agg K=>none) (fun _ _ s agg K=>none) (fun _ _ s agg K=>none) (fun s agg K=>none) () (fun _ _ _ _=>()) () (fun _ _ _ _=>()) x s agg K
def jD (s:St) (agg:Option Nat) (x:V) (K:V→An):ep s agg x K=ob (NZ s agg x) K:=by
 cases x<;>first|rfl|skip
 ·rename_i n off
  refine(V0 _ _ _).trans ?_;simp only[NZ];cases s.t.get n with
  | none=>rfl
  | some o=>cases o<;>first|rfl|exact OU _ _ _ _
 ·exact OU _ _ _ _
 ·rename_i n sz i off
  refine(R6 _ _ _).trans ?_;simp only[NZ];cases s.t.get n with
  | none=>rfl
  | some o=>
    cases o<;>first|rfl|skip
    rename_i sz1 es;simp only;rw[BS,Ke,LQ];congr 1;cases es[i]? with
    | none=>rfl
    | some e=>exact OU _ _ _ _
def HF (v:V) (K:List V→An):An:=@V.rec (fun _=>V→(List V→An)→An) (fun _=>Unit) (fun _=>Unit) (fun _ v K=>K [v]) (fun _ _ v K=>K [v]) (fun _ v K=>K [v]) (fun v K=>K [v]) (fun _ _ v K=>K [v]) (fun _ _ v K=>K [v]) (fun _ _ _ v K=>K [v]) (fun _ _ _ v K=>K [v]) (fun _ _ _ _ v K=>K [v]) (fun _ _ _ _ v K=>K [v]) (fun _ v K=>K [v]) (fun v K=>K [v]) (fun _ _ _ _ _ v K=>K [v]) (fun v K=>K [v]) (fun _ _ _ v K=>K [v]) (fun v K=>K [v]) (fun cs _ v K=>K cs) (fun _ _ v K=>none) (fun v K=>none) () (fun _ _ _ _=>()) () (fun _ _ _ _=>()) v v K
def Hq (v:V) (K:List V→An):HF v K=ob (cellsOf v) K:=by cases v<;>rfl
def wb (v:V):Bool:=@V.rec (fun _=>Bool) (fun _=>Unit) (fun _=>Unit) (fun _=>true) (fun _ _=>true) (fun _=>true) (true) (fun _ _=>true) (fun _ _=>true) (fun _ _ _=>true) (fun _ _ _=>true) (fun _ _ _ _=>true) (fun _ _ _ _=>true) (fun _=>true) (true) (fun _ _ _ _ _=>true) (true) (fun _ _ _=>true) (true) (fun _ _=>false) (fun _ _=>false) (false) () (fun _ _ _ _=>()) () (fun _ _ _ _=>()) v
def mH:wb=CO:=funext fun v=>by cases v<;>rfl
def eG (cs:List V) (o:Nat) (vc:List V):List V:=@List.rec V (fun _=>List V→Nat→List V) (fun cs _=>cs) (fun v _ ih cs o=>ih (XE cs o v) (Nat.succ o)) vc cs o
def OL: ∀(vc cs:List V) (o:Nat),eG cs o vc=putAt cs o vc
 | [],_,_=>rfl
 | v::r,cs,o=>by
   show eG (XE cs o v) (o+1) r=_;rw[OL r,TQ];rfl
def k7 (cs:List V) (o:Nat) (vc:List V):List V:=@Bool.rec (fun _=>List V) (eG cs o vc) vc (@Bool.rec (fun _=>Bool) false (Nat.beq (GU vc) (GU cs)) (Nat.beq o 0))
def bq: ∀(vc pre cs:List V),vc.length=cs.length→putAt (pre++cs) pre.length vc=pre++vc:=by
 intro vc
 induction vc with
 | nil=>intro pre cs hl;cases cs with
   | nil=>rfl
   | cons _ _=>cases hl
 | cons x vc ih=>
   intro pre cs hl;cases cs with
   | nil=>cases hl
   | cons y cs=>
     simp only[putAt];rw[List.set_append_right _ _ (Ht _),Nat.sub_self,List.set_cons_zero];have:=ih (pre++[x]) cs (by simpa using hl);simp only[Qi,K1,List.length_nil,G7,W5,List.singleton_append]at this;exact this
def ZY (cs:List V) (o:Nat) (vc:List V):k7 cs o vc=putAt cs o vc:=by
 unfold k7;cases h1:Nat.beq o 0 with
 | false=>exact OL vc cs o
 | true=>
   rw[Fk,Fk];cases h2:Nat.beq vc.length cs.length with
   | false=>exact OL vc cs o
   | true=>
     have:=DD h1;subst this;exact(bq vc [] cs (DD h2)).symm
def fT (s:St) (sz:Nat) (a:V) (vc:List V) (K:St→An):An:=@V.rec (fun _=>St→Nat→List V→(St→An)→An) (fun _=>Unit) (fun _=>Unit) (fun _ s sz vc K=>none) (fun _ _ s sz vc K=>none) (fun _ s sz vc K=>none) (fun s sz vc K=>none) (fun n off s sz vc K=>Y9 s n fun vs=>@Bool.rec (fun _=>An) none (Sd (some (.cs (k7 vs off vc))) BF s.t n fun t=>K ⟨s.nx,t⟩) (Nat.ble (Nat.add off sz) (GU vs))) (fun _ _ s sz vc K=>none) (fun _ _ _ s sz vc K=>none) (fun _ _ _ s sz vc K=>none) (fun _ _ _ _ s sz vc K=>none) (fun n s' i off s sz vc K=>S7 s n fun s1 es=>@Bool.rec (fun _=>An) none (@Bool.rec (fun _=>An) none (Sg es i fun e=>Sd (some (.arr s1 (XE es i (k7 e off vc)))) BF s.t n fun t=>K ⟨s.nx,t⟩) (Nat.ble (Nat.add off sz) s')) (Nat.beq s' s1)) (fun _ s sz vc K=>none) (fun s sz vc K=>none) (fun _ _ _ _ _ s sz vc K=>none) (fun s sz vc K=>none) (fun _ _ _ s sz vc K=>none) (fun s sz vc K=>none) (fun _ _ s sz vc K=>none) (fun _ _ s sz vc K=>none) (fun s sz vc K=>none) () (fun _ _ _ _=>()) () (fun _ _ _ _=>()) a s sz vc K
def Sw (s:St) (sz:Nat) (a x:V) (K:St→An):An:=HF x fun vc=>@Bool.rec (fun _=>An) none (@Bool.rec (fun _=>An) none (fT s sz a vc K) (qU wb vc)) (Nat.beq (GU vc) sz)
def bU (s : St) (sz:Nat) (a x:V) (K:St→An):Sw s sz a x K=ob (PG s sz a x) K:=by
 unfold Sw PG;rw[Hq];cases cellsOf x with
 | none=>rfl
 | some vc =>
   simp only[ob,Fk,oD,mH];cases Nat.beq vc.length sz with
   | false=>rfl
   | true=>
     cases vc.all CO with
     | false=>rfl
     | true=>
       simp only[Bool.and_true,cond_true];show fT s sz a vc K=_;cases a<;>first|rfl|skip
       ·rename_i n off
        refine(V0 _ _ _).trans ?_;simp only;cases s.t.get n with
        | none=>rfl
        | some o=>
          cases o<;>first|rfl|skip
          rename_i vs;simp only;rw[G1,Tr.put_eq,ZY,Fk,BS,Tr.put_eq];show(bif Nat.ble (off+sz) vs.length then _ else none)=_;cases Nat.ble (off+sz) vs.length<;>rfl
       ·rename_i n s' i off
        refine(R6 _ _ _).trans ?_;simp only;cases s.t.get n with
        | none=>rfl
        | some o=>
          cases o<;>first|rfl|skip
          rename_i s1 es;simp only;rw[BS,BS,LQ];show(bif Nat.beq s' s1 then(bif Nat.ble (off+sz) s' then _ else none)else none)=_;cases Nat.beq s' s1<;>cases Nat.ble (off+sz) s'<;>try rfl
          simp only[cond_true,Bool.and_true];cases es[i]? with
          | none=>rfl
          | some e=>
            simp only[ob];rw[G1,Tr.put_eq,ZY,TQ,Tr.put_eq]
def Xk (off:Nat) (x:V) (K:V→An):An:=@V.rec (fun _=>Nat→(V→An)→An) (fun _=>Unit) (fun _=>Unit) (fun _ off K=>none) (fun _ _ off K=>none) (fun _ off K=>none) (fun off K=>none) (fun n o off K=>K (.p n (Nat.add o off))) (fun cs _ off K=>K (.rp (U8 cs off))) (fun _ _ _ off K=>none) (fun _ _ _ off K=>none) (fun _ _ _ _ off K=>none) (fun n sz i o off K=>K (.pe n sz i (Nat.add o off))) (fun _ off K=>none) (fun off K=>none) (fun _ _ _ _ _ off K=>none) (fun off K=>none) (fun _ _ _ off K=>none) (fun off K=>none) (fun _ _ off K=>none) (fun _ _ off K=>none) (fun off K=>none) () (fun _ _ _ _=>()) () (fun _ _ _ _=>()) x off K
def cw (off:Nat) (x:V) (K:V→An):Xk off x K=ob (TD off x) K:=by
 cases x<;>first|rfl|skip
 show K (.rp (U8 _ off))=_;rw[Pm];rfl
def fv (sz:Nat) (x:V) (j:Int) (K:V→An):An:=@V.rec (fun _=>Nat→Int→(V→An)→An) (fun _=>Unit) (fun _=>Unit) (fun _ sz j K=>none) (fun _ _ sz j K=>none) (fun _ sz j K=>none) (fun sz j K=>none) (fun _ _ sz j K=>none) (fun _ _ sz j K=>none) (fun es _ _ sz j K=>Sg es (dv j) fun e=>@Bool.rec (fun _=>An) none (K (.rp e)) (Nat.beq (GU e) sz)) (fun n len _ sz j K=>@Bool.rec (fun _=>An) none (K (.pe n sz (dv j) 0)) (di j (Int.ofNat len))) (fun n s off len sz j K=>@Bool.rec (fun _=>An) none (@Bool.rec (fun _=>An) none (K (.pe n sz (Nat.add off (dv j)) 0)) (di j (Int.ofNat len))) (Nat.beq s sz)) (fun _ _ _ _ sz j K=>none) (fun _ sz j K=>none) (fun sz j K=>none) (fun _ _ _ _ _ sz j K=>none) (fun sz j K=>none) (fun _ _ _ sz j K=>none) (fun sz j K=>none) (fun _ _ sz j K=>none) (fun _ _ sz j K=>none) (fun sz j K=>none) () (fun _ _ _ _=>()) () (fun _ _ _ _=>()) x sz j K
def Xg (sz:Nat) (arr:Option Nat) (x i:V) (K:V→An):An:=@Option.rec Nat (fun _=>Nat→V→V→(V→An)→An) (fun sz x i K=>yP i fun _ j=>@Bool.rec (fun _=>An) (fv sz x j K) none (di j 0)) (fun m sz x i K=>ob (Mi sz (some m) x i) K) arr sz x i K
def cQ (sz:Nat) (arr:Option Nat) (x i:V) (K:V→An):Xg sz arr x i K=ob (Mi sz arr x i) K:=by
 cases arr with
 | some m=>rfl
 | none=>
   refine(Xu _ _).trans ?_;cases i<;>first|rfl|skip
   rename_i k j;simp only[yO,ob,Mi,OY,S3];cases MN j 0 with
   | true=>rfl
   | false=>
     show fv sz x j K=_;cases x<;>first|rfl|skip
     ·rename_i es full
      show Sg es (dv j) _=_;rw[LQ,O6];simp only[Bool.not_false,cond_true];cases es[j.toNat]? with
      | none=>rfl
      | some e=>
        simp only[ob,Fk];cases Nat.beq e.length sz<;>rfl
     ·rename_i n len cap
      show @Bool.rec (fun _=>An) none (K (.pe n sz (dv j) 0)) (di j (Int.ofNat len))=_;rw[O6,S3];simp only[Bool.not_false,cond_true];have:MN j (Int.ofNat len)=MN j (len:Int):=rfl;rw[this];cases MN j (len:Int)<;>rfl
     ·rename_i n s off len
      show @Bool.rec (fun _=>An) none (@Bool.rec (fun _=>An) none (K (.pe n sz (off+dv j) 0)) (di j (Int.ofNat len))) (Nat.beq s sz)=_;rw[O6,S3];simp only[Bool.not_false,cond_true];have:MN j (Int.ofNat len)=MN j (len:Int):=rfl;rw[this];cases Nat.beq s sz<;>cases MN j (len:Int)<;>rfl
def qI (x:V) (K:V→An):An:=@V.rec (fun _=>(V→An)→An) (fun _=>Unit) (fun _=>Unit) (fun _ K=>none) (fun _ _ K=>none) (fun _ K=>none) (fun K=>none) (fun _ _ K=>none) (fun _ _ K=>none) (fun es _ _ K=>K (.i .i64 (Int.ofNat (GU es)))) (fun _ len _ K=>@Bool.rec (fun _=>An) none (K (.i .i64 (Int.ofNat len))) (Nat.ble len Aj)) (fun _ _ _ len K=>@Bool.rec (fun _=>An) none (K (.i .i64 (Int.ofNat len))) (Nat.ble len Aj)) (fun _ _ _ _ K=>none) (fun _ K=>none) (fun K=>none) (fun _ _ _ _ _ K=>none) (fun K=>none) (fun _ _ _ K=>none) (fun K=>none) (fun _ _ K=>none) (fun _ _ K=>none) (fun K=>none) () (fun _ _ _ _=>()) () (fun _ _ _ _=>()) x K
def mT (x:V) (K:V→An):qI x K=ob (bK x) K:=by
 cases x<;>first|rfl|skip
 ·show K (.i .i64 (Int.ofNat (GU _)))=_
  rw[Fk];rfl
 ·show @Bool.rec (fun _=>An) none _ (Nat.ble _ Aj)=_
  rw[BS];simp only[bK];rw[Ke];rfl
 ·show @Bool.rec (fun _=>An) none _ (Nat.ble _ Aj)=_
  rw[BS];simp only[bK];rw[Ke];rfl
def Xa (x:V) (K:V→An):An:=@V.rec (fun _=>V→(V→An)→An) (fun _=>Unit) (fun _=>Unit) (fun _ x K=>none) (fun _ _ x K=>none) (fun _ x K=>none) (fun x K=>none) (fun _ _ x K=>K x) (fun _ _ x K=>K x) (fun _ _ _ x K=>none) (fun _ _ _ x K=>none) (fun _ _ _ _ x K=>none) (fun _ _ _ _ x K=>K x) (fun _ x K=>none) (fun x K=>none) (fun _ _ _ _ _ x K=>ob (Mh x) K) (fun x K=>none) (fun _ _ _ x K=>none) (fun x K=>none) (fun _ _ x K=>none) (fun _ _ x K=>none) (fun x K=>none) () (fun _ _ _ _=>()) () (fun _ _ _ _=>()) x x K
def cF (x:V) (K:V→An):Xa x K=ob (Mh x) K:=by cases x<;>rfl
def asT (v:V) (K:List V→An):An:=@V.rec (fun _=>(List V→An)→An) (fun _=>Unit) (fun _=>Unit) (fun _ K=>none) (fun _ _ K=>none) (fun _ K=>none) (fun K=>none) (fun _ _ K=>none) (fun _ _ K=>none) (fun _ _ _ K=>none) (fun _ _ _ K=>none) (fun _ _ _ _ K=>none) (fun _ _ _ _ K=>none) (fun _ K=>none) (fun K=>none) (fun _ _ _ _ _ K=>none) (fun K=>none) (fun _ _ _ K=>none) (fun K=>none) (fun _ _ K=>none) (fun vs _ K=>K vs) (fun K=>none) () (fun _ _ _ _=>()) () (fun _ _ _ _=>()) v K
def oT (v:V) (K:Bool→An):An:=@V.rec (fun _=>(Bool→An)→An) (fun _=>Unit) (fun _=>Unit) (fun x K=>K x) (fun _ _ K=>none) (fun _ K=>none) (fun K=>none) (fun _ _ K=>none) (fun _ _ K=>none) (fun _ _ _ K=>none) (fun _ _ _ K=>none) (fun _ _ _ _ K=>none) (fun _ _ _ _ K=>none) (fun _ K=>none) (fun K=>none) (fun _ _ _ _ _ K=>none) (fun K=>none) (fun _ _ _ K=>none) (fun K=>none) (fun _ _ K=>none) (fun _ _ K=>none) (fun K=>none) () (fun _ _ _ _=>()) () (fun _ _ _ _=>()) v K
def asA (v:V) (K:List V→An):An:=@V.rec (fun _=>(List V→An)→An) (fun _=>Unit) (fun _=>Unit) (fun _ K=>none) (fun _ _ K=>none) (fun _ K=>none) (fun K=>none) (fun _ _ K=>none) (fun _ _ K=>none) (fun _ _ _ K=>none) (fun _ _ _ K=>none) (fun _ _ _ _ K=>none) (fun _ _ _ _ K=>none) (fun _ K=>none) (fun K=>none) (fun _ _ _ _ _ K=>none) (fun K=>none) (fun _ _ _ K=>none) (fun K=>none) (fun cs _ K=>K cs) (fun _ _ K=>none) (fun K=>none) () (fun _ _ _ _=>()) () (fun _ _ _ _=>()) v K
def XL (v:V) (K:V→An):An:=@V.rec (fun _=>V→(V→An)→An) (fun _=>Unit) (fun _=>Unit) (fun x v K=>@Bool.rec (fun _=>An) (K (.b false)) (K (.b true)) x) (fun k n v K=>@Int.rec (fun _=>An) (fun m=>@Nat.rec (fun _=>An) (K (.i k (Int.ofNat 0))) (fun j _=>K (.i k (Int.ofNat (Nat.succ j)))) m) (fun m=>@Nat.rec (fun _=>An) (K (.i k (Int.negSucc 0))) (fun j _=>K (.i k (Int.negSucc (Nat.succ j)))) m) n) (fun _ v K=>K v) (fun v K=>K v) (fun _ _ v K=>K v) (fun _ _ v K=>K v) (fun _ _ _ v K=>K v) (fun _ _ _ v K=>K v) (fun _ _ _ _ v K=>K v) (fun _ _ _ _ v K=>K v) (fun _ v K=>K v) (fun v K=>K v) (fun _ _ _ _ _ v K=>K v) (fun v K=>K v) (fun _ _ _ v K=>K v) (fun v K=>K v) (fun _ _ v K=>K v) (fun _ _ v K=>K v) (fun v K=>K v) () (fun _ _ _ _=>()) () (fun _ _ _ _=>()) v v K
def Z4 (v:V) (K:V→An):XL v K=K v:=by
 cases v<;>first|rfl|skip
 ·rename_i x;cases x<;>rfl
 ·rename_i k n
  cases n with
  | ofNat m=>cases m<;>rfl
  | negSucc m=>cases m<;>rfl
def fin (o:Option (R×St)) (k kp:V→St→An):An:=match o with
 | some (.ret v,s)=>k v s
 | some (.Bo v,s)=>kp v s
 | none=>none
def CQ (o:Option (R×St)) (k kp:V→St→An):An:=@Option.rec (R×St) (fun _=>(V→St→An)→(V→St→An)→An) (fun _ _=>none) (fun p k kp=>@R.rec (fun _=>St→(V→St→An)→(V→St→An)→An) (fun v s k _=>k v s) (fun v s _ kp=>kp v s) p.1 p.2 k kp) o k kp
def Bx (o:Option (R×St)) (k kp:V→St→An):CQ o k kp=fin o k kp:=by
 cases o with
 | none=>rfl
 | some p=>
   obtain⟨r,s⟩:=p;cases r<;>rfl
def HC (o:Option V) (s:St) (k kp:V→St→An):fin (ov o s) k kp=ob o fun v=>k v s:=by cases o<;>rfl
def sH (o:Option St) (k kp:V→St→An):fin (os o) k kp=ob o fun s=>k (.t []) s:=by cases o<;>rfl
def BZ {α:Type} (o:Option α) (f:α→Option (R×St)) (k kp:V→St→An):fin (ob o f) k kp=ob o fun a=>fin (f a) k kp:=by cases o<;>rfl
abbrev OK:=CF→CV→CP→CS→St→(V→St→An)→(V→St→An)→An
def S9 (e:CS) (ps:List (Nat×Nat×Bt)) (cs:List V) (K:List V→An):An:=@List.rec (Nat×Nat×Bt) (fun _=>List V→(List V→An)→An) (fun cs K=>K cs)
 (fun p _ ih cs K=>B0 p.2.2 e fun v=>HF v fun vc=>@Bool.rec (fun _=>An) none (@Bool.rec (fun _=>An) none (ih (eG cs p.1 vc) K) (Nat.ble (Nat.add p.1 p.2.1) (GU cs))) (Nat.beq (GU vc) p.2.1)) ps cs K
def SC {e : CS} {env:Env} (he:Ix e env): ∀(ps:List (Nat×Nat×Bt)) (cs:List V) (K:List V→An),S9 e ps cs K=ob (Mj env cs ps) K
 | [],cs,K=>rfl
 | (off, sz,x)::r,cs,K=>by
   show(B0 x e fun v=>HF v fun vc=>@Bool.rec (fun _=>An) none (@Bool.rec (fun _=>An) none (S9 e r (eG cs off vc) K) (Nat.ble (off+sz) (GU cs))) (Nat.beq (GU vc) sz))=_;rw[BL he];simp only[Mj];cases Dg env x with
   | none=>rfl
   | some v=>
     simp only[ob];rw[Hq];cases cellsOf v with
     | none=>rfl
     | some vc=>
       simp only[ob,Fk,OL];cases Nat.beq vc.length sz with
       | false=>rfl
       | true=>
         cases Nat.ble (off+sz) cs.length with
         | false=>rfl
         | true=>exact SC he r _ K
def TA (e:CS) (sz:Nat) (ps:List (Nat×Bt)) (es:List (List V)) (K:List (List V)→An):An:=@List.rec (Nat×Bt) (fun _=>List (List V)→(List (List V)→An)→An) (fun es K=>K es)
 (fun p _ ih es K=>B0 p.2 e fun v=>HF v fun vc=>@Bool.rec (fun _=>An) none (@Bool.rec (fun _=>An) none (ih (XE es p.1 vc) K) (Nat.ble (Nat.succ p.1) (GU es))) (Nat.beq (GU vc) sz)) ps es K
def SE {e : CS} {env:Env} (he:Ix e env) (sz:Nat): ∀(ps:List (Nat×Bt)) (es:List (List V)) (K:List (List V)→An),TA e sz ps es K=ob (Mk env sz es ps) K
 | [],es,K=>rfl
 | (i, x)::r,es,K=>by
   show(B0 x e fun v=>HF v fun vc=>@Bool.rec (fun _=>An) none (@Bool.rec (fun _=>An) none (TA e sz r (XE es i vc) K) (Nat.ble (Nat.succ i) (GU es))) (Nat.beq (GU vc) sz))=_;rw[BL he];simp only[Mk];cases Dg env x with
   | none=>rfl
   | some v=>
     simp only[ob];rw[Hq];cases cellsOf v with
     | none=>rfl
     | some vc=>
       simp only[ob,Fk,TQ,Nat.blt,Nat.succ_eq_add_one];cases Nat.beq vc.length sz with
       | false=>rfl
       | true=>
         cases Nat.ble (i+1) es.length with
         | false=>rfl
         | true=>exact SE he sz r _ K
def yL (o:GA):OK:=@GA.rec (fun _=>OK)
 (fun x cf cv cp env s kk kp=>B0 x env fun v=>kk v s)
 (fun x cf cv cp env s kk kp=>B0 x env fun v=>kk v s)
 (fun c a b cf cv cp env s kk kp=>B0 c env fun vc=>B0 a env fun va=>B0 b env fun vb=>oT vc fun t=>@Bool.rec (fun _=>An) (kk vb s) (kk va s) t)
 (fun op x y cf cv cp env s kk kp=>B0 x env fun vx=>B0 y env fun vy=>lH op vx vy fun v=>kk v s)
 (fun neg x y cf cv cp env s kk kp=>B0 x env fun vx=>B0 y env fun vy=>CQ (match vx,vy with| .b p,.b q=>some (.ret (.b (bif neg then p != q else p==q)),s)|_,_=>none) kk kp)
 (fun len neg x y cf cv cp env s kk kp=>B0 x env fun vx=>B0 y env fun vy=>CQ (ov (eW len neg vx vy) s) kk kp)
 (fun kind neg x cf cv cp env s kk kp=>B0 x env fun vx=>CQ (ov (eV kind neg vx) s) kk kp)
 (fun x cf cv cp env s kk kp=>B0 x env fun vx=>oT vx fun p=>kk (.b (Sh p)) s)
 (fun xor x cf cv cp env s kk kp=>B0 x env fun vx=>CQ (match vx with| .i ka a=>some (.ret (.i ka (bif xor then bits .xor ka (bif ka.signed then -1 else ka.max) a else ka.wrap (0 - a))),s)|_=>none) kk kp)
 (fun k x cf cv cp env s kk kp=>B0 x env fun vx=>CQ (match vx with| .i _ a=>some (.ret (.i k (IW k a)),s)|_=>none) kk kp)
 (fun x cf cv cp env s kk kp=>B0 x env fun vx=>HF vx fun cs=>eL s (.cs cs) fun i s=>kk (.p i 0) s)
 (fun x cf cv cp env s kk kp=>B0 x env fun vx=>HF vx fun cs=>kk (.rp cs) s)
 (fun sz bytes x y cf cv cp env s kk kp=>B0 x env fun vx=>B0 y env fun vy=>CQ (ov (U7 bytes s sz vx vy) s) kk kp)
 (fun zero cf cv cp env s kk kp=>CQ (bif CI zero then s.new (.cs zero) fun i s=>some (.ret (.p i 0),s)else none) kk kp)
 (fun zero parts cf cv cp env s kk kp=>@Bool.rec (fun _=>An) none (S9 env parts zero fun cs=>kk (.a cs) s) (CI zero))
 (fun sz len zero parts cf cv cp env s kk kp=>@Bool.rec (fun _=>An) none (TA env (GU zero) parts (List.replicate len zero) fun es=>kk (.l es true) s) (CI zero))
 (fun agg x cf cv cp env s kk kp=>B0 x env fun vx=>ep s agg vx fun v=>kk v s)
 (fun sz a x cf cv cp env s kk kp=>B0 a env fun va=>B0 x env fun vx=>Sw s sz va vx fun s=>kk (.t []) s)
 (fun off x cf cv cp env s kk kp=>B0 x env fun vx=>Xk off vx fun v=>kk v s)
 (fun agg off x cf cv cp env s kk kp=>B0 x env fun vx=>asA vx fun cs=>XN agg cs off fun v=>kk v s)
 (fun sz arr x i cf cv cp env s kk kp=>B0 x env fun vx=>B0 i env fun vi=>Xg sz arr vx vi fun v=>kk v s)
 (fun len sz agg x i cf cv cp env s kk kp=>B0 x env fun vx=>B0 i env fun vi=>CQ (ov (PI len sz agg vx vi) s) kk kp)
 (fun sz x lo hi mx cf cv cp env s kk kp=>B0 x env fun vx=>XH lo env fun l=>XH hi env fun h=>XH mx env fun m=>CQ (a6 (PH s sz vx l h m)) kk kp)
 (fun x cf cv cp env s kk kp=>B0 x env fun vx=>qI vx fun v=>kk v s)
 (fun x cf cv cp env s kk kp=>B0 x env fun vx=>CQ (ov (U5 s vx) s) kk kp)
 (fun x cf cv cp env s kk kp=>B0 x env fun vx=>CQ (ov (eT s vx) s) kk kp)
 (fun x i cf cv cp env s kk kp=>B0 x env fun vx=>B0 i env fun vi=>CQ (ov (U4 vx vi) s) kk kp)
 (fun sz bytes x y cf cv cp env s kk kp=>B0 x env fun vx=>B0 y env fun vy=>CQ (a6 (LY bytes s sz vx vy)) kk kp)
 (fun sz x y cf cv cp env s kk kp=>B0 x env fun vx=>B0 y env fun vy=>CQ (a6 (U6 s sz vx vy)) kk kp)
 (fun x y cf cv cp env s kk kp=>B0 x env fun vx=>B0 y env fun vy=>CQ (match vx,vy with| .i ka a,.i kb b=>bif decide (ka=kb)then some (.ret (.i ka (bif MN a b then b else a)),s)else none|_,_=>none) kk kp)
 (fun x y cf cv cp env s kk kp=>B0 x env fun vx=>B0 y env fun vy=>CQ (match vx,vy with| .i ka a,.i kb b=>bif decide (ka=kb)then some (.ret (.i ka (bif MN b a then b else a)),s)else none|_,_=>none) kk kp)
 (fun i x cf cv cp env s kk kp=>B0 x env fun vx=>asT vx fun vs=>Sg vs i fun v=>kk v s)
 (fun x cf cv cp env s kk kp=>B0 x env fun vx=>Xa vx fun v=>kk v s)
 (fun f first cap cf cv cp env s kk kp=>K7 first env fun vf=>K7 cap env fun vc=>@Bool.rec (fun _=>An) none (kk (.f f vf vc) s) (MZ f))
 (fun cf cv cp env s kk kp=>CQ (s.new (.map []) fun i s=>some (.ret (.m i),s)) kk kp)
 (fun sz bytes zero len cap cf cv cp env s kk kp=>B0 len env fun vx=>B0 cap env fun vy=>CQ (a6 (JK s sz zero vx vy)) kk kp)
 (fun ks zero ok m k cf cv cp env s kk kp=>B0 m env fun vm=>B0 k env fun vk=>CQ (ov (LW s ks zero ok vm vk) s) kk kp)
 (fun ks m k v cf cv cp env s kk kp=>B0 m env fun vm=>B0 k env fun vk=>B0 v env fun vx=>CQ (os (LV s ks vm vk vx)) kk kp)
 (fun t x cf cv cp env s kk kp=>B0 x env fun vx=>kk (.FJ t vx) s)
 (fun t zero ok x cf cv cp env s kk kp=>B0 x env fun vx=>CQ (ov (eS t zero ok vx) s) kk kp)
 (fun x cf cv cp env s kk kp=>B0 x env fun vx=>CQ (match vx with| .FJ t v=>some (.Bo (.FJ t v),s)|_=>none) kk kp)
 (fun f args cf cv cp env s kk kp=>K7 args env fun vs=>CQ (cf f vs s) kk kp)
 (fun f args cf cv cp env s kk kp=>K7 args env fun vs=>CQ (ov (cp f vs) s) kk kp)
 (fun x args cf cv cp env s kk kp=>B0 x env fun vx=>K7 args env fun vs=>CQ (cv vx vs s) kk kp)
 (fun x args cf cv cp env s kk kp=>none)
 (fun tab x args cf cv cp env s kk kp=>B0 x env fun vx=>K7 args env fun vs=>CQ (match vx with| .FJ t v=>ob (look t tab) fun f=>cf f (v::vs) s|_=>none) kk kp) o
def ij {vc va vb:V} {s:St} {kk kp:V→St→An}:oT vc (fun t=>@Bool.rec (fun _=>An) (kk vb s) (kk va s) t)=fin (match vc with| .b t=>some (.ret (bif t then va else vb),s)|_=>none) kk kp:=by
 cases vc<;>first|rfl|skip
 rename_i t;cases t<;>rfl
def not_eq {vx:V} {s:St} {kk kp:V→St→An}:oT vx (fun p=>kk (.b (Sh p)) s)=fin (match vx with| .b p=>some (.ret (.b (!p)),s)|_=>none) kk kp:=by
 cases vx<;>first|rfl|skip
 rename_i t;cases t<;>rfl
def Tl {c:Bool} {x:Option (R×St)} {kk kp:V→St→An}:fin (bif c then x else none) kk kp=bif c then fin x kk kp else none:=by cases c<;>rfl
def fg {e:CS} {env:Env} (he:Ix e env) (o:GA) (cf:CF) (cv:CV) (cp:CP) (s:St) (kk kp:V→St→An):yL o cf cv cp e s kk kp=fin (F9 cf cv cp o env s) kk kp:=by
 cases o with
 | mv x=>
   show(B0 x e fun v=>kk v s)=_;simp only[BL he,F9,HC]
 | kU x=>
   show(B0 x e fun v=>kk v s)=_;simp only[BL he,F9,HC]
 | pick c a b=>
   show(B0 c e fun vc=>B0 a e fun va=>B0 b e fun vb=>oT vc fun t=>@Bool.rec (fun _=>An) (kk vb s) (kk va s) t)=_;simp only[BL he,F9,BZ,ij (kp:=kp)];rfl
 | bin op x y=>
   show(B0 x e fun vx=>B0 y e fun vy=>lH op vx vy fun v=>kk v s)=_;simp only[BL he,F9,BZ,HC,n8]
 | kg neg x y=>
   show(B0 x e fun vx=>B0 y e fun vy=>CQ (match vx,vy with| .b p,.b q=>some (.ret (.b (bif neg then p != q else p==q)),s)|_,_=>none) kk kp)=_;simp only[BL he,By he,B5 he,F9,BZ,Bx]
   try rfl
 | ke len neg x y=>
   show(B0 x e fun vx=>B0 y e fun vy=>CQ (ov (eW len neg vx vy) s) kk kp)=_;simp only[BL he,By he,B5 he,F9,BZ,Bx]
   try rfl
 | dj kind neg x=>
   show(B0 x e fun vx=>CQ (ov (eV kind neg vx) s) kk kp)=_;simp only[BL he,By he,B5 he,F9,BZ,Bx]
   try rfl
 | not x=>
   show(B0 x e fun vx=>oT vx fun p=>kk (.b (Sh p)) s)=_;simp only[BL he,F9,BZ,not_eq (kp:=kp)];rfl
 | neg xor x=>
   show(B0 x e fun vx=>CQ (match vx with| .i ka a=>some (.ret (.i ka (bif xor then bits .xor ka (bif ka.signed then -1 else ka.max) a else ka.wrap (0 - a))),s)|_=>none) kk kp)=_;simp only[BL he,By he,B5 he,F9,BZ,Bx]
   try rfl
 | conv k x=>
   show(B0 x e fun vx=>CQ (match vx with| .i _ a=>some (.ret (.i k (IW k a)),s)|_=>none) kk kp)=_;simp only[BL he,By he,B5 he,F9,BZ,Bx]
   try rfl
 | box x=>
   show(B0 x e fun vx=>HF vx fun cs=>eL s (.cs cs) fun i s=>kk (.p i 0) s)=_;simp only[BL he,F9,BZ,Hq];congr 1;funext vx;congr 1;funext cs;have: ∀o:Option (R×St),fin o kk kp=ob o fun p=>fin (some p) kk kp:=fun o=>by cases o<;>rfl
   rw[this,mP];rfl
 | Qv x=>
   show(B0 x e fun vx=>HF vx fun cs=>kk (.rp cs) s)=_;simp only[BL he,F9,BZ,Hq];rfl
 | Qw sz bytes x y=>
   show(B0 x e fun vx=>B0 y e fun vy=>CQ (ov (U7 bytes s sz vx vy) s) kk kp)=_;simp only[BL he,By he,B5 he,F9,BZ,Bx]
   try rfl
 | alloc zero=>
   show(CQ (bif CI zero then s.new (.cs zero) fun i s=>some (.ret (.p i 0),s)else none) kk kp)=_;simp only[Bx,F9]
 | build zero parts=>
   show(@Bool.rec (fun _=>An) none (S9 e parts zero fun cs=>kk (.a cs) s) (CI zero))=_;simp only[F9,Tl,BZ,SC he,BS];rfl
 | HH sz len zero parts=>
   show(@Bool.rec (fun _=>An) none (TA e (GU zero) parts (List.replicate len zero) fun es=>kk (.l es true) s) (CI zero))=_;simp only[F9,Tl,BZ,SE he,BS,Fk];rfl
 | load agg x=>
   show(B0 x e fun vx=>ep s agg vx fun v=>kk v s)=_;simp only[BL he,F9,BZ,HC,jD]
 | store sz a x=>
   show(B0 a e fun va=>B0 x e fun vx=>Sw s sz va vx fun s=>kk (.t []) s)=_;simp only[BL he,F9,BZ,sH,bU]
 | Gw off x=>
   show(B0 x e fun vx=>Xk off vx fun v=>kk v s)=_;simp only[BL he,F9,BZ,HC,cw]
 | field agg off x=>
   show(B0 x e fun vx=>asA vx fun cs=>XN agg cs off fun v=>kk v s)=_;simp only[BL he,F9,BZ];congr 1;funext vx;cases vx<;>first|rfl|skip
   show XN agg _ off _=_;rw[OU,HC]
 | LF sz arr x i=>
   show(B0 x e fun vx=>B0 i e fun vi=>Xg sz arr vx vi fun v=>kk v s)=_;simp only[BL he,F9,BZ,HC,cQ]
 | index len sz agg x i=>
   show(B0 x e fun vx=>B0 i e fun vi=>CQ (ov (PI len sz agg vx vi) s) kk kp)=_;simp only[BL he,By he,B5 he,F9,BZ,Bx]
   try rfl
 | slice sz x lo hi mx=>
   show(B0 x e fun vx=>XH lo e fun l=>XH hi e fun h=>XH mx e fun m=>CQ (a6 (PH s sz vx l h m)) kk kp)=_;simp only[BL he,By he,B5 he,F9,BZ,Bx]
   try rfl
 | len x=>
   show(B0 x e fun vx=>qI vx fun v=>kk v s)=_;simp only[BL he,F9,BZ,HC,mT]
 | Sj x=>
   show(B0 x e fun vx=>CQ (ov (U5 s vx) s) kk kp)=_;simp only[BL he,By he,B5 he,F9,BZ,Bx]
   try rfl
 | str x=>
   show(B0 x e fun vx=>CQ (ov (eT s vx) s) kk kp)=_;simp only[BL he,By he,B5 he,F9,BZ,Bx]
   try rfl
 | UW x i=>
   show(B0 x e fun vx=>B0 i e fun vi=>CQ (ov (U4 vx vi) s) kk kp)=_;simp only[BL he,By he,B5 he,F9,BZ,Bx]
   try rfl
 | append sz bytes x y=>
   show(B0 x e fun vx=>B0 y e fun vy=>CQ (a6 (LY bytes s sz vx vy)) kk kp)=_;simp only[BL he,By he,B5 he,F9,BZ,Bx]
   try rfl
 | copy sz x y=>
   show(B0 x e fun vx=>B0 y e fun vy=>CQ (a6 (U6 s sz vx vy)) kk kp)=_;simp only[BL he,By he,B5 he,F9,BZ,Bx]
   try rfl
 | UZ x y=>
   show(B0 x e fun vx=>B0 y e fun vy=>CQ (match vx,vy with| .i ka a,.i kb b=>bif decide (ka=kb)then some (.ret (.i ka (bif MN a b then b else a)),s)else none|_,_=>none) kk kp)=_;simp only[BL he,By he,B5 he,F9,BZ,Bx]
   try rfl
 | UY x y=>
   show(B0 x e fun vx=>B0 y e fun vy=>CQ (match vx,vy with| .i ka a,.i kb b=>bif decide (ka=kb)then some (.ret (.i ka (bif MN b a then b else a)),s)else none|_,_=>none) kk kp)=_;simp only[BL he,By he,B5 he,F9,BZ,Bx]
   try rfl
 | extract i x=>
   show(B0 x e fun vx=>asT vx fun vs=>Sg vs i fun v=>kk v s)=_;simp only[BL he,F9,BZ];congr 1;funext vx;cases vx<;>first|rfl|skip
   show Sg _ i _=_;rw[LQ,HC]
 | IY x=>
   show(B0 x e fun vx=>Xa vx fun v=>kk v s)=_;simp only[BL he,F9,BZ,HC,cF]
 | dh f first cap=>
   show(K7 first e fun vf=>K7 cap e fun vc=>@Bool.rec (fun _=>An) none (kk (.f f vf vc) s) (MZ f))=_;simp only[By he,F9,Tl,BZ,BS];rfl
 | NS=>
   show(CQ (s.new (.map []) fun i s=>some (.ret (.m i),s)) kk kp)=_;simp only[Bx,F9]
 | GJ sz bytes zero len cap=>
   show(B0 len e fun vx=>B0 cap e fun vy=>CQ (a6 (JK s sz zero vx vy)) kk kp)=_;simp only[BL he,By he,B5 he,F9,BZ,Bx]
   try rfl
 | lookup ks zero ok m k=>
   show(B0 m e fun vm=>B0 k e fun vk=>CQ (ov (LW s ks zero ok vm vk) s) kk kp)=_;simp only[BL he,By he,B5 he,F9,BZ,Bx]
   try rfl
 | E6 ks m k v=>
   show(B0 m e fun vm=>B0 k e fun vk=>B0 v e fun vx=>CQ (os (LV s ks vm vk vx)) kk kp)=_;simp only[BL he,By he,B5 he,F9,BZ,Bx]
   try rfl
 | NT t x=>
   show(B0 x e fun vx=>kk (.FJ t vx) s)=_;simp only[BL he,F9,BZ];rfl
 | dd t zero ok x=>
   show(B0 x e fun vx=>CQ (ov (eS t zero ok vx) s) kk kp)=_;simp only[BL he,By he,B5 he,F9,BZ,Bx]
   try rfl
 | panic x=>
   show(B0 x e fun vx=>CQ (match vx with| .FJ t v=>some (.Bo (.FJ t v),s)|_=>none) kk kp)=_;simp only[BL he,By he,B5 he,F9,BZ,Bx]
   try rfl
 | call f args=>
   show(K7 args e fun vs=>CQ (cf f vs s) kk kp)=_;simp only[BL he,By he,B5 he,F9,BZ,Bx]
   try rfl
 | LI f args=>
   show(K7 args e fun vs=>CQ (ov (cp f vs) s) kk kp)=_;simp only[BL he,By he,B5 he,F9,BZ,Bx]
   try rfl
 | JA x args=>
   show(B0 x e fun vx=>K7 args e fun vs=>CQ (cv vx vs s) kk kp)=_;simp only[BL he,By he,B5 he,F9,BZ,Bx]
   try rfl
 | Xp x args=>
   rfl
 | inv tab x args=>
   show(B0 x e fun vx=>K7 args e fun vs=>CQ (match vx with| .FJ t v=>ob (look t tab) fun f=>cf f (v::vs) s|_=>none) kk kp)=_;simp only[BL he,By he,B5 he,F9,BZ,Bx]
   try rfl
def qM (g:Bool) (t:Bool) (y:An) (n:An):An:=@Bool.rec (fun _=>An) (@Bool.rec (fun _=>An) y n g) (@Bool.rec (fun _=>An) n y g) t
def mw (g t:Bool) (y n:An):qM g t y n=bif t==g then y else n:=by cases g<;>cases t<;>rfl
def wj (v:V) (g:Bool) (y:An) (n:An):An:=@V.rec (fun _=>Bool→An→An→An) (fun _=>Unit) (fun _=>Unit) (fun t g y n=>qM g t y n) (fun _ _ g y n=>none) (fun _ g y n=>none) (fun g y n=>none) (fun _ _ g y n=>none) (fun _ _ g y n=>none) (fun _ _ _ g y n=>none) (fun _ _ _ g y n=>none) (fun _ _ _ _ g y n=>none) (fun _ _ _ _ g y n=>none) (fun _ g y n=>none) (fun g y n=>none) (fun _ _ _ _ _ g y n=>none) (fun g y n=>none) (fun _ _ _ g y n=>none) (fun g y n=>none) (fun _ _ g y n=>none) (fun vs _ g y n=>@List.rec V (fun _=>An→An) (fun n=>n) (fun _ _ _ _=>none) vs n) (fun g y n=>none) () (fun _ _ _ _=>()) () (fun _ _ _ _=>()) v g y n
def y6 (g:Nat×Bool) (o:GA):OK:=fun cf cv cp e s kk kp=>B0 (.t g.1) e fun v=>wj v g.2 (yL o cf cv cp e s kk kp) (kk (.t []) s)
def XD (g:Option (Nat×Bool)) (o:GA):OK:=@Option.rec (Nat×Bool) (fun _=>GA→OK) (fun o=>yL o) (fun g o=>y6 g o) g o
def TP {e:CS} {env:Env} (he:Ix e env) (d:Option Nat) (g:Option (Nat×Bool)) (o:GA) (cf:CF) (cv:CV) (cp:CP) (s:St) (kk kp:V→St→An):XD g o cf cv cp e s kk kp=fin (Is cf cv cp ⟨d,o,g⟩ env s) kk kp:=by
 cases g with
 | none=>exact fg he o cf cv cp s kk kp
 | some g=>
   obtain⟨g,b⟩:=g;show(B0 (.t g) e fun v=>wj v b (yL o cf cv cp e s kk kp) (kk (.t []) s))=_;rw[BL he,fg he];simp only[Is,Dg];cases get g env with
   | none=>rfl
   | some v=>
     simp only[ob];cases v<;>first|rfl|skip
     ·rename_i t
      show qM b t _ _=_;rw[mw];simp only;cases t==b<;>rfl
     ·rename_i vs
      cases vs<;>rfl
def NR (d:Option Nat) (v:V) (e:CS):CS:=@Option.rec Nat (fun _=>V→CS→CS) (fun _ e=>e) (fun d v e=>⟨Nat.lor e.1 (Nat.shiftLeft 1 d),(d,v)::e.2⟩) d v e
def KJ (M n:Nat):OB M n=M.testBit n:=by
 have h1:(M >>> n)&&&1=(M >>> n) % 2:=Nat.and_one_is_mod _;have h2:OB M n=Nat.beq ((M >>> n)&&&1) 1:=rfl;rw[h2,h1,Nat.testBit_eq_decide_div_mod_eq,Nat.shiftRight_eq_div_pow];cases h:decide (M / 2 ^ n % 2=1)with
 | true=>rw[of_decide_eq_true h];rfl
 | false=>
   have:=of_decide_eq_false h;cases hb:Nat.beq (M / 2 ^ n % 2) 1 with
   | false=>rfl
   | true=>exact absurd (UC hb) this
def PM (M d n:Nat):OB (Nat.lor M (Nat.shiftLeft 1 d)) n=(OB M n||Nat.beq d n):=by
 rw[KJ,KJ];show(M|||1 <<< d).testBit n=_;rw[Nat.testBit_or,Nat.one_shiftLeft,Nat.testBit_two_pow];congr 1;cases hb:Nat.beq d n with
 | true=>simp[UC hb]
 | false=>simpa using Nat.ne_of_beq_eq_false hb
def Ix.push {e:CS} {env:Env} (he:Ix e env) (d:Option Nat) (v:V):Ix (NR d v e) (put d v env):=by
 cases d with
 | none=>exact he
 | some d=>
   intro n;show(bif OB (Nat.lor e.1 (Nat.shiftLeft 1 d)) n then(bif Nat.beq d n then some v else get n e.2)else none)=bif Nat.beq d n then some v else get n env;rw[PM,←he n,Sm];cases Nat.beq d n<;>cases OB e.1 n<;>rfl
def eK (ops:List Av) (cf:CF) (cv:CV) (cp:CP) (env:CS) (s:St):An:=@List.rec Av (fun _=>CF→CV→CP→CS→St→An) (fun _ _ _ env s=>some (.normal,env,s))
 (fun o _ ih cf cv cp env s=>XD o.3 o.2 cf cv cp env s (fun v s=>XL v fun v=>ih cf cv cp (NR o.1 v env) s) (fun v s=>some (.Bo v,env,s))) ops cf cv cp env s
def Gs:An→Rs→Prop
 | some (x,e,s),some (x',env,s')=>x=x'∧s=s'∧Ix e env
 | none,none=>True
 | _,_=>False
def Zf (cf:CF) (cv:CV) (cp:CP): ∀(ops:List Av) {e:CS} {env:Env} (s:St),Ix e env→Gs (eK ops cf cv cp e s) (Ug cf cv cp ops env s)
 | [],e,env,s,he=>⟨rfl,rfl,he⟩
 | o ::r,e,env,s,he=>by
   show Gs (XD o.3 o.2 cf cv cp e s (fun v s=>XL v fun v=>eK r cf cv cp (NR o.1 v e) s) (fun v s=>some (.Bo v,e,s))) _;rw[TP he o.1];show Gs (fin (Is cf cv cp o env s) _ _) _;simp only[Ug];cases Is cf cv cp o env s with
   | none=>trivial
   | some p=>
     obtain⟨x,s'⟩:=p;cases x with
     | Bo v=>exact⟨rfl,rfl,he⟩
     | ret v=>
       show Gs (XL v fun v=>eK r cf cv cp (NR o.1 v e) s') (H6 v _);rw[Z4,Ho];exact Zf cf cv cp r s' (he.push o.1 v)
def vt (re:List Av) (cf:CF) (cv:CV) (cp:CP) (e:CS) (s:St) (K:An):An:=@List.rec Av (fun _=>CF→CV→CP→CS→St→An→An) (fun _ _ _ _ _ K=>K)
 (fun o _ ih cf cv cp e s K=>XD o.3 o.2 cf cv cp e s (fun u _=>@Option.rec Nat (fun _=>An) (ih cf cv cp e s K) (fun d=>B0 (.t d) e fun w=>@Bool.rec (fun _=>An) none (ih cf cv cp e s K) (Ey u w)) o.1) (fun _ _=>none)) re cf cv cp e s K
def fW (cf:CF) (cv:CV) (cp:CP) {e:CS} {env:Env} (he:Ix e env) (s:St) (K:An): ∀re:List Av,vt re cf cv cp e s K=bif kQ cf cv cp re env s then K else none
 | []=>rfl
 | o ::r=>by
   show XD o.3 o.2 cf cv cp e s (fun u _=>@Option.rec Nat (fun _=>An) (vt r cf cv cp e s K) (fun d=>B0 (.t d) e fun w=>@Bool.rec (fun _=>An) none (vt r cf cv cp e s K) (Ey u w)) o.1) (fun _ _=>none)=_;rw[TP he o.1,fW cf cv cp he s K r]
   have h':kQ cf cv cp (o::r) env s=((match Is cf cv cp o env s with
    | some (.ret u,_)=>match o.dst with
      | none=>true
      | some d=>match get d env with|some w=>Ey u w|none=>false
    | _=>false)&&kQ cf cv cp r env s):=rfl
   rw[h'];show fin (Is cf cv cp o env s) _ _=_;cases Is cf cv cp o env s with
   | none=>rfl
   | some p=>
     obtain⟨x,s'⟩:=p;cases x with
     | Bo v=>rfl
     | ret u=>
       obtain⟨d,op,g⟩:=o;cases d with
       | none=>simp only[fin,EW]
       | some d=>
         simp only[fin];rw[BL he];simp only[Dg];cases get d env with
         | none=>rfl
         | some w=>
           simp only[ob];cases Ey u w<;>simp
def U9 (ops:List Cv) (cf:CF) (cv:CV) (cp:CP) (e:CS) (s:St):An:=@List.rec Cv (fun _=>CF→CV→CP→CS→St→An) (fun _ _ _ e s=>some (.normal,e,s))
 (fun d _ ih cf cv cp e s=>XD d.2.3 d.2.2 cf cv cp e s (fun v s=>XL v fun v=>(fun e=>vt d.4 cf cv cp e s (ih cf cv cp e s)) (NR d.2.1 v e)) (fun v s=>some (.Bo v,⟨0,[]⟩,s))) ops cf cv cp e s
def Ix.nil {M:Nat}:Ix ⟨M,[]⟩ []:=fun n=>by
 show(bif OB M n then none else none)=none;cases OB M n<;>rfl
def V8 (cf:CF) (cv:CV) (cp:CP): ∀(ops:List Cv) {e:CS} {env:Env} (s:St),Ix e env→Gs (U9 ops cf cv cp e s) (RM cf cv cp ops env s)
 | [],e,env,s,he=>⟨rfl,rfl,he⟩
 | d ::r,e,env,s,he=>by
   show Gs (XD d.2.3 d.2.2 cf cv cp e s (fun v s=>XL v fun v=>(fun e=>vt d.4 cf cv cp e s (U9 r cf cv cp e s)) (NR d.2.1 v e)) (fun v s=>some (.Bo v,⟨0,[]⟩,s))) _;rw[TP he d.2.1];show Gs (fin (Is cf cv cp d.o env s) _ _) _;simp only[RM];cases Is cf cv cp d.o env s with
   | none=>trivial
   | some p=>
     obtain⟨x,s'⟩:=p;cases x with
     | Bo v=>exact⟨rfl,rfl,Ix.nil⟩
     | ret v=>
       show Gs (XL v fun v=>vt d.4 cf cv cp (NR d.2.1 v e) s' (U9 r cf cv cp (NR d.2.1 v e) s')) (H6 v _);rw[Z4,Ho,fW cf cv cp (he.push d.2.1 v)];show Gs (bif kQ cf cv cp d.re (put d.o.dst v env) s' then _ else none) (bif kQ cf cv cp d.re (put d.o.dst v env) s' then _ else none);cases kQ cf cv cp d.re (put d.o.dst v env) s' with
       | false=>trivial
       | true=>exact V8 cf cv cp r s' (he.push d.2.1 v)
def RG (l:List Nat):Nat:=@List.rec Nat (fun _=>Nat) 0 (fun n _ ih=>Nat.lor ih (Nat.shiftLeft 1 n)) l
def Ma (l:List Nat) (e:CS):CS:=⟨Nat.land e.1 (RG l),e.2⟩
def VG: ∀(l:List Nat) (n:Nat),OB (RG l) n=l.any fun k=>Nat.beq k n
 | [],n=>by rw[KJ];exact Nat.zero_testBit n
 | k::r,n=>by
   show OB (Nat.lor (RG r) (Nat.shiftLeft 1 k)) n=_;rw[PM,VG r n,SY,Bool.or_comm]
def MA: ∀(l:List Nat) (env:Env) (n:Nat),get n (prune l env)=bif l.any (fun k=>Nat.beq k n)then get n env else none
 | [],env,n=>rfl
 | k ::r,env,n=>by
   have ih:=MA r env n;simp only[prune,SY];cases hk:Nat.beq k n with
   | true=>
     have:=UC hk;subst this;cases hg:get k env with
     | none=>
       simp only;rw[ih,hg];cases(r.any fun j=>Nat.beq j k)<;>rfl
     | some v=>simp[get,hk]
   | false=>
     simp only[Bool.false_or];cases hg:get k env with
     | none=>exact ih
     | some v=>
       simp only[get,hk,cond_false];exact ih
def Ix.prune {e:CS} {env:Env} (he:Ix e env) (l:List Nat):Ix (Ma l e) (Gl.prune l env):=fun n=>by
 show(bif OB (Nat.land e.1 (RG l)) n then get n e.2 else none)=_
 have:OB (Nat.land e.1 (RG l)) n=(OB e.1 n&&OB (RG l) n):=by
  rw[KJ,KJ,KJ];exact Nat.testBit_and _ _ _
 rw[this,MA,←he n,Sm,VG];cases OB e.1 n<;>cases(l.any fun k=>Nat.beq k n)<;>rfl
def Ua (l:List Nat) (e:CS) (K:Env→An):An:=@List.rec Nat (fun _=>CS→(Env→An)→An) (fun _ K=>K [])
 (fun n _ ih e K=>@Bool.rec (fun _=>An) (ih e K) (@List.rec (Nat×V) (fun _=>Nat→An→(V→An)→An) (fun _ x _=>x) (fun p _ ih n x K=>@Bool.rec (fun _=>An) (ih n x K) (K p.2) (Nat.beq p.1 n)) e.2 n (ih e K) (fun v=>ih e fun r=>K ((n,v)::r))) (OB e.1 n)) l e K
def lY (env:Env) (n:Nat) (x:An) (K:V→An): @List.rec (Nat×V) (fun _=>Nat→An→(V→An)→An) (fun _ x _=>x) (fun p _ ih n x K=>@Bool.rec (fun _=>An) (ih n x K) (K p.2) (Nat.beq p.1 n)) env n x K=match get n env with|some v=>K v|none=>x:=by
 induction env with
 | nil=>rfl
 | cons p r ih=>
   obtain⟨j,v⟩:=p;show @Bool.rec (fun _=>An) _ (K v) (Nat.beq j n)=match(bif Nat.beq j n then some v else get n r)with|some v=>K v|none=>x
   cases Nat.beq j n
   ·exact ih
   ·rfl
def OO {e:CS} {env:Env} (he:Ix e env): ∀(l:List Nat) (K:Env→An),Ua l e K=K (Gl.prune l env)
 | [],K=>rfl
 | n ::r,K=>by
   show @Bool.rec (fun _=>An) (Ua r e K) (@List.rec (Nat×V) (fun _=>Nat→An→(V→An)→An) (fun _ x _=>x) (fun p _ ih n x K=>@Bool.rec (fun _=>An) (ih n x K) (K p.2) (Nat.beq p.1 n)) e.2 n (Ua r e K) (fun v=>Ua r e fun r=>K ((n,v)::r))) (OB e.1 n)=_;rw[lY,OO he r];simp only[OO he r,Gl.prune];rw[←he n,Sm];cases OB e.1 n with
   | false=>rfl
   | true=>
     simp only[cond_true];cases get n e.2<;>rfl
def IZ (env:Env):Nat:=@List.rec (Nat×V) (fun _=>Nat) 0 (fun p _ ih=>Nat.lor ih (Nat.shiftLeft 1 p.1)) env
def RX: ∀(env:Env) (n:Nat),OB (IZ env) n=(get n env).isSome
 | [],n=>by rw[KJ];exact Nat.zero_testBit n
 | (k,v)::r,n=>by
   show OB (Nat.lor (IZ r) (Nat.shiftLeft 1 k)) n=_;rw[PM,RX r n];simp only[get];cases Nat.beq k n<;>simp
def Ix.of (env:Env):Ix ⟨IZ env,env⟩ env:=fun n=>by
 show(bif OB (IZ env) n then get n env else none)=_;rw[RX];cases get n env<;>rfl
abbrev IH:=AY→CS→St→An
def RA (r:An) (K:CS→St→An):An:=@Option.rec (Ag×CS×St) (fun _=>(CS→St→An)→An) (fun _=>none) (fun p K=>@Ag.rec (fun _=>CS→St→(Ag×CS×St)→(CS→St→An)→An) (fun env s _ K=>K env s) (fun _ _ _ p _=>some p) (fun _ _ p _=>some p) (fun _ _ _ p _=>some p) p.1 p.2.1 p.2.2 p K) r K
def xO (r:Rs) (K':Env→St→Rs):Rs:=match r with|some (.normal,env,s)=>K' env s|r=>r
def Mt {r:An} {r':Rs} (h:Gs r r') {K:CS→St→An} {K':Env→St→Rs} (U: ∀e env s,Ix e env→Gs (K e s) (K' env s)):Gs (RA r K) (xO r' K'):=by
 cases r with
 | none=>cases r' with|none=>trivial|some p=>exact h.elim
 | some p=>
   cases r' with
   | none=>exact h.elim
   | some p'=>
     obtain⟨x,e,s⟩:=p;obtain⟨x',env,s'⟩:=p';obtain⟨rfl,rfl,he⟩:=h;cases x with
     | normal=>exact U e env s he
     | exit id=>exact⟨rfl,rfl,he⟩
     | ret=>exact⟨rfl,rfl,he⟩
     | Bo v=>exact⟨rfl,rfl,he⟩
def Oh (s:St) (e:CS):List RS→Option (List V)
 | []=>some []
 | .t n::r=>ob (Sm e n) fun v=>ob (Oh s e r) fun vs=>some (v::vs)
 | .c n g::r=>ob (Sm e n) fun a=>ob (NZ s g a) fun v=>ob (Oh s e r) fun vs=>some (v::vs)
def ZA (AK:List RS) (r:An):Option (R×St):=
 match r with
 | some (.normal,env,s)=>ob (Oh s env AK) fun vs=>some (.ret (Ex vs),s)
 | some (.ret,env,s)=>ob (Oh s env AK) fun vs=>some (.ret (Ex vs),s)
 | some (.Bo v,_,s)=>some (.Bo v,s)
 | _=>none
def U3 (tab:Js) (ih:IH) (g:FuncId) (cap:List V) (m:Option V) (AK:List RS) (env:CS) (s:St):Option (R×St):=
 match tab g with
 | some (.vw n k ops ac l)=>bif Nat.ble cap.length n then
  match ih (.seq l (.DT ops) ac) ⟨IZ (put (some k) (m.getD .Dv) (BD 0 cap)),put (some k) (m.getD .Dv) (BD 0 cap)⟩ s with
  | some (.normal,_,s')=>ob (Oh s' env AK) fun vs=>some (.ret (Ex vs),s')
  | some (.ret,_,s')=>ob (Oh s' env AK) fun vs=>some (.ret (Ex vs),s')
  | _=>none
   else none
 | some (.yK n ac)=>match m with
   | some _=>none
   | none=>bif Nat.ble cap.length n then
     match ih ac ⟨IZ (BD 0 cap),BD 0 cap⟩ s with
     | some (.normal,_,s')=>ob (Oh s' env AK) fun vs=>some (.ret (Ex vs),s')
     | some (.ret,_,s')=>ob (Oh s' env AK) fun vs=>some (.ret (Ex vs),s')
     | _=>none
   else none
 | _=>none
def TG (tab:Js) (ih:IH) (f:FuncId) (vs:List V) (s:St):Option (R×St):=
 match tab f with
 | some (.fn n ac AK)=>bif Nat.ble vs.length n then ZA AK (ih ac ⟨IZ (BD 0 vs),BD 0 vs⟩ s)else none
 | some (.wD n aA ops x aC AK l1 l2)=>bif Nat.ble vs.length n then
  match ih (.seq l1 aA (.DT ops)) ⟨IZ (BD 0 vs),BD 0 vs⟩ s with
  | some (.normal,env,s1)=>match(match x with| .t n=>Sm env n| .c v=>bif BO v then some v else none)with
    | some (.f (.func g) [] cap)=>match ih aC (Ma l2 env) s1 with
      | some (.normal,env2,s2)=>U3 tab ih g cap none AK env2 s2
      | some (.ret,env2,s2)=>U3 tab ih g cap none AK env2 s2
      | some (.Bo v,env2,s2)=>U3 tab ih g cap (some v) AK env2 s2
      | _=>none
    | _=>none
  | _=>none
   else none
 | some (.wP n ac AK)=>bif Nat.ble vs.length n then qN (ZA AK (ih ac ⟨IZ (BD 0 vs),BD 0 vs⟩ s))else none
 | some (.bF c)=>c vs s
 | _=>none
def Fl (tab:Js) (memo:FM) (ih:IH):CF:=fun f vs s=>
 match memo f with
 | []=>TG tab ih f vs s
 | m::r=>match U0 vs (m::r)with
   | some v=>some (.ret v,s)
   | none=>TG tab ih f vs s
def Jb (tab:Js) (memo:FM) (ih:IH):CV:=fun x vs s=>
 match x with
 | .f (.func f) first cap=>Fl tab memo ih f (first++vs++cap) s
 | .f (.yield L) [] []=>match s.t.get L with
   | some (.loop .ready env ps a b)=>bif Nat.beq vs.length ps.length then
    Tr.put none BF s.t L fun t=>match ih a ⟨IZ (E7 ps vs env),E7 ps vs env⟩ ⟨s.nx,t⟩with
    | some (.normal,env1,s1)=>match ih b env1 s1 with
      | some (.normal,_,s2)=>Tr.put (some (.loop .ready env ps a b)) BF s2.t L fun t=>some (.ret (.b true),⟨s2.nx,t⟩)
      | some (.ret,_,s2)=>Tr.put (some (.loop .ret env ps a b)) BF s2.t L fun t=>some (.ret (.b false),⟨s2.nx,t⟩)
      | some (.exit id,_,s2)=>Tr.put (some (.loop (.exit id) env ps a b)) BF s2.t L fun t=>some (.ret (.b false),⟨s2.nx,t⟩)
      | some (.Bo v,_,s2)=>some (.Bo v,s2)
      | none=>none
    | _=>none
     else none
   | _=>none
 | _=>none
def Kc (tab:Js) (memo:FM) (ih:IH):CP:=fun f vs=>
 bif CI vs then match Fl tab memo ih f vs ⟨0,.leaf⟩with
  | some (.ret v,s)=>match IV s Ue v with
    | some u=>bif BO u then some u else none
    | none=>none
  | _=>none
 else none
abbrev SK:=Js→FM→IH→CS→St→An
def fU (c : AY):SK:=@AY.rec (fun _=>SK)
 (fun _ _ _ env s=>some (.normal,env,s))
 (fun ops tab memo ih env s=>eK ops (Fl tab memo ih) (Jb tab memo ih) (Kc tab memo ih) env s)
 (fun l ops tab memo ih env s=>RA (U9 ops (Fl tab memo ih) (Jb tab memo ih) (Kc tab memo ih) env s) fun env s=>some (.normal,Ma l env,s))
 (fun l a b _ _ _ _ ih env s=>RA (ih a env s) fun env s=>ih b (Ma l env) s)
 (fun c a b _ _ _ _ ih env s=>B0 c env fun v=>oT v fun t=>@Bool.rec (fun _=>An) (ih b env s) (ih a env s) t)
 (fun id a _ tab memo ih env s=>match ih a env s with
  | some (.exit id',env',s')=>bif Nat.beq id' id then some (.normal,env',s')else some (.exit id',env',s')
  | r=>r)
 (fun l a _ _ _ ih env s=>Ua l env fun E=>RA (ih a ⟨IZ E,E⟩ s) fun env s=>ih (.loop l a) env s)
 (fun id _ _ _ env s=>some (.exit id,env,s))
 (fun _ _ _ env s=>some (.ret,env,s))
 (fun a _ _ _ ih env s=>ih a env s)
 (fun l g ps a b _ _ tab memo ih env s=>B0 g env fun v=>match v with
  | .f (.func gf) [] cap=>Ua l env fun E=>s.new (.loop .ready E ps a b) fun i s1=>
   match Fl tab memo ih gf (.f (.yield i) [] []::cap) s1 with
   | some (.ret _,s2)=>match s2.t.get i with
     | some (.loop st _ _ _ _)=>Tr.put none BF s2.t i fun t=>some ((match st with| .ready=> .normal| .ret=> .ret| .exit id=> .exit id),env,⟨s2.nx,t⟩)
     | _=>none
   | some (.Bo v,s2)=>match s2.t.get i with
     | some _=>Tr.put none BF s2.t i fun t=>some (.Bo v,env,⟨s2.nx,t⟩)
     | none=>none
   | none=>none
  | _=>none) c
def runK (tab:Js) (memo:FM) (n:Nat):IH:=@Nat.rec (fun _=>IH) (fun _ _ _=>none) (fun _ ih c env s=>fU c tab memo ih env s) n
def XT (ihm:IH) (ih:AY→Env→St→Rs):Prop:= ∀c {e env} s,Ix e env→Gs (ihm c e s) (ih c env s)
def LU {s:St} {e:CS} {env:Env} (he:Ix e env): ∀l:List RS,Oh s e l=Yv s env l
 | []=>rfl
 | .t n::r=>by simp only[Oh,Yv,he n,LU he r]
 | .c n g::r=>by simp only[Oh,Yv,he n,LU he r]
def V6 {AK:List RS} {r:An} {r':Rs} (h:Gs r r'):ZA AK r=bJ AK r':=by
 cases r with
 | none=>cases r' with|none=>rfl|some p=>exact h.elim
 | some p=>
   cases r' with
   | none=>exact h.elim
   | some p'=>
     obtain⟨x,e,s⟩:=p;obtain⟨x',env,s'⟩:=p';obtain⟨rfl,rfl,he⟩:=h;cases x<;>first|rfl|simp only[ZA,bJ,LU he]
def jb {tab : Js} {ihm:IH} {ih:AY→Env→St→Rs} (hi:XT ihm ih) {g:FuncId} {cap:List V} {m:Option V} {AK:List RS} {e:CS} {env:Env} (he:Ix e env) (s:St):U3 tab ihm g cap m AK e s=XM tab ih g cap m AK env s:=by
 unfold U3 XM;cases tab g with
 | none=>rfl
 | some fs =>
   cases fs<;>first|rfl|skip
   ·rename_i n k ops ac l
    simp only;have:=hi (.seq l (.DT ops) ac) s (Ix.of (put (some k) (m.getD .Dv) (BD 0 cap)))
    revert this
    cases ihm (.seq l (.DT ops) ac) _ s with
    | none=>cases ih (.seq l (.DT ops) ac) _ s with|none=>intro _;rfl|some p=>intro h;exact h.elim
    | some p=>
      cases ih (.seq l (.DT ops) ac) _ s with
      | none=>intro h;exact h.elim
      | some p'=>
        obtain⟨x,e1,s1⟩:=p;obtain⟨x',env1,s1'⟩:=p';rintro⟨rfl,rfl,he1⟩;cases x<;>simp only[LU he]
   ·rename_i n ac
    cases m with
    | some v=>rfl
    | none=>
      simp only;have:=hi ac s (Ix.of (BD 0 cap))
      revert this
      cases ihm ac _ s with
      | none=>cases ih ac _ s with|none=>intro _;rfl|some p=>intro h;exact h.elim
      | some p=>
        cases ih ac _ s with
        | none=>intro h;exact h.elim
        | some p'=>
          obtain⟨x,e1,s1⟩:=p;obtain⟨x',env1,s1'⟩:=p';rintro⟨rfl,rfl,he1⟩;cases x<;>simp only[LU he]
def dT {tab : Js} {ihm:IH} {ih:AY→Env→St→Rs} (hi:XT ihm ih) (f:FuncId) (vs:List V) (s:St):TG tab ihm f vs s=RN tab ih f vs s:=by
 unfold TG RN;cases tab f with
 | none=>rfl
 | some fs =>
   cases fs with
   | vw n k ops ac l=>rfl
   | bF c=>rfl
   | yK n ac=>rfl
   | fn n ac AK=>simp only;rw[V6 (hi ac s (Ix.of (BD 0 vs)))]
   | wP n ac AK=>simp only;rw[V6 (hi ac s (Ix.of (BD 0 vs)))]
   | wD n aA ops x aC AK l1 l2=>
     simp only;have:=hi (.seq l1 aA (.DT ops)) s (Ix.of (BD 0 vs))
     revert this
     cases ihm (.seq l1 aA (.DT ops)) _ s with
     | none=>cases ih (.seq l1 aA (.DT ops)) _ s with|none=>intro _;rfl|some p=>intro h;exact h.elim
     | some p=>
       cases ih (.seq l1 aA (.DT ops)) _ s with
       | none=>intro h;exact h.elim
       | some p'=>
         obtain⟨x1,e1,s1⟩:=p;obtain⟨x1',env1,s1'⟩:=p';rintro⟨rfl,rfl,he1⟩;cases x1<;>first|rfl|skip
         simp only;have hx:(match x with| .t n=>Sm e1 n| .c v=>bif BO v then some v else none)=Dg env1 x:=by cases x<;>first|exact he1 _|rfl
         rw[hx];cases Dg env1 x with
         | none=>rfl
         | some v=>
           cases v<;>first|rfl|skip
           rename_i fn first cap
           cases fn<;>first|rfl|skip
           cases first<;>first|rfl|skip
           simp only;have:=hi aC s1 (he1.prune l2)
           revert this
           cases ihm aC (Ma l2 e1) s1 with
           | none=>cases ih aC (Gl.prune l2 env1) s1 with|none=>intro _;rfl|some p=>intro h;exact h.elim
           | some p=>
             cases ih aC (Gl.prune l2 env1) s1 with
             | none=>intro h;exact h.elim
             | some p'=>
               obtain⟨x2,e2,s2⟩:=p;obtain⟨x2',env2,s2'⟩:=p';rintro⟨rfl,rfl,he2⟩;cases x2<;>simp only[jb hi he2]
def Gn {tab:Js} {memo:FM} {ihm:IH} {ih:AY→Env→St→Rs} (hi:XT ihm ih):Fl tab memo ihm=HG tab memo ih:=by
 funext f vs s;unfold Fl HG;simp only[dT hi];rfl
def Qd {tab : Js} {memo:FM} {ihm:IH} {ih:AY→Env→St→Rs} (hi:XT ihm ih):Jb tab memo ihm=Mm tab memo ih:=by
 funext x vs s;unfold Jb Mm;rw[Gn hi];cases x<;>first|rfl|skip
 rename_i fn first cap
 cases fn<;>first|rfl|skip
 cases first<;>first|rfl|skip
 cases cap<;>first|rfl|skip
 rename_i L;simp only;cases s.t.get L with
 | none=>rfl
 | some o=>
   cases o<;>first|rfl|skip
   rename_i st env ps a b;cases st<;>first|rfl|skip
   simp only;congr 2;funext t;have:=hi a ⟨s.nx,t⟩ (Ix.of (E7 ps vs env))
   revert this
   cases ihm a _ ⟨s.nx,t⟩with
   | none=>cases ih a _ ⟨s.nx,t⟩with|none=>intro _;rfl|some p=>intro h;exact h.elim
   | some p=>
     cases ih a _ ⟨s.nx,t⟩with
     | none=>intro h;exact h.elim
     | some p'=>
       obtain⟨x1,e1,s1⟩:=p;obtain⟨x1',env1,s1'⟩:=p';rintro⟨rfl,rfl,he1⟩;cases x1<;>first|rfl|skip
       simp only;have:=hi b s1 he1
       revert this
       cases ihm b e1 s1 with
       | none=>cases ih b env1 s1 with|none=>intro _;rfl|some p=>intro h;exact h.elim
       | some p=>
         cases ih b env1 s1 with
         | none=>intro h;exact h.elim
         | some p'=>
           obtain⟨x2,e2,s2⟩:=p;obtain⟨x2',env2,s2'⟩:=p';rintro⟨rfl,rfl,he2⟩;cases x2<;>rfl
def NH {tab:Js} {memo:FM} {ihm:IH} {ih:AY→Env→St→Rs} (hi:XT ihm ih):Kc tab memo ihm=O1 tab memo ih:=by
 funext f vs;unfold Kc O1;rw[Gn hi];rfl
def iR {tab : Js} {memo:FM} {ihm:IH} {ih:AY→Env→St→Rs} (hi:XT ihm ih) (c:AY) {e:CS} {env:Env} (s:St) (he:Ix e env):Gs (fU c tab memo ihm e s) (Ie tab memo ih c env s):=by
 cases c with
 | skip=>exact⟨rfl,rfl,he⟩
 | ret=>exact⟨rfl,rfl,he⟩
 | exit id=>exact⟨rfl,rfl,he⟩
 | scope a=>exact hi a s he
 | DT ops=>
   show Gs (eK ops (Fl tab memo ihm) (Jb tab memo ihm) (Kc tab memo ihm) e s) _;rw[Gn hi,Qd hi,NH hi];exact Zf _ _ _ ops s he
 | HQ l ops=>
   show Gs (RA (U9 ops (Fl tab memo ihm) (Jb tab memo ihm) (Kc tab memo ihm) e s) fun env s=>some (.normal,Ma l env,s)) _;rw[Gn hi,Qd hi,NH hi];exact Mt (K':=fun env s=>some (.normal,Gl.prune l env,s)) (V8 _ _ _ ops s he) fun _ _ s he=>⟨rfl,rfl,he.prune l⟩
 | seq l a b=>exact Mt (K':=fun env s=>ih b (Gl.prune l env) s) (hi a s he) fun _ _ s he=>hi b s (he.prune l)
 | cond c a b=>
   show Gs (B0 c e fun v=>oT v fun t=>@Bool.rec (fun _=>An) (ihm b e s) (ihm a e s) t) _;rw[BL he];simp only[Ie];cases Dg env c with
   | none=>trivial
   | some v=>
     cases v<;>first|trivial|skip
     rename_i t;cases t
     ·exact hi b s he
     ·exact hi a s he
 | block id a=>
   have:=hi a s he;show Gs (match ihm a e s with|some (.exit id',env',s')=>bif Nat.beq id' id then some (.normal,env',s')else some (.exit id',env',s')|r=>r) (match ih a env s with|some (.exit id',env',s')=>bif Nat.beq id' id then some (.normal,env',s')else some (.exit id',env',s')|r=>r)
   revert this
   cases ihm a e s with
   | none=>cases ih a env s with|none=>intro _;trivial|some p=>intro h;exact h.elim
   | some p=>
     cases ih a env s with
     | none=>intro h;exact h.elim
     | some p'=>
       obtain⟨x1,e1,s1⟩:=p;obtain⟨x1',env1,s1'⟩:=p';rintro⟨rfl,rfl,he1⟩;cases x1 with
       | exit id'=>
         simp only;cases Nat.beq id' id<;>exact⟨rfl,rfl,he1⟩
       | normal=>exact⟨rfl,rfl,he1⟩
       | ret=>exact⟨rfl,rfl,he1⟩
       | Bo v=>exact⟨rfl,rfl,he1⟩
 | loop l a=>
   show Gs (Ua l e fun E=>RA (ihm a ⟨IZ E,E⟩ s) fun env s=>ihm (.loop l a) env s) _;rw[OO he];exact Mt (K':=fun env s=>ih (.loop l a) env s) (hi a s (Ix.of _)) fun _ _ s he=>hi (.loop l a) s he
 | D0 l g ps a b=>
   show Gs (B0 g e fun v=>match v with
   | .f (.func gf) [] cap=>Ua l e fun E=>s.new (.loop .ready E ps a b) fun i s1=>
    match Fl tab memo ihm gf (.f (.yield i) [] []::cap) s1 with
    | some (.ret _,s2)=>match s2.t.get i with
      | some (.loop st _ _ _ _)=>Tr.put none BF s2.t i fun t=>some ((match st with| .ready=> .normal| .ret=> .ret| .exit id=> .exit id),e,⟨s2.nx,t⟩)
      | _=>none
    | some (.Bo v,s2)=>match s2.t.get i with
      | some _=>Tr.put none BF s2.t i fun t=>some (.Bo v,e,⟨s2.nx,t⟩)
      | none=>none
    | none=>none
   | _=>none) _
   rw[BL he,Gn hi];simp only[Ie];cases Dg env g with
   | none=>trivial
   | some v=>
     cases v<;>first|trivial|skip
     rename_i fn first cap
     cases fn<;>first|trivial|skip
     cases first<;>first|trivial|skip
     rename_i gf;simp only[ob];rw[OO he]
     have hnew: ∀ {β γ:Type} (o:EO) (f:Nat→St→Option β) (g:Nat→St→Option γ) (Rl:Option β→Option γ→Prop),Rl none none→(∀i s,Rl (f i s) (g i s))→Rl (s.new o f) (s.new o g):=fun {β γ} o f g Rl h0 h1=>by
      obtain⟨n,t⟩:=s;cases n with
      | zero=>simp only[St.new];rw[Tr.put_eq,Tr.put_eq];exact h1 _ _
      | succ n=>
        simp only[St.new];rw[Tr.put_eq,Tr.put_eq];cases Nat.ble (n+1) MT
        ·exact h0
        ·exact h1 _ _
     refine hnew _ _ _ Gs trivial fun i s1=>?_
     cases HG tab memo ih gf (.f (.yield i) [] []::cap) s1 with
     | none=>trivial
     | some p=>
       obtain⟨x,s2⟩:=p;cases x with
       | ret v=>
         simp only;cases s2.t.get i with
         | none=>trivial
         | some o=>
           cases o<;>first|trivial|skip
           simp only;rw[Tr.put_eq,Tr.put_eq];exact⟨rfl,rfl,he⟩
       | Bo v=>
         simp only;cases s2.t.get i with
         | none=>trivial
         | some o=>
           simp only;rw[Tr.put_eq,Tr.put_eq];exact⟨rfl,rfl,he⟩
def ZT (tab:Js) (memo:FM): ∀n:Nat,XT (runK tab memo n) (run tab memo n)
 | 0=>fun _ _ _ _ _=>trivial
 | n+1=>fun c _ _ s he=>iR (ZT tab memo n) c s he
def kq (tab:Js) (memo:FM) (n:Nat) (f:FuncId) (vs:List V) (v:V):Bool:=
 match Kc tab memo (runK tab memo n) f vs with
 | some u=>Ey u v
 | none=>false
def Rm {tab:Js} (ht:LK P tab) {memo:FM} (hm:HI P memo) {n:Nat} {f:FuncId} {vs:List V} {v:V} (h:kq tab memo n f vs v=true):CI vs=true∧BO v=true∧Pure P f vs v:=by
 unfold kq at h;rw[NH (ZT tab memo n)]at h;exact Wa ht hm h
def px (t:Tr bC):Js:=fun f=>bI t f
def ZM {t:Tr bC} (h:ZF (fun i=>N5 P i) id t):LK P (px t):=fun f fs e=>h f fs ((Ti t f).symm.trans e)
def qV (m:FM) (f:FuncId) (a:List V) (v:V):FM:=fun g=>@Bool.rec (fun _=>List (List V×V)) (m g) ((a,v)::m g) (Nat.beq f g)
def oI {m:FM} (h:HI P m) {f:FuncId} {a:List V} {v:V} (h1:CI a=true∧BO v=true∧Pure P f a v):HI P (qV m f a v):=fun g e he=>by
 unfold qV at he;cases hb:Nat.beq f g with
 | false=>rw[hb]at he;exact h g e he
 | true=>
   rw[hb]at he;have:=DD hb;subst this;rcases F7.1 he with rfl|he
   ·exact h1
   ·exact h f e he
end Go.Gl
namespace Go.Gl
variable {P:Program}
abbrev Tp (sz b:Nat):AY:=(.seq [0] (.DT [⟨(some 2),.mv (.c (.l [] true)),none⟩])
 (.seq [0] (.seq [0,4] (.DT [⟨(some 3),.mv (.t 0),none⟩,
  ⟨(some 4),.dj 1 false (.t 3),none⟩])
 (.cond (.t 4)
 (.seq [2] (.DT [⟨(some 2),.mv (.c (.l [] true)),none⟩])
 .ret)
 .skip))
 (.seq [2] (.DT [⟨(some 5),.HH 1 0 [] [],none⟩,
  ⟨(some 6),.mv (.t 0),none⟩,
  ⟨(some 7),.append sz b (.t 5) (.t 6),none⟩,
  ⟨(some 2),.mv (.t 7),none⟩])
 .ret)))
def cO {q:Nat} {neg:Bool} {x:V} {k k':V→Prop} (h:Iz q neg x k) (hm: ∀t,k (.b t)→k' (.b t)):Iz q neg x k':=by
 unfold Iz at *;split at h<;>first|exact hm _ h|exact⟨fun e t=>hm _ (h.1 e t),fun e=>hm _ (h.2 e)⟩|exact h.elim
def NL {v:V} {σ:AH} {Q:R→AH→Prop} (h:Q (.ret v) σ):Ap σ v Q:=⟨v,σ,fun _ _ h=>h,.refl _,h⟩
def iD {ρ:Ren} {f:Bool}:RV ρ (.l [] f) (.l [] f):=by simp only[RV];exact⟨[],rfl,rfl⟩
section
attribute [local irreducible] A7 Ap Af AT AM Ae AS AU AL Ad AO AP Aw A1 AX Az Ah W Iz
def nt {sz b:Nat} {v:V} {σ:AH} {Q:R→AH→Prop} (h1:Iz 1 false v fun t=>(t= .b true→Ap σ (.l [] true) Q)∧(t= .b false→AM b σ sz (.l [] true) v fun v' σ'=>Ap σ' v' Q)) :
    W P (Tp sz b) (Un [.t 2] Q) [(0,v)] σ:=by
 conv=>whnf
 repeat((first|(refine Ar ?_;intro K U)|(refine Ab ?_;intro I C G F)|(apply G;clear F C G I)|(apply U;clear U K)|fail);conv=>whnf)
 refine cO h1 fun t ht=>?_
 conv=>whnf
 repeat((first|(apply G;clear F C G I)|refine Bq ?_|(apply U;clear U K)|fail);conv=>whnf)
 refine⟨fun h=>?_,fun h=>?_⟩
 ·subst h
  conv=>whnf
  repeat((first|(refine Ar ?_;intro K U)|(refine Ab ?_;intro I C G F)|(apply G;clear F C G I)|refine Dp ?_|(apply U;clear U K)|(clear U K));conv=>whnf)
  exact ht.1 rfl
 ·subst h
  conv=>whnf
  repeat((first|(refine Ar ?_;intro K U)|(refine Ab ?_;intro I C G F)|refine B2 ?_|(apply U;clear U K)|fail);conv=>whnf)
  refine L8 (ht.2 rfl) fun v' σ' hq=>?_
  conv=>whnf
  repeat((first|(apply G;clear F C G I)|refine Dp ?_|(apply U;clear U K)|fail);conv=>whnf)
  exact hq
end
def jn {f : FuncId} {n sz b:Nat} (h: ∀(args:List V) (σ:AH) (Q:R→AH→Prop),args.length≤n→T P (Tp sz b) (Un [.t 2] Q) (BD 0 args) σ→A7 P f args σ Q) (hn:1≤n) (hb:b≤131072:=by decide):N5 P f (.bF (Xo sz)):=by
 intro vs s r s' hc ρ vs' σ hv hs Q hQ
 have main: ∀ {v v':V} {ys:List (List V)},vs= [v]→vs'= [v']→RV ρ v v'→Ig s sz v=some ys→(ys= []→r= .ret (.l [] true)∧s'=s)→
  (ys≠[]→(ys.all (fun e=>e.all CO)&&Nat.ble ys.length 1073741824)=true∧s.nx≤MT∧r= .ret (.sl s.nx ys.length 0)∧s'=⟨s.nx+1,Tr.set (some (.arr sz ys)) BF s.t s.nx⟩)→
  (∀k:V→Prop,(ys= []→ ∀t,k (.b t))→(ys≠[]→k (.b false))→Iz 1 false v' k)→A7 P f vs' σ Q:=fun {v v' ys} e1 e2 hr hy h0 h1 hk=>by
  subst e1;subst e2;refine h _ _ _ hn (oU (nt (hk _ (fun e t=>⟨fun _=>?_,fun _=>?_⟩) fun e=>⟨fun h=>(by cases h),fun _=>?_⟩)))
  ·obtain⟨rfl,rfl⟩:=h0 e
   exact NL (hQ ρ _ σ (.refl _) ⟨_,iD,rfl⟩ hs)
  ·obtain⟨rfl,rfl⟩:=h0 e
   refine Hi hs hy hr fun ys' hr'=>?_
   have:ys'= []:=by
    have:=hr'.len;rw[e]at this;exact W4.1 this
   subst this;exact⟨fun e he=>(by cases he),fun e he=>(by cases he),⟨Nat.zero_le _,by simp⟩,fun _=>NL (hQ ρ _ σ (.refl _) ⟨_,iD,rfl⟩ hs),fun h=>absurd rfl h⟩
  ·obtain⟨g1,g2,rfl,rfl⟩:=h1 e
   simp only[A9]at g1;refine Hi hs hy hr fun ys' hr'=>?_
   have hl:=hr'.len;have hne:ys'≠[]:=fun e'=>e (by rw[e']at hl;exact W4.1 hl.symm)
   refine⟨Ly g1.1 hr',fun e he=>(by cases he),?_,fun e=>absurd e hne,fun _=>⟨rfl,fun n cap hn0 hc=>?_⟩⟩
   ·have:=S0 (b:=b) (L:=ys.length) (by simp only[wA,A9];exact⟨g1.2,Nat.ble_eq_true_of_le hb⟩)
    simp only[List.length_nil,G7];rw[hl];exact this
   ·obtain⟨ρ',q1,q2,q3⟩:=hs.new g2 hn0 cap (o:= .arr sz ys) (o':= .arr sz ys' cap) ⟨_,hr',rfl⟩
    refine NL (hQ ρ' _ _ q1 ?_ ?_)
    ·refine⟨_,?_,rfl⟩
     simp only[RV];exact⟨_,q2,by simp[hl]⟩
    ·simpa using q3
 have parts: ∀ {ys:List (List V)},(match some ys with
  | some []=>some (R.ret (V.l [] true),s)
  | some (y::ys)=>bif (y::ys).all (fun e=>e.all CO)&&Nat.ble (y::ys).length 1073741824 then s.new (.arr sz (y::ys)) fun i s'=>some (.ret (.sl i (y::ys).length 0),s')else none
  | none=>none)=some (r,s')→(ys= []→r= .ret (.l [] true)∧s'=s)∧
    (ys≠[]→(ys.all (fun e=>e.all CO)&&Nat.ble ys.length 1073741824)=true∧s.nx≤MT∧r= .ret (.sl s.nx ys.length 0)∧s'=⟨s.nx+1,Tr.set (some (.arr sz ys)) BF s.t s.nx⟩):=fun {ys} hc=>by
  cases ys with
  | nil=>cases hc;exact⟨fun _=>⟨rfl,rfl⟩,fun h=>absurd rfl h⟩
  | cons y ys=>
    obtain⟨h1,h2⟩:=AZ hc;obtain⟨h3,h4⟩:=St.H4 h2;cases h4;exact⟨fun h=>(by cases h),fun _=>⟨h1,h3,rfl,rfl⟩⟩
 unfold Xo at hc;split at hc
 ·rename_i es f
  obtain⟨v',l',k1,k2,rfl⟩:=hv;obtain rfl:l'= []:=k2;cases hy:Ig s sz (.l es f)with
  | none=>rw[hy]at hc;cases hc
  | some ys=>
    rw[hy]at hc;obtain⟨p1,p2⟩:=parts hc;refine main rfl rfl k1 hy p1 p2 fun k h0 h1=>?_
    simp only[RV]at k1;obtain⟨es',k3,rfl⟩:=k1;have hl:=(Fy.1 k3).len
    have he:ys=es:=by
     simp only[Ig]at hy;exact(Option.some.inj (AZ hy).2).symm
    subst he;unfold Iz;exact⟨fun e=>h0 (by rw[e]at hl;exact W4.1 hl.symm),fun e=>h1 fun e'=>e (by rw[e']at hl;exact W4.1 hl)⟩
 ·rename_i m len c
  obtain⟨v',l',k1,k2,rfl⟩:=hv;obtain rfl:l'= []:=k2;cases hy:Ig s sz (.sl m len c)with
  | none=>rw[hy]at hc;cases hc
  | some ys=>
    rw[hy]at hc;obtain⟨p1,p2⟩:=parts (ys:=ys) hc;refine main rfl rfl k1 hy p1 p2 fun k h0 h1=>?_
    simp only[RV]at k1;obtain⟨m',k3,rfl⟩:=k1;unfold Iz;show k (.b false);by_cases e:ys= []
    ·exact h0 e false
    ·exact h1 e
 ·cases hc
end Go.Gl
namespace Go.Gl
variable {P:Program}
structure dn (P:Program) where
 k:Nat
 fs:bC
 ok:N5 P k fs
def wM:List (dn P)→Tr bC
 | []=> .leaf
 | e::r=>bif Nat.ble e.k 1000000 then Tr.set (some e.fs) BF (wM r) e.k else wM r
def Xb: ∀l:List (dn P),ZF (fun i=>N5 P i) id (wM l)
 | []=>oE
 | e ::r=>by
   unfold wM;cases h:Nat.ble e.k 1000000 with
   | false=>exact Xb r
   | true=>
     have hk:e.k+1<2 ^ BF:=by
      have:=Nat.le_of_ble_eq_true h;have e2:(2:Nat) ^ BF=1099511627776:=by decide
      omega
     intro j a ha;rw[cond_true,Tr.EC BF _ _ hk]at ha;split at ha
     ·next e1=>subst e1;cases ha;exact e.ok
     ·exact Xb r j a ha
def eX {k n:Nat} {fn:Func} {ac:AY} {rs:List RS} (pu fz:List Nat) (hf:P.funcs[k]? =some fn)
    (hn:fn.ntmps=n:=by conv=>lhs;reduce)
    (hr:MP P fn.results.toList=some rs:=by conv=>lhs;reduce)
    (hc:a8 (rs.map wF) ((fn.body.bind (res P fn.ntmps pu fz)).getD .skip) [] (rs.map wF)=ac:=by conv=>lhs;reduce)
    (hb:fn.body.bind (res P fn.ntmps pu fz)=some (erase ac):=by kernel_rfl) (hok:okF P k=true:=by kernel_rfl):dn P:=
 ⟨k,.fn n ac rs,fun _ _ _ ha h=>Eu hf hok hb hr (hn ▸ ha) h⟩
def eZ {k n:Nat} {fn:Func} {ac:AY} {rs:List RS} (pu fz:List Nat) (hf:P.funcs[k]? =some fn)
    (hn:fn.ntmps=n:=by conv=>lhs;reduce)
    (hr:MP P fn.results.toList=some rs:=by conv=>lhs;reduce)
    (hc:a8 (rs.map wF) ((fn.body.bind (res P fn.ntmps pu fz)).getD .skip) [] (rs.map wF)=ac:=by conv=>lhs;reduce)
    (hb:fn.body.bind (res P fn.ntmps pu fz)=some (erase ac):=by kernel_rfl) (hok:okF P k=true:=by kernel_rfl):dn P:=
 ⟨k,.wP n ac rs,fun _ _ _ ha h=>Eu hf hok hb hr (hn ▸ ha) h⟩
def eC {k:Nat} {fn:Func} (sz b:Nat) (hf:P.funcs[k]? =some fn) (hb:fn.body.bind (res P fn.ntmps [] [])=some (erase (Tp sz b)):=by kernel_rfl)
    (hr:MP P fn.results.toList=some [.t 2]:=by kernel_rfl) (hok:okF P k=true:=by kernel_rfl) (hn:Nat.ble 1 fn.ntmps=true:=by kernel_rfl) (hs:Nat.ble b 131072=true:=by kernel_rfl):dn P:=
 ⟨k,.bF (Xo sz),jn (sz:=sz) (b:=b) (fun _ _ _ ha h=>Eu hf hok hb hr ha h) (Nat.le_of_ble_eq_true hn) (Nat.le_of_ble_eq_true hs)⟩
structure MM (P:Program) where
 m:FM
 ok:HI P m
def MM.add (M:MM P) {f:Nat} {vs:List V} {v:V} (h:CI vs=true∧BO v=true∧Pure P f vs v):MM P:=⟨qV M.m f vs v,oI M.ok h⟩
end Go.Gl
namespace Go.Gl
open Go.Proofs
set_option maxRecDepth 100000
set_option maxHeartbeats 4000000
def e17:=eX [] [] Tryz.func17
def e66:=eZ [] [] Tryz.func66
def e18:=eX [] [] Tryz.func18
def e19:=eX [] [] Tryz.func19
def e23:=eX [] [] Tryz.func23
def e22:=eX [] [] Tryz.func22
def e38:=eX [] [] Tryz.func38
def e67:=eZ [] [] Tryz.func67
def e15:=eX [] [] Tryz.func15
def e40:=eX [] [] Tryz.func40
def e31:=eX [] [] Tryz.func31
def e25:=eX [] [] Tryz.func25
def e69:=eX [] [] Tryz.func69
def e68:=eX [] [] Tryz.func68
def e27:=eX [] [] Tryz.func27
def e70:=eX [] [] Tryz.func70
def e59:=eX [] [] Tryz.func59
def e73:=eX [] [] Tryz.func73
def e72:=eX [] [] Tryz.func72
def e71:=eX [] [] Tryz.func71
def e74:=eX [] [] Tryz.func74
def e78:=eX [] [] Tryz.func78
def e100:=eX [] [] Tryz.func100
def e101:=eZ [] [] Tryz.func101
def e62:=eX [] [] Tryz.func62
def e102:=eX [] [] Tryz.func102
def e137:=eX [] [] Tryz.func137
def e60:=eX [] [] Tryz.func60
def e84:=eX [] [] Tryz.func84
def e82:=eX [] [] Tryz.func82
def e83:=eX [] [] Tryz.func83
def e92:=eX [] [] Tryz.func92
def e93:=eX [] [] Tryz.func93
def e81:=eX [] [] Tryz.func81
def e34:=eX [] [] Tryz.func34
def e131:=eX [] [] Tryz.func131
def e132:=eX [] [] Tryz.func132
def e138:=eX [] [] Tryz.func138
def e140:=eX [] [] Tryz.func140
def e139:=eX [] [] Tryz.func139
def e144:=eX [] [] Tryz.func144
def e79:=eX [] [] Tryz.func79
def e49:=eX [] [] Tryz.func49
def e159:=eX [] [] Tryz.func159
def e133:=eX [] [] Tryz.func133
def e134:=eX [] [] Tryz.func134
def e160:=eX [] [] Tryz.func160
def e61:=eX [] [] Tryz.func61
def e146:=eX [] [] Tryz.func146
def e147:=eX [] [] Tryz.func147
def e150:=eX [] [] Tryz.func150
def e151:=eZ [] [] Tryz.func151
def e118:=eX [] [] Tryz.func118
def e152:=eX [] [] Tryz.func152
end Go.Gl
