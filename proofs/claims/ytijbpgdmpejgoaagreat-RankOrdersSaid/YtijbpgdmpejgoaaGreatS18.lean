import Derived.Test.YtijbpgdmpejgoaaGreatProg
import Derived.KernelRfl
import Derived.Test.YtijbpgdmpejgoaaGreatS17
set_option linter.all false
noncomputable section
namespace Go.Gl
variable {P:Program}
structure Ca where
 M:Nat
 E:Env
abbrev An:=Option (Ah×Ca×St)
theorem Kt {α β:Type} (c:Bool) (x:Option α) (g:α→Option β):ob (bif c then x else none) g=bif c then ob x g else none:=by cases c<;>rfl
def fV (env:Env) (n:Nat) (K:V→An):An:=@List.rec (Nat×V) (fun _=>Nat→(V→An)→An) (fun _ _=>none) (fun p _ ih n K=>@Bool.rec (fun _=>An) (ih n K) (K p.2) (Nat.beq p.1 n)) env n K
theorem iM (env:Env) (n:Nat) (K:V→An):fV env n K=ob (get n env) K:=by
 induction env with
 | nil=>rfl
 | cons p r ih=>
   obtain⟨j,v⟩:=p;show @Bool.rec (fun _=>An) (fV r n K) (K v) (Nat.beq j n)=ob (bif Nat.beq j n then some v else get n r) K;cases Nat.beq j n
   ·exact ih
   ·rfl
def R4 {α:Type} (cs:List α) (i:Nat) (K:α→An):An:=@List.rec α (fun _=>Nat→(α→An)→An) (fun _ _=>none) (fun v _ ih i K=>@Nat.rec (fun _=>An) (K v) (fun j _=>ih j K) i) cs i K
theorem Le {α:Type} (cs:List α): ∀(i:Nat) (K:α→An),R4 cs i K=ob cs[i]? K:=by
 induction cs with
 | nil=>intro i K;rfl
 | cons v r ih=>
   intro i K;cases i with
   | zero=>rfl
   | succ j=>exact ih j K
def GR {α:Type} (cs:List α):Nat:=@List.rec α (fun _=>Nat) 0 (fun _ _ ih=>Nat.succ ih) cs
theorem Fc {α:Type} (cs:List α):GR cs=cs.length:=by
 induction cs with
 | nil=>rfl
 | cons v r ih=>show Nat.succ (GR r)=_;rw[ih];rfl
def UC {α:Type} (cs:List α) (n:Nat):List α:=@Nat.rec (fun _=>List α→List α) (fun cs=>cs) (fun _ ih cs=>@List.rec α (fun _=>(List α→List α)→List α) (fun _=>[]) (fun _ r _ ih=>ih r) cs ih) n cs
theorem PV {α:Type}: ∀(n:Nat) (cs:List α),UC cs n=cs.drop n
 | 0,cs=>rfl
 | n+1,[]=>rfl
 | n+1,v::r=>PV n r
def XQ {α:Type} (cs:List α) (n:Nat):List α:=@List.rec α (fun _=>Nat→List α) (fun _=>[]) (fun v _ ih n=>@Nat.rec (fun _=>List α) [] (fun j _=>v::ih j) n) cs n
theorem dH {α:Type} (cs:List α): ∀n:Nat,XQ cs n=cs.take n:=by
 induction cs with
 | nil=>intro n;cases n<;>rfl
 | cons v r ih=>
   intro n;cases n with
   | zero=>rfl
   | succ j=>show v::XQ r j=_;rw[ih];rfl
def Vv {α:Type} (cs:List α) (n:Nat) (x:α):List α:=@List.rec α (fun _=>Nat→α→List α) (fun _ _=>[]) (fun v r ih n x=>@Nat.rec (fun _=>List α) (x::r) (fun j _=>v::ih j x) n) cs n x
theorem Sm {α:Type} (cs:List α) (x:α): ∀n:Nat,Vv cs n x=cs.set n x:=by
 induction cs with
 | nil=>intro n;rfl
 | cons v r ih=>
   intro n;cases n with
   | zero=>rfl
   | succ j=>show v::Vv r j x=_;rw[ih];rfl
def tb {α:Type} (f:α→Bool) (cs:List α):Bool:=@List.rec α (fun _=>(α→Bool)→Bool) (fun _=>true) (fun v _ ih f=>@Bool.rec (fun _=>Bool) false (ih f) (f v)) cs f
theorem mP {α:Type} (f:α→Bool) (cs:List α):tb f cs=cs.all f:=by
 induction cs with
 | nil=>rfl
 | cons v r ih=>
   show @Bool.rec (fun _=>Bool) false (tb f r) (f v)=_;rw[OA,ih];cases f v<;>rfl
def cS (v:V) (K:V→An):An:=@V.rec (fun _=>V→(V→An)→An) (fun _=>Unit) (fun _=>Unit) (fun _ v K=>K v) (fun _ _ v K=>K v) (fun _ v K=>K v) (fun v K=>K v) (fun _ _ v K=>@Bool.rec (fun _=>An) none (K v) (Ax v)) (fun _ _ v K=>@Bool.rec (fun _=>An) none (K v) (Ax v)) (fun _ _ _ v K=>@Bool.rec (fun _=>An) none (K v) (Ax v)) (fun _ _ _ v K=>@Bool.rec (fun _=>An) none (K v) (Ax v)) (fun _ _ _ _ v K=>@Bool.rec (fun _=>An) none (K v) (Ax v)) (fun _ _ _ _ v K=>@Bool.rec (fun _=>An) none (K v) (Ax v)) (fun _ v K=>@Bool.rec (fun _=>An) none (K v) (Ax v)) (fun v K=>K v) (fun _ _ _ _ _ v K=>@Bool.rec (fun _=>An) none (K v) (Ax v)) (fun v K=>K v) (fun _ _ _ v K=>@Bool.rec (fun _=>An) none (K v) (Ax v)) (fun v K=>K v) (fun _ _ v K=>@Bool.rec (fun _=>An) none (K v) (Ax v)) (fun _ _ v K=>@Bool.rec (fun _=>An) none (K v) (Ax v)) (fun v K=>@Bool.rec (fun _=>An) none (K v) (Ax v)) () (fun _ _ _ _=>()) () (fun _ _ _ _=>()) v v K
theorem BZ {α:Type} (c:Bool) (x y:α): @Bool.rec (fun _=>α) y x c=bif c then x else y:=by cases c<;>rfl
theorem Z4 (v:V) (K:V→An):cS v K=ob (bif Ax v then some v else none) K:=by
 rw[Kt];cases v<;>first|rfl|exact BZ _ _ _
def OC (M n:Nat):Bool:=Nat.beq (Nat.land (Nat.shiftRight M n) 1) 1
def SA (e:Ca) (n:Nat):Option V:=bif OC e.1 n then get n e.2 else none
def I9 (e:Ca) (env:Env):Prop:= ∀n,SA e n=get n env
def B8 (x:B1) (e:Ca) (K:V→An):An:=@B1.rec (fun _=>Ca→(V→An)→An) (fun n e K=>@Bool.rec (fun _=>An) none (fV e.2 n K) (OC e.1 n)) (fun v _ K=>cS v K) x e K
theorem BM {e:Ca} {env:Env} (he:I9 e env) (x:B1) (K:V→An):B8 x e K=ob (Dn env x) K:=by
 cases x with
 | t n=>
   show @Bool.rec (fun _=>An) none (fV e.2 n K) (OC e.1 n)=ob (get n env) K;rw[←he n,SA,BZ,Kt,iM]
 | c v=>exact Z4 v K
def LL (l:List B1) (env:Ca) (K:List V→An):An:=@List.rec B1 (fun _=>Ca→(List V→An)→An) (fun _ K=>K []) (fun x _ ih env K=>B8 x env fun v=>ih env fun vs=>K (v::vs)) l env K
theorem B5 {e:Ca} {env:Env} (he:I9 e env): ∀(l:List B1) (K:List V→An),LL l e K=ob (N1 env l) K
 | [],K=>rfl
 | x ::r,K=>by
   show(B8 x e fun v=>LL r e fun vs=>K (v::vs))=_;rw[BM he];simp only[N1];cases Dn env x with
   | none=>rfl
   | some v=>
     simp only[ob];rw[B5 he r];cases N1 env r<;>rfl
def Vy (x:Option B1) (e:Ca) (K:Option V→An):An:=@Option.rec B1 (fun _=>Ca→(Option V→An)→An) (fun _ K=>K none) (fun x e K=>B8 x e fun v=>K (some v)) x e K
theorem CG {e:Ca} {env:Env} (he:I9 e env) (x:Option B1) (K:Option V→An):Vy x e K=ob (Kk env x) K:=by
 cases x with
 | none=>rfl
 | some x=>
   show(B8 x e fun v=>K (some v))=_;rw[BM he];simp only[Kk];cases Dn env x<;>rfl
def zT (k:IntKind):Nat:=@IntKind.rec (fun _=>Nat) 0 1 2 3 4 5 6 7 k
def MV (a b:IntKind):Bool:=Nat.beq (zT a) (zT b)
theorem lq (a b:IntKind):MV a b=decide (a=b):=by cases a<;>cases b<;>rfl
def AAO (a b:Int):Int:=@Int.rec (fun _=>Int→Int) (fun m b=>@Int.rec (fun _=>Nat→Int) (fun n m=>Int.ofNat (Nat.add m n)) (fun n m=>Int.ofNat m+Int.negSucc n) b m) (fun m b=>Int.negSucc m+b) a b
theorem mW (a b:Int):AAO a b=a+b:=by cases a<;>cases b<;>rfl
def zF (a b:Int):Int:=@Int.rec (fun _=>Int→Int) (fun m b=>@Int.rec (fun _=>Nat→Int) (fun n m=>@Bool.rec (fun _=>Int) (Int.negSucc (Nat.sub n (Nat.succ m))) (Int.ofNat (Nat.sub m n)) (Nat.ble n m)) (fun n m=>Int.ofNat m - Int.negSucc n) b m) (fun m b=>Int.negSucc m - b) a b
theorem fy (a b:Int):zF a b=a - b:=by
 cases a with
 | negSucc m=>rfl
 | ofNat m=>
   cases b with
   | negSucc n=>rfl
   | ofNat n=>
     show @Bool.rec (fun _=>Int) (Int.negSucc (n - (m+1))) (Int.ofNat (m - n)) (Nat.ble n m)=_;cases h:Nat.ble n m with
     | true=>
       have:=Nat.le_of_ble_eq_true h;show Int.ofNat (m - n)=(m:Int) - (n:Int);simp only[Int.ofNat_eq_natCast];omega
     | false=>
       have: ¬n≤m:=fun h'=>by rw[Nat.ble_eq_true_of_le h']at h;cases h
       show Int.negSucc (n - (m+1))=(m:Int) - (n:Int);omega
def aN (a b:Int):Bool:=@Int.rec (fun _=>Int→Bool) (fun m b=>@Int.rec (fun _=>Nat→Bool) (fun n m=>Nat.ble (Nat.succ m) n) (fun _ _=>false) b m) (fun m b=>@Int.rec (fun _=>Nat→Bool) (fun _ _=>true) (fun n m=>Nat.ble (Nat.succ n) m) b m) a b
theorem SM (a b:Int):aN a b=MR a b:=by cases a<;>cases b<;>rfl
def eqI (a b:Int):Bool:=@Int.rec (fun _=>Int→Bool) (fun m b=>@Int.rec (fun _=>Nat→Bool) (fun n m=>Nat.beq m n) (fun _ _=>false) b m) (fun m b=>@Int.rec (fun _=>Nat→Bool) (fun _ _=>false) (fun n m=>Nat.beq m n) b m) a b
theorem wA (a b:Int):eqI a b=Yo a b:=by cases a<;>cases b<;>rfl
def R5 (b:Bool):Bool:=@Bool.rec (fun _=>Bool) true false b
theorem gk (b:Bool):R5 b= !b:=by cases b<;>rfl
def aT (a:Int):Nat:=@Int.rec (fun _=>Nat) (fun n=>n) (fun _=>0) a
theorem O3 (a:Int):aT a=a.toNat:=by cases a<;>rfl
def XP (k:IntKind) (n:Int):Int:=@IntKind.rec (fun _=>Int→Int) (fun n=>IntKind.i8.wrap n) (fun n=>IntKind.i16.wrap n) (fun n=>IntKind.i32.wrap n)
 (fun n=>@Int.rec (fun _=>Int) (fun m=>@Bool.rec (fun _=>Int) (IntKind.i64.wrap (Int.ofNat m)) (Int.ofNat m) (Nat.ble m 9223372036854775807)) (fun m=>@Bool.rec (fun _=>Int) (IntKind.i64.wrap (Int.negSucc m)) (Int.negSucc m) (Nat.ble m 9223372036854775807)) n)
 (fun n=>IntKind.u8.wrap n) (fun n=>IntKind.u16.wrap n) (fun n=>IntKind.u32.wrap n)
 (fun n=>@Int.rec (fun _=>Int) (fun m=>@Bool.rec (fun _=>Int) (IntKind.u64.wrap (Int.ofNat m)) (Int.ofNat m) (Nat.ble m 18446744073709551615)) (fun m=>IntKind.u64.wrap (Int.negSucc m)) n) k n
theorem c9 (k:IntKind) (n:Int):XP k n=k.wrap n:=by
 cases k<;>try rfl
 ·cases n with
  | ofNat m=>
    have:=JT .i64 (.ofNat m);simp only[Ip]at this;rw[←this];show @Bool.rec (fun _=>Int) _ _ _=_;cases Nat.ble m 9223372036854775807<;>rfl
  | negSucc m=>
    show @Bool.rec (fun _=>Int) (IntKind.i64.wrap (Int.negSucc m)) (Int.negSucc m) (Nat.ble m 9223372036854775807)=_;cases h:Nat.ble m 9223372036854775807 with
    | false=>rfl
    | true=>
      have:=Nat.le_of_ble_eq_true h;show Int.negSucc m=_;exact(wrap64 (by omega) (by omega)).symm
 ·cases n with
  | ofNat m=>
    have:=JT .u64 (.ofNat m);simp only[Ip]at this;rw[←this];show @Bool.rec (fun _=>Int) _ _ _=_;cases Nat.ble m 18446744073709551615<;>rfl
  | negSucc m=>rfl
def zG (k:IntKind) (a b:Int):Int:=@Int.rec (fun _=>Int→IntKind→Int) (fun m b _=>Int.ofNat (Nat.shiftRight m (Nat.min (aT b) k.bits))) (fun m b k=>(Int.negSucc m).fdiv (2 ^ (min b.toNat k.bits))) a b k
theorem gC (k:IntKind) (a b:Int):zG k a b=a.fdiv (2 ^ (min b.toNat k.bits)):=by
 cases a with
 | negSucc m=>rfl
 | ofNat m=>
   show Int.ofNat (m >>> (min (aT b) k.bits))=_;rw[O3,Nat.shiftRight_eq_div_pow];have:(2:Int) ^ (min b.toNat k.bits)=((2 ^ (min b.toNat k.bits):Nat):Int):=by simp
   rw[this];exact(Int.ofNat_fdiv _ _)
def zH (k:IntKind) (a b:Int):Int:=@Int.rec (fun _=>Int→IntKind→Int) (fun m b _=>Int.ofNat (Nat.shiftLeft m (Nat.min (aT b) k.bits))) (fun m b k=>(Int.negSucc m)*(2 ^ (min b.toNat k.bits))) a b k
theorem gD (k:IntKind) (a b:Int):zH k a b=a*(2 ^ (min b.toNat k.bits)):=by
 cases a with
 | negSucc m=>rfl
 | ofNat m=>
   show Int.ofNat (m <<< (min (aT b) k.bits))=_;rw[O3,Nat.shiftLeft_eq];simp
def asI (v:V) (K:IntKind→Int→An):An:=@V.rec (fun _=>(IntKind→Int→An)→An) (fun _=>Unit) (fun _=>Unit) (fun _ K=>none) (fun k n K=>K k n) (fun _ K=>none) (fun K=>none) (fun _ _ K=>none) (fun _ _ K=>none) (fun _ _ _ K=>none) (fun _ _ _ K=>none) (fun _ _ _ _ K=>none) (fun _ _ _ _ K=>none) (fun _ K=>none) (fun K=>none) (fun _ _ _ _ _ K=>none) (fun K=>none) (fun _ _ _ K=>none) (fun K=>none) (fun _ _ K=>none) (fun _ _ K=>none) (fun K=>none) () (fun _ _ _ _=>()) () (fun _ _ _ _=>()) v K
def isI:V→Option (IntKind×Int)| .i k n=>some (k,n)|_=>none
theorem WL (v:V) (K:IntKind→Int→An):asI v K=ob (isI v) fun p=>K p.1 p.2:=by cases v<;>rfl
def fl (op:BinOp) (vx vy:V) (K:V→An):An:=asI vx fun ka a=>asI vy fun kb b=>@BinOp.rec (fun _=>IntKind→Int→IntKind→Int→(V→An)→An) (fun ka a kb b K=>@Bool.rec (fun _=>An) none (K (.i ka (XP ka (AAO a b)))) (MV ka kb)) (fun ka a kb b K=>@Bool.rec (fun _=>An) none (K (.i ka (XP ka (zF a b)))) (MV ka kb)) (fun ka a kb b K=>ob (Tp .mul (.i ka a) (.i kb b)) K) (fun ka a kb b K=>ob (Tp .quo (.i ka a) (.i kb b)) K) (fun ka a kb b K=>ob (Tp .rem (.i ka a) (.i kb b)) K) (fun ka a kb b K=>@Bool.rec (fun _=>An) none (K (.i ka (O2 .and ka a b))) (MV ka kb)) (fun ka a kb b K=>@Bool.rec (fun _=>An) none (K (.i ka (O2 .or ka a b))) (MV ka kb)) (fun ka a kb b K=>@Bool.rec (fun _=>An) none (K (.i ka (O2 .xor ka a b))) (MV ka kb)) (fun ka a kb b K=>@Bool.rec (fun _=>An) none (K (.i ka (XP ka (zH ka a b)))) (R5 (aN b 0))) (fun ka a kb b K=>@Bool.rec (fun _=>An) none (K (.i ka (zG ka a b))) (R5 (aN b 0))) (fun ka a kb b K=>@Bool.rec (fun _=>An) none (K (.i ka (O2 .andNot ka a b))) (MV ka kb)) (fun ka a kb b K=>@Bool.rec (fun _=>An) none (K (.b (eqI a b))) (MV ka kb)) (fun ka a kb b K=>@Bool.rec (fun _=>An) none (K (.b (R5 (eqI a b)))) (MV ka kb)) (fun ka a kb b K=>@Bool.rec (fun _=>An) none (K (.b (aN a b))) (MV ka kb)) (fun ka a kb b K=>@Bool.rec (fun _=>An) none (K (.b (R5 (aN b a)))) (MV ka kb)) (fun ka a kb b K=>@Bool.rec (fun _=>An) none (K (.b (aN b a))) (MV ka kb)) (fun ka a kb b K=>@Bool.rec (fun _=>An) none (K (.b (R5 (aN a b)))) (MV ka kb)) op ka a kb b K
theorem mK (op:BinOp) (vx vy:V) (K:V→An):fl op vx vy K=ob (Tp op vx vy) K:=by
 unfold fl;rw[WL];cases vx<;>first|rfl|skip
 rename_i ka a;simp only[isI,ob];rw[WL];cases vy<;>first|(cases op<;>rfl)|skip
 rename_i kb b;simp only[isI,ob];cases op<;>first|rfl|skip
 all_goals
  simp only[Tp];simp only[BZ,lq,c9,mW,fy,wA,SM,gk,gD,gC,JT,Od,ob]
  first
   | (cases decide (ka=kb)<;>rfl)
   | (cases MR b 0<;>rfl)
def Yv {α:Type} (t:Tr α) (k:Nat):Option α:=@Tr.rec α (fun _=>Nat→Option α) (fun _=>none) (fun o _ _ ihl ihr k=>@Nat.rec (fun _=>Option α) o (fun j _=>@Bool.rec (fun _=>Option α) (ihr (Nat.div j 2)) (ihl (Nat.div j 2)) (Nat.beq (Nat.mod j 2) 0)) k) t k
theorem S5 {α:Type} (t:Tr α): ∀k:Nat,Yv t k=t.get k:=by
 induction t with
 | leaf=>intro k;rfl
 | node o l r ihl ihr=>
   intro k;cases k with
   | zero=>rfl
   | succ j=>
     show @Bool.rec (fun _=>Option α) (Yv r (j / 2)) (Yv l (j / 2)) (Nat.beq (j % 2) 0)=bif Nat.beq (j % 2) 0 then l.get (j / 2)else r.get (j / 2);rw[ihl,ihr];cases Nat.beq (j % 2) 0<;>rfl
def R2 {α β:Type} (x:Option α) (d:Nat) (t:Tr α) (k:Nat) (K:Tr α→β):β:=
 @Nat.rec (fun _=>Tr α→Nat→(Tr α→β)→β) (fun t _ K=>K t)
  (fun _ ih t k K=>@Tr.rec α (fun _=>Nat→(Tr α→β)→β)
   (fun k K=>@Nat.rec (fun _=>β) (K (.node x .leaf .leaf)) (fun j _=>@Bool.rec (fun _=>β) (ih .leaf (Nat.div j 2) fun r=>K (.node none .leaf r)) (ih .leaf (Nat.div j 2) fun l=>K (.node none l .leaf)) (Nat.beq (Nat.mod j 2) 0)) k)
   (fun o l r _ _ k K=>@Nat.rec (fun _=>β) (K (.node x l r)) (fun j _=>@Bool.rec (fun _=>β) (ih r (Nat.div j 2) fun r=>K (.node o l r)) (ih l (Nat.div j 2) fun l=>K (.node o l r)) (Nat.beq (Nat.mod j 2) 0)) k) t k K) d t k K
theorem G4 {α β:Type} (x:Option α): ∀(d:Nat) (t:Tr α) (k:Nat) (K:Tr α→β),R2 x d t k K=Tr.put x d t k K
 | 0,t,k,K=>rfl
 | d+1,.leaf,0,K=>rfl
 | d+1,.node _ _ _,0,K=>rfl
 | d+1,.leaf,j+1,K=>by
   show @Bool.rec (fun _=>β) (R2 x d .leaf (j / 2) fun r=>K (.node none .leaf r)) (R2 x d .leaf (j / 2) fun l=>K (.node none l .leaf)) (Nat.beq (j % 2) 0)=bif Nat.beq (j % 2) 0 then _ else _;rw[G4 x d,G4 x d,BZ]
 | d+1,.node o l r,j+1,K=>by
   show @Bool.rec (fun _=>β) (R2 x d r (j / 2) fun r=>K (.node o l r)) (R2 x d l (j / 2) fun l=>K (.node o l r)) (Nat.beq (j % 2) 0)=bif Nat.beq (j % 2) 0 then _ else _;rw[G4 x d,G4 x d,BZ]
def aj (s:St) (o:EO) (K:Nat→St→An):An:=@Nat.rec (fun _=>An) (R2 (some o) BO s.t 0 fun t=>K 0 ⟨1,t⟩) (fun n _=>@Bool.rec (fun _=>An) none (R2 (some o) BO s.t (Nat.succ n) fun t=>K (Nat.succ n) ⟨Nat.succ (Nat.succ n),t⟩) (Nat.ble (Nat.succ n) MU)) s.nx
theorem gp {γ:Type} (s:St) (o:EO) (f:Nat→St→Option γ) (K:γ→An):ob (s.new o f) K=aj s o fun i s'=>ob (f i s') K:=by
 obtain⟨n,t⟩:=s;cases n with
 | zero=>
   unfold aj;simp only[St.new];rw[G4,Tr.put_eq,Tr.put_eq];rfl
 | succ n=>
   unfold aj;simp only[St.new];rw[G4,Tr.put_eq,Tr.put_eq,BZ,Kt]
def AAl (o:EO) (K:List V→An):An:=@EO.rec (fun _=>(List V→An)→An) (fun vs K=>K vs) (fun _ _ _=>none) (fun _ _=>none) (fun _ _ _ _ _ _=>none) o K
def uB (o:EO) (K:Nat→List (List V)→An):An:=@EO.rec (fun _=>(Nat→List (List V)→An)→An) (fun _ _=>none) (fun sz es K=>K sz es) (fun _ _=>none) (fun _ _ _ _ _ _=>none) o K
def obQ {α:Type} (o:Option α) (K:α→An):An:=@Option.rec α (fun _=>(α→An)→An) (fun _=>none) (fun a K=>K a) o K
theorem bo {α:Type} (o:Option α) (K:α→An):obQ o K=ob o K:=by cases o<;>rfl
def XY (s:St) (n:Nat) (K:List V→An):An:=obQ (Yv s.t n) fun o=>AAl o K
def SS (s:St) (n:Nat) (K:Nat→List (List V)→An):An:=obQ (Yv s.t n) fun o=>uB o K
theorem Ur (s:St) (n:Nat) (K:List V→An):XY s n K=match s.t.get n with|some (.cs vs)=>K vs|_=>none:=by
 unfold XY;rw[bo,S5];cases s.t.get n with
 | none=>rfl
 | some o=>cases o<;>rfl
theorem RT (s:St) (n:Nat) (K:Nat→List (List V)→An):SS s n K=match s.t.get n with|some (.arr sz es)=>K sz es|_=>none:=by
 unfold SS;rw[bo,S5];cases s.t.get n with
 | none=>rfl
 | some o=>cases o<;>rfl
def V2 (agg:Option Nat) (cs:List V) (off:Nat) (K:V→An):An:=@Option.rec Nat (fun _=>List V→Nat→(V→An)→An) (fun cs off K=>R4 cs off K)
 (fun n cs off K=>@Bool.rec (fun _=>An) (@Bool.rec (fun _=>An) none (K (.a (XQ (UC cs off) n))) (Nat.ble (Nat.add off n) (GR cs))) (K (.a cs)) (@Bool.rec (fun _=>Bool) false (Nat.beq n (GR cs)) (Nat.beq off 0))) agg cs off K
theorem OU (agg:Option Nat) (cs:List V) (off:Nat) (K:V→An):V2 agg cs off K=ob (Tm agg cs off) K:=by
 cases agg with
 | none=>exact Le cs off K
 | some n=>
   show @Bool.rec (fun _=>An) (@Bool.rec (fun _=>An) none (K (.a (XQ (UC cs off) n))) (Nat.ble (off+n) (GR cs))) (K (.a cs)) (@Bool.rec (fun _=>Bool) false (Nat.beq n (GR cs)) (Nat.beq off 0))=_;simp only[Tm];rw[dH,PV,Fc,Kt];cases h1:Nat.beq off 0 with
   | false=>exact BZ _ _ _
   | true=>
     cases h2:Nat.beq n cs.length with
     | false=>exact BZ _ _ _
     | true=>
       have:=C9 h1;subst this;have:=C9 h2;subst this;show K (.a cs)=_;rw[Nat.ble_eq_true_of_le (by omega)];simp[ob]
def bF (s:St) (agg:Option Nat) (x:V) (K:V→An):An:=@V.rec (fun _=>St→Option Nat→(V→An)→An) (fun _=>Unit) (fun _=>Unit) (fun _ s agg K=>none) (fun _ _ s agg K=>none) (fun _ s agg K=>none) (fun s agg K=>none) (fun n off s agg K=>XY s n fun vs=>V2 agg vs off K) (fun cs _ s agg K=>V2 agg cs 0 K) (fun _ _ _ s agg K=>none) (fun _ _ _ s agg K=>none) (fun _ _ _ _ s agg K=>none) (fun n sz i off s agg K=>SS s n fun sz1 es=>@Bool.rec (fun _=>An) none (R4 es i fun e=>V2 agg e off K) (Nat.beq sz sz1)) (fun _ s agg K=>none) (fun s agg K=>none) (fun _ _ _ _ _ s agg K=>none) (fun s agg K=>none) (fun _ _ _ s agg K=>none) (fun s agg K=>none) (fun _ _ s agg K=>none) (fun _ _ s agg K=>none) (fun s agg K=>none) () (fun _ _ _ _=>()) () (fun _ _ _ _=>()) x s agg K
theorem dg (s:St) (agg:Option Nat) (x:V) (K:V→An):bF s agg x K=ob (NU s agg x) K:=by
 cases x<;>first|rfl|skip
 ·rename_i n off
  refine(Ur _ _ _).trans ?_;simp only[NU];cases s.t.get n with
  | none=>rfl
  | some o=>cases o<;>first|rfl|exact OU _ _ _ _
 ·exact OU _ _ _ _
 ·rename_i n sz i off
  refine(RT _ _ _).trans ?_;simp only[NU];cases s.t.get n with
  | none=>rfl
  | some o=>
    cases o<;>first|rfl|skip
    rename_i sz1 es;simp only;rw[BZ,Kt,Le];congr 1;cases es[i]? with
    | none=>rfl
    | some e=>exact OU _ _ _ _
def HR (v:V) (K:List V→An):An:=@V.rec (fun _=>V→(List V→An)→An) (fun _=>Unit) (fun _=>Unit) (fun _ v K=>K [v]) (fun _ _ v K=>K [v]) (fun _ v K=>K [v]) (fun v K=>K [v]) (fun _ _ v K=>K [v]) (fun _ _ v K=>K [v]) (fun _ _ _ v K=>K [v]) (fun _ _ _ v K=>K [v]) (fun _ _ _ _ v K=>K [v]) (fun _ _ _ _ v K=>K [v]) (fun _ v K=>K [v]) (fun v K=>K [v]) (fun _ _ _ _ _ v K=>K [v]) (fun v K=>K [v]) (fun _ _ _ v K=>K [v]) (fun v K=>K [v]) (fun cs _ v K=>K cs) (fun _ _ v K=>none) (fun v K=>none) () (fun _ _ _ _=>()) () (fun _ _ _ _=>()) v v K
theorem H9 (v:V) (K:List V→An):HR v K=ob (cellsOf v) K:=by cases v<;>rfl
def zJ (v:V):Bool:=@V.rec (fun _=>Bool) (fun _=>Unit) (fun _=>Unit) (fun _=>true) (fun _ _=>true) (fun _=>true) (true) (fun _ _=>true) (fun _ _=>true) (fun _ _ _=>true) (fun _ _ _=>true) (fun _ _ _ _=>true) (fun _ _ _ _=>true) (fun _=>true) (true) (fun _ _ _ _ _=>true) (true) (fun _ _ _=>true) (true) (fun _ _=>false) (fun _ _=>false) (false) () (fun _ _ _ _=>()) () (fun _ _ _ _=>()) v
theorem gi:zJ=CY:=funext fun v=>by cases v<;>rfl
def aZ (cs:List V) (o:Nat) (vc:List V):List V:=@List.rec V (fun _=>List V→Nat→List V) (fun cs _=>cs) (fun v _ ih cs o=>ih (Vv cs o v) (Nat.succ o)) vc cs o
theorem OM: ∀(vc cs:List V) (o:Nat),aZ cs o vc=putAt cs o vc
 | [],_,_=>rfl
 | v::r,cs,o=>by
   show aZ (Vv cs o v) (o+1) r=_;rw[OM r,Sm];rfl
def fQ (cs:List V) (o:Nat) (vc:List V):List V:=@Bool.rec (fun _=>List V) (aZ cs o vc) vc (@Bool.rec (fun _=>Bool) false (Nat.beq (GR vc) (GR cs)) (Nat.beq o 0))
theorem ZI: ∀(vc pre cs:List V),vc.length=cs.length→putAt (pre++cs) pre.length vc=pre++vc:=by
 intro vc
 induction vc with
 | nil=>intro pre cs hl;cases cs with
   | nil=>rfl
   | cons _ _=>cases hl
 | cons x vc ih=>
   intro pre cs hl;cases cs with
   | nil=>cases hl
   | cons y cs=>
     simp only[putAt];rw[List.set_append_right _ _ (J1 _),Nat.sub_self,List.set_cons_zero];have:=ih (pre++[x]) cs (by simpa using hl);simp only[QJ,OB,List.length_nil,HV,TV,List.singleton_append]at this;exact this
theorem Xq (cs:List V) (o:Nat) (vc:List V):fQ cs o vc=putAt cs o vc:=by
 unfold fQ;cases h1:Nat.beq o 0 with
 | false=>exact OM vc cs o
 | true=>
   rw[Fc,Fc];cases h2:Nat.beq vc.length cs.length with
   | false=>exact OM vc cs o
   | true=>
     have:=C9 h1;subst this;exact(ZI vc [] cs (C9 h2)).symm
def bX (s:St) (sz:Nat) (a:V) (vc:List V) (K:St→An):An:=@V.rec (fun _=>St→Nat→List V→(St→An)→An) (fun _=>Unit) (fun _=>Unit) (fun _ s sz vc K=>none) (fun _ _ s sz vc K=>none) (fun _ s sz vc K=>none) (fun s sz vc K=>none) (fun n off s sz vc K=>XY s n fun vs=>@Bool.rec (fun _=>An) none (R2 (some (.cs (fQ vs off vc))) BO s.t n fun t=>K ⟨s.nx,t⟩) (Nat.ble (Nat.add off sz) (GR vs))) (fun _ _ s sz vc K=>none) (fun _ _ _ s sz vc K=>none) (fun _ _ _ s sz vc K=>none) (fun _ _ _ _ s sz vc K=>none) (fun n s' i off s sz vc K=>SS s n fun s1 es=>@Bool.rec (fun _=>An) none (@Bool.rec (fun _=>An) none (R4 es i fun e=>R2 (some (.arr s1 (Vv es i (fQ e off vc)))) BO s.t n fun t=>K ⟨s.nx,t⟩) (Nat.ble (Nat.add off sz) s')) (Nat.beq s' s1)) (fun _ s sz vc K=>none) (fun s sz vc K=>none) (fun _ _ _ _ _ s sz vc K=>none) (fun s sz vc K=>none) (fun _ _ _ s sz vc K=>none) (fun s sz vc K=>none) (fun _ _ s sz vc K=>none) (fun _ _ s sz vc K=>none) (fun s sz vc K=>none) () (fun _ _ _ _=>()) () (fun _ _ _ _=>()) a s sz vc K
def SE (s:St) (sz:Nat) (a x:V) (K:St→An):An:=HR x fun vc=>@Bool.rec (fun _=>An) none (@Bool.rec (fun _=>An) none (bX s sz a vc K) (tb zJ vc)) (Nat.beq (GR vc) sz)
theorem Y6 (s : St) (sz:Nat) (a x:V) (K:St→An):SE s sz a x K=ob (O9 s sz a x) K:=by
 unfold SE O9;rw[H9];cases cellsOf x with
 | none=>rfl
 | some vc =>
   simp only[ob,Fc,mP,gi];cases Nat.beq vc.length sz with
   | false=>rfl
   | true=>
     cases vc.all CY with
     | false=>rfl
     | true=>
       simp only[Bool.and_true,cond_true];show bX s sz a vc K=_;cases a<;>first|rfl|skip
       ·rename_i n off
        refine(Ur _ _ _).trans ?_;simp only;cases s.t.get n with
        | none=>rfl
        | some o=>
          cases o<;>first|rfl|skip
          rename_i vs;simp only;rw[G4,Tr.put_eq,Xq,Fc,BZ,Tr.put_eq];show(bif Nat.ble (off+sz) vs.length then _ else none)=_;cases Nat.ble (off+sz) vs.length<;>rfl
       ·rename_i n s' i off
        refine(RT _ _ _).trans ?_;simp only;cases s.t.get n with
        | none=>rfl
        | some o=>
          cases o<;>first|rfl|skip
          rename_i s1 es;simp only;rw[BZ,BZ,Le];show(bif Nat.beq s' s1 then(bif Nat.ble (off+sz) s' then _ else none)else none)=_;cases Nat.beq s' s1<;>cases Nat.ble (off+sz) s'<;>try rfl
          simp only[cond_true,Bool.and_true];cases es[i]? with
          | none=>rfl
          | some e=>
            simp only[ob];rw[G4,Tr.put_eq,Xq,Sm,Tr.put_eq]
def WH (off:Nat) (x:V) (K:V→An):An:=@V.rec (fun _=>Nat→(V→An)→An) (fun _=>Unit) (fun _=>Unit) (fun _ off K=>none) (fun _ _ off K=>none) (fun _ off K=>none) (fun off K=>none) (fun n o off K=>K (.p n (Nat.add o off))) (fun cs _ off K=>K (.rp (UC cs off))) (fun _ _ _ off K=>none) (fun _ _ _ off K=>none) (fun _ _ _ _ off K=>none) (fun n sz i o off K=>K (.pe n sz i (Nat.add o off))) (fun _ off K=>none) (fun off K=>none) (fun _ _ _ _ _ off K=>none) (fun off K=>none) (fun _ _ _ off K=>none) (fun off K=>none) (fun _ _ off K=>none) (fun _ _ off K=>none) (fun off K=>none) () (fun _ _ _ _=>()) () (fun _ _ _ _=>()) x off K
theorem Zr (off:Nat) (x:V) (K:V→An):WH off x K=ob (Sa off x) K:=by
 cases x<;>first|rfl|skip
 show K (.rp (UC _ off))=_;rw[PV];rfl
def cC (sz:Nat) (x:V) (j:Int) (K:V→An):An:=@V.rec (fun _=>Nat→Int→(V→An)→An) (fun _=>Unit) (fun _=>Unit) (fun _ sz j K=>none) (fun _ _ sz j K=>none) (fun _ sz j K=>none) (fun sz j K=>none) (fun _ _ sz j K=>none) (fun _ _ sz j K=>none) (fun es _ _ sz j K=>R4 es (aT j) fun e=>@Bool.rec (fun _=>An) none (K (.rp e)) (Nat.beq (GR e) sz)) (fun n len _ sz j K=>@Bool.rec (fun _=>An) none (K (.pe n sz (aT j) 0)) (aN j (Int.ofNat len))) (fun n s off len sz j K=>@Bool.rec (fun _=>An) none (@Bool.rec (fun _=>An) none (K (.pe n sz (Nat.add off (aT j)) 0)) (aN j (Int.ofNat len))) (Nat.beq s sz)) (fun _ _ _ _ sz j K=>none) (fun _ sz j K=>none) (fun sz j K=>none) (fun _ _ _ _ _ sz j K=>none) (fun sz j K=>none) (fun _ _ _ sz j K=>none) (fun sz j K=>none) (fun _ _ sz j K=>none) (fun _ _ sz j K=>none) (fun sz j K=>none) () (fun _ _ _ _=>()) () (fun _ _ _ _=>()) x sz j K
def WC (sz:Nat) (arr:Option Nat) (x i:V) (K:V→An):An:=@Option.rec Nat (fun _=>Nat→V→V→(V→An)→An) (fun sz x i K=>asI i fun _ j=>@Bool.rec (fun _=>An) (cC sz x j K) none (aN j 0)) (fun m sz x i K=>ob (Mj sz (some m) x i) K) arr sz x i K
theorem Zd (sz:Nat) (arr:Option Nat) (x i:V) (K:V→An):WC sz arr x i K=ob (Mj sz arr x i) K:=by
 cases arr with
 | some m=>rfl
 | none=>
   refine(WL _ _).trans ?_;cases i<;>first|rfl|skip
   rename_i k j;simp only[isI,ob,Mj,Od,SM];cases MR j 0 with
   | true=>rfl
   | false=>
     show cC sz x j K=_;cases x<;>first|rfl|skip
     ·rename_i es full
      show R4 es (aT j) _=_;rw[Le,O3];simp only[Bool.not_false,cond_true];cases es[j.toNat]? with
      | none=>rfl
      | some e=>
        simp only[ob,Fc];cases Nat.beq e.length sz<;>rfl
     ·rename_i n len cap
      show @Bool.rec (fun _=>An) none (K (.pe n sz (aT j) 0)) (aN j (Int.ofNat len))=_;rw[O3,SM];simp only[Bool.not_false,cond_true];have:MR j (Int.ofNat len)=MR j (len:Int):=rfl;rw[this];cases MR j (len:Int)<;>rfl
     ·rename_i n s off len
      show @Bool.rec (fun _=>An) none (@Bool.rec (fun _=>An) none (K (.pe n sz (off+aT j) 0)) (aN j (Int.ofNat len))) (Nat.beq s sz)=_;rw[O3,SM];simp only[Bool.not_false,cond_true];have:MR j (Int.ofNat len)=MR j (len:Int):=rfl;rw[this];cases Nat.beq s sz<;>cases MR j (len:Int)<;>rfl
def tT (x:V) (K:V→An):An:=@V.rec (fun _=>(V→An)→An) (fun _=>Unit) (fun _=>Unit) (fun _ K=>none) (fun _ _ K=>none) (fun _ K=>none) (fun K=>none) (fun _ _ K=>none) (fun _ _ K=>none) (fun es _ _ K=>K (.i .i64 (Int.ofNat (GR es)))) (fun _ len _ K=>@Bool.rec (fun _=>An) none (K (.i .i64 (Int.ofNat len))) (Nat.ble len Ai)) (fun _ _ _ len K=>@Bool.rec (fun _=>An) none (K (.i .i64 (Int.ofNat len))) (Nat.ble len Ai)) (fun _ _ _ _ K=>none) (fun _ K=>none) (fun K=>none) (fun _ _ _ _ _ K=>none) (fun K=>none) (fun _ _ _ K=>none) (fun K=>none) (fun _ _ K=>none) (fun _ _ K=>none) (fun K=>none) () (fun _ _ _ _=>()) () (fun _ _ _ _=>()) x K
theorem gu (x:V) (K:V→An):tT x K=ob (Yy x) K:=by
 cases x<;>first|rfl|skip
 ·show K (.i .i64 (Int.ofNat (GR _)))=_
  rw[Fc];rfl
 ·show @Bool.rec (fun _=>An) none _ (Nat.ble _ Ai)=_
  rw[BZ];simp only[Yy];rw[Kt];rfl
 ·show @Bool.rec (fun _=>An) none _ (Nat.ble _ Ai)=_
  rw[BZ];simp only[Yy];rw[Kt];rfl
def V8 (x:V) (K:V→An):An:=@V.rec (fun _=>V→(V→An)→An) (fun _=>Unit) (fun _=>Unit) (fun _ x K=>none) (fun _ _ x K=>none) (fun _ x K=>none) (fun x K=>none) (fun _ _ x K=>K x) (fun _ _ x K=>K x) (fun _ _ _ x K=>none) (fun _ _ _ x K=>none) (fun _ _ _ _ x K=>none) (fun _ _ _ _ x K=>K x) (fun _ x K=>none) (fun x K=>none) (fun _ _ _ _ _ x K=>ob (Mi x) K) (fun x K=>none) (fun _ _ _ x K=>none) (fun x K=>none) (fun _ _ x K=>none) (fun _ _ x K=>none) (fun x K=>none) () (fun _ _ _ _=>()) () (fun _ _ _ _=>()) x x K
theorem ZR (x:V) (K:V→An):V8 x K=ob (Mi x) K:=by cases x<;>rfl
def asT (v:V) (K:List V→An):An:=@V.rec (fun _=>(List V→An)→An) (fun _=>Unit) (fun _=>Unit) (fun _ K=>none) (fun _ _ K=>none) (fun _ K=>none) (fun K=>none) (fun _ _ K=>none) (fun _ _ K=>none) (fun _ _ _ K=>none) (fun _ _ _ K=>none) (fun _ _ _ _ K=>none) (fun _ _ _ _ K=>none) (fun _ K=>none) (fun K=>none) (fun _ _ _ _ _ K=>none) (fun K=>none) (fun _ _ _ K=>none) (fun K=>none) (fun _ _ K=>none) (fun vs _ K=>K vs) (fun K=>none) () (fun _ _ _ _=>()) () (fun _ _ _ _=>()) v K
def mc (v:V) (K:Bool→An):An:=@V.rec (fun _=>(Bool→An)→An) (fun _=>Unit) (fun _=>Unit) (fun x K=>K x) (fun _ _ K=>none) (fun _ K=>none) (fun K=>none) (fun _ _ K=>none) (fun _ _ K=>none) (fun _ _ _ K=>none) (fun _ _ _ K=>none) (fun _ _ _ _ K=>none) (fun _ _ _ _ K=>none) (fun _ K=>none) (fun K=>none) (fun _ _ _ _ _ K=>none) (fun K=>none) (fun _ _ _ K=>none) (fun K=>none) (fun _ _ K=>none) (fun _ _ K=>none) (fun K=>none) () (fun _ _ _ _=>()) () (fun _ _ _ _=>()) v K
def asA (v:V) (K:List V→An):An:=@V.rec (fun _=>(List V→An)→An) (fun _=>Unit) (fun _=>Unit) (fun _ K=>none) (fun _ _ K=>none) (fun _ K=>none) (fun K=>none) (fun _ _ K=>none) (fun _ _ K=>none) (fun _ _ _ K=>none) (fun _ _ _ K=>none) (fun _ _ _ _ K=>none) (fun _ _ _ _ K=>none) (fun _ K=>none) (fun K=>none) (fun _ _ _ _ _ K=>none) (fun K=>none) (fun _ _ _ K=>none) (fun K=>none) (fun cs _ K=>K cs) (fun _ _ K=>none) (fun K=>none) () (fun _ _ _ _=>()) () (fun _ _ _ _=>()) v K
def V0 (v:V) (K:V→An):An:=@V.rec (fun _=>V→(V→An)→An) (fun _=>Unit) (fun _=>Unit) (fun x v K=>@Bool.rec (fun _=>An) (K (.b false)) (K (.b true)) x) (fun k n v K=>@Int.rec (fun _=>An) (fun m=>@Nat.rec (fun _=>An) (K (.i k (Int.ofNat 0))) (fun j _=>K (.i k (Int.ofNat (Nat.succ j)))) m) (fun m=>@Nat.rec (fun _=>An) (K (.i k (Int.negSucc 0))) (fun j _=>K (.i k (Int.negSucc (Nat.succ j)))) m) n) (fun _ v K=>K v) (fun v K=>K v) (fun _ _ v K=>K v) (fun _ _ v K=>K v) (fun _ _ _ v K=>K v) (fun _ _ _ v K=>K v) (fun _ _ _ _ v K=>K v) (fun _ _ _ _ v K=>K v) (fun _ v K=>K v) (fun v K=>K v) (fun _ _ _ _ _ v K=>K v) (fun v K=>K v) (fun _ _ _ v K=>K v) (fun v K=>K v) (fun _ _ v K=>K v) (fun _ _ v K=>K v) (fun v K=>K v) () (fun _ _ _ _=>()) () (fun _ _ _ _=>()) v v K
theorem YD (v:V) (K:V→An):V0 v K=K v:=by
 cases v<;>first|rfl|skip
 ·rename_i x;cases x<;>rfl
 ·rename_i k n
  cases n with
  | ofNat m=>cases m<;>rfl
  | negSucc m=>cases m<;>rfl
def fin (o:Option (R×St)) (k kp:V→St→An):An:=match o with
 | some (.ret v,s)=>k v s
 | some (.By v,s)=>kp v s
 | none=>none
def CZ (o:Option (R×St)) (k kp:V→St→An):An:=@Option.rec (R×St) (fun _=>(V→St→An)→(V→St→An)→An) (fun _ _=>none) (fun p k kp=>@R.rec (fun _=>St→(V→St→An)→(V→St→An)→An) (fun v s k _=>k v s) (fun v s _ kp=>kp v s) p.1 p.2 k kp) o k kp
theorem B4 (o:Option (R×St)) (k kp:V→St→An):CZ o k kp=fin o k kp:=by
 cases o with
 | none=>rfl
 | some p=>
   obtain⟨r,s⟩:=p;cases r<;>rfl
theorem HP (o:Option V) (s:St) (k kp:V→St→An):fin (ov o s) k kp=ob o fun v=>k v s:=by cases o<;>rfl
theorem v8 (o:Option St) (k kp:V→St→An):fin (os o) k kp=ob o fun s=>k (.t []) s:=by cases o<;>rfl
theorem Bg {α:Type} (o:Option α) (f:α→Option (R×St)) (k kp:V→St→An):fin (ob o f) k kp=ob o fun a=>fin (f a) k kp:=by cases o<;>rfl
abbrev OK:=CF→CV→CP→Ca→St→(V→St→An)→(V→St→An)→An
def SW (e:Ca) (ps:List (Nat×Nat×B1)) (cs:List V) (K:List V→An):An:=@List.rec (Nat×Nat×B1) (fun _=>List V→(List V→An)→An) (fun cs K=>K cs)
 (fun p _ ih cs K=>B8 p.2.2 e fun v=>HR v fun vc=>@Bool.rec (fun _=>An) none (@Bool.rec (fun _=>An) none (ih (aZ cs p.1 vc) K) (Nat.ble (Nat.add p.1 p.2.1) (GR cs))) (Nat.beq (GR vc) p.2.1)) ps cs K
theorem RY {e:Ca} {env:Env} (he:I9 e env): ∀(ps:List (Nat×Nat×B1)) (cs:List V) (K:List V→An),SW e ps cs K=ob (Mk env cs ps) K
 | [],cs,K=>rfl
 | (off, sz,x)::r,cs,K=>by
   show(B8 x e fun v=>HR v fun vc=>@Bool.rec (fun _=>An) none (@Bool.rec (fun _=>An) none (SW e r (aZ cs off vc) K) (Nat.ble (off+sz) (GR cs))) (Nat.beq (GR vc) sz))=_;rw[BM he];simp only[Mk];cases Dn env x with
   | none=>rfl
   | some v=>
     simp only[ob];rw[H9];cases cellsOf v with
     | none=>rfl
     | some vc=>
       simp only[ob,Fc,OM];cases Nat.beq vc.length sz with
       | false=>rfl
       | true=>
         cases Nat.ble (off+sz) cs.length with
         | false=>rfl
         | true=>exact RY he r _ K
def SX (e:Ca) (sz:Nat) (ps:List (Nat×B1)) (es:List (List V)) (K:List (List V)→An):An:=@List.rec (Nat×B1) (fun _=>List (List V)→(List (List V)→An)→An) (fun es K=>K es)
 (fun p _ ih es K=>B8 p.2 e fun v=>HR v fun vc=>@Bool.rec (fun _=>An) none (@Bool.rec (fun _=>An) none (ih (Vv es p.1 vc) K) (Nat.ble (Nat.succ p.1) (GR es))) (Nat.beq (GR vc) sz)) ps es K
theorem Ra {e:Ca} {env:Env} (he:I9 e env) (sz:Nat): ∀(ps:List (Nat×B1)) (es:List (List V)) (K:List (List V)→An),SX e sz ps es K=ob (Ml env sz es ps) K
 | [],es,K=>rfl
 | (i, x)::r,es,K=>by
   show(B8 x e fun v=>HR v fun vc=>@Bool.rec (fun _=>An) none (@Bool.rec (fun _=>An) none (SX e sz r (Vv es i vc) K) (Nat.ble (Nat.succ i) (GR es))) (Nat.beq (GR vc) sz))=_;rw[BM he];simp only[Ml];cases Dn env x with
   | none=>rfl
   | some v=>
     simp only[ob];rw[H9];cases cellsOf v with
     | none=>rfl
     | some vc=>
       simp only[ob,Fc,Sm,Nat.blt,Nat.succ_eq_add_one];cases Nat.beq vc.length sz with
       | false=>rfl
       | true=>
         cases Nat.ble (i+1) es.length with
         | false=>rfl
         | true=>exact Ra he sz r _ K
def opK (o:FN):OK:=@FN.rec (fun _=>OK)
 (fun x cf cv cp env s kk kp=>B8 x env fun v=>kk v s)
 (fun x cf cv cp env s kk kp=>B8 x env fun v=>kk v s)
 (fun c a b cf cv cp env s kk kp=>B8 c env fun vc=>B8 a env fun va=>B8 b env fun vb=>mc vc fun t=>@Bool.rec (fun _=>An) (kk vb s) (kk va s) t)
 (fun op x y cf cv cp env s kk kp=>B8 x env fun vx=>B8 y env fun vy=>fl op vx vy fun v=>kk v s)
 (fun neg x y cf cv cp env s kk kp=>B8 x env fun vx=>B8 y env fun vy=>CZ (match vx,vy with| .b p,.b q=>some (.ret (.b (bif neg then p != q else p==q)),s)|_,_=>none) kk kp)
 (fun len neg x y cf cv cp env s kk kp=>B8 x env fun vx=>B8 y env fun vy=>CZ (ov (az len neg vx vy) s) kk kp)
 (fun kind neg x cf cv cp env s kk kp=>B8 x env fun vx=>CZ (ov (aw kind neg vx) s) kk kp)
 (fun x cf cv cp env s kk kp=>B8 x env fun vx=>mc vx fun p=>kk (.b (R5 p)) s)
 (fun xor x cf cv cp env s kk kp=>B8 x env fun vx=>CZ (match vx with| .i ka a=>some (.ret (.i ka (bif xor then bits .xor ka (bif ka.signed then -1 else ka.max) a else ka.wrap (0 - a))),s)|_=>none) kk kp)
 (fun k x cf cv cp env s kk kp=>B8 x env fun vx=>CZ (match vx with| .i _ a=>some (.ret (.i k (Ip k a)),s)|_=>none) kk kp)
 (fun x cf cv cp env s kk kp=>B8 x env fun vx=>HR vx fun cs=>aj s (.cs cs) fun i s=>kk (.p i 0) s)
 (fun x cf cv cp env s kk kp=>B8 x env fun vx=>HR vx fun cs=>kk (.rp cs) s)
 (fun sz bytes x y cf cv cp env s kk kp=>B8 x env fun vx=>B8 y env fun vy=>CZ (ov (UB bytes s sz vx vy) s) kk kp)
 (fun zero cf cv cp env s kk kp=>CZ (bif BX zero then s.new (.cs zero) fun i s=>some (.ret (.p i 0),s)else none) kk kp)
 (fun zero parts cf cv cp env s kk kp=>@Bool.rec (fun _=>An) none (SW env parts zero fun cs=>kk (.a cs) s) (BX zero))
 (fun sz len zero parts cf cv cp env s kk kp=>@Bool.rec (fun _=>An) none (SX env (GR zero) parts (List.replicate len zero) fun es=>kk (.l es true) s) (BX zero))
 (fun agg x cf cv cp env s kk kp=>B8 x env fun vx=>bF s agg vx fun v=>kk v s)
 (fun sz a x cf cv cp env s kk kp=>B8 a env fun va=>B8 x env fun vx=>SE s sz va vx fun s=>kk (.t []) s)
 (fun off x cf cv cp env s kk kp=>B8 x env fun vx=>WH off vx fun v=>kk v s)
 (fun agg off x cf cv cp env s kk kp=>B8 x env fun vx=>asA vx fun cs=>V2 agg cs off fun v=>kk v s)
 (fun sz arr x i cf cv cp env s kk kp=>B8 x env fun vx=>B8 i env fun vi=>WC sz arr vx vi fun v=>kk v s)
 (fun len sz agg x i cf cv cp env s kk kp=>B8 x env fun vx=>B8 i env fun vi=>CZ (ov (PB len sz agg vx vi) s) kk kp)
 (fun sz x lo hi mx cf cv cp env s kk kp=>B8 x env fun vx=>Vy lo env fun l=>Vy hi env fun h=>Vy mx env fun m=>CZ (Yn (PA s sz vx l h m)) kk kp)
 (fun x cf cv cp env s kk kp=>B8 x env fun vx=>tT vx fun v=>kk v s)
 (fun x cf cv cp env s kk kp=>B8 x env fun vx=>CZ (ov (T9 s vx) s) kk kp)
 (fun x cf cv cp env s kk kp=>B8 x env fun vx=>CZ (ov (av s vx) s) kk kp)
 (fun x i cf cv cp env s kk kp=>B8 x env fun vx=>B8 i env fun vi=>CZ (ov (T8 vx vi) s) kk kp)
 (fun sz bytes x y cf cv cp env s kk kp=>B8 x env fun vx=>B8 y env fun vy=>CZ (Yn (Lm bytes s sz vx vy)) kk kp)
 (fun sz x y cf cv cp env s kk kp=>B8 x env fun vx=>B8 y env fun vy=>CZ (Yn (UA s sz vx vy)) kk kp)
 (fun x y cf cv cp env s kk kp=>B8 x env fun vx=>B8 y env fun vy=>CZ (match vx,vy with| .i ka a,.i kb b=>bif decide (ka=kb)then some (.ret (.i ka (bif MR a b then b else a)),s)else none|_,_=>none) kk kp)
 (fun x y cf cv cp env s kk kp=>B8 x env fun vx=>B8 y env fun vy=>CZ (match vx,vy with| .i ka a,.i kb b=>bif decide (ka=kb)then some (.ret (.i ka (bif MR b a then b else a)),s)else none|_,_=>none) kk kp)
 (fun i x cf cv cp env s kk kp=>B8 x env fun vx=>asT vx fun vs=>R4 vs i fun v=>kk v s)
 (fun x cf cv cp env s kk kp=>B8 x env fun vx=>V8 vx fun v=>kk v s)
 (fun f first cap cf cv cp env s kk kp=>LL first env fun vf=>LL cap env fun vc=>@Bool.rec (fun _=>An) none (kk (.f f vf vc) s) (Mb f))
 (fun cf cv cp env s kk kp=>CZ (s.new (.map []) fun i s=>some (.ret (.m i),s)) kk kp)
 (fun sz bytes zero len cap cf cv cp env s kk kp=>B8 len env fun vx=>B8 cap env fun vy=>CZ (Yn (JY s sz zero vx vy)) kk kp)
 (fun ks zero ok m k cf cv cp env s kk kp=>B8 m env fun vm=>B8 k env fun vk=>CZ (ov (Lk s ks zero ok vm vk) s) kk kp)
 (fun ks m k v cf cv cp env s kk kp=>B8 m env fun vm=>B8 k env fun vk=>B8 v env fun vx=>CZ (os (Lj s ks vm vk vx)) kk kp)
 (fun t x cf cv cp env s kk kp=>B8 x env fun vx=>kk (.FE t vx) s)
 (fun t zero ok x cf cv cp env s kk kp=>B8 x env fun vx=>CZ (ov (au t zero ok vx) s) kk kp)
 (fun x cf cv cp env s kk kp=>B8 x env fun vx=>CZ (match vx with| .FE t v=>some (.By (.FE t v),s)|_=>none) kk kp)
 (fun f args cf cv cp env s kk kp=>LL args env fun vs=>CZ (cf f vs s) kk kp)
 (fun f args cf cv cp env s kk kp=>LL args env fun vs=>CZ (ov (cp f vs) s) kk kp)
 (fun x args cf cv cp env s kk kp=>B8 x env fun vx=>LL args env fun vs=>CZ (cv vx vs s) kk kp)
 (fun x args cf cv cp env s kk kp=>none)
 (fun tab x args cf cv cp env s kk kp=>B8 x env fun vx=>LL args env fun vs=>CZ (match vx with| .FE t v=>ob (look t tab) fun f=>cf f (v::vs) s|_=>none) kk kp) o
theorem dT {vc va vb:V} {s:St} {kk kp:V→St→An}:mc vc (fun t=>@Bool.rec (fun _=>An) (kk vb s) (kk va s) t)=fin (match vc with| .b t=>some (.ret (bif t then va else vb),s)|_=>none) kk kp:=by
 cases vc<;>first|rfl|skip
 rename_i t;cases t<;>rfl
theorem not_eq {vx:V} {s:St} {kk kp:V→St→An}:mc vx (fun p=>kk (.b (R5 p)) s)=fin (match vx with| .b p=>some (.ret (.b (!p)),s)|_=>none) kk kp:=by
 cases vx<;>first|rfl|skip
 rename_i t;cases t<;>rfl
theorem S8 {c:Bool} {x:Option (R×St)} {kk kp:V→St→An}:fin (bif c then x else none) kk kp=bif c then fin x kk kp else none:=by cases c<;>rfl
theorem bn {e:Ca} {env:Env} (he:I9 e env) (o:FN) (cf:CF) (cv:CV) (cp:CP) (s:St) (kk kp:V→St→An):opK o cf cv cp e s kk kp=fin (F9 cf cv cp o env s) kk kp:=by
 cases o with
 | mv x=>
   show(B8 x e fun v=>kk v s)=_;simp only[BM he,F9,HP]
 | Vl x=>
   show(B8 x e fun v=>kk v s)=_;simp only[BM he,F9,HP]
 | pick c a b=>
   show(B8 c e fun vc=>B8 a e fun va=>B8 b e fun vb=>mc vc fun t=>@Bool.rec (fun _=>An) (kk vb s) (kk va s) t)=_;simp only[BM he,F9,Bg,dT (kp:=kp)];rfl
 | bin op x y=>
   show(B8 x e fun vx=>B8 y e fun vy=>fl op vx vy fun v=>kk v s)=_;simp only[BM he,F9,Bg,HP,mK]
 | Tc neg x y=>
   show(B8 x e fun vx=>B8 y e fun vy=>CZ (match vx,vy with| .b p,.b q=>some (.ret (.b (bif neg then p != q else p==q)),s)|_,_=>none) kk kp)=_;simp only[BM he,B5 he,CG he,F9,Bg,B4]
   try rfl
 | fB len neg x y=>
   show(B8 x e fun vx=>B8 y e fun vy=>CZ (ov (az len neg vx vy) s) kk kp)=_;simp only[BM he,B5 he,CG he,F9,Bg,B4]
   try rfl
 | Vo kind neg x=>
   show(B8 x e fun vx=>CZ (ov (aw kind neg vx) s) kk kp)=_;simp only[BM he,B5 he,CG he,F9,Bg,B4]
   try rfl
 | not x=>
   show(B8 x e fun vx=>mc vx fun p=>kk (.b (R5 p)) s)=_;simp only[BM he,F9,Bg,not_eq (kp:=kp)];rfl
 | neg xor x=>
   show(B8 x e fun vx=>CZ (match vx with| .i ka a=>some (.ret (.i ka (bif xor then bits .xor ka (bif ka.signed then -1 else ka.max) a else ka.wrap (0 - a))),s)|_=>none) kk kp)=_;simp only[BM he,B5 he,CG he,F9,Bg,B4]
   try rfl
 | conv k x=>
   show(B8 x e fun vx=>CZ (match vx with| .i _ a=>some (.ret (.i k (Ip k a)),s)|_=>none) kk kp)=_;simp only[BM he,B5 he,CG he,F9,Bg,B4]
   try rfl
 | box x=>
   show(B8 x e fun vx=>HR vx fun cs=>aj s (.cs cs) fun i s=>kk (.p i 0) s)=_;simp only[BM he,F9,Bg,H9];congr 1;funext vx;congr 1;funext cs;have: ∀o:Option (R×St),fin o kk kp=ob o fun p=>fin (some p) kk kp:=fun o=>by cases o<;>rfl
   rw[this,gp];rfl
 | N4 x=>
   show(B8 x e fun vx=>HR vx fun cs=>kk (.rp cs) s)=_;simp only[BM he,F9,Bg,H9];rfl
 | Oo sz bytes x y=>
   show(B8 x e fun vx=>B8 y e fun vy=>CZ (ov (UB bytes s sz vx vy) s) kk kp)=_;simp only[BM he,B5 he,CG he,F9,Bg,B4]
   try rfl
 | alloc zero=>
   show(CZ (bif BX zero then s.new (.cs zero) fun i s=>some (.ret (.p i 0),s)else none) kk kp)=_;simp only[B4,F9]
 | build zero parts=>
   show(@Bool.rec (fun _=>An) none (SW e parts zero fun cs=>kk (.a cs) s) (BX zero))=_;simp only[F9,S8,Bg,RY he,BZ];rfl
 | AY sz len zero parts=>
   show(@Bool.rec (fun _=>An) none (SX e (GR zero) parts (List.replicate len zero) fun es=>kk (.l es true) s) (BX zero))=_;simp only[F9,S8,Bg,Ra he,BZ,Fc];rfl
 | load agg x=>
   show(B8 x e fun vx=>bF s agg vx fun v=>kk v s)=_;simp only[BM he,F9,Bg,HP,dg]
 | store sz a x=>
   show(B8 a e fun va=>B8 x e fun vx=>SE s sz va vx fun s=>kk (.t []) s)=_;simp only[BM he,F9,Bg,v8,Y6]
 | Hj off x=>
   show(B8 x e fun vx=>WH off vx fun v=>kk v s)=_;simp only[BM he,F9,Bg,HP,Zr]
 | field agg off x=>
   show(B8 x e fun vx=>asA vx fun cs=>V2 agg cs off fun v=>kk v s)=_;simp only[BM he,F9,Bg];congr 1;funext vx;cases vx<;>first|rfl|skip
   show V2 agg _ off _=_;rw[OU,HP]
 | Bi sz arr x i=>
   show(B8 x e fun vx=>B8 i e fun vi=>WC sz arr vx vi fun v=>kk v s)=_;simp only[BM he,F9,Bg,HP,Zd]
 | index len sz agg x i=>
   show(B8 x e fun vx=>B8 i e fun vi=>CZ (ov (PB len sz agg vx vi) s) kk kp)=_;simp only[BM he,B5 he,CG he,F9,Bg,B4]
   try rfl
 | slice sz x lo hi mx=>
   show(B8 x e fun vx=>Vy lo e fun l=>Vy hi e fun h=>Vy mx e fun m=>CZ (Yn (PA s sz vx l h m)) kk kp)=_;simp only[BM he,B5 he,CG he,F9,Bg,B4]
   try rfl
 | len x=>
   show(B8 x e fun vx=>tT vx fun v=>kk v s)=_;simp only[BM he,F9,Bg,HP,gu]
 | R6 x=>
   show(B8 x e fun vx=>CZ (ov (T9 s vx) s) kk kp)=_;simp only[BM he,B5 he,CG he,F9,Bg,B4]
   try rfl
 | str x=>
   show(B8 x e fun vx=>CZ (ov (av s vx) s) kk kp)=_;simp only[BM he,B5 he,CG he,F9,Bg,B4]
   try rfl
 | QP x i=>
   show(B8 x e fun vx=>B8 i e fun vi=>CZ (ov (T8 vx vi) s) kk kp)=_;simp only[BM he,B5 he,CG he,F9,Bg,B4]
   try rfl
 | append sz bytes x y=>
   show(B8 x e fun vx=>B8 y e fun vy=>CZ (Yn (Lm bytes s sz vx vy)) kk kp)=_;simp only[BM he,B5 he,CG he,F9,Bg,B4]
   try rfl
 | copy sz x y=>
   show(B8 x e fun vx=>B8 y e fun vy=>CZ (Yn (UA s sz vx vy)) kk kp)=_;simp only[BM he,B5 he,CG he,F9,Bg,B4]
   try rfl
 | J6 x y=>
   show(B8 x e fun vx=>B8 y e fun vy=>CZ (match vx,vy with| .i ka a,.i kb b=>bif decide (ka=kb)then some (.ret (.i ka (bif MR a b then b else a)),s)else none|_,_=>none) kk kp)=_;simp only[BM he,B5 he,CG he,F9,Bg,B4]
   try rfl
 | Nz x y=>
   show(B8 x e fun vx=>B8 y e fun vy=>CZ (match vx,vy with| .i ka a,.i kb b=>bif decide (ka=kb)then some (.ret (.i ka (bif MR b a then b else a)),s)else none|_,_=>none) kk kp)=_;simp only[BM he,B5 he,CG he,F9,Bg,B4]
   try rfl
 | extract i x=>
   show(B8 x e fun vx=>asT vx fun vs=>R4 vs i fun v=>kk v s)=_;simp only[BM he,F9,Bg];congr 1;funext vx;cases vx<;>first|rfl|skip
   show R4 _ i _=_;rw[Le,HP]
 | Et x=>
   show(B8 x e fun vx=>V8 vx fun v=>kk v s)=_;simp only[BM he,F9,Bg,HP,ZR]
 | HX f first cap=>
   show(LL first e fun vf=>LL cap e fun vc=>@Bool.rec (fun _=>An) none (kk (.f f vf vc) s) (Mb f))=_;simp only[B5 he,F9,S8,Bg,BZ];rfl
 | Gw=>
   show(CZ (s.new (.map []) fun i s=>some (.ret (.m i),s)) kk kp)=_;simp only[B4,F9]
 | D3 sz bytes zero len cap=>
   show(B8 len e fun vx=>B8 cap e fun vy=>CZ (Yn (JY s sz zero vx vy)) kk kp)=_;simp only[BM he,B5 he,CG he,F9,Bg,B4]
   try rfl
 | lookup ks zero ok m k=>
   show(B8 m e fun vm=>B8 k e fun vk=>CZ (ov (Lk s ks zero ok vm vk) s) kk kp)=_;simp only[BM he,B5 he,CG he,F9,Bg,B4]
   try rfl
 | DQ ks m k v=>
   show(B8 m e fun vm=>B8 k e fun vk=>B8 v e fun vx=>CZ (os (Lj s ks vm vk vx)) kk kp)=_;simp only[BM he,B5 he,CG he,F9,Bg,B4]
   try rfl
 | Fo t x=>
   show(B8 x e fun vx=>kk (.FE t vx) s)=_;simp only[BM he,F9,Bg];rfl
 | XM t zero ok x=>
   show(B8 x e fun vx=>CZ (ov (au t zero ok vx) s) kk kp)=_;simp only[BM he,B5 he,CG he,F9,Bg,B4]
   try rfl
 | panic x=>
   show(B8 x e fun vx=>CZ (match vx with| .FE t v=>some (.By (.FE t v),s)|_=>none) kk kp)=_;simp only[BM he,B5 he,CG he,F9,Bg,B4]
   try rfl
 | call f args=>
   show(LL args e fun vs=>CZ (cf f vs s) kk kp)=_;simp only[BM he,B5 he,CG he,F9,Bg,B4]
   try rfl
 | KO f args=>
   show(LL args e fun vs=>CZ (ov (cp f vs) s) kk kp)=_;simp only[BM he,B5 he,CG he,F9,Bg,B4]
   try rfl
 | CA x args=>
   show(B8 x e fun vx=>LL args e fun vs=>CZ (cv vx vs s) kk kp)=_;simp only[BM he,B5 he,CG he,F9,Bg,B4]
   try rfl
 | WI x args=>
   rfl
 | inv tab x args=>
   show(B8 x e fun vx=>LL args e fun vs=>CZ (match vx with| .FE t v=>ob (look t tab) fun f=>cf f (v::vs) s|_=>none) kk kp)=_;simp only[BM he,B5 he,CG he,F9,Bg,B4]
   try rfl
def tY (g:Bool) (t:Bool) (y:An) (n:An):An:=@Bool.rec (fun _=>An) (@Bool.rec (fun _=>An) y n g) (@Bool.rec (fun _=>An) n y g) t
theorem iI (g t:Bool) (y n:An):tY g t y n=bif t==g then y else n:=by cases g<;>cases t<;>rfl
def zW (v:V) (g:Bool) (y:An) (n:An):An:=@V.rec (fun _=>Bool→An→An→An) (fun _=>Unit) (fun _=>Unit) (fun t g y n=>tY g t y n) (fun _ _ g y n=>none) (fun _ g y n=>none) (fun g y n=>none) (fun _ _ g y n=>none) (fun _ _ g y n=>none) (fun _ _ _ g y n=>none) (fun _ _ _ g y n=>none) (fun _ _ _ _ g y n=>none) (fun _ _ _ _ g y n=>none) (fun _ g y n=>none) (fun g y n=>none) (fun _ _ _ _ _ g y n=>none) (fun g y n=>none) (fun _ _ _ g y n=>none) (fun g y n=>none) (fun _ _ g y n=>none) (fun vs _ g y n=>@List.rec V (fun _=>An→An) (fun n=>n) (fun _ _ _ _=>none) vs n) (fun g y n=>none) () (fun _ _ _ _=>()) () (fun _ _ _ _=>()) v g y n
def grdK (g:Nat×Bool) (o:FN):OK:=fun cf cv cp e s kk kp=>B8 (.t g.1) e fun v=>zW v g.2 (opK o cf cv cp e s kk kp) (kk (.t []) s)
def Vu (g:Option (Nat×Bool)) (o:FN):OK:=@Option.rec (Nat×Bool) (fun _=>FN→OK) (fun o=>opK o) (fun g o=>grdK g o) g o
theorem Sl {e:Ca} {env:Env} (he:I9 e env) (d:Option Nat) (g:Option (Nat×Bool)) (o:FN) (cf:CF) (cv:CV) (cp:CP) (s:St) (kk kp:V→St→An):Vu g o cf cv cp e s kk kp=fin (I4 cf cv cp ⟨d,o,g⟩ env s) kk kp:=by
 cases g with
 | none=>exact bn he o cf cv cp s kk kp
 | some g=>
   obtain⟨g,b⟩:=g;show(B8 (.t g) e fun v=>zW v b (opK o cf cv cp e s kk kp) (kk (.t []) s))=_;rw[BM he,bn he];simp only[I4,Dn];cases get g env with
   | none=>rfl
   | some v=>
     simp only[ob];cases v<;>first|rfl|skip
     ·rename_i t
      show tY b t _ _=_;rw[iI];simp only;cases t==b<;>rfl
     ·rename_i vs
      cases vs<;>rfl
def NP (d:Option Nat) (v:V) (e:Ca):Ca:=@Option.rec Nat (fun _=>V→Ca→Ca) (fun _ e=>e) (fun d v e=>⟨Nat.lor e.1 (Nat.shiftLeft 1 d),(d,v)::e.2⟩) d v e
theorem Kf (M n:Nat):OC M n=M.testBit n:=by
 have h1:(M >>> n)&&&1=(M >>> n) % 2:=Nat.and_one_is_mod _;have h2:OC M n=Nat.beq ((M >>> n)&&&1) 1:=rfl;rw[h2,h1,Nat.testBit_eq_decide_div_mod_eq,Nat.shiftRight_eq_div_pow];cases h:decide (M / 2 ^ n % 2=1)with
 | true=>rw[of_decide_eq_true h];rfl
 | false=>
   have:=of_decide_eq_false h;cases hb:Nat.beq (M / 2 ^ n % 2) 1 with
   | false=>rfl
   | true=>exact absurd (TT hb) this
theorem PD (M d n:Nat):OC (Nat.lor M (Nat.shiftLeft 1 d)) n=(OC M n||Nat.beq d n):=by
 rw[Kf,Kf];show(M|||1 <<< d).testBit n=_;rw[Nat.testBit_or,Nat.one_shiftLeft,Nat.testBit_two_pow];congr 1;cases hb:Nat.beq d n with
 | true=>simp[TT hb]
 | false=>simpa using Nat.ne_of_beq_eq_false hb
theorem I9.push {e:Ca} {env:Env} (he:I9 e env) (d:Option Nat) (v:V):I9 (NP d v e) (put d v env):=by
 cases d with
 | none=>exact he
 | some d=>
   intro n;show(bif OC (Nat.lor e.1 (Nat.shiftLeft 1 d)) n then(bif Nat.beq d n then some v else get n e.2)else none)=bif Nat.beq d n then some v else get n env;rw[PD,←he n,SA];cases Nat.beq d n<;>cases OC e.1 n<;>rfl
def ah (ops:List AU) (cf:CF) (cv:CV) (cp:CP) (env:Ca) (s:St):An:=@List.rec AU (fun _=>CF→CV→CP→Ca→St→An) (fun _ _ _ env s=>some (.normal,env,s))
 (fun o _ ih cf cv cp env s=>Vu o.3 o.2 cf cv cp env s (fun v s=>V0 v fun v=>ih cf cv cp (NP o.1 v env) s) (fun v s=>some (.By v,env,s))) ops cf cv cp env s
def Gt:An→Rs→Prop
 | some (x,e,s),some (x',env,s')=>x=x'∧s=s'∧I9 e env
 | none,none=>True
 | _,_=>False
theorem Xv (cf:CF) (cv:CV) (cp:CP): ∀(ops:List AU) {e:Ca} {env:Env} (s:St),I9 e env→Gt (ah ops cf cv cp e s) (Tl cf cv cp ops env s)
 | [],e,env,s,he=>⟨rfl,rfl,he⟩
 | o ::r,e,env,s,he=>by
   show Gt (Vu o.3 o.2 cf cv cp e s (fun v s=>V0 v fun v=>ah r cf cv cp (NP o.1 v e) s) (fun v s=>some (.By v,e,s))) _;rw[Sl he o.1];show Gt (fin (I4 cf cv cp o env s) _ _) _;simp only[Tl];cases I4 cf cv cp o env s with
   | none=>trivial
   | some p=>
     obtain⟨x,s'⟩:=p;cases x with
     | By v=>exact⟨rfl,rfl,he⟩
     | ret v=>
       show Gt (V0 v fun v=>ah r cf cv cp (NP o.1 v e) s') (IN v _);rw[YD,H5];exact Xv cf cv cp r s' (he.push o.1 v)
def y2 (re:List AU) (cf:CF) (cv:CV) (cp:CP) (e:Ca) (s:St) (K:An):An:=@List.rec AU (fun _=>CF→CV→CP→Ca→St→An→An) (fun _ _ _ _ _ K=>K)
 (fun o _ ih cf cv cp e s K=>Vu o.3 o.2 cf cv cp e s (fun u _=>@Option.rec Nat (fun _=>An) (ih cf cv cp e s K) (fun d=>B8 (.t d) e fun w=>@Bool.rec (fun _=>An) none (ih cf cv cp e s K) (Ey u w)) o.1) (fun _ _=>none)) re cf cv cp e s K
theorem ba (cf:CF) (cv:CV) (cp:CP) {e:Ca} {env:Env} (he:I9 e env) (s:St) (K:An): ∀re:List AU,y2 re cf cv cp e s K=bif fC cf cv cp re env s then K else none
 | []=>rfl
 | o ::r=>by
   show Vu o.3 o.2 cf cv cp e s (fun u _=>@Option.rec Nat (fun _=>An) (y2 r cf cv cp e s K) (fun d=>B8 (.t d) e fun w=>@Bool.rec (fun _=>An) none (y2 r cf cv cp e s K) (Ey u w)) o.1) (fun _ _=>none)=_;rw[Sl he o.1,ba cf cv cp he s K r]
   have h':fC cf cv cp (o::r) env s=((match I4 cf cv cp o env s with
    | some (.ret u,_)=>match o.dst with
      | none=>true
      | some d=>match get d env with|some w=>Ey u w|none=>false
    | _=>false)&&fC cf cv cp r env s):=rfl
   rw[h'];show fin (I4 cf cv cp o env s) _ _=_;cases I4 cf cv cp o env s with
   | none=>rfl
   | some p=>
     obtain⟨x,s'⟩:=p;cases x with
     | By v=>rfl
     | ret u=>
       obtain⟨d,op,g⟩:=o;cases d with
       | none=>simp only[fin,I7]
       | some d=>
         simp only[fin];rw[BM he];simp only[Dn];cases get d env with
         | none=>rfl
         | some w=>
           simp only[ob];cases Ey u w<;>simp
def UD (ops:List Ce) (cf:CF) (cv:CV) (cp:CP) (e:Ca) (s:St):An:=@List.rec Ce (fun _=>CF→CV→CP→Ca→St→An) (fun _ _ _ e s=>some (.normal,e,s))
 (fun d _ ih cf cv cp e s=>Vu d.2.3 d.2.2 cf cv cp e s (fun v s=>V0 v fun v=>(fun e=>y2 d.4 cf cv cp e s (ih cf cv cp e s)) (NP d.2.1 v e)) (fun v s=>some (.By v,⟨0,[]⟩,s))) ops cf cv cp e s
theorem I9.nil {M:Nat}:I9 ⟨M,[]⟩ []:=fun n=>by
 show(bif OC M n then none else none)=none;cases OC M n<;>rfl
theorem Uy (cf:CF) (cv:CV) (cp:CP): ∀(ops:List Ce) {e:Ca} {env:Env} (s:St),I9 e env→Gt (UD ops cf cv cp e s) (Qm cf cv cp ops env s)
 | [],e,env,s,he=>⟨rfl,rfl,he⟩
 | d ::r,e,env,s,he=>by
   show Gt (Vu d.2.3 d.2.2 cf cv cp e s (fun v s=>V0 v fun v=>(fun e=>y2 d.4 cf cv cp e s (UD r cf cv cp e s)) (NP d.2.1 v e)) (fun v s=>some (.By v,⟨0,[]⟩,s))) _;rw[Sl he d.2.1];show Gt (fin (I4 cf cv cp d.o env s) _ _) _;simp only[Qm];cases I4 cf cv cp d.o env s with
   | none=>trivial
   | some p=>
     obtain⟨x,s'⟩:=p;cases x with
     | By v=>exact⟨rfl,rfl,I9.nil⟩
     | ret v=>
       show Gt (V0 v fun v=>y2 d.4 cf cv cp (NP d.2.1 v e) s' (UD r cf cv cp (NP d.2.1 v e) s')) (IN v _);rw[YD,H5,ba cf cv cp (he.push d.2.1 v)];show Gt (bif fC cf cv cp d.re (put d.o.dst v env) s' then _ else none) (bif fC cf cv cp d.re (put d.o.dst v env) s' then _ else none);cases fC cf cv cp d.re (put d.o.dst v env) s' with
       | false=>trivial
       | true=>exact Uy cf cv cp r s' (he.push d.2.1 v)
def Qj (l:List Nat):Nat:=@List.rec Nat (fun _=>Nat) 0 (fun n _ ih=>Nat.lor ih (Nat.shiftLeft 1 n)) l
def Mc (l:List Nat) (e:Ca):Ca:=⟨Nat.land e.1 (Qj l),e.2⟩
theorem UJ: ∀(l:List Nat) (n:Nat),OC (Qj l) n=l.any fun k=>Nat.beq k n
 | [],n=>by rw[Kf];exact Nat.zero_testBit n
 | k::r,n=>by
   show OC (Nat.lor (Qj r) (Nat.shiftLeft 1 k)) n=_;rw[PD,UJ r n,Qe,Bool.or_comm]
theorem MI: ∀(l:List Nat) (env:Env) (n:Nat),get n (prune l env)=bif l.any (fun k=>Nat.beq k n)then get n env else none
 | [],env,n=>rfl
 | k ::r,env,n=>by
   have ih:=MI r env n;simp only[prune,Qe];cases hk:Nat.beq k n with
   | true=>
     have:=TT hk;subst this;cases hg:get k env with
     | none=>
       simp only;rw[ih,hg];cases(r.any fun j=>Nat.beq j k)<;>rfl
     | some v=>simp[get,hk]
   | false=>
     simp only[Bool.false_or];cases hg:get k env with
     | none=>exact ih
     | some v=>
       simp only[get,hk,cond_false];exact ih
theorem I9.prune {e:Ca} {env:Env} (he:I9 e env) (l:List Nat):I9 (Mc l e) (Gl.prune l env):=fun n=>by
 show(bif OC (Nat.land e.1 (Qj l)) n then get n e.2 else none)=_
 have:OC (Nat.land e.1 (Qj l)) n=(OC e.1 n&&OC (Qj l) n):=by
  rw[Kf,Kf,Kf];exact Nat.testBit_and _ _ _
 rw[this,MI,←he n,SA,UJ];cases OC e.1 n<;>cases(l.any fun k=>Nat.beq k n)<;>rfl
def Tg (l:List Nat) (e:Ca) (K:Env→An):An:=@List.rec Nat (fun _=>Ca→(Env→An)→An) (fun _ K=>K [])
 (fun n _ ih e K=>@Bool.rec (fun _=>An) (ih e K) (@List.rec (Nat×V) (fun _=>Nat→An→(V→An)→An) (fun _ x _=>x) (fun p _ ih n x K=>@Bool.rec (fun _=>An) (ih n x K) (K p.2) (Nat.beq p.1 n)) e.2 n (ih e K) (fun v=>ih e fun r=>K ((n,v)::r))) (OC e.1 n)) l e K
theorem gE (env:Env) (n:Nat) (x:An) (K:V→An): @List.rec (Nat×V) (fun _=>Nat→An→(V→An)→An) (fun _ x _=>x) (fun p _ ih n x K=>@Bool.rec (fun _=>An) (ih n x K) (K p.2) (Nat.beq p.1 n)) env n x K=match get n env with|some v=>K v|none=>x:=by
 induction env with
 | nil=>rfl
 | cons p r ih=>
   obtain⟨j,v⟩:=p;show @Bool.rec (fun _=>An) _ (K v) (Nat.beq j n)=match(bif Nat.beq j n then some v else get n r)with|some v=>K v|none=>x
   cases Nat.beq j n
   ·exact ih
   ·rfl
theorem OP {e:Ca} {env:Env} (he:I9 e env): ∀(l:List Nat) (K:Env→An),Tg l e K=K (Gl.prune l env)
 | [],K=>rfl
 | n ::r,K=>by
   show @Bool.rec (fun _=>An) (Tg r e K) (@List.rec (Nat×V) (fun _=>Nat→An→(V→An)→An) (fun _ x _=>x) (fun p _ ih n x K=>@Bool.rec (fun _=>An) (ih n x K) (K p.2) (Nat.beq p.1 n)) e.2 n (Tg r e K) (fun v=>Tg r e fun r=>K ((n,v)::r))) (OC e.1 n)=_;rw[gE,OP he r];simp only[OP he r,Gl.prune];rw[←he n,SA];cases OC e.1 n with
   | false=>rfl
   | true=>
     simp only[cond_true];cases get n e.2<;>rfl
def Ir (env:Env):Nat:=@List.rec (Nat×V) (fun _=>Nat) 0 (fun p _ ih=>Nat.lor ih (Nat.shiftLeft 1 p.1)) env
theorem Qt: ∀(env:Env) (n:Nat),OC (Ir env) n=(get n env).isSome
 | [],n=>by rw[Kf];exact Nat.zero_testBit n
 | (k,v)::r,n=>by
   show OC (Nat.lor (Ir r) (Nat.shiftLeft 1 k)) n=_;rw[PD,Qt r n];simp only[get];cases Nat.beq k n<;>simp
theorem I9.of (env:Env):I9 ⟨Ir env,env⟩ env:=fun n=>by
 show(bif OC (Ir env) n then get n env else none)=_;rw[Qt];cases get n env<;>rfl
abbrev IH:=AI→Ca→St→An
def Qg (r:An) (K:Ca→St→An):An:=@Option.rec (Ah×Ca×St) (fun _=>(Ca→St→An)→An) (fun _=>none) (fun p K=>@Ah.rec (fun _=>Ca→St→(Ah×Ca×St)→(Ca→St→An)→An) (fun env s _ K=>K env s) (fun _ _ _ p _=>some p) (fun _ _ p _=>some p) (fun _ _ _ p _=>some p) p.1 p.2.1 p.2.2 p K) r K
def AAm (r:Rs) (K':Env→St→Rs):Rs:=match r with|some (.normal,env,s)=>K' env s|r=>r
theorem Mt {r:An} {r':Rs} (h:Gt r r') {K:Ca→St→An} {K':Env→St→Rs} (U: ∀e env s,I9 e env→Gt (K e s) (K' env s)):Gt (Qg r K) (AAm r' K'):=by
 cases r with
 | none=>cases r' with|none=>trivial|some p=>exact h.elim
 | some p=>
   cases r' with
   | none=>exact h.elim
   | some p'=>
     obtain⟨x,e,s⟩:=p;obtain⟨x',env,s'⟩:=p';obtain⟨rfl,rfl,he⟩:=h;cases x with
     | normal=>exact U e env s he
     | exit id=>exact⟨rfl,rfl,he⟩
     | ret=>exact⟨rfl,rfl,he⟩
     | By v=>exact⟨rfl,rfl,he⟩
def Om (s:St) (e:Ca):List RS→Option (List V)
 | []=>some []
 | .t n::r=>ob (SA e n) fun v=>ob (Om s e r) fun vs=>some (v::vs)
 | .c n g::r=>ob (SA e n) fun a=>ob (NU s g a) fun v=>ob (Om s e r) fun vs=>some (v::vs)
def XZ (AK:List RS) (r:An):Option (R×St):=
 match r with
 | some (.normal,env,s)=>ob (Om s env AK) fun vs=>some (.ret (Ex vs),s)
 | some (.ret,env,s)=>ob (Om s env AK) fun vs=>some (.ret (Ex vs),s)
 | some (.By v,_,s)=>some (.By v,s)
 | _=>none
def T7 (tab:J3) (ih:IH) (g:FuncId) (cap:List V) (m:Option V) (AK:List RS) (env:Ca) (s:St):Option (R×St):=
 match tab g with
 | some (.y3 n k ops ac l)=>bif Nat.ble cap.length n then
  match ih (.seq l (.Ak ops) ac) ⟨Ir (put (some k) (m.getD .Du) (A8 0 cap)),put (some k) (m.getD .Du) (A8 0 cap)⟩ s with
  | some (.normal,_,s')=>ob (Om s' env AK) fun vs=>some (.ret (Ex vs),s')
  | some (.ret,_,s')=>ob (Om s' env AK) fun vs=>some (.ret (Ex vs),s')
  | _=>none
   else none
 | some (.pld n ac)=>match m with
   | some _=>none
   | none=>bif Nat.ble cap.length n then
     match ih ac ⟨Ir (A8 0 cap),A8 0 cap⟩ s with
     | some (.normal,_,s')=>ob (Om s' env AK) fun vs=>some (.ret (Ex vs),s')
     | some (.ret,_,s')=>ob (Om s' env AK) fun vs=>some (.ret (Ex vs),s')
     | _=>none
   else none
 | _=>none
def Sc (tab:J3) (ih:IH) (f:FuncId) (vs:List V) (s:St):Option (R×St):=
 match tab f with
 | some (.fn n ac AK)=>bif Nat.ble vs.length n then XZ AK (ih ac ⟨Ir (A8 0 vs),A8 0 vs⟩ s)else none
 | some (.y7 n aA ops x aC AK l1 l2)=>bif Nat.ble vs.length n then
  match ih (.seq l1 aA (.Ak ops)) ⟨Ir (A8 0 vs),A8 0 vs⟩ s with
  | some (.normal,env,s1)=>match(match x with| .t n=>SA env n| .c v=>bif Ax v then some v else none)with
    | some (.f (.func g) [] cap)=>match ih aC (Mc l2 env) s1 with
      | some (.normal,env2,s2)=>T7 tab ih g cap none AK env2 s2
      | some (.ret,env2,s2)=>T7 tab ih g cap none AK env2 s2
      | some (.By v,env2,s2)=>T7 tab ih g cap (some v) AK env2 s2
      | _=>none
    | _=>none
  | _=>none
   else none
 | some (.fI n ac AK)=>bif Nat.ble vs.length n then AAM (XZ AK (ih ac ⟨Ir (A8 0 vs),A8 0 vs⟩ s))else none
 | some (.Vx c)=>c vs s
 | _=>none
def Fe (tab:J3) (memo:DV) (ih:IH):CF:=fun f vs s=>
 match memo f with
 | []=>Sc tab ih f vs s
 | m::r=>match T5 vs (m::r)with
   | some v=>some (.ret v,s)
   | none=>Sc tab ih f vs s
def Jl (tab:J3) (memo:DV) (ih:IH):CV:=fun x vs s=>
 match x with
 | .f (.func f) first cap=>Fe tab memo ih f (first++vs++cap) s
 | .f (.yield L) [] []=>match s.t.get L with
   | some (.loop .ready env ps a b)=>bif Nat.beq vs.length ps.length then
    Tr.put none BO s.t L fun t=>match ih a ⟨Ir (E7 ps vs env),E7 ps vs env⟩ ⟨s.nx,t⟩with
    | some (.normal,env1,s1)=>match ih b env1 s1 with
      | some (.normal,_,s2)=>Tr.put (some (.loop .ready env ps a b)) BO s2.t L fun t=>some (.ret (.b true),⟨s2.nx,t⟩)
      | some (.ret,_,s2)=>Tr.put (some (.loop .ret env ps a b)) BO s2.t L fun t=>some (.ret (.b false),⟨s2.nx,t⟩)
      | some (.exit id,_,s2)=>Tr.put (some (.loop (.exit id) env ps a b)) BO s2.t L fun t=>some (.ret (.b false),⟨s2.nx,t⟩)
      | some (.By v,_,s2)=>some (.By v,s2)
      | none=>none
    | _=>none
     else none
   | _=>none
 | _=>none
def Ks (tab:J3) (memo:DV) (ih:IH):CP:=fun f vs=>
 bif BX vs then match Fe tab memo ih f vs ⟨0,.leaf⟩with
  | some (.ret v,s)=>match I6 s Tj v with
    | some u=>bif Ax u then some u else none
    | none=>none
  | _=>none
 else none
abbrev SK:=J3→DV→IH→Ca→St→An
def bY (c : AI):SK:=@AI.rec (fun _=>SK)
 (fun _ _ _ env s=>some (.normal,env,s))
 (fun ops tab memo ih env s=>ah ops (Fe tab memo ih) (Jl tab memo ih) (Ks tab memo ih) env s)
 (fun l ops tab memo ih env s=>Qg (UD ops (Fe tab memo ih) (Jl tab memo ih) (Ks tab memo ih) env s) fun env s=>some (.normal,Mc l env,s))
 (fun l a b _ _ _ _ ih env s=>Qg (ih a env s) fun env s=>ih b (Mc l env) s)
 (fun c a b _ _ _ _ ih env s=>B8 c env fun v=>mc v fun t=>@Bool.rec (fun _=>An) (ih b env s) (ih a env s) t)
 (fun id a _ tab memo ih env s=>match ih a env s with
  | some (.exit id',env',s')=>bif Nat.beq id' id then some (.normal,env',s')else some (.exit id',env',s')
  | r=>r)
 (fun l a _ _ _ ih env s=>Tg l env fun E=>Qg (ih a ⟨Ir E,E⟩ s) fun env s=>ih (.loop l a) env s)
 (fun id _ _ _ env s=>some (.exit id,env,s))
 (fun _ _ _ env s=>some (.ret,env,s))
 (fun a _ _ _ ih env s=>ih a env s)
 (fun l g ps a b _ _ tab memo ih env s=>B8 g env fun v=>match v with
  | .f (.func gf) [] cap=>Tg l env fun E=>s.new (.loop .ready E ps a b) fun i s1=>
   match Fe tab memo ih gf (.f (.yield i) [] []::cap) s1 with
   | some (.ret _,s2)=>match s2.t.get i with
     | some (.loop st _ _ _ _)=>Tr.put none BO s2.t i fun t=>some ((match st with| .ready=> .normal| .ret=> .ret| .exit id=> .exit id),env,⟨s2.nx,t⟩)
     | _=>none
   | some (.By v,s2)=>match s2.t.get i with
     | some _=>Tr.put none BO s2.t i fun t=>some (.By v,env,⟨s2.nx,t⟩)
     | none=>none
   | none=>none
  | _=>none) c
def runK (tab:J3) (memo:DV) (n:Nat):IH:=@Nat.rec (fun _=>IH) (fun _ _ _=>none) (fun _ ih c env s=>bY c tab memo ih env s) n
def V6 (ihm:IH) (ih:AI→Env→St→Rs):Prop:= ∀c {e env} s,I9 e env→Gt (ihm c e s) (ih c env s)
theorem Li {s:St} {e:Ca} {env:Env} (he:I9 e env): ∀l:List RS,Om s e l=XN s env l
 | []=>rfl
 | .t n::r=>by simp only[Om,XN,he n,Li he r]
 | .c n g::r=>by simp only[Om,XN,he n,Li he r]
theorem Uw {AK:List RS} {r:An} {r':Rs} (h:Gt r r'):XZ AK r=Yx AK r':=by
 cases r with
 | none=>cases r' with|none=>rfl|some p=>exact h.elim
 | some p=>
   cases r' with
   | none=>exact h.elim
   | some p'=>
     obtain⟨x,e,s⟩:=p;obtain⟨x',env,s'⟩:=p';obtain⟨rfl,rfl,he⟩:=h;cases x<;>first|rfl|simp only[XZ,Yx,Li he]
theorem dy {tab:J3} {ihm:IH} {ih:AI→Env→St→Rs} (hi:V6 ihm ih) {g:FuncId} {cap:List V} {m:Option V} {AK:List RS} {e:Ca} {env:Env} (he:I9 e env) (s:St):T7 tab ihm g cap m AK e s=V1 tab ih g cap m AK env s:=by
 unfold T7 V1;cases tab g with
 | none=>rfl
 | some fs =>
   cases fs<;>first|rfl|skip
   ·rename_i n k ops ac l
    simp only;have:=hi (.seq l (.Ak ops) ac) s (I9.of (put (some k) (m.getD .Du) (A8 0 cap)))
    revert this
    cases ihm (.seq l (.Ak ops) ac) _ s with
    | none=>cases ih (.seq l (.Ak ops) ac) _ s with|none=>intro _;rfl|some p=>intro h;exact h.elim
    | some p=>
      cases ih (.seq l (.Ak ops) ac) _ s with
      | none=>intro h;exact h.elim
      | some p'=>
        obtain⟨x,e1,s1⟩:=p;obtain⟨x',env1,s1'⟩:=p';rintro⟨rfl,rfl,he1⟩;cases x<;>simp only[Li he]
   ·rename_i n ac
    cases m with
    | some v=>rfl
    | none=>
      simp only;have:=hi ac s (I9.of (A8 0 cap))
      revert this
      cases ihm ac _ s with
      | none=>cases ih ac _ s with|none=>intro _;rfl|some p=>intro h;exact h.elim
      | some p=>
        cases ih ac _ s with
        | none=>intro h;exact h.elim
        | some p'=>
          obtain⟨x,e1,s1⟩:=p;obtain⟨x',env1,s1'⟩:=p';rintro⟨rfl,rfl,he1⟩;cases x<;>simp only[Li he]
theorem Z9 {tab : J3} {ihm:IH} {ih:AI→Env→St→Rs} (hi:V6 ihm ih) (f:FuncId) (vs:List V) (s:St):Sc tab ihm f vs s=Qn tab ih f vs s:=by
 unfold Sc Qn;cases tab f with
 | none=>rfl
 | some fs =>
   cases fs with
   | y3 n k ops ac l=>rfl
   | Vx c=>rfl
   | pld n ac=>rfl
   | fn n ac AK=>simp only;rw[Uw (hi ac s (I9.of (A8 0 vs)))]
   | fI n ac AK=>simp only;rw[Uw (hi ac s (I9.of (A8 0 vs)))]
   | y7 n aA ops x aC AK l1 l2=>
     simp only;have:=hi (.seq l1 aA (.Ak ops)) s (I9.of (A8 0 vs))
     revert this
     cases ihm (.seq l1 aA (.Ak ops)) _ s with
     | none=>cases ih (.seq l1 aA (.Ak ops)) _ s with|none=>intro _;rfl|some p=>intro h;exact h.elim
     | some p=>
       cases ih (.seq l1 aA (.Ak ops)) _ s with
       | none=>intro h;exact h.elim
       | some p'=>
         obtain⟨x1,e1,s1⟩:=p;obtain⟨x1',env1,s1'⟩:=p';rintro⟨rfl,rfl,he1⟩;cases x1<;>first|rfl|skip
         simp only;have hx:(match x with| .t n=>SA e1 n| .c v=>bif Ax v then some v else none)=Dn env1 x:=by cases x<;>first|exact he1 _|rfl
         rw[hx];cases Dn env1 x with
         | none=>rfl
         | some v=>
           cases v<;>first|rfl|skip
           rename_i fn first cap
           cases fn<;>first|rfl|skip
           cases first<;>first|rfl|skip
           simp only;have:=hi aC s1 (he1.prune l2)
           revert this
           cases ihm aC (Mc l2 e1) s1 with
           | none=>cases ih aC (Gl.prune l2 env1) s1 with|none=>intro _;rfl|some p=>intro h;exact h.elim
           | some p=>
             cases ih aC (Gl.prune l2 env1) s1 with
             | none=>intro h;exact h.elim
             | some p'=>
               obtain⟨x2,e2,s2⟩:=p;obtain⟨x2',env2,s2'⟩:=p';rintro⟨rfl,rfl,he2⟩;cases x2<;>simp only[dy hi he2]
theorem Gn {tab:J3} {memo:DV} {ihm:IH} {ih:AI→Env→St→Rs} (hi:V6 ihm ih):Fe tab memo ihm=HS tab memo ih:=by
 funext f vs s;unfold Fe HS;simp only[Z9 hi];rfl
theorem QC {tab:J3} {memo:DV} {ihm:IH} {ih:AI→Env→St→Rs} (hi:V6 ihm ih):Jl tab memo ihm=Mm tab memo ih:=by
 funext x vs s;unfold Jl Mm;rw[Gn hi];cases x<;>first|rfl|skip
 rename_i fn first cap
 cases fn<;>first|rfl|skip
 cases first<;>first|rfl|skip
 cases cap<;>first|rfl|skip
 rename_i L;simp only;cases s.t.get L with
 | none=>rfl
 | some o=>
   cases o<;>first|rfl|skip
   rename_i st env ps a b;cases st<;>first|rfl|skip
   simp only;congr 2;funext t;have:=hi a ⟨s.nx,t⟩ (I9.of (E7 ps vs env))
   revert this
   cases ihm a _ ⟨s.nx,t⟩with
   | none=>cases ih a _ ⟨s.nx,t⟩with|none=>intro _;rfl|some p=>intro h;exact h.elim
   | some p=>
     cases ih a _ ⟨s.nx,t⟩with
     | none=>intro h;exact h.elim
     | some p'=>
       obtain⟨x1,e1,s1⟩:=p;obtain⟨x1',env1,s1'⟩:=p';rintro⟨rfl,rfl,he1⟩;cases x1<;>first|rfl|skip
       simp only;have:=hi b s1 he1
       revert this
       cases ihm b e1 s1 with
       | none=>cases ih b env1 s1 with|none=>intro _;rfl|some p=>intro h;exact h.elim
       | some p=>
         cases ih b env1 s1 with
         | none=>intro h;exact h.elim
         | some p'=>
           obtain⟨x2,e2,s2⟩:=p;obtain⟨x2',env2,s2'⟩:=p';rintro⟨rfl,rfl,he2⟩;cases x2<;>rfl
theorem NH {tab:J3} {memo:DV} {ihm:IH} {ih:AI→Env→St→Rs} (hi:V6 ihm ih):Ks tab memo ihm=O1 tab memo ih:=by
 funext f vs;unfold Ks O1;rw[Gn hi];rfl
theorem dI {tab:J3} {memo:DV} {ihm:IH} {ih:AI→Env→St→Rs} (hi:V6 ihm ih) (c:AI) {e:Ca} {env:Env} (s:St) (he:I9 e env):Gt (bY c tab memo ihm e s) (Iu tab memo ih c env s):=by
 cases c with
 | skip=>exact⟨rfl,rfl,he⟩
 | ret=>exact⟨rfl,rfl,he⟩
 | exit id=>exact⟨rfl,rfl,he⟩
 | scope a=>exact hi a s he
 | Ak ops=>
   show Gt (ah ops (Fe tab memo ihm) (Jl tab memo ihm) (Ks tab memo ihm) e s) _;rw[Gn hi,QC hi,NH hi];exact Xv _ _ _ ops s he
 | A5 l ops=>
   show Gt (Qg (UD ops (Fe tab memo ihm) (Jl tab memo ihm) (Ks tab memo ihm) e s) fun env s=>some (.normal,Mc l env,s)) _;rw[Gn hi,QC hi,NH hi];exact Mt (K':=fun env s=>some (.normal,Gl.prune l env,s)) (Uy _ _ _ ops s he) fun _ _ s he=>⟨rfl,rfl,he.prune l⟩
 | seq l a b=>exact Mt (K':=fun env s=>ih b (Gl.prune l env) s) (hi a s he) fun _ _ s he=>hi b s (he.prune l)
 | cond c a b=>
   show Gt (B8 c e fun v=>mc v fun t=>@Bool.rec (fun _=>An) (ihm b e s) (ihm a e s) t) _;rw[BM he];simp only[Iu];cases Dn env c with
   | none=>trivial
   | some v=>
     cases v<;>first|trivial|skip
     rename_i t;cases t
     ·exact hi b s he
     ·exact hi a s he
 | block id a=>
   have:=hi a s he;show Gt (match ihm a e s with|some (.exit id',env',s')=>bif Nat.beq id' id then some (.normal,env',s')else some (.exit id',env',s')|r=>r) (match ih a env s with|some (.exit id',env',s')=>bif Nat.beq id' id then some (.normal,env',s')else some (.exit id',env',s')|r=>r)
   revert this
   cases ihm a e s with
   | none=>cases ih a env s with|none=>intro _;trivial|some p=>intro h;exact h.elim
   | some p=>
     cases ih a env s with
     | none=>intro h;exact h.elim
     | some p'=>
       obtain⟨x1,e1,s1⟩:=p;obtain⟨x1',env1,s1'⟩:=p';rintro⟨rfl,rfl,he1⟩;cases x1 with
       | exit id'=>
         simp only;cases Nat.beq id' id<;>exact⟨rfl,rfl,he1⟩
       | normal=>exact⟨rfl,rfl,he1⟩
       | ret=>exact⟨rfl,rfl,he1⟩
       | By v=>exact⟨rfl,rfl,he1⟩
 | loop l a=>
   show Gt (Tg l e fun E=>Qg (ihm a ⟨Ir E,E⟩ s) fun env s=>ihm (.loop l a) env s) _;rw[OP he];exact Mt (K':=fun env s=>ih (.loop l a) env s) (hi a s (I9.of _)) fun _ _ s he=>hi (.loop l a) s he
 | C7 l g ps a b=>
   show Gt (B8 g e fun v=>match v with
   | .f (.func gf) [] cap=>Tg l e fun E=>s.new (.loop .ready E ps a b) fun i s1=>
    match Fe tab memo ihm gf (.f (.yield i) [] []::cap) s1 with
    | some (.ret _,s2)=>match s2.t.get i with
      | some (.loop st _ _ _ _)=>Tr.put none BO s2.t i fun t=>some ((match st with| .ready=> .normal| .ret=> .ret| .exit id=> .exit id),e,⟨s2.nx,t⟩)
      | _=>none
    | some (.By v,s2)=>match s2.t.get i with
      | some _=>Tr.put none BO s2.t i fun t=>some (.By v,e,⟨s2.nx,t⟩)
      | none=>none
    | none=>none
   | _=>none) _
   rw[BM he,Gn hi];simp only[Iu];cases Dn env g with
   | none=>trivial
   | some v=>
     cases v<;>first|trivial|skip
     rename_i fn first cap
     cases fn<;>first|trivial|skip
     cases first<;>first|trivial|skip
     rename_i gf;simp only[ob];rw[OP he]
     have hnew: ∀ {β γ:Type} (o:EO) (f:Nat→St→Option β) (g:Nat→St→Option γ) (Rl:Option β→Option γ→Prop),Rl none none→(∀i s,Rl (f i s) (g i s))→Rl (s.new o f) (s.new o g):=fun {β γ} o f g Rl h0 h1=>by
      obtain⟨n,t⟩:=s;cases n with
      | zero=>simp only[St.new];rw[Tr.put_eq,Tr.put_eq];exact h1 _ _
      | succ n=>
        simp only[St.new];rw[Tr.put_eq,Tr.put_eq];cases Nat.ble (n+1) MU
        ·exact h0
        ·exact h1 _ _
     refine hnew _ _ _ Gt trivial fun i s1=>?_
     cases HS tab memo ih gf (.f (.yield i) [] []::cap) s1 with
     | none=>trivial
     | some p=>
       obtain⟨x,s2⟩:=p;cases x with
       | ret v=>
         simp only;cases s2.t.get i with
         | none=>trivial
         | some o=>
           cases o<;>first|trivial|skip
           simp only;rw[Tr.put_eq,Tr.put_eq];exact⟨rfl,rfl,he⟩
       | By v=>
         simp only;cases s2.t.get i with
         | none=>trivial
         | some o=>
           simp only;rw[Tr.put_eq,Tr.put_eq];exact⟨rfl,rfl,he⟩
theorem Xk (tab:J3) (memo:DV): ∀n:Nat,V6 (runK tab memo n) (run tab memo n)
 | 0=>fun _ _ _ _ _=>trivial
 | n+1=>fun c _ _ s he=>dI (Xk tab memo n) c s he
def Fi (tab:J3) (memo:DV) (n:Nat) (f:FuncId) (vs:List V) (v:V):Bool:=
 match Ks tab memo (runK tab memo n) f vs with
 | some u=>Ey u v
 | none=>false
theorem Bc {tab:J3} (ht:LX P tab) {memo:DV} (hm:DJ P memo) {n:Nat} {f:FuncId} {vs:List V} {v:V} (h:Fi tab memo n f vs v=true):BX vs=true∧Ax v=true∧Pure P f vs v:=by
 unfold Fi at h;rw[NH (Xk tab memo n)]at h;exact VL ht hm h
def F3 (t:Tr BF):J3:=fun f=>Yv t f
theorem CE {t:Tr BF} (h:G1 (fun i=>AX P i) id t):LX P (F3 t):=fun f fs e=>h f fs ((S5 t f).symm.trans e)
def DA (m:DV) (f:FuncId) (a:List V) (v:V):DV:=fun g=>@Bool.rec (fun _=>List (List V×V)) (m g) ((a,v)::m g) (Nat.beq f g)
theorem BA {m:DV} (h:DJ P m) {f:FuncId} {a:List V} {v:V} (h1:BX a=true∧Ax v=true∧Pure P f a v):DJ P (DA m f a v):=fun g e he=>by
 unfold DA at he;cases hb:Nat.beq f g with
 | false=>rw[hb]at he;exact h g e he
 | true=>
   rw[hb]at he;have:=C9 hb;subst this;rcases IC.1 he with rfl|he
   ·exact h1
   ·exact h f e he
end Go.Gl
namespace Go.Gl
variable {P:Program}
abbrev OW (sz b:Nat):AI:=(.seq [0] (.Ak [⟨(some 2),.mv (.c (.l [] true)),none⟩])
 (.seq [0] (.seq [0,4] (.Ak [⟨(some 3),.mv (.t 0),none⟩,
  ⟨(some 4),.Vo 1 false (.t 3),none⟩])
 (.cond (.t 4)
 (.seq [2] (.Ak [⟨(some 2),.mv (.c (.l [] true)),none⟩])
 .ret)
 .skip))
 (.seq [2] (.Ak [⟨(some 5),.AY 1 0 [] [],none⟩,
  ⟨(some 6),.mv (.t 0),none⟩,
  ⟨(some 7),.append sz b (.t 5) (.t 6),none⟩,
  ⟨(some 2),.mv (.t 7),none⟩])
 .ret)))
theorem Za {q:Nat} {neg:Bool} {x:V} {k k':V→Prop} (h:JE q neg x k) (hm: ∀t,k (.b t)→k' (.b t)):JE q neg x k':=by
 unfold JE at *;split at h<;>first|exact hm _ h|exact⟨fun e t=>hm _ (h.1 e t),fun e=>hm _ (h.2 e)⟩|exact h.elim
theorem NL {v:V} {σ:AH} {Q:R→AH→Prop} (h:Q (.ret v) σ):BQ σ v Q:=⟨v,σ,fun _ _ h=>h,.refl _,h⟩
theorem c7 {ρ:Ren} {f:Bool}:RV ρ (.l [] f) (.l [] f):=by simp only[RV];exact⟨[],rfl,rfl⟩
section
attribute [local irreducible] Be BQ BH Ae AR BC Af Ag AT A7 AZ Ad Bk Bx Au Bs BI W JE
theorem mH {sz b:Nat} {v:V} {σ:AH} {Q:R→AH→Prop} (h1:JE 1 false v fun t=>(t= .b true→BQ σ (.l [] true) Q)∧(t= .b false→AR b σ sz (.l [] true) v fun v' σ'=>BQ σ' v' Q)) :
 W P (OW sz b) (Tw [.t 2] Q) [(0,v)] σ:=by
 try(conv=>whnf)
 repeat((first|refine⟨rfl,?_⟩|refine⟨nb,?_⟩|refine Ga ?_|refine IP ?_|refine G8 ?_|refine IW ?_|refine Bm ?_|refine D8 ?_|(refine Ao ?_;intro K U)|(refine AV ?_;intro I C G F)|(apply G;clear F C G I)|(refine F _ _ _ ?_;clear F C G I)|refine Bn ?_|refine Ct ?_|refine DI ?_|refine Bu ?_|refine BT ?_|refine Cs ?_|(refine Jo ?_;intro I C G F)|(refine F _ _ fun σ hsub=>?_;clear F C G I)|refine Hv ?_|refine Hw ?_|(apply U;clear U K)|(clear U K));try(conv=>whnf))
 refine Za h1 fun t ht=>?_
 try(conv=>whnf)
 repeat((first|refine⟨rfl,?_⟩|refine⟨nb,?_⟩|refine Ga ?_|refine IP ?_|refine G8 ?_|refine IW ?_|refine Bm ?_|refine D8 ?_|(refine Ao ?_;intro K U)|(refine AV ?_;intro I C G F)|(apply G;clear F C G I)|(refine F _ _ _ ?_;clear F C G I)|refine Bn ?_|refine Ct ?_|refine DI ?_|refine Bu ?_|refine BT ?_|refine Cs ?_|(refine Jo ?_;intro I C G F)|(refine F _ _ fun σ hsub=>?_;clear F C G I)|refine Hv ?_|refine Hw ?_|(apply U;clear U K)|(clear U K));try(conv=>whnf))
 refine⟨fun h=>?_,fun h=>?_⟩
 ·subst h
  try(conv=>whnf)
  repeat((first|refine⟨rfl,?_⟩|refine⟨nb,?_⟩|refine Ga ?_|refine IP ?_|refine G8 ?_|refine IW ?_|refine Bm ?_|refine D8 ?_|(refine Ao ?_;intro K U)|(refine AV ?_;intro I C G F)|(apply G;clear F C G I)|(refine F _ _ _ ?_;clear F C G I)|refine Bn ?_|refine Ct ?_|refine DI ?_|refine Bu ?_|refine BT ?_|refine Cs ?_|(refine Jo ?_;intro I C G F)|(refine F _ _ fun σ hsub=>?_;clear F C G I)|refine Hv ?_|refine Hw ?_|(apply U;clear U K)|(clear U K));try(conv=>whnf))
  exact ht.1 rfl
 ·subst h
  try(conv=>whnf)
  repeat((first|refine⟨rfl,?_⟩|refine⟨nb,?_⟩|refine Ga ?_|refine IP ?_|refine G8 ?_|refine IW ?_|refine Bm ?_|refine D8 ?_|(refine Ao ?_;intro K U)|(refine AV ?_;intro I C G F)|(apply G;clear F C G I)|(refine F _ _ _ ?_;clear F C G I)|refine Bn ?_|refine Ct ?_|refine DI ?_|refine Bu ?_|refine BT ?_|refine Cs ?_|(refine Jo ?_;intro I C G F)|(refine F _ _ fun σ hsub=>?_;clear F C G I)|refine Hv ?_|refine Hw ?_|(apply U;clear U K)|(clear U K));try(conv=>whnf))
  refine MG (ht.2 rfl) fun v' σ' hq=>?_
  try(conv=>whnf)
  repeat((first|refine⟨rfl,?_⟩|refine⟨nb,?_⟩|refine Ga ?_|refine IP ?_|refine G8 ?_|refine IW ?_|refine Bm ?_|refine D8 ?_|(refine Ao ?_;intro K U)|(refine AV ?_;intro I C G F)|(apply G;clear F C G I)|(refine F _ _ _ ?_;clear F C G I)|refine Bn ?_|refine Ct ?_|refine DI ?_|refine Bu ?_|refine BT ?_|refine Cs ?_|(refine Jo ?_;intro I C G F)|(refine F _ _ fun σ hsub=>?_;clear F C G I)|refine Hv ?_|refine Hw ?_|(apply U;clear U K)|(clear U K));try(conv=>whnf))
  exact hq
end
theorem U1 {f:FuncId} {n sz b:Nat} (h: ∀(args:List V) (σ:AH) (Q:R→AH→Prop),args.length≤n→T P (OW sz b) (Tw [.t 2] Q) (A8 0 args) σ→Be P f args σ Q) (hn:1≤n) (hb:b≤131072:=by decide):AX P f (.Vx (Sb sz)):=by
 intro vs s r s' hc ρ vs' σ hv hs Q hQ
 have main: ∀ {v v':V} {ys:List (List V)},vs= [v]→vs'= [v']→RV ρ v v'→Iv s sz v=some ys→(ys= []→r= .ret (.l [] true)∧s'=s)→
  (ys≠[]→(ys.all (fun e=>e.all CY)&&Nat.ble ys.length 1073741824)=true∧s.nx≤MU∧r= .ret (.sl s.nx ys.length 0)∧s'=⟨s.nx+1,Tr.set (some (.arr sz ys)) BO s.t s.nx⟩)→
  (∀k:V→Prop,(ys= []→ ∀t,k (.b t))→(ys≠[]→k (.b false))→JE 1 false v' k)→Be P f vs' σ Q:=fun {v v' ys} e1 e2 hr hy h0 h1 hk=>by
  subst e1;subst e2;refine h _ _ _ hn (mf (mH (hk _ (fun e t=>⟨fun _=>?_,fun _=>?_⟩) fun e=>⟨fun h=>(by cases h),fun _=>?_⟩)))
  ·obtain⟨rfl,rfl⟩:=h0 e
   exact NL (hQ ρ _ σ (.refl _) ⟨_,c7,rfl⟩ hs)
  ·obtain⟨rfl,rfl⟩:=h0 e
   refine Ht hs hy hr fun ys' hr'=>?_
   have:ys'= []:=by
    have:=hr'.len;rw[e]at this;exact aK.1 this
   subst this;exact⟨fun e he=>(by cases he),fun e he=>(by cases he),⟨Nat.zero_le _,by simp⟩,fun _=>NL (hQ ρ _ σ (.refl _) ⟨_,c7,rfl⟩ hs),fun h=>absurd rfl h⟩
  ·obtain⟨g1,g2,rfl,rfl⟩:=h1 e
   simp only[Bj]at g1;refine Ht hs hy hr fun ys' hr'=>?_
   have hl:=hr'.len;have hne:ys'≠[]:=fun e'=>e (by rw[e']at hl;exact aK.1 hl.symm)
   refine⟨L7 g1.1 hr',fun e he=>(by cases he),?_,fun e=>absurd e hne,fun _=>⟨rfl,fun n cap hn0 hc=>?_⟩⟩
   ·have:=SL (b:=b) (L:=ys.length) (by simp only[y5,Bj];exact⟨g1.2,Nat.ble_eq_true_of_le hb⟩)
    simp only[List.length_nil,HV];rw[hl];exact this
   ·obtain⟨ρ',q1,q2,q3⟩:=hs.new g2 hn0 cap (o:= .arr sz ys) (o':= .arr sz ys' cap) ⟨_,hr',rfl⟩
    refine NL (hQ ρ' _ _ q1 ?_ ?_)
    ·refine⟨_,?_,rfl⟩
     simp only[RV];exact⟨_,q2,by simp[hl]⟩
    ·simpa using q3
 have parts: ∀ {ys:List (List V)},(match some ys with
  | some []=>some (R.ret (V.l [] true),s)
  | some (y::ys)=>bif (y::ys).all (fun e=>e.all CY)&&Nat.ble (y::ys).length 1073741824 then s.new (.arr sz (y::ys)) fun i s'=>some (.ret (.sl i (y::ys).length 0),s')else none
  | none=>none)=some (r,s')→(ys= []→r= .ret (.l [] true)∧s'=s)∧
    (ys≠[]→(ys.all (fun e=>e.all CY)&&Nat.ble ys.length 1073741824)=true∧s.nx≤MU∧r= .ret (.sl s.nx ys.length 0)∧s'=⟨s.nx+1,Tr.set (some (.arr sz ys)) BO s.t s.nx⟩):=fun {ys} hc=>by
  cases ys with
  | nil=>cases hc;exact⟨fun _=>⟨rfl,rfl⟩,fun h=>absurd rfl h⟩
  | cons y ys=>
    obtain⟨h1,h2⟩:=AW hc;obtain⟨h3,h4⟩:=St.IM h2;cases h4;exact⟨fun h=>(by cases h),fun _=>⟨h1,h3,rfl,rfl⟩⟩
 unfold Sb at hc;split at hc
 ·rename_i es f
  obtain⟨v',l',k1,k2,rfl⟩:=hv;obtain rfl:l'= []:=k2;cases hy:Iv s sz (.l es f)with
  | none=>rw[hy]at hc;cases hc
  | some ys=>
    rw[hy]at hc;obtain⟨p1,p2⟩:=parts hc;refine main rfl rfl k1 hy p1 p2 fun k h0 h1=>?_
    simp only[RV]at k1;obtain⟨es',k3,rfl⟩:=k1;have hl:=(Fu.1 k3).len
    have he:ys=es:=by
     simp only[Iv]at hy;exact(Option.some.inj (AW hy).2).symm
    subst he;unfold JE;exact⟨fun e=>h0 (by rw[e]at hl;exact aK.1 hl.symm),fun e=>h1 fun e'=>e (by rw[e']at hl;exact aK.1 hl)⟩
 ·rename_i m len c
  obtain⟨v',l',k1,k2,rfl⟩:=hv;obtain rfl:l'= []:=k2;cases hy:Iv s sz (.sl m len c)with
  | none=>rw[hy]at hc;cases hc
  | some ys=>
    rw[hy]at hc;obtain⟨p1,p2⟩:=parts (ys:=ys) hc;refine main rfl rfl k1 hy p1 p2 fun k h0 h1=>?_
    simp only[RV]at k1;obtain⟨m',k3,rfl⟩:=k1;unfold JE;show k (.b false);by_cases e:ys= []
    ·exact h0 e false
    ·exact h1 e
 ·cases hc
end Go.Gl
namespace Go.Gl
open Go.Proofs
def unO (o:FN):FN:=match o with| .N4 x=> .box x| .KO f a=> .call f a| .Vl x=> .mv x|o=>o
def unR (r:AU):AU:=⟨r.1,unO r.2,r.3⟩
def unD (d:Ce):Ce:=⟨d.1,unR d.2,d.3,d.4⟩
def unB (c:AI):AI:=@AI.rec (fun _=>AI) .skip (fun ops=> .Ak (ops.map unR)) (fun l ops=> .A5 l (ops.map unD)) (fun l _ _ a b=> .seq l a b) (fun c _ _ a b=> .cond c a b) (fun i _ a=> .block i a) (fun l _ a=> .loop l a) (fun i=> .exit i) .ret (fun _ a=> .scope a) (fun l g ps _ _ a b=> .C7 l g ps a b) c
theorem kT {f k:Nat} {a:AI} {rs:List RS} {fn:Func} (hf:Tryz.prog.funcs[f]? =some fn) (hk:fn.ntmps=k:=by exact rfl) (hok:okF Tryz.prog f=true:=by kernel_rfl) (hb:fn.body.bind (res Tryz.prog fn.ntmps [] [])=some (erase a):=by kernel_rfl) (hr:Nx Tryz.prog fn.results.toList=some rs:=by kernel_rfl):AX Tryz.prog f (.fn k a rs):=fun _ _ _ hn h=>Fz hf hok hb hr (hk ▸ hn) h
theorem kTz {f k:Nat} {a:AI} {rs:List RS} {fn:Func} (hf:Tryz.prog.funcs[f]? =some fn) (hk:fn.ntmps=k:=by exact rfl) (hok:okF Tryz.prog f=true:=by kernel_rfl) (hb:fn.body.bind (res Tryz.prog fn.ntmps [] [])=some (erase a):=by kernel_rfl) (hr:Nx Tryz.prog fn.results.toList=some rs:=by kernel_rfl):AX Tryz.prog f (.fI k a rs):=fun _ _ _ hn h=>Fz hf hok hb hr (hk ▸ hn) h
end Go.Gl
