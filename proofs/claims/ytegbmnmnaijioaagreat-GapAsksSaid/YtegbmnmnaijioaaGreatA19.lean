import Derived.Test.YtegbmnmnaijioaaGreatProg
import Derived.KernelRfl
import Derived.Test.YtegbmnmnaijioaaGreatA6
import Derived.Test.YtegbmnmnaijioaaGreatA18
set_option linter.all false
set_option linter.defProp false
noncomputable section
namespace Go.Gl
variable {P:Program}
structure CO where
 M:Nat
 E:Env
abbrev An:=Option (Ae×CO×St)
def Kc {α β:Type} (c:Bool) (x:Option α) (g:α→Option β):ob (bif c then x else none) g=bif c then ob x g else none:=by cases c<;>rfl
def jw (env:Env) (n:Nat) (K:V→An):An:=@List.rec (Nat×V) (fun _=>Nat→(V→An)→An) (fun _ _=>none) (fun p _ ih n K=>@Bool.rec (fun _=>An) (ih n K) (K p.2) (Nat.beq p.1 n)) env n K
def lr (env:Env) (n:Nat) (K:V→An):jw env n K=ob (get n env) K:=by
 induction env with
 | nil=>rfl
 | cons p r ih=>
   obtain⟨j,v⟩:=p;show @Bool.rec (fun _=>An) (jw r n K) (K v) (Nat.beq j n)=ob (bif Nat.beq j n then some v else get n r) K;cases Nat.beq j n
   ·exact ih
   ·rfl
def Sk {α:Type} (cs:List α) (i:Nat) (K:α→An):An:=@List.rec α (fun _=>Nat→(α→An)→An) (fun _ _=>none) (fun v _ ih i K=>@Nat.rec (fun _=>An) (K v) (fun j _=>ih j K) i) cs i K
def LU {α:Type} (cs:List α): ∀(i:Nat) (K:α→An),Sk cs i K=ob cs[i]? K:=by
 induction cs with
 | nil=>intro i K;rfl
 | cons v r ih=>
   intro i K;cases i with
   | zero=>rfl
   | succ j=>exact ih j K
def F7 {α:Type} (cs:List α):Nat:=@List.rec α (fun _=>Nat) 0 (fun _ _ ih=>Nat.succ ih) cs
def FR {α:Type} (cs:List α):F7 cs=cs.length:=by
 induction cs with
 | nil=>rfl
 | cons v r ih=>show Nat.succ (F7 r)=_;rw[ih];rfl
def Uq {α:Type} (cs:List α) (n:Nat):List α:=@Nat.rec (fun _=>List α→List α) (fun cs=>cs) (fun _ ih cs=>@List.rec α (fun _=>(List α→List α)→List α) (fun _=>[]) (fun _ r _ ih=>ih r) cs ih) n cs
def Pd {α:Type}: ∀(n:Nat) (cs:List α),Uq cs n=cs.drop n
 | 0,cs=>rfl
 | n+1,[]=>rfl
 | n+1,v::r=>Pd n r
def YS {α:Type} (cs:List α) (n:Nat):List α:=@List.rec α (fun _=>Nat→List α) (fun _=>[]) (fun v _ ih n=>@Nat.rec (fun _=>List α) [] (fun j _=>v::ih j) n) cs n
def gQ {α:Type} (cs:List α): ∀n:Nat,YS cs n=cs.take n:=by
 induction cs with
 | nil=>intro n;cases n<;>rfl
 | cons v r ih=>
   intro n;cases n with
   | zero=>rfl
   | succ j=>show v::YS r j=_;rw[ih];rfl
def Wn {α:Type} (cs:List α) (n:Nat) (x:α):List α:=@List.rec α (fun _=>Nat→α→List α) (fun _ _=>[]) (fun v r ih n x=>@Nat.rec (fun _=>List α) (x::r) (fun j _=>v::ih j x) n) cs n x
def TR {α:Type} (cs:List α) (x:α): ∀n:Nat,Wn cs n x=cs.set n x:=by
 induction cs with
 | nil=>intro n;rfl
 | cons v r ih=>
   intro n;cases n with
   | zero=>rfl
   | succ j=>show v::Wn r j x=_;rw[ih];rfl
def pG {α:Type} (f:α→Bool) (cs:List α):Bool:=@List.rec α (fun _=>(α→Bool)→Bool) (fun _=>true) (fun v _ ih f=>@Bool.rec (fun _=>Bool) false (ih f) (f v)) cs f
def mq {α:Type} (f:α→Bool) (cs:List α):pG f cs=cs.all f:=by
 induction cs with
 | nil=>rfl
 | cons v r ih=>
   show @Bool.rec (fun _=>Bool) false (pG f r) (f v)=_;rw[NS,ih];cases f v<;>rfl
def fe (v:V) (K:V→An):An:=@V.rec (fun _=>V→(V→An)→An) (fun _=>Unit) (fun _=>Unit) (fun _ v K=>K v) (fun _ _ v K=>K v) (fun _ v K=>K v) (fun v K=>K v) (fun _ _ v K=>@Bool.rec (fun _=>An) none (K v) (BT v)) (fun _ _ v K=>@Bool.rec (fun _=>An) none (K v) (BT v)) (fun _ _ _ v K=>@Bool.rec (fun _=>An) none (K v) (BT v)) (fun _ _ _ v K=>@Bool.rec (fun _=>An) none (K v) (BT v)) (fun _ _ _ _ v K=>@Bool.rec (fun _=>An) none (K v) (BT v)) (fun _ _ _ _ v K=>@Bool.rec (fun _=>An) none (K v) (BT v)) (fun _ v K=>@Bool.rec (fun _=>An) none (K v) (BT v)) (fun v K=>K v) (fun _ _ _ _ _ v K=>@Bool.rec (fun _=>An) none (K v) (BT v)) (fun v K=>K v) (fun _ _ _ v K=>@Bool.rec (fun _=>An) none (K v) (BT v)) (fun v K=>K v) (fun _ _ v K=>@Bool.rec (fun _=>An) none (K v) (BT v)) (fun _ _ v K=>@Bool.rec (fun _=>An) none (K v) (BT v)) (fun v K=>@Bool.rec (fun _=>An) none (K v) (BT v)) () (fun _ _ _ _=>()) () (fun _ _ _ _=>()) v v K
def BW {α:Type} (c:Bool) (x y:α): @Bool.rec (fun _=>α) y x c=bif c then x else y:=by cases c<;>rfl
def cR (v:V) (K:V→An):fe v K=ob (bif BT v then some v else none) K:=by
 rw[Kc];cases v<;>first|rfl|exact BW _ _ _
def OE (M n:Nat):Bool:=Nat.beq (Nat.land (Nat.shiftRight M n) 1) 1
def Su (e:CO) (n:Nat):Option V:=bif OE e.1 n then get n e.2 else none
def Iw (e:CO) (env:Env):Prop:= ∀n,Su e n=get n env
def Bx (x:Bm) (e:CO) (K:V→An):An:=@Bm.rec (fun _=>CO→(V→An)→An) (fun n e K=>@Bool.rec (fun _=>An) none (jw e.2 n K) (OE e.1 n)) (fun v _ K=>fe v K) x e K
def BM {e:CO} {env:Env} (he:Iw e env) (x:Bm) (K:V→An):Bx x e K=ob (DU env x) K:=by
 cases x with
 | t n=>
   show @Bool.rec (fun _=>An) none (jw e.2 n K) (OE e.1 n)=ob (get n env) K;rw[←he n,Su,BW,Kc,lr]
 | c v=>exact cR v K
def K9 (l:List Bm) (env:CO) (K:List V→An):An:=@List.rec Bm (fun _=>CO→(List V→An)→An) (fun _ K=>K []) (fun x _ ih env K=>Bx x env fun v=>ih env fun vs=>K (v::vs)) l env K
def Bu {e:CO} {env:Env} (he:Iw e env): ∀(l:List Bm) (K:List V→An),K9 l e K=ob (N4 env l) K
 | [],K=>rfl
 | x ::r,K=>by
   show(Bx x e fun v=>K9 r e fun vs=>K (v::vs))=_;rw[BM he];simp only[N4];cases DU env x with
   | none=>rfl
   | some v=>
     simp only[ob];rw[Bu he r];cases N4 env r<;>rfl
def Wp (x:Option Bm) (e:CO) (K:Option V→An):An:=@Option.rec Bm (fun _=>CO→(Option V→An)→An) (fun _ K=>K none) (fun x e K=>Bx x e fun v=>K (some v)) x e K
def B1 {e:CO} {env:Env} (he:Iw e env) (x:Option Bm) (K:Option V→An):Wp x e K=ob (KT env x) K:=by
 cases x with
 | none=>rfl
 | some x=>
   show(Bx x e fun v=>K (some v))=_;rw[BM he];simp only[KT];cases DU env x<;>rfl
def ve (k:IntKind):Nat:=@IntKind.rec (fun _=>Nat) 0 1 2 3 4 5 6 7 k
def MZ (a b:IntKind):Bool:=Nat.beq (ve a) (ve b)
def mI (a b:IntKind):MZ a b=decide (a=b):=by cases a<;>cases b<;>rfl
def vt (a b:Int):Int:=@Int.rec (fun _=>Int→Int) (fun m b=>@Int.rec (fun _=>Nat→Int) (fun n m=>Int.ofNat (Nat.add m n)) (fun n m=>Int.ofNat m+Int.negSucc n) b m) (fun m b=>Int.negSucc m+b) a b
def m7 (a b:Int):vt a b=a+b:=by cases a<;>cases b<;>rfl
def vS (a b:Int):Int:=@Int.rec (fun _=>Int→Int) (fun m b=>@Int.rec (fun _=>Nat→Int) (fun n m=>@Bool.rec (fun _=>Int) (Int.negSucc (Nat.sub n (Nat.succ m))) (Int.ofNat (Nat.sub m n)) (Nat.ble n m)) (fun n m=>Int.ofNat m - Int.negSucc n) b m) (fun m b=>Int.negSucc m - b) a b
def kK (a b:Int):vS a b=a - b:=by
 cases a with
 | negSucc m=>rfl
 | ofNat m=>
   cases b with
   | negSucc n=>rfl
   | ofNat n=>
     show @Bool.rec (fun _=>Int) (Int.negSucc (n - (m+1))) (Int.ofNat (m - n)) (Nat.ble n m)=_;cases h:Nat.ble n m with
     | true=>
       have:=Nat.le_of_ble_eq_true h;show Int.ofNat (m - n)=(m:Int) - (n:Int);simp only[Int.ofNat_eq_natCast];omega
     | false=>
       have: ¬n≤m:=fun h'=>by rw[Nat.ble_eq_true_of_le h']at h;cases h
       show Int.negSucc (n - (m+1))=(m:Int) - (n:Int);omega
def dD (a b:Int):Bool:=@Int.rec (fun _=>Int→Bool) (fun m b=>@Int.rec (fun _=>Nat→Bool) (fun n m=>Nat.ble (Nat.succ m) n) (fun _ _=>false) b m) (fun m b=>@Int.rec (fun _=>Nat→Bool) (fun _ _=>true) (fun n m=>Nat.ble (Nat.succ n) m) b m) a b
def S4 (a b:Int):dD a b=MR a b:=by cases a<;>cases b<;>rfl
def xz (a b:Int):Bool:=@Int.rec (fun _=>Int→Bool) (fun m b=>@Int.rec (fun _=>Nat→Bool) (fun n m=>Nat.beq m n) (fun _ _=>false) b m) (fun m b=>@Int.rec (fun _=>Nat→Bool) (fun _ _=>false) (fun n m=>Nat.beq m n) b m) a b
def qv (a b:Int):xz a b=Z7 a b:=by cases a<;>cases b<;>rfl
def Sl (b:Bool):Bool:=@Bool.rec (fun _=>Bool) true false b
def lE (b:Bool):Sl b= !b:=by cases b<;>rfl
def dK (a:Int):Nat:=@Int.rec (fun _=>Nat) (fun n=>n) (fun _=>0) a
def O5 (a:Int):dK a=a.toNat:=by cases a<;>rfl
def YR (k:IntKind) (n:Int):Int:=@IntKind.rec (fun _=>Int→Int) (fun n=>IntKind.i8.wrap n) (fun n=>IntKind.i16.wrap n) (fun n=>IntKind.i32.wrap n)
 (fun n=>@Int.rec (fun _=>Int) (fun m=>@Bool.rec (fun _=>Int) (IntKind.i64.wrap (Int.ofNat m)) (Int.ofNat m) (Nat.ble m 9223372036854775807)) (fun m=>@Bool.rec (fun _=>Int) (IntKind.i64.wrap (Int.negSucc m)) (Int.negSucc m) (Nat.ble m 9223372036854775807)) n)
 (fun n=>IntKind.u8.wrap n) (fun n=>IntKind.u16.wrap n) (fun n=>IntKind.u32.wrap n)
 (fun n=>@Int.rec (fun _=>Int) (fun m=>@Bool.rec (fun _=>Int) (IntKind.u64.wrap (Int.ofNat m)) (Int.ofNat m) (Nat.ble m 18446744073709551615)) (fun m=>IntKind.u64.wrap (Int.negSucc m)) n) k n
def gG (k:IntKind) (n:Int):YR k n=k.wrap n:=by
 cases k<;>try rfl
 ·cases n with
  | ofNat m=>
    have:=JH .i64 (.ofNat m);simp only[IU]at this;rw[←this];show @Bool.rec (fun _=>Int) _ _ _=_;cases Nat.ble m 9223372036854775807<;>rfl
  | negSucc m=>
    show @Bool.rec (fun _=>Int) (IntKind.i64.wrap (Int.negSucc m)) (Int.negSucc m) (Nat.ble m 9223372036854775807)=_;cases h:Nat.ble m 9223372036854775807 with
    | false=>rfl
    | true=>
      have:=Nat.le_of_ble_eq_true h;show Int.negSucc m=_;exact(wrap64 (by omega) (by omega)).symm
 ·cases n with
  | ofNat m=>
    have:=JH .u64 (.ofNat m);simp only[IU]at this;rw[←this];show @Bool.rec (fun _=>Int) _ _ _=_;cases Nat.ble m 18446744073709551615<;>rfl
  | negSucc m=>rfl
def vT (k:IntKind) (a b:Int):Int:=@Int.rec (fun _=>Int→IntKind→Int) (fun m b _=>Int.ofNat (Nat.shiftRight m (Nat.min (dK b) k.bits))) (fun m b k=>(Int.negSucc m).fdiv (2 ^ (min b.toNat k.bits))) a b k
def kP (k:IntKind) (a b:Int):vT k a b=a.fdiv (2 ^ (min b.toNat k.bits)):=by
 cases a with
 | negSucc m=>rfl
 | ofNat m=>
   show Int.ofNat (m >>> (min (dK b) k.bits))=_;rw[O5,Nat.shiftRight_eq_div_pow];have:(2:Int) ^ (min b.toNat k.bits)=((2 ^ (min b.toNat k.bits):Nat):Int):=by simp
   rw[this];exact(Int.ofNat_fdiv _ _)
def vU (k:IntKind) (a b:Int):Int:=@Int.rec (fun _=>Int→IntKind→Int) (fun m b _=>Int.ofNat (Nat.shiftLeft m (Nat.min (dK b) k.bits))) (fun m b k=>(Int.negSucc m)*(2 ^ (min b.toNat k.bits))) a b k
def kQ (k:IntKind) (a b:Int):vU k a b=a*(2 ^ (min b.toNat k.bits)):=by
 cases a with
 | negSucc m=>rfl
 | ofNat m=>
   show Int.ofNat (m <<< (min (dK b) k.bits))=_;rw[O5,Nat.shiftLeft_eq];simp
def xd (v:V) (K:IntKind→Int→An):An:=@V.rec (fun _=>(IntKind→Int→An)→An) (fun _=>Unit) (fun _=>Unit) (fun _ K=>none) (fun k n K=>K k n) (fun _ K=>none) (fun K=>none) (fun _ _ K=>none) (fun _ _ K=>none) (fun _ _ _ K=>none) (fun _ _ _ K=>none) (fun _ _ _ _ K=>none) (fun _ _ _ _ K=>none) (fun _ K=>none) (fun K=>none) (fun _ _ _ _ _ K=>none) (fun K=>none) (fun _ _ _ K=>none) (fun K=>none) (fun _ _ K=>none) (fun _ _ K=>none) (fun K=>none) () (fun _ _ _ _=>()) () (fun _ _ _ _=>()) v K
def xa:V→Option (IntKind×Int)| .i k n=>some (k,n)|_=>none
def XO (v:V) (K:IntKind→Int→An):xd v K=ob (xa v) fun p=>K p.1 p.2:=by cases v<;>rfl
def kB (op:BinOp) (vx vy:V) (K:V→An):An:=xd vx fun ka a=>xd vy fun kb b=>@BinOp.rec (fun _=>IntKind→Int→IntKind→Int→(V→An)→An) (fun ka a kb b K=>@Bool.rec (fun _=>An) none (K (.i ka (YR ka (vt a b)))) (MZ ka kb)) (fun ka a kb b K=>@Bool.rec (fun _=>An) none (K (.i ka (YR ka (vS a b)))) (MZ ka kb)) (fun ka a kb b K=>ob (UW .mul (.i ka a) (.i kb b)) K) (fun ka a kb b K=>ob (UW .quo (.i ka a) (.i kb b)) K) (fun ka a kb b K=>ob (UW .rem (.i ka a) (.i kb b)) K) (fun ka a kb b K=>@Bool.rec (fun _=>An) none (K (.i ka (O3 .and ka a b))) (MZ ka kb)) (fun ka a kb b K=>@Bool.rec (fun _=>An) none (K (.i ka (O3 .or ka a b))) (MZ ka kb)) (fun ka a kb b K=>@Bool.rec (fun _=>An) none (K (.i ka (O3 .xor ka a b))) (MZ ka kb)) (fun ka a kb b K=>@Bool.rec (fun _=>An) none (K (.i ka (YR ka (vU ka a b)))) (Sl (dD b 0))) (fun ka a kb b K=>@Bool.rec (fun _=>An) none (K (.i ka (vT ka a b))) (Sl (dD b 0))) (fun ka a kb b K=>@Bool.rec (fun _=>An) none (K (.i ka (O3 .andNot ka a b))) (MZ ka kb)) (fun ka a kb b K=>@Bool.rec (fun _=>An) none (K (.b (xz a b))) (MZ ka kb)) (fun ka a kb b K=>@Bool.rec (fun _=>An) none (K (.b (Sl (xz a b)))) (MZ ka kb)) (fun ka a kb b K=>@Bool.rec (fun _=>An) none (K (.b (dD a b))) (MZ ka kb)) (fun ka a kb b K=>@Bool.rec (fun _=>An) none (K (.b (Sl (dD b a)))) (MZ ka kb)) (fun ka a kb b K=>@Bool.rec (fun _=>An) none (K (.b (dD b a))) (MZ ka kb)) (fun ka a kb b K=>@Bool.rec (fun _=>An) none (K (.b (Sl (dD a b)))) (MZ ka kb)) op ka a kb b K
def mh (op:BinOp) (vx vy:V) (K:V→An):kB op vx vy K=ob (UW op vx vy) K:=by
 unfold kB;rw[XO];cases vx<;>first|rfl|skip
 rename_i ka a;simp only[xa,ob];rw[XO];cases vy<;>first|(cases op<;>rfl)|skip
 rename_i kb b;simp only[xa,ob];cases op<;>first|rfl|skip
 all_goals
  simp only[UW];simp only[BW,mI,gG,m7,kK,qv,S4,lE,kQ,kP,JH,Oe,ob]
  first
   | (cases decide (ka=kb)<;>rfl)
   | (cases MR b 0<;>rfl)
def aJ {α:Type} (t:Tr α) (k:Nat):Option α:=@Tr.rec α (fun _=>Nat→Option α) (fun _=>none) (fun o _ _ ihl ihr k=>@Nat.rec (fun _=>Option α) o (fun j _=>@Bool.rec (fun _=>Option α) (ihr (Nat.div j 2)) (ihl (Nat.div j 2)) (Nat.beq (Nat.mod j 2) 0)) k) t k
def Th {α:Type} (t:Tr α): ∀k:Nat,aJ t k=t.get k:=by
 induction t with
 | leaf=>intro k;rfl
 | node o l r ihl ihr=>
   intro k;cases k with
   | zero=>rfl
   | succ j=>
     show @Bool.rec (fun _=>Option α) (aJ r (j / 2)) (aJ l (j / 2)) (Nat.beq (j % 2) 0)=bif Nat.beq (j % 2) 0 then l.get (j / 2)else r.get (j / 2);rw[ihl,ihr];cases Nat.beq (j % 2) 0<;>rfl
def Sj {α β:Type} (x:Option α) (d:Nat) (t:Tr α) (k:Nat) (K:Tr α→β):β:=
 @Nat.rec (fun _=>Tr α→Nat→(Tr α→β)→β) (fun t _ K=>K t)
  (fun _ ih t k K=>@Tr.rec α (fun _=>Nat→(Tr α→β)→β)
   (fun k K=>@Nat.rec (fun _=>β) (K (.node x .leaf .leaf)) (fun j _=>@Bool.rec (fun _=>β) (ih .leaf (Nat.div j 2) fun r=>K (.node none .leaf r)) (ih .leaf (Nat.div j 2) fun l=>K (.node none l .leaf)) (Nat.beq (Nat.mod j 2) 0)) k)
   (fun o l r _ _ k K=>@Nat.rec (fun _=>β) (K (.node x l r)) (fun j _=>@Bool.rec (fun _=>β) (ih r (Nat.div j 2) fun r=>K (.node o l r)) (ih l (Nat.div j 2) fun l=>K (.node o l r)) (Nat.beq (Nat.mod j 2) 0)) k) t k K) d t k K
def Gj {α β:Type} (x:Option α): ∀(d:Nat) (t:Tr α) (k:Nat) (K:Tr α→β),Sj x d t k K=Tr.put x d t k K
 | 0,t,k,K=>rfl
 | d+1,.leaf,0,K=>rfl
 | d+1,.node _ _ _,0,K=>rfl
 | d+1,.leaf,j+1,K=>by
   show @Bool.rec (fun _=>β) (Sj x d .leaf (j / 2) fun r=>K (.node none .leaf r)) (Sj x d .leaf (j / 2) fun l=>K (.node none l .leaf)) (Nat.beq (j % 2) 0)=bif Nat.beq (j % 2) 0 then _ else _;rw[Gj x d,Gj x d,BW]
 | d+1,.node o l r,j+1,K=>by
   show @Bool.rec (fun _=>β) (Sj x d r (j / 2) fun r=>K (.node o l r)) (Sj x d l (j / 2) fun l=>K (.node o l r)) (Nat.beq (j % 2) 0)=bif Nat.beq (j % 2) 0 then _ else _;rw[Gj x d,Gj x d,BW]
def dW (s:St) (o:EO) (K:Nat→St→An):An:=@Nat.rec (fun _=>An) (Sj (some o) BF s.t 0 fun t=>K 0 ⟨1,t⟩) (fun n _=>@Bool.rec (fun _=>An) none (Sj (some o) BF s.t (Nat.succ n) fun t=>K (Nat.succ n) ⟨Nat.succ (Nat.succ n),t⟩) (Nat.ble (Nat.succ n) MX)) s.nx
def lI {γ:Type} (s:St) (o:EO) (f:Nat→St→Option γ) (K:γ→An):ob (s.new o f) K=dW s o fun i s'=>ob (f i s') K:=by
 obtain⟨n,t⟩:=s;cases n with
 | zero=>
   unfold dW;simp only[St.new];rw[Gj,Tr.put_eq,Tr.put_eq];rfl
 | succ n=>
   unfold dW;simp only[St.new];rw[Gj,Tr.put_eq,Tr.put_eq,BW,Kc]
def wI (o:EO) (K:List V→An):An:=@EO.rec (fun _=>(List V→An)→An) (fun vs K=>K vs) (fun _ _ _=>none) (fun _ _=>none) (fun _ _ _ _ _ _=>none) o K
def qA (o:EO) (K:Nat→List (List V)→An):An:=@EO.rec (fun _=>(Nat→List (List V)→An)→An) (fun _ _=>none) (fun sz es K=>K sz es) (fun _ _=>none) (fun _ _ _ _ _ _=>none) o K
def xv {α:Type} (o:Option α) (K:α→An):An:=@Option.rec α (fun _=>(α→An)→An) (fun _=>none) (fun a K=>K a) o K
def ee {α:Type} (o:Option α) (K:α→An):xv o K=ob o K:=by cases o<;>rfl
def YY (s:St) (n:Nat) (K:List V→An):An:=xv (aJ s.t n) fun o=>wI o K
def TA (s:St) (n:Nat) (K:Nat→List (List V)→An):An:=xv (aJ s.t n) fun o=>qA o K
def VW (s:St) (n:Nat) (K:List V→An):YY s n K=match s.t.get n with|some (.cs vs)=>K vs|_=>none:=by
 unfold YY;rw[ee,Th];cases s.t.get n with
 | none=>rfl
 | some o=>cases o<;>rfl
def R8 (s:St) (n:Nat) (K:Nat→List (List V)→An):TA s n K=match s.t.get n with|some (.arr sz es)=>K sz es|_=>none:=by
 unfold TA;rw[ee,Th];cases s.t.get n with
 | none=>rfl
 | some o=>cases o<;>rfl
def Wu (agg:Option Nat) (cs:List V) (off:Nat) (K:V→An):An:=@Option.rec Nat (fun _=>List V→Nat→(V→An)→An) (fun cs off K=>Sk cs off K)
 (fun n cs off K=>@Bool.rec (fun _=>An) (@Bool.rec (fun _=>An) none (K (.a (YS (Uq cs off) n))) (Nat.ble (Nat.add off n) (F7 cs))) (K (.a cs)) (@Bool.rec (fun _=>Bool) false (Nat.beq n (F7 cs)) (Nat.beq off 0))) agg cs off K
def OW (agg:Option Nat) (cs:List V) (off:Nat) (K:V→An):Wu agg cs off K=ob (US agg cs off) K:=by
 cases agg with
 | none=>exact LU cs off K
 | some n=>
   show @Bool.rec (fun _=>An) (@Bool.rec (fun _=>An) none (K (.a (YS (Uq cs off) n))) (Nat.ble (off+n) (F7 cs))) (K (.a cs)) (@Bool.rec (fun _=>Bool) false (Nat.beq n (F7 cs)) (Nat.beq off 0))=_;simp only[US];rw[gQ,Pd,FR,Kc];cases h1:Nat.beq off 0 with
   | false=>exact BW _ _ _
   | true=>
     cases h2:Nat.beq n cs.length with
     | false=>exact BW _ _ _
     | true=>
       have:=C3 h1;subst this;have:=C3 h2;subst this;show K (.a cs)=_;rw[Nat.ble_eq_true_of_le (by omega)];simp[ob]
def du (s:St) (agg:Option Nat) (x:V) (K:V→An):An:=@V.rec (fun _=>St→Option Nat→(V→An)→An) (fun _=>Unit) (fun _=>Unit) (fun _ s agg K=>none) (fun _ _ s agg K=>none) (fun _ s agg K=>none) (fun s agg K=>none) (fun n off s agg K=>YY s n fun vs=>Wu agg vs off K) (fun cs _ s agg K=>Wu agg cs 0 K) (fun _ _ _ s agg K=>none) (fun _ _ _ s agg K=>none) (fun _ _ _ _ s agg K=>none) (fun n sz i off s agg K=>TA s n fun sz1 es=>@Bool.rec (fun _=>An) none (Sk es i fun e=>Wu agg e off K) (Nat.beq sz sz1)) (fun _ s agg K=>none) (fun s agg K=>none) (fun _ _ _ _ _ s agg K=>none) (fun s agg K=>none) (fun _ _ _ s agg K=>none) (fun s agg K=>none) (fun _ _ s agg K=>none) (fun _ _ s agg K=>none) (fun s agg K=>none) () (fun _ _ _ _=>()) () (fun _ _ _ _=>()) x s agg K
def iD (s:St) (agg:Option Nat) (x:V) (K:V→An):du s agg x K=ob (Ng s agg x) K:=by
 cases x<;>first|rfl|skip
 ·rename_i n off
  refine(VW _ _ _).trans ?_;simp only[Ng];cases s.t.get n with
  | none=>rfl
  | some o=>cases o<;>first|rfl|exact OW _ _ _ _
 ·exact OW _ _ _ _
 ·rename_i n sz i off
  refine(R8 _ _ _).trans ?_;simp only[Ng];cases s.t.get n with
  | none=>rfl
  | some o=>
    cases o<;>first|rfl|skip
    rename_i sz1 es;simp only;rw[BW,Kc,LU];congr 1;cases es[i]? with
    | none=>rfl
    | some e=>exact OW _ _ _ _
def G6 (v:V) (K:List V→An):An:=@V.rec (fun _=>V→(List V→An)→An) (fun _=>Unit) (fun _=>Unit) (fun _ v K=>K [v]) (fun _ _ v K=>K [v]) (fun _ v K=>K [v]) (fun v K=>K [v]) (fun _ _ v K=>K [v]) (fun _ _ v K=>K [v]) (fun _ _ _ v K=>K [v]) (fun _ _ _ v K=>K [v]) (fun _ _ _ _ v K=>K [v]) (fun _ _ _ _ v K=>K [v]) (fun _ v K=>K [v]) (fun v K=>K [v]) (fun _ _ _ _ _ v K=>K [v]) (fun v K=>K [v]) (fun _ _ _ v K=>K [v]) (fun v K=>K [v]) (fun cs _ v K=>K cs) (fun _ _ v K=>none) (fun v K=>none) () (fun _ _ _ _=>()) () (fun _ _ _ _=>()) v v K
def Hq (v:V) (K:List V→An):G6 v K=ob (cellsOf v) K:=by cases v<;>rfl
def vY (v:V):Bool:=@V.rec (fun _=>Bool) (fun _=>Unit) (fun _=>Unit) (fun _=>true) (fun _ _=>true) (fun _=>true) (true) (fun _ _=>true) (fun _ _=>true) (fun _ _ _=>true) (fun _ _ _=>true) (fun _ _ _ _=>true) (fun _ _ _ _=>true) (fun _=>true) (true) (fun _ _ _ _ _=>true) (true) (fun _ _ _=>true) (true) (fun _ _=>false) (fun _ _=>false) (false) () (fun _ _ _ _=>()) () (fun _ _ _ _=>()) v
def lC:vY=CL:=funext fun v=>by cases v<;>rfl
def dS (cs:List V) (o:Nat) (vc:List V):List V:=@List.rec V (fun _=>List V→Nat→List V) (fun cs _=>cs) (fun v _ ih cs o=>ih (Wn cs o v) (Nat.succ o)) vc cs o
def OM: ∀(vc cs:List V) (o:Nat),dS cs o vc=putAt cs o vc
 | [],_,_=>rfl
 | v::r,cs,o=>by
   show dS (Wn cs o v) (o+1) r=_;rw[OM r,TR];rfl
def jr (cs:List V) (o:Nat) (vc:List V):List V:=@Bool.rec (fun _=>List V) (dS cs o vc) vc (@Bool.rec (fun _=>Bool) false (Nat.beq (F7 vc) (F7 cs)) (Nat.beq o 0))
def bB: ∀(vc pre cs:List V),vc.length=cs.length→putAt (pre++cs) pre.length vc=pre++vc:=by
 intro vc
 induction vc with
 | nil=>intro pre cs hl;cases cs with
   | nil=>rfl
   | cons _ _=>cases hl
 | cons x vc ih=>
   intro pre cs hl;cases cs with
   | nil=>cases hl
   | cons y cs=>
     simp only[putAt];rw[List.set_append_right _ _ (Iu _),Nat.sub_self,List.set_cons_zero];have:=ih (pre++[x]) cs (by simpa using hl);simp only[Qv,K2,List.length_nil,HD,Wd,List.singleton_append]at this;exact this
def Y0 (cs:List V) (o:Nat) (vc:List V):jr cs o vc=putAt cs o vc:=by
 unfold jr;cases h1:Nat.beq o 0 with
 | false=>exact OM vc cs o
 | true=>
   rw[FR,FR];cases h2:Nat.beq vc.length cs.length with
   | false=>exact OM vc cs o
   | true=>
     have:=C3 h1;subst this;exact(bB vc [] cs (C3 h2)).symm
def eP (s:St) (sz:Nat) (a:V) (vc:List V) (K:St→An):An:=@V.rec (fun _=>St→Nat→List V→(St→An)→An) (fun _=>Unit) (fun _=>Unit) (fun _ s sz vc K=>none) (fun _ _ s sz vc K=>none) (fun _ s sz vc K=>none) (fun s sz vc K=>none) (fun n off s sz vc K=>YY s n fun vs=>@Bool.rec (fun _=>An) none (Sj (some (.cs (jr vs off vc))) BF s.t n fun t=>K ⟨s.nx,t⟩) (Nat.ble (Nat.add off sz) (F7 vs))) (fun _ _ s sz vc K=>none) (fun _ _ _ s sz vc K=>none) (fun _ _ _ s sz vc K=>none) (fun _ _ _ _ s sz vc K=>none) (fun n s' i off s sz vc K=>TA s n fun s1 es=>@Bool.rec (fun _=>An) none (@Bool.rec (fun _=>An) none (Sk es i fun e=>Sj (some (.arr s1 (Wn es i (jr e off vc)))) BF s.t n fun t=>K ⟨s.nx,t⟩) (Nat.ble (Nat.add off sz) s')) (Nat.beq s' s1)) (fun _ s sz vc K=>none) (fun s sz vc K=>none) (fun _ _ _ _ _ s sz vc K=>none) (fun s sz vc K=>none) (fun _ _ _ s sz vc K=>none) (fun s sz vc K=>none) (fun _ _ s sz vc K=>none) (fun _ _ s sz vc K=>none) (fun s sz vc K=>none) () (fun _ _ _ _=>()) () (fun _ _ _ _=>()) a s sz vc K
def Sx (s:St) (sz:Nat) (a x:V) (K:St→An):An:=G6 x fun vc=>@Bool.rec (fun _=>An) none (@Bool.rec (fun _=>An) none (eP s sz a vc K) (pG vY vc)) (Nat.beq (F7 vc) sz)
def aV (s : St) (sz:Nat) (a x:V) (K:St→An):Sx s sz a x K=ob (O9 s sz a x) K:=by
 unfold Sx O9;rw[Hq];cases cellsOf x with
 | none=>rfl
 | some vc =>
   simp only[ob,FR,mq,lC];cases Nat.beq vc.length sz with
   | false=>rfl
   | true=>
     cases vc.all CL with
     | false=>rfl
     | true=>
       simp only[Bool.and_true,cond_true];show eP s sz a vc K=_;cases a<;>first|rfl|skip
       ·rename_i n off
        refine(VW _ _ _).trans ?_;simp only;cases s.t.get n with
        | none=>rfl
        | some o=>
          cases o<;>first|rfl|skip
          rename_i vs;simp only;rw[Gj,Tr.put_eq,Y0,FR,BW,Tr.put_eq];show(bif Nat.ble (off+sz) vs.length then _ else none)=_;cases Nat.ble (off+sz) vs.length<;>rfl
       ·rename_i n s' i off
        refine(R8 _ _ _).trans ?_;simp only;cases s.t.get n with
        | none=>rfl
        | some o=>
          cases o<;>first|rfl|skip
          rename_i s1 es;simp only;rw[BW,BW,LU];show(bif Nat.beq s' s1 then(bif Nat.ble (off+sz) s' then _ else none)else none)=_;cases Nat.beq s' s1<;>cases Nat.ble (off+sz) s'<;>try rfl
          simp only[cond_true,Bool.and_true];cases es[i]? with
          | none=>rfl
          | some e=>
            simp only[ob];rw[Gj,Tr.put_eq,Y0,TR,Tr.put_eq]
def XG (off:Nat) (x:V) (K:V→An):An:=@V.rec (fun _=>Nat→(V→An)→An) (fun _=>Unit) (fun _=>Unit) (fun _ off K=>none) (fun _ _ off K=>none) (fun _ off K=>none) (fun off K=>none) (fun n o off K=>K (.p n (Nat.add o off))) (fun cs _ off K=>K (.rp (Uq cs off))) (fun _ _ _ off K=>none) (fun _ _ _ off K=>none) (fun _ _ _ _ off K=>none) (fun n sz i o off K=>K (.pe n sz i (Nat.add o off))) (fun _ off K=>none) (fun off K=>none) (fun _ _ _ _ _ off K=>none) (fun off K=>none) (fun _ _ _ off K=>none) (fun off K=>none) (fun _ _ off K=>none) (fun _ _ off K=>none) (fun off K=>none) () (fun _ _ _ _=>()) () (fun _ _ _ _=>()) x off K
def cE (off:Nat) (x:V) (K:V→An):XG off x K=ob (TG off x) K:=by
 cases x<;>first|rfl|skip
 show K (.rp (Uq _ off))=_;rw[Pd];rfl
def fD (sz:Nat) (x:V) (j:Int) (K:V→An):An:=@V.rec (fun _=>Nat→Int→(V→An)→An) (fun _=>Unit) (fun _=>Unit) (fun _ sz j K=>none) (fun _ _ sz j K=>none) (fun _ sz j K=>none) (fun sz j K=>none) (fun _ _ sz j K=>none) (fun _ _ sz j K=>none) (fun es _ _ sz j K=>Sk es (dK j) fun e=>@Bool.rec (fun _=>An) none (K (.rp e)) (Nat.beq (F7 e) sz)) (fun n len _ sz j K=>@Bool.rec (fun _=>An) none (K (.pe n sz (dK j) 0)) (dD j (Int.ofNat len))) (fun n s off len sz j K=>@Bool.rec (fun _=>An) none (@Bool.rec (fun _=>An) none (K (.pe n sz (Nat.add off (dK j)) 0)) (dD j (Int.ofNat len))) (Nat.beq s sz)) (fun _ _ _ _ sz j K=>none) (fun _ sz j K=>none) (fun sz j K=>none) (fun _ _ _ _ _ sz j K=>none) (fun sz j K=>none) (fun _ _ _ sz j K=>none) (fun sz j K=>none) (fun _ _ sz j K=>none) (fun _ _ sz j K=>none) (fun sz j K=>none) () (fun _ _ _ _=>()) () (fun _ _ _ _=>()) x sz j K
def XD (sz:Nat) (arr:Option Nat) (x i:V) (K:V→An):An:=@Option.rec Nat (fun _=>Nat→V→V→(V→An)→An) (fun sz x i K=>xd i fun _ j=>@Bool.rec (fun _=>An) (fD sz x j K) none (dD j 0)) (fun m sz x i K=>ob (Ml sz (some m) x i) K) arr sz x i K
def bf (sz:Nat) (arr:Option Nat) (x i:V) (K:V→An):XD sz arr x i K=ob (Ml sz arr x i) K:=by
 cases arr with
 | some m=>rfl
 | none=>
   refine(XO _ _).trans ?_;cases i<;>first|rfl|skip
   rename_i k j;simp only[xa,ob,Ml,Oe,S4];cases MR j 0 with
   | true=>rfl
   | false=>
     show fD sz x j K=_;cases x<;>first|rfl|skip
     ·rename_i es full
      show Sk es (dK j) _=_;rw[LU,O5];simp only[Bool.not_false,cond_true];cases es[j.toNat]? with
      | none=>rfl
      | some e=>
        simp only[ob,FR];cases Nat.beq e.length sz<;>rfl
     ·rename_i n len cap
      show @Bool.rec (fun _=>An) none (K (.pe n sz (dK j) 0)) (dD j (Int.ofNat len))=_;rw[O5,S4];simp only[Bool.not_false,cond_true];have:MR j (Int.ofNat len)=MR j (len:Int):=rfl;rw[this];cases MR j (len:Int)<;>rfl
     ·rename_i n s off len
      show @Bool.rec (fun _=>An) none (@Bool.rec (fun _=>An) none (K (.pe n sz (off+dK j) 0)) (dD j (Int.ofNat len))) (Nat.beq s sz)=_;rw[O5,S4];simp only[Bool.not_false,cond_true];have:MR j (Int.ofNat len)=MR j (len:Int):=rfl;rw[this];cases Nat.beq s sz<;>cases MR j (len:Int)<;>rfl
def oz (x:V) (K:V→An):An:=@V.rec (fun _=>(V→An)→An) (fun _=>Unit) (fun _=>Unit) (fun _ K=>none) (fun _ _ K=>none) (fun _ K=>none) (fun K=>none) (fun _ _ K=>none) (fun _ _ K=>none) (fun es _ _ K=>K (.i .i64 (Int.ofNat (F7 es)))) (fun _ len _ K=>@Bool.rec (fun _=>An) none (K (.i .i64 (Int.ofNat len))) (Nat.ble len Ad)) (fun _ _ _ len K=>@Bool.rec (fun _=>An) none (K (.i .i64 (Int.ofNat len))) (Nat.ble len Ad)) (fun _ _ _ _ K=>none) (fun _ K=>none) (fun K=>none) (fun _ _ _ _ _ K=>none) (fun K=>none) (fun _ _ _ K=>none) (fun K=>none) (fun _ _ K=>none) (fun _ _ K=>none) (fun K=>none) () (fun _ _ _ _=>()) () (fun _ _ _ _=>()) x K
def lN (x:V) (K:V→An):oz x K=ob (aL x) K:=by
 cases x<;>first|rfl|skip
 ·show K (.i .i64 (Int.ofNat (F7 _)))=_
  rw[FR];rfl
 ·show @Bool.rec (fun _=>An) none _ (Nat.ble _ Ad)=_
  rw[BW];simp only[aL];rw[Kc];rfl
 ·show @Bool.rec (fun _=>An) none _ (Nat.ble _ Ad)=_
  rw[BW];simp only[aL];rw[Kc];rfl
def W8 (x:V) (K:V→An):An:=@V.rec (fun _=>V→(V→An)→An) (fun _=>Unit) (fun _=>Unit) (fun _ x K=>none) (fun _ _ x K=>none) (fun _ x K=>none) (fun x K=>none) (fun _ _ x K=>K x) (fun _ _ x K=>K x) (fun _ _ _ x K=>none) (fun _ _ _ x K=>none) (fun _ _ _ _ x K=>none) (fun _ _ _ _ x K=>K x) (fun _ x K=>none) (fun x K=>none) (fun _ _ _ _ _ x K=>ob (Mk x) K) (fun x K=>none) (fun _ _ _ x K=>none) (fun x K=>none) (fun _ _ x K=>none) (fun _ _ x K=>none) (fun x K=>none) () (fun _ _ _ _=>()) () (fun _ _ _ _=>()) x x K
def bM (x:V) (K:V→An):W8 x K=ob (Mk x) K:=by cases x<;>rfl
def asT (v:V) (K:List V→An):An:=@V.rec (fun _=>(List V→An)→An) (fun _=>Unit) (fun _=>Unit) (fun _ K=>none) (fun _ _ K=>none) (fun _ K=>none) (fun K=>none) (fun _ _ K=>none) (fun _ _ K=>none) (fun _ _ _ K=>none) (fun _ _ _ K=>none) (fun _ _ _ _ K=>none) (fun _ _ _ _ K=>none) (fun _ K=>none) (fun K=>none) (fun _ _ _ _ _ K=>none) (fun K=>none) (fun _ _ _ K=>none) (fun K=>none) (fun _ _ K=>none) (fun vs _ K=>K vs) (fun K=>none) () (fun _ _ _ _=>()) () (fun _ _ _ _=>()) v K
def nD (v:V) (K:Bool→An):An:=@V.rec (fun _=>(Bool→An)→An) (fun _=>Unit) (fun _=>Unit) (fun x K=>K x) (fun _ _ K=>none) (fun _ K=>none) (fun K=>none) (fun _ _ K=>none) (fun _ _ K=>none) (fun _ _ _ K=>none) (fun _ _ _ K=>none) (fun _ _ _ _ K=>none) (fun _ _ _ _ K=>none) (fun _ K=>none) (fun K=>none) (fun _ _ _ _ _ K=>none) (fun K=>none) (fun _ _ _ K=>none) (fun K=>none) (fun _ _ K=>none) (fun _ _ K=>none) (fun K=>none) () (fun _ _ _ _=>()) () (fun _ _ _ _=>()) v K
def asA (v:V) (K:List V→An):An:=@V.rec (fun _=>(List V→An)→An) (fun _=>Unit) (fun _=>Unit) (fun _ K=>none) (fun _ _ K=>none) (fun _ K=>none) (fun K=>none) (fun _ _ K=>none) (fun _ _ K=>none) (fun _ _ _ K=>none) (fun _ _ _ K=>none) (fun _ _ _ _ K=>none) (fun _ _ _ _ K=>none) (fun _ K=>none) (fun K=>none) (fun _ _ _ _ _ K=>none) (fun K=>none) (fun _ _ _ K=>none) (fun K=>none) (fun cs _ K=>K cs) (fun _ _ K=>none) (fun K=>none) () (fun _ _ _ _=>()) () (fun _ _ _ _=>()) v K
def Ws (v:V) (K:V→An):An:=@V.rec (fun _=>V→(V→An)→An) (fun _=>Unit) (fun _=>Unit) (fun x v K=>@Bool.rec (fun _=>An) (K (.b false)) (K (.b true)) x) (fun k n v K=>@Int.rec (fun _=>An) (fun m=>@Nat.rec (fun _=>An) (K (.i k (Int.ofNat 0))) (fun j _=>K (.i k (Int.ofNat (Nat.succ j)))) m) (fun m=>@Nat.rec (fun _=>An) (K (.i k (Int.negSucc 0))) (fun j _=>K (.i k (Int.negSucc (Nat.succ j)))) m) n) (fun _ v K=>K v) (fun v K=>K v) (fun _ _ v K=>K v) (fun _ _ v K=>K v) (fun _ _ _ v K=>K v) (fun _ _ _ v K=>K v) (fun _ _ _ _ v K=>K v) (fun _ _ _ _ v K=>K v) (fun _ v K=>K v) (fun v K=>K v) (fun _ _ _ _ _ v K=>K v) (fun v K=>K v) (fun _ _ _ v K=>K v) (fun v K=>K v) (fun _ _ v K=>K v) (fun _ _ v K=>K v) (fun v K=>K v) () (fun _ _ _ _=>()) () (fun _ _ _ _=>()) v v K
def ZV (v:V) (K:V→An):Ws v K=K v:=by
 cases v<;>first|rfl|skip
 ·rename_i x;cases x<;>rfl
 ·rename_i k n
  cases n with
  | ofNat m=>cases m<;>rfl
  | negSucc m=>cases m<;>rfl
def fin (o:Option (R×St)) (k kp:V→St→An):An:=match o with
 | some (.ret v,s)=>k v s
 | some (.Bi v,s)=>kp v s
 | none=>none
def CN (o:Option (R×St)) (k kp:V→St→An):An:=@Option.rec (R×St) (fun _=>(V→St→An)→(V→St→An)→An) (fun _ _=>none) (fun p k kp=>@R.rec (fun _=>St→(V→St→An)→(V→St→An)→An) (fun v s k _=>k v s) (fun v s _ kp=>kp v s) p.1 p.2 k kp) o k kp
def Bt (o:Option (R×St)) (k kp:V→St→An):CN o k kp=fin o k kp:=by
 cases o with
 | none=>rfl
 | some p=>
   obtain⟨r,s⟩:=p;cases r<;>rfl
def G4 (o:Option V) (s:St) (k kp:V→St→An):fin (ov o s) k kp=ob o fun v=>k v s:=by cases o<;>rfl
def qu (o:Option St) (k kp:V→St→An):fin (os o) k kp=ob o fun s=>k (.t []) s:=by cases o<;>rfl
def Ba {α:Type} (o:Option α) (f:α→Option (R×St)) (k kp:V→St→An):fin (ob o f) k kp=ob o fun a=>fin (f a) k kp:=by cases o<;>rfl
abbrev OK:=CF→CV→CP→CO→St→(V→St→An)→(V→St→An)→An
def TC (e:CO) (ps:List (Nat×Nat×Bm)) (cs:List V) (K:List V→An):An:=@List.rec (Nat×Nat×Bm) (fun _=>List V→(List V→An)→An) (fun cs K=>K cs)
 (fun p _ ih cs K=>Bx p.2.2 e fun v=>G6 v fun vc=>@Bool.rec (fun _=>An) none (@Bool.rec (fun _=>An) none (ih (dS cs p.1 vc) K) (Nat.ble (Nat.add p.1 p.2.1) (F7 cs))) (Nat.beq (F7 vc) p.2.1)) ps cs K
def SG {e : CO} {env:Env} (he:Iw e env): ∀(ps:List (Nat×Nat×Bm)) (cs:List V) (K:List V→An),TC e ps cs K=ob (Mm env cs ps) K
 | [],cs,K=>rfl
 | (off, sz,x)::r,cs,K=>by
   show(Bx x e fun v=>G6 v fun vc=>@Bool.rec (fun _=>An) none (@Bool.rec (fun _=>An) none (TC e r (dS cs off vc) K) (Nat.ble (off+sz) (F7 cs))) (Nat.beq (F7 vc) sz))=_;rw[BM he];simp only[Mm];cases DU env x with
   | none=>rfl
   | some v=>
     simp only[ob];rw[Hq];cases cellsOf v with
     | none=>rfl
     | some vc=>
       simp only[ob,FR,OM];cases Nat.beq vc.length sz with
       | false=>rfl
       | true=>
         cases Nat.ble (off+sz) cs.length with
         | false=>rfl
         | true=>exact SG he r _ K
def TD (e:CO) (sz:Nat) (ps:List (Nat×Bm)) (es:List (List V)) (K:List (List V)→An):An:=@List.rec (Nat×Bm) (fun _=>List (List V)→(List (List V)→An)→An) (fun es K=>K es)
 (fun p _ ih es K=>Bx p.2 e fun v=>G6 v fun vc=>@Bool.rec (fun _=>An) none (@Bool.rec (fun _=>An) none (ih (Wn es p.1 vc) K) (Nat.ble (Nat.succ p.1) (F7 es))) (Nat.beq (F7 vc) sz)) ps es K
def SI {e : CO} {env:Env} (he:Iw e env) (sz:Nat): ∀(ps:List (Nat×Bm)) (es:List (List V)) (K:List (List V)→An),TD e sz ps es K=ob (Mn env sz es ps) K
 | [],es,K=>rfl
 | (i, x)::r,es,K=>by
   show(Bx x e fun v=>G6 v fun vc=>@Bool.rec (fun _=>An) none (@Bool.rec (fun _=>An) none (TD e sz r (Wn es i vc) K) (Nat.ble (Nat.succ i) (F7 es))) (Nat.beq (F7 vc) sz))=_;rw[BM he];simp only[Mn];cases DU env x with
   | none=>rfl
   | some v=>
     simp only[ob];rw[Hq];cases cellsOf v with
     | none=>rfl
     | some vc=>
       simp only[ob,FR,TR,Nat.blt,Nat.succ_eq_add_one];cases Nat.beq vc.length sz with
       | false=>rfl
       | true=>
         cases Nat.ble (i+1) es.length with
         | false=>rfl
         | true=>exact SI he sz r _ K
def xZ (o:Fh):OK:=@Fh.rec (fun _=>OK)
 (fun x cf cv cp env s kk kp=>Bx x env fun v=>kk v s)
 (fun x cf cv cp env s kk kp=>Bx x env fun v=>kk v s)
 (fun c a b cf cv cp env s kk kp=>Bx c env fun vc=>Bx a env fun va=>Bx b env fun vb=>nD vc fun t=>@Bool.rec (fun _=>An) (kk vb s) (kk va s) t)
 (fun op x y cf cv cp env s kk kp=>Bx x env fun vx=>Bx y env fun vy=>kB op vx vy fun v=>kk v s)
 (fun neg x y cf cv cp env s kk kp=>Bx x env fun vx=>Bx y env fun vy=>CN (match vx,vy with| .b p,.b q=>some (.ret (.b (bif neg then p != q else p==q)),s)|_,_=>none) kk kp)
 (fun len neg x y cf cv cp env s kk kp=>Bx x env fun vx=>Bx y env fun vy=>CN (ov (dd len neg vx vy) s) kk kp)
 (fun kind neg x cf cv cp env s kk kp=>Bx x env fun vx=>CN (ov (dc kind neg vx) s) kk kp)
 (fun x cf cv cp env s kk kp=>Bx x env fun vx=>nD vx fun p=>kk (.b (Sl p)) s)
 (fun xor x cf cv cp env s kk kp=>Bx x env fun vx=>CN (match vx with| .i ka a=>some (.ret (.i ka (bif xor then bits .xor ka (bif ka.signed then -1 else ka.max) a else ka.wrap (0 - a))),s)|_=>none) kk kp)
 (fun k x cf cv cp env s kk kp=>Bx x env fun vx=>CN (match vx with| .i _ a=>some (.ret (.i k (IU k a)),s)|_=>none) kk kp)
 (fun x cf cv cp env s kk kp=>Bx x env fun vx=>G6 vx fun cs=>dW s (.cs cs) fun i s=>kk (.p i 0) s)
 (fun x cf cv cp env s kk kp=>Bx x env fun vx=>G6 vx fun cs=>kk (.rp cs) s)
 (fun sz bytes x y cf cv cp env s kk kp=>Bx x env fun vx=>Bx y env fun vy=>CN (ov (Up bytes s sz vx vy) s) kk kp)
 (fun zero cf cv cp env s kk kp=>CN (bif CG zero then s.new (.cs zero) fun i s=>some (.ret (.p i 0),s)else none) kk kp)
 (fun zero parts cf cv cp env s kk kp=>@Bool.rec (fun _=>An) none (TC env parts zero fun cs=>kk (.a cs) s) (CG zero))
 (fun sz len zero parts cf cv cp env s kk kp=>@Bool.rec (fun _=>An) none (TD env (F7 zero) parts (List.replicate len zero) fun es=>kk (.l es true) s) (CG zero))
 (fun agg x cf cv cp env s kk kp=>Bx x env fun vx=>du s agg vx fun v=>kk v s)
 (fun sz a x cf cv cp env s kk kp=>Bx a env fun va=>Bx x env fun vx=>Sx s sz va vx fun s=>kk (.t []) s)
 (fun off x cf cv cp env s kk kp=>Bx x env fun vx=>XG off vx fun v=>kk v s)
 (fun agg off x cf cv cp env s kk kp=>Bx x env fun vx=>asA vx fun cs=>Wu agg cs off fun v=>kk v s)
 (fun sz arr x i cf cv cp env s kk kp=>Bx x env fun vx=>Bx i env fun vi=>XD sz arr vx vi fun v=>kk v s)
 (fun len sz agg x i cf cv cp env s kk kp=>Bx x env fun vx=>Bx i env fun vi=>CN (ov (PB len sz agg vx vi) s) kk kp)
 (fun sz x lo hi mx cf cv cp env s kk kp=>Bx x env fun vx=>Wp lo env fun l=>Wp hi env fun h=>Wp mx env fun m=>CN (Z6 (PA s sz vx l h m)) kk kp)
 (fun x cf cv cp env s kk kp=>Bx x env fun vx=>oz vx fun v=>kk v s)
 (fun x cf cv cp env s kk kp=>Bx x env fun vx=>CN (ov (Un s vx) s) kk kp)
 (fun x cf cv cp env s kk kp=>Bx x env fun vx=>CN (ov (db s vx) s) kk kp)
 (fun x i cf cv cp env s kk kp=>Bx x env fun vx=>Bx i env fun vi=>CN (ov (Um vx vi) s) kk kp)
 (fun sz bytes x y cf cv cp env s kk kp=>Bx x env fun vx=>Bx y env fun vy=>CN (Z6 (Lc bytes s sz vx vy)) kk kp)
 (fun sz x y cf cv cp env s kk kp=>Bx x env fun vx=>Bx y env fun vy=>CN (Z6 (Uo s sz vx vy)) kk kp)
 (fun x y cf cv cp env s kk kp=>Bx x env fun vx=>Bx y env fun vy=>CN (match vx,vy with| .i ka a,.i kb b=>bif decide (ka=kb)then some (.ret (.i ka (bif MR a b then b else a)),s)else none|_,_=>none) kk kp)
 (fun x y cf cv cp env s kk kp=>Bx x env fun vx=>Bx y env fun vy=>CN (match vx,vy with| .i ka a,.i kb b=>bif decide (ka=kb)then some (.ret (.i ka (bif MR b a then b else a)),s)else none|_,_=>none) kk kp)
 (fun i x cf cv cp env s kk kp=>Bx x env fun vx=>asT vx fun vs=>Sk vs i fun v=>kk v s)
 (fun x cf cv cp env s kk kp=>Bx x env fun vx=>W8 vx fun v=>kk v s)
 (fun f first cap cf cv cp env s kk kp=>K9 first env fun vf=>K9 cap env fun vc=>@Bool.rec (fun _=>An) none (kk (.f f vf vc) s) (Me f))
 (fun cf cv cp env s kk kp=>CN (s.new (.map []) fun i s=>some (.ret (.m i),s)) kk kp)
 (fun sz bytes zero len cap cf cv cp env s kk kp=>Bx len env fun vx=>Bx cap env fun vy=>CN (Z6 (JM s sz zero vx vy)) kk kp)
 (fun ks zero ok m k cf cv cp env s kk kp=>Bx m env fun vm=>Bx k env fun vk=>CN (ov (La s ks zero ok vm vk) s) kk kp)
 (fun ks m k v cf cv cp env s kk kp=>Bx m env fun vm=>Bx k env fun vk=>Bx v env fun vx=>CN (os (LZ s ks vm vk vx)) kk kp)
 (fun t x cf cv cp env s kk kp=>Bx x env fun vx=>kk (.E2 t vx) s)
 (fun t zero ok x cf cv cp env s kk kp=>Bx x env fun vx=>CN (ov (da t zero ok vx) s) kk kp)
 (fun x cf cv cp env s kk kp=>Bx x env fun vx=>CN (match vx with| .E2 t v=>some (.Bi (.E2 t v),s)|_=>none) kk kp)
 (fun f args cf cv cp env s kk kp=>K9 args env fun vs=>CN (cf f vs s) kk kp)
 (fun f args cf cv cp env s kk kp=>K9 args env fun vs=>CN (ov (cp f vs) s) kk kp)
 (fun x args cf cv cp env s kk kp=>Bx x env fun vx=>K9 args env fun vs=>CN (cv vx vs s) kk kp)
 (fun x args cf cv cp env s kk kp=>none)
 (fun tab x args cf cv cp env s kk kp=>Bx x env fun vx=>K9 args env fun vs=>CN (match vx with| .E2 t v=>ob (look t tab) fun f=>cf f (v::vs) s|_=>none) kk kp) o
def gk {vc va vb:V} {s:St} {kk kp:V→St→An}:nD vc (fun t=>@Bool.rec (fun _=>An) (kk vb s) (kk va s) t)=fin (match vc with| .b t=>some (.ret (bif t then va else vb),s)|_=>none) kk kp:=by
 cases vc<;>first|rfl|skip
 rename_i t;cases t<;>rfl
def not_eq {vx:V} {s:St} {kk kp:V→St→An}:nD vx (fun p=>kk (.b (Sl p)) s)=fin (match vx with| .b p=>some (.ret (.b (!p)),s)|_=>none) kk kp:=by
 cases vx<;>first|rfl|skip
 rename_i t;cases t<;>rfl
def Tk {c:Bool} {x:Option (R×St)} {kk kp:V→St→An}:fin (bif c then x else none) kk kp=bif c then fin x kk kp else none:=by cases c<;>rfl
def ed {e:CO} {env:Env} (he:Iw e env) (o:Fh) (cf:CF) (cv:CV) (cp:CP) (s:St) (kk kp:V→St→An):xZ o cf cv cp e s kk kp=fin (Fg cf cv cp o env s) kk kp:=by
 cases o with
 | mv x=>
   show(Bx x e fun v=>kk v s)=_;simp only[BM he,Fg,G4]
 | jc x=>
   show(Bx x e fun v=>kk v s)=_;simp only[BM he,Fg,G4]
 | pick c a b=>
   show(Bx c e fun vc=>Bx a e fun va=>Bx b e fun vb=>nD vc fun t=>@Bool.rec (fun _=>An) (kk vb s) (kk va s) t)=_;simp only[BM he,Fg,Ba,gk (kp:=kp)];rfl
 | bin op x y=>
   show(Bx x e fun vx=>Bx y e fun vy=>kB op vx vy fun v=>kk v s)=_;simp only[BM he,Fg,Ba,G4,mh]
 | jj neg x y=>
   show(Bx x e fun vx=>Bx y e fun vy=>CN (match vx,vy with| .b p,.b q=>some (.ret (.b (bif neg then p != q else p==q)),s)|_,_=>none) kk kp)=_;simp only[BM he,Bu he,B1 he,Fg,Ba,Bt]
   try rfl
 | ji len neg x y=>
   show(Bx x e fun vx=>Bx y e fun vy=>CN (ov (dd len neg vx vy) s) kk kp)=_;simp only[BM he,Bu he,B1 he,Fg,Ba,Bt]
   try rfl
 | dF kind neg x=>
   show(Bx x e fun vx=>CN (ov (dc kind neg vx) s) kk kp)=_;simp only[BM he,Bu he,B1 he,Fg,Ba,Bt]
   try rfl
 | not x=>
   show(Bx x e fun vx=>nD vx fun p=>kk (.b (Sl p)) s)=_;simp only[BM he,Fg,Ba,not_eq (kp:=kp)];rfl
 | neg xor x=>
   show(Bx x e fun vx=>CN (match vx with| .i ka a=>some (.ret (.i ka (bif xor then bits .xor ka (bif ka.signed then -1 else ka.max) a else ka.wrap (0 - a))),s)|_=>none) kk kp)=_;simp only[BM he,Bu he,B1 he,Fg,Ba,Bt]
   try rfl
 | conv k x=>
   show(Bx x e fun vx=>CN (match vx with| .i _ a=>some (.ret (.i k (IU k a)),s)|_=>none) kk kp)=_;simp only[BM he,Bu he,B1 he,Fg,Ba,Bt]
   try rfl
 | box x=>
   show(Bx x e fun vx=>G6 vx fun cs=>dW s (.cs cs) fun i s=>kk (.p i 0) s)=_;simp only[BM he,Fg,Ba,Hq];congr 1;funext vx;congr 1;funext cs;have: ∀o:Option (R×St),fin o kk kp=ob o fun p=>fin (some p) kk kp:=fun o=>by cases o<;>rfl
   rw[this,lI];rfl
 | Qj x=>
   show(Bx x e fun vx=>G6 vx fun cs=>kk (.rp cs) s)=_;simp only[BM he,Fg,Ba,Hq];rfl
 | Qk sz bytes x y=>
   show(Bx x e fun vx=>Bx y e fun vy=>CN (ov (Up bytes s sz vx vy) s) kk kp)=_;simp only[BM he,Bu he,B1 he,Fg,Ba,Bt]
   try rfl
 | alloc zero=>
   show(CN (bif CG zero then s.new (.cs zero) fun i s=>some (.ret (.p i 0),s)else none) kk kp)=_;simp only[Bt,Fg]
 | build zero parts=>
   show(@Bool.rec (fun _=>An) none (TC e parts zero fun cs=>kk (.a cs) s) (CG zero))=_;simp only[Fg,Tk,Ba,SG he,BW];rfl
 | G8 sz len zero parts=>
   show(@Bool.rec (fun _=>An) none (TD e (F7 zero) parts (List.replicate len zero) fun es=>kk (.l es true) s) (CG zero))=_;simp only[Fg,Tk,Ba,SI he,BW,FR];rfl
 | load agg x=>
   show(Bx x e fun vx=>du s agg vx fun v=>kk v s)=_;simp only[BM he,Fg,Ba,G4,iD]
 | store sz a x=>
   show(Bx a e fun va=>Bx x e fun vx=>Sx s sz va vx fun s=>kk (.t []) s)=_;simp only[BM he,Fg,Ba,qu,aV]
 | Gc off x=>
   show(Bx x e fun vx=>XG off vx fun v=>kk v s)=_;simp only[BM he,Fg,Ba,G4,cE]
 | field agg off x=>
   show(Bx x e fun vx=>asA vx fun cs=>Wu agg cs off fun v=>kk v s)=_;simp only[BM he,Fg,Ba];congr 1;funext vx;cases vx<;>first|rfl|skip
   show Wu agg _ off _=_;rw[OW,G4]
 | LI sz arr x i=>
   show(Bx x e fun vx=>Bx i e fun vi=>XD sz arr vx vi fun v=>kk v s)=_;simp only[BM he,Fg,Ba,G4,bf]
 | index len sz agg x i=>
   show(Bx x e fun vx=>Bx i e fun vi=>CN (ov (PB len sz agg vx vi) s) kk kp)=_;simp only[BM he,Bu he,B1 he,Fg,Ba,Bt]
   try rfl
 | slice sz x lo hi mx=>
   show(Bx x e fun vx=>Wp lo e fun l=>Wp hi e fun h=>Wp mx e fun m=>CN (Z6 (PA s sz vx l h m)) kk kp)=_;simp only[BM he,Bu he,B1 he,Fg,Ba,Bt]
   try rfl
 | len x=>
   show(Bx x e fun vx=>oz vx fun v=>kk v s)=_;simp only[BM he,Fg,Ba,G4,lN]
 | Sp x=>
   show(Bx x e fun vx=>CN (ov (Un s vx) s) kk kp)=_;simp only[BM he,Bu he,B1 he,Fg,Ba,Bt]
   try rfl
 | str x=>
   show(Bx x e fun vx=>CN (ov (db s vx) s) kk kp)=_;simp only[BM he,Bu he,B1 he,Fg,Ba,Bt]
   try rfl
 | UI x i=>
   show(Bx x e fun vx=>Bx i e fun vi=>CN (ov (Um vx vi) s) kk kp)=_;simp only[BM he,Bu he,B1 he,Fg,Ba,Bt]
   try rfl
 | append sz bytes x y=>
   show(Bx x e fun vx=>Bx y e fun vy=>CN (Z6 (Lc bytes s sz vx vy)) kk kp)=_;simp only[BM he,Bu he,B1 he,Fg,Ba,Bt]
   try rfl
 | copy sz x y=>
   show(Bx x e fun vx=>Bx y e fun vy=>CN (Z6 (Uo s sz vx vy)) kk kp)=_;simp only[BM he,Bu he,B1 he,Fg,Ba,Bt]
   try rfl
 | UK x y=>
   show(Bx x e fun vx=>Bx y e fun vy=>CN (match vx,vy with| .i ka a,.i kb b=>bif decide (ka=kb)then some (.ret (.i ka (bif MR a b then b else a)),s)else none|_,_=>none) kk kp)=_;simp only[BM he,Bu he,B1 he,Fg,Ba,Bt]
   try rfl
 | UJ x y=>
   show(Bx x e fun vx=>Bx y e fun vy=>CN (match vx,vy with| .i ka a,.i kb b=>bif decide (ka=kb)then some (.ret (.i ka (bif MR b a then b else a)),s)else none|_,_=>none) kk kp)=_;simp only[BM he,Bu he,B1 he,Fg,Ba,Bt]
   try rfl
 | extract i x=>
   show(Bx x e fun vx=>asT vx fun vs=>Sk vs i fun v=>kk v s)=_;simp only[BM he,Fg,Ba];congr 1;funext vx;cases vx<;>first|rfl|skip
   show Sk _ i _=_;rw[LU,G4]
 | IZ x=>
   show(Bx x e fun vx=>W8 vx fun v=>kk v s)=_;simp only[BM he,Fg,Ba,G4,bM]
 | dB f first cap=>
   show(K9 first e fun vf=>K9 cap e fun vc=>@Bool.rec (fun _=>An) none (kk (.f f vf vc) s) (Me f))=_;simp only[Bu he,Fg,Tk,Ba,BW];rfl
 | NY=>
   show(CN (s.new (.map []) fun i s=>some (.ret (.m i),s)) kk kp)=_;simp only[Bt,Fg]
 | Fq sz bytes zero len cap=>
   show(Bx len e fun vx=>Bx cap e fun vy=>CN (Z6 (JM s sz zero vx vy)) kk kp)=_;simp only[BM he,Bu he,B1 he,Fg,Ba,Bt]
   try rfl
 | lookup ks zero ok m k=>
   show(Bx m e fun vm=>Bx k e fun vk=>CN (ov (La s ks zero ok vm vk) s) kk kp)=_;simp only[BM he,Bu he,B1 he,Fg,Ba,Bt]
   try rfl
 | Es ks m k v=>
   show(Bx m e fun vm=>Bx k e fun vk=>Bx v e fun vx=>CN (os (LZ s ks vm vk vx)) kk kp)=_;simp only[BM he,Bu he,B1 he,Fg,Ba,Bt]
   try rfl
 | NZ t x=>
   show(Bx x e fun vx=>kk (.E2 t vx) s)=_;simp only[BM he,Fg,Ba];rfl
 | c8 t zero ok x=>
   show(Bx x e fun vx=>CN (ov (da t zero ok vx) s) kk kp)=_;simp only[BM he,Bu he,B1 he,Fg,Ba,Bt]
   try rfl
 | panic x=>
   show(Bx x e fun vx=>CN (match vx with| .E2 t v=>some (.Bi (.E2 t v),s)|_=>none) kk kp)=_;simp only[BM he,Bu he,B1 he,Fg,Ba,Bt]
   try rfl
 | call f args=>
   show(K9 args e fun vs=>CN (cf f vs s) kk kp)=_;simp only[BM he,Bu he,B1 he,Fg,Ba,Bt]
   try rfl
 | LM f args=>
   show(K9 args e fun vs=>CN (ov (cp f vs) s) kk kp)=_;simp only[BM he,Bu he,B1 he,Fg,Ba,Bt]
   try rfl
 | JB x args=>
   show(Bx x e fun vx=>K9 args e fun vs=>CN (cv vx vs s) kk kp)=_;simp only[BM he,Bu he,B1 he,Fg,Ba,Bt]
   try rfl
 | XL x args=>
   rfl
 | inv tab x args=>
   show(Bx x e fun vx=>K9 args e fun vs=>CN (match vx with| .E2 t v=>ob (look t tab) fun f=>cf f (v::vs) s|_=>none) kk kp)=_;simp only[BM he,Bu he,B1 he,Fg,Ba,Bt]
   try rfl
def o8 (g:Bool) (t:Bool) (y:An) (n:An):An:=@Bool.rec (fun _=>An) (@Bool.rec (fun _=>An) y n g) (@Bool.rec (fun _=>An) n y g) t
def lj (g t:Bool) (y n:An):o8 g t y n=bif t==g then y else n:=by cases g<;>cases t<;>rfl
def vj (v:V) (g:Bool) (y:An) (n:An):An:=@V.rec (fun _=>Bool→An→An→An) (fun _=>Unit) (fun _=>Unit) (fun t g y n=>o8 g t y n) (fun _ _ g y n=>none) (fun _ g y n=>none) (fun g y n=>none) (fun _ _ g y n=>none) (fun _ _ g y n=>none) (fun _ _ _ g y n=>none) (fun _ _ _ g y n=>none) (fun _ _ _ _ g y n=>none) (fun _ _ _ _ g y n=>none) (fun _ g y n=>none) (fun g y n=>none) (fun _ _ _ _ _ g y n=>none) (fun g y n=>none) (fun _ _ _ g y n=>none) (fun g y n=>none) (fun _ _ g y n=>none) (fun vs _ g y n=>@List.rec V (fun _=>An→An) (fun n=>n) (fun _ _ _ _=>none) vs n) (fun g y n=>none) () (fun _ _ _ _=>()) () (fun _ _ _ _=>()) v g y n
def yJ (g:Nat×Bool) (o:Fh):OK:=fun cf cv cp e s kk kp=>Bx (.t g.1) e fun v=>vj v g.2 (xZ o cf cv cp e s kk kp) (kk (.t []) s)
def Wm (g:Option (Nat×Bool)) (o:Fh):OK:=@Option.rec (Nat×Bool) (fun _=>Fh→OK) (fun o=>xZ o) (fun g o=>yJ g o) g o
def TQ {e:CO} {env:Env} (he:Iw e env) (d:Option Nat) (g:Option (Nat×Bool)) (o:Fh) (cf:CF) (cv:CV) (cp:CP) (s:St) (kk kp:V→St→An):Wm g o cf cv cp e s kk kp=fin (Is cf cv cp ⟨d,o,g⟩ env s) kk kp:=by
 cases g with
 | none=>exact ed he o cf cv cp s kk kp
 | some g=>
   obtain⟨g,b⟩:=g;show(Bx (.t g) e fun v=>vj v b (xZ o cf cv cp e s kk kp) (kk (.t []) s))=_;rw[BM he,ed he];simp only[Is,DU];cases get g env with
   | none=>rfl
   | some v=>
     simp only[ob];cases v<;>first|rfl|skip
     ·rename_i t
      show o8 b t _ _=_;rw[lj];simp only;cases t==b<;>rfl
     ·rename_i vs
      cases vs<;>rfl
def NX (d:Option Nat) (v:V) (e:CO):CO:=@Option.rec Nat (fun _=>V→CO→CO) (fun _ e=>e) (fun d v e=>⟨Nat.lor e.1 (Nat.shiftLeft 1 d),(d,v)::e.2⟩) d v e
def KJ (M n:Nat):OE M n=M.testBit n:=by
 have h1:(M >>> n)&&&1=(M >>> n) % 2:=Nat.and_one_is_mod _;have h2:OE M n=Nat.beq ((M >>> n)&&&1) 1:=rfl;rw[h2,h1,Nat.testBit_eq_decide_div_mod_eq,Nat.shiftRight_eq_div_pow];cases h:decide (M / 2 ^ n % 2=1)with
 | true=>rw[of_decide_eq_true h];rfl
 | false=>
   have:=of_decide_eq_false h;cases hb:Nat.beq (M / 2 ^ n % 2) 1 with
   | false=>rfl
   | true=>exact absurd (T8 hb) this
def PE (M d n:Nat):OE (Nat.lor M (Nat.shiftLeft 1 d)) n=(OE M n||Nat.beq d n):=by
 rw[KJ,KJ];show(M|||1 <<< d).testBit n=_;rw[Nat.testBit_or,Nat.one_shiftLeft,Nat.testBit_two_pow];congr 1;cases hb:Nat.beq d n with
 | true=>simp[T8 hb]
 | false=>simpa using Nat.ne_of_beq_eq_false hb
def Iw.push {e:CO} {env:Env} (he:Iw e env) (d:Option Nat) (v:V):Iw (NX d v e) (put d v env):=by
 cases d with
 | none=>exact he
 | some d=>
   intro n;show(bif OE (Nat.lor e.1 (Nat.shiftLeft 1 d)) n then(bif Nat.beq d n then some v else get n e.2)else none)=bif Nat.beq d n then some v else get n env;rw[PE,←he n,Su];cases Nat.beq d n<;>cases OE e.1 n<;>rfl
def dV (ops:List Au) (cf:CF) (cv:CV) (cp:CP) (env:CO) (s:St):An:=@List.rec Au (fun _=>CF→CV→CP→CO→St→An) (fun _ _ _ env s=>some (.normal,env,s))
 (fun o _ ih cf cv cp env s=>Wm o.3 o.2 cf cv cp env s (fun v s=>Ws v fun v=>ih cf cv cp (NX o.1 v env) s) (fun v s=>some (.Bi v,env,s))) ops cf cv cp env s
def GZ:An→Rs→Prop
 | some (x,e,s),some (x',env,s')=>x=x'∧s=s'∧Iw e env
 | none,none=>True
 | _,_=>False
def Y5 (cf:CF) (cv:CV) (cp:CP): ∀(ops:List Au) {e:CO} {env:Env} (s:St),Iw e env→GZ (dV ops cf cv cp e s) (UR cf cv cp ops env s)
 | [],e,env,s,he=>⟨rfl,rfl,he⟩
 | o ::r,e,env,s,he=>by
   show GZ (Wm o.3 o.2 cf cv cp e s (fun v s=>Ws v fun v=>dV r cf cv cp (NX o.1 v e) s) (fun v s=>some (.Bi v,e,s))) _;rw[TQ he o.1];show GZ (fin (Is cf cv cp o env s) _ _) _;simp only[UR];cases Is cf cv cp o env s with
   | none=>trivial
   | some p=>
     obtain⟨x,s'⟩:=p;cases x with
     | Bi v=>exact⟨rfl,rfl,he⟩
     | ret v=>
       show GZ (Ws v fun v=>dV r cf cv cp (NX o.1 v e) s') (Hz v _);rw[ZV,Hm];exact Y5 cf cv cp r s' (he.push o.1 v)
def uw (re:List Au) (cf:CF) (cv:CV) (cp:CP) (e:CO) (s:St) (K:An):An:=@List.rec Au (fun _=>CF→CV→CP→CO→St→An→An) (fun _ _ _ _ _ K=>K)
 (fun o _ ih cf cv cp e s K=>Wm o.3 o.2 cf cv cp e s (fun u _=>@Option.rec Nat (fun _=>An) (ih cf cv cp e s K) (fun d=>Bx (.t d) e fun w=>@Bool.rec (fun _=>An) none (ih cf cv cp e s K) (Ej u w)) o.1) (fun _ _=>none)) re cf cv cp e s K
def eS (cf:CF) (cv:CV) (cp:CP) {e:CO} {env:Env} (he:Iw e env) (s:St) (K:An): ∀re:List Au,uw re cf cv cp e s K=bif jX cf cv cp re env s then K else none
 | []=>rfl
 | o ::r=>by
   show Wm o.3 o.2 cf cv cp e s (fun u _=>@Option.rec Nat (fun _=>An) (uw r cf cv cp e s K) (fun d=>Bx (.t d) e fun w=>@Bool.rec (fun _=>An) none (uw r cf cv cp e s K) (Ej u w)) o.1) (fun _ _=>none)=_;rw[TQ he o.1,eS cf cv cp he s K r]
   have h':jX cf cv cp (o::r) env s=((match Is cf cv cp o env s with
    | some (.ret u,_)=>match o.dst with
      | none=>true
      | some d=>match get d env with|some w=>Ej u w|none=>false
    | _=>false)&&jX cf cv cp r env s):=rfl
   rw[h'];show fin (Is cf cv cp o env s) _ _=_;cases Is cf cv cp o env s with
   | none=>rfl
   | some p=>
     obtain⟨x,s'⟩:=p;cases x with
     | Bi v=>rfl
     | ret u=>
       obtain⟨d,op,g⟩:=o;cases d with
       | none=>simp only[fin,Il]
       | some d=>
         simp only[fin];rw[BM he];simp only[DU];cases get d env with
         | none=>rfl
         | some w=>
           simp only[ob];cases Ej u w<;>simp
def Ur (ops:List Cp) (cf:CF) (cv:CV) (cp:CP) (e:CO) (s:St):An:=@List.rec Cp (fun _=>CF→CV→CP→CO→St→An) (fun _ _ _ e s=>some (.normal,e,s))
 (fun d _ ih cf cv cp e s=>Wm d.2.3 d.2.2 cf cv cp e s (fun v s=>Ws v fun v=>(fun e=>uw d.4 cf cv cp e s (ih cf cv cp e s)) (NX d.2.1 v e)) (fun v s=>some (.Bi v,⟨0,[]⟩,s))) ops cf cv cp e s
def Iw.nil {M:Nat}:Iw ⟨M,[]⟩ []:=fun n=>by
 show(bif OE M n then none else none)=none;cases OE M n<;>rfl
def Vg (cf:CF) (cv:CV) (cp:CP): ∀(ops:List Cp) {e:CO} {env:Env} (s:St),Iw e env→GZ (Ur ops cf cv cp e s) (RC cf cv cp ops env s)
 | [],e,env,s,he=>⟨rfl,rfl,he⟩
 | d ::r,e,env,s,he=>by
   show GZ (Wm d.2.3 d.2.2 cf cv cp e s (fun v s=>Ws v fun v=>(fun e=>uw d.4 cf cv cp e s (Ur r cf cv cp e s)) (NX d.2.1 v e)) (fun v s=>some (.Bi v,⟨0,[]⟩,s))) _;rw[TQ he d.2.1];show GZ (fin (Is cf cv cp d.o env s) _ _) _;simp only[RC];cases Is cf cv cp d.o env s with
   | none=>trivial
   | some p=>
     obtain⟨x,s'⟩:=p;cases x with
     | Bi v=>exact⟨rfl,rfl,Iw.nil⟩
     | ret v=>
       show GZ (Ws v fun v=>uw d.4 cf cv cp (NX d.2.1 v e) s' (Ur r cf cv cp (NX d.2.1 v e) s')) (Hz v _);rw[ZV,Hm,eS cf cv cp (he.push d.2.1 v)];show GZ (bif jX cf cv cp d.re (put d.o.dst v env) s' then _ else none) (bif jX cf cv cp d.re (put d.o.dst v env) s' then _ else none);cases jX cf cv cp d.re (put d.o.dst v env) s' with
       | false=>trivial
       | true=>exact Vg cf cv cp r s' (he.push d.2.1 v)
def Q8 (l:List Nat):Nat:=@List.rec Nat (fun _=>Nat) 0 (fun n _ ih=>Nat.lor ih (Nat.shiftLeft 1 n)) l
def Mf (l:List Nat) (e:CO):CO:=⟨Nat.land e.1 (Q8 l),e.2⟩
def Uy: ∀(l:List Nat) (n:Nat),OE (Q8 l) n=l.any fun k=>Nat.beq k n
 | [],n=>by rw[KJ];exact Nat.zero_testBit n
 | k::r,n=>by
   show OE (Nat.lor (Q8 r) (Nat.shiftLeft 1 k)) n=_;rw[PE,Uy r n,Qb,Bool.or_comm]
def ME: ∀(l:List Nat) (env:Env) (n:Nat),get n (prune l env)=bif l.any (fun k=>Nat.beq k n)then get n env else none
 | [],env,n=>rfl
 | k ::r,env,n=>by
   have ih:=ME r env n;simp only[prune,Qb];cases hk:Nat.beq k n with
   | true=>
     have:=T8 hk;subst this;cases hg:get k env with
     | none=>
       simp only;rw[ih,hg];cases(r.any fun j=>Nat.beq j k)<;>rfl
     | some v=>simp[get,hk]
   | false=>
     simp only[Bool.false_or];cases hg:get k env with
     | none=>exact ih
     | some v=>
       simp only[get,hk,cond_false];exact ih
def Iw.prune {e:CO} {env:Env} (he:Iw e env) (l:List Nat):Iw (Mf l e) (Gl.prune l env):=fun n=>by
 show(bif OE (Nat.land e.1 (Q8 l)) n then get n e.2 else none)=_
 have:OE (Nat.land e.1 (Q8 l)) n=(OE e.1 n&&OE (Q8 l) n):=by
  rw[KJ,KJ,KJ];exact Nat.testBit_and _ _ _
 rw[this,ME,←he n,Su,Uy];cases OE e.1 n<;>cases(l.any fun k=>Nat.beq k n)<;>rfl
def UL (l:List Nat) (e:CO) (K:Env→An):An:=@List.rec Nat (fun _=>CO→(Env→An)→An) (fun _ K=>K [])
 (fun n _ ih e K=>@Bool.rec (fun _=>An) (ih e K) (@List.rec (Nat×V) (fun _=>Nat→An→(V→An)→An) (fun _ x _=>x) (fun p _ ih n x K=>@Bool.rec (fun _=>An) (ih n x K) (K p.2) (Nat.beq p.1 n)) e.2 n (ih e K) (fun v=>ih e fun r=>K ((n,v)::r))) (OE e.1 n)) l e K
def kR (env:Env) (n:Nat) (x:An) (K:V→An): @List.rec (Nat×V) (fun _=>Nat→An→(V→An)→An) (fun _ x _=>x) (fun p _ ih n x K=>@Bool.rec (fun _=>An) (ih n x K) (K p.2) (Nat.beq p.1 n)) env n x K=match get n env with|some v=>K v|none=>x:=by
 induction env with
 | nil=>rfl
 | cons p r ih=>
   obtain⟨j,v⟩:=p;show @Bool.rec (fun _=>An) _ (K v) (Nat.beq j n)=match(bif Nat.beq j n then some v else get n r)with|some v=>K v|none=>x
   cases Nat.beq j n
   ·exact ih
   ·rfl
def OP {e:CO} {env:Env} (he:Iw e env): ∀(l:List Nat) (K:Env→An),UL l e K=K (Gl.prune l env)
 | [],K=>rfl
 | n ::r,K=>by
   show @Bool.rec (fun _=>An) (UL r e K) (@List.rec (Nat×V) (fun _=>Nat→An→(V→An)→An) (fun _ x _=>x) (fun p _ ih n x K=>@Bool.rec (fun _=>An) (ih n x K) (K p.2) (Nat.beq p.1 n)) e.2 n (UL r e K) (fun v=>UL r e fun r=>K ((n,v)::r))) (OE e.1 n)=_;rw[kR,OP he r];simp only[OP he r,Gl.prune];rw[←he n,Su];cases OE e.1 n with
   | false=>rfl
   | true=>
     simp only[cond_true];cases get n e.2<;>rfl
def Ia (env:Env):Nat:=@List.rec (Nat×V) (fun _=>Nat) 0 (fun p _ ih=>Nat.lor ih (Nat.shiftLeft 1 p.1)) env
def RQ: ∀(env:Env) (n:Nat),OE (Ia env) n=(get n env).isSome
 | [],n=>by rw[KJ];exact Nat.zero_testBit n
 | (k,v)::r,n=>by
   show OE (Nat.lor (Ia r) (Nat.shiftLeft 1 k)) n=_;rw[PE,RQ r n];simp only[get];cases Nat.beq k n<;>simp
def Iw.of (env:Env):Iw ⟨Ia env,env⟩ env:=fun n=>by
 show(bif OE (Ia env) n then get n env else none)=_;rw[RQ];cases get n env<;>rfl
abbrev IH:=AY→CO→St→An
def Q5 (r:An) (K:CO→St→An):An:=@Option.rec (Ae×CO×St) (fun _=>(CO→St→An)→An) (fun _=>none) (fun p K=>@Ae.rec (fun _=>CO→St→(Ae×CO×St)→(CO→St→An)→An) (fun env s _ K=>K env s) (fun _ _ _ p _=>some p) (fun _ _ p _=>some p) (fun _ _ _ p _=>some p) p.1 p.2.1 p.2.2 p K) r K
def wJ (r:Rs) (K':Env→St→Rs):Rs:=match r with|some (.normal,env,s)=>K' env s|r=>r
def My {r:An} {r':Rs} (h:GZ r r') {K:CO→St→An} {K':Env→St→Rs} (U: ∀e env s,Iw e env→GZ (K e s) (K' env s)):GZ (Q5 r K) (wJ r' K'):=by
 cases r with
 | none=>cases r' with|none=>trivial|some p=>exact h.elim
 | some p=>
   cases r' with
   | none=>exact h.elim
   | some p'=>
     obtain⟨x,e,s⟩:=p;obtain⟨x',env,s'⟩:=p';obtain⟨rfl,rfl,he⟩:=h;cases x with
     | normal=>exact U e env s he
     | exit id=>exact⟨rfl,rfl,he⟩
     | ret=>exact⟨rfl,rfl,he⟩
     | Bi v=>exact⟨rfl,rfl,he⟩
def Ol (s:St) (e:CO):List RS→Option (List V)
 | []=>some []
 | .t n::r=>ob (Su e n) fun v=>ob (Ol s e r) fun vs=>some (v::vs)
 | .c n g::r=>ob (Su e n) fun a=>ob (Ng s g a) fun v=>ob (Ol s e r) fun vs=>some (v::vs)
def YZ (AJ:List RS) (r:An):Option (R×St):=
 match r with
 | some (.normal,env,s)=>ob (Ol s env AJ) fun vs=>some (.ret (Ei vs),s)
 | some (.ret,env,s)=>ob (Ol s env AJ) fun vs=>some (.ret (Ei vs),s)
 | some (.Bi v,_,s)=>some (.Bi v,s)
 | _=>none
def Ul (tab:Jw) (ih:IH) (g:FuncId) (cap:List V) (m:Option V) (AJ:List RS) (env:CO) (s:St):Option (R×St):=
 match tab g with
 | some (.ux n k ops ac l)=>bif Nat.ble cap.length n then
  match ih (.seq l (.DJ ops) ac) ⟨Ia (put (some k) (m.getD .Dm) (BD 0 cap)),put (some k) (m.getD .Dm) (BD 0 cap)⟩ s with
  | some (.normal,_,s')=>ob (Ol s' env AJ) fun vs=>some (.ret (Ei vs),s')
  | some (.ret,_,s')=>ob (Ol s' env AJ) fun vs=>some (.ret (Ei vs),s')
  | _=>none
   else none
 | some (.xY n ac)=>match m with
   | some _=>none
   | none=>bif Nat.ble cap.length n then
     match ih ac ⟨Ia (BD 0 cap),BD 0 cap⟩ s with
     | some (.normal,_,s')=>ob (Ol s' env AJ) fun vs=>some (.ret (Ei vs),s')
     | some (.ret,_,s')=>ob (Ol s' env AJ) fun vs=>some (.ret (Ei vs),s')
     | _=>none
   else none
 | _=>none
def TH (tab:Jw) (ih:IH) (f:FuncId) (vs:List V) (s:St):Option (R×St):=
 match tab f with
 | some (.fn n ac AJ)=>bif Nat.ble vs.length n then YZ AJ (ih ac ⟨Ia (BD 0 vs),BD 0 vs⟩ s)else none
 | some (.vA n aA ops x aC AJ l1 l2)=>bif Nat.ble vs.length n then
  match ih (.seq l1 aA (.DJ ops)) ⟨Ia (BD 0 vs),BD 0 vs⟩ s with
  | some (.normal,env,s1)=>match(match x with| .t n=>Su env n| .c v=>bif BT v then some v else none)with
    | some (.f (.func g) [] cap)=>match ih aC (Mf l2 env) s1 with
      | some (.normal,env2,s2)=>Ul tab ih g cap none AJ env2 s2
      | some (.ret,env2,s2)=>Ul tab ih g cap none AJ env2 s2
      | some (.Bi v,env2,s2)=>Ul tab ih g cap (some v) AJ env2 s2
      | _=>none
    | _=>none
  | _=>none
   else none
 | some (.vM n ac AJ)=>bif Nat.ble vs.length n then pA (YZ AJ (ih ac ⟨Ia (BD 0 vs),BD 0 vs⟩ s))else none
 | some (.aE c)=>c vs s
 | _=>none
def FT (tab:Jw) (memo:E5) (ih:IH):CF:=fun f vs s=>
 match memo f with
 | []=>TH tab ih f vs s
 | m::r=>match Uj vs (m::r)with
   | some v=>some (.ret v,s)
   | none=>TH tab ih f vs s
def Je (tab:Jw) (memo:E5) (ih:IH):CV:=fun x vs s=>
 match x with
 | .f (.func f) first cap=>FT tab memo ih f (first++vs++cap) s
 | .f (.yield L) [] []=>match s.t.get L with
   | some (.loop .ready env ps a b)=>bif Nat.beq vs.length ps.length then
    Tr.put none BF s.t L fun t=>match ih a ⟨Ia (Et ps vs env),Et ps vs env⟩ ⟨s.nx,t⟩with
    | some (.normal,env1,s1)=>match ih b env1 s1 with
      | some (.normal,_,s2)=>Tr.put (some (.loop .ready env ps a b)) BF s2.t L fun t=>some (.ret (.b true),⟨s2.nx,t⟩)
      | some (.ret,_,s2)=>Tr.put (some (.loop .ret env ps a b)) BF s2.t L fun t=>some (.ret (.b false),⟨s2.nx,t⟩)
      | some (.exit id,_,s2)=>Tr.put (some (.loop (.exit id) env ps a b)) BF s2.t L fun t=>some (.ret (.b false),⟨s2.nx,t⟩)
      | some (.Bi v,_,s2)=>some (.Bi v,s2)
      | none=>none
    | _=>none
     else none
   | _=>none
 | _=>none
def Kb (tab:Jw) (memo:E5) (ih:IH):CP:=fun f vs=>
 bif CG vs then match FT tab memo ih f vs ⟨0,.leaf⟩with
  | some (.ret v,s)=>match GX s UO v with
    | some u=>bif BT u then some u else none
    | none=>none
  | _=>none
 else none
abbrev SK:=Jw→E5→IH→CO→St→An
def eQ (c : AY):SK:=@AY.rec (fun _=>SK)
 (fun _ _ _ env s=>some (.normal,env,s))
 (fun ops tab memo ih env s=>dV ops (FT tab memo ih) (Je tab memo ih) (Kb tab memo ih) env s)
 (fun l ops tab memo ih env s=>Q5 (Ur ops (FT tab memo ih) (Je tab memo ih) (Kb tab memo ih) env s) fun env s=>some (.normal,Mf l env,s))
 (fun l a b _ _ _ _ ih env s=>Q5 (ih a env s) fun env s=>ih b (Mf l env) s)
 (fun c a b _ _ _ _ ih env s=>Bx c env fun v=>nD v fun t=>@Bool.rec (fun _=>An) (ih b env s) (ih a env s) t)
 (fun id a _ tab memo ih env s=>match ih a env s with
  | some (.exit id',env',s')=>bif Nat.beq id' id then some (.normal,env',s')else some (.exit id',env',s')
  | r=>r)
 (fun l a _ _ _ ih env s=>UL l env fun E=>Q5 (ih a ⟨Ia E,E⟩ s) fun env s=>ih (.loop l a) env s)
 (fun id _ _ _ env s=>some (.exit id,env,s))
 (fun _ _ _ env s=>some (.ret,env,s))
 (fun a _ _ _ ih env s=>ih a env s)
 (fun l g ps a b _ _ tab memo ih env s=>Bx g env fun v=>match v with
  | .f (.func gf) [] cap=>UL l env fun E=>s.new (.loop .ready E ps a b) fun i s1=>
   match FT tab memo ih gf (.f (.yield i) [] []::cap) s1 with
   | some (.ret _,s2)=>match s2.t.get i with
     | some (.loop st _ _ _ _)=>Tr.put none BF s2.t i fun t=>some ((match st with| .ready=> .normal| .ret=> .ret| .exit id=> .exit id),env,⟨s2.nx,t⟩)
     | _=>none
   | some (.Bi v,s2)=>match s2.t.get i with
     | some _=>Tr.put none BF s2.t i fun t=>some (.Bi v,env,⟨s2.nx,t⟩)
     | none=>none
   | none=>none
  | _=>none) c
def runK (tab:Jw) (memo:E5) (n:Nat):IH:=@Nat.rec (fun _=>IH) (fun _ _ _=>none) (fun _ ih c env s=>eQ c tab memo ih env s) n
def W0 (ihm:IH) (ih:AY→Env→St→Rs):Prop:= ∀c {e env} s,Iw e env→GZ (ihm c e s) (ih c env s)
def LY {s:St} {e:CO} {env:Env} (he:Iw e env): ∀l:List RS,Ol s e l=YO s env l
 | []=>rfl
 | .t n::r=>by simp only[Ol,YO,he n,LY he r]
 | .c n g::r=>by simp only[Ol,YO,he n,LY he r]
def Ve {AJ:List RS} {r:An} {r':Rs} (h:GZ r r'):YZ AJ r=aK AJ r':=by
 cases r with
 | none=>cases r' with|none=>rfl|some p=>exact h.elim
 | some p=>
   cases r' with
   | none=>exact h.elim
   | some p'=>
     obtain⟨x,e,s⟩:=p;obtain⟨x',env,s'⟩:=p';obtain⟨rfl,rfl,he⟩:=h;cases x<;>first|rfl|simp only[YZ,aK,LY he]
def iX {tab : Jw} {ihm:IH} {ih:AY→Env→St→Rs} (hi:W0 ihm ih) {g:FuncId} {cap:List V} {m:Option V} {AJ:List RS} {e:CO} {env:Env} (he:Iw e env) (s:St):Ul tab ihm g cap m AJ e s=Wt tab ih g cap m AJ env s:=by
 unfold Ul Wt;cases tab g with
 | none=>rfl
 | some fs =>
   cases fs<;>first|rfl|skip
   ·rename_i n k ops ac l
    simp only;have:=hi (.seq l (.DJ ops) ac) s (Iw.of (put (some k) (m.getD .Dm) (BD 0 cap)))
    revert this
    cases ihm (.seq l (.DJ ops) ac) _ s with
    | none=>cases ih (.seq l (.DJ ops) ac) _ s with|none=>intro _;rfl|some p=>intro h;exact h.elim
    | some p=>
      cases ih (.seq l (.DJ ops) ac) _ s with
      | none=>intro h;exact h.elim
      | some p'=>
        obtain⟨x,e1,s1⟩:=p;obtain⟨x',env1,s1'⟩:=p';rintro⟨rfl,rfl,he1⟩;cases x<;>simp only[LY he]
   ·rename_i n ac
    cases m with
    | some v=>rfl
    | none=>
      simp only;have:=hi ac s (Iw.of (BD 0 cap))
      revert this
      cases ihm ac _ s with
      | none=>cases ih ac _ s with|none=>intro _;rfl|some p=>intro h;exact h.elim
      | some p=>
        cases ih ac _ s with
        | none=>intro h;exact h.elim
        | some p'=>
          obtain⟨x,e1,s1⟩:=p;obtain⟨x',env1,s1'⟩:=p';rintro⟨rfl,rfl,he1⟩;cases x<;>simp only[LY he]
def cd {tab : Jw} {ihm:IH} {ih:AY→Env→St→Rs} (hi:W0 ihm ih) (f:FuncId) (vs:List V) (s:St):TH tab ihm f vs s=RD tab ih f vs s:=by
 unfold TH RD;cases tab f with
 | none=>rfl
 | some fs =>
   cases fs with
   | ux n k ops ac l=>rfl
   | aE c=>rfl
   | xY n ac=>rfl
   | fn n ac AJ=>simp only;rw[Ve (hi ac s (Iw.of (BD 0 vs)))]
   | vM n ac AJ=>simp only;rw[Ve (hi ac s (Iw.of (BD 0 vs)))]
   | vA n aA ops x aC AJ l1 l2=>
     simp only;have:=hi (.seq l1 aA (.DJ ops)) s (Iw.of (BD 0 vs))
     revert this
     cases ihm (.seq l1 aA (.DJ ops)) _ s with
     | none=>cases ih (.seq l1 aA (.DJ ops)) _ s with|none=>intro _;rfl|some p=>intro h;exact h.elim
     | some p=>
       cases ih (.seq l1 aA (.DJ ops)) _ s with
       | none=>intro h;exact h.elim
       | some p'=>
         obtain⟨x1,e1,s1⟩:=p;obtain⟨x1',env1,s1'⟩:=p';rintro⟨rfl,rfl,he1⟩;cases x1<;>first|rfl|skip
         simp only;have hx:(match x with| .t n=>Su e1 n| .c v=>bif BT v then some v else none)=DU env1 x:=by cases x<;>first|exact he1 _|rfl
         rw[hx];cases DU env1 x with
         | none=>rfl
         | some v=>
           cases v<;>first|rfl|skip
           rename_i fn first cap
           cases fn<;>first|rfl|skip
           cases first<;>first|rfl|skip
           simp only;have:=hi aC s1 (he1.prune l2)
           revert this
           cases ihm aC (Mf l2 e1) s1 with
           | none=>cases ih aC (Gl.prune l2 env1) s1 with|none=>intro _;rfl|some p=>intro h;exact h.elim
           | some p=>
             cases ih aC (Gl.prune l2 env1) s1 with
             | none=>intro h;exact h.elim
             | some p'=>
               obtain⟨x2,e2,s2⟩:=p;obtain⟨x2',env2,s2'⟩:=p';rintro⟨rfl,rfl,he2⟩;cases x2<;>simp only[iX hi he2]
def GQ {tab:Jw} {memo:E5} {ihm:IH} {ih:AY→Env→St→Rs} (hi:W0 ihm ih):FT tab memo ihm=G7 tab memo ih:=by
 funext f vs s;unfold FT G7;simp only[cd hi];rfl
def QT {tab : Jw} {memo:E5} {ihm:IH} {ih:AY→Env→St→Rs} (hi:W0 ihm ih):Je tab memo ihm=Mo tab memo ih:=by
 funext x vs s;unfold Je Mo;rw[GQ hi];cases x<;>first|rfl|skip
 rename_i fn first cap
 cases fn<;>first|rfl|skip
 cases first<;>first|rfl|skip
 cases cap<;>first|rfl|skip
 rename_i L;simp only;cases s.t.get L with
 | none=>rfl
 | some o=>
   cases o<;>first|rfl|skip
   rename_i st env ps a b;cases st<;>first|rfl|skip
   simp only;congr 2;funext t;have:=hi a ⟨s.nx,t⟩ (Iw.of (Et ps vs env))
   revert this
   cases ihm a _ ⟨s.nx,t⟩with
   | none=>cases ih a _ ⟨s.nx,t⟩with|none=>intro _;rfl|some p=>intro h;exact h.elim
   | some p=>
     cases ih a _ ⟨s.nx,t⟩with
     | none=>intro h;exact h.elim
     | some p'=>
       obtain⟨x1,e1,s1⟩:=p;obtain⟨x1',env1,s1'⟩:=p';rintro⟨rfl,rfl,he1⟩;cases x1<;>first|rfl|skip
       simp only;have:=hi b s1 he1
       revert this
       cases ihm b e1 s1 with
       | none=>cases ih b env1 s1 with|none=>intro _;rfl|some p=>intro h;exact h.elim
       | some p=>
         cases ih b env1 s1 with
         | none=>intro h;exact h.elim
         | some p'=>
           obtain⟨x2,e2,s2⟩:=p;obtain⟨x2',env2,s2'⟩:=p';rintro⟨rfl,rfl,he2⟩;cases x2<;>rfl
def NM {tab:Jw} {memo:E5} {ihm:IH} {ih:AY→Env→St→Rs} (hi:W0 ihm ih):Kb tab memo ihm=O2 tab memo ih:=by
 funext f vs;unfold Kb O2;rw[GQ hi];rfl
def gS {tab : Jw} {memo:E5} {ihm:IH} {ih:AY→Env→St→Rs} (hi:W0 ihm ih) (c:AY) {e:CO} {env:Env} (s:St) (he:Iw e env):GZ (eQ c tab memo ihm e s) (Ie tab memo ih c env s):=by
 cases c with
 | skip=>exact⟨rfl,rfl,he⟩
 | ret=>exact⟨rfl,rfl,he⟩
 | exit id=>exact⟨rfl,rfl,he⟩
 | scope a=>exact hi a s he
 | DJ ops=>
   show GZ (dV ops (FT tab memo ihm) (Je tab memo ihm) (Kb tab memo ihm) e s) _;rw[GQ hi,QT hi,NM hi];exact Y5 _ _ _ ops s he
 | HM l ops=>
   show GZ (Q5 (Ur ops (FT tab memo ihm) (Je tab memo ihm) (Kb tab memo ihm) e s) fun env s=>some (.normal,Mf l env,s)) _;rw[GQ hi,QT hi,NM hi];exact My (K':=fun env s=>some (.normal,Gl.prune l env,s)) (Vg _ _ _ ops s he) fun _ _ s he=>⟨rfl,rfl,he.prune l⟩
 | seq l a b=>exact My (K':=fun env s=>ih b (Gl.prune l env) s) (hi a s he) fun _ _ s he=>hi b s (he.prune l)
 | cond c a b=>
   show GZ (Bx c e fun v=>nD v fun t=>@Bool.rec (fun _=>An) (ihm b e s) (ihm a e s) t) _;rw[BM he];simp only[Ie];cases DU env c with
   | none=>trivial
   | some v=>
     cases v<;>first|trivial|skip
     rename_i t;cases t
     ·exact hi b s he
     ·exact hi a s he
 | block id a=>
   have:=hi a s he;show GZ (match ihm a e s with|some (.exit id',env',s')=>bif Nat.beq id' id then some (.normal,env',s')else some (.exit id',env',s')|r=>r) (match ih a env s with|some (.exit id',env',s')=>bif Nat.beq id' id then some (.normal,env',s')else some (.exit id',env',s')|r=>r)
   revert this
   cases ihm a e s with
   | none=>cases ih a env s with|none=>intro _;trivial|some p=>intro h;exact h.elim
   | some p=>
     cases ih a env s with
     | none=>intro h;exact h.elim
     | some p'=>
       obtain⟨x1,e1,s1⟩:=p;obtain⟨x1',env1,s1'⟩:=p';rintro⟨rfl,rfl,he1⟩;cases x1 with
       | exit id'=>
         simp only;cases Nat.beq id' id<;>exact⟨rfl,rfl,he1⟩
       | normal=>exact⟨rfl,rfl,he1⟩
       | ret=>exact⟨rfl,rfl,he1⟩
       | Bi v=>exact⟨rfl,rfl,he1⟩
 | loop l a=>
   show GZ (UL l e fun E=>Q5 (ihm a ⟨Ia E,E⟩ s) fun env s=>ihm (.loop l a) env s) _;rw[OP he];exact My (K':=fun env s=>ih (.loop l a) env s) (hi a s (Iw.of _)) fun _ _ s he=>hi (.loop l a) s he
 | Dt l g ps a b=>
   show GZ (Bx g e fun v=>match v with
   | .f (.func gf) [] cap=>UL l e fun E=>s.new (.loop .ready E ps a b) fun i s1=>
    match FT tab memo ihm gf (.f (.yield i) [] []::cap) s1 with
    | some (.ret _,s2)=>match s2.t.get i with
      | some (.loop st _ _ _ _)=>Tr.put none BF s2.t i fun t=>some ((match st with| .ready=> .normal| .ret=> .ret| .exit id=> .exit id),e,⟨s2.nx,t⟩)
      | _=>none
    | some (.Bi v,s2)=>match s2.t.get i with
      | some _=>Tr.put none BF s2.t i fun t=>some (.Bi v,e,⟨s2.nx,t⟩)
      | none=>none
    | none=>none
   | _=>none) _
   rw[BM he,GQ hi];simp only[Ie];cases DU env g with
   | none=>trivial
   | some v=>
     cases v<;>first|trivial|skip
     rename_i fn first cap
     cases fn<;>first|trivial|skip
     cases first<;>first|trivial|skip
     rename_i gf;simp only[ob];rw[OP he]
     have hnew: ∀ {β γ:Type} (o:EO) (f:Nat→St→Option β) (g:Nat→St→Option γ) (Rl:Option β→Option γ→Prop),Rl none none→(∀i s,Rl (f i s) (g i s))→Rl (s.new o f) (s.new o g):=fun {β γ} o f g Rl h0 h1=>by
      obtain⟨n,t⟩:=s;cases n with
      | zero=>simp only[St.new];rw[Tr.put_eq,Tr.put_eq];exact h1 _ _
      | succ n=>
        simp only[St.new];rw[Tr.put_eq,Tr.put_eq];cases Nat.ble (n+1) MX
        ·exact h0
        ·exact h1 _ _
     refine hnew _ _ _ GZ trivial fun i s1=>?_
     cases G7 tab memo ih gf (.f (.yield i) [] []::cap) s1 with
     | none=>trivial
     | some p=>
       obtain⟨x,s2⟩:=p;cases x with
       | ret v=>
         simp only;cases s2.t.get i with
         | none=>trivial
         | some o=>
           cases o<;>first|trivial|skip
           simp only;rw[Tr.put_eq,Tr.put_eq];exact⟨rfl,rfl,he⟩
       | Bi v=>
         simp only;cases s2.t.get i with
         | none=>trivial
         | some o=>
           simp only;rw[Tr.put_eq,Tr.put_eq];exact⟨rfl,rfl,he⟩
def Yu (tab:Jw) (memo:E5): ∀n:Nat,W0 (runK tab memo n) (run tab memo n)
 | 0=>fun _ _ _ _ _=>trivial
 | n+1=>fun c _ _ s he=>gS (Yu tab memo n) c s he
def jl (tab:Jw) (memo:E5) (n:Nat) (f:FuncId) (vs:List V) (v:V):Bool:=
 match Kb tab memo (runK tab memo n) f vs with
 | some u=>Ej u v
 | none=>false
def Rm {tab:Jw} (ht:LO P tab) {memo:E5} (hm:G9 P memo) {n:Nat} {f:FuncId} {vs:List V} {v:V} (h:jl tab memo n f vs v=true):CG vs=true∧BT v=true∧Pure P f vs v:=by
 unfold jl at h;rw[NM (Yu tab memo n)]at h;exact V9 ht hm h
def oh (t:Tr aB):Jw:=fun f=>aJ t f
def Yl {t:Tr aB} (h:Yf (fun i=>N8 P i) id t):LO P (oh t):=fun f fs e=>h f fs ((Th t f).symm.trans e)
def pH (m:E5) (f:FuncId) (a:List V) (v:V):E5:=fun g=>@Bool.rec (fun _=>List (List V×V)) (m g) ((a,v)::m g) (Nat.beq f g)
def m6 {m:E5} (h:G9 P m) {f:FuncId} {a:List V} {v:V} (h1:CG a=true∧BT v=true∧Pure P f a v):G9 P (pH m f a v):=fun g e he=>by
 unfold pH at he;cases hb:Nat.beq f g with
 | false=>rw[hb]at he;exact h g e he
 | true=>
   rw[hb]at he;have:=C3 hb;subst this;rcases F6.1 he with rfl|he
   ·exact h1
   ·exact h f e he
end Go.Gl
namespace Go.Gl
variable {P:Program}
abbrev Tn (sz b:Nat):AY:=(.seq [0] (.DJ [⟨(some 2),.mv (.c (.l [] true)),none⟩])
 (.seq [0] (.seq [0,4] (.DJ [⟨(some 3),.mv (.t 0),none⟩,
  ⟨(some 4),.dF 1 false (.t 3),none⟩])
 (.cond (.t 4)
 (.seq [2] (.DJ [⟨(some 2),.mv (.c (.l [] true)),none⟩])
 .ret)
 .skip))
 (.seq [2] (.DJ [⟨(some 5),.G8 1 0 [] [],none⟩,
  ⟨(some 6),.mv (.t 0),none⟩,
  ⟨(some 7),.append sz b (.t 5) (.t 6),none⟩,
  ⟨(some 2),.mv (.t 7),none⟩])
 .ret)))
def bY {q:Nat} {neg:Bool} {x:V} {k k':V→Prop} (h:Iz q neg x k) (hm: ∀t,k (.b t)→k' (.b t)):Iz q neg x k':=by
 unfold Iz at *;split at h<;>first|exact hm _ h|exact⟨fun e t=>hm _ (h.1 e t),fun e=>hm _ (h.2 e)⟩|exact h.elim
def NQ {v:V} {σ:AH} {Q:R→AH→Prop} (h:Q (.ret v) σ):Aw σ v Q:=⟨v,σ,fun _ _ h=>h,.refl _,h⟩
def gD {ρ:Ren} {f:Bool}:RV ρ (.l [] f) (.l [] f):=by simp only[RV];exact⟨[],rfl,rfl⟩
section
attribute [local irreducible] BC Aw Ai AV AM Ah AU AW AN Ag AQ AS A3 BA Ab A8 Ak W Iz
def mb {sz b:Nat} {v:V} {σ:AH} {Q:R→AH→Prop} (h1:Iz 1 false v fun t=>(t= .b true→Aw σ (.l [] true) Q)∧(t= .b false→AM b σ sz (.l [] true) v fun v' σ'=>Aw σ' v' Q)) :
    W P (Tn sz b) (Ua [.t 2] Q) [(0,v)] σ:=by
 conv=>whnf
 repeat((first|(refine Aq ?_;intro K U)|(refine Aa ?_;intro I C G F)|(apply G;clear F C G I)|(apply U;clear U K)|fail);conv=>whnf)
 refine bY h1 fun t ht=>?_
 conv=>whnf
 repeat((first|(apply G;clear F C G I)|refine Bl ?_|(apply U;clear U K)|fail);conv=>whnf)
 refine⟨fun h=>?_,fun h=>?_⟩
 ·subst h
  conv=>whnf
  repeat((first|(refine Aq ?_;intro K U)|(refine Aa ?_;intro I C G F)|(apply G;clear F C G I)|refine Dd ?_|(apply U;clear U K)|(clear U K));conv=>whnf)
  exact ht.1 rfl
 ·subst h
  conv=>whnf
  repeat((first|(refine Aq ?_;intro K U)|(refine Aa ?_;intro I C G F)|refine Bz ?_|(apply U;clear U K)|fail);conv=>whnf)
  refine MC (ht.2 rfl) fun v' σ' hq=>?_
  conv=>whnf
  repeat((first|(apply G;clear F C G I)|refine Dd ?_|(apply U;clear U K)|fail);conv=>whnf)
  exact hq
end
def im {f : FuncId} {n sz b:Nat} (h: ∀(args:List V) (σ:AH) (Q:R→AH→Prop),args.length≤n→T P (Tn sz b) (Ua [.t 2] Q) (BD 0 args) σ→BC P f args σ Q) (hn:1≤n) (hb:b≤131072:=by decide):N8 P f (.aE (XK sz)):=by
 intro vs s r s' hc ρ vs' σ hv hs Q hQ
 have main: ∀ {v v':V} {ys:List (List V)},vs= [v]→vs'= [v']→RV ρ v v'→Ig s sz v=some ys→(ys= []→r= .ret (.l [] true)∧s'=s)→
  (ys≠[]→(ys.all (fun e=>e.all CL)&&Nat.ble ys.length 1073741824)=true∧s.nx≤MX∧r= .ret (.sl s.nx ys.length 0)∧s'=⟨s.nx+1,Tr.set (some (.arr sz ys)) BF s.t s.nx⟩)→
  (∀k:V→Prop,(ys= []→ ∀t,k (.b t))→(ys≠[]→k (.b false))→Iz 1 false v' k)→BC P f vs' σ Q:=fun {v v' ys} e1 e2 hr hy h0 h1 hk=>by
  subst e1;subst e2;refine h _ _ _ hn (nE (mb (hk _ (fun e t=>⟨fun _=>?_,fun _=>?_⟩) fun e=>⟨fun h=>(by cases h),fun _=>?_⟩)))
  ·obtain⟨rfl,rfl⟩:=h0 e
   exact NQ (hQ ρ _ σ (.refl _) ⟨_,gD,rfl⟩ hs)
  ·obtain⟨rfl,rfl⟩:=h0 e
   refine Hf hs hy hr fun ys' hr'=>?_
   have:ys'= []:=by
    have:=hr'.len;rw[e]at this;exact YL.1 this
   subst this;exact⟨fun e he=>(by cases he),fun e he=>(by cases he),⟨Nat.zero_le _,by simp⟩,fun _=>NQ (hQ ρ _ σ (.refl _) ⟨_,gD,rfl⟩ hs),fun h=>absurd rfl h⟩
  ·obtain⟨g1,g2,rfl,rfl⟩:=h1 e
   simp only[BJ]at g1;refine Hf hs hy hr fun ys' hr'=>?_
   have hl:=hr'.len;have hne:ys'≠[]:=fun e'=>e (by rw[e']at hl;exact YL.1 hl.symm)
   refine⟨L3 g1.1 hr',fun e he=>(by cases he),?_,fun e=>absurd e hne,fun _=>⟨rfl,fun n cap hn0 hc=>?_⟩⟩
   ·have:=S3 (b:=b) (L:=ys.length) (by simp only[uz,BJ];exact⟨g1.2,Nat.ble_eq_true_of_le hb⟩)
    simp only[List.length_nil,HD];rw[hl];exact this
   ·obtain⟨ρ',q1,q2,q3⟩:=hs.new g2 hn0 cap (o:= .arr sz ys) (o':= .arr sz ys' cap) ⟨_,hr',rfl⟩
    refine NQ (hQ ρ' _ _ q1 ?_ ?_)
    ·refine⟨_,?_,rfl⟩
     simp only[RV];exact⟨_,q2,by simp[hl]⟩
    ·simpa using q3
 have parts: ∀ {ys:List (List V)},(match some ys with
  | some []=>some (R.ret (V.l [] true),s)
  | some (y::ys)=>bif (y::ys).all (fun e=>e.all CL)&&Nat.ble (y::ys).length 1073741824 then s.new (.arr sz (y::ys)) fun i s'=>some (.ret (.sl i (y::ys).length 0),s')else none
  | none=>none)=some (r,s')→(ys= []→r= .ret (.l [] true)∧s'=s)∧
    (ys≠[]→(ys.all (fun e=>e.all CL)&&Nat.ble ys.length 1073741824)=true∧s.nx≤MX∧r= .ret (.sl s.nx ys.length 0)∧s'=⟨s.nx+1,Tr.set (some (.arr sz ys)) BF s.t s.nx⟩):=fun {ys} hc=>by
  cases ys with
  | nil=>cases hc;exact⟨fun _=>⟨rfl,rfl⟩,fun h=>absurd rfl h⟩
  | cons y ys=>
    obtain⟨h1,h2⟩:=AZ hc;obtain⟨h3,h4⟩:=St.Hy h2;cases h4;exact⟨fun h=>(by cases h),fun _=>⟨h1,h3,rfl,rfl⟩⟩
 unfold XK at hc;split at hc
 ·rename_i es f
  obtain⟨v',l',k1,k2,rfl⟩:=hv;obtain rfl:l'= []:=k2;cases hy:Ig s sz (.l es f)with
  | none=>rw[hy]at hc;cases hc
  | some ys=>
    rw[hy]at hc;obtain⟨p1,p2⟩:=parts hc;refine main rfl rfl k1 hy p1 p2 fun k h0 h1=>?_
    simp only[RV]at k1;obtain⟨es',k3,rfl⟩:=k1;have hl:=(FZ.1 k3).len
    have he:ys=es:=by
     simp only[Ig]at hy;exact(Option.some.inj (AZ hy).2).symm
    subst he;unfold Iz;exact⟨fun e=>h0 (by rw[e]at hl;exact YL.1 hl.symm),fun e=>h1 fun e'=>e (by rw[e']at hl;exact YL.1 hl)⟩
 ·rename_i m len c
  obtain⟨v',l',k1,k2,rfl⟩:=hv;obtain rfl:l'= []:=k2;cases hy:Ig s sz (.sl m len c)with
  | none=>rw[hy]at hc;cases hc
  | some ys=>
    rw[hy]at hc;obtain⟨p1,p2⟩:=parts (ys:=ys) hc;refine main rfl rfl k1 hy p1 p2 fun k h0 h1=>?_
    simp only[RV]at k1;obtain⟨m',k3,rfl⟩:=k1;unfold Iz;show k (.b false);by_cases e:ys= []
    ·exact h0 e false
    ·exact h1 e
 ·cases hc
end Go.Gl
namespace Go.Gl
variable {P:Program}
structure dI (P:Program) where
 k:Nat
 fs:aB
 ok:N8 P k fs
def vL:List (dI P)→Tr aB
 | []=> .leaf
 | e::r=>bif Nat.ble e.k 1000000 then Tr.set (some e.fs) BF (vL r) e.k else vL r
def W9: ∀l:List (dI P),Yf (fun i=>N8 P i) id (vL l)
 | []=>mr
 | e ::r=>by
   unfold vL;cases h:Nat.ble e.k 1000000 with
   | false=>exact W9 r
   | true=>
     have hk:e.k+1<2 ^ BF:=by
      have:=Nat.le_of_ble_eq_true h;have e2:(2:Nat) ^ BF=1099511627776:=by decide
      omega
     intro j a ha;rw[cond_true,Tr.D2 BF _ _ hk]at ha;split at ha
     ·next e1=>subst e1;cases ha;exact e.ok
     ·exact W9 r j a ha
def eX {k n:Nat} {fn:Func} {ac:AY} {rs:List RS} (pu fz:List Nat) (hf:P.funcs[k]? =some fn)
    (hn:fn.ntmps=n:=by conv=>lhs;reduce)
    (hr:MT P fn.results.toList=some rs:=by conv=>lhs;reduce)
    (hc:Z8 (rs.map vC) ((fn.body.bind (res P fn.ntmps pu fz)).getD .skip) [] (rs.map vC)=ac:=by conv=>lhs;reduce)
    (hb:fn.body.bind (res P fn.ntmps pu fz)=some (erase ac):=by kernel_rfl) (hok:okF P k=true:=by kernel_rfl):dI P:=
 ⟨k,.fn n ac rs,fun _ _ _ ha h=>Ee hf hok hb hr (hn ▸ ha) h⟩
def eZ {k n:Nat} {fn:Func} {ac:AY} {rs:List RS} (pu fz:List Nat) (hf:P.funcs[k]? =some fn)
    (hn:fn.ntmps=n:=by conv=>lhs;reduce)
    (hr:MT P fn.results.toList=some rs:=by conv=>lhs;reduce)
    (hc:Z8 (rs.map vC) ((fn.body.bind (res P fn.ntmps pu fz)).getD .skip) [] (rs.map vC)=ac:=by conv=>lhs;reduce)
    (hb:fn.body.bind (res P fn.ntmps pu fz)=some (erase ac):=by kernel_rfl) (hok:okF P k=true:=by kernel_rfl):dI P:=
 ⟨k,.vM n ac rs,fun _ _ _ ha h=>Ee hf hok hb hr (hn ▸ ha) h⟩
def eC {k:Nat} {fn:Func} (sz b:Nat) (hf:P.funcs[k]? =some fn) (hb:fn.body.bind (res P fn.ntmps [] [])=some (erase (Tn sz b)):=by kernel_rfl)
    (hr:MT P fn.results.toList=some [.t 2]:=by kernel_rfl) (hok:okF P k=true:=by kernel_rfl) (hn:Nat.ble 1 fn.ntmps=true:=by kernel_rfl) (hs:Nat.ble b 131072=true:=by kernel_rfl):dI P:=
 ⟨k,.aE (XK sz),im (sz:=sz) (b:=b) (fun _ _ _ ha h=>Ee hf hok hb hr ha h) (Nat.le_of_ble_eq_true hn) (Nat.le_of_ble_eq_true hs)⟩
structure MM (P:Program) where
 m:E5
 ok:G9 P m
def MM.add (M:MM P) {f:Nat} {vs:List V} {v:V} (h:CG vs=true∧BT v=true∧Pure P f vs v):MM P:=⟨pH M.m f vs v,m6 M.ok h⟩
end Go.Gl
namespace Go.Gl
open Go.Proofs
set_option maxRecDepth 100000
set_option maxHeartbeats 4000000
def e17:=eX [] [] Tryz.func17
def e66:=eZ [] [] Tryz.func66
def e18:=eX [] [] Tryz.func18
def e19:=eX [] [] Tryz.func19
def e23:=eX [] [] Tryz.func23
def e22:=eX [] [] Tryz.func22
def e38:=eX [] [] Tryz.func38
def e67:=eZ [] [] Tryz.func67
def e15:=eX [] [] Tryz.func15
def e40:=eX [] [] Tryz.func40
def e31:=eX [] [] Tryz.func31
def e25:=eX [] [] Tryz.func25
def e69:=eX [] [] Tryz.func69
def e68:=eX [] [] Tryz.func68
def e27:=eX [] [] Tryz.func27
def e70:=eX [] [] Tryz.func70
def e59:=eX [] [] Tryz.func59
def e73:=eX [] [] Tryz.func73
def e72:=eX [] [] Tryz.func72
def e71:=eX [] [] Tryz.func71
def e74:=eX [] [] Tryz.func74
def e78:=eX [] [] Tryz.func78
def e100:=eX [] [] Tryz.func100
def e101:=eZ [] [] Tryz.func101
def e62:=eX [] [] Tryz.func62
def e102:=eX [] [] Tryz.func102
def e137:=eX [] [] Tryz.func137
def e60:=eX [] [] Tryz.func60
def e84:=eX [] [] Tryz.func84
def e82:=eX [] [] Tryz.func82
def e83:=eX [] [] Tryz.func83
def e92:=eX [] [] Tryz.func92
def e93:=eX [] [] Tryz.func93
def e81:=eX [] [] Tryz.func81
def e34:=eX [] [] Tryz.func34
def e131:=eX [] [] Tryz.func131
def e132:=eX [] [] Tryz.func132
def e138:=eX [] [] Tryz.func138
def e140:=eX [] [] Tryz.func140
def e139:=eX [] [] Tryz.func139
def e144:=eX [] [] Tryz.func144
def e79:=eX [] [] Tryz.func79
def e49:=eX [] [] Tryz.func49
def e159:=eX [] [] Tryz.func159
def e133:=eX [] [] Tryz.func133
def e134:=eX [] [] Tryz.func134
def e160:=eX [] [] Tryz.func160
def e61:=eX [] [] Tryz.func61
def e146:=eX [] [] Tryz.func146
def e147:=eX [] [] Tryz.func147
def e150:=eX [] [] Tryz.func150
def e151:=eZ [] [] Tryz.func151
def e118:=eX [] [] Tryz.func118
def e152:=eX [] [] Tryz.func152
end Go.Gl
