import Derived.Test.YtegbmnmnaijioaaGreatProg
import Derived.KernelRfl
import Derived.Test.YtegbmnmnaijioaaGreatB6
import Derived.Test.YtegbmnmnaijioaaGreatB17
set_option linter.all false
set_option linter.defProp false
noncomputable section
namespace Go.Gl
variable {P:Program}
structure CH where
 M:Nat
 E:Env
abbrev Ao:=Option (Af×CH×St)
def J9 {α β:Type} (c:Bool) (x:Option α) (g:α→Option β):ob (bif c then x else none) g=bif c then ob x g else none:=by cases c<;>rfl
def gj (env:Env) (n:Nat) (K:V→Ao):Ao:=@List.rec (Nat×V) (fun _=>Nat→(V→Ao)→Ao) (fun _ _=>none) (fun p _ ih n K=>@Bool.rec (fun _=>Ao) (ih n K) (K p.2) (Nat.beq p.1 n)) env n K
def jX (env:Env) (n:Nat) (K:V→Ao):gj env n K=ob (get n env) K:=by
 induction env with
 | nil=>rfl
 | cons p r ih=>
   obtain⟨j,v⟩:=p;show @Bool.rec (fun _=>Ao) (gj r n K) (K v) (Nat.beq j n)=ob (bif Nat.beq j n then some v else get n r) K;cases Nat.beq j n
   ·exact ih
   ·rfl
def Rk {α:Type} (cs:List α) (i:Nat) (K:α→Ao):Ao:=@List.rec α (fun _=>Nat→(α→Ao)→Ao) (fun _ _=>none) (fun v _ ih i K=>@Nat.rec (fun _=>Ao) (K v) (fun j _=>ih j K) i) cs i K
def K1 {α:Type} (cs:List α): ∀(i:Nat) (K:α→Ao),Rk cs i K=ob cs[i]? K:=by
 induction cs with
 | nil=>intro i K;rfl
 | cons v r ih=>
   intro i K;cases i with
   | zero=>rfl
   | succ j=>exact ih j K
def Fu {α:Type} (cs:List α):Nat:=@List.rec α (fun _=>Nat) 0 (fun _ _ ih=>Nat.succ ih) cs
def FG {α:Type} (cs:List α):Fu cs=cs.length:=by
 induction cs with
 | nil=>rfl
 | cons v r ih=>show Nat.succ (Fu r)=_;rw[ih];rfl
def UC {α:Type} (cs:List α) (n:Nat):List α:=@Nat.rec (fun _=>List α→List α) (fun cs=>cs) (fun _ ih cs=>@List.rec α (fun _=>(List α→List α)→List α) (fun _=>[]) (fun _ r _ ih=>ih r) cs ih) n cs
def O0 {α:Type}: ∀(n:Nat) (cs:List α),UC cs n=cs.drop n
 | 0,cs=>rfl
 | n+1,[]=>rfl
 | n+1,v::r=>O0 n r
def Xd {α:Type} (cs:List α) (n:Nat):List α:=@List.rec α (fun _=>Nat→List α) (fun _=>[]) (fun v _ ih n=>@Nat.rec (fun _=>List α) [] (fun j _=>v::ih j) n) cs n
def eG {α:Type} (cs:List α): ∀n:Nat,Xd cs n=cs.take n:=by
 induction cs with
 | nil=>intro n;cases n<;>rfl
 | cons v r ih=>
   intro n;cases n with
   | zero=>rfl
   | succ j=>show v::Xd r j=_;rw[ih];rfl
def Vy {α:Type} (cs:List α) (n:Nat) (x:α):List α:=@List.rec α (fun _=>Nat→α→List α) (fun _ _=>[]) (fun v r ih n x=>@Nat.rec (fun _=>List α) (x::r) (fun j _=>v::ih j x) n) cs n x
def Sa {α:Type} (cs:List α) (x:α): ∀n:Nat,Vy cs n x=cs.set n x:=by
 induction cs with
 | nil=>intro n;rfl
 | cons v r ih=>
   intro n;cases n with
   | zero=>rfl
   | succ j=>show v::Vy r j x=_;rw[ih];rfl
def mq {α:Type} (f:α→Bool) (cs:List α):Bool:=@List.rec α (fun _=>(α→Bool)→Bool) (fun _=>true) (fun v _ ih f=>@Bool.rec (fun _=>Bool) false (ih f) (f v)) cs f
def kN {α:Type} (f:α→Bool) (cs:List α):mq f cs=cs.all f:=by
 induction cs with
 | nil=>rfl
 | cons v r ih=>
   show @Bool.rec (fun _=>Bool) false (mq f r) (f v)=_;rw[NN,ih];cases f v<;>rfl
def dT (v:V) (K:V→Ao):Ao:=@V.rec (fun _=>V→(V→Ao)→Ao) (fun _=>Unit) (fun _=>Unit) (fun _ v K=>K v) (fun _ _ v K=>K v) (fun _ v K=>K v) (fun v K=>K v) (fun _ _ v K=>@Bool.rec (fun _=>Ao) none (K v) (BL v)) (fun _ _ v K=>@Bool.rec (fun _=>Ao) none (K v) (BL v)) (fun _ _ _ v K=>@Bool.rec (fun _=>Ao) none (K v) (BL v)) (fun _ _ _ v K=>@Bool.rec (fun _=>Ao) none (K v) (BL v)) (fun _ _ _ _ v K=>@Bool.rec (fun _=>Ao) none (K v) (BL v)) (fun _ _ _ _ v K=>@Bool.rec (fun _=>Ao) none (K v) (BL v)) (fun _ v K=>@Bool.rec (fun _=>Ao) none (K v) (BL v)) (fun v K=>K v) (fun _ _ _ _ _ v K=>@Bool.rec (fun _=>Ao) none (K v) (BL v)) (fun v K=>K v) (fun _ _ _ v K=>@Bool.rec (fun _=>Ao) none (K v) (BL v)) (fun v K=>K v) (fun _ _ v K=>@Bool.rec (fun _=>Ao) none (K v) (BL v)) (fun _ _ v K=>@Bool.rec (fun _=>Ao) none (K v) (BL v)) (fun v K=>@Bool.rec (fun _=>Ao) none (K v) (BL v)) () (fun _ _ _ _=>()) () (fun _ _ _ _=>()) v v K
def BR {α:Type} (c:Bool) (x y:α): @Bool.rec (fun _=>α) y x c=bif c then x else y:=by cases c<;>rfl
def ae (v:V) (K:V→Ao):dT v K=ob (bif BL v then some v else none) K:=by
 rw[J9];cases v<;>first|rfl|exact BR _ _ _
def Nb (M n:Nat):Bool:=Nat.beq (Nat.land (Nat.shiftRight M n) 1) 1
def Rq (e:CH) (n:Nat):Option V:=bif Nb e.1 n then get n e.2 else none
def IX (e:CH) (env:Env):Prop:= ∀n,Rq e n=get n env
def Bp (x:Bj) (e:CH) (K:V→Ao):Ao:=@Bj.rec (fun _=>CH→(V→Ao)→Ao) (fun n e K=>@Bool.rec (fun _=>Ao) none (gj e.2 n K) (Nb e.1 n)) (fun v _ K=>dT v K) x e K
def BH {e:CH} {env:Env} (he:IX e env) (x:Bj) (K:V→Ao):Bp x e K=ob (DM env x) K:=by
 cases x with
 | t n=>
   show @Bool.rec (fun _=>Ao) none (gj e.2 n K) (Nb e.1 n)=ob (get n env) K;rw[←he n,Rq,BR,J9,jX]
 | c v=>exact ae v K
def Kg (l:List Bj) (env:CH) (K:List V→Ao):Ao:=@List.rec Bj (fun _=>CH→(List V→Ao)→Ao) (fun _ K=>K []) (fun x _ ih env K=>Bp x env fun v=>ih env fun vs=>K (v::vs)) l env K
def Bo {e:CH} {env:Env} (he:IX e env): ∀(l:List Bj) (K:List V→Ao),Kg l e K=ob (NT env l) K
 | [],K=>rfl
 | x ::r,K=>by
   show(Bp x e fun v=>Kg r e fun vs=>K (v::vs))=_;rw[BH he];simp only[NT];cases DM env x with
   | none=>rfl
   | some v=>
     simp only[ob];rw[Bo he r];cases NT env r<;>rfl
def V0 (x:Option Bj) (e:CH) (K:Option V→Ao):Ao:=@Option.rec Bj (fun _=>CH→(Option V→Ao)→Ao) (fun _ K=>K none) (fun x e K=>Bp x e fun v=>K (some v)) x e K
def Bu {e:CH} {env:Env} (he:IX e env) (x:Option Bj) (K:Option V→Ao):V0 x e K=ob (J1 env x) K:=by
 cases x with
 | none=>rfl
 | some x=>
   show(Bp x e fun v=>K (some v))=_;rw[BH he];simp only[J1];cases DM env x<;>rfl
def sr (k:IntKind):Nat:=@IntKind.rec (fun _=>Nat) 0 1 2 3 4 5 6 7 k
def Lu (a b:IntKind):Bool:=Nat.beq (sr a) (sr b)
def jm (a b:IntKind):Lu a b=decide (a=b):=by cases a<;>cases b<;>rfl
def s6 (a b:Int):Int:=@Int.rec (fun _=>Int→Int) (fun m b=>@Int.rec (fun _=>Nat→Int) (fun n m=>Int.ofNat (Nat.add m n)) (fun n m=>Int.ofNat m+Int.negSucc n) b m) (fun m b=>Int.negSucc m+b) a b
def kT (a b:Int):s6 a b=a+b:=by cases a<;>cases b<;>rfl
def sc (a b:Int):Int:=@Int.rec (fun _=>Int→Int) (fun m b=>@Int.rec (fun _=>Nat→Int) (fun n m=>@Bool.rec (fun _=>Int) (Int.negSucc (Nat.sub n (Nat.succ m))) (Int.ofNat (Nat.sub m n)) (Nat.ble n m)) (fun n m=>Int.ofNat m - Int.negSucc n) b m) (fun m b=>Int.negSucc m - b) a b
def gw (a b:Int):sc a b=a - b:=by
 cases a with
 | negSucc m=>rfl
 | ofNat m=>
   cases b with
   | negSucc n=>rfl
   | ofNat n=>
     show @Bool.rec (fun _=>Int) (Int.negSucc (n - (m+1))) (Int.ofNat (m - n)) (Nat.ble n m)=_;cases h:Nat.ble n m with
     | true=>
       have:=Nat.le_of_ble_eq_true h;show Int.ofNat (m - n)=(m:Int) - (n:Int);simp only[Int.ofNat_eq_natCast];omega
     | false=>
       have: ¬n≤m:=fun h'=>by rw[Nat.ble_eq_true_of_le h']at h;cases h
       show Int.negSucc (n - (m+1))=(m:Int) - (n:Int);omega
def bC (a b:Int):Bool:=@Int.rec (fun _=>Int→Bool) (fun m b=>@Int.rec (fun _=>Nat→Bool) (fun n m=>Nat.ble (Nat.succ m) n) (fun _ _=>false) b m) (fun m b=>@Int.rec (fun _=>Nat→Bool) (fun _ _=>true) (fun n m=>Nat.ble (Nat.succ n) m) b m) a b
def R8 (a b:Int):bC a b=Ln a b:=by cases a<;>cases b<;>rfl
def uo (a b:Int):Bool:=@Int.rec (fun _=>Int→Bool) (fun m b=>@Int.rec (fun _=>Nat→Bool) (fun n m=>Nat.beq m n) (fun _ _=>false) b m) (fun m b=>@Int.rec (fun _=>Nat→Bool) (fun _ _=>false) (fun n m=>Nat.beq m n) b m) a b
def oa (a b:Int):uo a b=ZD a b:=by cases a<;>cases b<;>rfl
def Rm (b:Bool):Bool:=@Bool.rec (fun _=>Bool) true false b
def im (b:Bool):Rm b= !b:=by cases b<;>rfl
def bO (a:Int):Nat:=@Int.rec (fun _=>Nat) (fun n=>n) (fun _=>0) a
def OQ (a:Int):bO a=a.toNat:=by cases a<;>rfl
def Xc (k:IntKind) (n:Int):Int:=@IntKind.rec (fun _=>Int→Int) (fun n=>IntKind.i8.wrap n) (fun n=>IntKind.i16.wrap n) (fun n=>IntKind.i32.wrap n)
 (fun n=>@Int.rec (fun _=>Int) (fun m=>@Bool.rec (fun _=>Int) (IntKind.i64.wrap (Int.ofNat m)) (Int.ofNat m) (Nat.ble m 9223372036854775807)) (fun m=>@Bool.rec (fun _=>Int) (IntKind.i64.wrap (Int.negSucc m)) (Int.negSucc m) (Nat.ble m 9223372036854775807)) n)
 (fun n=>IntKind.u8.wrap n) (fun n=>IntKind.u16.wrap n) (fun n=>IntKind.u32.wrap n)
 (fun n=>@Int.rec (fun _=>Int) (fun m=>@Bool.rec (fun _=>Int) (IntKind.u64.wrap (Int.ofNat m)) (Int.ofNat m) (Nat.ble m 18446744073709551615)) (fun m=>IntKind.u64.wrap (Int.negSucc m)) n) k n
def du (k:IntKind) (n:Int):Xc k n=k.wrap n:=by
 cases k<;>try rfl
 ·cases n with
  | ofNat m=>
    have:=Iw .i64 (.ofNat m);simp only[IB]at this;rw[←this];show @Bool.rec (fun _=>Int) _ _ _=_;cases Nat.ble m 9223372036854775807<;>rfl
  | negSucc m=>
    show @Bool.rec (fun _=>Int) (IntKind.i64.wrap (Int.negSucc m)) (Int.negSucc m) (Nat.ble m 9223372036854775807)=_;cases h:Nat.ble m 9223372036854775807 with
    | false=>rfl
    | true=>
      have:=Nat.le_of_ble_eq_true h;show Int.negSucc m=_;exact(wrap64 (by omega) (by omega)).symm
 ·cases n with
  | ofNat m=>
    have:=Iw .u64 (.ofNat m);simp only[IB]at this;rw[←this];show @Bool.rec (fun _=>Int) _ _ _=_;cases Nat.ble m 18446744073709551615<;>rfl
  | negSucc m=>rfl
def se (k:IntKind) (a b:Int):Int:=@Int.rec (fun _=>Int→IntKind→Int) (fun m b _=>Int.ofNat (Nat.shiftRight m (Nat.min (bO b) k.bits))) (fun m b k=>(Int.negSucc m).fdiv (2 ^ (min b.toNat k.bits))) a b k
def iB (k:IntKind) (a b:Int):se k a b=a.fdiv (2 ^ (min b.toNat k.bits)):=by
 cases a with
 | negSucc m=>rfl
 | ofNat m=>
   show Int.ofNat (m >>> (min (bO b) k.bits))=_;rw[OQ,Nat.shiftRight_eq_div_pow];have:(2:Int) ^ (min b.toNat k.bits)=((2 ^ (min b.toNat k.bits):Nat):Int):=by simp
   rw[this];exact(Int.ofNat_fdiv _ _)
def sf (k:IntKind) (a b:Int):Int:=@Int.rec (fun _=>Int→IntKind→Int) (fun m b _=>Int.ofNat (Nat.shiftLeft m (Nat.min (bO b) k.bits))) (fun m b k=>(Int.negSucc m)*(2 ^ (min b.toNat k.bits))) a b k
def iE (k:IntKind) (a b:Int):sf k a b=a*(2 ^ (min b.toNat k.bits)):=by
 cases a with
 | negSucc m=>rfl
 | ofNat m=>
   show Int.ofNat (m <<< (min (bO b) k.bits))=_;rw[OQ,Nat.shiftLeft_eq];simp
def uT (v:V) (K:IntKind→Int→Ao):Ao:=@V.rec (fun _=>(IntKind→Int→Ao)→Ao) (fun _=>Unit) (fun _=>Unit) (fun _ K=>none) (fun k n K=>K k n) (fun _ K=>none) (fun K=>none) (fun _ _ K=>none) (fun _ _ K=>none) (fun _ _ _ K=>none) (fun _ _ _ K=>none) (fun _ _ _ _ K=>none) (fun _ _ _ _ K=>none) (fun _ K=>none) (fun K=>none) (fun _ _ _ _ _ K=>none) (fun K=>none) (fun _ _ _ K=>none) (fun K=>none) (fun _ _ K=>none) (fun _ _ K=>none) (fun K=>none) () (fun _ _ _ _=>()) () (fun _ _ _ _=>()) v K
def uS:V→Option (IntKind×Int)| .i k n=>some (k,n)|_=>none
def Wd (v:V) (K:IntKind→Int→Ao):uT v K=ob (uS v) fun p=>K p.1 p.2:=by cases v<;>rfl
def gn (op:BinOp) (vx vy:V) (K:V→Ao):Ao:=uT vx fun ka a=>uT vy fun kb b=>@BinOp.rec (fun _=>IntKind→Int→IntKind→Int→(V→Ao)→Ao) (fun ka a kb b K=>@Bool.rec (fun _=>Ao) none (K (.i ka (Xc ka (s6 a b)))) (Lu ka kb)) (fun ka a kb b K=>@Bool.rec (fun _=>Ao) none (K (.i ka (Xc ka (sc a b)))) (Lu ka kb)) (fun ka a kb b K=>ob (Tq .mul (.i ka a) (.i kb b)) K) (fun ka a kb b K=>ob (Tq .quo (.i ka a) (.i kb b)) K) (fun ka a kb b K=>ob (Tq .rem (.i ka a) (.i kb b)) K) (fun ka a kb b K=>@Bool.rec (fun _=>Ao) none (K (.i ka (OP .and ka a b))) (Lu ka kb)) (fun ka a kb b K=>@Bool.rec (fun _=>Ao) none (K (.i ka (OP .or ka a b))) (Lu ka kb)) (fun ka a kb b K=>@Bool.rec (fun _=>Ao) none (K (.i ka (OP .xor ka a b))) (Lu ka kb)) (fun ka a kb b K=>@Bool.rec (fun _=>Ao) none (K (.i ka (Xc ka (sf ka a b)))) (Rm (bC b 0))) (fun ka a kb b K=>@Bool.rec (fun _=>Ao) none (K (.i ka (se ka a b))) (Rm (bC b 0))) (fun ka a kb b K=>@Bool.rec (fun _=>Ao) none (K (.i ka (OP .andNot ka a b))) (Lu ka kb)) (fun ka a kb b K=>@Bool.rec (fun _=>Ao) none (K (.b (uo a b))) (Lu ka kb)) (fun ka a kb b K=>@Bool.rec (fun _=>Ao) none (K (.b (Rm (uo a b)))) (Lu ka kb)) (fun ka a kb b K=>@Bool.rec (fun _=>Ao) none (K (.b (bC a b))) (Lu ka kb)) (fun ka a kb b K=>@Bool.rec (fun _=>Ao) none (K (.b (Rm (bC b a)))) (Lu ka kb)) (fun ka a kb b K=>@Bool.rec (fun _=>Ao) none (K (.b (bC b a))) (Lu ka kb)) (fun ka a kb b K=>@Bool.rec (fun _=>Ao) none (K (.b (Rm (bC a b)))) (Lu ka kb)) op ka a kb b K
def kJ (op:BinOp) (vx vy:V) (K:V→Ao):gn op vx vy K=ob (Tq op vx vy) K:=by
 unfold gn;rw[Wd];cases vx<;>first|rfl|skip
 rename_i ka a;simp only[uS,ob];rw[Wd];cases vy<;>first|(cases op<;>rfl)|skip
 rename_i kb b;simp only[uS,ob];cases op<;>first|rfl|skip
 all_goals
  simp only[Tq];simp only[BR,jm,du,kT,gw,oa,R8,im,iE,iB,Iw,N0,ob]
  first
   | (cases decide (ka=kb)<;>rfl)
   | (cases Ln b 0<;>rfl)
def ZO {α:Type} (t:Tr α) (k:Nat):Option α:=@Tr.rec α (fun _=>Nat→Option α) (fun _=>none) (fun o _ _ ihl ihr k=>@Nat.rec (fun _=>Option α) o (fun j _=>@Bool.rec (fun _=>Option α) (ihr (Nat.div j 2)) (ihl (Nat.div j 2)) (Nat.beq (Nat.mod j 2) 0)) k) t k
def Sy {α:Type} (t:Tr α): ∀k:Nat,ZO t k=t.get k:=by
 induction t with
 | leaf=>intro k;rfl
 | node o l r ihl ihr=>
   intro k;cases k with
   | zero=>rfl
   | succ j=>
     show @Bool.rec (fun _=>Option α) (ZO r (j / 2)) (ZO l (j / 2)) (Nat.beq (j % 2) 0)=bif Nat.beq (j % 2) 0 then l.get (j / 2)else r.get (j / 2);rw[ihl,ihr];cases Nat.beq (j % 2) 0<;>rfl
def Ri {α β:Type} (x:Option α) (d:Nat) (t:Tr α) (k:Nat) (K:Tr α→β):β:=
 @Nat.rec (fun _=>Tr α→Nat→(Tr α→β)→β) (fun t _ K=>K t)
  (fun _ ih t k K=>@Tr.rec α (fun _=>Nat→(Tr α→β)→β)
   (fun k K=>@Nat.rec (fun _=>β) (K (.node x .leaf .leaf)) (fun j _=>@Bool.rec (fun _=>β) (ih .leaf (Nat.div j 2) fun r=>K (.node none .leaf r)) (ih .leaf (Nat.div j 2) fun l=>K (.node none l .leaf)) (Nat.beq (Nat.mod j 2) 0)) k)
   (fun o l r _ _ k K=>@Nat.rec (fun _=>β) (K (.node x l r)) (fun j _=>@Bool.rec (fun _=>β) (ih r (Nat.div j 2) fun r=>K (.node o l r)) (ih l (Nat.div j 2) fun l=>K (.node o l r)) (Nat.beq (Nat.mod j 2) 0)) k) t k K) d t k K
def Gb {α β:Type} (x:Option α): ∀(d:Nat) (t:Tr α) (k:Nat) (K:Tr α→β),Ri x d t k K=Tr.put x d t k K
 | 0,t,k,K=>rfl
 | d+1,.leaf,0,K=>rfl
 | d+1,.node _ _ _,0,K=>rfl
 | d+1,.leaf,j+1,K=>by
   show @Bool.rec (fun _=>β) (Ri x d .leaf (j / 2) fun r=>K (.node none .leaf r)) (Ri x d .leaf (j / 2) fun l=>K (.node none l .leaf)) (Nat.beq (j % 2) 0)=bif Nat.beq (j % 2) 0 then _ else _;rw[Gb x d,Gb x d,BR]
 | d+1,.node o l r,j+1,K=>by
   show @Bool.rec (fun _=>β) (Ri x d r (j / 2) fun r=>K (.node o l r)) (Ri x d l (j / 2) fun l=>K (.node o l r)) (Nat.beq (j % 2) 0)=bif Nat.beq (j % 2) 0 then _ else _;rw[Gb x d,Gb x d,BR]
def bX (s:St) (o:EO) (K:Nat→St→Ao):Ao:=@Nat.rec (fun _=>Ao) (Ri (some o) BE s.t 0 fun t=>K 0 ⟨1,t⟩) (fun n _=>@Bool.rec (fun _=>Ao) none (Ri (some o) BE s.t (Nat.succ n) fun t=>K (Nat.succ n) ⟨Nat.succ (Nat.succ n),t⟩) (Nat.ble (Nat.succ n) Ls)) s.nx
def iw {γ:Type} (s:St) (o:EO) (f:Nat→St→Option γ) (K:γ→Ao):ob (s.new o f) K=bX s o fun i s'=>ob (f i s') K:=by
 obtain⟨n,t⟩:=s;cases n with
 | zero=>
   unfold bX;simp only[St.new];rw[Gb,Tr.put_eq,Tr.put_eq];rfl
 | succ n=>
   unfold bX;simp only[St.new];rw[Gb,Tr.put_eq,Tr.put_eq,BR,J9]
def tI (o:EO) (K:List V→Ao):Ao:=@EO.rec (fun _=>(List V→Ao)→Ao) (fun vs K=>K vs) (fun _ _ _=>none) (fun _ _=>none) (fun _ _ _ _ _ _=>none) o K
def na (o:EO) (K:Nat→List (List V)→Ao):Ao:=@EO.rec (fun _=>(Nat→List (List V)→Ao)→Ao) (fun _ _=>none) (fun sz es K=>K sz es) (fun _ _=>none) (fun _ _ _ _ _ _=>none) o K
def ui {α:Type} (o:Option α) (K:α→Ao):Ao:=@Option.rec α (fun _=>(α→Ao)→Ao) (fun _=>none) (fun a K=>K a) o K
def cW {α:Type} (o:Option α) (K:α→Ao):ui o K=ob o K:=by cases o<;>rfl
def Xk (s:St) (n:Nat) (K:List V→Ao):Ao:=ui (ZO s.t n) fun o=>tI o K
def SC (s:St) (n:Nat) (K:Nat→List (List V)→Ao):Ao:=ui (ZO s.t n) fun o=>na o K
def Uv (s:St) (n:Nat) (K:List V→Ao):Xk s n K=match s.t.get n with|some (.cs vs)=>K vs|_=>none:=by
 unfold Xk;rw[cW,Sy];cases s.t.get n with
 | none=>rfl
 | some o=>cases o<;>rfl
def Q4 (s:St) (n:Nat) (K:Nat→List (List V)→Ao):SC s n K=match s.t.get n with|some (.arr sz es)=>K sz es|_=>none:=by
 unfold SC;rw[cW,Sy];cases s.t.get n with
 | none=>rfl
 | some o=>cases o<;>rfl
def V6 (agg:Option Nat) (cs:List V) (off:Nat) (K:V→Ao):Ao:=@Option.rec Nat (fun _=>List V→Nat→(V→Ao)→Ao) (fun cs off K=>Rk cs off K)
 (fun n cs off K=>@Bool.rec (fun _=>Ao) (@Bool.rec (fun _=>Ao) none (K (.a (Xd (UC cs off) n))) (Nat.ble (Nat.add off n) (Fu cs))) (K (.a cs)) (@Bool.rec (fun _=>Bool) false (Nat.beq n (Fu cs)) (Nat.beq off 0))) agg cs off K
def Nv (agg:Option Nat) (cs:List V) (off:Nat) (K:V→Ao):V6 agg cs off K=ob (Tn agg cs off) K:=by
 cases agg with
 | none=>exact K1 cs off K
 | some n=>
   show @Bool.rec (fun _=>Ao) (@Bool.rec (fun _=>Ao) none (K (.a (Xd (UC cs off) n))) (Nat.ble (off+n) (Fu cs))) (K (.a cs)) (@Bool.rec (fun _=>Bool) false (Nat.beq n (Fu cs)) (Nat.beq off 0))=_;simp only[Tn];rw[eG,O0,FG,J9];cases h1:Nat.beq off 0 with
   | false=>exact BR _ _ _
   | true=>
     cases h2:Nat.beq n cs.length with
     | false=>exact BR _ _ _
     | true=>
       have:=Cu h1;subst this;have:=Cu h2;subst this;show K (.a cs)=_;rw[Nat.ble_eq_true_of_le (by omega)];simp[ob]
def bw (s:St) (agg:Option Nat) (x:V) (K:V→Ao):Ao:=@V.rec (fun _=>St→Option Nat→(V→Ao)→Ao) (fun _=>Unit) (fun _=>Unit) (fun _ s agg K=>none) (fun _ _ s agg K=>none) (fun _ s agg K=>none) (fun s agg K=>none) (fun n off s agg K=>Xk s n fun vs=>V6 agg vs off K) (fun cs _ s agg K=>V6 agg cs 0 K) (fun _ _ _ s agg K=>none) (fun _ _ _ s agg K=>none) (fun _ _ _ _ s agg K=>none) (fun n sz i off s agg K=>SC s n fun sz1 es=>@Bool.rec (fun _=>Ao) none (Rk es i fun e=>V6 agg e off K) (Nat.beq sz sz1)) (fun _ s agg K=>none) (fun s agg K=>none) (fun _ _ _ _ _ s agg K=>none) (fun s agg K=>none) (fun _ _ _ s agg K=>none) (fun s agg K=>none) (fun _ _ s agg K=>none) (fun _ _ s agg K=>none) (fun s agg K=>none) () (fun _ _ _ _=>()) () (fun _ _ _ _=>()) x s agg K
def ez (s:St) (agg:Option Nat) (x:V) (K:V→Ao):bw s agg x K=ob (Mz s agg x) K:=by
 cases x<;>first|rfl|skip
 ·rename_i n off
  refine(Uv _ _ _).trans ?_;simp only[Mz];cases s.t.get n with
  | none=>rfl
  | some o=>cases o<;>first|rfl|exact Nv _ _ _ _
 ·exact Nv _ _ _ _
 ·rename_i n sz i off
  refine(Q4 _ _ _).trans ?_;simp only[Mz];cases s.t.get n with
  | none=>rfl
  | some o=>
    cases o<;>first|rfl|skip
    rename_i sz1 es;simp only;rw[BR,J9,K1];congr 1;cases es[i]? with
    | none=>rfl
    | some e=>exact Nv _ _ _ _
def Gw (v:V) (K:List V→Ao):Ao:=@V.rec (fun _=>V→(List V→Ao)→Ao) (fun _=>Unit) (fun _=>Unit) (fun _ v K=>K [v]) (fun _ _ v K=>K [v]) (fun _ v K=>K [v]) (fun v K=>K [v]) (fun _ _ v K=>K [v]) (fun _ _ v K=>K [v]) (fun _ _ _ v K=>K [v]) (fun _ _ _ v K=>K [v]) (fun _ _ _ _ v K=>K [v]) (fun _ _ _ _ v K=>K [v]) (fun _ v K=>K [v]) (fun v K=>K [v]) (fun _ _ _ _ _ v K=>K [v]) (fun v K=>K [v]) (fun _ _ _ v K=>K [v]) (fun v K=>K [v]) (fun cs _ v K=>K cs) (fun _ _ v K=>none) (fun v K=>none) () (fun _ _ _ _=>()) () (fun _ _ _ _=>()) v v K
def Hc (v:V) (K:List V→Ao):Gw v K=ob (cellsOf v) K:=by cases v<;>rfl
def sj (v:V):Bool:=@V.rec (fun _=>Bool) (fun _=>Unit) (fun _=>Unit) (fun _=>true) (fun _ _=>true) (fun _=>true) (true) (fun _ _=>true) (fun _ _=>true) (fun _ _ _=>true) (fun _ _ _=>true) (fun _ _ _ _=>true) (fun _ _ _ _=>true) (fun _=>true) (true) (fun _ _ _ _ _=>true) (true) (fun _ _ _=>true) (true) (fun _ _=>false) (fun _ _=>false) (false) () (fun _ _ _ _=>()) () (fun _ _ _ _=>()) v
def ig:sj=CE:=funext fun v=>by cases v<;>rfl
def bT (cs:List V) (o:Nat) (vc:List V):List V:=@List.rec V (fun _=>List V→Nat→List V) (fun cs _=>cs) (fun v _ ih cs o=>ih (Vy cs o v) (Nat.succ o)) vc cs o
def Nj: ∀(vc cs:List V) (o:Nat),bT cs o vc=putAt cs o vc
 | [],_,_=>rfl
 | v::r,cs,o=>by
   show bT (Vy cs o v) (o+1) r=_;rw[Nj r,Sa];rfl
def gb (cs:List V) (o:Nat) (vc:List V):List V:=@Bool.rec (fun _=>List V) (bT cs o vc) vc (@Bool.rec (fun _=>Bool) false (Nat.beq (Fu vc) (Fu cs)) (Nat.beq o 0))
def Zk: ∀(vc pre cs:List V),vc.length=cs.length→putAt (pre++cs) pre.length vc=pre++vc:=by
 intro vc
 induction vc with
 | nil=>intro pre cs hl;cases cs with
   | nil=>rfl
   | cons _ _=>cases hl
 | cons x vc ih=>
   intro pre cs hl;cases cs with
   | nil=>cases hl
   | cons y cs=>
     simp only[putAt];rw[List.set_append_right _ _ (He _),Nat.sub_self,List.set_cons_zero];have:=ih (pre++[x]) cs (by simpa using hl);simp only[KY,KX,List.length_nil,G2,TR,List.singleton_append]at this;exact this
def YA (cs:List V) (o:Nat) (vc:List V):gb cs o vc=putAt cs o vc:=by
 unfold gb;cases h1:Nat.beq o 0 with
 | false=>exact Nj vc cs o
 | true=>
   rw[FG,FG];cases h2:Nat.beq vc.length cs.length with
   | false=>exact Nj vc cs o
   | true=>
     have:=Cu h1;subst this;exact(Zk vc [] cs (Cu h2)).symm
def cM (s:St) (sz:Nat) (a:V) (vc:List V) (K:St→Ao):Ao:=@V.rec (fun _=>St→Nat→List V→(St→Ao)→Ao) (fun _=>Unit) (fun _=>Unit) (fun _ s sz vc K=>none) (fun _ _ s sz vc K=>none) (fun _ s sz vc K=>none) (fun s sz vc K=>none) (fun n off s sz vc K=>Xk s n fun vs=>@Bool.rec (fun _=>Ao) none (Ri (some (.cs (gb vs off vc))) BE s.t n fun t=>K ⟨s.nx,t⟩) (Nat.ble (Nat.add off sz) (Fu vs))) (fun _ _ s sz vc K=>none) (fun _ _ _ s sz vc K=>none) (fun _ _ _ s sz vc K=>none) (fun _ _ _ _ s sz vc K=>none) (fun n s' i off s sz vc K=>SC s n fun s1 es=>@Bool.rec (fun _=>Ao) none (@Bool.rec (fun _=>Ao) none (Rk es i fun e=>Ri (some (.arr s1 (Vy es i (gb e off vc)))) BE s.t n fun t=>K ⟨s.nx,t⟩) (Nat.ble (Nat.add off sz) s')) (Nat.beq s' s1)) (fun _ s sz vc K=>none) (fun s sz vc K=>none) (fun _ _ _ _ _ s sz vc K=>none) (fun s sz vc K=>none) (fun _ _ _ s sz vc K=>none) (fun s sz vc K=>none) (fun _ _ s sz vc K=>none) (fun _ _ s sz vc K=>none) (fun s sz vc K=>none) () (fun _ _ _ _=>()) () (fun _ _ _ _=>()) a s sz vc K
def Rx (s:St) (sz:Nat) (a x:V) (K:St→Ao):Ao:=Gw x fun vc=>@Bool.rec (fun _=>Ao) none (@Bool.rec (fun _=>Ao) none (cM s sz a vc K) (mq sj vc)) (Nat.beq (Fu vc) sz)
def ZY (s : St) (sz:Nat) (a x:V) (K:St→Ao):Rx s sz a x K=ob (OV s sz a x) K:=by
 unfold Rx OV;rw[Hc];cases cellsOf x with
 | none=>rfl
 | some vc =>
   simp only[ob,FG,kN,ig];cases Nat.beq vc.length sz with
   | false=>rfl
   | true=>
     cases vc.all CE with
     | false=>rfl
     | true=>
       simp only[Bool.and_true,cond_true];show cM s sz a vc K=_;cases a<;>first|rfl|skip
       ·rename_i n off
        refine(Uv _ _ _).trans ?_;simp only;cases s.t.get n with
        | none=>rfl
        | some o=>
          cases o<;>first|rfl|skip
          rename_i vs;simp only;rw[Gb,Tr.put_eq,YA,FG,BR,Tr.put_eq];show(bif Nat.ble (off+sz) vs.length then _ else none)=_;cases Nat.ble (off+sz) vs.length<;>rfl
       ·rename_i n s' i off
        refine(Q4 _ _ _).trans ?_;simp only;cases s.t.get n with
        | none=>rfl
        | some o=>
          cases o<;>first|rfl|skip
          rename_i s1 es;simp only;rw[BR,BR,K1];show(bif Nat.beq s' s1 then(bif Nat.ble (off+sz) s' then _ else none)else none)=_;cases Nat.beq s' s1<;>cases Nat.ble (off+sz) s'<;>try rfl
          simp only[cond_true,Bool.and_true];cases es[i]? with
          | none=>rfl
          | some e=>
            simp only[ob];rw[Gb,Tr.put_eq,YA,Sa,Tr.put_eq]
def WX (off:Nat) (x:V) (K:V→Ao):Ao:=@V.rec (fun _=>Nat→(V→Ao)→Ao) (fun _=>Unit) (fun _=>Unit) (fun _ off K=>none) (fun _ _ off K=>none) (fun _ off K=>none) (fun off K=>none) (fun n o off K=>K (.p n (Nat.add o off))) (fun cs _ off K=>K (.rp (UC cs off))) (fun _ _ _ off K=>none) (fun _ _ _ off K=>none) (fun _ _ _ _ off K=>none) (fun n sz i o off K=>K (.pe n sz i (Nat.add o off))) (fun _ off K=>none) (fun off K=>none) (fun _ _ _ _ _ off K=>none) (fun off K=>none) (fun _ _ _ off K=>none) (fun off K=>none) (fun _ _ off K=>none) (fun _ _ off K=>none) (fun off K=>none) () (fun _ _ _ _=>()) () (fun _ _ _ _=>()) x off K
def aL (off:Nat) (x:V) (K:V→Ao):WX off x K=ob (SJ off x) K:=by
 cases x<;>first|rfl|skip
 show K (.rp (UC _ off))=_;rw[O0];rfl
def ct (sz:Nat) (x:V) (j:Int) (K:V→Ao):Ao:=@V.rec (fun _=>Nat→Int→(V→Ao)→Ao) (fun _=>Unit) (fun _=>Unit) (fun _ sz j K=>none) (fun _ _ sz j K=>none) (fun _ sz j K=>none) (fun sz j K=>none) (fun _ _ sz j K=>none) (fun _ _ sz j K=>none) (fun es _ _ sz j K=>Rk es (bO j) fun e=>@Bool.rec (fun _=>Ao) none (K (.rp e)) (Nat.beq (Fu e) sz)) (fun n len _ sz j K=>@Bool.rec (fun _=>Ao) none (K (.pe n sz (bO j) 0)) (bC j (Int.ofNat len))) (fun n s off len sz j K=>@Bool.rec (fun _=>Ao) none (@Bool.rec (fun _=>Ao) none (K (.pe n sz (Nat.add off (bO j)) 0)) (bC j (Int.ofNat len))) (Nat.beq s sz)) (fun _ _ _ _ sz j K=>none) (fun _ sz j K=>none) (fun sz j K=>none) (fun _ _ _ _ _ sz j K=>none) (fun sz j K=>none) (fun _ _ _ sz j K=>none) (fun sz j K=>none) (fun _ _ sz j K=>none) (fun _ _ sz j K=>none) (fun sz j K=>none) () (fun _ _ _ _=>()) () (fun _ _ _ _=>()) x sz j K
def WU (sz:Nat) (arr:Option Nat) (x i:V) (K:V→Ao):Ao:=@Option.rec Nat (fun _=>Nat→V→V→(V→Ao)→Ao) (fun sz x i K=>uT i fun _ j=>@Bool.rec (fun _=>Ao) (ct sz x j K) none (bC j 0)) (fun m sz x i K=>ob (L8 sz (some m) x i) K) arr sz x i K
def Z5 (sz:Nat) (arr:Option Nat) (x i:V) (K:V→Ao):WU sz arr x i K=ob (L8 sz arr x i) K:=by
 cases arr with
 | some m=>rfl
 | none=>
   refine(Wd _ _).trans ?_;cases i<;>first|rfl|skip
   rename_i k j;simp only[uS,ob,L8,N0,R8];cases Ln j 0 with
   | true=>rfl
   | false=>
     show ct sz x j K=_;cases x<;>first|rfl|skip
     ·rename_i es full
      show Rk es (bO j) _=_;rw[K1,OQ];simp only[Bool.not_false,cond_true];cases es[j.toNat]? with
      | none=>rfl
      | some e=>
        simp only[ob,FG];cases Nat.beq e.length sz<;>rfl
     ·rename_i n len cap
      show @Bool.rec (fun _=>Ao) none (K (.pe n sz (bO j) 0)) (bC j (Int.ofNat len))=_;rw[OQ,R8];simp only[Bool.not_false,cond_true];have:Ln j (Int.ofNat len)=Ln j (len:Int):=rfl;rw[this];cases Ln j (len:Int)<;>rfl
     ·rename_i n s off len
      show @Bool.rec (fun _=>Ao) none (@Bool.rec (fun _=>Ao) none (K (.pe n sz (off+bO j) 0)) (bC j (Int.ofNat len))) (Nat.beq s sz)=_;rw[OQ,R8];simp only[Bool.not_false,cond_true];have:Ln j (Int.ofNat len)=Ln j (len:Int):=rfl;rw[this];cases Nat.beq s sz<;>cases Ln j (len:Int)<;>rfl
def mY (x:V) (K:V→Ao):Ao:=@V.rec (fun _=>(V→Ao)→Ao) (fun _=>Unit) (fun _=>Unit) (fun _ K=>none) (fun _ _ K=>none) (fun _ K=>none) (fun K=>none) (fun _ _ K=>none) (fun _ _ K=>none) (fun es _ _ K=>K (.i .i64 (Int.ofNat (Fu es)))) (fun _ len _ K=>@Bool.rec (fun _=>Ao) none (K (.i .i64 (Int.ofNat len))) (Nat.ble len Aj)) (fun _ _ _ len K=>@Bool.rec (fun _=>Ao) none (K (.i .i64 (Int.ofNat len))) (Nat.ble len Aj)) (fun _ _ _ _ K=>none) (fun _ K=>none) (fun K=>none) (fun _ _ _ _ _ K=>none) (fun K=>none) (fun _ _ _ K=>none) (fun K=>none) (fun _ _ K=>none) (fun _ _ K=>none) (fun K=>none) () (fun _ _ _ _=>()) () (fun _ _ _ _=>()) x K
def jA (x:V) (K:V→Ao):mY x K=ob (ZR x) K:=by
 cases x<;>first|rfl|skip
 ·show K (.i .i64 (Int.ofNat (Fu _)))=_
  rw[FG];rfl
 ·show @Bool.rec (fun _=>Ao) none _ (Nat.ble _ Aj)=_
  rw[BR];simp only[ZR];rw[J9];rfl
 ·show @Bool.rec (fun _=>Ao) none _ (Nat.ble _ Aj)=_
  rw[BR];simp only[ZR];rw[J9];rfl
def WL (x:V) (K:V→Ao):Ao:=@V.rec (fun _=>V→(V→Ao)→Ao) (fun _=>Unit) (fun _=>Unit) (fun _ x K=>none) (fun _ _ x K=>none) (fun _ x K=>none) (fun x K=>none) (fun _ _ x K=>K x) (fun _ _ x K=>K x) (fun _ _ _ x K=>none) (fun _ _ _ x K=>none) (fun _ _ _ _ x K=>none) (fun _ _ _ _ x K=>K x) (fun _ x K=>none) (fun x K=>none) (fun _ _ _ _ _ x K=>ob (L7 x) K) (fun x K=>none) (fun _ _ _ x K=>none) (fun x K=>none) (fun _ _ x K=>none) (fun _ _ x K=>none) (fun x K=>none) () (fun _ _ _ _=>()) () (fun _ _ _ _=>()) x x K
def Zu (x:V) (K:V→Ao):WL x K=ob (L7 x) K:=by cases x<;>rfl
def zL (v:V) (K:List V→Ao):Ao:=@V.rec (fun _=>(List V→Ao)→Ao) (fun _=>Unit) (fun _=>Unit) (fun _ K=>none) (fun _ _ K=>none) (fun _ K=>none) (fun K=>none) (fun _ _ K=>none) (fun _ _ K=>none) (fun _ _ _ K=>none) (fun _ _ _ K=>none) (fun _ _ _ _ K=>none) (fun _ _ _ _ K=>none) (fun _ K=>none) (fun K=>none) (fun _ _ _ _ _ K=>none) (fun K=>none) (fun _ _ _ K=>none) (fun K=>none) (fun _ _ K=>none) (fun vs _ K=>K vs) (fun K=>none) () (fun _ _ _ _=>()) () (fun _ _ _ _=>()) v K
def kq (v:V) (K:Bool→Ao):Ao:=@V.rec (fun _=>(Bool→Ao)→Ao) (fun _=>Unit) (fun _=>Unit) (fun x K=>K x) (fun _ _ K=>none) (fun _ K=>none) (fun K=>none) (fun _ _ K=>none) (fun _ _ K=>none) (fun _ _ _ K=>none) (fun _ _ _ K=>none) (fun _ _ _ _ K=>none) (fun _ _ _ _ K=>none) (fun _ K=>none) (fun K=>none) (fun _ _ _ _ _ K=>none) (fun K=>none) (fun _ _ _ K=>none) (fun K=>none) (fun _ _ K=>none) (fun _ _ K=>none) (fun K=>none) () (fun _ _ _ _=>()) () (fun _ _ _ _=>()) v K
def zM (v:V) (K:List V→Ao):Ao:=@V.rec (fun _=>(List V→Ao)→Ao) (fun _=>Unit) (fun _=>Unit) (fun _ K=>none) (fun _ _ K=>none) (fun _ K=>none) (fun K=>none) (fun _ _ K=>none) (fun _ _ K=>none) (fun _ _ _ K=>none) (fun _ _ _ K=>none) (fun _ _ _ _ K=>none) (fun _ _ _ _ K=>none) (fun _ K=>none) (fun K=>none) (fun _ _ _ _ _ K=>none) (fun K=>none) (fun _ _ _ K=>none) (fun K=>none) (fun cs _ K=>K cs) (fun _ _ K=>none) (fun K=>none) () (fun _ _ _ _=>()) () (fun _ _ _ _=>()) v K
def V3 (v:V) (K:V→Ao):Ao:=@V.rec (fun _=>V→(V→Ao)→Ao) (fun _=>Unit) (fun _=>Unit) (fun x v K=>@Bool.rec (fun _=>Ao) (K (.b false)) (K (.b true)) x) (fun k n v K=>@Int.rec (fun _=>Ao) (fun m=>@Nat.rec (fun _=>Ao) (K (.i k (Int.ofNat 0))) (fun j _=>K (.i k (Int.ofNat (Nat.succ j)))) m) (fun m=>@Nat.rec (fun _=>Ao) (K (.i k (Int.negSucc 0))) (fun j _=>K (.i k (Int.negSucc (Nat.succ j)))) m) n) (fun _ v K=>K v) (fun v K=>K v) (fun _ _ v K=>K v) (fun _ _ v K=>K v) (fun _ _ _ v K=>K v) (fun _ _ _ v K=>K v) (fun _ _ _ _ v K=>K v) (fun _ _ _ _ v K=>K v) (fun _ v K=>K v) (fun v K=>K v) (fun _ _ _ _ _ v K=>K v) (fun v K=>K v) (fun _ _ _ v K=>K v) (fun v K=>K v) (fun _ _ v K=>K v) (fun _ _ v K=>K v) (fun v K=>K v) () (fun _ _ _ _=>()) () (fun _ _ _ _=>()) v v K
def Yb (v:V) (K:V→Ao):V3 v K=K v:=by
 cases v<;>first|rfl|skip
 ·rename_i x;cases x<;>rfl
 ·rename_i k n
  cases n with
  | ofNat m=>cases m<;>rfl
  | negSucc m=>cases m<;>rfl
def fin (o:Option (R×St)) (k kp:V→St→Ao):Ao:=match o with
 | some (.ret v,s)=>k v s
 | some (.Bf v,s)=>kp v s
 | none=>none
def CG (o:Option (R×St)) (k kp:V→St→Ao):Ao:=@Option.rec (R×St) (fun _=>(V→St→Ao)→(V→St→Ao)→Ao) (fun _ _=>none) (fun p k kp=>@R.rec (fun _=>St→(V→St→Ao)→(V→St→Ao)→Ao) (fun v s k _=>k v s) (fun v s _ kp=>kp v s) p.1 p.2 k kp) o k kp
def Bn (o:Option (R×St)) (k kp:V→St→Ao):CG o k kp=fin o k kp:=by
 cases o with
 | none=>rfl
 | some p=>
   obtain⟨r,s⟩:=p;cases r<;>rfl
def Gu (o:Option V) (s:St) (k kp:V→St→Ao):fin (ov o s) k kp=ob o fun v=>k v s:=by cases o<;>rfl
def oZ (o:Option St) (k kp:V→St→Ao):fin (os o) k kp=ob o fun s=>k (.t []) s:=by cases o<;>rfl
def BY {α:Type} (o:Option α) (f:α→Option (R×St)) (k kp:V→St→Ao):fin (ob o f) k kp=ob o fun a=>fin (f a) k kp:=by cases o<;>rfl
abbrev OK:=CF→CV→CP→CH→St→(V→St→Ao)→(V→St→Ao)→Ao
def SF (e:CH) (ps:List (Nat×Nat×Bj)) (cs:List V) (K:List V→Ao):Ao:=@List.rec (Nat×Nat×Bj) (fun _=>List V→(List V→Ao)→Ao) (fun cs K=>K cs)
 (fun p _ ih cs K=>Bp p.2.2 e fun v=>Gw v fun vc=>@Bool.rec (fun _=>Ao) none (@Bool.rec (fun _=>Ao) none (ih (bT cs p.1 vc) K) (Nat.ble (Nat.add p.1 p.2.1) (Fu cs))) (Nat.beq (Fu vc) p.2.1)) ps cs K
def Q8 {e : CH} {env:Env} (he:IX e env): ∀(ps:List (Nat×Nat×Bj)) (cs:List V) (K:List V→Ao),SF e ps cs K=ob (L9 env cs ps) K
 | [],cs,K=>rfl
 | (off, sz,x)::r,cs,K=>by
   show(Bp x e fun v=>Gw v fun vc=>@Bool.rec (fun _=>Ao) none (@Bool.rec (fun _=>Ao) none (SF e r (bT cs off vc) K) (Nat.ble (off+sz) (Fu cs))) (Nat.beq (Fu vc) sz))=_;rw[BH he];simp only[L9];cases DM env x with
   | none=>rfl
   | some v=>
     simp only[ob];rw[Hc];cases cellsOf v with
     | none=>rfl
     | some vc=>
       simp only[ob,FG,Nj];cases Nat.beq vc.length sz with
       | false=>rfl
       | true=>
         cases Nat.ble (off+sz) cs.length with
         | false=>rfl
         | true=>exact Q8 he r _ K
def SG (e:CH) (sz:Nat) (ps:List (Nat×Bj)) (es:List (List V)) (K:List (List V)→Ao):Ao:=@List.rec (Nat×Bj) (fun _=>List (List V)→(List (List V)→Ao)→Ao) (fun es K=>K es)
 (fun p _ ih es K=>Bp p.2 e fun v=>Gw v fun vc=>@Bool.rec (fun _=>Ao) none (@Bool.rec (fun _=>Ao) none (ih (Vy es p.1 vc) K) (Nat.ble (Nat.succ p.1) (Fu es))) (Nat.beq (Fu vc) sz)) ps es K
def RA {e : CH} {env:Env} (he:IX e env) (sz:Nat): ∀(ps:List (Nat×Bj)) (es:List (List V)) (K:List (List V)→Ao),SG e sz ps es K=ob (MA env sz es ps) K
 | [],es,K=>rfl
 | (i, x)::r,es,K=>by
   show(Bp x e fun v=>Gw v fun vc=>@Bool.rec (fun _=>Ao) none (@Bool.rec (fun _=>Ao) none (SG e sz r (Vy es i vc) K) (Nat.ble (Nat.succ i) (Fu es))) (Nat.beq (Fu vc) sz))=_;rw[BH he];simp only[MA];cases DM env x with
   | none=>rfl
   | some v=>
     simp only[ob];rw[Hc];cases cellsOf v with
     | none=>rfl
     | some vc=>
       simp only[ob,FG,Sa,Nat.blt,Nat.succ_eq_add_one];cases Nat.beq vc.length sz with
       | false=>rfl
       | true=>
         cases Nat.ble (i+1) es.length with
         | false=>rfl
         | true=>exact RA he sz r _ K
def uO (o:Fa):OK:=@Fa.rec (fun _=>OK)
 (fun x cf cv cp env s kk kp=>Bp x env fun v=>kk v s)
 (fun x cf cv cp env s kk kp=>Bp x env fun v=>kk v s)
 (fun c a b cf cv cp env s kk kp=>Bp c env fun vc=>Bp a env fun va=>Bp b env fun vb=>kq vc fun t=>@Bool.rec (fun _=>Ao) (kk vb s) (kk va s) t)
 (fun op x y cf cv cp env s kk kp=>Bp x env fun vx=>Bp y env fun vy=>gn op vx vy fun v=>kk v s)
 (fun neg x y cf cv cp env s kk kp=>Bp x env fun vx=>Bp y env fun vy=>CG (match vx,vy with| .b p,.b q=>some (.ret (.b (bif neg then p != q else p==q)),s)|_,_=>none) kk kp)
 (fun len neg x y cf cv cp env s kk kp=>Bp x env fun vx=>Bp y env fun vy=>CG (ov (bg len neg vx vy) s) kk kp)
 (fun kind neg x cf cv cp env s kk kp=>Bp x env fun vx=>CG (ov (bf kind neg vx) s) kk kp)
 (fun x cf cv cp env s kk kp=>Bp x env fun vx=>kq vx fun p=>kk (.b (Rm p)) s)
 (fun xor x cf cv cp env s kk kp=>Bp x env fun vx=>CG (match vx with| .i ka a=>some (.ret (.i ka (bif xor then bits .xor ka (bif ka.signed then -1 else ka.max) a else ka.wrap (0 - a))),s)|_=>none) kk kp)
 (fun k x cf cv cp env s kk kp=>Bp x env fun vx=>CG (match vx with| .i _ a=>some (.ret (.i k (IB k a)),s)|_=>none) kk kp)
 (fun x cf cv cp env s kk kp=>Bp x env fun vx=>Gw vx fun cs=>bX s (.cs cs) fun i s=>kk (.p i 0) s)
 (fun x cf cv cp env s kk kp=>Bp x env fun vx=>Gw vx fun cs=>kk (.rp cs) s)
 (fun sz bytes x y cf cv cp env s kk kp=>Bp x env fun vx=>Bp y env fun vy=>CG (ov (UB bytes s sz vx vy) s) kk kp)
 (fun zero cf cv cp env s kk kp=>CG (bif B6 zero then s.new (.cs zero) fun i s=>some (.ret (.p i 0),s)else none) kk kp)
 (fun zero parts cf cv cp env s kk kp=>@Bool.rec (fun _=>Ao) none (SF env parts zero fun cs=>kk (.a cs) s) (B6 zero))
 (fun sz len zero parts cf cv cp env s kk kp=>@Bool.rec (fun _=>Ao) none (SG env (Fu zero) parts (List.replicate len zero) fun es=>kk (.l es true) s) (B6 zero))
 (fun agg x cf cv cp env s kk kp=>Bp x env fun vx=>bw s agg vx fun v=>kk v s)
 (fun sz a x cf cv cp env s kk kp=>Bp a env fun va=>Bp x env fun vx=>Rx s sz va vx fun s=>kk (.t []) s)
 (fun off x cf cv cp env s kk kp=>Bp x env fun vx=>WX off vx fun v=>kk v s)
 (fun agg off x cf cv cp env s kk kp=>Bp x env fun vx=>zM vx fun cs=>V6 agg cs off fun v=>kk v s)
 (fun sz arr x i cf cv cp env s kk kp=>Bp x env fun vx=>Bp i env fun vi=>WU sz arr vx vi fun v=>kk v s)
 (fun len sz agg x i cf cv cp env s kk kp=>Bp x env fun vx=>Bp i env fun vi=>CG (ov (OX len sz agg vx vi) s) kk kp)
 (fun sz x lo hi mx cf cv cp env s kk kp=>Bp x env fun vx=>V0 lo env fun l=>V0 hi env fun h=>V0 mx env fun m=>CG (ZB (OW s sz vx l h m)) kk kp)
 (fun x cf cv cp env s kk kp=>Bp x env fun vx=>mY vx fun v=>kk v s)
 (fun x cf cv cp env s kk kp=>Bp x env fun vx=>CG (ov (T9 s vx) s) kk kp)
 (fun x cf cv cp env s kk kp=>Bp x env fun vx=>CG (ov (bc s vx) s) kk kp)
 (fun x i cf cv cp env s kk kp=>Bp x env fun vx=>Bp i env fun vi=>CG (ov (T8 vx vi) s) kk kp)
 (fun sz bytes x y cf cv cp env s kk kp=>Bp x env fun vx=>Bp y env fun vy=>CG (ZB (K8 bytes s sz vx vy)) kk kp)
 (fun sz x y cf cv cp env s kk kp=>Bp x env fun vx=>Bp y env fun vy=>CG (ZB (UA s sz vx vy)) kk kp)
 (fun x y cf cv cp env s kk kp=>Bp x env fun vx=>Bp y env fun vy=>CG (match vx,vy with| .i ka a,.i kb b=>bif decide (ka=kb)then some (.ret (.i ka (bif Ln a b then b else a)),s)else none|_,_=>none) kk kp)
 (fun x y cf cv cp env s kk kp=>Bp x env fun vx=>Bp y env fun vy=>CG (match vx,vy with| .i ka a,.i kb b=>bif decide (ka=kb)then some (.ret (.i ka (bif Ln b a then b else a)),s)else none|_,_=>none) kk kp)
 (fun i x cf cv cp env s kk kp=>Bp x env fun vx=>zL vx fun vs=>Rk vs i fun v=>kk v s)
 (fun x cf cv cp env s kk kp=>Bp x env fun vx=>WL vx fun v=>kk v s)
 (fun f first cap cf cv cp env s kk kp=>Kg first env fun vf=>Kg cap env fun vc=>@Bool.rec (fun _=>Ao) none (kk (.f f vf vc) s) (Lz f))
 (fun cf cv cp env s kk kp=>CG (s.new (.map []) fun i s=>some (.ret (.m i),s)) kk kp)
 (fun sz bytes zero len cap cf cv cp env s kk kp=>Bp len env fun vx=>Bp cap env fun vy=>CG (ZB (I2 s sz zero vx vy)) kk kp)
 (fun ks zero ok m k cf cv cp env s kk kp=>Bp m env fun vm=>Bp k env fun vk=>CG (ov (K6 s ks zero ok vm vk) s) kk kp)
 (fun ks m k v cf cv cp env s kk kp=>Bp m env fun vm=>Bp k env fun vk=>Bp v env fun vx=>CG (os (K5 s ks vm vk vx)) kk kp)
 (fun t x cf cv cp env s kk kp=>Bp x env fun vx=>kk (.Er t vx) s)
 (fun t zero ok x cf cv cp env s kk kp=>Bp x env fun vx=>CG (ov (bb t zero ok vx) s) kk kp)
 (fun x cf cv cp env s kk kp=>Bp x env fun vx=>CG (match vx with| .Er t v=>some (.Bf (.Er t v),s)|_=>none) kk kp)
 (fun f args cf cv cp env s kk kp=>Kg args env fun vs=>CG (cf f vs s) kk kp)
 (fun f args cf cv cp env s kk kp=>Kg args env fun vs=>CG (ov (cp f vs) s) kk kp)
 (fun x args cf cv cp env s kk kp=>Bp x env fun vx=>Kg args env fun vs=>CG (cv vx vs s) kk kp)
 (fun x args cf cv cp env s kk kp=>none)
 (fun tab x args cf cv cp env s kk kp=>Bp x env fun vx=>Kg args env fun vs=>CG (match vx with| .Er t v=>ob (look t tab) fun f=>cf f (v::vs) s|_=>none) kk kp) o
def eT {vc va vb:V} {s:St} {kk kp:V→St→Ao}:kq vc (fun t=>@Bool.rec (fun _=>Ao) (kk vb s) (kk va s) t)=fin (match vc with| .b t=>some (.ret (bif t then va else vb),s)|_=>none) kk kp:=by
 cases vc<;>first|rfl|skip
 rename_i t;cases t<;>rfl
def not_eq {vx:V} {s:St} {kk kp:V→St→Ao}:kq vx (fun p=>kk (.b (Rm p)) s)=fin (match vx with| .b p=>some (.ret (.b (!p)),s)|_=>none) kk kp:=by
 cases vx<;>first|rfl|skip
 rename_i t;cases t<;>rfl
def S1 {c:Bool} {x:Option (R×St)} {kk kp:V→St→Ao}:fin (bif c then x else none) kk kp=bif c then fin x kk kp else none:=by cases c<;>rfl
def cV {e:CH} {env:Env} (he:IX e env) (o:Fa) (cf:CF) (cv:CV) (cp:CP) (s:St) (kk kp:V→St→Ao):uO o cf cv cp e s kk kp=fin (FZ cf cv cp o env s) kk kp:=by
 cases o with
 | mv x=>
   show(Bp x e fun v=>kk v s)=_;simp only[BH he,FZ,Gu]
 | gN x=>
   show(Bp x e fun v=>kk v s)=_;simp only[BH he,FZ,Gu]
 | pick c a b=>
   show(Bp c e fun vc=>Bp a e fun va=>Bp b e fun vb=>kq vc fun t=>@Bool.rec (fun _=>Ao) (kk vb s) (kk va s) t)=_;simp only[BH he,FZ,BY,eT (kp:=kp)];rfl
 | bin op x y=>
   show(Bp x e fun vx=>Bp y e fun vy=>gn op vx vy fun v=>kk v s)=_;simp only[BH he,FZ,BY,Gu,kJ]
 | gU neg x y=>
   show(Bp x e fun vx=>Bp y e fun vy=>CG (match vx,vy with| .b p,.b q=>some (.ret (.b (bif neg then p != q else p==q)),s)|_,_=>none) kk kp)=_;simp only[BH he,Bo he,Bu he,FZ,BY,Bn]
   try rfl
 | gT len neg x y=>
   show(Bp x e fun vx=>Bp y e fun vy=>CG (ov (bg len neg vx vy) s) kk kp)=_;simp only[BH he,Bo he,Bu he,FZ,BY,Bn]
   try rfl
 | bG kind neg x=>
   show(Bp x e fun vx=>CG (ov (bf kind neg vx) s) kk kp)=_;simp only[BH he,Bo he,Bu he,FZ,BY,Bn]
   try rfl
 | not x=>
   show(Bp x e fun vx=>kq vx fun p=>kk (.b (Rm p)) s)=_;simp only[BH he,FZ,BY,not_eq (kp:=kp)];rfl
 | neg xor x=>
   show(Bp x e fun vx=>CG (match vx with| .i ka a=>some (.ret (.i ka (bif xor then bits .xor ka (bif ka.signed then -1 else ka.max) a else ka.wrap (0 - a))),s)|_=>none) kk kp)=_;simp only[BH he,Bo he,Bu he,FZ,BY,Bn]
   try rfl
 | conv k x=>
   show(Bp x e fun vx=>CG (match vx with| .i _ a=>some (.ret (.i k (IB k a)),s)|_=>none) kk kp)=_;simp only[BH he,Bo he,Bu he,FZ,BY,Bn]
   try rfl
 | box x=>
   show(Bp x e fun vx=>Gw vx fun cs=>bX s (.cs cs) fun i s=>kk (.p i 0) s)=_;simp only[BH he,FZ,BY,Hc];congr 1;funext vx;congr 1;funext cs;have: ∀o:Option (R×St),fin o kk kp=ob o fun p=>fin (some p) kk kp:=fun o=>by cases o<;>rfl
   rw[this,iw];rfl
 | P6 x=>
   show(Bp x e fun vx=>Gw vx fun cs=>kk (.rp cs) s)=_;simp only[BH he,FZ,BY,Hc];rfl
 | P7 sz bytes x y=>
   show(Bp x e fun vx=>Bp y e fun vy=>CG (ov (UB bytes s sz vx vy) s) kk kp)=_;simp only[BH he,Bo he,Bu he,FZ,BY,Bn]
   try rfl
 | alloc zero=>
   show(CG (bif B6 zero then s.new (.cs zero) fun i s=>some (.ret (.p i 0),s)else none) kk kp)=_;simp only[Bn,FZ]
 | build zero parts=>
   show(@Bool.rec (fun _=>Ao) none (SF e parts zero fun cs=>kk (.a cs) s) (B6 zero))=_;simp only[FZ,S1,BY,Q8 he,BR];rfl
 | Gy sz len zero parts=>
   show(@Bool.rec (fun _=>Ao) none (SG e (Fu zero) parts (List.replicate len zero) fun es=>kk (.l es true) s) (B6 zero))=_;simp only[FZ,S1,BY,RA he,BR,FG];rfl
 | load agg x=>
   show(Bp x e fun vx=>bw s agg vx fun v=>kk v s)=_;simp only[BH he,FZ,BY,Gu,ez]
 | store sz a x=>
   show(Bp a e fun va=>Bp x e fun vx=>Rx s sz va vx fun s=>kk (.t []) s)=_;simp only[BH he,FZ,BY,oZ,ZY]
 | GU off x=>
   show(Bp x e fun vx=>WX off vx fun v=>kk v s)=_;simp only[BH he,FZ,BY,Gu,aL]
 | field agg off x=>
   show(Bp x e fun vx=>zM vx fun cs=>V6 agg cs off fun v=>kk v s)=_;simp only[BH he,FZ,BY];congr 1;funext vx;cases vx<;>first|rfl|skip
   show V6 agg _ off _=_;rw[Nv,Gu]
 | Ko sz arr x i=>
   show(Bp x e fun vx=>Bp i e fun vi=>WU sz arr vx vi fun v=>kk v s)=_;simp only[BH he,FZ,BY,Gu,Z5]
 | index len sz agg x i=>
   show(Bp x e fun vx=>Bp i e fun vi=>CG (ov (OX len sz agg vx vi) s) kk kp)=_;simp only[BH he,Bo he,Bu he,FZ,BY,Bn]
   try rfl
 | slice sz x lo hi mx=>
   show(Bp x e fun vx=>V0 lo e fun l=>V0 hi e fun h=>V0 mx e fun m=>CG (ZB (OW s sz vx l h m)) kk kp)=_;simp only[BH he,Bo he,Bu he,FZ,BY,Bn]
   try rfl
 | len x=>
   show(Bp x e fun vx=>mY vx fun v=>kk v s)=_;simp only[BH he,FZ,BY,Gu,jA]
 | Rn x=>
   show(Bp x e fun vx=>CG (ov (T9 s vx) s) kk kp)=_;simp only[BH he,Bo he,Bu he,FZ,BY,Bn]
   try rfl
 | str x=>
   show(Bp x e fun vx=>CG (ov (bc s vx) s) kk kp)=_;simp only[BH he,Bo he,Bu he,FZ,BY,Bn]
   try rfl
 | Tc x i=>
   show(Bp x e fun vx=>Bp i e fun vi=>CG (ov (T8 vx vi) s) kk kp)=_;simp only[BH he,Bo he,Bu he,FZ,BY,Bn]
   try rfl
 | append sz bytes x y=>
   show(Bp x e fun vx=>Bp y e fun vy=>CG (ZB (K8 bytes s sz vx vy)) kk kp)=_;simp only[BH he,Bo he,Bu he,FZ,BY,Bn]
   try rfl
 | copy sz x y=>
   show(Bp x e fun vx=>Bp y e fun vy=>CG (ZB (UA s sz vx vy)) kk kp)=_;simp only[BH he,Bo he,Bu he,FZ,BY,Bn]
   try rfl
 | Tf x y=>
   show(Bp x e fun vx=>Bp y e fun vy=>CG (match vx,vy with| .i ka a,.i kb b=>bif decide (ka=kb)then some (.ret (.i ka (bif Ln a b then b else a)),s)else none|_,_=>none) kk kp)=_;simp only[BH he,Bo he,Bu he,FZ,BY,Bn]
   try rfl
 | Te x y=>
   show(Bp x e fun vx=>Bp y e fun vy=>CG (match vx,vy with| .i ka a,.i kb b=>bif decide (ka=kb)then some (.ret (.i ka (bif Ln b a then b else a)),s)else none|_,_=>none) kk kp)=_;simp only[BH he,Bo he,Bu he,FZ,BY,Bn]
   try rfl
 | extract i x=>
   show(Bp x e fun vx=>zL vx fun vs=>Rk vs i fun v=>kk v s)=_;simp only[BH he,FZ,BY];congr 1;funext vx;cases vx<;>first|rfl|skip
   show Rk _ i _=_;rw[K1,Gu]
 | IE x=>
   show(Bp x e fun vx=>WL vx fun v=>kk v s)=_;simp only[BH he,FZ,BY,Gu,Zu]
 | bB f first cap=>
   show(Kg first e fun vf=>Kg cap e fun vc=>@Bool.rec (fun _=>Ao) none (kk (.f f vf vc) s) (Lz f))=_;simp only[Bo he,FZ,S1,BY,BR];rfl
 | Mt=>
   show(CG (s.new (.map []) fun i s=>some (.ret (.m i),s)) kk kp)=_;simp only[Bn,FZ]
 | Fh sz bytes zero len cap=>
   show(Bp len e fun vx=>Bp cap e fun vy=>CG (ZB (I2 s sz zero vx vy)) kk kp)=_;simp only[BH he,Bo he,Bu he,FZ,BY,Bn]
   try rfl
 | lookup ks zero ok m k=>
   show(Bp m e fun vm=>Bp k e fun vk=>CG (ov (K6 s ks zero ok vm vk) s) kk kp)=_;simp only[BH he,Bo he,Bu he,FZ,BY,Bn]
   try rfl
 | Eh ks m k v=>
   show(Bp m e fun vm=>Bp k e fun vk=>Bp v e fun vx=>CG (os (K5 s ks vm vk vx)) kk kp)=_;simp only[BH he,Bo he,Bu he,FZ,BY,Bn]
   try rfl
 | Mu t x=>
   show(Bp x e fun vx=>kk (.Er t vx) s)=_;simp only[BH he,FZ,BY];rfl
 | a7 t zero ok x=>
   show(Bp x e fun vx=>CG (ov (bb t zero ok vx) s) kk kp)=_;simp only[BH he,Bo he,Bu he,FZ,BY,Bn]
   try rfl
 | panic x=>
   show(Bp x e fun vx=>CG (match vx with| .Er t v=>some (.Bf (.Er t v),s)|_=>none) kk kp)=_;simp only[BH he,Bo he,Bu he,FZ,BY,Bn]
   try rfl
 | call f args=>
   show(Kg args e fun vs=>CG (cf f vs s) kk kp)=_;simp only[BH he,Bo he,Bu he,FZ,BY,Bn]
   try rfl
 | Ks f args=>
   show(Kg args e fun vs=>CG (ov (cp f vs) s) kk kp)=_;simp only[BH he,Bo he,Bu he,FZ,BY,Bn]
   try rfl
 | Ir x args=>
   show(Bp x e fun vx=>Kg args e fun vs=>CG (cv vx vs s) kk kp)=_;simp only[BH he,Bo he,Bu he,FZ,BY,Bn]
   try rfl
 | Wa x args=>
   rfl
 | inv tab x args=>
   show(Bp x e fun vx=>Kg args e fun vs=>CG (match vx with| .Er t v=>ob (look t tab) fun f=>cf f (v::vs) s|_=>none) kk kp)=_;simp only[BH he,Bo he,Bu he,FZ,BY,Bn]
   try rfl
def mc (g:Bool) (t:Bool) (y:Ao) (n:Ao):Ao:=@Bool.rec (fun _=>Ao) (@Bool.rec (fun _=>Ao) y n g) (@Bool.rec (fun _=>Ao) n y g) t
def jT (g t:Bool) (y n:Ao):mc g t y n=bif t==g then y else n:=by cases g<;>cases t<;>rfl
def sw (v:V) (g:Bool) (y:Ao) (n:Ao):Ao:=@V.rec (fun _=>Bool→Ao→Ao→Ao) (fun _=>Unit) (fun _=>Unit) (fun t g y n=>mc g t y n) (fun _ _ g y n=>none) (fun _ g y n=>none) (fun g y n=>none) (fun _ _ g y n=>none) (fun _ _ g y n=>none) (fun _ _ _ g y n=>none) (fun _ _ _ g y n=>none) (fun _ _ _ _ g y n=>none) (fun _ _ _ _ g y n=>none) (fun _ g y n=>none) (fun g y n=>none) (fun _ _ _ _ _ g y n=>none) (fun g y n=>none) (fun _ _ _ g y n=>none) (fun g y n=>none) (fun _ _ g y n=>none) (fun vs _ g y n=>@List.rec V (fun _=>Ao→Ao) (fun n=>n) (fun _ _ _ _=>none) vs n) (fun g y n=>none) () (fun _ _ _ _=>()) () (fun _ _ _ _=>()) v g y n
def vG (g:Nat×Bool) (o:Fa):OK:=fun cf cv cp e s kk kp=>Bp (.t g.1) e fun v=>sw v g.2 (uO o cf cv cp e s kk kp) (kk (.t []) s)
def Vx (g:Option (Nat×Bool)) (o:Fa):OK:=@Option.rec (Nat×Bool) (fun _=>Fa→OK) (fun o=>uO o) (fun g o=>vG g o) g o
def SZ {e:CH} {env:Env} (he:IX e env) (d:Option Nat) (g:Option (Nat×Bool)) (o:Fa) (cf:CF) (cv:CV) (cp:CP) (s:St) (kk kp:V→St→Ao):Vx g o cf cv cp e s kk kp=fin (IU cf cv cp ⟨d,o,g⟩ env s) kk kp:=by
 cases g with
 | none=>exact cV he o cf cv cp s kk kp
 | some g=>
   obtain⟨g,b⟩:=g;show(Bp (.t g) e fun v=>sw v b (uO o cf cv cp e s kk kp) (kk (.t []) s))=_;rw[BH he,cV he];simp only[IU,DM];cases get g env with
   | none=>rfl
   | some v=>
     simp only[ob];cases v<;>first|rfl|skip
     ·rename_i t
      show mc b t _ _=_;rw[jT];simp only;cases t==b<;>rfl
     ·rename_i vs
      cases vs<;>rfl
def Mr (d:Option Nat) (v:V) (e:CH):CH:=@Option.rec Nat (fun _=>V→CH→CH) (fun _ e=>e) (fun d v e=>⟨Nat.lor e.1 (Nat.shiftLeft 1 d),(d,v)::e.2⟩) d v e
def Jv (M n:Nat):Nb M n=M.testBit n:=by
 have h1:(M >>> n)&&&1=(M >>> n) % 2:=Nat.and_one_is_mod _;have h2:Nb M n=Nat.beq ((M >>> n)&&&1) 1:=rfl;rw[h2,h1,Nat.testBit_eq_decide_div_mod_eq,Nat.shiftRight_eq_div_pow];cases h:decide (M / 2 ^ n % 2=1)with
 | true=>rw[of_decide_eq_true h];rfl
 | false=>
   have:=of_decide_eq_false h;cases hb:Nat.beq (M / 2 ^ n % 2) 1 with
   | false=>rfl
   | true=>exact absurd (TQ hb) this
def Oa (M d n:Nat):Nb (Nat.lor M (Nat.shiftLeft 1 d)) n=(Nb M n||Nat.beq d n):=by
 rw[Jv,Jv];show(M|||1 <<< d).testBit n=_;rw[Nat.testBit_or,Nat.one_shiftLeft,Nat.testBit_two_pow];congr 1;cases hb:Nat.beq d n with
 | true=>simp[TQ hb]
 | false=>simpa using Nat.ne_of_beq_eq_false hb
def IX.push {e:CH} {env:Env} (he:IX e env) (d:Option Nat) (v:V):IX (Mr d v e) (put d v env):=by
 cases d with
 | none=>exact he
 | some d=>
   intro n;show(bif Nb (Nat.lor e.1 (Nat.shiftLeft 1 d)) n then(bif Nat.beq d n then some v else get n e.2)else none)=bif Nat.beq d n then some v else get n env;rw[Oa,←he n,Rq];cases Nat.beq d n<;>cases Nb e.1 n<;>rfl
def bW (ops:List Au) (cf:CF) (cv:CV) (cp:CP) (env:CH) (s:St):Ao:=@List.rec Au (fun _=>CF→CV→CP→CH→St→Ao) (fun _ _ _ env s=>some (.normal,env,s))
 (fun o _ ih cf cv cp env s=>Vx o.3 o.2 cf cv cp env s (fun v s=>V3 v fun v=>ih cf cv cp (Mr o.1 v env) s) (fun v s=>some (.Bf v,env,s))) ops cf cv cp env s
def GO:Ao→Rs→Prop
 | some (x,e,s),some (x',env,s')=>x=x'∧s=s'∧IX e env
 | none,none=>True
 | _,_=>False
def YH (cf:CF) (cv:CV) (cp:CP): ∀(ops:List Au) {e:CH} {env:Env} (s:St),IX e env→GO (bW ops cf cv cp e s) (Tm cf cv cp ops env s)
 | [],e,env,s,he=>⟨rfl,rfl,he⟩
 | o ::r,e,env,s,he=>by
   show GO (Vx o.3 o.2 cf cv cp e s (fun v s=>V3 v fun v=>bW r cf cv cp (Mr o.1 v e) s) (fun v s=>some (.Bf v,e,s))) _;rw[SZ he o.1];show GO (fin (IU cf cv cp o env s) _ _) _;simp only[Tm];cases IU cf cv cp o env s with
   | none=>trivial
   | some p=>
     obtain⟨x,s'⟩:=p;cases x with
     | Bf v=>exact⟨rfl,rfl,he⟩
     | ret v=>
       show GO (V3 v fun v=>bW r cf cv cp (Mr o.1 v e) s') (Hn v _);rw[Yb,HY];exact YH cf cv cp r s' (he.push o.1 v)
def sJ (re:List Au) (cf:CF) (cv:CV) (cp:CP) (e:CH) (s:St) (K:Ao):Ao:=@List.rec Au (fun _=>CF→CV→CP→CH→St→Ao→Ao) (fun _ _ _ _ _ K=>K)
 (fun o _ ih cf cv cp e s K=>Vx o.3 o.2 cf cv cp e s (fun u _=>@Option.rec Nat (fun _=>Ao) (ih cf cv cp e s K) (fun d=>Bp (.t d) e fun w=>@Bool.rec (fun _=>Ao) none (ih cf cv cp e s K) (EZ u w)) o.1) (fun _ _=>none)) re cf cv cp e s K
def cO (cf:CF) (cv:CV) (cp:CP) {e:CH} {env:Env} (he:IX e env) (s:St) (K:Ao): ∀re:List Au,sJ re cf cv cp e s K=bif gJ cf cv cp re env s then K else none
 | []=>rfl
 | o ::r=>by
   show Vx o.3 o.2 cf cv cp e s (fun u _=>@Option.rec Nat (fun _=>Ao) (sJ r cf cv cp e s K) (fun d=>Bp (.t d) e fun w=>@Bool.rec (fun _=>Ao) none (sJ r cf cv cp e s K) (EZ u w)) o.1) (fun _ _=>none)=_;rw[SZ he o.1,cO cf cv cp he s K r]
   have h':gJ cf cv cp (o::r) env s=((match IU cf cv cp o env s with
    | some (.ret u,_)=>match o.dst with
      | none=>true
      | some d=>match get d env with|some w=>EZ u w|none=>false
    | _=>false)&&gJ cf cv cp r env s):=rfl
   rw[h'];show fin (IU cf cv cp o env s) _ _=_;cases IU cf cv cp o env s with
   | none=>rfl
   | some p=>
     obtain⟨x,s'⟩:=p;cases x with
     | Bf v=>rfl
     | ret u=>
       obtain⟨d,op,g⟩:=o;cases d with
       | none=>simp only[fin,I8]
       | some d=>
         simp only[fin];rw[BH he];simp only[DM];cases get d env with
         | none=>rfl
         | some w=>
           simp only[ob];cases EZ u w<;>simp
def UD (ops:List Cf) (cf:CF) (cv:CV) (cp:CP) (e:CH) (s:St):Ao:=@List.rec Cf (fun _=>CF→CV→CP→CH→St→Ao) (fun _ _ _ e s=>some (.normal,e,s))
 (fun d _ ih cf cv cp e s=>Vx d.2.3 d.2.2 cf cv cp e s (fun v s=>V3 v fun v=>(fun e=>sJ d.4 cf cv cp e s (ih cf cv cp e s)) (Mr d.2.1 v e)) (fun v s=>some (.Bf v,⟨0,[]⟩,s))) ops cf cv cp e s
def IX.nil {M:Nat}:IX ⟨M,[]⟩ []:=fun n=>by
 show(bif Nb M n then none else none)=none;cases Nb M n<;>rfl
def U3 (cf:CF) (cv:CV) (cp:CP): ∀(ops:List Cf) {e:CH} {env:Env} (s:St),IX e env→GO (UD ops cf cv cp e s) (QS cf cv cp ops env s)
 | [],e,env,s,he=>⟨rfl,rfl,he⟩
 | d ::r,e,env,s,he=>by
   show GO (Vx d.2.3 d.2.2 cf cv cp e s (fun v s=>V3 v fun v=>(fun e=>sJ d.4 cf cv cp e s (UD r cf cv cp e s)) (Mr d.2.1 v e)) (fun v s=>some (.Bf v,⟨0,[]⟩,s))) _;rw[SZ he d.2.1];show GO (fin (IU cf cv cp d.o env s) _ _) _;simp only[QS];cases IU cf cv cp d.o env s with
   | none=>trivial
   | some p=>
     obtain⟨x,s'⟩:=p;cases x with
     | Bf v=>exact⟨rfl,rfl,IX.nil⟩
     | ret v=>
       show GO (V3 v fun v=>sJ d.4 cf cv cp (Mr d.2.1 v e) s' (UD r cf cv cp (Mr d.2.1 v e) s')) (Hn v _);rw[Yb,HY,cO cf cv cp (he.push d.2.1 v)];show GO (bif gJ cf cv cp d.re (put d.o.dst v env) s' then _ else none) (bif gJ cf cv cp d.re (put d.o.dst v env) s' then _ else none);cases gJ cf cv cp d.re (put d.o.dst v env) s' with
       | false=>trivial
       | true=>exact U3 cf cv cp r s' (he.push d.2.1 v)
def QO (l:List Nat):Nat:=@List.rec Nat (fun _=>Nat) 0 (fun n _ ih=>Nat.lor ih (Nat.shiftLeft 1 n)) l
def L0 (l:List Nat) (e:CH):CH:=⟨Nat.land e.1 (QO l),e.2⟩
def UL: ∀(l:List Nat) (n:Nat),Nb (QO l) n=l.any fun k=>Nat.beq k n
 | [],n=>by rw[Jv];exact Nat.zero_testBit n
 | k::r,n=>by
   show Nb (Nat.lor (QO r) (Nat.shiftLeft 1 k)) n=_;rw[Oa,UL r n,QH,Bool.or_comm]
def Lf: ∀(l:List Nat) (env:Env) (n:Nat),get n (prune l env)=bif l.any (fun k=>Nat.beq k n)then get n env else none
 | [],env,n=>rfl
 | k ::r,env,n=>by
   have ih:=Lf r env n;simp only[prune,QH];cases hk:Nat.beq k n with
   | true=>
     have:=TQ hk;subst this;cases hg:get k env with
     | none=>
       simp only;rw[ih,hg];cases(r.any fun j=>Nat.beq j k)<;>rfl
     | some v=>simp[get,hk]
   | false=>
     simp only[Bool.false_or];cases hg:get k env with
     | none=>exact ih
     | some v=>
       simp only[get,hk,cond_false];exact ih
def IX.prune {e:CH} {env:Env} (he:IX e env) (l:List Nat):IX (L0 l e) (Gl.prune l env):=fun n=>by
 show(bif Nb (Nat.land e.1 (QO l)) n then get n e.2 else none)=_
 have:Nb (Nat.land e.1 (QO l)) n=(Nb e.1 n&&Nb (QO l) n):=by
  rw[Jv,Jv,Jv];exact Nat.testBit_and _ _ _
 rw[this,Lf,←he n,Rq,UL];cases Nb e.1 n<;>cases(l.any fun k=>Nat.beq k n)<;>rfl
def Tg (l:List Nat) (e:CH) (K:Env→Ao):Ao:=@List.rec Nat (fun _=>CH→(Env→Ao)→Ao) (fun _ K=>K [])
 (fun n _ ih e K=>@Bool.rec (fun _=>Ao) (ih e K) (@List.rec (Nat×V) (fun _=>Nat→Ao→(V→Ao)→Ao) (fun _ x _=>x) (fun p _ ih n x K=>@Bool.rec (fun _=>Ao) (ih n x K) (K p.2) (Nat.beq p.1 n)) e.2 n (ih e K) (fun v=>ih e fun r=>K ((n,v)::r))) (Nb e.1 n)) l e K
def iF (env:Env) (n:Nat) (x:Ao) (K:V→Ao): @List.rec (Nat×V) (fun _=>Nat→Ao→(V→Ao)→Ao) (fun _ x _=>x) (fun p _ ih n x K=>@Bool.rec (fun _=>Ao) (ih n x K) (K p.2) (Nat.beq p.1 n)) env n x K=match get n env with|some v=>K v|none=>x:=by
 induction env with
 | nil=>rfl
 | cons p r ih=>
   obtain⟨j,v⟩:=p;show @Bool.rec (fun _=>Ao) _ (K v) (Nat.beq j n)=match(bif Nat.beq j n then some v else get n r)with|some v=>K v|none=>x
   cases Nat.beq j n
   ·exact ih
   ·rfl
def No {e:CH} {env:Env} (he:IX e env): ∀(l:List Nat) (K:Env→Ao),Tg l e K=K (Gl.prune l env)
 | [],K=>rfl
 | n ::r,K=>by
   show @Bool.rec (fun _=>Ao) (Tg r e K) (@List.rec (Nat×V) (fun _=>Nat→Ao→(V→Ao)→Ao) (fun _ x _=>x) (fun p _ ih n x K=>@Bool.rec (fun _=>Ao) (ih n x K) (K p.2) (Nat.beq p.1 n)) e.2 n (Tg r e K) (fun v=>Tg r e fun r=>K ((n,v)::r))) (Nb e.1 n)=_;rw[iF,No he r];simp only[No he r,Gl.prune];rw[←he n,Rq];cases Nb e.1 n with
   | false=>rfl
   | true=>
     simp only[cond_true];cases get n e.2<;>rfl
def IF (env:Env):Nat:=@List.rec (Nat×V) (fun _=>Nat) 0 (fun p _ ih=>Nat.lor ih (Nat.shiftLeft 1 p.1)) env
def QZ: ∀(env:Env) (n:Nat),Nb (IF env) n=(get n env).isSome
 | [],n=>by rw[Jv];exact Nat.zero_testBit n
 | (k,v)::r,n=>by
   show Nb (Nat.lor (IF r) (Nat.shiftLeft 1 k)) n=_;rw[Oa,QZ r n];simp only[get];cases Nat.beq k n<;>simp
def IX.of (env:Env):IX ⟨IF env,env⟩ env:=fun n=>by
 show(bif Nb (IF env) n then get n env else none)=_;rw[QZ];cases get n env<;>rfl
abbrev IH:=AY→CH→St→Ao
def QL (r:Ao) (K:CH→St→Ao):Ao:=@Option.rec (Af×CH×St) (fun _=>(CH→St→Ao)→Ao) (fun _=>none) (fun p K=>@Af.rec (fun _=>CH→St→(Af×CH×St)→(CH→St→Ao)→Ao) (fun env s _ K=>K env s) (fun _ _ _ p _=>some p) (fun _ _ p _=>some p) (fun _ _ _ p _=>some p) p.1 p.2.1 p.2.2 p K) r K
def tJ (r:Rs) (K':Env→St→Rs):Rs:=match r with|some (.normal,env,s)=>K' env s|r=>r
def MK {r:Ao} {r':Rs} (h:GO r r') {K:CH→St→Ao} {K':Env→St→Rs} (U: ∀e env s,IX e env→GO (K e s) (K' env s)):GO (QL r K) (tJ r' K'):=by
 cases r with
 | none=>cases r' with|none=>trivial|some p=>exact h.elim
 | some p=>
   cases r' with
   | none=>exact h.elim
   | some p'=>
     obtain⟨x,e,s⟩:=p;obtain⟨x',env,s'⟩:=p';obtain⟨rfl,rfl,he⟩:=h;cases x with
     | normal=>exact U e env s he
     | exit id=>exact⟨rfl,rfl,he⟩
     | ret=>exact⟨rfl,rfl,he⟩
     | Bf v=>exact⟨rfl,rfl,he⟩
def N9 (s:St) (e:CH):List RS→Option (List V)
 | []=>some []
 | .t n::r=>ob (Rq e n) fun v=>ob (N9 s e r) fun vs=>some (v::vs)
 | .c n g::r=>ob (Rq e n) fun a=>ob (Mz s g a) fun v=>ob (N9 s e r) fun vs=>some (v::vs)
def Xl (AJ:List RS) (r:Ao):Option (R×St):=
 match r with
 | some (.normal,env,s)=>ob (N9 s env AJ) fun vs=>some (.ret (EY vs),s)
 | some (.ret,env,s)=>ob (N9 s env AJ) fun vs=>some (.ret (EY vs),s)
 | some (.Bf v,_,s)=>some (.Bf v,s)
 | _=>none
def T7 (tab:JX) (ih:IH) (g:FuncId) (cap:List V) (m:Option V) (AJ:List RS) (env:CH) (s:St):Option (R×St):=
 match tab g with
 | some (.sK n k ops ac l)=>bif Nat.ble cap.length n then
  match ih (.seq l (.DB ops) ac) ⟨IF (put (some k) (m.getD .Db) (BA 0 cap)),put (some k) (m.getD .Db) (BA 0 cap)⟩ s with
  | some (.normal,_,s')=>ob (N9 s' env AJ) fun vs=>some (.ret (EY vs),s')
  | some (.ret,_,s')=>ob (N9 s' env AJ) fun vs=>some (.ret (EY vs),s')
  | _=>none
   else none
 | some (.uN n ac)=>match m with
   | some _=>none
   | none=>bif Nat.ble cap.length n then
     match ih ac ⟨IF (BA 0 cap),BA 0 cap⟩ s with
     | some (.normal,_,s')=>ob (N9 s' env AJ) fun vs=>some (.ret (EY vs),s')
     | some (.ret,_,s')=>ob (N9 s' env AJ) fun vs=>some (.ret (EY vs),s')
     | _=>none
   else none
 | _=>none
def SL (tab:JX) (ih:IH) (f:FuncId) (vs:List V) (s:St):Option (R×St):=
 match tab f with
 | some (.fn n ac AJ)=>bif Nat.ble vs.length n then Xl AJ (ih ac ⟨IF (BA 0 vs),BA 0 vs⟩ s)else none
 | some (.sP n aA ops x aC AJ l1 l2)=>bif Nat.ble vs.length n then
  match ih (.seq l1 aA (.DB ops)) ⟨IF (BA 0 vs),BA 0 vs⟩ s with
  | some (.normal,env,s1)=>match(match x with| .t n=>Rq env n| .c v=>bif BL v then some v else none)with
    | some (.f (.func g) [] cap)=>match ih aC (L0 l2 env) s1 with
      | some (.normal,env2,s2)=>T7 tab ih g cap none AJ env2 s2
      | some (.ret,env2,s2)=>T7 tab ih g cap none AJ env2 s2
      | some (.Bf v,env2,s2)=>T7 tab ih g cap (some v) AJ env2 s2
      | _=>none
    | _=>none
  | _=>none
   else none
 | some (.sY n ac AJ)=>bif Nat.ble vs.length n then mf (Xl AJ (ih ac ⟨IF (BA 0 vs),BA 0 vs⟩ s))else none
 | some (.ZJ c)=>c vs s
 | _=>none
def FH (tab:JX) (memo:Ev) (ih:IH):CF:=fun f vs s=>
 match memo f with
 | []=>SL tab ih f vs s
 | m::r=>match T4 vs (m::r)with
   | some v=>some (.ret v,s)
   | none=>SL tab ih f vs s
def JJ (tab:JX) (memo:Ev) (ih:IH):CV:=fun x vs s=>
 match x with
 | .f (.func f) first cap=>FH tab memo ih f (first++vs++cap) s
 | .f (.yield L) [] []=>match s.t.get L with
   | some (.loop .ready env ps a b)=>bif Nat.beq vs.length ps.length then
    Tr.put none BE s.t L fun t=>match ih a ⟨IF (E6 ps vs env),E6 ps vs env⟩ ⟨s.nx,t⟩with
    | some (.normal,env1,s1)=>match ih b env1 s1 with
      | some (.normal,_,s2)=>Tr.put (some (.loop .ready env ps a b)) BE s2.t L fun t=>some (.ret (.b true),⟨s2.nx,t⟩)
      | some (.ret,_,s2)=>Tr.put (some (.loop .ret env ps a b)) BE s2.t L fun t=>some (.ret (.b false),⟨s2.nx,t⟩)
      | some (.exit id,_,s2)=>Tr.put (some (.loop (.exit id) env ps a b)) BE s2.t L fun t=>some (.ret (.b false),⟨s2.nx,t⟩)
      | some (.Bf v,_,s2)=>some (.Bf v,s2)
      | none=>none
    | _=>none
     else none
   | _=>none
 | _=>none
def J8 (tab:JX) (memo:Ev) (ih:IH):CP:=fun f vs=>
 bif B6 vs then match FH tab memo ih f vs ⟨0,.leaf⟩with
  | some (.ret v,s)=>match G7 s Tk v with
    | some u=>bif BL u then some u else none
    | none=>none
  | _=>none
 else none
abbrev SK:=JX→Ev→IH→CH→St→Ao
def cN (c : AY):SK:=@AY.rec (fun _=>SK)
 (fun _ _ _ env s=>some (.normal,env,s))
 (fun ops tab memo ih env s=>bW ops (FH tab memo ih) (JJ tab memo ih) (J8 tab memo ih) env s)
 (fun l ops tab memo ih env s=>QL (UD ops (FH tab memo ih) (JJ tab memo ih) (J8 tab memo ih) env s) fun env s=>some (.normal,L0 l env,s))
 (fun l a b _ _ _ _ ih env s=>QL (ih a env s) fun env s=>ih b (L0 l env) s)
 (fun c a b _ _ _ _ ih env s=>Bp c env fun v=>kq v fun t=>@Bool.rec (fun _=>Ao) (ih b env s) (ih a env s) t)
 (fun id a _ tab memo ih env s=>match ih a env s with
  | some (.exit id',env',s')=>bif Nat.beq id' id then some (.normal,env',s')else some (.exit id',env',s')
  | r=>r)
 (fun l a _ _ _ ih env s=>Tg l env fun E=>QL (ih a ⟨IF E,E⟩ s) fun env s=>ih (.loop l a) env s)
 (fun id _ _ _ env s=>some (.exit id,env,s))
 (fun _ _ _ env s=>some (.ret,env,s))
 (fun a _ _ _ ih env s=>ih a env s)
 (fun l g ps a b _ _ tab memo ih env s=>Bp g env fun v=>match v with
  | .f (.func gf) [] cap=>Tg l env fun E=>s.new (.loop .ready E ps a b) fun i s1=>
   match FH tab memo ih gf (.f (.yield i) [] []::cap) s1 with
   | some (.ret _,s2)=>match s2.t.get i with
     | some (.loop st _ _ _ _)=>Tr.put none BE s2.t i fun t=>some ((match st with| .ready=> .normal| .ret=> .ret| .exit id=> .exit id),env,⟨s2.nx,t⟩)
     | _=>none
   | some (.Bf v,s2)=>match s2.t.get i with
     | some _=>Tr.put none BE s2.t i fun t=>some (.Bf v,env,⟨s2.nx,t⟩)
     | none=>none
   | none=>none
  | _=>none) c
def runK (tab:JX) (memo:Ev) (n:Nat):IH:=@Nat.rec (fun _=>IH) (fun _ _ _=>none) (fun _ ih c env s=>cN c tab memo ih env s) n
def WB (ihm:IH) (ih:AY→Env→St→Rs):Prop:= ∀c {e env} s,IX e env→GO (ihm c e s) (ih c env s)
def K4 {s:St} {e:CH} {env:Env} (he:IX e env): ∀l:List RS,N9 s e l=Xa s env l
 | []=>rfl
 | .t n::r=>by simp only[N9,Xa,he n,K4 he r]
 | .c n g::r=>by simp only[N9,Xa,he n,K4 he r]
def U1 {AJ:List RS} {r:Ao} {r':Rs} (h:GO r r'):Xl AJ r=ZQ AJ r':=by
 cases r with
 | none=>cases r' with|none=>rfl|some p=>exact h.elim
 | some p=>
   cases r' with
   | none=>exact h.elim
   | some p'=>
     obtain⟨x,e,s⟩:=p;obtain⟨x',env,s'⟩:=p';obtain⟨rfl,rfl,he⟩:=h;cases x<;>first|rfl|simp only[Xl,ZQ,K4 he]
def fN {tab : JX} {ihm:IH} {ih:AY→Env→St→Rs} (hi:WB ihm ih) {g:FuncId} {cap:List V} {m:Option V} {AJ:List RS} {e:CH} {env:Env} (he:IX e env) (s:St):T7 tab ihm g cap m AJ e s=V4 tab ih g cap m AJ env s:=by
 unfold T7 V4;cases tab g with
 | none=>rfl
 | some fs =>
   cases fs<;>first|rfl|skip
   ·rename_i n k ops ac l
    simp only;have:=hi (.seq l (.DB ops) ac) s (IX.of (put (some k) (m.getD .Db) (BA 0 cap)))
    revert this
    cases ihm (.seq l (.DB ops) ac) _ s with
    | none=>cases ih (.seq l (.DB ops) ac) _ s with|none=>intro _;rfl|some p=>intro h;exact h.elim
    | some p=>
      cases ih (.seq l (.DB ops) ac) _ s with
      | none=>intro h;exact h.elim
      | some p'=>
        obtain⟨x,e1,s1⟩:=p;obtain⟨x',env1,s1'⟩:=p';rintro⟨rfl,rfl,he1⟩;cases x<;>simp only[K4 he]
   ·rename_i n ac
    cases m with
    | some v=>rfl
    | none=>
      simp only;have:=hi ac s (IX.of (BA 0 cap))
      revert this
      cases ihm ac _ s with
      | none=>cases ih ac _ s with|none=>intro _;rfl|some p=>intro h;exact h.elim
      | some p=>
        cases ih ac _ s with
        | none=>intro h;exact h.elim
        | some p'=>
          obtain⟨x,e1,s1⟩:=p;obtain⟨x',env1,s1'⟩:=p';rintro⟨rfl,rfl,he1⟩;cases x<;>simp only[K4 he]
def ak {tab : JX} {ihm:IH} {ih:AY→Env→St→Rs} (hi:WB ihm ih) (f:FuncId) (vs:List V) (s:St):SL tab ihm f vs s=QT tab ih f vs s:=by
 unfold SL QT;cases tab f with
 | none=>rfl
 | some fs =>
   cases fs with
   | sK n k ops ac l=>rfl
   | ZJ c=>rfl
   | uN n ac=>rfl
   | fn n ac AJ=>simp only;rw[U1 (hi ac s (IX.of (BA 0 vs)))]
   | sY n ac AJ=>simp only;rw[U1 (hi ac s (IX.of (BA 0 vs)))]
   | sP n aA ops x aC AJ l1 l2=>
     simp only;have:=hi (.seq l1 aA (.DB ops)) s (IX.of (BA 0 vs))
     revert this
     cases ihm (.seq l1 aA (.DB ops)) _ s with
     | none=>cases ih (.seq l1 aA (.DB ops)) _ s with|none=>intro _;rfl|some p=>intro h;exact h.elim
     | some p=>
       cases ih (.seq l1 aA (.DB ops)) _ s with
       | none=>intro h;exact h.elim
       | some p'=>
         obtain⟨x1,e1,s1⟩:=p;obtain⟨x1',env1,s1'⟩:=p';rintro⟨rfl,rfl,he1⟩;cases x1<;>first|rfl|skip
         simp only;have hx:(match x with| .t n=>Rq e1 n| .c v=>bif BL v then some v else none)=DM env1 x:=by cases x<;>first|exact he1 _|rfl
         rw[hx];cases DM env1 x with
         | none=>rfl
         | some v=>
           cases v<;>first|rfl|skip
           rename_i fn first cap
           cases fn<;>first|rfl|skip
           cases first<;>first|rfl|skip
           simp only;have:=hi aC s1 (he1.prune l2)
           revert this
           cases ihm aC (L0 l2 e1) s1 with
           | none=>cases ih aC (Gl.prune l2 env1) s1 with|none=>intro _;rfl|some p=>intro h;exact h.elim
           | some p=>
             cases ih aC (Gl.prune l2 env1) s1 with
             | none=>intro h;exact h.elim
             | some p'=>
               obtain⟨x2,e2,s2⟩:=p;obtain⟨x2',env2,s2'⟩:=p';rintro⟨rfl,rfl,he2⟩;cases x2<;>simp only[fN hi he2]
def GK {tab:JX} {memo:Ev} {ihm:IH} {ih:AY→Env→St→Rs} (hi:WB ihm ih):FH tab memo ihm=Gx tab memo ih:=by
 funext f vs s;unfold FH Gx;simp only[ak hi];rfl
def Pp {tab : JX} {memo:Ev} {ihm:IH} {ih:AY→Env→St→Rs} (hi:WB ihm ih):JJ tab memo ihm=MB tab memo ih:=by
 funext x vs s;unfold JJ MB;rw[GK hi];cases x<;>first|rfl|skip
 rename_i fn first cap
 cases fn<;>first|rfl|skip
 cases first<;>first|rfl|skip
 cases cap<;>first|rfl|skip
 rename_i L;simp only;cases s.t.get L with
 | none=>rfl
 | some o=>
   cases o<;>first|rfl|skip
   rename_i st env ps a b;cases st<;>first|rfl|skip
   simp only;congr 2;funext t;have:=hi a ⟨s.nx,t⟩ (IX.of (E6 ps vs env))
   revert this
   cases ihm a _ ⟨s.nx,t⟩with
   | none=>cases ih a _ ⟨s.nx,t⟩with|none=>intro _;rfl|some p=>intro h;exact h.elim
   | some p=>
     cases ih a _ ⟨s.nx,t⟩with
     | none=>intro h;exact h.elim
     | some p'=>
       obtain⟨x1,e1,s1⟩:=p;obtain⟨x1',env1,s1'⟩:=p';rintro⟨rfl,rfl,he1⟩;cases x1<;>first|rfl|skip
       simp only;have:=hi b s1 he1
       revert this
       cases ihm b e1 s1 with
       | none=>cases ih b env1 s1 with|none=>intro _;rfl|some p=>intro h;exact h.elim
       | some p=>
         cases ih b env1 s1 with
         | none=>intro h;exact h.elim
         | some p'=>
           obtain⟨x2,e2,s2⟩:=p;obtain⟨x2',env2,s2'⟩:=p';rintro⟨rfl,rfl,he2⟩;cases x2<;>rfl
def Mh {tab:JX} {memo:Ev} {ihm:IH} {ih:AY→Env→St→Rs} (hi:WB ihm ih):J8 tab memo ihm=OO tab memo ih:=by
 funext f vs;unfold J8 OO;rw[GK hi];rfl
def eJ {tab : JX} {memo:Ev} {ihm:IH} {ih:AY→Env→St→Rs} (hi:WB ihm ih) (c:AY) {e:CH} {env:Env} (s:St) (he:IX e env):GO (cN c tab memo ihm e s) (IK tab memo ih c env s):=by
 cases c with
 | skip=>exact⟨rfl,rfl,he⟩
 | ret=>exact⟨rfl,rfl,he⟩
 | exit id=>exact⟨rfl,rfl,he⟩
 | scope a=>exact hi a s he
 | DB ops=>
   show GO (bW ops (FH tab memo ihm) (JJ tab memo ihm) (J8 tab memo ihm) e s) _;rw[GK hi,Pp hi,Mh hi];exact YH _ _ _ ops s he
 | G9 l ops=>
   show GO (QL (UD ops (FH tab memo ihm) (JJ tab memo ihm) (J8 tab memo ihm) e s) fun env s=>some (.normal,L0 l env,s)) _;rw[GK hi,Pp hi,Mh hi];exact MK (K':=fun env s=>some (.normal,Gl.prune l env,s)) (U3 _ _ _ ops s he) fun _ _ s he=>⟨rfl,rfl,he.prune l⟩
 | seq l a b=>exact MK (K':=fun env s=>ih b (Gl.prune l env) s) (hi a s he) fun _ _ s he=>hi b s (he.prune l)
 | cond c a b=>
   show GO (Bp c e fun v=>kq v fun t=>@Bool.rec (fun _=>Ao) (ihm b e s) (ihm a e s) t) _;rw[BH he];simp only[IK];cases DM env c with
   | none=>trivial
   | some v=>
     cases v<;>first|trivial|skip
     rename_i t;cases t
     ·exact hi b s he
     ·exact hi a s he
 | block id a=>
   have:=hi a s he;show GO (match ihm a e s with|some (.exit id',env',s')=>bif Nat.beq id' id then some (.normal,env',s')else some (.exit id',env',s')|r=>r) (match ih a env s with|some (.exit id',env',s')=>bif Nat.beq id' id then some (.normal,env',s')else some (.exit id',env',s')|r=>r)
   revert this
   cases ihm a e s with
   | none=>cases ih a env s with|none=>intro _;trivial|some p=>intro h;exact h.elim
   | some p=>
     cases ih a env s with
     | none=>intro h;exact h.elim
     | some p'=>
       obtain⟨x1,e1,s1⟩:=p;obtain⟨x1',env1,s1'⟩:=p';rintro⟨rfl,rfl,he1⟩;cases x1 with
       | exit id'=>
         simp only;cases Nat.beq id' id<;>exact⟨rfl,rfl,he1⟩
       | normal=>exact⟨rfl,rfl,he1⟩
       | ret=>exact⟨rfl,rfl,he1⟩
       | Bf v=>exact⟨rfl,rfl,he1⟩
 | loop l a=>
   show GO (Tg l e fun E=>QL (ihm a ⟨IF E,E⟩ s) fun env s=>ihm (.loop l a) env s) _;rw[No he];exact MK (K':=fun env s=>ih (.loop l a) env s) (hi a s (IX.of _)) fun _ _ s he=>hi (.loop l a) s he
 | Dh l g ps a b=>
   show GO (Bp g e fun v=>match v with
   | .f (.func gf) [] cap=>Tg l e fun E=>s.new (.loop .ready E ps a b) fun i s1=>
    match FH tab memo ihm gf (.f (.yield i) [] []::cap) s1 with
    | some (.ret _,s2)=>match s2.t.get i with
      | some (.loop st _ _ _ _)=>Tr.put none BE s2.t i fun t=>some ((match st with| .ready=> .normal| .ret=> .ret| .exit id=> .exit id),e,⟨s2.nx,t⟩)
      | _=>none
    | some (.Bf v,s2)=>match s2.t.get i with
      | some _=>Tr.put none BE s2.t i fun t=>some (.Bf v,e,⟨s2.nx,t⟩)
      | none=>none
    | none=>none
   | _=>none) _
   rw[BH he,GK hi];simp only[IK];cases DM env g with
   | none=>trivial
   | some v=>
     cases v<;>first|trivial|skip
     rename_i fn first cap
     cases fn<;>first|trivial|skip
     cases first<;>first|trivial|skip
     rename_i gf;simp only[ob];rw[No he]
     have hnew: ∀ {β γ:Type} (o:EO) (f:Nat→St→Option β) (g:Nat→St→Option γ) (Rl:Option β→Option γ→Prop),Rl none none→(∀i s,Rl (f i s) (g i s))→Rl (s.new o f) (s.new o g):=fun {β γ} o f g Rl h0 h1=>by
      obtain⟨n,t⟩:=s;cases n with
      | zero=>simp only[St.new];rw[Tr.put_eq,Tr.put_eq];exact h1 _ _
      | succ n=>
        simp only[St.new];rw[Tr.put_eq,Tr.put_eq];cases Nat.ble (n+1) Ls
        ·exact h0
        ·exact h1 _ _
     refine hnew _ _ _ GO trivial fun i s1=>?_
     cases Gx tab memo ih gf (.f (.yield i) [] []::cap) s1 with
     | none=>trivial
     | some p=>
       obtain⟨x,s2⟩:=p;cases x with
       | ret v=>
         simp only;cases s2.t.get i with
         | none=>trivial
         | some o=>
           cases o<;>first|trivial|skip
           simp only;rw[Tr.put_eq,Tr.put_eq];exact⟨rfl,rfl,he⟩
       | Bf v=>
         simp only;cases s2.t.get i with
         | none=>trivial
         | some o=>
           simp only;rw[Tr.put_eq,Tr.put_eq];exact⟨rfl,rfl,he⟩
def X4 (tab:JX) (memo:Ev): ∀n:Nat,WB (runK tab memo n) (run tab memo n)
 | 0=>fun _ _ _ _ _=>trivial
 | n+1=>fun c _ _ s he=>eJ (X4 tab memo n) c s he
def gW (tab:JX) (memo:Ev) (n:Nat) (f:FuncId) (vs:List V) (v:V):Bool:=
 match J8 tab memo (runK tab memo n) f vs with
 | some u=>EZ u v
 | none=>false
def Ql {tab:JX} (ht:Ku P tab) {memo:Ev} (hm:Gz P memo) {n:Nat} {f:FuncId} {vs:List V} {v:V} (h:gW tab memo n f vs v=true):B6 vs=true∧BL v=true∧Pure P f vs v:=by
 unfold gW at h;rw[Mh (X4 tab memo n)]at h;exact VR ht hm h
def mO (t:Tr ZG):JX:=fun f=>ZO t f
def Xy {t:Tr ZG} (h:Xr (fun i=>NX P i) id t):Ku P (mO t):=fun f fs e=>h f fs ((Sy t f).symm.trans e)
def mr (m:Ev) (f:FuncId) (a:List V) (v:V):Ev:=fun g=>@Bool.rec (fun _=>List (List V×V)) (m g) ((a,v)::m g) (Nat.beq f g)
def kS {m:Ev} (h:Gz P m) {f:FuncId} {a:List V} {v:V} (h1:B6 a=true∧BL v=true∧Pure P f a v):Gz P (mr m f a v):=fun g e he=>by
 unfold mr at he;cases hb:Nat.beq f g with
 | false=>rw[hb]at he;exact h g e he
 | true=>
   rw[hb]at he;have:=Cu hb;subst this;rcases G5.1 he with rfl|he
   ·exact h1
   ·exact h f e he
end Go.Gl
namespace Go.Gl
variable {P:Program}
abbrev S5 (sz b:Nat):AY:=(.seq [0] (.DB [⟨(some 2),.mv (.c (.l [] true)),none⟩])
 (.seq [0] (.seq [0,4] (.DB [⟨(some 3),.mv (.t 0),none⟩,
  ⟨(some 4),.bG 1 false (.t 3),none⟩])
 (.cond (.t 4)
 (.seq [2] (.DB [⟨(some 2),.mv (.c (.l [] true)),none⟩])
 .ret)
 .skip))
 (.seq [2] (.DB [⟨(some 5),.Gy 1 0 [] [],none⟩,
  ⟨(some 6),.mv (.t 0),none⟩,
  ⟨(some 7),.append sz b (.t 5) (.t 6),none⟩,
  ⟨(some 2),.mv (.t 7),none⟩])
 .ret)))
def Z3 {q:Nat} {neg:Bool} {x:V} {k k':V→Prop} (h:Ib q neg x k) (hm: ∀t,k (.b t)→k' (.b t)):Ib q neg x k':=by
 unfold Ib at *;split at h<;>first|exact hm _ h|exact⟨fun e t=>hm _ (h.1 e t),fun e=>hm _ (h.2 e)⟩|exact h.elim
def Ml {v:V} {σ:AH} {Q:R→AH→Prop} (h:Q (.ret v) σ):Ap σ v Q:=⟨v,σ,fun _ _ h=>h,.refl _,h⟩
def dn {ρ:Ren} {f:Bool}:RV ρ (.l [] f) (.l [] f):=by simp only[RV];exact⟨[],rfl,rfl⟩
section
attribute [local irreducible] A8 Ap Ag AT AL Ae AS AU AK Ad AO AP Aw A2 AX A0 Ai W Ib
def kG {sz b:Nat} {v:V} {σ:AH} {Q:R→AH→Prop} (h1:Ib 1 false v fun t=>(t= .b true→Ap σ (.l [] true) Q)∧(t= .b false→AL b σ sz (.l [] true) v fun v' σ'=>Ap σ' v' Q)) :
    W P (S5 sz b) (Tv [.t 2] Q) [(0,v)] σ:=by
 conv=>whnf
 repeat((first|(refine Ar ?_;intro K U)|(refine Ab ?_;intro I C G F)|(apply G;clear F C G I)|(apply U;clear U K)|fail);conv=>whnf)
 refine Z3 h1 fun t ht=>?_
 conv=>whnf
 repeat((first|(apply G;clear F C G I)|refine Bi ?_|(apply U;clear U K)|fail);conv=>whnf)
 refine⟨fun h=>?_,fun h=>?_⟩
 ·subst h
  conv=>whnf
  repeat((first|(refine Ar ?_;intro K U)|(refine Ab ?_;intro I C G F)|(apply G;clear F C G I)|refine DV ?_|(apply U;clear U K)|(clear U K));conv=>whnf)
  exact ht.1 rfl
 ·subst h
  conv=>whnf
  repeat((first|(refine Ar ?_;intro K U)|(refine Ab ?_;intro I C G F)|refine Br ?_|(apply U;clear U K)|fail);conv=>whnf)
  refine Ld (ht.2 rfl) fun v' σ' hq=>?_
  conv=>whnf
  repeat((first|(apply G;clear F C G I)|refine DV ?_|(apply U;clear U K)|fail);conv=>whnf)
  exact hq
end
def fX {f : FuncId} {n sz b:Nat} (h: ∀(args:List V) (σ:AH) (Q:R→AH→Prop),args.length≤n→T P (S5 sz b) (Tv [.t 2] Q) (BA 0 args) σ→A8 P f args σ Q) (hn:1≤n) (hb:b≤131072:=by decide):NX P f (.ZJ (WZ sz)):=by
 intro vs s r s' hc ρ vs' σ hv hs Q hQ
 have main: ∀ {v v':V} {ys:List (List V)},vs= [v]→vs'= [v']→RV ρ v v'→IL s sz v=some ys→(ys= []→r= .ret (.l [] true)∧s'=s)→
  (ys≠[]→(ys.all (fun e=>e.all CE)&&Nat.ble ys.length 1073741824)=true∧s.nx≤Ls∧r= .ret (.sl s.nx ys.length 0)∧s'=⟨s.nx+1,Tr.set (some (.arr sz ys)) BE s.t s.nx⟩)→
  (∀k:V→Prop,(ys= []→ ∀t,k (.b t))→(ys≠[]→k (.b false))→Ib 1 false v' k)→A8 P f vs' σ Q:=fun {v v' ys} e1 e2 hr hy h0 h1 hk=>by
  subst e1;subst e2;refine h _ _ _ hn (ku (kG (hk _ (fun e t=>⟨fun _=>?_,fun _=>?_⟩) fun e=>⟨fun h=>(by cases h),fun _=>?_⟩)))
  ·obtain⟨rfl,rfl⟩:=h0 e
   exact Ml (hQ ρ _ σ (.refl _) ⟨_,dn,rfl⟩ hs)
  ·obtain⟨rfl,rfl⟩:=h0 e
   refine HR hs hy hr fun ys' hr'=>?_
   have:ys'= []:=by
    have:=hr'.len;rw[e]at this;exact Vt.1 this
   subst this;exact⟨fun e he=>(by cases he),fun e he=>(by cases he),⟨Nat.zero_le _,by simp⟩,fun _=>Ml (hQ ρ _ σ (.refl _) ⟨_,dn,rfl⟩ hs),fun h=>absurd rfl h⟩
  ·obtain⟨g1,g2,rfl,rfl⟩:=h1 e
   simp only[BU]at g1;refine HR hs hy hr fun ys' hr'=>?_
   have hl:=hr'.len;have hne:ys'≠[]:=fun e'=>e (by rw[e']at hl;exact Vt.1 hl.symm)
   refine⟨LU g1.1 hr',fun e he=>(by cases he),?_,fun e=>absurd e hne,fun _=>⟨rfl,fun n cap hn0 hc=>?_⟩⟩
   ·have:=R4 (b:=b) (L:=ys.length) (by simp only[sN,BU];exact⟨g1.2,Nat.ble_eq_true_of_le hb⟩)
    simp only[List.length_nil,G2];rw[hl];exact this
   ·obtain⟨ρ',q1,q2,q3⟩:=hs.new g2 hn0 cap (o:= .arr sz ys) (o':= .arr sz ys' cap) ⟨_,hr',rfl⟩
    refine Ml (hQ ρ' _ _ q1 ?_ ?_)
    ·refine⟨_,?_,rfl⟩
     simp only[RV];exact⟨_,q2,by simp[hl]⟩
    ·simpa using q3
 have parts: ∀ {ys:List (List V)},(match some ys with
  | some []=>some (R.ret (V.l [] true),s)
  | some (y::ys)=>bif (y::ys).all (fun e=>e.all CE)&&Nat.ble (y::ys).length 1073741824 then s.new (.arr sz (y::ys)) fun i s'=>some (.ret (.sl i (y::ys).length 0),s')else none
  | none=>none)=some (r,s')→(ys= []→r= .ret (.l [] true)∧s'=s)∧
    (ys≠[]→(ys.all (fun e=>e.all CE)&&Nat.ble ys.length 1073741824)=true∧s.nx≤Ls∧r= .ret (.sl s.nx ys.length 0)∧s'=⟨s.nx+1,Tr.set (some (.arr sz ys)) BE s.t s.nx⟩):=fun {ys} hc=>by
  cases ys with
  | nil=>cases hc;exact⟨fun _=>⟨rfl,rfl⟩,fun h=>absurd rfl h⟩
  | cons y ys=>
    obtain⟨h1,h2⟩:=AZ hc;obtain⟨h3,h4⟩:=St.Hm h2;cases h4;exact⟨fun h=>(by cases h),fun _=>⟨h1,h3,rfl,rfl⟩⟩
 unfold WZ at hc;split at hc
 ·rename_i es f
  obtain⟨v',l',k1,k2,rfl⟩:=hv;obtain rfl:l'= []:=k2;cases hy:IL s sz (.l es f)with
  | none=>rw[hy]at hc;cases hc
  | some ys=>
    rw[hy]at hc;obtain⟨p1,p2⟩:=parts hc;refine main rfl rfl k1 hy p1 p2 fun k h0 h1=>?_
    simp only[RV]at k1;obtain⟨es',k3,rfl⟩:=k1;have hl:=(FQ.1 k3).len
    have he:ys=es:=by
     simp only[IL]at hy;exact(Option.some.inj (AZ hy).2).symm
    subst he;unfold Ib;exact⟨fun e=>h0 (by rw[e]at hl;exact Vt.1 hl.symm),fun e=>h1 fun e'=>e (by rw[e']at hl;exact Vt.1 hl)⟩
 ·rename_i m len c
  obtain⟨v',l',k1,k2,rfl⟩:=hv;obtain rfl:l'= []:=k2;cases hy:IL s sz (.sl m len c)with
  | none=>rw[hy]at hc;cases hc
  | some ys=>
    rw[hy]at hc;obtain⟨p1,p2⟩:=parts (ys:=ys) hc;refine main rfl rfl k1 hy p1 p2 fun k h0 h1=>?_
    simp only[RV]at k1;obtain⟨m',k3,rfl⟩:=k1;unfold Ib;show k (.b false);by_cases e:ys= []
    ·exact h0 e false
    ·exact h1 e
 ·cases hc
end Go.Gl
namespace Go.Gl
variable {P:Program}
structure bJ (P:Program) where
 k:Nat
 fs:ZG
 ok:NX P k fs
def sX:List (bJ P)→Tr ZG
 | []=> .leaf
 | e::r=>bif Nat.ble e.k 1000000 then Tr.set (some e.fs) BE (sX r) e.k else sX r
def WN: ∀l:List (bJ P),Xr (fun i=>NX P i) id (sX l)
 | []=>kO
 | e ::r=>by
   unfold sX;cases h:Nat.ble e.k 1000000 with
   | false=>exact WN r
   | true=>
     have hk:e.k+1<2 ^ BE:=by
      have:=Nat.le_of_ble_eq_true h;have e2:(2:Nat) ^ BE=1099511627776:=by decide
      omega
     intro j a ha;rw[cond_true,Tr.Dv BE _ _ hk]at ha;split at ha
     ·next e1=>subst e1;cases ha;exact e.ok
     ·exact WN r j a ha
def eX {k n:Nat} {fn:Func} {ac:AY} {rs:List RS} (pu fz:List Nat) (hf:P.funcs[k]? =some fn)
    (hn:fn.ntmps=n:=by conv=>lhs;reduce)
    (hr:Lp P fn.results.toList=some rs:=by conv=>lhs;reduce)
    (hc:ZE (rs.map sR) ((fn.body.bind (res P fn.ntmps pu fz)).getD .skip) [] (rs.map sR)=ac:=by conv=>lhs;reduce)
    (hb:fn.body.bind (res P fn.ntmps pu fz)=some (erase ac):=by kernel_rfl) (hok:okF P k=true:=by kernel_rfl):bJ P:=
 ⟨k,.fn n ac rs,fun _ _ _ ha h=>EW hf hok hb hr (hn ▸ ha) h⟩
def eZ {k n:Nat} {fn:Func} {ac:AY} {rs:List RS} (pu fz:List Nat) (hf:P.funcs[k]? =some fn)
    (hn:fn.ntmps=n:=by conv=>lhs;reduce)
    (hr:Lp P fn.results.toList=some rs:=by conv=>lhs;reduce)
    (hc:ZE (rs.map sR) ((fn.body.bind (res P fn.ntmps pu fz)).getD .skip) [] (rs.map sR)=ac:=by conv=>lhs;reduce)
    (hb:fn.body.bind (res P fn.ntmps pu fz)=some (erase ac):=by kernel_rfl) (hok:okF P k=true:=by kernel_rfl):bJ P:=
 ⟨k,.sY n ac rs,fun _ _ _ ha h=>EW hf hok hb hr (hn ▸ ha) h⟩
def eC {k:Nat} {fn:Func} (sz b:Nat) (hf:P.funcs[k]? =some fn) (hb:fn.body.bind (res P fn.ntmps [] [])=some (erase (S5 sz b)):=by kernel_rfl)
    (hr:Lp P fn.results.toList=some [.t 2]:=by kernel_rfl) (hok:okF P k=true:=by kernel_rfl) (hn:Nat.ble 1 fn.ntmps=true:=by kernel_rfl) (hs:Nat.ble b 131072=true:=by kernel_rfl):bJ P:=
 ⟨k,.ZJ (WZ sz),fX (sz:=sz) (b:=b) (fun _ _ _ ha h=>EW hf hok hb hr ha h) (Nat.le_of_ble_eq_true hn) (Nat.le_of_ble_eq_true hs)⟩
structure MM (P:Program) where
 m:Ev
 ok:Gz P m
def MM.add (M:MM P) {f:Nat} {vs:List V} {v:V} (h:B6 vs=true∧BL v=true∧Pure P f vs v):MM P:=⟨mr M.m f vs v,kS M.ok h⟩
end Go.Gl
namespace Go.Gl
open Go.Proofs
set_option maxRecDepth 100000
set_option maxHeartbeats 4000000
def e17:=eX [] [] Tryz.func17
def zu:=eZ [] [] Tryz.func66
def e18:=eX [] [] Tryz.func18
def e19:=eX [] [] Tryz.func19
def e23:=eX [] [] Tryz.func23
def e22:=eX [] [] Tryz.func22
def z8:=eX [] [] Tryz.func38
def zt:=eZ [] [] Tryz.func67
def e15:=eX [] [] Tryz.func15
def z7:=eX [] [] Tryz.func40
def e31:=eX [] [] Tryz.func31
def e25:=eX [] [] Tryz.func25
def zq:=eX [] [] Tryz.func69
def zr:=eX [] [] Tryz.func68
def e27:=eX [] [] Tryz.func27
def zp:=eX [] [] Tryz.func70
def zy:=eX [] [] Tryz.func59
def zm:=eX [] [] Tryz.func73
def zn:=eX [] [] Tryz.func72
def zo:=eX [] [] Tryz.func71
def zl:=eX [] [] Tryz.func74
def zk:=eX [] [] Tryz.func78
def y3:=eX [] [] Tryz.func100
def y2:=eZ [] [] Tryz.func101
def zv:=eX [] [] Tryz.func62
def y1:=eX [] [] Tryz.func102
def ym:=eX [] [] Tryz.func137
def zx:=eX [] [] Tryz.func60
def zf:=eX [] [] Tryz.func84
def zh:=eX [] [] Tryz.func82
def zg:=eX [] [] Tryz.func83
def ze:=eX [] [] Tryz.func92
def zd:=eX [] [] Tryz.func93
def zi:=eX [] [] Tryz.func81
def e34:=eX [] [] Tryz.func34
def yq:=eX [] [] Tryz.func131
def yp:=eX [] [] Tryz.func132
def yl:=eX [] [] Tryz.func138
def yj:=eX [] [] Tryz.func140
def yk:=eX [] [] Tryz.func139
def yf:=eX [] [] Tryz.func144
def zj:=eX [] [] Tryz.func79
def z6:=eX [] [] Tryz.func49
def yX:=eX [] [] Tryz.func159
def yo:=eX [] [] Tryz.func133
def yn:=eX [] [] Tryz.func134
def yW:=eX [] [] Tryz.func160
def zw:=eX [] [] Tryz.func61
def yd:=eX [] [] Tryz.func146
def yc:=eX [] [] Tryz.func147
def yb:=eX [] [] Tryz.func150
def ya:=eZ [] [] Tryz.func151
def yy:=eX [] [] Tryz.func118
def yZ:=eX [] [] Tryz.func152
end Go.Gl
