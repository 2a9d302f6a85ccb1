import Derived.Test.YtegbmnmnaijioaaGreatProg
import Derived.KernelRfl
import Derived.Test.YtegbmnmnaijioaaGreatL6
import Derived.Test.YtegbmnmnaijioaaGreatL17
set_option linter.all false
set_option linter.defProp false
noncomputable section
namespace Go.Gl
variable {P:Program}
structure CD where
 M:Nat
 E:Env
abbrev Al:=Option (Ah×CD×St)
def J9 {α β:Type} (c:Bool) (x:Option α) (g:α->Option β):ob (bif c then x else none) g=bif c then ob x g else none:=by cases c<;>rfl
def jn (env:Env) (n:Nat) (K:V->Al):Al:=@List.rec (Nat×V) (fun _=>Nat->(V->Al)->Al) (fun _ _=>none) (fun p _ ih n K=>@Bool.rec (fun _=>Al) (ih n K) (K p.2) (Nat.beq p.1 n)) env n K
def ly (env:Env) (n:Nat) (K:V->Al):jn env n K=ob (get n env) K:=by
 induction env with
 | nil=>rfl
 | cons p r ih=>
   obtain⟨j,v⟩:=p;show @Bool.rec (fun _=>Al) (jn r n K) (K v) (Nat.beq j n)=ob (bif Nat.beq j n then some v else get n r) K;cases Nat.beq j n
   .exact ih
   .rfl
def SC {α:Type} (cs:List α) (i:Nat) (K:α->Al):Al:=@List.rec α (fun _=>Nat->(α->Al)->Al) (fun _ _=>none) (fun v _ ih i K=>@Nat.rec (fun _=>Al) (K v) (fun j _=>ih j K) i) cs i K
def K0 {α:Type} (cs:List α): ∀(i:Nat) (K:α->Al),SC cs i K=ob cs[i]? K:=by
 induction cs with
 | nil=>intro i K;rfl
 | cons v r ih=>
   intro i K;cases i with
   | zero=>rfl
   | succ j=>exact ih j K
def Fx {α:Type} (cs:List α):Nat:=@List.rec α (fun _=>Nat) 0 (fun _ _ ih=>Nat.succ ih) cs
def E7 {α:Type} (cs:List α):Fx cs=cs.length:=by
 induction cs with
 | nil=>rfl
 | cons v r ih=>show Nat.succ (Fx r)=_;rw[ih];rfl
def Ue {α:Type} (cs:List α) (n:Nat):List α:=@Nat.rec (fun _=>List α->List α) (fun cs=>cs) (fun _ ih cs=>@List.rec α (fun _=>(List α->List α)->List α) (fun _=>[]) (fun _ r _ ih=>ih r) cs ih) n cs
def PE {α:Type}: ∀(n:Nat) (cs:List α),Ue cs n=cs.drop n
 | 0,cs=>rfl
 | n+1,[]=>rfl
 | n+1,v::r=>PE n r
def YL {α:Type} (cs:List α) (n:Nat):List α:=@List.rec α (fun _=>Nat->List α) (fun _=>[]) (fun v _ ih n=>@Nat.rec (fun _=>List α) [] (fun j _=>v::ih j) n) cs n
def gN {α:Type} (cs:List α): ∀n:Nat,YL cs n=cs.take n:=by
 induction cs with
 | nil=>intro n;cases n<;>rfl
 | cons v r ih=>
   intro n;cases n with
   | zero=>rfl
   | succ j=>show v::YL r j=_;rw[ih];rfl
def Wf {α:Type} (cs:List α) (n:Nat) (x:α):List α:=@List.rec α (fun _=>Nat->α->List α) (fun _ _=>[]) (fun v r ih n x=>@Nat.rec (fun _=>List α) (x::r) (fun j _=>v::ih j x) n) cs n x
def Sz {α:Type} (cs:List α) (x:α): ∀n:Nat,Wf cs n x=cs.set n x:=by
 induction cs with
 | nil=>intro n;rfl
 | cons v r ih=>
   intro n;cases n with
   | zero=>rfl
   | succ j=>show v::Wf r j x=_;rw[ih];rfl
def pR {α:Type} (f:α->Bool) (cs:List α):Bool:=@List.rec α (fun _=>(α->Bool)->Bool) (fun _=>true) (fun v _ ih f=>@Bool.rec (fun _=>Bool) false (ih f) (f v)) cs f
def m5 {α:Type} (f:α->Bool) (cs:List α):pR f cs=cs.all f:=by
 induction cs with
 | nil=>rfl
 | cons v r ih=>
   show @Bool.rec (fun _=>Bool) false (pR f r) (f v)=_;rw[WX,ih];cases f v<;>rfl
def fX (v:V) (K:V->Al):Al:=@V.rec (fun _=>V->(V->Al)->Al) (fun _=>Unit) (fun _=>Unit) (fun _ v K=>K v) (fun _ _ v K=>K v) (fun _ v K=>K v) (fun v K=>K v) (fun _ _ v K=>@Bool.rec (fun _=>Al) none (K v) (BF v)) (fun _ _ v K=>@Bool.rec (fun _=>Al) none (K v) (BF v)) (fun _ _ _ v K=>@Bool.rec (fun _=>Al) none (K v) (BF v)) (fun _ _ _ v K=>@Bool.rec (fun _=>Al) none (K v) (BF v)) (fun _ _ _ _ v K=>@Bool.rec (fun _=>Al) none (K v) (BF v)) (fun _ _ _ _ v K=>@Bool.rec (fun _=>Al) none (K v) (BF v)) (fun _ v K=>@Bool.rec (fun _=>Al) none (K v) (BF v)) (fun v K=>K v) (fun _ _ _ _ _ v K=>@Bool.rec (fun _=>Al) none (K v) (BF v)) (fun v K=>K v) (fun _ _ _ v K=>@Bool.rec (fun _=>Al) none (K v) (BF v)) (fun v K=>K v) (fun _ _ v K=>@Bool.rec (fun _=>Al) none (K v) (BF v)) (fun _ _ v K=>@Bool.rec (fun _=>Al) none (K v) (BF v)) (fun v K=>@Bool.rec (fun _=>Al) none (K v) (BF v)) () (fun _ _ _ _=>()) () (fun _ _ _ _=>()) v v K
def BH {α:Type} (c:Bool) (x y:α): @Bool.rec (fun _=>α) y x c=bif c then x else y:=by cases c<;>rfl
def cC (v:V) (K:V->Al):fX v K=ob (bif BF v then some v else none) K:=by
 rw[J9];cases v<;>first|rfl|exact BH _ _ _
def Nq (M n:Nat):Bool:=Nat.beq (Nat.land (Nat.shiftRight M n) 1) 1
def SH (e:CD) (n:Nat):Option V:=bif Nq e.1 n then get n e.2 else none
def IP (e:CD) (env:Env):Prop:= ∀n,SH e n=get n env
def Bs (x:Bg) (e:CD) (K:V->Al):Al:=@Bg.rec (fun _=>CD->(V->Al)->Al) (fun n e K=>@Bool.rec (fun _=>Al) none (jn e.2 n K) (Nq e.1 n)) (fun v _ K=>fX v K) x e K
def BA {e:CD} {env:Env} (he:IP e env) (x:Bg) (K:V->Al):Bs x e K=ob (DI env x) K:=by
 cases x with
 | t n=>
   show @Bool.rec (fun _=>Al) none (jn e.2 n K) (Nq e.1 n)=ob (get n env) K;rw[<-he n,SH,BH,J9,ly]
 | c v=>exact cC v K
def Kk (l:List Bg) (env:CD) (K:List V->Al):Al:=@List.rec Bg (fun _=>CD->(List V->Al)->Al) (fun _ K=>K []) (fun x _ ih env K=>Bs x env fun v=>ih env fun vs=>K (v::vs)) l env K
def Bo {e:CD} {env:Env} (he:IP e env): ∀(l:List Bg) (K:List V->Al),Kk l e K=ob (Nb env l) K
 | [],K=>rfl
 | x ::r,K=>by
   show(Bs x e fun v=>Kk r e fun vs=>K (v::vs))=_;rw[BA he];simp only[Nb];cases DI env x with
   | none=>rfl
   | some v=>
     simp only[ob];rw[Bo he r];cases Nb env r<;>rfl
def Wk (x:Option Bg) (e:CD) (K:Option V->Al):Al:=@Option.rec Bg (fun _=>CD->(Option V->Al)->Al) (fun _ K=>K none) (fun x e K=>Bs x e fun v=>K (some v)) x e K
def Bz {e:CD} {env:Env} (he:IP e env) (x:Option Bg) (K:Option V->Al):Wk x e K=ob (J3 env x) K:=by
 cases x with
 | none=>rfl
 | some x=>
   show(Bs x e fun v=>K (some v))=_;rw[BA he];simp only[J3];cases DI env x<;>rfl
def uy (k:IntKind):Nat:=@IntKind.rec (fun _=>Nat) 0 1 2 3 4 5 6 7 k
def L7 (a b:IntKind):Bool:=Nat.beq (uy a) (uy b)
def mL (a b:IntKind):L7 a b=decide (a=b):=by cases a<;>cases b<;>rfl
def vD (a b:Int):Int:=@Int.rec (fun _=>Int->Int) (fun m b=>@Int.rec (fun _=>Nat->Int) (fun n m=>Int.ofNat (Nat.add m n)) (fun n m=>Int.ofNat m+Int.negSucc n) b m) (fun m b=>Int.negSucc m+b) a b
def nB (a b:Int):vD a b=a+b:=by cases a<;>cases b<;>rfl
def uo (a b:Int):Int:=@Int.rec (fun _=>Int->Int) (fun m b=>@Int.rec (fun _=>Nat->Int) (fun n m=>@Bool.rec (fun _=>Int) (Int.negSucc (Nat.sub n (Nat.succ m))) (Int.ofNat (Nat.sub m n)) (Nat.ble n m)) (fun n m=>Int.ofNat m - Int.negSucc n) b m) (fun m b=>Int.negSucc m - b) a b
def kE (a b:Int):uo a b=a - b:=by
 cases a with
 | negSucc m=>rfl
 | ofNat m=>
   cases b with
   | negSucc n=>rfl
   | ofNat n=>
     show @Bool.rec (fun _=>Int) (Int.negSucc (n - (m+1))) (Int.ofNat (m - n)) (Nat.ble n m)=_;cases h:Nat.ble n m with
     | true=>
       have:=Nat.le_of_ble_eq_true h;show Int.ofNat (m - n)=(m:Int) - (n:Int);simp only[Int.ofNat_eq_natCast];omega
     | false=>
       have: ¬n<=m:=fun h'=>by rw[Nat.ble_eq_true_of_le h']at h;cases h
       show Int.negSucc (n - (m+1))=(m:Int) - (n:Int);omega
def cW (a b:Int):Bool:=@Int.rec (fun _=>Int->Bool) (fun m b=>@Int.rec (fun _=>Nat->Bool) (fun n m=>Nat.ble (Nat.succ m) n) (fun _ _=>false) b m) (fun m b=>@Int.rec (fun _=>Nat->Bool) (fun _ _=>true) (fun n m=>Nat.ble (Nat.succ n) m) b m) a b
def SV (a b:Int):cW a b=L2 a b:=by cases a<;>cases b<;>rfl
def xD (a b:Int):Bool:=@Int.rec (fun _=>Int->Bool) (fun m b=>@Int.rec (fun _=>Nat->Bool) (fun n m=>Nat.beq m n) (fun _ _=>false) b m) (fun m b=>@Int.rec (fun _=>Nat->Bool) (fun _ _=>false) (fun n m=>Nat.beq m n) b m) a b
def rA (a b:Int):xD a b=Zs a b:=by cases a<;>cases b<;>rfl
def SD (b:Bool):Bool:=@Bool.rec (fun _=>Bool) true false b
def lD (b:Bool):SD b= !b:=by cases b<;>rfl
def cr (a:Int):Nat:=@Int.rec (fun _=>Nat) (fun n=>n) (fun _=>0) a
def Oc (a:Int):cr a=a.toNat:=by cases a<;>rfl
def YK (k:IntKind) (n:Int):Int:=@IntKind.rec (fun _=>Int->Int) (fun n=>IntKind.i8.wrap n) (fun n=>IntKind.i16.wrap n) (fun n=>IntKind.i32.wrap n)
 (fun n=>@Int.rec (fun _=>Int) (fun m=>@Bool.rec (fun _=>Int) (IntKind.i64.wrap (Int.ofNat m)) (Int.ofNat m) (Nat.ble m 9223372036854775807)) (fun m=>@Bool.rec (fun _=>Int) (IntKind.i64.wrap (Int.negSucc m)) (Int.negSucc m) (Nat.ble m 9223372036854775807)) n)
 (fun n=>IntKind.u8.wrap n) (fun n=>IntKind.u16.wrap n) (fun n=>IntKind.u32.wrap n)
 (fun n=>@Int.rec (fun _=>Int) (fun m=>@Bool.rec (fun _=>Int) (IntKind.u64.wrap (Int.ofNat m)) (Int.ofNat m) (Nat.ble m 18446744073709551615)) (fun m=>IntKind.u64.wrap (Int.negSucc m)) n) k n
def gF (k:IntKind) (n:Int):YK k n=k.wrap n:=by
 cases k<;>try rfl
 .cases n with
  | ofNat m=>
    have:=Ik .i64 (.ofNat m);simp only[H3]at this;rw[<-this];show @Bool.rec (fun _=>Int) _ _ _=_;cases Nat.ble m 9223372036854775807<;>rfl
  | negSucc m=>
    show @Bool.rec (fun _=>Int) (IntKind.i64.wrap (Int.negSucc m)) (Int.negSucc m) (Nat.ble m 9223372036854775807)=_;cases h:Nat.ble m 9223372036854775807 with
    | false=>rfl
    | true=>
      have:=Nat.le_of_ble_eq_true h;show Int.negSucc m=_;exact(wrap64 (by omega) (by omega)).symm
 .cases n with
  | ofNat m=>
    have:=Ik .u64 (.ofNat m);simp only[H3]at this;rw[<-this];show @Bool.rec (fun _=>Int) _ _ _=_;cases Nat.ble m 18446744073709551615<;>rfl
  | negSucc m=>rfl
def uq (k:IntKind) (a b:Int):Int:=@Int.rec (fun _=>Int->IntKind->Int) (fun m b _=>Int.ofNat (Nat.shiftRight m (Nat.min (cr b) k.bits))) (fun m b k=>(Int.negSucc m).fdiv (2 ^ (min b.toNat k.bits))) a b k
def kI (k:IntKind) (a b:Int):uq k a b=a.fdiv (2 ^ (min b.toNat k.bits)):=by
 cases a with
 | negSucc m=>rfl
 | ofNat m=>
   show Int.ofNat (m >>> (min (cr b) k.bits))=_;rw[Oc,Nat.shiftRight_eq_div_pow];have:(2:Int) ^ (min b.toNat k.bits)=((2 ^ (min b.toNat k.bits):Nat):Int):=by simp
   rw[this];exact(Int.ofNat_fdiv _ _)
def ur (k:IntKind) (a b:Int):Int:=@Int.rec (fun _=>Int->IntKind->Int) (fun m b _=>Int.ofNat (Nat.shiftLeft m (Nat.min (cr b) k.bits))) (fun m b k=>(Int.negSucc m)*(2 ^ (min b.toNat k.bits))) a b k
def kJ (k:IntKind) (a b:Int):ur k a b=a*(2 ^ (min b.toNat k.bits)):=by
 cases a with
 | negSucc m=>rfl
 | ofNat m=>
   show Int.ofNat (m <<< (min (cr b) k.bits))=_;rw[Oc,Nat.shiftLeft_eq];simp
def we (v:V) (K:IntKind->Int->Al):Al:=@V.rec (fun _=>(IntKind->Int->Al)->Al) (fun _=>Unit) (fun _=>Unit) (fun _ K=>none) (fun k n K=>K k n) (fun _ K=>none) (fun K=>none) (fun _ _ K=>none) (fun _ _ K=>none) (fun _ _ _ K=>none) (fun _ _ _ K=>none) (fun _ _ _ _ K=>none) (fun _ _ _ _ K=>none) (fun _ K=>none) (fun K=>none) (fun _ _ _ _ _ K=>none) (fun K=>none) (fun _ _ _ K=>none) (fun K=>none) (fun _ _ K=>none) (fun _ _ K=>none) (fun K=>none) () (fun _ _ _ _=>()) () (fun _ _ _ _=>()) v K
def wb:V->Option (IntKind×Int)| .i k n=>some (k,n)|_=>none
def XO (v:V) (K:IntKind->Int->Al):we v K=ob (wb v) fun p=>K p.1 p.2:=by cases v<;>rfl
def ju (op:BinOp) (vx vy:V) (K:V->Al):Al:=we vx fun ka a=>we vy fun kb b=>@BinOp.rec (fun _=>IntKind->Int->IntKind->Int->(V->Al)->Al) (fun ka a kb b K=>@Bool.rec (fun _=>Al) none (K (.i ka (YK ka (vD a b)))) (L7 ka kb)) (fun ka a kb b K=>@Bool.rec (fun _=>Al) none (K (.i ka (YK ka (uo a b)))) (L7 ka kb)) (fun ka a kb b K=>ob (UE .mul (.i ka a) (.i kb b)) K) (fun ka a kb b K=>ob (UE .quo (.i ka a) (.i kb b)) K) (fun ka a kb b K=>ob (UE .rem (.i ka a) (.i kb b)) K) (fun ka a kb b K=>@Bool.rec (fun _=>Al) none (K (.i ka (Oa .and ka a b))) (L7 ka kb)) (fun ka a kb b K=>@Bool.rec (fun _=>Al) none (K (.i ka (Oa .or ka a b))) (L7 ka kb)) (fun ka a kb b K=>@Bool.rec (fun _=>Al) none (K (.i ka (Oa .xor ka a b))) (L7 ka kb)) (fun ka a kb b K=>@Bool.rec (fun _=>Al) none (K (.i ka (YK ka (ur ka a b)))) (SD (cW b 0))) (fun ka a kb b K=>@Bool.rec (fun _=>Al) none (K (.i ka (uq ka a b))) (SD (cW b 0))) (fun ka a kb b K=>@Bool.rec (fun _=>Al) none (K (.i ka (Oa .andNot ka a b))) (L7 ka kb)) (fun ka a kb b K=>@Bool.rec (fun _=>Al) none (K (.b (xD a b))) (L7 ka kb)) (fun ka a kb b K=>@Bool.rec (fun _=>Al) none (K (.b (SD (xD a b)))) (L7 ka kb)) (fun ka a kb b K=>@Bool.rec (fun _=>Al) none (K (.b (cW a b))) (L7 ka kb)) (fun ka a kb b K=>@Bool.rec (fun _=>Al) none (K (.b (SD (cW b a)))) (L7 ka kb)) (fun ka a kb b K=>@Bool.rec (fun _=>Al) none (K (.b (cW b a))) (L7 ka kb)) (fun ka a kb b K=>@Bool.rec (fun _=>Al) none (K (.b (SD (cW a b)))) (L7 ka kb)) op ka a kb b K
def mr (op:BinOp) (vx vy:V) (K:V->Al):ju op vx vy K=ob (UE op vx vy) K:=by
 unfold ju;rw[XO];cases vx<;>first|rfl|skip
 rename_i ka a;simp only[wb,ob];rw[XO];cases vy<;>first|(cases op<;>rfl)|skip
 rename_i kb b;simp only[wb,ob];cases op<;>first|rfl|skip
 all_goals
  simp only[UE];simp only[BH,mL,gF,nB,kE,rA,SV,lD,kJ,kI,Ik,OA,ob]
  first
   | (cases decide (ka=kb)<;>rfl)
   | (cases L2 b 0<;>rfl)
def Z4 {α:Type} (t:Tr α) (k:Nat):Option α:=@Tr.rec α (fun _=>Nat->Option α) (fun _=>none) (fun o _ _ ihl ihr k=>@Nat.rec (fun _=>Option α) o (fun j _=>@Bool.rec (fun _=>Option α) (ihr (Nat.div j 2)) (ihl (Nat.div j 2)) (Nat.beq (Nat.mod j 2) 0)) k) t k
def TH {α:Type} (t:Tr α): ∀k:Nat,Z4 t k=t.get k:=by
 induction t with
 | leaf=>intro k;rfl
 | node o l r ihl ihr=>
   intro k;cases k with
   | zero=>rfl
   | succ j=>
     show @Bool.rec (fun _=>Option α) (Z4 r (j / 2)) (Z4 l (j / 2)) (Nat.beq (j % 2) 0)=bif Nat.beq (j % 2) 0 then l.get (j / 2)else r.get (j / 2);rw[ihl,ihr];cases Nat.beq (j % 2) 0<;>rfl
def SA {α β:Type} (x:Option α) (d:Nat) (t:Tr α) (k:Nat) (K:Tr α->β):β:=
 @Nat.rec (fun _=>Tr α->Nat->(Tr α->β)->β) (fun t _ K=>K t)
  (fun _ ih t k K=>@Tr.rec α (fun _=>Nat->(Tr α->β)->β)
   (fun k K=>@Nat.rec (fun _=>β) (K (.node x .leaf .leaf)) (fun j _=>@Bool.rec (fun _=>β) (ih .leaf (Nat.div j 2) fun r=>K (.node none .leaf r)) (ih .leaf (Nat.div j 2) fun l=>K (.node none l .leaf)) (Nat.beq (Nat.mod j 2) 0)) k)
   (fun o l r _ _ k K=>@Nat.rec (fun _=>β) (K (.node x l r)) (fun j _=>@Bool.rec (fun _=>β) (ih r (Nat.div j 2) fun r=>K (.node o l r)) (ih l (Nat.div j 2) fun l=>K (.node o l r)) (Nat.beq (Nat.mod j 2) 0)) k) t k K) d t k K
def GV {α β:Type} (x:Option α): ∀(d:Nat) (t:Tr α) (k:Nat) (K:Tr α->β),SA x d t k K=Tr.put x d t k K
 | 0,t,k,K=>rfl
 | d+1,.leaf,0,K=>rfl
 | d+1,.node _ _ _,0,K=>rfl
 | d+1,.leaf,j+1,K=>by
   show @Bool.rec (fun _=>β) (SA x d .leaf (j / 2) fun r=>K (.node none .leaf r)) (SA x d .leaf (j / 2) fun l=>K (.node none l .leaf)) (Nat.beq (j % 2) 0)=bif Nat.beq (j % 2) 0 then _ else _;rw[GV x d,GV x d,BH]
 | d+1,.node o l r,j+1,K=>by
   show @Bool.rec (fun _=>β) (SA x d r (j / 2) fun r=>K (.node o l r)) (SA x d l (j / 2) fun l=>K (.node o l r)) (Nat.beq (j % 2) 0)=bif Nat.beq (j % 2) 0 then _ else _;rw[GV x d,GV x d,BH]
def dG (s:St) (o:EO) (K:Nat->St->Al):Al:=@Nat.rec (fun _=>Al) (SA (some o) A5 s.t 0 fun t=>K 0 ⟨1,t⟩) (fun n _=>@Bool.rec (fun _=>Al) none (SA (some o) A5 s.t (Nat.succ n) fun t=>K (Nat.succ n) ⟨Nat.succ (Nat.succ n),t⟩) (Nat.ble (Nat.succ n) L5)) s.nx
def lH {γ:Type} (s:St) (o:EO) (f:Nat->St->Option γ) (K:γ->Al):ob (s.new o f) K=dG s o fun i s'=>ob (f i s') K:=by
 obtain⟨n,t⟩:=s;cases n with
 | zero=>
   unfold dG;simp only[St.new];rw[GV,Tr.put_eq,Tr.put_eq];rfl
 | succ n=>
   unfold dG;simp only[St.new];rw[GV,Tr.put_eq,Tr.put_eq,BH,J9]
def vR (o:EO) (K:List V->Al):Al:=@EO.rec (fun _=>(List V->Al)->Al) (fun vs K=>K vs) (fun _ _ _=>none) (fun _ _=>none) (fun _ _ _ _ _ _=>none) o K
def qF (o:EO) (K:Nat->List (List V)->Al):Al:=@EO.rec (fun _=>(Nat->List (List V)->Al)->Al) (fun _ _=>none) (fun sz es K=>K sz es) (fun _ _=>none) (fun _ _ _ _ _ _=>none) o K
def w8 {α:Type} (o:Option α) (K:α->Al):Al:=@Option.rec α (fun _=>(α->Al)->Al) (fun _=>none) (fun a K=>K a) o K
def ec {α:Type} (o:Option α) (K:α->Al):w8 o K=ob o K:=by cases o<;>rfl
def YV (s:St) (n:Nat) (K:List V->Al):Al:=w8 (Z4 s.t n) fun o=>vR o K
def Sc (s:St) (n:Nat) (K:Nat->List (List V)->Al):Al:=w8 (Z4 s.t n) fun o=>qF o K
def VP (s:St) (n:Nat) (K:List V->Al):YV s n K=match s.t.get n with|some (.cs vs)=>K vs|_=>none:=by
 unfold YV;rw[ec,TH];cases s.t.get n with
 | none=>rfl
 | some o=>cases o<;>rfl
def RP (s:St) (n:Nat) (K:Nat->List (List V)->Al):Sc s n K=match s.t.get n with|some (.arr sz es)=>K sz es|_=>none:=by
 unfold Sc;rw[ec,TH];cases s.t.get n with
 | none=>rfl
 | some o=>cases o<;>rfl
def Wo (agg:Option Nat) (cs:List V) (off:Nat) (K:V->Al):Al:=@Option.rec Nat (fun _=>List V->Nat->(V->Al)->Al) (fun cs off K=>SC cs off K)
 (fun n cs off K=>@Bool.rec (fun _=>Al) (@Bool.rec (fun _=>Al) none (K (.a (YL (Ue cs off) n))) (Nat.ble (Nat.add off n) (Fx cs))) (K (.a cs)) (@Bool.rec (fun _=>Bool) false (Nat.beq n (Fx cs)) (Nat.beq off 0))) agg cs off K
def N5 (agg:Option Nat) (cs:List V) (off:Nat) (K:V->Al):Wo agg cs off K=ob (UB agg cs off) K:=by
 cases agg with
 | none=>exact K0 cs off K
 | some n=>
   show @Bool.rec (fun _=>Al) (@Bool.rec (fun _=>Al) none (K (.a (YL (Ue cs off) n))) (Nat.ble (off+n) (Fx cs))) (K (.a cs)) (@Bool.rec (fun _=>Bool) false (Nat.beq n (Fx cs)) (Nat.beq off 0))=_;simp only[UB];rw[gN,PE,E7,J9];cases h1:Nat.beq off 0 with
   | false=>exact BH _ _ _
   | true=>
     cases h2:Nat.beq n cs.length with
     | false=>exact BH _ _ _
     | true=>
       have:=Cn h1;subst this;have:=Cn h2;subst this;show K (.a cs)=_;rw[Nat.ble_eq_true_of_le (by omega)];simp[ob]
def db (s:St) (agg:Option Nat) (x:V) (K:V->Al):Al:=@V.rec (fun _=>St->Option Nat->(V->Al)->Al) (fun _=>Unit) (fun _=>Unit) (fun _ s agg K=>none) (fun _ _ s agg K=>none) (fun _ s agg K=>none) (fun s agg K=>none) (fun n off s agg K=>YV s n fun vs=>Wo agg vs off K) (fun cs _ s agg K=>Wo agg cs 0 K) (fun _ _ _ s agg K=>none) (fun _ _ _ s agg K=>none) (fun _ _ _ _ s agg K=>none) (fun n sz i off s agg K=>Sc s n fun sz1 es=>@Bool.rec (fun _=>Al) none (SC es i fun e=>Wo agg e off K) (Nat.beq sz sz1)) (fun _ s agg K=>none) (fun s agg K=>none) (fun _ _ _ _ _ s agg K=>none) (fun s agg K=>none) (fun _ _ _ s agg K=>none) (fun s agg K=>none) (fun _ _ s agg K=>none) (fun _ _ s agg K=>none) (fun s agg K=>none) () (fun _ _ _ _=>()) () (fun _ _ _ _=>()) x s agg K
def iC (s:St) (agg:Option Nat) (x:V) (K:V->Al):db s agg x K=ob (M9 s agg x) K:=by
 cases x<;>first|rfl|skip
 .rename_i n off
  refine(VP _ _ _).trans ?_;simp only[M9];cases s.t.get n with
  | none=>rfl
  | some o=>cases o<;>first|rfl|exact N5 _ _ _ _
 .exact N5 _ _ _ _
 .rename_i n sz i off
  refine(RP _ _ _).trans ?_;simp only[M9];cases s.t.get n with
  | none=>rfl
  | some o=>
    cases o<;>first|rfl|skip
    rename_i sz1 es;simp only;rw[BH,J9,K0];congr 1;cases es[i]? with
    | none=>rfl
    | some e=>exact N5 _ _ _ _
def Gq (v:V) (K:List V->Al):Al:=@V.rec (fun _=>V->(List V->Al)->Al) (fun _=>Unit) (fun _=>Unit) (fun _ v K=>K [v]) (fun _ _ v K=>K [v]) (fun _ v K=>K [v]) (fun v K=>K [v]) (fun _ _ v K=>K [v]) (fun _ _ v K=>K [v]) (fun _ _ _ v K=>K [v]) (fun _ _ _ v K=>K [v]) (fun _ _ _ _ v K=>K [v]) (fun _ _ _ _ v K=>K [v]) (fun _ v K=>K [v]) (fun v K=>K [v]) (fun _ _ _ _ _ v K=>K [v]) (fun v K=>K [v]) (fun _ _ _ v K=>K [v]) (fun v K=>K [v]) (fun cs _ v K=>K cs) (fun _ _ v K=>none) (fun v K=>none) () (fun _ _ _ _=>()) () (fun _ _ _ _=>()) v v K
def Ha (v:V) (K:List V->Al):Gq v K=ob (cellsOf v) K:=by cases v<;>rfl
def uv (v:V):Bool:=@V.rec (fun _=>Bool) (fun _=>Unit) (fun _=>Unit) (fun _=>true) (fun _ _=>true) (fun _=>true) (true) (fun _ _=>true) (fun _ _=>true) (fun _ _ _=>true) (fun _ _ _=>true) (fun _ _ _ _=>true) (fun _ _ _ _=>true) (fun _=>true) (true) (fun _ _ _ _ _=>true) (true) (fun _ _ _=>true) (true) (fun _ _=>false) (fun _ _=>false) (false) () (fun _ _ _ _=>()) () (fun _ _ _ _=>()) v
def lA:uv=CA:=funext fun v=>by cases v<;>rfl
def dC (cs:List V) (o:Nat) (vc:List V):List V:=@List.rec V (fun _=>List V->Nat->List V) (fun cs _=>cs) (fun v _ ih cs o=>ih (Wf cs o v) (Nat.succ o)) vc cs o
def Nx: ∀(vc cs:List V) (o:Nat),dC cs o vc=putAt cs o vc
 | [],_,_=>rfl
 | v::r,cs,o=>by
   show dC (Wf cs o v) (o+1) r=_;rw[Nx r,Sz];rfl
def jk (cs:List V) (o:Nat) (vc:List V):List V:=@Bool.rec (fun _=>List V) (dC cs o vc) vc (@Bool.rec (fun _=>Bool) false (Nat.beq (Fx vc) (Fx cs)) (Nat.beq o 0))
def au: ∀(vc pre cs:List V),vc.length=cs.length->putAt (pre++cs) pre.length vc=pre++vc:=by
 intro vc
 induction vc with
 | nil=>intro pre cs hl;cases cs with
   | nil=>rfl
   | cons _ _=>cases hl
 | cons x vc ih=>
   intro pre cs hl;cases cs with
   | nil=>cases hl
   | cons y cs=>
     simp only[putAt];rw[List.set_append_right _ _ (IN _),Nat.sub_self,List.set_cons_zero];have:=ih (pre++[x]) cs (by simpa using hl);simp only[R0,Lz,List.length_nil,GM,P7,List.singleton_append]at this;exact this
def Yt (cs:List V) (o:Nat) (vc:List V):jk cs o vc=putAt cs o vc:=by
 unfold jk;cases h1:Nat.beq o 0 with
 | false=>exact Nx vc cs o
 | true=>
   rw[E7,E7];cases h2:Nat.beq vc.length cs.length with
   | false=>exact Nx vc cs o
   | true=>
     have:=Cn h1;subst this;exact(au vc [] cs (Cn h2)).symm
def eK (s:St) (sz:Nat) (a:V) (vc:List V) (K:St->Al):Al:=@V.rec (fun _=>St->Nat->List V->(St->Al)->Al) (fun _=>Unit) (fun _=>Unit) (fun _ s sz vc K=>none) (fun _ _ s sz vc K=>none) (fun _ s sz vc K=>none) (fun s sz vc K=>none) (fun n off s sz vc K=>YV s n fun vs=>@Bool.rec (fun _=>Al) none (SA (some (.cs (jk vs off vc))) A5 s.t n fun t=>K ⟨s.nx,t⟩) (Nat.ble (Nat.add off sz) (Fx vs))) (fun _ _ s sz vc K=>none) (fun _ _ _ s sz vc K=>none) (fun _ _ _ s sz vc K=>none) (fun _ _ _ _ s sz vc K=>none) (fun n s' i off s sz vc K=>Sc s n fun s1 es=>@Bool.rec (fun _=>Al) none (@Bool.rec (fun _=>Al) none (SC es i fun e=>SA (some (.arr s1 (Wf es i (jk e off vc)))) A5 s.t n fun t=>K ⟨s.nx,t⟩) (Nat.ble (Nat.add off sz) s')) (Nat.beq s' s1)) (fun _ s sz vc K=>none) (fun s sz vc K=>none) (fun _ _ _ _ _ s sz vc K=>none) (fun s sz vc K=>none) (fun _ _ _ s sz vc K=>none) (fun s sz vc K=>none) (fun _ _ s sz vc K=>none) (fun _ _ s sz vc K=>none) (fun s sz vc K=>none) () (fun _ _ _ _=>()) () (fun _ _ _ _=>()) a s sz vc K
def SM (s:St) (sz:Nat) (a x:V) (K:St->Al):Al:=Gq x fun vc=>@Bool.rec (fun _=>Al) none (@Bool.rec (fun _=>Al) none (eK s sz a vc K) (pR uv vc)) (Nat.beq (Fx vc) sz)
def aL (s : St) (sz:Nat) (a x:V) (K:St->Al):SM s sz a x K=ob (Oh s sz a x) K:=by
 unfold SM Oh;rw[Ha];cases cellsOf x with
 | none=>rfl
 | some vc =>
   simp only[ob,E7,m5,lA];cases Nat.beq vc.length sz with
   | false=>rfl
   | true=>
     cases vc.all CA with
     | false=>rfl
     | true=>
       simp only[Bool.and_true,cond_true];show eK s sz a vc K=_;cases a<;>first|rfl|skip
       .rename_i n off
        refine(VP _ _ _).trans ?_;simp only;cases s.t.get n with
        | none=>rfl
        | some o=>
          cases o<;>first|rfl|skip
          rename_i vs;simp only;rw[GV,Tr.put_eq,Yt,E7,BH,Tr.put_eq];show(bif Nat.ble (off+sz) vs.length then _ else none)=_;cases Nat.ble (off+sz) vs.length<;>rfl
       .rename_i n s' i off
        refine(RP _ _ _).trans ?_;simp only;cases s.t.get n with
        | none=>rfl
        | some o=>
          cases o<;>first|rfl|skip
          rename_i s1 es;simp only;rw[BH,BH,K0];show(bif Nat.beq s' s1 then(bif Nat.ble (off+sz) s' then _ else none)else none)=_;cases Nat.beq s' s1<;>cases Nat.ble (off+sz) s'<;>try rfl
          simp only[cond_true,Bool.and_true];cases es[i]? with
          | none=>rfl
          | some e=>
            simp only[ob];rw[GV,Tr.put_eq,Yt,Sz,Tr.put_eq]
def XE (off:Nat) (x:V) (K:V->Al):Al:=@V.rec (fun _=>Nat->(V->Al)->Al) (fun _=>Unit) (fun _=>Unit) (fun _ off K=>none) (fun _ _ off K=>none) (fun _ off K=>none) (fun off K=>none) (fun n o off K=>K (.p n (Nat.add o off))) (fun cs _ off K=>K (.rp (Ue cs off))) (fun _ _ _ off K=>none) (fun _ _ _ off K=>none) (fun _ _ _ _ off K=>none) (fun n sz i o off K=>K (.pe n sz i (Nat.add o off))) (fun _ off K=>none) (fun off K=>none) (fun _ _ _ _ _ off K=>none) (fun off K=>none) (fun _ _ _ off K=>none) (fun off K=>none) (fun _ _ off K=>none) (fun _ _ off K=>none) (fun off K=>none) () (fun _ _ _ _=>()) () (fun _ _ _ _=>()) x off K
def bk (off:Nat) (x:V) (K:V->Al):XE off x K=ob (Si off x) K:=by
 cases x<;>first|rfl|skip
 show K (.rp (Ue _ off))=_;rw[PE];rfl
def fA (sz:Nat) (x:V) (j:Int) (K:V->Al):Al:=@V.rec (fun _=>Nat->Int->(V->Al)->Al) (fun _=>Unit) (fun _=>Unit) (fun _ sz j K=>none) (fun _ _ sz j K=>none) (fun _ sz j K=>none) (fun sz j K=>none) (fun _ _ sz j K=>none) (fun _ _ sz j K=>none) (fun es _ _ sz j K=>SC es (cr j) fun e=>@Bool.rec (fun _=>Al) none (K (.rp e)) (Nat.beq (Fx e) sz)) (fun n len _ sz j K=>@Bool.rec (fun _=>Al) none (K (.pe n sz (cr j) 0)) (cW j (Int.ofNat len))) (fun n s off len sz j K=>@Bool.rec (fun _=>Al) none (@Bool.rec (fun _=>Al) none (K (.pe n sz (Nat.add off (cr j)) 0)) (cW j (Int.ofNat len))) (Nat.beq s sz)) (fun _ _ _ _ sz j K=>none) (fun _ sz j K=>none) (fun sz j K=>none) (fun _ _ _ _ _ sz j K=>none) (fun sz j K=>none) (fun _ _ _ sz j K=>none) (fun sz j K=>none) (fun _ _ sz j K=>none) (fun _ _ sz j K=>none) (fun sz j K=>none) () (fun _ _ _ _=>()) () (fun _ _ _ _=>()) x sz j K
def XC (sz:Nat) (arr:Option Nat) (x i:V) (K:V->Al):Al:=@Option.rec Nat (fun _=>Nat->V->V->(V->Al)->Al) (fun sz x i K=>we i fun _ j=>@Bool.rec (fun _=>Al) (fA sz x j K) none (cW j 0)) (fun m sz x i K=>ob (MN sz (some m) x i) K) arr sz x i K
def bN (sz:Nat) (arr:Option Nat) (x i:V) (K:V->Al):XC sz arr x i K=ob (MN sz arr x i) K:=by
 cases arr with
 | some m=>rfl
 | none=>
   refine(XO _ _).trans ?_;cases i<;>first|rfl|skip
   rename_i k j;simp only[wb,ob,MN,OA,SV];cases L2 j 0 with
   | true=>rfl
   | false=>
     show fA sz x j K=_;cases x<;>first|rfl|skip
     .rename_i es full
      show SC es (cr j) _=_;rw[K0,Oc];simp only[Bool.not_false,cond_true];cases es[j.toNat]? with
      | none=>rfl
      | some e=>
        simp only[ob,E7];cases Nat.beq e.length sz<;>rfl
     .rename_i n len cap
      show @Bool.rec (fun _=>Al) none (K (.pe n sz (cr j) 0)) (cW j (Int.ofNat len))=_;rw[Oc,SV];simp only[Bool.not_false,cond_true];have:L2 j (Int.ofNat len)=L2 j (len:Int):=rfl;rw[this];cases L2 j (len:Int)<;>rfl
     .rename_i n s off len
      show @Bool.rec (fun _=>Al) none (@Bool.rec (fun _=>Al) none (K (.pe n sz (off+cr j) 0)) (cW j (Int.ofNat len))) (Nat.beq s sz)=_;rw[Oc,SV];simp only[Bool.not_false,cond_true];have:L2 j (Int.ofNat len)=L2 j (len:Int):=rfl;rw[this];cases Nat.beq s sz<;>cases L2 j (len:Int)<;>rfl
def pA (x:V) (K:V->Al):Al:=@V.rec (fun _=>(V->Al)->Al) (fun _=>Unit) (fun _=>Unit) (fun _ K=>none) (fun _ _ K=>none) (fun _ K=>none) (fun K=>none) (fun _ _ K=>none) (fun _ _ K=>none) (fun es _ _ K=>K (.i .i64 (Int.ofNat (Fx es)))) (fun _ len _ K=>@Bool.rec (fun _=>Al) none (K (.i .i64 (Int.ofNat len))) (Nat.ble len Ay)) (fun _ _ _ len K=>@Bool.rec (fun _=>Al) none (K (.i .i64 (Int.ofNat len))) (Nat.ble len Ay)) (fun _ _ _ _ K=>none) (fun _ K=>none) (fun K=>none) (fun _ _ _ _ _ K=>none) (fun K=>none) (fun _ _ _ K=>none) (fun K=>none) (fun _ _ K=>none) (fun _ _ K=>none) (fun K=>none) () (fun _ _ _ _=>()) () (fun _ _ _ _=>()) x K
def lP (x:V) (K:V->Al):pA x K=ob (Z7 x) K:=by
 cases x<;>first|rfl|skip
 .show K (.i .i64 (Int.ofNat (Fx _)))=_
  rw[E7];rfl
 .show @Bool.rec (fun _=>Al) none _ (Nat.ble _ Ay)=_
  rw[BH];simp only[Z7];rw[J9];rfl
 .show @Bool.rec (fun _=>Al) none _ (Nat.ble _ Ay)=_
  rw[BH];simp only[Z7];rw[J9];rfl
def W5 (x:V) (K:V->Al):Al:=@V.rec (fun _=>V->(V->Al)->Al) (fun _=>Unit) (fun _=>Unit) (fun _ x K=>none) (fun _ _ x K=>none) (fun _ x K=>none) (fun x K=>none) (fun _ _ x K=>K x) (fun _ _ x K=>K x) (fun _ _ _ x K=>none) (fun _ _ _ x K=>none) (fun _ _ _ _ x K=>none) (fun _ _ _ _ x K=>K x) (fun _ x K=>none) (fun x K=>none) (fun _ _ _ _ _ x K=>ob (ML x) K) (fun x K=>none) (fun _ _ _ x K=>none) (fun x K=>none) (fun _ _ x K=>none) (fun _ _ x K=>none) (fun x K=>none) () (fun _ _ _ _=>()) () (fun _ _ _ _=>()) x x K
def bB (x:V) (K:V->Al):W5 x K=ob (ML x) K:=by cases x<;>rfl
def asT (v:V) (K:List V->Al):Al:=@V.rec (fun _=>(List V->Al)->Al) (fun _=>Unit) (fun _=>Unit) (fun _ K=>none) (fun _ _ K=>none) (fun _ K=>none) (fun K=>none) (fun _ _ K=>none) (fun _ _ K=>none) (fun _ _ _ K=>none) (fun _ _ _ K=>none) (fun _ _ _ _ K=>none) (fun _ _ _ _ K=>none) (fun _ K=>none) (fun K=>none) (fun _ _ _ _ _ K=>none) (fun K=>none) (fun _ _ _ K=>none) (fun K=>none) (fun _ _ K=>none) (fun vs _ K=>K vs) (fun K=>none) () (fun _ _ _ _=>()) () (fun _ _ _ _=>()) v K
def nK (v:V) (K:Bool->Al):Al:=@V.rec (fun _=>(Bool->Al)->Al) (fun _=>Unit) (fun _=>Unit) (fun x K=>K x) (fun _ _ K=>none) (fun _ K=>none) (fun K=>none) (fun _ _ K=>none) (fun _ _ K=>none) (fun _ _ _ K=>none) (fun _ _ _ K=>none) (fun _ _ _ _ K=>none) (fun _ _ _ _ K=>none) (fun _ K=>none) (fun K=>none) (fun _ _ _ _ _ K=>none) (fun K=>none) (fun _ _ _ K=>none) (fun K=>none) (fun _ _ K=>none) (fun _ _ K=>none) (fun K=>none) () (fun _ _ _ _=>()) () (fun _ _ _ _=>()) v K
def asA (v:V) (K:List V->Al):Al:=@V.rec (fun _=>(List V->Al)->Al) (fun _=>Unit) (fun _=>Unit) (fun _ K=>none) (fun _ _ K=>none) (fun _ K=>none) (fun K=>none) (fun _ _ K=>none) (fun _ _ K=>none) (fun _ _ _ K=>none) (fun _ _ _ K=>none) (fun _ _ _ _ K=>none) (fun _ _ _ _ K=>none) (fun _ K=>none) (fun K=>none) (fun _ _ _ _ _ K=>none) (fun K=>none) (fun _ _ _ K=>none) (fun K=>none) (fun cs _ K=>K cs) (fun _ _ K=>none) (fun K=>none) () (fun _ _ _ _=>()) () (fun _ _ _ _=>()) v K
def Wm (v:V) (K:V->Al):Al:=@V.rec (fun _=>V->(V->Al)->Al) (fun _=>Unit) (fun _=>Unit) (fun x v K=>@Bool.rec (fun _=>Al) (K (.b false)) (K (.b true)) x) (fun k n v K=>@Int.rec (fun _=>Al) (fun m=>@Nat.rec (fun _=>Al) (K (.i k (Int.ofNat 0))) (fun j _=>K (.i k (Int.ofNat (Nat.succ j)))) m) (fun m=>@Nat.rec (fun _=>Al) (K (.i k (Int.negSucc 0))) (fun j _=>K (.i k (Int.negSucc (Nat.succ j)))) m) n) (fun _ v K=>K v) (fun v K=>K v) (fun _ _ v K=>K v) (fun _ _ v K=>K v) (fun _ _ _ v K=>K v) (fun _ _ _ v K=>K v) (fun _ _ _ _ v K=>K v) (fun _ _ _ _ v K=>K v) (fun _ v K=>K v) (fun v K=>K v) (fun _ _ _ _ _ v K=>K v) (fun v K=>K v) (fun _ _ _ v K=>K v) (fun v K=>K v) (fun _ _ v K=>K v) (fun _ _ v K=>K v) (fun v K=>K v) () (fun _ _ _ _=>()) () (fun _ _ _ _=>()) v v K
def ZH (v:V) (K:V->Al):Wm v K=K v:=by
 cases v<;>first|rfl|skip
 .rename_i x;cases x<;>rfl
 .rename_i k n
  cases n with
  | ofNat m=>cases m<;>rfl
  | negSucc m=>cases m<;>rfl
def fin (o:Option (R×St)) (k kp:V->St->Al):Al:=match o with
 | some (.ret v,s)=>k v s
 | some (.BZ v,s)=>kp v s
 | none=>none
def CC (o:Option (R×St)) (k kp:V->St->Al):Al:=@Option.rec (R×St) (fun _=>(V->St->Al)->(V->St->Al)->Al) (fun _ _=>none) (fun p k kp=>@R.rec (fun _=>St->(V->St->Al)->(V->St->Al)->Al) (fun v s k _=>k v s) (fun v s _ kp=>kp v s) p.1 p.2 k kp) o k kp
def Bn (o:Option (R×St)) (k kp:V->St->Al):CC o k kp=fin o k kp:=by
 cases o with
 | none=>rfl
 | some p=>
   obtain⟨r,s⟩:=p;cases r<;>rfl
def Gm (o:Option V) (s:St) (k kp:V->St->Al):fin (ov o s) k kp=ob o fun v=>k v s:=by cases o<;>rfl
def qz (o:Option St) (k kp:V->St->Al):fin (os o) k kp=ob o fun s=>k (.t []) s:=by cases o<;>rfl
def BN {α:Type} (o:Option α) (f:α->Option (R×St)) (k kp:V->St->Al):fin (ob o f) k kp=ob o fun a=>fin (f a) k kp:=by cases o<;>rfl
abbrev OK:=CF->CV->CP->CD->St->(V->St->Al)->(V->St->Al)->Al
def Se (e:CD) (ps:List (Nat×Nat×Bg)) (cs:List V) (K:List V->Al):Al:=@List.rec (Nat×Nat×Bg) (fun _=>List V->(List V->Al)->Al) (fun cs K=>K cs)
 (fun p _ ih cs K=>Bs p.2.2 e fun v=>Gq v fun vc=>@Bool.rec (fun _=>Al) none (@Bool.rec (fun _=>Al) none (ih (dC cs p.1 vc) K) (Nat.ble (Nat.add p.1 p.2.1) (Fx cs))) (Nat.beq (Fx vc) p.2.1)) ps cs K
def Rb {e : CD} {env:Env} (he:IP e env): ∀(ps:List (Nat×Nat×Bg)) (cs:List V) (K:List V->Al),Se e ps cs K=ob (MO env cs ps) K
 | [],cs,K=>rfl
 | (off, sz,x)::r,cs,K=>by
   show(Bs x e fun v=>Gq v fun vc=>@Bool.rec (fun _=>Al) none (@Bool.rec (fun _=>Al) none (Se e r (dC cs off vc) K) (Nat.ble (off+sz) (Fx cs))) (Nat.beq (Fx vc) sz))=_;rw[BA he];simp only[MO];cases DI env x with
   | none=>rfl
   | some v=>
     simp only[ob];rw[Ha];cases cellsOf v with
     | none=>rfl
     | some vc=>
       simp only[ob,E7,Nx];cases Nat.beq vc.length sz with
       | false=>rfl
       | true=>
         cases Nat.ble (off+sz) cs.length with
         | false=>rfl
         | true=>exact Rb he r _ K
def Sf (e:CD) (sz:Nat) (ps:List (Nat×Bg)) (es:List (List V)) (K:List (List V)->Al):Al:=@List.rec (Nat×Bg) (fun _=>List (List V)->(List (List V)->Al)->Al) (fun es K=>K es)
 (fun p _ ih es K=>Bs p.2 e fun v=>Gq v fun vc=>@Bool.rec (fun _=>Al) none (@Bool.rec (fun _=>Al) none (ih (Wf es p.1 vc) K) (Nat.ble (Nat.succ p.1) (Fx es))) (Nat.beq (Fx vc) sz)) ps es K
def Re {e : CD} {env:Env} (he:IP e env) (sz:Nat): ∀(ps:List (Nat×Bg)) (es:List (List V)) (K:List (List V)->Al),Sf e sz ps es K=ob (MP env sz es ps) K
 | [],es,K=>rfl
 | (i, x)::r,es,K=>by
   show(Bs x e fun v=>Gq v fun vc=>@Bool.rec (fun _=>Al) none (@Bool.rec (fun _=>Al) none (Sf e sz r (Wf es i vc) K) (Nat.ble (Nat.succ i) (Fx es))) (Nat.beq (Fx vc) sz))=_;rw[BA he];simp only[MP];cases DI env x with
   | none=>rfl
   | some v=>
     simp only[ob];rw[Ha];cases cellsOf v with
     | none=>rfl
     | some vc=>
       simp only[ob,E7,Sz,Nat.blt,Nat.succ_eq_add_one];cases Nat.beq vc.length sz with
       | false=>rfl
       | true=>
         cases Nat.ble (i+1) es.length with
         | false=>rfl
         | true=>exact Re he sz r _ K
def wa (o:FY):OK:=@FY.rec (fun _=>OK)
 (fun x cf cv cp env s kk kp=>Bs x env fun v=>kk v s)
 (fun x cf cv cp env s kk kp=>Bs x env fun v=>kk v s)
 (fun c a b cf cv cp env s kk kp=>Bs c env fun vc=>Bs a env fun va=>Bs b env fun vb=>nK vc fun t=>@Bool.rec (fun _=>Al) (kk vb s) (kk va s) t)
 (fun op x y cf cv cp env s kk kp=>Bs x env fun vx=>Bs y env fun vy=>ju op vx vy fun v=>kk v s)
 (fun neg x y cf cv cp env s kk kp=>Bs x env fun vx=>Bs y env fun vy=>CC (match vx,vy with| .b p,.b q=>some (.ret (.b (bif neg then p != q else p==q)),s)|_,_=>none) kk kp)
 (fun len neg x y cf cv cp env s kk kp=>Bs x env fun vx=>Bs y env fun vy=>CC (ov (dO len neg vx vy) s) kk kp)
 (fun kind neg x cf cv cp env s kk kp=>Bs x env fun vx=>CC (ov (dN kind neg vx) s) kk kp)
 (fun x cf cv cp env s kk kp=>Bs x env fun vx=>nK vx fun p=>kk (.b (SD p)) s)
 (fun xor x cf cv cp env s kk kp=>Bs x env fun vx=>CC (match vx with| .i ka a=>some (.ret (.i ka (bif xor then bits .xor ka (bif ka.signed then -1 else ka.max) a else ka.wrap (0 - a))),s)|_=>none) kk kp)
 (fun k x cf cv cp env s kk kp=>Bs x env fun vx=>CC (match vx with| .i _ a=>some (.ret (.i k (H3 k a)),s)|_=>none) kk kp)
 (fun x cf cv cp env s kk kp=>Bs x env fun vx=>Gq vx fun cs=>dG s (.cs cs) fun i s=>kk (.p i 0) s)
 (fun x cf cv cp env s kk kp=>Bs x env fun vx=>Gq vx fun cs=>kk (.rp cs) s)
 (fun sz bytes x y cf cv cp env s kk kp=>Bs x env fun vx=>Bs y env fun vy=>CC (ov (Ud bytes s sz vx vy) s) kk kp)
 (fun zero cf cv cp env s kk kp=>CC (bif B7 zero then s.new (.cs zero) fun i s=>some (.ret (.p i 0),s)else none) kk kp)
 (fun zero parts cf cv cp env s kk kp=>@Bool.rec (fun _=>Al) none (Se env parts zero fun cs=>kk (.a cs) s) (B7 zero))
 (fun sz len zero parts cf cv cp env s kk kp=>@Bool.rec (fun _=>Al) none (Sf env (Fx zero) parts (List.replicate len zero) fun es=>kk (.l es true) s) (B7 zero))
 (fun agg x cf cv cp env s kk kp=>Bs x env fun vx=>db s agg vx fun v=>kk v s)
 (fun sz a x cf cv cp env s kk kp=>Bs a env fun va=>Bs x env fun vx=>SM s sz va vx fun s=>kk (.t []) s)
 (fun off x cf cv cp env s kk kp=>Bs x env fun vx=>XE off vx fun v=>kk v s)
 (fun agg off x cf cv cp env s kk kp=>Bs x env fun vx=>asA vx fun cs=>Wo agg cs off fun v=>kk v s)
 (fun sz arr x i cf cv cp env s kk kp=>Bs x env fun vx=>Bs i env fun vi=>XC sz arr vx vi fun v=>kk v s)
 (fun len sz agg x i cf cv cp env s kk kp=>Bs x env fun vx=>Bs i env fun vi=>CC (ov (Oj len sz agg vx vi) s) kk kp)
 (fun sz x lo hi mx cf cv cp env s kk kp=>Bs x env fun vx=>Wk lo env fun l=>Wk hi env fun h=>Wk mx env fun m=>CC (Zo (Oi s sz vx l h m)) kk kp)
 (fun x cf cv cp env s kk kp=>Bs x env fun vx=>pA vx fun v=>kk v s)
 (fun x cf cv cp env s kk kp=>Bs x env fun vx=>CC (ov (Ub s vx) s) kk kp)
 (fun x cf cv cp env s kk kp=>Bs x env fun vx=>CC (ov (dM s vx) s) kk kp)
 (fun x i cf cv cp env s kk kp=>Bs x env fun vx=>Bs i env fun vi=>CC (ov (Ua vx vi) s) kk kp)
 (fun sz bytes x y cf cv cp env s kk kp=>Bs x env fun vx=>Bs y env fun vy=>CC (Zo (K9 bytes s sz vx vy)) kk kp)
 (fun sz x y cf cv cp env s kk kp=>Bs x env fun vx=>Bs y env fun vy=>CC (Zo (Uc s sz vx vy)) kk kp)
 (fun x y cf cv cp env s kk kp=>Bs x env fun vx=>Bs y env fun vy=>CC (match vx,vy with| .i ka a,.i kb b=>bif decide (ka=kb)then some (.ret (.i ka (bif L2 a b then b else a)),s)else none|_,_=>none) kk kp)
 (fun x y cf cv cp env s kk kp=>Bs x env fun vx=>Bs y env fun vy=>CC (match vx,vy with| .i ka a,.i kb b=>bif decide (ka=kb)then some (.ret (.i ka (bif L2 b a then b else a)),s)else none|_,_=>none) kk kp)
 (fun i x cf cv cp env s kk kp=>Bs x env fun vx=>asT vx fun vs=>SC vs i fun v=>kk v s)
 (fun x cf cv cp env s kk kp=>Bs x env fun vx=>W5 vx fun v=>kk v s)
 (fun f first cap cf cv cp env s kk kp=>Kk first env fun vf=>Kk cap env fun vc=>@Bool.rec (fun _=>Al) none (kk (.f f vf vc) s) (MC f))
 (fun cf cv cp env s kk kp=>CC (s.new (.map []) fun i s=>some (.ret (.m i),s)) kk kp)
 (fun sz bytes zero len cap cf cv cp env s kk kp=>Bs len env fun vx=>Bs cap env fun vy=>CC (Zo (Is s sz zero vx vy)) kk kp)
 (fun ks zero ok m k cf cv cp env s kk kp=>Bs m env fun vm=>Bs k env fun vk=>CC (ov (K7 s ks zero ok vm vk) s) kk kp)
 (fun ks m k v cf cv cp env s kk kp=>Bs m env fun vm=>Bs k env fun vk=>Bs v env fun vx=>CC (os (K6 s ks vm vk vx)) kk kp)
 (fun t x cf cv cp env s kk kp=>Bs x env fun vx=>kk (.Eo t vx) s)
 (fun t zero ok x cf cv cp env s kk kp=>Bs x env fun vx=>CC (ov (dL t zero ok vx) s) kk kp)
 (fun x cf cv cp env s kk kp=>Bs x env fun vx=>CC (match vx with| .Eo t v=>some (.BZ (.Eo t v),s)|_=>none) kk kp)
 (fun f args cf cv cp env s kk kp=>Kk args env fun vs=>CC (cf f vs s) kk kp)
 (fun f args cf cv cp env s kk kp=>Kk args env fun vs=>CC (ov (cp f vs) s) kk kp)
 (fun x args cf cv cp env s kk kp=>Bs x env fun vx=>Kk args env fun vs=>CC (cv vx vs s) kk kp)
 (fun x args cf cv cp env s kk kp=>none)
 (fun tab x args cf cv cp env s kk kp=>Bs x env fun vx=>Kk args env fun vs=>CC (match vx with| .Eo t v=>ob (look t tab) fun f=>cf f (v::vs) s|_=>none) kk kp) o
def gl {vc va vb:V} {s:St} {kk kp:V->St->Al}:nK vc (fun t=>@Bool.rec (fun _=>Al) (kk vb s) (kk va s) t)=fin (match vc with| .b t=>some (.ret (bif t then va else vb),s)|_=>none) kk kp:=by
 cases vc<;>first|rfl|skip
 rename_i t;cases t<;>rfl
def not_eq {vx:V} {s:St} {kk kp:V->St->Al}:nK vx (fun p=>kk (.b (SD p)) s)=fin (match vx with| .b p=>some (.ret (.b (!p)),s)|_=>none) kk kp:=by
 cases vx<;>first|rfl|skip
 rename_i t;cases t<;>rfl
def TM {c:Bool} {x:Option (R×St)} {kk kp:V->St->Al}:fin (bif c then x else none) kk kp=bif c then fin x kk kp else none:=by cases c<;>rfl
def eW {e:CD} {env:Env} (he:IP e env) (o:FY) (cf:CF) (cv:CV) (cp:CP) (s:St) (kk kp:V->St->Al):wa o cf cv cp e s kk kp=fin (FW cf cv cp o env s) kk kp:=by
 cases o with
 | mv x=>
   show(Bs x e fun v=>kk v s)=_;simp only[BA he,FW,Gm]
 | jW x=>
   show(Bs x e fun v=>kk v s)=_;simp only[BA he,FW,Gm]
 | pick c a b=>
   show(Bs c e fun vc=>Bs a e fun va=>Bs b e fun vb=>nK vc fun t=>@Bool.rec (fun _=>Al) (kk vb s) (kk va s) t)=_;simp only[BA he,FW,BN,gl (kp:=kp)];rfl
 | bin op x y=>
   show(Bs x e fun vx=>Bs y e fun vy=>ju op vx vy fun v=>kk v s)=_;simp only[BA he,FW,BN,Gm,mr]
 | jb neg x y=>
   show(Bs x e fun vx=>Bs y e fun vy=>CC (match vx,vy with| .b p,.b q=>some (.ret (.b (bif neg then p != q else p==q)),s)|_,_=>none) kk kp)=_;simp only[BA he,Bo he,Bz he,FW,BN,Bn]
   try rfl
 | ja len neg x y=>
   show(Bs x e fun vx=>Bs y e fun vy=>CC (ov (dO len neg vx vy) s) kk kp)=_;simp only[BA he,Bo he,Bz he,FW,BN,Bn]
   try rfl
 | cZ kind neg x=>
   show(Bs x e fun vx=>CC (ov (dN kind neg vx) s) kk kp)=_;simp only[BA he,Bo he,Bz he,FW,BN,Bn]
   try rfl
 | not x=>
   show(Bs x e fun vx=>nK vx fun p=>kk (.b (SD p)) s)=_;simp only[BA he,FW,BN,not_eq (kp:=kp)];rfl
 | neg xor x=>
   show(Bs x e fun vx=>CC (match vx with| .i ka a=>some (.ret (.i ka (bif xor then bits .xor ka (bif ka.signed then -1 else ka.max) a else ka.wrap (0 - a))),s)|_=>none) kk kp)=_;simp only[BA he,Bo he,Bz he,FW,BN,Bn]
   try rfl
 | conv k x=>
   show(Bs x e fun vx=>CC (match vx with| .i _ a=>some (.ret (.i k (H3 k a)),s)|_=>none) kk kp)=_;simp only[BA he,Bo he,Bz he,FW,BN,Bn]
   try rfl
 | box x=>
   show(Bs x e fun vx=>Gq vx fun cs=>dG s (.cs cs) fun i s=>kk (.p i 0) s)=_;simp only[BA he,FW,BN,Ha];congr 1;funext vx;congr 1;funext cs;have: ∀o:Option (R×St),fin o kk kp=ob o fun p=>fin (some p) kk kp:=fun o=>by cases o<;>rfl
   rw[this,lH];rfl
 | Nd x=>
   show(Bs x e fun vx=>Gq vx fun cs=>kk (.rp cs) s)=_;simp only[BA he,FW,BN,Ha];rfl
 | QJ sz bytes x y=>
   show(Bs x e fun vx=>Bs y e fun vy=>CC (ov (Ud bytes s sz vx vy) s) kk kp)=_;simp only[BA he,Bo he,Bz he,FW,BN,Bn]
   try rfl
 | alloc zero=>
   show(CC (bif B7 zero then s.new (.cs zero) fun i s=>some (.ret (.p i 0),s)else none) kk kp)=_;simp only[Bn,FW]
 | build zero parts=>
   show(@Bool.rec (fun _=>Al) none (Se e parts zero fun cs=>kk (.a cs) s) (B7 zero))=_;simp only[FW,TM,BN,Rb he,BH];rfl
 | Gt sz len zero parts=>
   show(@Bool.rec (fun _=>Al) none (Sf e (Fx zero) parts (List.replicate len zero) fun es=>kk (.l es true) s) (B7 zero))=_;simp only[FW,TM,BN,Re he,BH,E7];rfl
 | load agg x=>
   show(Bs x e fun vx=>db s agg vx fun v=>kk v s)=_;simp only[BA he,FW,BN,Gm,iC]
 | store sz a x=>
   show(Bs a e fun va=>Bs x e fun vx=>SM s sz va vx fun s=>kk (.t []) s)=_;simp only[BA he,FW,BN,qz,aL]
 | Fc off x=>
   show(Bs x e fun vx=>XE off vx fun v=>kk v s)=_;simp only[BA he,FW,BN,Gm,bk]
 | field agg off x=>
   show(Bs x e fun vx=>asA vx fun cs=>Wo agg cs off fun v=>kk v s)=_;simp only[BA he,FW,BN];congr 1;funext vx;cases vx<;>first|rfl|skip
   show Wo agg _ off _=_;rw[N5,Gm]
 | Kq sz arr x i=>
   show(Bs x e fun vx=>Bs i e fun vi=>XC sz arr vx vi fun v=>kk v s)=_;simp only[BA he,FW,BN,Gm,bN]
 | index len sz agg x i=>
   show(Bs x e fun vx=>Bs i e fun vi=>CC (ov (Oj len sz agg vx vi) s) kk kp)=_;simp only[BA he,Bo he,Bz he,FW,BN,Bn]
   try rfl
 | slice sz x lo hi mx=>
   show(Bs x e fun vx=>Wk lo e fun l=>Wk hi e fun h=>Wk mx e fun m=>CC (Zo (Oi s sz vx l h m)) kk kp)=_;simp only[BA he,Bo he,Bz he,FW,BN,Bn]
   try rfl
 | len x=>
   show(Bs x e fun vx=>pA vx fun v=>kk v s)=_;simp only[BA he,FW,BN,Gm,lP]
 | SE x=>
   show(Bs x e fun vx=>CC (ov (Ub s vx) s) kk kp)=_;simp only[BA he,Bo he,Bz he,FW,BN,Bn]
   try rfl
 | str x=>
   show(Bs x e fun vx=>CC (ov (dM s vx) s) kk kp)=_;simp only[BA he,Bo he,Bz he,FW,BN,Bn]
   try rfl
 | Tw x i=>
   show(Bs x e fun vx=>Bs i e fun vi=>CC (ov (Ua vx vi) s) kk kp)=_;simp only[BA he,Bo he,Bz he,FW,BN,Bn]
   try rfl
 | append sz bytes x y=>
   show(Bs x e fun vx=>Bs y e fun vy=>CC (Zo (K9 bytes s sz vx vy)) kk kp)=_;simp only[BA he,Bo he,Bz he,FW,BN,Bn]
   try rfl
 | copy sz x y=>
   show(Bs x e fun vx=>Bs y e fun vy=>CC (Zo (Uc s sz vx vy)) kk kp)=_;simp only[BA he,Bo he,Bz he,FW,BN,Bn]
   try rfl
 | T0 x y=>
   show(Bs x e fun vx=>Bs y e fun vy=>CC (match vx,vy with| .i ka a,.i kb b=>bif decide (ka=kb)then some (.ret (.i ka (bif L2 a b then b else a)),s)else none|_,_=>none) kk kp)=_;simp only[BA he,Bo he,Bz he,FW,BN,Bn]
   try rfl
 | Tz x y=>
   show(Bs x e fun vx=>Bs y e fun vy=>CC (match vx,vy with| .i ka a,.i kb b=>bif decide (ka=kb)then some (.ret (.i ka (bif L2 b a then b else a)),s)else none|_,_=>none) kk kp)=_;simp only[BA he,Bo he,Bz he,FW,BN,Bn]
   try rfl
 | extract i x=>
   show(Bs x e fun vx=>asT vx fun vs=>SC vs i fun v=>kk v s)=_;simp only[BA he,FW,BN];congr 1;funext vx;cases vx<;>first|rfl|skip
   show SC _ i _=_;rw[K0,Gm]
 | H5 x=>
   show(Bs x e fun vx=>W5 vx fun v=>kk v s)=_;simp only[BA he,FW,BN,Gm,bB]
 | cV f first cap=>
   show(Kk first e fun vf=>Kk cap e fun vc=>@Bool.rec (fun _=>Al) none (kk (.f f vf vc) s) (MC f))=_;simp only[Bo he,FW,TM,BN,BH];rfl
 | M5=>
   show(CC (s.new (.map []) fun i s=>some (.ret (.m i),s)) kk kp)=_;simp only[Bn,FW]
 | Fj sz bytes zero len cap=>
   show(Bs len e fun vx=>Bs cap e fun vy=>CC (Zo (Is s sz zero vx vy)) kk kp)=_;simp only[BA he,Bo he,Bz he,FW,BN,Bn]
   try rfl
 | lookup ks zero ok m k=>
   show(Bs m e fun vm=>Bs k e fun vk=>CC (ov (K7 s ks zero ok vm vk) s) kk kp)=_;simp only[BA he,Bo he,Bz he,FW,BN,Bn]
   try rfl
 | D8 ks m k v=>
   show(Bs m e fun vm=>Bs k e fun vk=>Bs v e fun vx=>CC (os (K6 s ks vm vk vx)) kk kp)=_;simp only[BA he,Bo he,Bz he,FW,BN,Bn]
   try rfl
 | M6 t x=>
   show(Bs x e fun vx=>kk (.Eo t vx) s)=_;simp only[BA he,FW,BN];rfl
 | cT t zero ok x=>
   show(Bs x e fun vx=>CC (ov (dL t zero ok vx) s) kk kp)=_;simp only[BA he,Bo he,Bz he,FW,BN,Bn]
   try rfl
 | panic x=>
   show(Bs x e fun vx=>CC (match vx with| .Eo t v=>some (.BZ (.Eo t v),s)|_=>none) kk kp)=_;simp only[BA he,Bo he,Bz he,FW,BN,Bn]
   try rfl
 | call f args=>
   show(Kk args e fun vs=>CC (cf f vs s) kk kp)=_;simp only[BA he,Bo he,Bz he,FW,BN,Bn]
   try rfl
 | Kt f args=>
   show(Kk args e fun vs=>CC (ov (cp f vs) s) kk kp)=_;simp only[BA he,Bo he,Bz he,FW,BN,Bn]
   try rfl
 | Ie x args=>
   show(Bs x e fun vx=>Kk args e fun vs=>CC (cv vx vs s) kk kp)=_;simp only[BA he,Bo he,Bz he,FW,BN,Bn]
   try rfl
 | XL x args=>
   rfl
 | inv tab x args=>
   show(Bs x e fun vx=>Kk args e fun vs=>CC (match vx with| .Eo t v=>ob (look t tab) fun f=>cf f (v::vs) s|_=>none) kk kp)=_;simp only[BA he,Bo he,Bz he,FW,BN,Bn]
   try rfl
def pH (g:Bool) (t:Bool) (y:Al) (n:Al):Al:=@Bool.rec (fun _=>Al) (@Bool.rec (fun _=>Al) y n g) (@Bool.rec (fun _=>Al) n y g) t
def lj (g t:Bool) (y n:Al):pH g t y n=bif t==g then y else n:=by cases g<;>cases t<;>rfl
def u7 (v:V) (g:Bool) (y:Al) (n:Al):Al:=@V.rec (fun _=>Bool->Al->Al->Al) (fun _=>Unit) (fun _=>Unit) (fun t g y n=>pH g t y n) (fun _ _ g y n=>none) (fun _ g y n=>none) (fun g y n=>none) (fun _ _ g y n=>none) (fun _ _ g y n=>none) (fun _ _ _ g y n=>none) (fun _ _ _ g y n=>none) (fun _ _ _ _ g y n=>none) (fun _ _ _ _ g y n=>none) (fun _ g y n=>none) (fun g y n=>none) (fun _ _ _ _ _ g y n=>none) (fun g y n=>none) (fun _ _ _ g y n=>none) (fun g y n=>none) (fun _ _ g y n=>none) (fun vs _ g y n=>@List.rec V (fun _=>Al->Al) (fun n=>n) (fun _ _ _ _=>none) vs n) (fun g y n=>none) () (fun _ _ _ _=>()) () (fun _ _ _ _=>()) v g y n
def xX (g:Nat×Bool) (o:FY):OK:=fun cf cv cp e s kk kp=>Bs (.t g.1) e fun v=>u7 v g.2 (wa o cf cv cp e s kk kp) (kk (.t []) s)
def We (g:Option (Nat×Bool)) (o:FY):OK:=@Option.rec (Nat×Bool) (fun _=>FY->OK) (fun o=>wa o) (fun g o=>xX g o) g o
def Sw {e:CD} {env:Env} (he:IP e env) (d:Option Nat) (g:Option (Nat×Bool)) (o:FY) (cf:CF) (cv:CV) (cp:CP) (s:St) (kk kp:V->St->Al):We g o cf cv cp e s kk kp=fin (IM cf cv cp ⟨d,o,g⟩ env s) kk kp:=by
 cases g with
 | none=>exact eW he o cf cv cp s kk kp
 | some g=>
   obtain⟨g,b⟩:=g;show(Bs (.t g) e fun v=>u7 v b (wa o cf cv cp e s kk kp) (kk (.t []) s))=_;rw[BA he,eW he];simp only[IM,DI];cases get g env with
   | none=>rfl
   | some v=>
     simp only[ob];cases v<;>first|rfl|skip
     .rename_i t
      show pH b t _ _=_;rw[lj];simp only;cases t==b<;>rfl
     .rename_i vs
      cases vs<;>rfl
def M4 (d:Option Nat) (v:V) (e:CD):CD:=@Option.rec Nat (fun _=>V->CD->CD) (fun _ e=>e) (fun d v e=>⟨Nat.lor e.1 (Nat.shiftLeft 1 d),(d,v)::e.2⟩) d v e
def Jy (M n:Nat):Nq M n=M.testBit n:=by
 have h1:(M >>> n)&&&1=(M >>> n) % 2:=Nat.and_one_is_mod _;have h2:Nq M n=Nat.beq ((M >>> n)&&&1) 1:=rfl;rw[h2,h1,Nat.testBit_eq_decide_div_mod_eq,Nat.shiftRight_eq_div_pow];cases h:decide (M / 2 ^ n % 2=1)with
 | true=>rw[of_decide_eq_true h];rfl
 | false=>
   have:=of_decide_eq_false h;cases hb:Nat.beq (M / 2 ^ n % 2) 1 with
   | false=>rfl
   | true=>exact absurd (Ti hb) this
def Oq (M d n:Nat):Nq (Nat.lor M (Nat.shiftLeft 1 d)) n=(Nq M n||Nat.beq d n):=by
 rw[Jy,Jy];show(M|||1 <<< d).testBit n=_;rw[Nat.testBit_or,Nat.one_shiftLeft,Nat.testBit_two_pow];congr 1;cases hb:Nat.beq d n with
 | true=>simp[Ti hb]
 | false=>simpa using Nat.ne_of_beq_eq_false hb
def IP.push {e:CD} {env:Env} (he:IP e env) (d:Option Nat) (v:V):IP (M4 d v e) (put d v env):=by
 cases d with
 | none=>exact he
 | some d=>
   intro n;show(bif Nq (Nat.lor e.1 (Nat.shiftLeft 1 d)) n then(bif Nat.beq d n then some v else get n e.2)else none)=bif Nat.beq d n then some v else get n env;rw[Oq,<-he n,SH];cases Nat.beq d n<;>cases Nq e.1 n<;>rfl
def dF (ops:List Aq) (cf:CF) (cv:CV) (cp:CP) (env:CD) (s:St):Al:=@List.rec Aq (fun _=>CF->CV->CP->CD->St->Al) (fun _ _ _ env s=>some (.normal,env,s))
 (fun o _ ih cf cv cp env s=>We o.3 o.2 cf cv cp env s (fun v s=>Wm v fun v=>ih cf cv cp (M4 o.1 v env) s) (fun v s=>some (.BZ v,env,s))) ops cf cv cp env s
def GL:Al->Rs->Prop
 | some (x,e,s),some (x',env,s')=>x=x'/\s=s'/\IP e env
 | none,none=>True
 | _,_=>False
def Yy (cf:CF) (cv:CV) (cp:CP): ∀(ops:List Aq) {e:CD} {env:Env} (s:St),IP e env->GL (dF ops cf cv cp e s) (UA cf cv cp ops env s)
 | [],e,env,s,he=>⟨rfl,rfl,he⟩
 | o ::r,e,env,s,he=>by
   show GL (We o.3 o.2 cf cv cp e s (fun v s=>Wm v fun v=>dF r cf cv cp (M4 o.1 v e) s) (fun v s=>some (.BZ v,e,s))) _;rw[Sw he o.1];show GL (fin (IM cf cv cp o env s) _ _) _;simp only[UA];cases IM cf cv cp o env s with
   | none=>trivial
   | some p=>
     obtain⟨x,s'⟩:=p;cases x with
     | BZ v=>exact⟨rfl,rfl,he⟩
     | ret v=>
       show GL (Wm v fun v=>dF r cf cv cp (M4 o.1 v e) s') (Hl v _);rw[ZH,HY];exact Yy cf cv cp r s' (he.push o.1 v)
def uQ (re:List Aq) (cf:CF) (cv:CV) (cp:CP) (e:CD) (s:St) (K:Al):Al:=@List.rec Aq (fun _=>CF->CV->CP->CD->St->Al->Al) (fun _ _ _ _ _ K=>K)
 (fun o _ ih cf cv cp e s K=>We o.3 o.2 cf cv cp e s (fun u _=>@Option.rec Nat (fun _=>Al) (ih cf cv cp e s K) (fun d=>Bs (.t d) e fun w=>@Bool.rec (fun _=>Al) none (ih cf cv cp e s K) (EW u w)) o.1) (fun _ _=>none)) re cf cv cp e s K
def eP (cf:CF) (cv:CV) (cp:CP) {e:CD} {env:Env} (he:IP e env) (s:St) (K:Al): ∀re:List Aq,uQ re cf cv cp e s K=bif jQ cf cv cp re env s then K else none
 | []=>rfl
 | o ::r=>by
   show We o.3 o.2 cf cv cp e s (fun u _=>@Option.rec Nat (fun _=>Al) (uQ r cf cv cp e s K) (fun d=>Bs (.t d) e fun w=>@Bool.rec (fun _=>Al) none (uQ r cf cv cp e s K) (EW u w)) o.1) (fun _ _=>none)=_;rw[Sw he o.1,eP cf cv cp he s K r]
   have h':jQ cf cv cp (o::r) env s=((match IM cf cv cp o env s with
    | some (.ret u,_)=>match o.dst with
      | none=>true
      | some d=>match get d env with|some w=>EW u w|none=>false
    | _=>false)&&jQ cf cv cp r env s):=rfl
   rw[h'];show fin (IM cf cv cp o env s) _ _=_;cases IM cf cv cp o env s with
   | none=>rfl
   | some p=>
     obtain⟨x,s'⟩:=p;cases x with
     | BZ v=>rfl
     | ret u=>
       obtain⟨d,op,g⟩:=o;cases d with
       | none=>simp only[fin,D2]
       | some d=>
         simp only[fin];rw[BA he];simp only[DI];cases get d env with
         | none=>rfl
         | some w=>
           simp only[ob];cases EW u w<;>simp
def Uf (ops:List CZ) (cf:CF) (cv:CV) (cp:CP) (e:CD) (s:St):Al:=@List.rec CZ (fun _=>CF->CV->CP->CD->St->Al) (fun _ _ _ e s=>some (.normal,e,s))
 (fun d _ ih cf cv cp e s=>We d.2.3 d.2.2 cf cv cp e s (fun v s=>Wm v fun v=>(fun e=>uQ d.4 cf cv cp e s (ih cf cv cp e s)) (M4 d.2.1 v e)) (fun v s=>some (.BZ v,⟨0,[]⟩,s))) ops cf cv cp e s
def IP.nil {M:Nat}:IP ⟨M,[]⟩ []:=fun n=>by
 show(bif Nq M n then none else none)=none;cases Nq M n<;>rfl
def Va (cf:CF) (cv:CV) (cp:CP): ∀(ops:List CZ) {e:CD} {env:Env} (s:St),IP e env->GL (Uf ops cf cv cp e s) (Qe cf cv cp ops env s)
 | [],e,env,s,he=>⟨rfl,rfl,he⟩
 | d ::r,e,env,s,he=>by
   show GL (We d.2.3 d.2.2 cf cv cp e s (fun v s=>Wm v fun v=>(fun e=>uQ d.4 cf cv cp e s (Uf r cf cv cp e s)) (M4 d.2.1 v e)) (fun v s=>some (.BZ v,⟨0,[]⟩,s))) _;rw[Sw he d.2.1];show GL (fin (IM cf cv cp d.o env s) _ _) _;simp only[Qe];cases IM cf cv cp d.o env s with
   | none=>trivial
   | some p=>
     obtain⟨x,s'⟩:=p;cases x with
     | BZ v=>exact⟨rfl,rfl,IP.nil⟩
     | ret v=>
       show GL (Wm v fun v=>uQ d.4 cf cv cp (M4 d.2.1 v e) s' (Uf r cf cv cp (M4 d.2.1 v e) s')) (Hl v _);rw[ZH,HY,eP cf cv cp (he.push d.2.1 v)];show GL (bif jQ cf cv cp d.re (put d.o.dst v env) s' then _ else none) (bif jQ cf cv cp d.re (put d.o.dst v env) s' then _ else none);cases jQ cf cv cp d.re (put d.o.dst v env) s' with
       | false=>trivial
       | true=>exact Va cf cv cp r s' (he.push d.2.1 v)
def Qa (l:List Nat):Nat:=@List.rec Nat (fun _=>Nat) 0 (fun n _ ih=>Nat.lor ih (Nat.shiftLeft 1 n)) l
def MD (l:List Nat) (e:CD):CD:=⟨Nat.land e.1 (Qa l),e.2⟩
def Un: ∀(l:List Nat) (n:Nat),Nq (Qa l) n=l.any fun k=>Nat.beq k n
 | [],n=>by rw[Jy];exact Nat.zero_testBit n
 | k::r,n=>by
   show Nq (Nat.lor (Qa r) (Nat.shiftLeft 1 k)) n=_;rw[Oq,Un r n,QB,Bool.or_comm]
def Ls: ∀(l:List Nat) (env:Env) (n:Nat),get n (prune l env)=bif l.any (fun k=>Nat.beq k n)then get n env else none
 | [],env,n=>rfl
 | k ::r,env,n=>by
   have ih:=Ls r env n;simp only[prune,QB];cases hk:Nat.beq k n with
   | true=>
     have:=Ti hk;subst this;cases hg:get k env with
     | none=>
       simp only;rw[ih,hg];cases(r.any fun j=>Nat.beq j k)<;>rfl
     | some v=>simp[get,hk]
   | false=>
     simp only[Bool.false_or];cases hg:get k env with
     | none=>exact ih
     | some v=>
       simp only[get,hk,cond_false];exact ih
def IP.prune {e:CD} {env:Env} (he:IP e env) (l:List Nat):IP (MD l e) (Gl.prune l env):=fun n=>by
 show(bif Nq (Nat.land e.1 (Qa l)) n then get n e.2 else none)=_
 have:Nq (Nat.land e.1 (Qa l)) n=(Nq e.1 n&&Nq (Qa l) n):=by
  rw[Jy,Jy,Jy];exact Nat.testBit_and _ _ _
 rw[this,Ls,<-he n,SH,Un];cases Nq e.1 n<;>cases(l.any fun k=>Nat.beq k n)<;>rfl
def T2 (l:List Nat) (e:CD) (K:Env->Al):Al:=@List.rec Nat (fun _=>CD->(Env->Al)->Al) (fun _ K=>K [])
 (fun n _ ih e K=>@Bool.rec (fun _=>Al) (ih e K) (@List.rec (Nat×V) (fun _=>Nat->Al->(V->Al)->Al) (fun _ x _=>x) (fun p _ ih n x K=>@Bool.rec (fun _=>Al) (ih n x K) (K p.2) (Nat.beq p.1 n)) e.2 n (ih e K) (fun v=>ih e fun r=>K ((n,v)::r))) (Nq e.1 n)) l e K
def kL (env:Env) (n:Nat) (x:Al) (K:V->Al): @List.rec (Nat×V) (fun _=>Nat->Al->(V->Al)->Al) (fun _ x _=>x) (fun p _ ih n x K=>@Bool.rec (fun _=>Al) (ih n x K) (K p.2) (Nat.beq p.1 n)) env n x K=match get n env with|some v=>K v|none=>x:=by
 induction env with
 | nil=>rfl
 | cons p r ih=>
   obtain⟨j,v⟩:=p;show @Bool.rec (fun _=>Al) _ (K v) (Nat.beq j n)=match(bif Nat.beq j n then some v else get n r)with|some v=>K v|none=>x
   cases Nat.beq j n
   .exact ih
   .rfl
def N1 {e:CD} {env:Env} (he:IP e env): ∀(l:List Nat) (K:Env->Al),T2 l e K=K (Gl.prune l env)
 | [],K=>rfl
 | n ::r,K=>by
   show @Bool.rec (fun _=>Al) (T2 r e K) (@List.rec (Nat×V) (fun _=>Nat->Al->(V->Al)->Al) (fun _ x _=>x) (fun p _ ih n x K=>@Bool.rec (fun _=>Al) (ih n x K) (K p.2) (Nat.beq p.1 n)) e.2 n (T2 r e K) (fun v=>T2 r e fun r=>K ((n,v)::r))) (Nq e.1 n)=_;rw[kL,N1 he r];simp only[N1 he r,Gl.prune];rw[<-he n,SH];cases Nq e.1 n with
   | false=>rfl
   | true=>
     simp only[cond_true];cases get n e.2<;>rfl
def H6 (env:Env):Nat:=@List.rec (Nat×V) (fun _=>Nat) 0 (fun p _ ih=>Nat.lor ih (Nat.shiftLeft 1 p.1)) env
def Ql: ∀(env:Env) (n:Nat),Nq (H6 env) n=(get n env).isSome
 | [],n=>by rw[Jy];exact Nat.zero_testBit n
 | (k,v)::r,n=>by
   show Nq (Nat.lor (H6 r) (Nat.shiftLeft 1 k)) n=_;rw[Oq,Ql r n];simp only[get];cases Nat.beq k n<;>simp
def IP.of (env:Env):IP ⟨H6 env,env⟩ env:=fun n=>by
 show(bif Nq (H6 env) n then get n env else none)=_;rw[Ql];cases get n env<;>rfl
abbrev IH:=AX->CD->St->Al
def QW (r:Al) (K:CD->St->Al):Al:=@Option.rec (Ah×CD×St) (fun _=>(CD->St->Al)->Al) (fun _=>none) (fun p K=>@Ah.rec (fun _=>CD->St->(Ah×CD×St)->(CD->St->Al)->Al) (fun env s _ K=>K env s) (fun _ _ _ p _=>some p) (fun _ _ p _=>some p) (fun _ _ _ p _=>some p) p.1 p.2.1 p.2.2 p K) r K
def vS (r:Rs) (K':Env->St->Rs):Rs:=match r with|some (.normal,env,s)=>K' env s|r=>r
def MY {r:Al} {r':Rs} (h:GL r r') {K:CD->St->Al} {K':Env->St->Rs} (U: ∀e env s,IP e env->GL (K e s) (K' env s)):GL (QW r K) (vS r' K'):=by
 cases r with
 | none=>cases r' with|none=>trivial|some p=>exact h.elim
 | some p=>
   cases r' with
   | none=>exact h.elim
   | some p'=>
     obtain⟨x,e,s⟩:=p;obtain⟨x',env,s'⟩:=p';obtain⟨rfl,rfl,he⟩:=h;cases x with
     | normal=>exact U e env s he
     | exit id=>exact⟨rfl,rfl,he⟩
     | ret=>exact⟨rfl,rfl,he⟩
     | BZ v=>exact⟨rfl,rfl,he⟩
def OH (s:St) (e:CD):List RS->Option (List V)
 | []=>some []
 | .t n::r=>ob (SH e n) fun v=>ob (OH s e r) fun vs=>some (v::vs)
 | .c n g::r=>ob (SH e n) fun a=>ob (M9 s g a) fun v=>ob (OH s e r) fun vs=>some (v::vs)
def YW (AI:List RS) (r:Al):Option (R×St):=
 match r with
 | some (.normal,env,s)=>ob (OH s env AI) fun vs=>some (.ret (ET vs),s)
 | some (.ret,env,s)=>ob (OH s env AI) fun vs=>some (.ret (ET vs),s)
 | some (.BZ v,_,s)=>some (.BZ v,s)
 | _=>none
def UZ (tab:JZ) (ih:IH) (g:FuncId) (cap:List V) (m:Option V) (AI:List RS) (env:CD) (s:St):Option (R×St):=
 match tab g with
 | some (.uR n k ops ac l)=>bif Nat.ble cap.length n then
  match ih (.seq l (.Cs ops) ac) ⟨H6 (put (some k) (m.getD .DW) (A3 0 cap)),put (some k) (m.getD .DW) (A3 0 cap)⟩ s with
  | some (.normal,_,s')=>ob (OH s' env AI) fun vs=>some (.ret (ET vs),s')
  | some (.ret,_,s')=>ob (OH s' env AI) fun vs=>some (.ret (ET vs),s')
  | _=>none
   else none
 | some (.wZ n ac)=>match m with
   | some _=>none
   | none=>bif Nat.ble cap.length n then
     match ih ac ⟨H6 (A3 0 cap),A3 0 cap⟩ s with
     | some (.normal,_,s')=>ob (OH s' env AI) fun vs=>some (.ret (ET vs),s')
     | some (.ret,_,s')=>ob (OH s' env AI) fun vs=>some (.ret (ET vs),s')
     | _=>none
   else none
 | _=>none
def Sk (tab:JZ) (ih:IH) (f:FuncId) (vs:List V) (s:St):Option (R×St):=
 match tab f with
 | some (.fn n ac AI)=>bif Nat.ble vs.length n then YW AI (ih ac ⟨H6 (A3 0 vs),A3 0 vs⟩ s)else none
 | some (.uY n aA ops x aC AI l1 l2)=>bif Nat.ble vs.length n then
  match ih (.seq l1 aA (.Cs ops)) ⟨H6 (A3 0 vs),A3 0 vs⟩ s with
  | some (.normal,env,s1)=>match(match x with| .t n=>SH env n| .c v=>bif BF v then some v else none)with
    | some (.f (.func g) [] cap)=>match ih aC (MD l2 env) s1 with
      | some (.normal,env2,s2)=>UZ tab ih g cap none AI env2 s2
      | some (.ret,env2,s2)=>UZ tab ih g cap none AI env2 s2
      | some (.BZ v,env2,s2)=>UZ tab ih g cap (some v) AI env2 s2
      | _=>none
    | _=>none
  | _=>none
   else none
 | some (.uh n ac AI)=>bif Nat.ble vs.length n then pJ (YW AI (ih ac ⟨H6 (A3 0 vs),A3 0 vs⟩ s))else none
 | some (.Z0 c)=>c vs s
 | _=>none
def FA (tab:JZ) (memo:Er) (ih:IH):CF:=fun f vs s=>
 match memo f with
 | []=>Sk tab ih f vs s
 | m::r=>match UW vs (m::r)with
   | some v=>some (.ret v,s)
   | none=>Sk tab ih f vs s
def JB (tab:JZ) (memo:Er) (ih:IH):CV:=fun x vs s=>
 match x with
 | .f (.func f) first cap=>FA tab memo ih f (first++vs++cap) s
 | .f (.yield L) [] []=>match s.t.get L with
   | some (.loop .ready env ps a b)=>bif Nat.beq vs.length ps.length then
    Tr.put none A5 s.t L fun t=>match ih a ⟨H6 (EC ps vs env),EC ps vs env⟩ ⟨s.nx,t⟩with
    | some (.normal,env1,s1)=>match ih b env1 s1 with
      | some (.normal,_,s2)=>Tr.put (some (.loop .ready env ps a b)) A5 s2.t L fun t=>some (.ret (.b true),⟨s2.nx,t⟩)
      | some (.ret,_,s2)=>Tr.put (some (.loop .ret env ps a b)) A5 s2.t L fun t=>some (.ret (.b false),⟨s2.nx,t⟩)
      | some (.exit id,_,s2)=>Tr.put (some (.loop (.exit id) env ps a b)) A5 s2.t L fun t=>some (.ret (.b false),⟨s2.nx,t⟩)
      | some (.BZ v,_,s2)=>some (.BZ v,s2)
      | none=>none
    | _=>none
     else none
   | _=>none
 | _=>none
def J8 (tab:JZ) (memo:Er) (ih:IH):CP:=fun f vs=>
 bif B7 vs then match FA tab memo ih f vs ⟨0,.leaf⟩with
  | some (.ret v,s)=>match IJ s T7 v with
    | some u=>bif BF u then some u else none
    | none=>none
  | _=>none
 else none
abbrev SK:=JZ->Er->IH->CD->St->Al
def eL (c : AX):SK:=@AX.rec (fun _=>SK)
 (fun _ _ _ env s=>some (.normal,env,s))
 (fun ops tab memo ih env s=>dF ops (FA tab memo ih) (JB tab memo ih) (J8 tab memo ih) env s)
 (fun l ops tab memo ih env s=>QW (Uf ops (FA tab memo ih) (JB tab memo ih) (J8 tab memo ih) env s) fun env s=>some (.normal,MD l env,s))
 (fun l a b _ _ _ _ ih env s=>QW (ih a env s) fun env s=>ih b (MD l env) s)
 (fun c a b _ _ _ _ ih env s=>Bs c env fun v=>nK v fun t=>@Bool.rec (fun _=>Al) (ih b env s) (ih a env s) t)
 (fun id a _ tab memo ih env s=>match ih a env s with
  | some (.exit id',env',s')=>bif Nat.beq id' id then some (.normal,env',s')else some (.exit id',env',s')
  | r=>r)
 (fun l a _ _ _ ih env s=>T2 l env fun E=>QW (ih a ⟨H6 E,E⟩ s) fun env s=>ih (.loop l a) env s)
 (fun id _ _ _ env s=>some (.exit id,env,s))
 (fun _ _ _ env s=>some (.ret,env,s))
 (fun a _ _ _ ih env s=>ih a env s)
 (fun l g ps a b _ _ tab memo ih env s=>Bs g env fun v=>match v with
  | .f (.func gf) [] cap=>T2 l env fun E=>s.new (.loop .ready E ps a b) fun i s1=>
   match FA tab memo ih gf (.f (.yield i) [] []::cap) s1 with
   | some (.ret _,s2)=>match s2.t.get i with
     | some (.loop st _ _ _ _)=>Tr.put none A5 s2.t i fun t=>some ((match st with| .ready=> .normal| .ret=> .ret| .exit id=> .exit id),env,⟨s2.nx,t⟩)
     | _=>none
   | some (.BZ v,s2)=>match s2.t.get i with
     | some _=>Tr.put none A5 s2.t i fun t=>some (.BZ v,env,⟨s2.nx,t⟩)
     | none=>none
   | none=>none
  | _=>none) c
def runK (tab:JZ) (memo:Er) (n:Nat):IH:=@Nat.rec (fun _=>IH) (fun _ _ _=>none) (fun _ ih c env s=>eL c tab memo ih env s) n
def Wz (ihm:IH) (ih:AX->Env->St->Rs):Prop:= ∀c {e env} s,IP e env->GL (ihm c e s) (ih c env s)
def K5 {s:St} {e:CD} {env:Env} (he:IP e env): ∀l:List RS,OH s e l=YH s env l
 | []=>rfl
 | .t n::r=>by simp only[OH,YH,he n,K5 he r]
 | .c n g::r=>by simp only[OH,YH,he n,K5 he r]
def VY {AI:List RS} {r:Al} {r':Rs} (h:GL r r'):YW AI r=Z5 AI r':=by
 cases r with
 | none=>cases r' with|none=>rfl|some p=>exact h.elim
 | some p=>
   cases r' with
   | none=>exact h.elim
   | some p'=>
     obtain⟨x,e,s⟩:=p;obtain⟨x',env,s'⟩:=p';obtain⟨rfl,rfl,he⟩:=h;cases x<;>first|rfl|simp only[YW,Z5,K5 he]
def iT {tab : JZ} {ihm:IH} {ih:AX->Env->St->Rs} (hi:Wz ihm ih) {g:FuncId} {cap:List V} {m:Option V} {AI:List RS} {e:CD} {env:Env} (he:IP e env) (s:St):UZ tab ihm g cap m AI e s=Wn tab ih g cap m AI env s:=by
 unfold UZ Wn;cases tab g with
 | none=>rfl
 | some fs =>
   cases fs<;>first|rfl|skip
   .rename_i n k ops ac l
    simp only;have:=hi (.seq l (.Cs ops) ac) s (IP.of (put (some k) (m.getD .DW) (A3 0 cap)))
    revert this
    cases ihm (.seq l (.Cs ops) ac) _ s with
    | none=>cases ih (.seq l (.Cs ops) ac) _ s with|none=>intro _;rfl|some p=>intro h;exact h.elim
    | some p=>
      cases ih (.seq l (.Cs ops) ac) _ s with
      | none=>intro h;exact h.elim
      | some p'=>
        obtain⟨x,e1,s1⟩:=p;obtain⟨x',env1,s1'⟩:=p';rintro⟨rfl,rfl,he1⟩;cases x<;>simp only[K5 he]
   .rename_i n ac
    cases m with
    | some v=>rfl
    | none=>
      simp only;have:=hi ac s (IP.of (A3 0 cap))
      revert this
      cases ihm ac _ s with
      | none=>cases ih ac _ s with|none=>intro _;rfl|some p=>intro h;exact h.elim
      | some p=>
        cases ih ac _ s with
        | none=>intro h;exact h.elim
        | some p'=>
          obtain⟨x,e1,s1⟩:=p;obtain⟨x',env1,s1'⟩:=p';rintro⟨rfl,rfl,he1⟩;cases x<;>simp only[K5 he]
def cH {tab : JZ} {ihm:IH} {ih:AX->Env->St->Rs} (hi:Wz ihm ih) (f:FuncId) (vs:List V) (s:St):Sk tab ihm f vs s=Qf tab ih f vs s:=by
 unfold Sk Qf;cases tab f with
 | none=>rfl
 | some fs =>
   cases fs with
   | uR n k ops ac l=>rfl
   | Z0 c=>rfl
   | wZ n ac=>rfl
   | fn n ac AI=>simp only;rw[VY (hi ac s (IP.of (A3 0 vs)))]
   | uh n ac AI=>simp only;rw[VY (hi ac s (IP.of (A3 0 vs)))]
   | uY n aA ops x aC AI l1 l2=>
     simp only;have:=hi (.seq l1 aA (.Cs ops)) s (IP.of (A3 0 vs))
     revert this
     cases ihm (.seq l1 aA (.Cs ops)) _ s with
     | none=>cases ih (.seq l1 aA (.Cs ops)) _ s with|none=>intro _;rfl|some p=>intro h;exact h.elim
     | some p=>
       cases ih (.seq l1 aA (.Cs ops)) _ s with
       | none=>intro h;exact h.elim
       | some p'=>
         obtain⟨x1,e1,s1⟩:=p;obtain⟨x1',env1,s1'⟩:=p';rintro⟨rfl,rfl,he1⟩;cases x1<;>first|rfl|skip
         simp only;have hx:(match x with| .t n=>SH e1 n| .c v=>bif BF v then some v else none)=DI env1 x:=by cases x<;>first|exact he1 _|rfl
         rw[hx];cases DI env1 x with
         | none=>rfl
         | some v=>
           cases v<;>first|rfl|skip
           rename_i fn first cap
           cases fn<;>first|rfl|skip
           cases first<;>first|rfl|skip
           simp only;have:=hi aC s1 (he1.prune l2)
           revert this
           cases ihm aC (MD l2 e1) s1 with
           | none=>cases ih aC (Gl.prune l2 env1) s1 with|none=>intro _;rfl|some p=>intro h;exact h.elim
           | some p=>
             cases ih aC (Gl.prune l2 env1) s1 with
             | none=>intro h;exact h.elim
             | some p'=>
               obtain⟨x2,e2,s2⟩:=p;obtain⟨x2',env2,s2'⟩:=p';rintro⟨rfl,rfl,he2⟩;cases x2<;>simp only[iT hi he2]
def GC {tab:JZ} {memo:Er} {ihm:IH} {ih:AX->Env->St->Rs} (hi:Wz ihm ih):FA tab memo ihm=Gs tab memo ih:=by
 funext f vs s;unfold FA Gs;simp only[cH hi];rfl
def Py {tab : JZ} {memo:Er} {ihm:IH} {ih:AX->Env->St->Rs} (hi:Wz ihm ih):JB tab memo ihm=MQ tab memo ih:=by
 funext x vs s;unfold JB MQ;rw[GC hi];cases x<;>first|rfl|skip
 rename_i fn first cap
 cases fn<;>first|rfl|skip
 cases first<;>first|rfl|skip
 cases cap<;>first|rfl|skip
 rename_i L;simp only;cases s.t.get L with
 | none=>rfl
 | some o=>
   cases o<;>first|rfl|skip
   rename_i st env ps a b;cases st<;>first|rfl|skip
   simp only;congr 2;funext t;have:=hi a ⟨s.nx,t⟩ (IP.of (EC ps vs env))
   revert this
   cases ihm a _ ⟨s.nx,t⟩with
   | none=>cases ih a _ ⟨s.nx,t⟩with|none=>intro _;rfl|some p=>intro h;exact h.elim
   | some p=>
     cases ih a _ ⟨s.nx,t⟩with
     | none=>intro h;exact h.elim
     | some p'=>
       obtain⟨x1,e1,s1⟩:=p;obtain⟨x1',env1,s1'⟩:=p';rintro⟨rfl,rfl,he1⟩;cases x1<;>first|rfl|skip
       simp only;have:=hi b s1 he1
       revert this
       cases ihm b e1 s1 with
       | none=>cases ih b env1 s1 with|none=>intro _;rfl|some p=>intro h;exact h.elim
       | some p=>
         cases ih b env1 s1 with
         | none=>intro h;exact h.elim
         | some p'=>
           obtain⟨x2,e2,s2⟩:=p;obtain⟨x2',env2,s2'⟩:=p';rintro⟨rfl,rfl,he2⟩;cases x2<;>rfl
def Mr {tab:JZ} {memo:Er} {ihm:IH} {ih:AX->Env->St->Rs} (hi:Wz ihm ih):J8 tab memo ihm=OZ tab memo ih:=by
 funext f vs;unfold J8 OZ;rw[GC hi];rfl
def gP {tab : JZ} {memo:Er} {ihm:IH} {ih:AX->Env->St->Rs} (hi:Wz ihm ih) (c:AX) {e:CD} {env:Env} (s:St) (he:IP e env):GL (eL c tab memo ihm e s) (H9 tab memo ih c env s):=by
 cases c with
 | skip=>exact⟨rfl,rfl,he⟩
 | ret=>exact⟨rfl,rfl,he⟩
 | exit id=>exact⟨rfl,rfl,he⟩
 | scope a=>exact hi a s he
 | Cs ops=>
   show GL (dF ops (FA tab memo ihm) (JB tab memo ihm) (J8 tab memo ihm) e s) _;rw[GC hi,Py hi,Mr hi];exact Yy _ _ _ ops s he
 | G2 l ops=>
   show GL (QW (Uf ops (FA tab memo ihm) (JB tab memo ihm) (J8 tab memo ihm) e s) fun env s=>some (.normal,MD l env,s)) _;rw[GC hi,Py hi,Mr hi];exact MY (K':=fun env s=>some (.normal,Gl.prune l env,s)) (Va _ _ _ ops s he) fun _ _ s he=>⟨rfl,rfl,he.prune l⟩
 | seq l a b=>exact MY (K':=fun env s=>ih b (Gl.prune l env) s) (hi a s he) fun _ _ s he=>hi b s (he.prune l)
 | cond c a b=>
   show GL (Bs c e fun v=>nK v fun t=>@Bool.rec (fun _=>Al) (ihm b e s) (ihm a e s) t) _;rw[BA he];simp only[H9];cases DI env c with
   | none=>trivial
   | some v=>
     cases v<;>first|trivial|skip
     rename_i t;cases t
     .exact hi b s he
     .exact hi a s he
 | block id a=>
   have:=hi a s he;show GL (match ihm a e s with|some (.exit id',env',s')=>bif Nat.beq id' id then some (.normal,env',s')else some (.exit id',env',s')|r=>r) (match ih a env s with|some (.exit id',env',s')=>bif Nat.beq id' id then some (.normal,env',s')else some (.exit id',env',s')|r=>r)
   revert this
   cases ihm a e s with
   | none=>cases ih a env s with|none=>intro _;trivial|some p=>intro h;exact h.elim
   | some p=>
     cases ih a env s with
     | none=>intro h;exact h.elim
     | some p'=>
       obtain⟨x1,e1,s1⟩:=p;obtain⟨x1',env1,s1'⟩:=p';rintro⟨rfl,rfl,he1⟩;cases x1 with
       | exit id'=>
         simp only;cases Nat.beq id' id<;>exact⟨rfl,rfl,he1⟩
       | normal=>exact⟨rfl,rfl,he1⟩
       | ret=>exact⟨rfl,rfl,he1⟩
       | BZ v=>exact⟨rfl,rfl,he1⟩
 | loop l a=>
   show GL (T2 l e fun E=>QW (ihm a ⟨H6 E,E⟩ s) fun env s=>ihm (.loop l a) env s) _;rw[N1 he];exact MY (K':=fun env s=>ih (.loop l a) env s) (hi a s (IP.of _)) fun _ _ s he=>hi (.loop l a) s he
 | Da l g ps a b=>
   show GL (Bs g e fun v=>match v with
   | .f (.func gf) [] cap=>T2 l e fun E=>s.new (.loop .ready E ps a b) fun i s1=>
    match FA tab memo ihm gf (.f (.yield i) [] []::cap) s1 with
    | some (.ret _,s2)=>match s2.t.get i with
      | some (.loop st _ _ _ _)=>Tr.put none A5 s2.t i fun t=>some ((match st with| .ready=> .normal| .ret=> .ret| .exit id=> .exit id),e,⟨s2.nx,t⟩)
      | _=>none
    | some (.BZ v,s2)=>match s2.t.get i with
      | some _=>Tr.put none A5 s2.t i fun t=>some (.BZ v,e,⟨s2.nx,t⟩)
      | none=>none
    | none=>none
   | _=>none) _
   rw[BA he,GC hi];simp only[H9];cases DI env g with
   | none=>trivial
   | some v=>
     cases v<;>first|trivial|skip
     rename_i fn first cap
     cases fn<;>first|trivial|skip
     cases first<;>first|trivial|skip
     rename_i gf;simp only[ob];rw[N1 he]
     have hnew: ∀ {β γ:Type} (o:EO) (f:Nat->St->Option β) (g:Nat->St->Option γ) (Rl:Option β->Option γ->Prop),Rl none none->(∀i s,Rl (f i s) (g i s))->Rl (s.new o f) (s.new o g):=fun {β γ} o f g Rl h0 h1=>by
      obtain⟨n,t⟩:=s;cases n with
      | zero=>simp only[St.new];rw[Tr.put_eq,Tr.put_eq];exact h1 _ _
      | succ n=>
        simp only[St.new];rw[Tr.put_eq,Tr.put_eq];cases Nat.ble (n+1) L5
        .exact h0
        .exact h1 _ _
     refine hnew _ _ _ GL trivial fun i s1=>?_
     cases Gs tab memo ih gf (.f (.yield i) [] []::cap) s1 with
     | none=>trivial
     | some p=>
       obtain⟨x,s2⟩:=p;cases x with
       | ret v=>
         simp only;cases s2.t.get i with
         | none=>trivial
         | some o=>
           cases o<;>first|trivial|skip
           simp only;rw[Tr.put_eq,Tr.put_eq];exact⟨rfl,rfl,he⟩
       | BZ v=>
         simp only;cases s2.t.get i with
         | none=>trivial
         | some o=>
           simp only;rw[Tr.put_eq,Tr.put_eq];exact⟨rfl,rfl,he⟩
def Ym (tab:JZ) (memo:Er): ∀n:Nat,Wz (runK tab memo n) (run tab memo n)
 | 0=>fun _ _ _ _ _=>trivial
 | n+1=>fun c _ _ s he=>gP (Ym tab memo n) c s he
def je (tab:JZ) (memo:Er) (n:Nat) (f:FuncId) (vs:List V) (v:V):Bool:=
 match J8 tab memo (runK tab memo n) f vs with
 | some u=>EW u v
 | none=>false
def Q1 {tab:JZ} (ht:Kv P tab) {memo:Er} (hm:Gu P memo) {n:Nat} {f:FuncId} {vs:List V} {v:V} (h:je tab memo n f vs v=true):B7 vs=true/\BF v=true/\Pure P f vs v:=by
 unfold je at h;rw[Mr (Ym tab memo n)]at h;exact V3 ht hm h
def om (t:Tr Zv):JZ:=fun f=>Z4 t f
def Yf {t:Tr Zv} (h:Ya (fun i=>Nh P i) id t):Kv P (om t):=fun f fs e=>h f fs ((TH t f).symm.trans e)
def pS (m:Er) (f:FuncId) (a:List V) (v:V):Er:=fun g=>@Bool.rec (fun _=>List (List V×V)) (m g) ((a,v)::m g) (Nat.beq f g)
def nA {m:Er} (h:Gu P m) {f:FuncId} {a:List V} {v:V} (h1:B7 a=true/\BF v=true/\Pure P f a v):Gu P (pS m f a v):=fun g e he=>by
 unfold pS at he;cases hb:Nat.beq f g with
 | false=>rw[hb]at he;exact h g e he
 | true=>
   rw[hb]at he;have:=Cn hb;subst this;rcases Fq.1 he with rfl|he
   .exact h1
   .exact h f e he
end Go.Gl
namespace Go.Gl
variable {P:Program}
abbrev TP (sz b:Nat):AX:=(.seq [0] (.Cs [⟨(some 2),.mv (.c (.l [] true)),none⟩])
 (.seq [0] (.seq [0,4] (.Cs [⟨(some 3),.mv (.t 0),none⟩,
  ⟨(some 4),.cZ 1 false (.t 3),none⟩])
 (.cond (.t 4)
 (.seq [2] (.Cs [⟨(some 2),.mv (.c (.l [] true)),none⟩])
 .ret)
 .skip))
 (.seq [2] (.Cs [⟨(some 5),.Gt 1 0 [] [],none⟩,
  ⟨(some 6),.mv (.t 0),none⟩,
  ⟨(some 7),.append sz b (.t 5) (.t 6),none⟩,
  ⟨(some 2),.mv (.t 7),none⟩])
 .ret)))
def bL {q:Nat} {neg:Bool} {x:V} {k k':V->Prop} (h:IU q neg x k) (hm: ∀t,k (.b t)->k' (.b t)):IU q neg x k':=by
 unfold IU at *;split at h<;>first|exact hm _ h|exact⟨fun e t=>hm _ (h.1 e t),fun e=>hm _ (h.2 e)⟩|exact h.elim
def Mv {v:V} {σ:AH} {Q:R->AH->Prop} (h:Q (.ret v) σ):Am σ v Q:=⟨v,σ,fun _ _ h=>h,.refl _,h⟩
def gC {ρ:Ren} {f:Bool}:RV ρ (.l [] f) (.l [] f):=by simp only[RV];exact⟨[],rfl,rfl⟩
section
attribute [local irreducible] As Am Ac AQ AM Ab AP AR AL Aa AN AO Ao Ax AW Au Ad W IU
def mf {sz b:Nat} {v:V} {σ:AH} {Q:R->AH->Prop} (h1:IU 1 false v fun t=>(t= .b true->Am σ (.l [] true) Q)/\(t= .b false->AM b σ sz (.l [] true) v fun v' σ'=>Am σ' v' Q)) :
    W P (TP sz b) (UI [.t 2] Q) [(0,v)] σ:=by
 conv=>whnf
 repeat((first|(refine Sm ?_;intro K U)|(refine Sp ?_;intro I C G F)|(apply G;clear F C G I)|(apply U;clear U K)|fail);conv=>whnf)
 refine bL h1 fun t ht=>?_
 conv=>whnf
 repeat((first|(apply G;clear F C G I)|refine Zj ?_|(apply U;clear U K)|fail);conv=>whnf)
 refine⟨fun h=>?_,fun h=>?_⟩
 .subst h
  conv=>whnf
  repeat((first|(refine Sm ?_;intro K U)|(refine Sp ?_;intro I C G F)|(apply G;clear F C G I)|refine XQ ?_|(apply U;clear U K)|(clear U K));conv=>whnf)
  exact ht.1 rfl
 .subst h
  conv=>whnf
  repeat((first|(refine Sm ?_;intro K U)|(refine Sp ?_;intro I C G F)|refine Zi ?_|(apply U;clear U K)|fail);conv=>whnf)
  refine Lq (ht.2 rfl) fun v' σ' hq=>?_
  conv=>whnf
  repeat((first|(apply G;clear F C G I)|refine XQ ?_|(apply U;clear U K)|fail);conv=>whnf)
  exact hq
end
def ic {f : FuncId} {n sz b:Nat} (h: ∀(args:List V) (σ:AH) (Q:R->AH->Prop),args.length<=n->T P (TP sz b) (UI [.t 2] Q) (A3 0 args) σ->As P f args σ Q) (hn:1<=n) (hb:b<=131072:=by decide):Nh P f (.Z0 (XK sz)):=by
 intro vs s r s' hc ρ vs' σ hv hs Q hQ
 have main: ∀ {v v':V} {ys:List (List V)},vs= [v]->vs'= [v']->RV ρ v v'->IA s sz v=some ys->(ys= []->r= .ret (.l [] true)/\s'=s)->
  (ys≠[]->(ys.all (fun e=>e.all CA)&&Nat.ble ys.length 1073741824)=true/\s.nx<=L5/\r= .ret (.sl s.nx ys.length 0)/\s'=⟨s.nx+1,Tr.set (some (.arr sz ys)) A5 s.t s.nx⟩)->
  (∀k:V->Prop,(ys= []-> ∀t,k (.b t))->(ys≠[]->k (.b false))->IU 1 false v' k)->As P f vs' σ Q:=fun {v v' ys} e1 e2 hr hy h0 h1 hk=>by
  subst e1;subst e2;refine h _ _ _ hn (jc (mf (hk _ (fun e t=>⟨fun _=>?_,fun _=>?_⟩) fun e=>⟨fun h=>(by cases h),fun _=>?_⟩)))
  .obtain⟨rfl,rfl⟩:=h0 e
   exact Mv (hQ ρ _ σ (.refl _) ⟨_,gC,rfl⟩ hs)
  .obtain⟨rfl,rfl⟩:=h0 e
   refine HP hs hy hr fun ys' hr'=>?_
   have:ys'= []:=by
    have:=hr'.len;rw[e]at this;exact Zm.1 this
   subst this;exact⟨fun e he=>(by cases he),fun e he=>(by cases he),⟨Nat.zero_le _,by simp⟩,fun _=>Mv (hQ ρ _ σ (.refl _) ⟨_,gC,rfl⟩ hs),fun h=>absurd rfl h⟩
  .obtain⟨g1,g2,rfl,rfl⟩:=h1 e
   simp only[A8]at g1;refine HP hs hy hr fun ys' hr'=>?_
   have hl:=hr'.len;have hne:ys'≠[]:=fun e'=>e (by rw[e']at hl;exact Zm.1 hl.symm)
   refine⟨Lg g1.1 hr',fun e he=>(by cases he),?_,fun e=>absurd e hne,fun _=>⟨rfl,fun n cap hn0 hc=>?_⟩⟩
   .have:=SU (b:=b) (L:=ys.length) (by simp only[uT,A8];exact⟨g1.2,Nat.ble_eq_true_of_le hb⟩)
    simp only[List.length_nil,GM];rw[hl];exact this
   .obtain⟨ρ',q1,q2,q3⟩:=hs.new g2 hn0 cap (o:= .arr sz ys) (o':= .arr sz ys' cap) ⟨_,hr',rfl⟩
    refine Mv (hQ ρ' _ _ q1 ?_ ?_)
    .refine⟨_,?_,rfl⟩
     simp only[RV];exact⟨_,q2,by simp[hl]⟩
    .simpa using q3
 have parts: ∀ {ys:List (List V)},(match some ys with
  | some []=>some (R.ret (V.l [] true),s)
  | some (y::ys)=>bif (y::ys).all (fun e=>e.all CA)&&Nat.ble (y::ys).length 1073741824 then s.new (.arr sz (y::ys)) fun i s'=>some (.ret (.sl i (y::ys).length 0),s')else none
  | none=>none)=some (r,s')->(ys= []->r= .ret (.l [] true)/\s'=s)/\
    (ys≠[]->(ys.all (fun e=>e.all CA)&&Nat.ble ys.length 1073741824)=true/\s.nx<=L5/\r= .ret (.sl s.nx ys.length 0)/\s'=⟨s.nx+1,Tr.set (some (.arr sz ys)) A5 s.t s.nx⟩):=fun {ys} hc=>by
  cases ys with
  | nil=>cases hc;exact⟨fun _=>⟨rfl,rfl⟩,fun h=>absurd rfl h⟩
  | cons y ys=>
    obtain⟨h1,h2⟩:=AY hc;obtain⟨h3,h4⟩:=St.Hk h2;cases h4;exact⟨fun h=>(by cases h),fun _=>⟨h1,h3,rfl,rfl⟩⟩
 unfold XK at hc;split at hc
 .rename_i es f
  obtain⟨v',l',k1,k2,rfl⟩:=hv;obtain rfl:l'= []:=k2;cases hy:IA s sz (.l es f)with
  | none=>rw[hy]at hc;cases hc
  | some ys=>
    rw[hy]at hc;obtain⟨p1,p2⟩:=parts hc;refine main rfl rfl k1 hy p1 p2 fun k h0 h1=>?_
    simp only[RV]at k1;obtain⟨es',k3,rfl⟩:=k1;have hl:=(FK.1 k3).len
    have he:ys=es:=by
     simp only[IA]at hy;exact(Option.some.inj (AY hy).2).symm
    subst he;unfold IU;exact⟨fun e=>h0 (by rw[e]at hl;exact Zm.1 hl.symm),fun e=>h1 fun e'=>e (by rw[e']at hl;exact Zm.1 hl)⟩
 .rename_i m len c
  obtain⟨v',l',k1,k2,rfl⟩:=hv;obtain rfl:l'= []:=k2;cases hy:IA s sz (.sl m len c)with
  | none=>rw[hy]at hc;cases hc
  | some ys=>
    rw[hy]at hc;obtain⟨p1,p2⟩:=parts (ys:=ys) hc;refine main rfl rfl k1 hy p1 p2 fun k h0 h1=>?_
    simp only[RV]at k1;obtain⟨m',k3,rfl⟩:=k1;unfold IU;show k (.b false);by_cases e:ys= []
    .exact h0 e false
    .exact h1 e
 .cases hc
end Go.Gl
namespace Go.Gl
variable {P:Program}
structure cn (P:Program) where
 k:Nat
 fs:Zv
 ok:Nh P k fs
def ug:List (cn P)->Tr Zv
 | []=> .leaf
 | e::r=>bif Nat.ble e.k 1000000 then Tr.set (some e.fs) A5 (ug r) e.k else ug r
def W6: ∀l:List (cn P),Ya (fun i=>Nh P i) id (ug l)
 | []=>m6
 | e ::r=>by
   unfold ug;cases h:Nat.ble e.k 1000000 with
   | false=>exact W6 r
   | true=>
     have hk:e.k+1<2 ^ A5:=by
      have:=Nat.le_of_ble_eq_true h;have e2:(2:Nat) ^ A5=1099511627776:=by decide
      omega
     intro j a ha;rw[cond_true,Tr.Dk A5 _ _ hk]at ha;split at ha
     .next e1=>subst e1;cases ha;exact e.ok
     .exact W6 r j a ha
def eX {k n:Nat} {fn:Func} {ac:AX} {rs:List RS} (pu fz:List Nat) (hf:P.funcs[k]? =some fn)
    (hn:fn.ntmps=n:=by conv=>lhs;reduce)
    (hr:L4 P fn.results.toList=some rs:=by conv=>lhs;reduce)
    (hc:Zt (rs.map ua) ((fn.body.bind (res P fn.ntmps pu fz)).getD .skip) [] (rs.map ua)=ac:=by conv=>lhs;reduce)
    (hb:fn.body.bind (res P fn.ntmps pu fz)=some (erase ac):=by kernel_rfl) (hok:okF P k=true:=by kernel_rfl):cn P:=
 ⟨k,.fn n ac rs,fun _ _ _ ha h=>ER hf hok hb hr (hn ▸ ha) h⟩
def eZ {k n:Nat} {fn:Func} {ac:AX} {rs:List RS} (pu fz:List Nat) (hf:P.funcs[k]? =some fn)
    (hn:fn.ntmps=n:=by conv=>lhs;reduce)
    (hr:L4 P fn.results.toList=some rs:=by conv=>lhs;reduce)
    (hc:Zt (rs.map ua) ((fn.body.bind (res P fn.ntmps pu fz)).getD .skip) [] (rs.map ua)=ac:=by conv=>lhs;reduce)
    (hb:fn.body.bind (res P fn.ntmps pu fz)=some (erase ac):=by kernel_rfl) (hok:okF P k=true:=by kernel_rfl):cn P:=
 ⟨k,.uh n ac rs,fun _ _ _ ha h=>ER hf hok hb hr (hn ▸ ha) h⟩
def eC {k:Nat} {fn:Func} (sz b:Nat) (hf:P.funcs[k]? =some fn) (hb:fn.body.bind (res P fn.ntmps [] [])=some (erase (TP sz b)):=by kernel_rfl)
    (hr:L4 P fn.results.toList=some [.t 2]:=by kernel_rfl) (hok:okF P k=true:=by kernel_rfl) (hn:Nat.ble 1 fn.ntmps=true:=by kernel_rfl) (hs:Nat.ble b 131072=true:=by kernel_rfl):cn P:=
 ⟨k,.Z0 (XK sz),ic (sz:=sz) (b:=b) (fun _ _ _ ha h=>ER hf hok hb hr ha h) (Nat.le_of_ble_eq_true hn) (Nat.le_of_ble_eq_true hs)⟩
structure MM (P:Program) where
 m:Er
 ok:Gu P m
def MM.add (M:MM P) {f:Nat} {vs:List V} {v:V} (h:B7 vs=true/\BF v=true/\Pure P f vs v):MM P:=⟨pS M.m f vs v,nA M.ok h⟩
end Go.Gl
namespace Go.Gl
open Go.Proofs
set_option maxRecDepth 100000
set_option maxHeartbeats 4000000
def e17:=eX [] [] Tryz.func17
def e66:=eZ [] [] Tryz.func66
def e18:=eX [] [] Tryz.func18
def e19:=eX [] [] Tryz.func19
def e23:=eX [] [] Tryz.func23
def e22:=eX [] [] Tryz.func22
def e38:=eX [] [] Tryz.func38
def e67:=eZ [] [] Tryz.func67
def e15:=eX [] [] Tryz.func15
def e40:=eX [] [] Tryz.func40
def e31:=eX [] [] Tryz.func31
def e25:=eX [] [] Tryz.func25
def e69:=eX [] [] Tryz.func69
def e68:=eX [] [] Tryz.func68
def e27:=eX [] [] Tryz.func27
def e70:=eX [] [] Tryz.func70
def e59:=eX [] [] Tryz.func59
def e73:=eX [] [] Tryz.func73
def e72:=eX [] [] Tryz.func72
def e71:=eX [] [] Tryz.func71
def e74:=eX [] [] Tryz.func74
def e78:=eX [] [] Tryz.func78
def e100:=eX [] [] Tryz.func100
def e101:=eZ [] [] Tryz.func101
def e62:=eX [] [] Tryz.func62
def e102:=eX [] [] Tryz.func102
def e137:=eX [] [] Tryz.func137
def e60:=eX [] [] Tryz.func60
def e84:=eX [] [] Tryz.func84
def e82:=eX [] [] Tryz.func82
def e83:=eX [] [] Tryz.func83
def e92:=eX [] [] Tryz.func92
def e93:=eX [] [] Tryz.func93
def e81:=eX [] [] Tryz.func81
def e34:=eX [] [] Tryz.func34
def e131:=eX [] [] Tryz.func131
def e132:=eX [] [] Tryz.func132
def e138:=eX [] [] Tryz.func138
def e140:=eX [] [] Tryz.func140
def e139:=eX [] [] Tryz.func139
def e144:=eX [] [] Tryz.func144
def e79:=eX [] [] Tryz.func79
def e49:=eX [] [] Tryz.func49
def e159:=eX [] [] Tryz.func159
def e133:=eX [] [] Tryz.func133
def e134:=eX [] [] Tryz.func134
def e160:=eX [] [] Tryz.func160
def e61:=eX [] [] Tryz.func61
def e146:=eX [] [] Tryz.func146
def e147:=eX [] [] Tryz.func147
def e150:=eX [] [] Tryz.func150
def e151:=eZ [] [] Tryz.func151
def e118:=eX [] [] Tryz.func118
def e152:=eX [] [] Tryz.func152
end Go.Gl
