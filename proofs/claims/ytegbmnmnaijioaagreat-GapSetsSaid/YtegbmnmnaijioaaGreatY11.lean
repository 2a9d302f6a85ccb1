import Derived.Test.YtegbmnmnaijioaaGreatProg
import Derived.KernelRfl
import Derived.Test.YtegbmnmnaijioaaGreatY4
import Derived.Test.YtegbmnmnaijioaaGreatY10
set_option linter.all false
set_option linter.defProp false
set_option maxHeartbeats 8000000
noncomputable section
namespace Go.Gl
variable {P:Program}
structure CX where
 M:Nat
 E:Env
abbrev Al:=Option (Ac×CX×St)
def Lo {α β:Type} (c:Bool) (x:Option α) (g:α->Option β):ob (bif c then x else none) g=bif c then ob x g else none:=by cases c<;>rfl
def oF (env:Env) (n:Nat) (K:V->Al):Al:=@List.rec (Nat×V) (fun _=>Nat->(V->Al)->Al) (fun _ _=>none) (fun p _ ih n K=>@Bool.rec (fun _=>Al) (ih n K) (K p.2) (Nat.beq p.1 n)) env n K
def qK (env:Env) (n:Nat) (K:V->Al):oF env n K=ob (get n env) K:=by
 induction env with
 | nil=>rfl
 | cons p r ih=>
   obtain⟨j,v⟩:=p;show @Bool.rec (fun _=>Al) (oF r n K) (K v) (Nat.beq j n)=ob (bif Nat.beq j n then some v else get n r) K;cases Nat.beq j n
   .exact ih
   .rfl
def UR {α:Type} (cs:List α) (i:Nat) (K:α->Al):Al:=@List.rec α (fun _=>Nat->(α->Al)->Al) (fun _ _=>none) (fun v _ ih i K=>@Nat.rec (fun _=>Al) (K v) (fun j _=>ih j K) i) cs i K
def Md {α:Type} (cs:List α): ∀(i:Nat) (K:α->Al),UR cs i K=ob cs[i]? K:=by
 induction cs with
 | nil=>intro i K;rfl
 | cons v r ih=>
   intro i K;cases i with
   | zero=>rfl
   | succ j=>exact ih j K
def Gj {α:Type} (cs:List α):Nat:=@List.rec α (fun _=>Nat) 0 (fun _ _ ih=>Nat.succ ih) cs
def Fx {α:Type} (cs:List α):Gj cs=cs.length:=by
 induction cs with
 | nil=>rfl
 | cons v r ih=>show Nat.succ (Gj r)=_;rw[ih];rfl
def Wh {α:Type} (cs:List α) (n:Nat):List α:=@Nat.rec (fun _=>List α->List α) (fun cs=>cs) (fun _ ih cs=>@List.rec α (fun _=>(List α->List α)->List α) (fun _=>[]) (fun _ r _ ih=>ih r) cs ih) n cs
def RJ {α:Type}: ∀(n:Nat) (cs:List α),Wh cs n=cs.drop n
 | 0,cs=>rfl
 | n+1,[]=>rfl
 | n+1,v::r=>RJ n r
def aJ {α:Type} (cs:List α) (n:Nat):List α:=@List.rec α (fun _=>Nat->List α) (fun _=>[]) (fun v _ ih n=>@Nat.rec (fun _=>List α) [] (fun j _=>v::ih j) n) cs n
def k9 {α:Type} (cs:List α): ∀n:Nat,aJ cs n=cs.take n:=by
 induction cs with
 | nil=>intro n;cases n<;>rfl
 | cons v r ih=>
   intro n;cases n with
   | zero=>rfl
   | succ j=>show v::aJ r j=_;rw[ih];rfl
def Yg {α:Type} (cs:List α) (n:Nat) (x:α):List α:=@List.rec α (fun _=>Nat->α->List α) (fun _ _=>[]) (fun v r ih n x=>@Nat.rec (fun _=>List α) (x::r) (fun j _=>v::ih j x) n) cs n x
def U8 {α:Type} (cs:List α) (x:α): ∀n:Nat,Yg cs n x=cs.set n x:=by
 induction cs with
 | nil=>intro n;rfl
 | cons v r ih=>
   intro n;cases n with
   | zero=>rfl
   | succ j=>show v::Yg r j x=_;rw[ih];rfl
def tc {α:Type} (f:α->Bool) (cs:List α):Bool:=@List.rec α (fun _=>(α->Bool)->Bool) (fun _=>true) (fun v _ ih f=>@Bool.rec (fun _=>Bool) false (ih f) (f v)) cs f
def rJ {α:Type} (f:α->Bool) (cs:List α):tc f cs=cs.all f:=by
 induction cs with
 | nil=>rfl
 | cons v r ih=>
   show @Bool.rec (fun _=>Bool) false (tc f r) (f v)=_;rw[K5,ih];cases f v<;>rfl
def jw (v:V) (K:V->Al):Al:=@V.rec (fun _=>V->(V->Al)->Al) (fun _=>Unit) (fun _=>Unit) (fun _ v K=>K v) (fun _ _ v K=>K v) (fun _ v K=>K v) (fun v K=>K v) (fun _ _ v K=>@Bool.rec (fun _=>Al) none (K v) (BL v)) (fun _ _ v K=>@Bool.rec (fun _=>Al) none (K v) (BL v)) (fun _ _ _ v K=>@Bool.rec (fun _=>Al) none (K v) (BL v)) (fun _ _ _ v K=>@Bool.rec (fun _=>Al) none (K v) (BL v)) (fun _ _ _ _ v K=>@Bool.rec (fun _=>Al) none (K v) (BL v)) (fun _ _ _ _ v K=>@Bool.rec (fun _=>Al) none (K v) (BL v)) (fun _ v K=>@Bool.rec (fun _=>Al) none (K v) (BL v)) (fun v K=>K v) (fun _ _ _ _ _ v K=>@Bool.rec (fun _=>Al) none (K v) (BL v)) (fun v K=>K v) (fun _ _ _ v K=>@Bool.rec (fun _=>Al) none (K v) (BL v)) (fun v K=>K v) (fun _ _ v K=>@Bool.rec (fun _=>Al) none (K v) (BL v)) (fun _ _ v K=>@Bool.rec (fun _=>Al) none (K v) (BL v)) (fun v K=>@Bool.rec (fun _=>Al) none (K v) (BL v)) () (fun _ _ _ _=>()) () (fun _ _ _ _=>()) v v K
def BV {α:Type} (c:Bool) (x y:α): @Bool.rec (fun _=>α) y x c=bif c then x else y:=by cases c<;>rfl
def fh (v:V) (K:V->Al):jw v K=ob (bif BL v then some v else none) K:=by
 rw[Lo];cases v<;>first|rfl|exact BV _ _ _
def Pm (M n:Nat):Bool:=Nat.beq (Nat.land (Nat.shiftRight M n) 1) 1
def UX (e:CX) (n:Nat):Option V:=bif Pm e.1 n then get n e.2 else none
def Jn (e:CX) (env:Env):Prop:= ∀n,UX e n=get n env
def B3 (x:Bq) (e:CX) (K:V->Al):Al:=@Bq.rec (fun _=>CX->(V->Al)->Al) (fun n e K=>@Bool.rec (fun _=>Al) none (oF e.2 n K) (Pm e.1 n)) (fun v _ K=>jw v K) x e K
def BI {e:CX} {env:Env} (he:Jn e env) (x:Bq) (K:V->Al):B3 x e K=ob (Dg env x) K:=by
 cases x with
 | t n=>
   show @Bool.rec (fun _=>Al) none (oF e.2 n K) (Pm e.1 n)=ob (get n env) K;rw[<-he n,UX,BV,Lo,qK]
 | c v=>exact fh v K
def ML (l:List Bq) (env:CX) (K:List V->Al):Al:=@List.rec Bq (fun _=>CX->(List V->Al)->Al) (fun _ K=>K []) (fun x _ ih env K=>B3 x env fun v=>ih env fun vs=>K (v::vs)) l env K
def By {e:CX} {env:Env} (he:Jn e env): ∀(l:List Bq) (K:List V->Al),ML l e K=ob (PV env l) K
 | [],K=>rfl
 | x ::r,K=>by
   show(B3 x e fun v=>ML r e fun vs=>K (v::vs))=_;rw[BI he];simp only[PV];cases Dg env x with
   | none=>rfl
   | some v=>
     simp only[ob];rw[By he r];cases PV env r<;>rfl
def Yi (x:Option Bq) (e:CX) (K:Option V->Al):Al:=@Option.rec Bq (fun _=>CX->(Option V->Al)->Al) (fun _ K=>K none) (fun x e K=>B3 x e fun v=>K (some v)) x e K
def CA {e:CX} {env:Env} (he:Jn e env) (x:Option Bq) (K:Option V->Al):Yi x e K=ob (Li env x) K:=by
 cases x with
 | none=>rfl
 | some x=>
   show(B3 x e fun v=>K (some v))=_;rw[BI he];simp only[Li];cases Dg env x<;>rfl
def AAN (k:IntKind):Nat:=@IntKind.rec (fun _=>Nat) 0 1 2 3 4 5 6 7 k
def Nu (a b:IntKind):Bool:=Nat.beq (AAN a) (AAN b)
def qc (a b:IntKind):Nu a b=decide (a=b):=by cases a<;>cases b<;>rfl
def AAW (a b:Int):Int:=@Int.rec (fun _=>Int->Int) (fun m b=>@Int.rec (fun _=>Nat->Int) (fun n m=>Int.ofNat (Nat.add m n)) (fun n m=>Int.ofNat m+Int.negSucc n) b m) (fun m b=>Int.negSucc m+b) a b
def rQ (a b:Int):AAW a b=a+b:=by cases a<;>cases b<;>rfl
def AAD (a b:Int):Int:=@Int.rec (fun _=>Int->Int) (fun m b=>@Int.rec (fun _=>Nat->Int) (fun n m=>@Bool.rec (fun _=>Int) (Int.negSucc (Nat.sub n (Nat.succ m))) (Int.ofNat (Nat.sub m n)) (Nat.ble n m)) (fun n m=>Int.ofNat m - Int.negSucc n) b m) (fun m b=>Int.negSucc m - b) a b
def oX (a b:Int):AAD a b=a - b:=by
 cases a with
 | negSucc m=>rfl
 | ofNat m=>
   cases b with
   | negSucc n=>rfl
   | ofNat n=>
     show @Bool.rec (fun _=>Int) (Int.negSucc (n - (m+1))) (Int.ofNat (m - n)) (Nat.ble n m)=_;cases h:Nat.ble n m with
     | true=>
       have:=Nat.le_of_ble_eq_true h;show Int.ofNat (m - n)=(m:Int) - (n:Int);simp only[Int.ofNat_eq_natCast];omega
     | false=>
       have: ¬n<=m:=fun h'=>by rw[Nat.ble_eq_true_of_le h']at h;cases h
       show Int.negSucc (n - (m+1))=(m:Int) - (n:Int);omega
def gJ (a b:Int):Bool:=@Int.rec (fun _=>Int->Bool) (fun m b=>@Int.rec (fun _=>Nat->Bool) (fun n m=>Nat.ble (Nat.succ m) n) (fun _ _=>false) b m) (fun m b=>@Int.rec (fun _=>Nat->Bool) (fun _ _=>true) (fun n m=>Nat.ble (Nat.succ n) m) b m) a b
def Uh (a b:Int):gJ a b=Nn a b:=by cases a<;>cases b<;>rfl
def eqI (a b:Int):Bool:=@Int.rec (fun _=>Int->Bool) (fun m b=>@Int.rec (fun _=>Nat->Bool) (fun n m=>Nat.beq m n) (fun _ _=>false) b m) (fun m b=>@Int.rec (fun _=>Nat->Bool) (fun _ _=>false) (fun n m=>Nat.beq m n) b m) a b
def vJ (a b:Int):eqI a b=dD a b:=by cases a<;>cases b<;>rfl
def US (b:Bool):Bool:=@Bool.rec (fun _=>Bool) true false b
def pR (b:Bool):US b= !b:=by cases b<;>rfl
def gQ (a:Int):Nat:=@Int.rec (fun _=>Nat) (fun n=>n) (fun _=>0) a
def Qg (a:Int):gQ a=a.toNat:=by cases a<;>rfl
def aI (k:IntKind) (n:Int):Int:=@IntKind.rec (fun _=>Int->Int) (fun n=>IntKind.i8.wrap n) (fun n=>IntKind.i16.wrap n) (fun n=>IntKind.i32.wrap n)
 (fun n=>@Int.rec (fun _=>Int) (fun m=>@Bool.rec (fun _=>Int) (IntKind.i64.wrap (Int.ofNat m)) (Int.ofNat m) (Nat.ble m 9223372036854775807)) (fun m=>@Bool.rec (fun _=>Int) (IntKind.i64.wrap (Int.negSucc m)) (Int.negSucc m) (Nat.ble m 9223372036854775807)) n)
 (fun n=>IntKind.u8.wrap n) (fun n=>IntKind.u16.wrap n) (fun n=>IntKind.u32.wrap n)
 (fun n=>@Int.rec (fun _=>Int) (fun m=>@Bool.rec (fun _=>Int) (IntKind.u64.wrap (Int.ofNat m)) (Int.ofNat m) (Nat.ble m 18446744073709551615)) (fun m=>IntKind.u64.wrap (Int.negSucc m)) n) k n
def ko (k:IntKind) (n:Int):aI k n=k.wrap n:=by
 cases k<;>try rfl
 .cases n with
  | ofNat m=>
    have:=J9 .i64 (.ofNat m);simp only[JO]at this;rw[<-this];show @Bool.rec (fun _=>Int) _ _ _=_;cases Nat.ble m 9223372036854775807<;>rfl
  | negSucc m=>
    show @Bool.rec (fun _=>Int) (IntKind.i64.wrap (Int.negSucc m)) (Int.negSucc m) (Nat.ble m 9223372036854775807)=_;cases h:Nat.ble m 9223372036854775807 with
    | false=>rfl
    | true=>
      have:=Nat.le_of_ble_eq_true h;show Int.negSucc m=_;exact(wrap64 (by omega) (by omega)).symm
 .cases n with
  | ofNat m=>
    have:=J9 .u64 (.ofNat m);simp only[JO]at this;rw[<-this];show @Bool.rec (fun _=>Int) _ _ _=_;cases Nat.ble m 18446744073709551615<;>rfl
  | negSucc m=>rfl
def AAE (k:IntKind) (a b:Int):Int:=@Int.rec (fun _=>Int->IntKind->Int) (fun m b _=>Int.ofNat (Nat.shiftRight m (Nat.min (gQ b) k.bits))) (fun m b k=>(Int.negSucc m).fdiv (2 ^ (min b.toNat k.bits))) a b k
def oe (k:IntKind) (a b:Int):AAE k a b=a.fdiv (2 ^ (min b.toNat k.bits)):=by
 cases a with
 | negSucc m=>rfl
 | ofNat m=>
   show Int.ofNat (m >>> (min (gQ b) k.bits))=_;rw[Qg,Nat.shiftRight_eq_div_pow];have:(2:Int) ^ (min b.toNat k.bits)=((2 ^ (min b.toNat k.bits):Nat):Int):=by simp
   rw[this];exact(Int.ofNat_fdiv _ _)
def AAF (k:IntKind) (a b:Int):Int:=@Int.rec (fun _=>Int->IntKind->Int) (fun m b _=>Int.ofNat (Nat.shiftLeft m (Nat.min (gQ b) k.bits))) (fun m b k=>(Int.negSucc m)*(2 ^ (min b.toNat k.bits))) a b k
def og (k:IntKind) (a b:Int):AAF k a b=a*(2 ^ (min b.toNat k.bits)):=by
 cases a with
 | negSucc m=>rfl
 | ofNat m=>
   show Int.ofNat (m <<< (min (gQ b) k.bits))=_;rw[Qg,Nat.shiftLeft_eq];simp
def asI (v:V) (K:IntKind->Int->Al):Al:=@V.rec (fun _=>(IntKind->Int->Al)->Al) (fun _=>Unit) (fun _=>Unit) (fun _ K=>none) (fun k n K=>K k n) (fun _ K=>none) (fun K=>none) (fun _ _ K=>none) (fun _ _ K=>none) (fun _ _ _ K=>none) (fun _ _ _ K=>none) (fun _ _ _ _ K=>none) (fun _ _ _ _ K=>none) (fun _ K=>none) (fun K=>none) (fun _ _ _ _ _ K=>none) (fun K=>none) (fun _ _ _ K=>none) (fun K=>none) (fun _ _ K=>none) (fun _ _ K=>none) (fun K=>none) () (fun _ _ _ _=>()) () (fun _ _ _ _=>()) v K
def isI:V->Option (IntKind×Int)| .i k n=>some (k,n)|_=>none
def ZF (v:V) (K:IntKind->Int->Al):asI v K=ob (isI v) fun p=>K p.1 p.2:=by cases v<;>rfl
def oL (op:BinOp) (vx vy:V) (K:V->Al):Al:=asI vx fun ka a=>asI vy fun kb b=>@BinOp.rec (fun _=>IntKind->Int->IntKind->Int->(V->Al)->Al) (fun ka a kb b K=>@Bool.rec (fun _=>Al) none (K (.i ka (aI ka (AAW a b)))) (Nu ka kb)) (fun ka a kb b K=>@Bool.rec (fun _=>Al) none (K (.i ka (aI ka (AAD a b)))) (Nu ka kb)) (fun ka a kb b K=>ob (WG .mul (.i ka a) (.i kb b)) K) (fun ka a kb b K=>ob (WG .quo (.i ka a) (.i kb b)) K) (fun ka a kb b K=>ob (WG .rem (.i ka a) (.i kb b)) K) (fun ka a kb b K=>@Bool.rec (fun _=>Al) none (K (.i ka (Qf .and ka a b))) (Nu ka kb)) (fun ka a kb b K=>@Bool.rec (fun _=>Al) none (K (.i ka (Qf .or ka a b))) (Nu ka kb)) (fun ka a kb b K=>@Bool.rec (fun _=>Al) none (K (.i ka (Qf .xor ka a b))) (Nu ka kb)) (fun ka a kb b K=>@Bool.rec (fun _=>Al) none (K (.i ka (aI ka (AAF ka a b)))) (US (gJ b 0))) (fun ka a kb b K=>@Bool.rec (fun _=>Al) none (K (.i ka (AAE ka a b))) (US (gJ b 0))) (fun ka a kb b K=>@Bool.rec (fun _=>Al) none (K (.i ka (Qf .andNot ka a b))) (Nu ka kb)) (fun ka a kb b K=>@Bool.rec (fun _=>Al) none (K (.b (eqI a b))) (Nu ka kb)) (fun ka a kb b K=>@Bool.rec (fun _=>Al) none (K (.b (US (eqI a b)))) (Nu ka kb)) (fun ka a kb b K=>@Bool.rec (fun _=>Al) none (K (.b (gJ a b))) (Nu ka kb)) (fun ka a kb b K=>@Bool.rec (fun _=>Al) none (K (.b (US (gJ b a)))) (Nu ka kb)) (fun ka a kb b K=>@Bool.rec (fun _=>Al) none (K (.b (gJ b a))) (Nu ka kb)) (fun ka a kb b K=>@Bool.rec (fun _=>Al) none (K (.b (US (gJ a b)))) (Nu ka kb)) op ka a kb b K
def rD (op:BinOp) (vx vy:V) (K:V->Al):oL op vx vy K=ob (WG op vx vy) K:=by
 unfold oL;rw[ZF];cases vx<;>first|rfl|skip
 rename_i ka a;simp only[isI,ob];rw[ZF];cases vy<;>first|(cases op<;>rfl)|skip
 rename_i kb b;simp only[isI,ob];cases op<;>first|rfl|skip
 all_goals
  simp only[WG];simp only[BV,qc,ko,rQ,oX,vJ,Uh,pR,og,oe,J9,QG,ob]
  first
   | (cases decide (ka=kb)<;>rfl)
   | (cases Nn b 0<;>rfl)
def dO {α:Type} (t:Tr α) (k:Nat):Option α:=@Tr.rec α (fun _=>Nat->Option α) (fun _=>none) (fun o _ _ ihl ihr k=>@Nat.rec (fun _=>Option α) o (fun j _=>@Bool.rec (fun _=>Option α) (ihr (Nat.div j 2)) (ihl (Nat.div j 2)) (Nat.beq (Nat.mod j 2) 0)) k) t k
def VQ {α:Type} (t:Tr α): ∀k:Nat,dO t k=t.get k:=by
 induction t with
 | leaf=>intro k;rfl
 | node o l r ihl ihr=>
   intro k;cases k with
   | zero=>rfl
   | succ j=>
     show @Bool.rec (fun _=>Option α) (dO r (j / 2)) (dO l (j / 2)) (Nat.beq (j % 2) 0)=bif Nat.beq (j % 2) 0 then l.get (j / 2)else r.get (j / 2);rw[ihl,ihr];cases Nat.beq (j % 2) 0<;>rfl
def UQ {α β:Type} (x:Option α) (d:Nat) (t:Tr α) (k:Nat) (K:Tr α->β):β:=
 @Nat.rec (fun _=>Tr α->Nat->(Tr α->β)->β) (fun t _ K=>K t)
  (fun _ ih t k K=>@Tr.rec α (fun _=>Nat->(Tr α->β)->β)
   (fun k K=>@Nat.rec (fun _=>β) (K (.node x .leaf .leaf)) (fun j _=>@Bool.rec (fun _=>β) (ih .leaf (Nat.div j 2) fun r=>K (.node none .leaf r)) (ih .leaf (Nat.div j 2) fun l=>K (.node none l .leaf)) (Nat.beq (Nat.mod j 2) 0)) k)
   (fun o l r _ _ k K=>@Nat.rec (fun _=>β) (K (.node x l r)) (fun j _=>@Bool.rec (fun _=>β) (ih r (Nat.div j 2) fun r=>K (.node o l r)) (ih l (Nat.div j 2) fun l=>K (.node o l r)) (Nat.beq (Nat.mod j 2) 0)) k) t k K) d t k K
def HP {α β:Type} (x:Option α): ∀(d:Nat) (t:Tr α) (k:Nat) (K:Tr α->β),UQ x d t k K=Tr.put x d t k K
 | 0,t,k,K=>rfl
 | d+1,.leaf,0,K=>rfl
 | d+1,.node _ _ _,0,K=>rfl
 | d+1,.leaf,j+1,K=>by
   show @Bool.rec (fun _=>β) (UQ x d .leaf (j / 2) fun r=>K (.node none .leaf r)) (UQ x d .leaf (j / 2) fun l=>K (.node none l .leaf)) (Nat.beq (j % 2) 0)=bif Nat.beq (j % 2) 0 then _ else _;rw[HP x d,HP x d,BV]
 | d+1,.node o l r,j+1,K=>by
   show @Bool.rec (fun _=>β) (UQ x d r (j / 2) fun r=>K (.node o l r)) (UQ x d l (j / 2) fun l=>K (.node o l r)) (Nat.beq (j % 2) 0)=bif Nat.beq (j % 2) 0 then _ else _;rw[HP x d,HP x d,BV]
def gk (s:St) (o:EO) (K:Nat->St->Al):Al:=@Nat.rec (fun _=>Al) (UQ (some o) BD s.t 0 fun t=>K 0 ⟨1,t⟩) (fun n _=>@Bool.rec (fun _=>Al) none (UQ (some o) BD s.t (Nat.succ n) fun t=>K (Nat.succ n) ⟨Nat.succ (Nat.succ n),t⟩) (Nat.ble (Nat.succ n) Nt)) s.nx
def pW {γ:Type} (s:St) (o:EO) (f:Nat->St->Option γ) (K:γ->Al):ob (s.new o f) K=gk s o fun i s'=>ob (f i s') K:=by
 obtain⟨n,t⟩:=s;cases n with
 | zero=>
   unfold gk;simp only[St.new];rw[HP,Tr.put_eq,Tr.put_eq];rfl
 | succ n=>
   unfold gk;simp only[St.new];rw[HP,Tr.put_eq,Tr.put_eq,BV,Lo]
def AAj (o:EO) (K:List V->Al):Al:=@EO.rec (fun _=>(List V->Al)->Al) (fun vs K=>K vs) (fun _ _ _=>none) (fun _ _=>none) (fun _ _ _ _ _ _=>none) o K
def uK (o:EO) (K:Nat->List (List V)->Al):Al:=@EO.rec (fun _=>(Nat->List (List V)->Al)->Al) (fun _ _=>none) (fun sz es K=>K sz es) (fun _ _=>none) (fun _ _ _ _ _ _=>none) o K
def obQ {α:Type} (o:Option α) (K:α->Al):Al:=@Option.rec α (fun _=>(α->Al)->Al) (fun _=>none) (fun a K=>K a) o K
def jE {α:Type} (o:Option α) (K:α->Al):obQ o K=ob o K:=by cases o<;>rfl
def aR (s:St) (n:Nat) (K:List V->Al):Al:=obQ (dO s.t n) fun o=>AAj o K
def Un (s:St) (n:Nat) (K:Nat->List (List V)->Al):Al:=obQ (dO s.t n) fun o=>uK o K
def XS (s:St) (n:Nat) (K:List V->Al):aR s n K=match s.t.get n with|some (.cs vs)=>K vs|_=>none:=by
 unfold aR;rw[jE,VQ];cases s.t.get n with
 | none=>rfl
 | some o=>cases o<;>rfl
def Tm (s:St) (n:Nat) (K:Nat->List (List V)->Al):Un s n K=match s.t.get n with|some (.arr sz es)=>K sz es|_=>none:=by
 unfold Un;rw[jE,VQ];cases s.t.get n with
 | none=>rfl
 | some o=>cases o<;>rfl
def Yo (agg:Option Nat) (cs:List V) (off:Nat) (K:V->Al):Al:=@Option.rec Nat (fun _=>List V->Nat->(V->Al)->Al) (fun cs off K=>UR cs off K)
 (fun n cs off K=>@Bool.rec (fun _=>Al) (@Bool.rec (fun _=>Al) none (K (.a (aJ (Wh cs off) n))) (Nat.ble (Nat.add off n) (Gj cs))) (K (.a cs)) (@Bool.rec (fun _=>Bool) false (Nat.beq n (Gj cs)) (Nat.beq off 0))) agg cs off K
def P7 (agg:Option Nat) (cs:List V) (off:Nat) (K:V->Al):Yo agg cs off K=ob (WB agg cs off) K:=by
 cases agg with
 | none=>exact Md cs off K
 | some n=>
   show @Bool.rec (fun _=>Al) (@Bool.rec (fun _=>Al) none (K (.a (aJ (Wh cs off) n))) (Nat.ble (off+n) (Gj cs))) (K (.a cs)) (@Bool.rec (fun _=>Bool) false (Nat.beq n (Gj cs)) (Nat.beq off 0))=_;simp only[WB];rw[k9,RJ,Fx,Lo];cases h1:Nat.beq off 0 with
   | false=>exact BV _ _ _
   | true=>
     cases h2:Nat.beq n cs.length with
     | false=>exact BV _ _ _
     | true=>
       have:=C7 h1;subst this;have:=C7 h2;subst this;show K (.a cs)=_;rw[Nat.ble_eq_true_of_le (by omega)];simp[ob]
def iK (s:St) (agg:Option Nat) (x:V) (K:V->Al):Al:=@V.rec (fun _=>St->Option Nat->(V->Al)->Al) (fun _=>Unit) (fun _=>Unit) (fun _ s agg K=>none) (fun _ _ s agg K=>none) (fun _ s agg K=>none) (fun s agg K=>none) (fun n off s agg K=>aR s n fun vs=>Yo agg vs off K) (fun cs _ s agg K=>Yo agg cs 0 K) (fun _ _ _ s agg K=>none) (fun _ _ _ s agg K=>none) (fun _ _ _ _ s agg K=>none) (fun n sz i off s agg K=>Un s n fun sz1 es=>@Bool.rec (fun _=>Al) none (UR es i fun e=>Yo agg e off K) (Nat.beq sz sz1)) (fun _ s agg K=>none) (fun s agg K=>none) (fun _ _ _ _ _ s agg K=>none) (fun s agg K=>none) (fun _ _ _ s agg K=>none) (fun s agg K=>none) (fun _ _ s agg K=>none) (fun _ _ s agg K=>none) (fun s agg K=>none) () (fun _ _ _ _=>()) () (fun _ _ _ _=>()) x s agg K
def l7 (s:St) (agg:Option Nat) (x:V) (K:V->Al):iK s agg x K=ob (O4 s agg x) K:=by
 cases x<;>first|rfl|skip
 .rename_i n off
  refine(XS _ _ _).trans ?_;simp only[O4];cases s.t.get n with
  | none=>rfl
  | some o=>cases o<;>first|rfl|exact P7 _ _ _ _
 .exact P7 _ _ _ _
 .rename_i n sz i off
  refine(Tm _ _ _).trans ?_;simp only[O4];cases s.t.get n with
  | none=>rfl
  | some o=>
    cases o<;>first|rfl|skip
    rename_i sz1 es;simp only;rw[BV,Lo,Md];congr 1;cases es[i]? with
    | none=>rfl
    | some e=>exact P7 _ _ _ _
def Hq (v:V) (K:List V->Al):Al:=@V.rec (fun _=>V->(List V->Al)->Al) (fun _=>Unit) (fun _=>Unit) (fun _ v K=>K [v]) (fun _ _ v K=>K [v]) (fun _ v K=>K [v]) (fun v K=>K [v]) (fun _ _ v K=>K [v]) (fun _ _ v K=>K [v]) (fun _ _ _ v K=>K [v]) (fun _ _ _ v K=>K [v]) (fun _ _ _ _ v K=>K [v]) (fun _ _ _ _ v K=>K [v]) (fun _ v K=>K [v]) (fun v K=>K [v]) (fun _ _ _ _ _ v K=>K [v]) (fun v K=>K [v]) (fun _ _ _ v K=>K [v]) (fun v K=>K [v]) (fun cs _ v K=>K cs) (fun _ _ v K=>none) (fun v K=>none) () (fun _ _ _ _=>()) () (fun _ _ _ _=>()) v v K
def Ig (v:V) (K:List V->Al):Hq v K=ob (cellsOf v) K:=by cases v<;>rfl
def AAH (v:V):Bool:=@V.rec (fun _=>Bool) (fun _=>Unit) (fun _=>Unit) (fun _=>true) (fun _ _=>true) (fun _=>true) (true) (fun _ _=>true) (fun _ _=>true) (fun _ _ _=>true) (fun _ _ _=>true) (fun _ _ _ _=>true) (fun _ _ _ _=>true) (fun _=>true) (true) (fun _ _ _ _ _=>true) (true) (fun _ _ _=>true) (true) (fun _ _=>false) (fun _ _=>false) (false) () (fun _ _ _ _=>()) () (fun _ _ _ _=>()) v
def pO:AAH=CR:=funext fun v=>by cases v<;>rfl
def gg (cs:List V) (o:Nat) (vc:List V):List V:=@List.rec V (fun _=>List V->Nat->List V) (fun cs _=>cs) (fun v _ ih cs o=>ih (Yg cs o v) (Nat.succ o)) vc cs o
def Pu: ∀(vc cs:List V) (o:Nat),gg cs o vc=putAt cs o vc
 | [],_,_=>rfl
 | v::r,cs,o=>by
   show gg (Yg cs o v) (o+1) r=_;rw[Pu r,U8];rfl
def n9 (cs:List V) (o:Nat) (vc:List V):List V:=@Bool.rec (fun _=>List V) (gg cs o vc) vc (@Bool.rec (fun _=>Bool) false (Nat.beq (Gj vc) (Gj cs)) (Nat.beq o 0))
def dy: ∀(vc pre cs:List V),vc.length=cs.length->putAt (pre++cs) pre.length vc=pre++vc:=by
 intro vc
 induction vc with
 | nil=>intro pre cs hl;cases cs with
   | nil=>rfl
   | cons _ _=>cases hl
 | cons x vc ih=>
   intro pre cs hl;cases cs with
   | nil=>cases hl
   | cons y cs=>
     simp only[putAt];rw[List.set_append_right _ _ (Hz _),Nat.sub_self,List.set_cons_zero];have:=ih (pre++[x]) cs (by simpa using hl);simp only[Nl,LF,List.length_nil,HG,PR,List.singleton_append]at this;exact this
def bG (cs:List V) (o:Nat) (vc:List V):n9 cs o vc=putAt cs o vc:=by
 unfold n9;cases h1:Nat.beq o 0 with
 | false=>exact Pu vc cs o
 | true=>
   rw[Fx,Fx];cases h2:Nat.beq vc.length cs.length with
   | false=>exact Pu vc cs o
   | true=>
     have:=C7 h1;subst this;exact(dy vc [] cs (C7 h2)).symm
def ir (s:St) (sz:Nat) (a:V) (vc:List V) (K:St->Al):Al:=@V.rec (fun _=>St->Nat->List V->(St->Al)->Al) (fun _=>Unit) (fun _=>Unit) (fun _ s sz vc K=>none) (fun _ _ s sz vc K=>none) (fun _ s sz vc K=>none) (fun s sz vc K=>none) (fun n off s sz vc K=>aR s n fun vs=>@Bool.rec (fun _=>Al) none (UQ (some (.cs (n9 vs off vc))) BD s.t n fun t=>K ⟨s.nx,t⟩) (Nat.ble (Nat.add off sz) (Gj vs))) (fun _ _ s sz vc K=>none) (fun _ _ _ s sz vc K=>none) (fun _ _ _ s sz vc K=>none) (fun _ _ _ _ s sz vc K=>none) (fun n s' i off s sz vc K=>Un s n fun s1 es=>@Bool.rec (fun _=>Al) none (@Bool.rec (fun _=>Al) none (UR es i fun e=>UQ (some (.arr s1 (Yg es i (n9 e off vc)))) BD s.t n fun t=>K ⟨s.nx,t⟩) (Nat.ble (Nat.add off sz) s')) (Nat.beq s' s1)) (fun _ s sz vc K=>none) (fun s sz vc K=>none) (fun _ _ _ _ _ s sz vc K=>none) (fun s sz vc K=>none) (fun _ _ _ s sz vc K=>none) (fun s sz vc K=>none) (fun _ _ s sz vc K=>none) (fun _ _ s sz vc K=>none) (fun s sz vc K=>none) () (fun _ _ _ _=>()) () (fun _ _ _ _=>()) a s sz vc K
def Ub (s:St) (sz:Nat) (a x:V) (K:St->Al):Al:=Hq x fun vc=>@Bool.rec (fun _=>Al) none (@Bool.rec (fun _=>Al) none (ir s sz a vc K) (tc AAH vc)) (Nat.beq (Gj vc) sz)
def db (s : St) (sz:Nat) (a x:V) (K:St->Al):Ub s sz a x K=ob (Qk s sz a x) K:=by
 unfold Ub Qk;rw[Ig];cases cellsOf x with
 | none=>rfl
 | some vc =>
   simp only[ob,Fx,rJ,pO];cases Nat.beq vc.length sz with
   | false=>rfl
   | true=>
     cases vc.all CR with
     | false=>rfl
     | true=>
       simp only[Bool.and_true,cond_true];show ir s sz a vc K=_;cases a<;>first|rfl|skip
       .rename_i n off
        refine(XS _ _ _).trans ?_;simp only;cases s.t.get n with
        | none=>rfl
        | some o=>
          cases o<;>first|rfl|skip
          rename_i vs;simp only;rw[HP,Tr.put_eq,bG,Fx,BV,Tr.put_eq];show(bif Nat.ble (off+sz) vs.length then _ else none)=_;cases Nat.ble (off+sz) vs.length<;>rfl
       .rename_i n s' i off
        refine(Tm _ _ _).trans ?_;simp only;cases s.t.get n with
        | none=>rfl
        | some o=>
          cases o<;>first|rfl|skip
          rename_i s1 es;simp only;rw[BV,BV,Md];show(bif Nat.beq s' s1 then(bif Nat.ble (off+sz) s' then _ else none)else none)=_;cases Nat.beq s' s1<;>cases Nat.ble (off+sz) s'<;>try rfl
          simp only[cond_true,Bool.and_true];cases es[i]? with
          | none=>rfl
          | some e=>
            simp only[ob];rw[HP,Tr.put_eq,bG,U8,Tr.put_eq]
def Y4 (off:Nat) (x:V) (K:V->Al):Al:=@V.rec (fun _=>Nat->(V->Al)->Al) (fun _=>Unit) (fun _=>Unit) (fun _ off K=>none) (fun _ _ off K=>none) (fun _ off K=>none) (fun off K=>none) (fun n o off K=>K (.p n (Nat.add o off))) (fun cs _ off K=>K (.rp (Wh cs off))) (fun _ _ _ off K=>none) (fun _ _ _ off K=>none) (fun _ _ _ _ off K=>none) (fun n sz i o off K=>K (.pe n sz i (Nat.add o off))) (fun _ off K=>none) (fun off K=>none) (fun _ _ _ _ _ off K=>none) (fun off K=>none) (fun _ _ _ off K=>none) (fun off K=>none) (fun _ _ off K=>none) (fun _ _ off K=>none) (fun off K=>none) () (fun _ _ _ _=>()) () (fun _ _ _ _=>()) x off K
def fP (off:Nat) (x:V) (K:V->Al):Y4 off x K=ob (Uw off x) K:=by
 cases x<;>first|rfl|skip
 show K (.rp (Wh _ off))=_;rw[RJ];rfl
def jU (sz:Nat) (x:V) (j:Int) (K:V->Al):Al:=@V.rec (fun _=>Nat->Int->(V->Al)->Al) (fun _=>Unit) (fun _=>Unit) (fun _ sz j K=>none) (fun _ _ sz j K=>none) (fun _ sz j K=>none) (fun sz j K=>none) (fun _ _ sz j K=>none) (fun _ _ sz j K=>none) (fun es _ _ sz j K=>UR es (gQ j) fun e=>@Bool.rec (fun _=>Al) none (K (.rp e)) (Nat.beq (Gj e) sz)) (fun n len _ sz j K=>@Bool.rec (fun _=>Al) none (K (.pe n sz (gQ j) 0)) (gJ j (Int.ofNat len))) (fun n s off len sz j K=>@Bool.rec (fun _=>Al) none (@Bool.rec (fun _=>Al) none (K (.pe n sz (Nat.add off (gQ j)) 0)) (gJ j (Int.ofNat len))) (Nat.beq s sz)) (fun _ _ _ _ sz j K=>none) (fun _ sz j K=>none) (fun sz j K=>none) (fun _ _ _ _ _ sz j K=>none) (fun sz j K=>none) (fun _ _ _ sz j K=>none) (fun sz j K=>none) (fun _ _ sz j K=>none) (fun _ _ sz j K=>none) (fun sz j K=>none) () (fun _ _ _ _=>()) () (fun _ _ _ _=>()) x sz j K
def Y2 (sz:Nat) (arr:Option Nat) (x i:V) (K:V->Al):Al:=@Option.rec Nat (fun _=>Nat->V->V->(V->Al)->Al) (fun sz x i K=>asI i fun _ j=>@Bool.rec (fun _=>Al) (jU sz x j K) none (gJ j 0)) (fun m sz x i K=>ob (OA sz (some m) x i) K) arr sz x i K
def ep (sz:Nat) (arr:Option Nat) (x i:V) (K:V->Al):Y2 sz arr x i K=ob (OA sz arr x i) K:=by
 cases arr with
 | some m=>rfl
 | none=>
   refine(ZF _ _).trans ?_;cases i<;>first|rfl|skip
   rename_i k j;simp only[isI,ob,OA,QG,Uh];cases Nn j 0 with
   | true=>rfl
   | false=>
     show jU sz x j K=_;cases x<;>first|rfl|skip
     .rename_i es full
      show UR es (gQ j) _=_;rw[Md,Qg];simp only[Bool.not_false,cond_true];cases es[j.toNat]? with
      | none=>rfl
      | some e=>
        simp only[ob,Fx];cases Nat.beq e.length sz<;>rfl
     .rename_i n len cap
      show @Bool.rec (fun _=>Al) none (K (.pe n sz (gQ j) 0)) (gJ j (Int.ofNat len))=_;rw[Qg,Uh];simp only[Bool.not_false,cond_true];have:Nn j (Int.ofNat len)=Nn j (len:Int):=rfl;rw[this];cases Nn j (len:Int)<;>rfl
     .rename_i n s off len
      show @Bool.rec (fun _=>Al) none (@Bool.rec (fun _=>Al) none (K (.pe n sz (off+gQ j) 0)) (gJ j (Int.ofNat len))) (Nat.beq s sz)=_;rw[Qg,Uh];simp only[Bool.not_false,cond_true];have:Nn j (Int.ofNat len)=Nn j (len:Int):=rfl;rw[this];cases Nat.beq s sz<;>cases Nn j (len:Int)<;>rfl
def tP (x:V) (K:V->Al):Al:=@V.rec (fun _=>(V->Al)->Al) (fun _=>Unit) (fun _=>Unit) (fun _ K=>none) (fun _ _ K=>none) (fun _ K=>none) (fun K=>none) (fun _ _ K=>none) (fun _ _ K=>none) (fun es _ _ K=>K (.i .i64 (Int.ofNat (Gj es)))) (fun _ len _ K=>@Bool.rec (fun _=>Al) none (K (.i .i64 (Int.ofNat len))) (Nat.ble len Aa)) (fun _ _ _ len K=>@Bool.rec (fun _=>Al) none (K (.i .i64 (Int.ofNat len))) (Nat.ble len Aa)) (fun _ _ _ _ K=>none) (fun _ K=>none) (fun K=>none) (fun _ _ _ _ _ K=>none) (fun K=>none) (fun _ _ _ K=>none) (fun K=>none) (fun _ _ K=>none) (fun _ _ K=>none) (fun K=>none) () (fun _ _ _ _=>()) () (fun _ _ _ _=>()) x K
def pd (x:V) (K:V->Al):tP x K=ob (dR x) K:=by
 cases x<;>first|rfl|skip
 .show K (.i .i64 (Int.ofNat (Gj _)))=_
  rw[Fx];rfl
 .show @Bool.rec (fun _=>Al) none _ (Nat.ble _ Aa)=_
  rw[BV];simp only[dR];rw[Lo];rfl
 .show @Bool.rec (fun _=>Al) none _ (Nat.ble _ Aa)=_
  rw[BV];simp only[dR];rw[Lo];rfl
def Yv (x:V) (K:V->Al):Al:=@V.rec (fun _=>V->(V->Al)->Al) (fun _=>Unit) (fun _=>Unit) (fun _ x K=>none) (fun _ _ x K=>none) (fun _ x K=>none) (fun x K=>none) (fun _ _ x K=>K x) (fun _ _ x K=>K x) (fun _ _ _ x K=>none) (fun _ _ _ x K=>none) (fun _ _ _ _ x K=>none) (fun _ _ _ _ x K=>K x) (fun _ x K=>none) (fun x K=>none) (fun _ _ _ _ _ x K=>ob (N9 x) K) (fun x K=>none) (fun _ _ _ x K=>none) (fun x K=>none) (fun _ _ x K=>none) (fun _ _ x K=>none) (fun x K=>none) () (fun _ _ _ _=>()) () (fun _ _ _ _=>()) x x K
def eO (x:V) (K:V->Al):Yv x K=ob (N9 x) K:=by cases x<;>rfl
def asT (v:V) (K:List V->Al):Al:=@V.rec (fun _=>(List V->Al)->Al) (fun _=>Unit) (fun _=>Unit) (fun _ K=>none) (fun _ _ K=>none) (fun _ K=>none) (fun K=>none) (fun _ _ K=>none) (fun _ _ K=>none) (fun _ _ _ K=>none) (fun _ _ _ K=>none) (fun _ _ _ _ K=>none) (fun _ _ _ _ K=>none) (fun _ K=>none) (fun K=>none) (fun _ _ _ _ _ K=>none) (fun K=>none) (fun _ _ _ K=>none) (fun K=>none) (fun _ _ K=>none) (fun vs _ K=>K vs) (fun K=>none) () (fun _ _ _ _=>()) () (fun _ _ _ _=>()) v K
def rU (v:V) (K:Bool->Al):Al:=@V.rec (fun _=>(Bool->Al)->Al) (fun _=>Unit) (fun _=>Unit) (fun x K=>K x) (fun _ _ K=>none) (fun _ K=>none) (fun K=>none) (fun _ _ K=>none) (fun _ _ K=>none) (fun _ _ _ K=>none) (fun _ _ _ K=>none) (fun _ _ _ _ K=>none) (fun _ _ _ _ K=>none) (fun _ K=>none) (fun K=>none) (fun _ _ _ _ _ K=>none) (fun K=>none) (fun _ _ _ K=>none) (fun K=>none) (fun _ _ K=>none) (fun _ _ K=>none) (fun K=>none) () (fun _ _ _ _=>()) () (fun _ _ _ _=>()) v K
def asA (v:V) (K:List V->Al):Al:=@V.rec (fun _=>(List V->Al)->Al) (fun _=>Unit) (fun _=>Unit) (fun _ K=>none) (fun _ _ K=>none) (fun _ K=>none) (fun K=>none) (fun _ _ K=>none) (fun _ _ K=>none) (fun _ _ _ K=>none) (fun _ _ _ K=>none) (fun _ _ _ _ K=>none) (fun _ _ _ _ K=>none) (fun _ K=>none) (fun K=>none) (fun _ _ _ _ _ K=>none) (fun K=>none) (fun _ _ _ K=>none) (fun K=>none) (fun cs _ K=>K cs) (fun _ _ K=>none) (fun K=>none) () (fun _ _ _ _=>()) () (fun _ _ _ _=>()) v K
def Yk (v:V) (K:V->Al):Al:=@V.rec (fun _=>V->(V->Al)->Al) (fun _=>Unit) (fun _=>Unit) (fun x v K=>@Bool.rec (fun _=>Al) (K (.b false)) (K (.b true)) x) (fun k n v K=>@Int.rec (fun _=>Al) (fun m=>@Nat.rec (fun _=>Al) (K (.i k (Int.ofNat 0))) (fun j _=>K (.i k (Int.ofNat (Nat.succ j)))) m) (fun m=>@Nat.rec (fun _=>Al) (K (.i k (Int.negSucc 0))) (fun j _=>K (.i k (Int.negSucc (Nat.succ j)))) m) n) (fun _ v K=>K v) (fun v K=>K v) (fun _ _ v K=>K v) (fun _ _ v K=>K v) (fun _ _ _ v K=>K v) (fun _ _ _ v K=>K v) (fun _ _ _ _ v K=>K v) (fun _ _ _ _ v K=>K v) (fun _ v K=>K v) (fun v K=>K v) (fun _ _ _ _ _ v K=>K v) (fun v K=>K v) (fun _ _ _ v K=>K v) (fun v K=>K v) (fun _ _ v K=>K v) (fun _ _ v K=>K v) (fun v K=>K v) () (fun _ _ _ _=>()) () (fun _ _ _ _=>()) v v K
def bw (v:V) (K:V->Al):Yk v K=K v:=by
 cases v<;>first|rfl|skip
 .rename_i x;cases x<;>rfl
 .rename_i k n
  cases n with
  | ofNat m=>cases m<;>rfl
  | negSucc m=>cases m<;>rfl
def fin (o:Option (R×St)) (k kp:V->St->Al):Al:=match o with
 | some (.ret v,s)=>k v s
 | some (.Bk v,s)=>kp v s
 | none=>none
def CW (o:Option (R×St)) (k kp:V->St->Al):Al:=@Option.rec (R×St) (fun _=>(V->St->Al)->(V->St->Al)->Al) (fun _ _=>none) (fun p k kp=>@R.rec (fun _=>St->(V->St->Al)->(V->St->Al)->Al) (fun v s k _=>k v s) (fun v s _ kp=>kp v s) p.1 p.2 k kp) o k kp
def Bx (o:Option (R×St)) (k kp:V->St->Al):CW o k kp=fin o k kp:=by
 cases o with
 | none=>rfl
 | some p=>
   obtain⟨r,s⟩:=p;cases r<;>rfl
def Ho (o:Option V) (s:St) (k kp:V->St->Al):fin (ov o s) k kp=ob o fun v=>k v s:=by cases o<;>rfl
def vI (o:Option St) (k kp:V->St->Al):fin (os o) k kp=ob o fun s=>k (.t []) s:=by cases o<;>rfl
def BZ {α:Type} (o:Option α) (f:α->Option (R×St)) (k kp:V->St->Al):fin (ob o f) k kp=ob o fun a=>fin (f a) k kp:=by cases o<;>rfl
abbrev OK:=CF->CV->CP->CX->St->(V->St->Al)->(V->St->Al)->Al
def Ur (e:CX) (ps:List (Nat×Nat×Bq)) (cs:List V) (K:List V->Al):Al:=@List.rec (Nat×Nat×Bq) (fun _=>List V->(List V->Al)->Al) (fun cs K=>K cs)
 (fun p _ ih cs K=>B3 p.2.2 e fun v=>Hq v fun vc=>@Bool.rec (fun _=>Al) none (@Bool.rec (fun _=>Al) none (ih (gg cs p.1 vc) K) (Nat.ble (Nat.add p.1 p.2.1) (Gj cs))) (Nat.beq (Gj vc) p.2.1)) ps cs K
def Tv {e : CX} {env:Env} (he:Jn e env): ∀(ps:List (Nat×Nat×Bq)) (cs:List V) (K:List V->Al),Ur e ps cs K=ob (OB env cs ps) K
 | [],cs,K=>rfl
 | (off, sz,x)::r,cs,K=>by
   show(B3 x e fun v=>Hq v fun vc=>@Bool.rec (fun _=>Al) none (@Bool.rec (fun _=>Al) none (Ur e r (gg cs off vc) K) (Nat.ble (off+sz) (Gj cs))) (Nat.beq (Gj vc) sz))=_;rw[BI he];simp only[OB];cases Dg env x with
   | none=>rfl
   | some v=>
     simp only[ob];rw[Ig];cases cellsOf v with
     | none=>rfl
     | some vc=>
       simp only[ob,Fx,Pu];cases Nat.beq vc.length sz with
       | false=>rfl
       | true=>
         cases Nat.ble (off+sz) cs.length with
         | false=>rfl
         | true=>exact Tv he r _ K
def Us (e:CX) (sz:Nat) (ps:List (Nat×Bq)) (es:List (List V)) (K:List (List V)->Al):Al:=@List.rec (Nat×Bq) (fun _=>List (List V)->(List (List V)->Al)->Al) (fun es K=>K es)
 (fun p _ ih es K=>B3 p.2 e fun v=>Hq v fun vc=>@Bool.rec (fun _=>Al) none (@Bool.rec (fun _=>Al) none (ih (Yg es p.1 vc) K) (Nat.ble (Nat.succ p.1) (Gj es))) (Nat.beq (Gj vc) sz)) ps es K
def Tx {e : CX} {env:Env} (he:Jn e env) (sz:Nat): ∀(ps:List (Nat×Bq)) (es:List (List V)) (K:List (List V)->Al),Us e sz ps es K=ob (OC env sz es ps) K
 | [],es,K=>rfl
 | (i, x)::r,es,K=>by
   show(B3 x e fun v=>Hq v fun vc=>@Bool.rec (fun _=>Al) none (@Bool.rec (fun _=>Al) none (Us e sz r (Yg es i vc) K) (Nat.ble (Nat.succ i) (Gj es))) (Nat.beq (Gj vc) sz))=_;rw[BI he];simp only[OC];cases Dg env x with
   | none=>rfl
   | some v=>
     simp only[ob];rw[Ig];cases cellsOf v with
     | none=>rfl
     | some vc=>
       simp only[ob,Fx,U8,Nat.blt,Nat.succ_eq_add_one];cases Nat.beq vc.length sz with
       | false=>rfl
       | true=>
         cases Nat.ble (i+1) es.length with
         | false=>rfl
         | true=>exact Tx he sz r _ K
def opK (o:GO):OK:=@GO.rec (fun _=>OK)
 (fun x cf cv cp env s kk kp=>B3 x env fun v=>kk v s)
 (fun x cf cv cp env s kk kp=>B3 x env fun v=>kk v s)
 (fun c a b cf cv cp env s kk kp=>B3 c env fun vc=>B3 a env fun va=>B3 b env fun vb=>rU vc fun t=>@Bool.rec (fun _=>Al) (kk vb s) (kk va s) t)
 (fun op x y cf cv cp env s kk kp=>B3 x env fun vx=>B3 y env fun vy=>oL op vx vy fun v=>kk v s)
 (fun neg x y cf cv cp env s kk kp=>B3 x env fun vx=>B3 y env fun vy=>CW (match vx,vy with| .b p,.b q=>some (.ret (.b (bif neg then p != q else p==q)),s)|_,_=>none) kk kp)
 (fun len neg x y cf cv cp env s kk kp=>B3 x env fun vx=>B3 y env fun vy=>CW (ov (gx len neg vx vy) s) kk kp)
 (fun kind neg x cf cv cp env s kk kp=>B3 x env fun vx=>CW (ov (gw kind neg vx) s) kk kp)
 (fun x cf cv cp env s kk kp=>B3 x env fun vx=>rU vx fun p=>kk (.b (US p)) s)
 (fun xor x cf cv cp env s kk kp=>B3 x env fun vx=>CW (match vx with| .i ka a=>some (.ret (.i ka (bif xor then bits .xor ka (bif ka.signed then -1 else ka.max) a else ka.wrap (0 - a))),s)|_=>none) kk kp)
 (fun k x cf cv cp env s kk kp=>B3 x env fun vx=>CW (match vx with| .i _ a=>some (.ret (.i k (JO k a)),s)|_=>none) kk kp)
 (fun x cf cv cp env s kk kp=>B3 x env fun vx=>Hq vx fun cs=>gk s (.cs cs) fun i s=>kk (.p i 0) s)
 (fun x cf cv cp env s kk kp=>B3 x env fun vx=>Hq vx fun cs=>kk (.rp cs) s)
 (fun sz bytes x y cf cv cp env s kk kp=>B3 x env fun vx=>B3 y env fun vy=>CW (ov (Wg bytes s sz vx vy) s) kk kp)
 (fun zero cf cv cp env s kk kp=>CW (bif CM zero then s.new (.cs zero) fun i s=>some (.ret (.p i 0),s)else none) kk kp)
 (fun zero parts cf cv cp env s kk kp=>@Bool.rec (fun _=>Al) none (Ur env parts zero fun cs=>kk (.a cs) s) (CM zero))
 (fun sz len zero parts cf cv cp env s kk kp=>@Bool.rec (fun _=>Al) none (Us env (Gj zero) parts (List.replicate len zero) fun es=>kk (.l es true) s) (CM zero))
 (fun agg x cf cv cp env s kk kp=>B3 x env fun vx=>iK s agg vx fun v=>kk v s)
 (fun sz a x cf cv cp env s kk kp=>B3 a env fun va=>B3 x env fun vx=>Ub s sz va vx fun s=>kk (.t []) s)
 (fun off x cf cv cp env s kk kp=>B3 x env fun vx=>Y4 off vx fun v=>kk v s)
 (fun agg off x cf cv cp env s kk kp=>B3 x env fun vx=>asA vx fun cs=>Yo agg cs off fun v=>kk v s)
 (fun sz arr x i cf cv cp env s kk kp=>B3 x env fun vx=>B3 i env fun vi=>Y2 sz arr vx vi fun v=>kk v s)
 (fun len sz agg x i cf cv cp env s kk kp=>B3 x env fun vx=>B3 i env fun vi=>CW (ov (Qm len sz agg vx vi) s) kk kp)
 (fun sz x lo hi mx cf cv cp env s kk kp=>B3 x env fun vx=>Yi lo env fun l=>Yi hi env fun h=>Yi mx env fun m=>CW (dA (Ql s sz vx l h m)) kk kp)
 (fun x cf cv cp env s kk kp=>B3 x env fun vx=>tP vx fun v=>kk v s)
 (fun x cf cv cp env s kk kp=>B3 x env fun vx=>CW (ov (We s vx) s) kk kp)
 (fun x cf cv cp env s kk kp=>B3 x env fun vx=>CW (ov (gu s vx) s) kk kp)
 (fun x i cf cv cp env s kk kp=>B3 x env fun vx=>B3 i env fun vi=>CW (ov (Wd vx vi) s) kk kp)
 (fun sz bytes x y cf cv cp env s kk kp=>B3 x env fun vx=>B3 y env fun vy=>CW (dA (Mn bytes s sz vx vy)) kk kp)
 (fun sz x y cf cv cp env s kk kp=>B3 x env fun vx=>B3 y env fun vy=>CW (dA (Wf s sz vx vy)) kk kp)
 (fun x y cf cv cp env s kk kp=>B3 x env fun vx=>B3 y env fun vy=>CW (match vx,vy with| .i ka a,.i kb b=>bif decide (ka=kb)then some (.ret (.i ka (bif Nn a b then b else a)),s)else none|_,_=>none) kk kp)
 (fun x y cf cv cp env s kk kp=>B3 x env fun vx=>B3 y env fun vy=>CW (match vx,vy with| .i ka a,.i kb b=>bif decide (ka=kb)then some (.ret (.i ka (bif Nn b a then b else a)),s)else none|_,_=>none) kk kp)
 (fun i x cf cv cp env s kk kp=>B3 x env fun vx=>asT vx fun vs=>UR vs i fun v=>kk v s)
 (fun x cf cv cp env s kk kp=>B3 x env fun vx=>Yv vx fun v=>kk v s)
 (fun f first cap cf cv cp env s kk kp=>ML first env fun vf=>ML cap env fun vc=>@Bool.rec (fun _=>Al) none (kk (.f f vf vc) s) (N2 f))
 (fun cf cv cp env s kk kp=>CW (s.new (.map []) fun i s=>some (.ret (.m i),s)) kk kp)
 (fun sz bytes zero len cap cf cv cp env s kk kp=>B3 len env fun vx=>B3 cap env fun vy=>CW (dA (KF s sz zero vx vy)) kk kp)
 (fun ks zero ok m k cf cv cp env s kk kp=>B3 m env fun vm=>B3 k env fun vk=>CW (ov (Ml s ks zero ok vm vk) s) kk kp)
 (fun ks m k v cf cv cp env s kk kp=>B3 m env fun vm=>B3 k env fun vk=>B3 v env fun vx=>CW (os (Mk s ks vm vk vx)) kk kp)
 (fun t x cf cv cp env s kk kp=>B3 x env fun vx=>kk (.FV t vx) s)
 (fun t zero ok x cf cv cp env s kk kp=>B3 x env fun vx=>CW (ov (gr t zero ok vx) s) kk kp)
 (fun x cf cv cp env s kk kp=>B3 x env fun vx=>CW (match vx with| .FV t v=>some (.Bk (.FV t v),s)|_=>none) kk kp)
 (fun f args cf cv cp env s kk kp=>ML args env fun vs=>CW (cf f vs s) kk kp)
 (fun f args cf cv cp env s kk kp=>ML args env fun vs=>CW (ov (cp f vs) s) kk kp)
 (fun x args cf cv cp env s kk kp=>B3 x env fun vx=>ML args env fun vs=>CW (cv vx vs s) kk kp)
 (fun x args cf cv cp env s kk kp=>none)
 (fun tab x args cf cv cp env s kk kp=>B3 x env fun vx=>ML args env fun vs=>CW (match vx with| .FV t v=>ob (look t tab) fun f=>cf f (v::vs) s|_=>none) kk kp) o
def lU {vc va vb:V} {s:St} {kk kp:V->St->Al}:rU vc (fun t=>@Bool.rec (fun _=>Al) (kk vb s) (kk va s) t)=fin (match vc with| .b t=>some (.ret (bif t then va else vb),s)|_=>none) kk kp:=by
 cases vc<;>first|rfl|skip
 rename_i t;cases t<;>rfl
def not_eq {vx:V} {s:St} {kk kp:V->St->Al}:rU vx (fun p=>kk (.b (US p)) s)=fin (match vx with| .b p=>some (.ret (.b (!p)),s)|_=>none) kk kp:=by
 cases vx<;>first|rfl|skip
 rename_i t;cases t<;>rfl
def VU {c:Bool} {x:Option (R×St)} {kk kp:V->St->Al}:fin (bif c then x else none) kk kp=bif c then fin x kk kp else none:=by cases c<;>rfl
def jD {e:CX} {env:Env} (he:Jn e env) (o:GO) (cf:CF) (cv:CV) (cp:CP) (s:St) (kk kp:V->St->Al):opK o cf cv cp e s kk kp=fin (GN cf cv cp o env s) kk kp:=by
 cases o with
 | mv x=>
   show(B3 x e fun v=>kk v s)=_;simp only[BI he,GN,Ho]
 | nf x=>
   show(B3 x e fun v=>kk v s)=_;simp only[BI he,GN,Ho]
 | pick c a b=>
   show(B3 c e fun vc=>B3 a e fun va=>B3 b e fun vb=>rU vc fun t=>@Bool.rec (fun _=>Al) (kk vb s) (kk va s) t)=_;simp only[BI he,GN,BZ,lU (kp:=kp)];rfl
 | bin op x y=>
   show(B3 x e fun vx=>B3 y e fun vy=>oL op vx vy fun v=>kk v s)=_;simp only[BI he,GN,BZ,Ho,rD]
 | nk neg x y=>
   show(B3 x e fun vx=>B3 y e fun vy=>CW (match vx,vy with| .b p,.b q=>some (.ret (.b (bif neg then p != q else p==q)),s)|_,_=>none) kk kp)=_;simp only[BI he,By he,CA he,GN,BZ,Bx]
   try rfl
 | nj len neg x y=>
   show(B3 x e fun vx=>B3 y e fun vy=>CW (ov (gx len neg vx vy) s) kk kp)=_;simp only[BI he,By he,CA he,GN,BZ,Bx]
   try rfl
 | gK kind neg x=>
   show(B3 x e fun vx=>CW (ov (gw kind neg vx) s) kk kp)=_;simp only[BI he,By he,CA he,GN,BZ,Bx]
   try rfl
 | not x=>
   show(B3 x e fun vx=>rU vx fun p=>kk (.b (US p)) s)=_;simp only[BI he,GN,BZ,not_eq (kp:=kp)];rfl
 | neg xor x=>
   show(B3 x e fun vx=>CW (match vx with| .i ka a=>some (.ret (.i ka (bif xor then bits .xor ka (bif ka.signed then -1 else ka.max) a else ka.wrap (0 - a))),s)|_=>none) kk kp)=_;simp only[BI he,By he,CA he,GN,BZ,Bx]
   try rfl
 | conv k x=>
   show(B3 x e fun vx=>CW (match vx with| .i _ a=>some (.ret (.i k (JO k a)),s)|_=>none) kk kp)=_;simp only[BI he,By he,CA he,GN,BZ,Bx]
   try rfl
 | box x=>
   show(B3 x e fun vx=>Hq vx fun cs=>gk s (.cs cs) fun i s=>kk (.p i 0) s)=_;simp only[BI he,GN,BZ,Ig];congr 1;funext vx;congr 1;funext cs;have: ∀o:Option (R×St),fin o kk kp=ob o fun p=>fin (some p) kk kp:=fun o=>by cases o<;>rfl
   rw[this,pW];rfl
 | Pa x=>
   show(B3 x e fun vx=>Hq vx fun cs=>kk (.rp cs) s)=_;simp only[BI he,GN,BZ,Ig];rfl
 | Sl sz bytes x y=>
   show(B3 x e fun vx=>B3 y e fun vy=>CW (ov (Wg bytes s sz vx vy) s) kk kp)=_;simp only[BI he,By he,CA he,GN,BZ,Bx]
   try rfl
 | alloc zero=>
   show(CW (bif CM zero then s.new (.cs zero) fun i s=>some (.ret (.p i 0),s)else none) kk kp)=_;simp only[Bx,GN]
 | build zero parts=>
   show(@Bool.rec (fun _=>Al) none (Ur e parts zero fun cs=>kk (.a cs) s) (CM zero))=_;simp only[GN,VU,BZ,Tv he,BV];rfl
 | Hs sz len zero parts=>
   show(@Bool.rec (fun _=>Al) none (Us e (Gj zero) parts (List.replicate len zero) fun es=>kk (.l es true) s) (CM zero))=_;simp only[GN,VU,BZ,Tx he,BV,Fx];rfl
 | load agg x=>
   show(B3 x e fun vx=>iK s agg vx fun v=>kk v s)=_;simp only[BI he,GN,BZ,Ho,l7]
 | store sz a x=>
   show(B3 a e fun va=>B3 x e fun vx=>Ub s sz va vx fun s=>kk (.t []) s)=_;simp only[BI he,GN,BZ,vI,db]
 | GS off x=>
   show(B3 x e fun vx=>Y4 off vx fun v=>kk v s)=_;simp only[BI he,GN,BZ,Ho,fP]
 | field agg off x=>
   show(B3 x e fun vx=>asA vx fun cs=>Yo agg cs off fun v=>kk v s)=_;simp only[BI he,GN,BZ];congr 1;funext vx;cases vx<;>first|rfl|skip
   show Yo agg _ off _=_;rw[P7,Ho]
 | MQ sz arr x i=>
   show(B3 x e fun vx=>B3 i e fun vi=>Y2 sz arr vx vi fun v=>kk v s)=_;simp only[BI he,GN,BZ,Ho,ep]
 | index len sz agg x i=>
   show(B3 x e fun vx=>B3 i e fun vi=>CW (ov (Qm len sz agg vx vi) s) kk kp)=_;simp only[BI he,By he,CA he,GN,BZ,Bx]
   try rfl
 | slice sz x lo hi mx=>
   show(B3 x e fun vx=>Yi lo e fun l=>Yi hi e fun h=>Yi mx e fun m=>CW (dA (Ql s sz vx l h m)) kk kp)=_;simp only[BI he,By he,CA he,GN,BZ,Bx]
   try rfl
 | len x=>
   show(B3 x e fun vx=>tP vx fun v=>kk v s)=_;simp only[BI he,GN,BZ,Ho,pd]
 | UT x=>
   show(B3 x e fun vx=>CW (ov (We s vx) s) kk kp)=_;simp only[BI he,By he,CA he,GN,BZ,Bx]
   try rfl
 | str x=>
   show(B3 x e fun vx=>CW (ov (gu s vx) s) kk kp)=_;simp only[BI he,By he,CA he,GN,BZ,Bx]
   try rfl
 | Vy x i=>
   show(B3 x e fun vx=>B3 i e fun vi=>CW (ov (Wd vx vi) s) kk kp)=_;simp only[BI he,By he,CA he,GN,BZ,Bx]
   try rfl
 | append sz bytes x y=>
   show(B3 x e fun vx=>B3 y e fun vy=>CW (dA (Mn bytes s sz vx vy)) kk kp)=_;simp only[BI he,By he,CA he,GN,BZ,Bx]
   try rfl
 | copy sz x y=>
   show(B3 x e fun vx=>B3 y e fun vy=>CW (dA (Wf s sz vx vy)) kk kp)=_;simp only[BI he,By he,CA he,GN,BZ,Bx]
   try rfl
 | V1 x y=>
   show(B3 x e fun vx=>B3 y e fun vy=>CW (match vx,vy with| .i ka a,.i kb b=>bif decide (ka=kb)then some (.ret (.i ka (bif Nn a b then b else a)),s)else none|_,_=>none) kk kp)=_;simp only[BI he,By he,CA he,GN,BZ,Bx]
   try rfl
 | V0 x y=>
   show(B3 x e fun vx=>B3 y e fun vy=>CW (match vx,vy with| .i ka a,.i kb b=>bif decide (ka=kb)then some (.ret (.i ka (bif Nn b a then b else a)),s)else none|_,_=>none) kk kp)=_;simp only[BI he,By he,CA he,GN,BZ,Bx]
   try rfl
 | extract i x=>
   show(B3 x e fun vx=>asT vx fun vs=>UR vs i fun v=>kk v s)=_;simp only[BI he,GN,BZ];congr 1;funext vx;cases vx<;>first|rfl|skip
   show UR _ i _=_;rw[Md,Ho]
 | JU x=>
   show(B3 x e fun vx=>Yv vx fun v=>kk v s)=_;simp only[BI he,GN,BZ,Ho,eO]
 | gI f first cap=>
   show(ML first e fun vf=>ML cap e fun vc=>@Bool.rec (fun _=>Al) none (kk (.f f vf vc) s) (N2 f))=_;simp only[By he,GN,VU,BZ,BV];rfl
 | Oz=>
   show(CW (s.new (.map []) fun i s=>some (.ret (.m i),s)) kk kp)=_;simp only[Bx,GN]
 | GZ sz bytes zero len cap=>
   show(B3 len e fun vx=>B3 cap e fun vy=>CW (dA (KF s sz zero vx vy)) kk kp)=_;simp only[BI he,By he,CA he,GN,BZ,Bx]
   try rfl
 | lookup ks zero ok m k=>
   show(B3 m e fun vm=>B3 k e fun vk=>CW (ov (Ml s ks zero ok vm vk) s) kk kp)=_;simp only[BI he,By he,CA he,GN,BZ,Bx]
   try rfl
 | Em ks m k v=>
   show(B3 m e fun vm=>B3 k e fun vk=>B3 v e fun vx=>CW (os (Mk s ks vm vk vx)) kk kp)=_;simp only[BI he,By he,CA he,GN,BZ,Bx]
   try rfl
 | O0 t x=>
   show(B3 x e fun vx=>kk (.FV t vx) s)=_;simp only[BI he,GN,BZ];rfl
 | gF t zero ok x=>
   show(B3 x e fun vx=>CW (ov (gr t zero ok vx) s) kk kp)=_;simp only[BI he,By he,CA he,GN,BZ,Bx]
   try rfl
 | panic x=>
   show(B3 x e fun vx=>CW (match vx with| .FV t v=>some (.Bk (.FV t v),s)|_=>none) kk kp)=_;simp only[BI he,By he,CA he,GN,BZ,Bx]
   try rfl
 | call f args=>
   show(ML args e fun vs=>CW (cf f vs s) kk kp)=_;simp only[BI he,By he,CA he,GN,BZ,Bx]
   try rfl
 | MW f args=>
   show(ML args e fun vs=>CW (ov (cp f vs) s) kk kp)=_;simp only[BI he,By he,CA he,GN,BZ,Bx]
   try rfl
 | J7 x args=>
   show(B3 x e fun vx=>ML args e fun vs=>CW (cv vx vs s) kk kp)=_;simp only[BI he,By he,CA he,GN,BZ,Bx]
   try rfl
 | ZC x args=>
   rfl
 | inv tab x args=>
   show(B3 x e fun vx=>ML args e fun vs=>CW (match vx with| .FV t v=>ob (look t tab) fun f=>cf f (v::vs) s|_=>none) kk kp)=_;simp only[BI he,By he,CA he,GN,BZ,Bx]
   try rfl
def tW (g:Bool) (t:Bool) (y:Al) (n:Al):Al:=@Bool.rec (fun _=>Al) (@Bool.rec (fun _=>Al) y n g) (@Bool.rec (fun _=>Al) n y g) t
def qE (g t:Bool) (y n:Al):tW g t y n=bif t==g then y else n:=by cases g<;>cases t<;>rfl
def AAP (v:V) (g:Bool) (y:Al) (n:Al):Al:=@V.rec (fun _=>Bool->Al->Al->Al) (fun _=>Unit) (fun _=>Unit) (fun t g y n=>tW g t y n) (fun _ _ g y n=>none) (fun _ g y n=>none) (fun g y n=>none) (fun _ _ g y n=>none) (fun _ _ g y n=>none) (fun _ _ _ g y n=>none) (fun _ _ _ g y n=>none) (fun _ _ _ _ g y n=>none) (fun _ _ _ _ g y n=>none) (fun _ g y n=>none) (fun g y n=>none) (fun _ _ _ _ _ g y n=>none) (fun g y n=>none) (fun _ _ _ g y n=>none) (fun g y n=>none) (fun _ _ g y n=>none) (fun vs _ g y n=>@List.rec V (fun _=>Al->Al) (fun n=>n) (fun _ _ _ _=>none) vs n) (fun g y n=>none) () (fun _ _ _ _=>()) () (fun _ _ _ _=>()) v g y n
def grdK (g:Nat×Bool) (o:GO):OK:=fun cf cv cp e s kk kp=>B3 (.t g.1) e fun v=>AAP v g.2 (opK o cf cv cp e s kk kp) (kk (.t []) s)
def Yf (g:Option (Nat×Bool)) (o:GO):OK:=@Option.rec (Nat×Bool) (fun _=>GO->OK) (fun o=>opK o) (fun g o=>grdK g o) g o
def U5 {e:CX} {env:Env} (he:Jn e env) (d:Option Nat) (g:Option (Nat×Bool)) (o:GO) (cf:CF) (cv:CV) (cp:CP) (s:St) (kk kp:V->St->Al):Yf g o cf cv cp e s kk kp=fin (Jk cf cv cp ⟨d,o,g⟩ env s) kk kp:=by
 cases g with
 | none=>exact jD he o cf cv cp s kk kp
 | some g=>
   obtain⟨g,b⟩:=g;show(B3 (.t g) e fun v=>AAP v b (opK o cf cv cp e s kk kp) (kk (.t []) s))=_;rw[BI he,jD he];simp only[Jk,Dg];cases get g env with
   | none=>rfl
   | some v=>
     simp only[ob];cases v<;>first|rfl|skip
     .rename_i t
      show tW b t _ _=_;rw[qE];simp only;cases t==b<;>rfl
     .rename_i vs
      cases vs<;>rfl
def Oy (d:Option Nat) (v:V) (e:CX):CX:=@Option.rec Nat (fun _=>V->CX->CX) (fun _ e=>e) (fun d v e=>⟨Nat.lor e.1 (Nat.shiftLeft 1 d),(d,v)::e.2⟩) d v e
def Ld (M n:Nat):Pm M n=M.testBit n:=by
 have h1:(M >>> n)&&&1=(M >>> n) % 2:=Nat.and_one_is_mod _;have h2:Pm M n=Nat.beq ((M >>> n)&&&1) 1:=rfl;rw[h2,h1,Nat.testBit_eq_decide_div_mod_eq,Nat.shiftRight_eq_div_pow];cases h:decide (M / 2 ^ n % 2=1)with
 | true=>rw[of_decide_eq_true h];rfl
 | false=>
   have:=of_decide_eq_false h;cases hb:Nat.beq (M / 2 ^ n % 2) 1 with
   | false=>rfl
   | true=>exact absurd (Vs hb) this
def Qq (M d n:Nat):Pm (Nat.lor M (Nat.shiftLeft 1 d)) n=(Pm M n||Nat.beq d n):=by
 rw[Ld,Ld];show(M|||1 <<< d).testBit n=_;rw[Nat.testBit_or,Nat.one_shiftLeft,Nat.testBit_two_pow];congr 1;cases hb:Nat.beq d n with
 | true=>simp[Vs hb]
 | false=>simpa using Nat.ne_of_beq_eq_false hb
def Jn.push {e:CX} {env:Env} (he:Jn e env) (d:Option Nat) (v:V):Jn (Oy d v e) (put d v env):=by
 cases d with
 | none=>exact he
 | some d=>
   intro n;show(bif Pm (Nat.lor e.1 (Nat.shiftLeft 1 d)) n then(bif Nat.beq d n then some v else get n e.2)else none)=bif Nat.beq d n then some v else get n env;rw[Qq,<-he n,UX];cases Nat.beq d n<;>cases Pm e.1 n<;>rfl
def gj (ops:List Ar) (cf:CF) (cv:CV) (cp:CP) (env:CX) (s:St):Al:=@List.rec Ar (fun _=>CF->CV->CP->CX->St->Al) (fun _ _ _ env s=>some (.normal,env,s))
 (fun o _ ih cf cv cp env s=>Yf o.3 o.2 cf cv cp env s (fun v s=>Yk v fun v=>ih cf cv cp (Oy o.1 v env) s) (fun v s=>some (.Bk v,env,s))) ops cf cv cp env s
def HF:Al->Rs->Prop
 | some (x,e,s),some (x',env,s')=>x=x'/\s=s'/\Jn e env
 | none,none=>True
 | _,_=>False
def bM (cf:CF) (cv:CV) (cp:CP): ∀(ops:List Ar) {e:CX} {env:Env} (s:St),Jn e env->HF (gj ops cf cv cp e s) (WA cf cv cp ops env s)
 | [],e,env,s,he=>⟨rfl,rfl,he⟩
 | o ::r,e,env,s,he=>by
   show HF (Yf o.3 o.2 cf cv cp e s (fun v s=>Yk v fun v=>gj r cf cv cp (Oy o.1 v e) s) (fun v s=>some (.Bk v,e,s))) _;rw[U5 he o.1];show HF (fin (Jk cf cv cp o env s) _ _) _;simp only[WA];cases Jk cf cv cp o env s with
   | none=>trivial
   | some p=>
     obtain⟨x,s'⟩:=p;cases x with
     | Bk v=>exact⟨rfl,rfl,he⟩
     | ret v=>
       show HF (Yk v fun v=>gj r cf cv cp (Oy o.1 v e) s') (It v _);rw[bw,Ia];exact bM cf cv cp r s' (he.push o.1 v)
def zm (re:List Ar) (cf:CF) (cv:CV) (cp:CP) (e:CX) (s:St) (K:Al):Al:=@List.rec Ar (fun _=>CF->CV->CP->CX->St->Al->Al) (fun _ _ _ _ _ K=>K)
 (fun o _ ih cf cv cp e s K=>Yf o.3 o.2 cf cv cp e s (fun u _=>@Option.rec Nat (fun _=>Al) (ih cf cv cp e s K) (fun d=>B3 (.t d) e fun w=>@Bool.rec (fun _=>Al) none (ih cf cv cp e s K) (FD u w)) o.1) (fun _ _=>none)) re cf cv cp e s K
def iw (cf:CF) (cv:CV) (cp:CP) {e:CX} {env:Env} (he:Jn e env) (s:St) (K:Al): ∀re:List Ar,zm re cf cv cp e s K=bif nV cf cv cp re env s then K else none
 | []=>rfl
 | o ::r=>by
   show Yf o.3 o.2 cf cv cp e s (fun u _=>@Option.rec Nat (fun _=>Al) (zm r cf cv cp e s K) (fun d=>B3 (.t d) e fun w=>@Bool.rec (fun _=>Al) none (zm r cf cv cp e s K) (FD u w)) o.1) (fun _ _=>none)=_;rw[U5 he o.1,iw cf cv cp he s K r]
   have h':nV cf cv cp (o::r) env s=((match Jk cf cv cp o env s with
    | some (.ret u,_)=>match o.dst with
      | none=>true
      | some d=>match get d env with|some w=>FD u w|none=>false
    | _=>false)&&nV cf cv cp r env s):=rfl
   rw[h'];show fin (Jk cf cv cp o env s) _ _=_;cases Jk cf cv cp o env s with
   | none=>rfl
   | some p=>
     obtain⟨x,s'⟩:=p;cases x with
     | Bk v=>rfl
     | ret u=>
       obtain⟨d,op,g⟩:=o;cases d with
       | none=>simp only[fin,Ds]
       | some d=>
         simp only[fin];rw[BI he];simp only[Dg];cases get d env with
         | none=>rfl
         | some w=>
           simp only[ob];cases FD u w<;>simp
def Wi (ops:List Cr) (cf:CF) (cv:CV) (cp:CP) (e:CX) (s:St):Al:=@List.rec Cr (fun _=>CF->CV->CP->CX->St->Al) (fun _ _ _ e s=>some (.normal,e,s))
 (fun d _ ih cf cv cp e s=>Yf d.2.3 d.2.2 cf cv cp e s (fun v s=>Yk v fun v=>(fun e=>zm d.4 cf cv cp e s (ih cf cv cp e s)) (Oy d.2.1 v e)) (fun v s=>some (.Bk v,⟨0,[]⟩,s))) ops cf cv cp e s
def Jn.nil {M:Nat}:Jn ⟨M,[]⟩ []:=fun n=>by
 show(bif Pm M n then none else none)=none;cases Pm M n<;>rfl
def Xc (cf:CF) (cv:CV) (cp:CP): ∀(ops:List Cr) {e:CX} {env:Env} (s:St),Jn e env->HF (Wi ops cf cv cp e s) (S4 cf cv cp ops env s)
 | [],e,env,s,he=>⟨rfl,rfl,he⟩
 | d ::r,e,env,s,he=>by
   show HF (Yf d.2.3 d.2.2 cf cv cp e s (fun v s=>Yk v fun v=>(fun e=>zm d.4 cf cv cp e s (Wi r cf cv cp e s)) (Oy d.2.1 v e)) (fun v s=>some (.Bk v,⟨0,[]⟩,s))) _;rw[U5 he d.2.1];show HF (fin (Jk cf cv cp d.o env s) _ _) _;simp only[S4];cases Jk cf cv cp d.o env s with
   | none=>trivial
   | some p=>
     obtain⟨x,s'⟩:=p;cases x with
     | Bk v=>exact⟨rfl,rfl,Jn.nil⟩
     | ret v=>
       show HF (Yk v fun v=>zm d.4 cf cv cp (Oy d.2.1 v e) s' (Wi r cf cv cp (Oy d.2.1 v e) s')) (It v _);rw[bw,Ia,iw cf cv cp (he.push d.2.1 v)];show HF (bif nV cf cv cp d.re (put d.o.dst v env) s' then _ else none) (bif nV cf cv cp d.re (put d.o.dst v env) s' then _ else none);cases nV cf cv cp d.re (put d.o.dst v env) s' with
       | false=>trivial
       | true=>exact Xc cf cv cp r s' (he.push d.2.1 v)
def S1 (l:List Nat):Nat:=@List.rec Nat (fun _=>Nat) 0 (fun n _ ih=>Nat.lor ih (Nat.shiftLeft 1 n)) l
def N3 (l:List Nat) (e:CX):CX:=⟨Nat.land e.1 (S1 l),e.2⟩
def Wq: ∀(l:List Nat) (n:Nat),Pm (S1 l) n=l.any fun k=>Nat.beq k n
 | [],n=>by rw[Ld];exact Nat.zero_testBit n
 | k::r,n=>by
   show Pm (Nat.lor (S1 r) (Nat.shiftLeft 1 k)) n=_;rw[Qq,Wq r n,Pj,Bool.or_comm]
def NZ: ∀(l:List Nat) (env:Env) (n:Nat),get n (prune l env)=bif l.any (fun k=>Nat.beq k n)then get n env else none
 | [],env,n=>rfl
 | k ::r,env,n=>by
   have ih:=NZ r env n;simp only[prune,Pj];cases hk:Nat.beq k n with
   | true=>
     have:=Vs hk;subst this;cases hg:get k env with
     | none=>
       simp only;rw[ih,hg];cases(r.any fun j=>Nat.beq j k)<;>rfl
     | some v=>simp[get,hk]
   | false=>
     simp only[Bool.false_or];cases hg:get k env with
     | none=>exact ih
     | some v=>
       simp only[get,hk,cond_false];exact ih
def Jn.prune {e:CX} {env:Env} (he:Jn e env) (l:List Nat):Jn (N3 l e) (Gl.prune l env):=fun n=>by
 show(bif Pm (Nat.land e.1 (S1 l)) n then get n e.2 else none)=_
 have:Pm (Nat.land e.1 (S1 l)) n=(Pm e.1 n&&Pm (S1 l) n):=by
  rw[Ld,Ld,Ld];exact Nat.testBit_and _ _ _
 rw[this,NZ,<-he n,UX,Wq];cases Pm e.1 n<;>cases(l.any fun k=>Nat.beq k n)<;>rfl
def V2 (l:List Nat) (e:CX) (K:Env->Al):Al:=@List.rec Nat (fun _=>CX->(Env->Al)->Al) (fun _ K=>K [])
 (fun n _ ih e K=>@Bool.rec (fun _=>Al) (ih e K) (@List.rec (Nat×V) (fun _=>Nat->Al->(V->Al)->Al) (fun _ x _=>x) (fun p _ ih n x K=>@Bool.rec (fun _=>Al) (ih n x K) (K p.2) (Nat.beq p.1 n)) e.2 n (ih e K) (fun v=>ih e fun r=>K ((n,v)::r))) (Pm e.1 n)) l e K
def om (env:Env) (n:Nat) (x:Al) (K:V->Al): @List.rec (Nat×V) (fun _=>Nat->Al->(V->Al)->Al) (fun _ x _=>x) (fun p _ ih n x K=>@Bool.rec (fun _=>Al) (ih n x K) (K p.2) (Nat.beq p.1 n)) env n x K=match get n env with|some v=>K v|none=>x:=by
 induction env with
 | nil=>rfl
 | cons p r ih=>
   obtain⟨j,v⟩:=p;show @Bool.rec (fun _=>Al) _ (K v) (Nat.beq j n)=match(bif Nat.beq j n then some v else get n r)with|some v=>K v|none=>x
   cases Nat.beq j n
   .exact ih
   .rfl
def Pz {e:CX} {env:Env} (he:Jn e env): ∀(l:List Nat) (K:Env->Al),V2 l e K=K (Gl.prune l env)
 | [],K=>rfl
 | n ::r,K=>by
   show @Bool.rec (fun _=>Al) (V2 r e K) (@List.rec (Nat×V) (fun _=>Nat->Al->(V->Al)->Al) (fun _ x _=>x) (fun p _ ih n x K=>@Bool.rec (fun _=>Al) (ih n x K) (K p.2) (Nat.beq p.1 n)) e.2 n (V2 r e K) (fun v=>V2 r e fun r=>K ((n,v)::r))) (Pm e.1 n)=_;rw[om,Pz he r];simp only[Pz he r,Gl.prune];rw[<-he n,UX];cases Pm e.1 n with
   | false=>rfl
   | true=>
     simp only[cond_true];cases get n e.2<;>rfl
def JV (env:Env):Nat:=@List.rec (Nat×V) (fun _=>Nat) 0 (fun p _ ih=>Nat.lor ih (Nat.shiftLeft 1 p.1)) env
def TC: ∀(env:Env) (n:Nat),Pm (JV env) n=(get n env).isSome
 | [],n=>by rw[Ld];exact Nat.zero_testBit n
 | (k,v)::r,n=>by
   show Pm (Nat.lor (JV r) (Nat.shiftLeft 1 k)) n=_;rw[Qq,TC r n];simp only[get];cases Nat.beq k n<;>simp
def Jn.of (env:Env):Jn ⟨JV env,env⟩ env:=fun n=>by
 show(bif Pm (JV env) n then get n env else none)=_;rw[TC];cases get n env<;>rfl
abbrev IH:=AV->CX->St->Al
def Sy (r:Al) (K:CX->St->Al):Al:=@Option.rec (Ac×CX×St) (fun _=>(CX->St->Al)->Al) (fun _=>none) (fun p K=>@Ac.rec (fun _=>CX->St->(Ac×CX×St)->(CX->St->Al)->Al) (fun env s _ K=>K env s) (fun _ _ _ p _=>some p) (fun _ _ p _=>some p) (fun _ _ _ p _=>some p) p.1 p.2.1 p.2.2 p K) r K
def AAk (r:Rs) (K':Env->St->Rs):Rs:=match r with|some (.normal,env,s)=>K' env s|r=>r
def ON {r:Al} {r':Rs} (h:HF r r') {K:CX->St->Al} {K':Env->St->Rs} (U: ∀e env s,Jn e env->HF (K e s) (K' env s)):HF (Sy r K) (AAk r' K'):=by
 cases r with
 | none=>cases r' with|none=>trivial|some p=>exact h.elim
 | some p=>
   cases r' with
   | none=>exact h.elim
   | some p'=>
     obtain⟨x,e,s⟩:=p;obtain⟨x',env,s'⟩:=p';obtain⟨rfl,rfl,he⟩:=h;cases x with
     | normal=>exact U e env s he
     | exit id=>exact⟨rfl,rfl,he⟩
     | ret=>exact⟨rfl,rfl,he⟩
     | Bk v=>exact⟨rfl,rfl,he⟩
def QO (s:St) (e:CX):List RS->Option (List V)
 | []=>some []
 | .t n::r=>ob (UX e n) fun v=>ob (QO s e r) fun vs=>some (v::vs)
 | .c n g::r=>ob (UX e n) fun a=>ob (O4 s g a) fun v=>ob (QO s e r) fun vs=>some (v::vs)
def aT (AG:List RS) (r:Al):Option (R×St):=
 match r with
 | some (.normal,env,s)=>ob (QO s env AG) fun vs=>some (.ret (FC vs),s)
 | some (.ret,env,s)=>ob (QO s env AG) fun vs=>some (.ret (FC vs),s)
 | some (.Bk v,_,s)=>some (.Bk v,s)
 | _=>none
def Wc (tab:K9) (ih:IH) (g:FuncId) (cap:List V) (m:Option V) (AG:List RS) (env:CX) (s:St):Option (R×St):=
 match tab g with
 | some (.zq n k ops ac l)=>bif Nat.ble cap.length n then
  match ih (.seq l (.DB ops) ac) ⟨JV (put (some k) (m.getD .D0) (BA 0 cap)),put (some k) (m.getD .D0) (BA 0 cap)⟩ s with
  | some (.normal,_,s')=>ob (QO s' env AG) fun vs=>some (.ret (FC vs),s')
  | some (.ret,_,s')=>ob (QO s' env AG) fun vs=>some (.ret (FC vs),s')
  | _=>none
   else none
 | some (.pld n ac)=>match m with
   | some _=>none
   | none=>bif Nat.ble cap.length n then
     match ih ac ⟨JV (BA 0 cap),BA 0 cap⟩ s with
     | some (.normal,_,s')=>ob (QO s' env AG) fun vs=>some (.ret (FC vs),s')
     | some (.ret,_,s')=>ob (QO s' env AG) fun vs=>some (.ret (FC vs),s')
     | _=>none
   else none
 | _=>none
def Uz (tab:K9) (ih:IH) (f:FuncId) (vs:List V) (s:St):Option (R×St):=
 match tab f with
 | some (.fn n ac AG)=>bif Nat.ble vs.length n then aT AG (ih ac ⟨JV (BA 0 vs),BA 0 vs⟩ s)else none
 | some (.dfr n aA ops x aC AG l1 l2)=>bif Nat.ble vs.length n then
  match ih (.seq l1 aA (.DB ops)) ⟨JV (BA 0 vs),BA 0 vs⟩ s with
  | some (.normal,env,s1)=>match(match x with| .t n=>UX env n| .c v=>bif BL v then some v else none)with
    | some (.f (.func g) [] cap)=>match ih aC (N3 l2 env) s1 with
      | some (.normal,env2,s2)=>Wc tab ih g cap none AG env2 s2
      | some (.ret,env2,s2)=>Wc tab ih g cap none AG env2 s2
      | some (.Bk v,env2,s2)=>Wc tab ih g cap (some v) AG env2 s2
      | _=>none
    | _=>none
  | _=>none
   else none
 | some (.fnz n ac AG)=>bif Nat.ble vs.length n then tX (aT AG (ih ac ⟨JV (BA 0 vs),BA 0 vs⟩ s))else none
 | some (.dK c)=>c vs s
 | _=>none
def F0 (tab:K9) (memo:FZ) (ih:IH):CF:=fun f vs s=>
 match memo f with
 | []=>Uz tab ih f vs s
 | m::r=>match WZ vs (m::r)with
   | some v=>some (.ret v,s)
   | none=>Uz tab ih f vs s
def Kh (tab:K9) (memo:FZ) (ih:IH):CV:=fun x vs s=>
 match x with
 | .f (.func f) first cap=>F0 tab memo ih f (first++vs++cap) s
 | .f (.yield L) [] []=>match s.t.get L with
   | some (.loop .ready env ps a b)=>bif Nat.beq vs.length ps.length then
    Tr.put none BD s.t L fun t=>match ih a ⟨JV (Et ps vs env),Et ps vs env⟩ ⟨s.nx,t⟩with
    | some (.normal,env1,s1)=>match ih b env1 s1 with
      | some (.normal,_,s2)=>Tr.put (some (.loop .ready env ps a b)) BD s2.t L fun t=>some (.ret (.b true),⟨s2.nx,t⟩)
      | some (.ret,_,s2)=>Tr.put (some (.loop .ret env ps a b)) BD s2.t L fun t=>some (.ret (.b false),⟨s2.nx,t⟩)
      | some (.exit id,_,s2)=>Tr.put (some (.loop (.exit id) env ps a b)) BD s2.t L fun t=>some (.ret (.b false),⟨s2.nx,t⟩)
      | some (.Bk v,_,s2)=>some (.Bk v,s2)
      | none=>none
    | _=>none
     else none
   | _=>none
 | _=>none
def Ln (tab:K9) (memo:FZ) (ih:IH):CP:=fun f vs=>
 bif CM vs then match F0 tab memo ih f vs ⟨0,.leaf⟩with
  | some (.ret v,s)=>match GG s V6 v with
    | some u=>bif BL u then some u else none
    | none=>none
  | _=>none
 else none
abbrev SK:=K9->FZ->IH->CX->St->Al
def iu (c : AV):SK:=@AV.rec (fun _=>SK)
 (fun _ _ _ env s=>some (.normal,env,s))
 (fun ops tab memo ih env s=>gj ops (F0 tab memo ih) (Kh tab memo ih) (Ln tab memo ih) env s)
 (fun l ops tab memo ih env s=>Sy (Wi ops (F0 tab memo ih) (Kh tab memo ih) (Ln tab memo ih) env s) fun env s=>some (.normal,N3 l env,s))
 (fun l a b _ _ _ _ ih env s=>Sy (ih a env s) fun env s=>ih b (N3 l env) s)
 (fun c a b _ _ _ _ ih env s=>B3 c env fun v=>rU v fun t=>@Bool.rec (fun _=>Al) (ih b env s) (ih a env s) t)
 (fun id a _ tab memo ih env s=>match ih a env s with
  | some (.exit id',env',s')=>bif Nat.beq id' id then some (.normal,env',s')else some (.exit id',env',s')
  | r=>r)
 (fun l a _ _ _ ih env s=>V2 l env fun E=>Sy (ih a ⟨JV E,E⟩ s) fun env s=>ih (.loop l a) env s)
 (fun id _ _ _ env s=>some (.exit id,env,s))
 (fun _ _ _ env s=>some (.ret,env,s))
 (fun a _ _ _ ih env s=>ih a env s)
 (fun l g ps a b _ _ tab memo ih env s=>B3 g env fun v=>match v with
  | .f (.func gf) [] cap=>V2 l env fun E=>s.new (.loop .ready E ps a b) fun i s1=>
   match F0 tab memo ih gf (.f (.yield i) [] []::cap) s1 with
   | some (.ret _,s2)=>match s2.t.get i with
     | some (.loop st _ _ _ _)=>Tr.put none BD s2.t i fun t=>some ((match st with| .ready=> .normal| .ret=> .ret| .exit id=> .exit id),env,⟨s2.nx,t⟩)
     | _=>none
   | some (.Bk v,s2)=>match s2.t.get i with
     | some _=>Tr.put none BD s2.t i fun t=>some (.Bk v,env,⟨s2.nx,t⟩)
     | none=>none
   | none=>none
  | _=>none) c
def runK (tab:K9) (memo:FZ) (n:Nat):IH:=@Nat.rec (fun _=>IH) (fun _ _ _=>none) (fun _ ih c env s=>iu c tab memo ih env s) n
def Yt (ihm:IH) (ih:AV->Env->St->Rs):Prop:= ∀c {e env} s,Jn e env->HF (ihm c e s) (ih c env s)
def Mj {s:St} {e:CX} {env:Env} (he:Jn e env): ∀l:List RS,QO s e l=aF s env l
 | []=>rfl
 | .t n::r=>by simp only[QO,aF,he n,Mj he r]
 | .c n g::r=>by simp only[QO,aF,he n,Mj he r]
def Xa {AG:List RS} {r:Al} {r':Rs} (h:HF r r'):aT AG r=dQ AG r':=by
 cases r with
 | none=>cases r' with|none=>rfl|some p=>exact h.elim
 | some p=>
   cases r' with
   | none=>exact h.elim
   | some p'=>
     obtain⟨x,e,s⟩:=p;obtain⟨x',env,s'⟩:=p';obtain⟨rfl,rfl,he⟩:=h;cases x<;>first|rfl|simp only[aT,dQ,Mj he]
def mT {tab : K9} {ihm:IH} {ih:AV->Env->St->Rs} (hi:Yt ihm ih) {g:FuncId} {cap:List V} {m:Option V} {AG:List RS} {e:CX} {env:Env} (he:Jn e env) (s:St):Wc tab ihm g cap m AG e s=Ym tab ih g cap m AG env s:=by
 unfold Wc Ym;cases tab g with
 | none=>rfl
 | some fs =>
   cases fs<;>first|rfl|skip
   .rename_i n k ops ac l
    simp only;have:=hi (.seq l (.DB ops) ac) s (Jn.of (put (some k) (m.getD .D0) (BA 0 cap)))
    revert this
    cases ihm (.seq l (.DB ops) ac) _ s with
    | none=>cases ih (.seq l (.DB ops) ac) _ s with|none=>intro _;rfl|some p=>intro h;exact h.elim
    | some p=>
      cases ih (.seq l (.DB ops) ac) _ s with
      | none=>intro h;exact h.elim
      | some p'=>
        obtain⟨x,e1,s1⟩:=p;obtain⟨x',env1,s1'⟩:=p';rintro⟨rfl,rfl,he1⟩;cases x<;>simp only[Mj he]
   .rename_i n ac
    cases m with
    | some v=>rfl
    | none=>
      simp only;have:=hi ac s (Jn.of (BA 0 cap))
      revert this
      cases ihm ac _ s with
      | none=>cases ih ac _ s with|none=>intro _;rfl|some p=>intro h;exact h.elim
      | some p=>
        cases ih ac _ s with
        | none=>intro h;exact h.elim
        | some p'=>
          obtain⟨x,e1,s1⟩:=p;obtain⟨x',env1,s1'⟩:=p';rintro⟨rfl,rfl,he1⟩;cases x<;>simp only[Mj he]
def fq {tab : K9} {ihm:IH} {ih:AV->Env->St->Rs} (hi:Yt ihm ih) (f:FuncId) (vs:List V) (s:St):Uz tab ihm f vs s=S5 tab ih f vs s:=by
 unfold Uz S5;cases tab f with
 | none=>rfl
 | some fs =>
   cases fs with
   | zq n k ops ac l=>rfl
   | dK c=>rfl
   | pld n ac=>rfl
   | fn n ac AG=>simp only;rw[Xa (hi ac s (Jn.of (BA 0 vs)))]
   | fnz n ac AG=>simp only;rw[Xa (hi ac s (Jn.of (BA 0 vs)))]
   | dfr n aA ops x aC AG l1 l2=>
     simp only;have:=hi (.seq l1 aA (.DB ops)) s (Jn.of (BA 0 vs))
     revert this
     cases ihm (.seq l1 aA (.DB ops)) _ s with
     | none=>cases ih (.seq l1 aA (.DB ops)) _ s with|none=>intro _;rfl|some p=>intro h;exact h.elim
     | some p=>
       cases ih (.seq l1 aA (.DB ops)) _ s with
       | none=>intro h;exact h.elim
       | some p'=>
         obtain⟨x1,e1,s1⟩:=p;obtain⟨x1',env1,s1'⟩:=p';rintro⟨rfl,rfl,he1⟩;cases x1<;>first|rfl|skip
         simp only;have hx:(match x with| .t n=>UX e1 n| .c v=>bif BL v then some v else none)=Dg env1 x:=by cases x<;>first|exact he1 _|rfl
         rw[hx];cases Dg env1 x with
         | none=>rfl
         | some v=>
           cases v<;>first|rfl|skip
           rename_i fn first cap
           cases fn<;>first|rfl|skip
           cases first<;>first|rfl|skip
           simp only;have:=hi aC s1 (he1.prune l2)
           revert this
           cases ihm aC (N3 l2 e1) s1 with
           | none=>cases ih aC (Gl.prune l2 env1) s1 with|none=>intro _;rfl|some p=>intro h;exact h.elim
           | some p=>
             cases ih aC (Gl.prune l2 env1) s1 with
             | none=>intro h;exact h.elim
             | some p'=>
               obtain⟨x2,e2,s2⟩:=p;obtain⟨x2',env2,s2'⟩:=p';rintro⟨rfl,rfl,he2⟩;cases x2<;>simp only[mT hi he2]
def G5 {tab:K9} {memo:FZ} {ihm:IH} {ih:AV->Env->St->Rs} (hi:Yt ihm ih):F0 tab memo ihm=Hr tab memo ih:=by
 funext f vs s;unfold F0 Hr;simp only[fq hi];rfl
def SH {tab : K9} {memo:FZ} {ihm:IH} {ih:AV->Env->St->Rs} (hi:Yt ihm ih):Kh tab memo ihm=OE tab memo ih:=by
 funext x vs s;unfold Kh OE;rw[G5 hi];cases x<;>first|rfl|skip
 rename_i fn first cap
 cases fn<;>first|rfl|skip
 cases first<;>first|rfl|skip
 cases cap<;>first|rfl|skip
 rename_i L;simp only;cases s.t.get L with
 | none=>rfl
 | some o=>
   cases o<;>first|rfl|skip
   rename_i st env ps a b;cases st<;>first|rfl|skip
   simp only;congr 2;funext t;have:=hi a ⟨s.nx,t⟩ (Jn.of (Et ps vs env))
   revert this
   cases ihm a _ ⟨s.nx,t⟩with
   | none=>cases ih a _ ⟨s.nx,t⟩with|none=>intro _;rfl|some p=>intro h;exact h.elim
   | some p=>
     cases ih a _ ⟨s.nx,t⟩with
     | none=>intro h;exact h.elim
     | some p'=>
       obtain⟨x1,e1,s1⟩:=p;obtain⟨x1',env1,s1'⟩:=p';rintro⟨rfl,rfl,he1⟩;cases x1<;>first|rfl|skip
       simp only;have:=hi b s1 he1
       revert this
       cases ihm b e1 s1 with
       | none=>cases ih b env1 s1 with|none=>intro _;rfl|some p=>intro h;exact h.elim
       | some p=>
         cases ih b env1 s1 with
         | none=>intro h;exact h.elim
         | some p'=>
           obtain⟨x2,e2,s2⟩:=p;obtain⟨x2',env2,s2'⟩:=p';rintro⟨rfl,rfl,he2⟩;cases x2<;>rfl
def Ol {tab:K9} {memo:FZ} {ihm:IH} {ih:AV->Env->St->Rs} (hi:Yt ihm ih):Ln tab memo ihm=Qe tab memo ih:=by
 funext f vs;unfold Ln Qe;rw[G5 hi];rfl
def lB {tab : K9} {memo:FZ} {ihm:IH} {ih:AV->Env->St->Rs} (hi:Yt ihm ih) (c:AV) {e:CX} {env:Env} (s:St) (he:Jn e env):HF (iu c tab memo ihm e s) (JY tab memo ih c env s):=by
 cases c with
 | skip=>exact⟨rfl,rfl,he⟩
 | ret=>exact⟨rfl,rfl,he⟩
 | exit id=>exact⟨rfl,rfl,he⟩
 | scope a=>exact hi a s he
 | DB ops=>
   show HF (gj ops (F0 tab memo ihm) (Kh tab memo ihm) (Ln tab memo ihm) e s) _;rw[G5 hi,SH hi,Ol hi];exact bM _ _ _ ops s he
 | He l ops=>
   show HF (Sy (Wi ops (F0 tab memo ihm) (Kh tab memo ihm) (Ln tab memo ihm) e s) fun env s=>some (.normal,N3 l env,s)) _;rw[G5 hi,SH hi,Ol hi];exact ON (K':=fun env s=>some (.normal,Gl.prune l env,s)) (Xc _ _ _ ops s he) fun _ _ s he=>⟨rfl,rfl,he.prune l⟩
 | seq l a b=>exact ON (K':=fun env s=>ih b (Gl.prune l env) s) (hi a s he) fun _ _ s he=>hi b s (he.prune l)
 | cond c a b=>
   show HF (B3 c e fun v=>rU v fun t=>@Bool.rec (fun _=>Al) (ihm b e s) (ihm a e s) t) _;rw[BI he];simp only[JY];cases Dg env c with
   | none=>trivial
   | some v=>
     cases v<;>first|trivial|skip
     rename_i t;cases t
     .exact hi b s he
     .exact hi a s he
 | block id a=>
   have:=hi a s he;show HF (match ihm a e s with|some (.exit id',env',s')=>bif Nat.beq id' id then some (.normal,env',s')else some (.exit id',env',s')|r=>r) (match ih a env s with|some (.exit id',env',s')=>bif Nat.beq id' id then some (.normal,env',s')else some (.exit id',env',s')|r=>r)
   revert this
   cases ihm a e s with
   | none=>cases ih a env s with|none=>intro _;trivial|some p=>intro h;exact h.elim
   | some p=>
     cases ih a env s with
     | none=>intro h;exact h.elim
     | some p'=>
       obtain⟨x1,e1,s1⟩:=p;obtain⟨x1',env1,s1'⟩:=p';rintro⟨rfl,rfl,he1⟩;cases x1 with
       | exit id'=>
         simp only;cases Nat.beq id' id<;>exact⟨rfl,rfl,he1⟩
       | normal=>exact⟨rfl,rfl,he1⟩
       | ret=>exact⟨rfl,rfl,he1⟩
       | Bk v=>exact⟨rfl,rfl,he1⟩
 | loop l a=>
   show HF (V2 l e fun E=>Sy (ihm a ⟨JV E,E⟩ s) fun env s=>ihm (.loop l a) env s) _;rw[Pz he];exact ON (K':=fun env s=>ih (.loop l a) env s) (hi a s (Jn.of _)) fun _ _ s he=>hi (.loop l a) s he
 | D8 l g ps a b=>
   show HF (B3 g e fun v=>match v with
   | .f (.func gf) [] cap=>V2 l e fun E=>s.new (.loop .ready E ps a b) fun i s1=>
    match F0 tab memo ihm gf (.f (.yield i) [] []::cap) s1 with
    | some (.ret _,s2)=>match s2.t.get i with
      | some (.loop st _ _ _ _)=>Tr.put none BD s2.t i fun t=>some ((match st with| .ready=> .normal| .ret=> .ret| .exit id=> .exit id),e,⟨s2.nx,t⟩)
      | _=>none
    | some (.Bk v,s2)=>match s2.t.get i with
      | some _=>Tr.put none BD s2.t i fun t=>some (.Bk v,e,⟨s2.nx,t⟩)
      | none=>none
    | none=>none
   | _=>none) _
   rw[BI he,G5 hi];simp only[JY];cases Dg env g with
   | none=>trivial
   | some v=>
     cases v<;>first|trivial|skip
     rename_i fn first cap
     cases fn<;>first|trivial|skip
     cases first<;>first|trivial|skip
     rename_i gf;simp only[ob];rw[Pz he]
     have hnew: ∀ {β γ:Type} (o:EO) (f:Nat->St->Option β) (g:Nat->St->Option γ) (Rl:Option β->Option γ->Prop),Rl none none->(∀i s,Rl (f i s) (g i s))->Rl (s.new o f) (s.new o g):=fun {β γ} o f g Rl h0 h1=>by
      obtain⟨n,t⟩:=s;cases n with
      | zero=>simp only[St.new];rw[Tr.put_eq,Tr.put_eq];exact h1 _ _
      | succ n=>
        simp only[St.new];rw[Tr.put_eq,Tr.put_eq];cases Nat.ble (n+1) Nt
        .exact h0
        .exact h1 _ _
     refine hnew _ _ _ HF trivial fun i s1=>?_
     cases Hr tab memo ih gf (.f (.yield i) [] []::cap) s1 with
     | none=>trivial
     | some p=>
       obtain⟨x,s2⟩:=p;cases x with
       | ret v=>
         simp only;cases s2.t.get i with
         | none=>trivial
         | some o=>
           cases o<;>first|trivial|skip
           simp only;rw[Tr.put_eq,Tr.put_eq];exact⟨rfl,rfl,he⟩
       | Bk v=>
         simp only;cases s2.t.get i with
         | none=>trivial
         | some o=>
           simp only;rw[Tr.put_eq,Tr.put_eq];exact⟨rfl,rfl,he⟩
def a8 (tab:K9) (memo:FZ): ∀n:Nat,Yt (runK tab memo n) (run tab memo n)
 | 0=>fun _ _ _ _ _=>trivial
 | n+1=>fun c _ _ s he=>lB (a8 tab memo n) c s he
def nr (tab:K9) (memo:FZ) (n:Nat) (f:FuncId) (vs:List V) (v:V):Bool:=
 match Ln tab memo (runK tab memo n) f vs with
 | some u=>FD u v
 | none=>false
def TS {tab:K9} (ht:MY P tab) {memo:FZ} (hm:Ht P memo) {n:Nat} {f:FuncId} {vs:List V} {v:V} (h:nr tab memo n f vs v=true):CM vs=true/\BL v=true/\Pure P f vs v:=by
 unfold nr at h;rw[Ol (a8 tab memo n)]at h;exact X7 ht hm h
def tD (t:Tr dG):K9:=fun f=>dO t f
def aj {t:Tr dG} (h:aX (fun i=>Pc P i) id t):MY P (tD t):=fun f fs e=>h f fs ((VQ t f).symm.trans e)
def td (m:FZ) (f:FuncId) (a:List V) (v:V):FZ:=fun g=>@Bool.rec (fun _=>List (List V×V)) (m g) ((a,v)::m g) (Nat.beq f g)
def rP {m:FZ} (h:Ht P m) {f:FuncId} {a:List V} {v:V} (h1:CM a=true/\BL v=true/\Pure P f a v):Ht P (td m f a v):=fun g e he=>by
 unfold td at he;cases hb:Nat.beq f g with
 | false=>rw[hb]at he;exact h g e he
 | true=>
   rw[hb]at he;have:=C7 hb;subst this;rcases GM.1 he with rfl|he
   .exact h1
   .exact h f e he
end Go.Gl
namespace Go.Gl
variable {P:Program}
abbrev VX (sz b:Nat):AV:=(.seq [0] (.DB [⟨(some 2),.mv (.c (.l [] true)),none⟩])
 (.seq [0] (.seq [0,4] (.DB [⟨(some 3),.mv (.t 0),none⟩,
  ⟨(some 4),.gK 1 false (.t 3),none⟩])
 (.cond (.t 4)
 (.seq [2] (.DB [⟨(some 2),.mv (.c (.l [] true)),none⟩])
 .ret)
 .skip))
 (.seq [2] (.DB [⟨(some 5),.Hs 1 0 [] [],none⟩,
  ⟨(some 6),.mv (.t 0),none⟩,
  ⟨(some 7),.append sz b (.t 5) (.t 6),none⟩,
  ⟨(some 2),.mv (.t 7),none⟩])
 .ret)))
def eg {q:Nat} {neg:Bool} {x:V} {k k':V->Prop} (h:Jq q neg x k) (hm: ∀t,k (.b t)->k' (.b t)):Jq q neg x k':=by
 unfold Jq at *;split at h<;>first|exact hm _ h|exact⟨fun e t=>hm _ (h.1 e t),fun e=>hm _ (h.2 e)⟩|exact h.elim
def Oq {v:V} {Z:AE} {Q:R->AE->Prop} (h:Q (.ret v) Z):Am Z v Q:=⟨v,Z,fun _ _ h=>h,.refl _,h⟩
def kX {Y:Ren} {f:Bool}:RV Y (.l [] f) (.l [] f):=by simp only[RV];exact⟨[],rfl,rfl⟩
section
attribute [local irreducible] Au Am Ae AR AK AY AQ AS AJ AX AM AO Ao A0 AU Ay Af W Jq
def qx {sz b:Nat} {v:V} {Z:AE} {Q:R->AE->Prop} (h1:Jq 1 false v fun t=>(t= .b true->Am Z (.l [] true) Q)/\(t= .b false->AK b Z sz (.l [] true) v fun v' Z'=>Am Z' v' Q)) :
    W P (VX sz b) (WK [.t 2] Q) [(0,v)] Z:=by
 conv=>whnf
 repeat((first|clear U K|apply st|(apply zk;intro K U)|fail);conv=>whnf)
 refine eg h1 fun t ht=>?_
 refine zh ?_;(repeat clear U K);repeat intro K U
 refine⟨fun h=>?_,fun h=>?_⟩
 .subst h
  refine zh ?_;(repeat clear U K);repeat intro K U
  exact ht.1 rfl
 .subst h
  refine zh ?_;(repeat clear U K);repeat intro K U
  refine NX (ht.2 rfl) fun v' Z' hq=>?_
  refine zh ?_;(repeat clear U K);repeat intro K U
  exact hq
end
def mg {f : FuncId} {n sz b:Nat} (h: ∀(args:List V) (Z:AE) (Q:R->AE->Prop),args.length<=n->T P (VX sz b) (WK [.t 2] Q) (BA 0 args) Z->Au P f args Z Q) (hn:1<=n) (hb:b<=131072:=by decide):Pc P f (.dK (ZB sz)):=by
 intro vs s r s' hc Y vs' Z hv hs Q hQ
 have main: ∀ {v v':V} {ys:List (List V)},vs= [v]->vs'= [v']->RV Y v v'->JZ s sz v=some ys->(ys= []->r= .ret (.l [] true)/\s'=s)->
  (ys≠[]->(ys.all (fun e=>e.all CR)&&Nat.ble ys.length 1073741824)=true/\s.nx<=Nt/\r= .ret (.sl s.nx ys.length 0)/\s'=⟨s.nx+1,Tr.set (some (.arr sz ys)) BD s.t s.nx⟩)->
  (∀k:V->Prop,(ys= []-> ∀t,k (.b t))->(ys≠[]->k (.b false))->Jq 1 false v' k)->Au P f vs' Z Q:=fun {v v' ys} e1 e2 hr hy h0 h1 hk=>by
  subst e1;subst e2;refine h _ _ _ hn (np (qx (hk _ (fun e t=>⟨fun _=>?_,fun _=>?_⟩) fun e=>⟨fun h=>(by cases h),fun _=>?_⟩)))
  .obtain⟨rfl,rfl⟩:=h0 e
   exact Oq (hQ Y _ Z (.refl _) ⟨_,kX,rfl⟩ hs)
  .obtain⟨rfl,rfl⟩:=h0 e
   refine IS hs hy hr fun ys' hr'=>?_
   have:ys'= []:=by
    have:=hr'.len;rw[e]at this;exact YW.1 this
   subst this;exact⟨fun e he=>(by cases he),fun e he=>(by cases he),⟨Nat.zero_le _,by simp⟩,fun _=>Oq (hQ Y _ Z (.refl _) ⟨_,kX,rfl⟩ hs),fun h=>absurd rfl h⟩
  .obtain⟨g1,g2,rfl,rfl⟩:=h1 e
   simp only[A9]at g1;refine IS hs hy hr fun ys' hr'=>?_
   have hl:=hr'.len;have hne:ys'≠[]:=fun e'=>e (by rw[e']at hl;exact YW.1 hl.symm)
   refine⟨NN g1.1 hr',fun e he=>(by cases he),?_,fun e=>absurd e hne,fun _=>⟨rfl,fun n cap hn0 hc=>?_⟩⟩
   .have:=Ug (b:=b) (L:=ys.length) (by simp only[zw,A9];exact⟨g1.2,Nat.ble_eq_true_of_le hb⟩)
    simp only[List.length_nil,HG];rw[hl];exact this
   .obtain⟨Y',q1,q2,q3⟩:=hs.new g2 hn0 cap (o:= .arr sz ys) (o':= .arr sz ys' cap) ⟨_,hr',rfl⟩
    refine Oq (hQ Y' _ _ q1 ?_ ?_)
    .refine⟨_,?_,rfl⟩
     simp only[RV];exact⟨_,q2,by simp[hl]⟩
    .simpa using q3
 have parts: ∀ {ys:List (List V)},(match some ys with
  | some []=>some (R.ret (V.l [] true),s)
  | some (y::ys)=>bif (y::ys).all (fun e=>e.all CR)&&Nat.ble (y::ys).length 1073741824 then s.new (.arr sz (y::ys)) fun i s'=>some (.ret (.sl i (y::ys).length 0),s')else none
  | none=>none)=some (r,s')->(ys= []->r= .ret (.l [] true)/\s'=s)/\
    (ys≠[]->(ys.all (fun e=>e.all CR)&&Nat.ble ys.length 1073741824)=true/\s.nx<=Nt/\r= .ret (.sl s.nx ys.length 0)/\s'=⟨s.nx+1,Tr.set (some (.arr sz ys)) BD s.t s.nx⟩):=fun {ys} hc=>by
  cases ys with
  | nil=>cases hc;exact⟨fun _=>⟨rfl,rfl⟩,fun h=>absurd rfl h⟩
  | cons y ys=>
    obtain⟨h1,h2⟩:=AW hc;obtain⟨h3,h4⟩:=St.Iq h2;cases h4;exact⟨fun h=>(by cases h),fun _=>⟨h1,h3,rfl,rfl⟩⟩
 unfold ZB at hc;split at hc
 .rename_i es f
  obtain⟨v',l',k1,k2,rfl⟩:=hv;obtain rfl:l'= []:=k2;cases hy:JZ s sz (.l es f)with
  | none=>rw[hy]at hc;cases hc
  | some ys=>
    rw[hy]at hc;obtain⟨p1,p2⟩:=parts hc;refine main rfl rfl k1 hy p1 p2 fun k h0 h1=>?_
    simp only[RV]at k1;obtain⟨es',k3,rfl⟩:=k1;have hl:=(F9.1 k3).len
    have he:ys=es:=by
     simp only[JZ]at hy;exact(Option.some.inj (AW hy).2).symm
    subst he;unfold Jq;exact⟨fun e=>h0 (by rw[e]at hl;exact YW.1 hl.symm),fun e=>h1 fun e'=>e (by rw[e']at hl;exact YW.1 hl)⟩
 .rename_i m len c
  obtain⟨v',l',k1,k2,rfl⟩:=hv;obtain rfl:l'= []:=k2;cases hy:JZ s sz (.sl m len c)with
  | none=>rw[hy]at hc;cases hc
  | some ys=>
    rw[hy]at hc;obtain⟨p1,p2⟩:=parts (ys:=ys) hc;refine main rfl rfl k1 hy p1 p2 fun k h0 h1=>?_
    simp only[RV]at k1;obtain⟨m',k3,rfl⟩:=k1;unfold Jq;show k (.b false);by_cases e:ys= []
    .exact h0 e false
    .exact h1 e
 .cases hc
end Go.Gl
namespace Go.Gl
variable {P:Program}
structure gO (P:Program) where
 k:Nat
 fs:dG
 ok:Pc P k fs
def mkT:List (gO P)->Tr dG
 | []=> .leaf
 | e::r=>bif Nat.ble e.k 1000000 then Tr.set (some e.fs) BD (mkT r) e.k else mkT r
def Yw: ∀l:List (gO P),aX (fun i=>Pc P i) id (mkT l)
 | []=>rK
 | e ::r=>by
   unfold mkT;cases h:Nat.ble e.k 1000000 with
   | false=>exact Yw r
   | true=>
     have hk:e.k+1<2 ^ BD:=by
      have:=Nat.le_of_ble_eq_true h;have e2:(2:Nat) ^ BD=1099511627776:=by decide
      omega
     intro j a ha;rw[cond_true,Tr.EI BD _ _ hk]at ha;split at ha
     .next e1=>subst e1;cases ha;exact e.ok
     .exact Yw r j a ha
def eX {k n:Nat} {fn:Func} {ac:AV} {rs:List RS} (pu fz:List Nat) (hf:P.funcs[k]? =some fn)
    (hn:fn.ntmps=n:=by conv=>lhs;reduce)
    (hr:Np P fn.results.toList=some rs:=by conv=>lhs;reduce)
    (hc:dE (rs.map axR) ((fn.body.bind (res P fn.ntmps pu fz)).getD .skip) [] (rs.map axR)=ac:=by conv=>lhs;reduce)
    (hb:fn.body.bind (res P fn.ntmps pu fz)=some (erase ac):=by kernel_rfl) (hok:okF P k=true:=by kernel_rfl):gO P:=
 ⟨k,.fn n ac rs,fun _ _ _ ha h=>E8 hf hok hb hr (hn ▸ ha) h⟩
def eZ {k n:Nat} {fn:Func} {ac:AV} {rs:List RS} (pu fz:List Nat) (hf:P.funcs[k]? =some fn)
    (hn:fn.ntmps=n:=by conv=>lhs;reduce)
    (hr:Np P fn.results.toList=some rs:=by conv=>lhs;reduce)
    (hc:dE (rs.map axR) ((fn.body.bind (res P fn.ntmps pu fz)).getD .skip) [] (rs.map axR)=ac:=by conv=>lhs;reduce)
    (hb:fn.body.bind (res P fn.ntmps pu fz)=some (erase ac):=by kernel_rfl) (hok:okF P k=true:=by kernel_rfl):gO P:=
 ⟨k,.fnz n ac rs,fun _ _ _ ha h=>E8 hf hok hb hr (hn ▸ ha) h⟩
def eC {k:Nat} {fn:Func} (sz b:Nat) (hf:P.funcs[k]? =some fn) (hb:fn.body.bind (res P fn.ntmps [] [])=some (erase (VX sz b)):=by kernel_rfl)
    (hr:Np P fn.results.toList=some [.t 2]:=by kernel_rfl) (hok:okF P k=true:=by kernel_rfl) (hn:Nat.ble 1 fn.ntmps=true:=by kernel_rfl) (hs:Nat.ble b 131072=true:=by kernel_rfl):gO P:=
 ⟨k,.dK (ZB sz),mg (sz:=sz) (b:=b) (fun _ _ _ ha h=>E8 hf hok hb hr ha h) (Nat.le_of_ble_eq_true hn) (Nat.le_of_ble_eq_true hs)⟩
structure MM (P:Program) where
 m:FZ
 ok:Ht P m
def MM.add (M:MM P) {f:Nat} {vs:List V} {v:V} (h:CM vs=true/\BL v=true/\Pure P f vs v):MM P:=⟨td M.m f vs v,rP M.ok h⟩
end Go.Gl
namespace Go.Gl
open Go.Proofs
set_option maxRecDepth 100000
def e17:=eX [] [] Tryz.func17
def e66:=eZ [] [] Tryz.func66
def e18:=eX [] [] Tryz.func18
def e19:=eX [] [] Tryz.func19
def e23:=eX [] [] Tryz.func23
def e22:=eX [] [] Tryz.func22
def e38:=eX [] [] Tryz.func38
def e67:=eZ [] [] Tryz.func67
def e15:=eX [] [] Tryz.func15
def e40:=eX [] [] Tryz.func40
def e31:=eX [] [] Tryz.func31
def e25:=eX [] [] Tryz.func25
def e69:=eX [] [] Tryz.func69
def e68:=eX [] [] Tryz.func68
def e27:=eX [] [] Tryz.func27
def e70:=eX [] [] Tryz.func70
def e59:=eX [] [] Tryz.func59
def e73:=eX [] [] Tryz.func73
def e72:=eX [] [] Tryz.func72
def e71:=eX [] [] Tryz.func71
def e74:=eX [] [] Tryz.func74
def e78:=eX [] [] Tryz.func78
def e100:=eX [] [] Tryz.func100
def e101:=eZ [] [] Tryz.func101
def e62:=eX [] [] Tryz.func62
def e102:=eX [] [] Tryz.func102
def e137:=eX [] [] Tryz.func137
def e60:=eX [] [] Tryz.func60
def e84:=eX [] [] Tryz.func84
def e82:=eX [] [] Tryz.func82
def e83:=eX [] [] Tryz.func83
def e92:=eX [] [] Tryz.func92
def e93:=eX [] [] Tryz.func93
def e81:=eX [] [] Tryz.func81
def e34:=eX [] [] Tryz.func34
def e131:=eX [] [] Tryz.func131
def e132:=eX [] [] Tryz.func132
def e138:=eX [] [] Tryz.func138
def e140:=eX [] [] Tryz.func140
def e139:=eX [] [] Tryz.func139
def e144:=eX [] [] Tryz.func144
def e79:=eX [] [] Tryz.func79
def e49:=eX [] [] Tryz.func49
def e159:=eX [] [] Tryz.func159
def e133:=eX [] [] Tryz.func133
def e134:=eX [] [] Tryz.func134
def e160:=eX [] [] Tryz.func160
def e61:=eX [] [] Tryz.func61
def e146:=eX [] [] Tryz.func146
def e147:=eX [] [] Tryz.func147
def e150:=eX [] [] Tryz.func150
def e151:=eZ [] [] Tryz.func151
def e118:=eX [] [] Tryz.func118
def e152:=eX [] [] Tryz.func152
end Go.Gl
