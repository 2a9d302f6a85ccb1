import Derived.Test.YtegbmnmnaijioaaGreatProg
import Derived.KernelRfl
import Derived.Test.YtegbmnmnaijioaaGreatX6
import Derived.Test.YtegbmnmnaijioaaGreatX19
set_option linter.all false
set_option linter.defProp false
set_option maxHeartbeats 8000000
noncomputable section
namespace Go.Gl
variable {P:Program}
structure CQ where
 M:Nat
 E:Env
abbrev Al:=Option (Ad×CQ×St)
def LN {α β:Type} (c:Bool) (x:Option α) (g:α->Option β):ob (bif c then x else none) g=bif c then ob x g else none:=by cases c<;>rfl
def oI (env:Env) (n:Nat) (K:V->Al):Al:=@List.rec (Nat×V) (fun _=>Nat->(V->Al)->Al) (fun _ _=>none) (fun p _ ih n K=>@Bool.rec (fun _=>Al) (ih n K) (K p.2) (Nat.beq p.1 n)) env n K
def qO (env:Env) (n:Nat) (K:V->Al):oI env n K=ob (get n env) K:=by
 induction env with
 | nil=>rfl
 | cons p r ih=>
   obtain⟨j,v⟩:=p;show @Bool.rec (fun _=>Al) (oI r n K) (K v) (Nat.beq j n)=ob (bif Nat.beq j n then some v else get n r) K;cases Nat.beq j n
   .exact ih
   .rfl
def UA {α:Type} (cs:List α) (i:Nat) (K:α->Al):Al:=@List.rec α (fun _=>Nat->(α->Al)->Al) (fun _ _=>none) (fun v _ ih i K=>@Nat.rec (fun _=>Al) (K v) (fun j _=>ih j K) i) cs i K
def MG {α:Type} (cs:List α): ∀(i:Nat) (K:α->Al),UA cs i K=ob cs[i]? K:=by
 induction cs with
 | nil=>intro i K;rfl
 | cons v r ih=>
   intro i K;cases i with
   | zero=>rfl
   | succ j=>exact ih j K
def GX {α:Type} (cs:List α):Nat:=@List.rec α (fun _=>Nat) 0 (fun _ _ ih=>Nat.succ ih) cs
def Fe {α:Type} (cs:List α):GX cs=cs.length:=by
 induction cs with
 | nil=>rfl
 | cons v r ih=>show Nat.succ (GX r)=_;rw[ih];rfl
def WR {α:Type} (cs:List α) (n:Nat):List α:=@Nat.rec (fun _=>List α->List α) (fun cs=>cs) (fun _ ih cs=>@List.rec α (fun _=>(List α->List α)->List α) (fun _=>[]) (fun _ r _ ih=>ih r) cs ih) n cs
def Qz {α:Type}: ∀(n:Nat) (cs:List α),WR cs n=cs.drop n
 | 0,cs=>rfl
 | n+1,[]=>rfl
 | n+1,v::r=>Qz n r
def aE {α:Type} (cs:List α) (n:Nat):List α:=@List.rec α (fun _=>Nat->List α) (fun _=>[]) (fun v _ ih n=>@Nat.rec (fun _=>List α) [] (fun j _=>v::ih j) n) cs n
def lI {α:Type} (cs:List α): ∀n:Nat,aE cs n=cs.take n:=by
 induction cs with
 | nil=>intro n;cases n<;>rfl
 | cons v r ih=>
   intro n;cases n with
   | zero=>rfl
   | succ j=>show v::aE r j=_;rw[ih];rfl
def YS {α:Type} (cs:List α) (n:Nat) (x:α):List α:=@List.rec α (fun _=>Nat->α->List α) (fun _ _=>[]) (fun v r ih n x=>@Nat.rec (fun _=>List α) (x::r) (fun j _=>v::ih j x) n) cs n x
def Ur {α:Type} (cs:List α) (x:α): ∀n:Nat,YS cs n x=cs.set n x:=by
 induction cs with
 | nil=>intro n;rfl
 | cons v r ih=>
   intro n;cases n with
   | zero=>rfl
   | succ j=>show v::YS r j x=_;rw[ih];rfl
def tX {α:Type} (f:α->Bool) (cs:List α):Bool:=@List.rec α (fun _=>(α->Bool)->Bool) (fun _=>true) (fun v _ ih f=>@Bool.rec (fun _=>Bool) false (ih f) (f v)) cs f
def rR {α:Type} (f:α->Bool) (cs:List α):tX f cs=cs.all f:=by
 induction cs with
 | nil=>rfl
 | cons v r ih=>
   show @Bool.rec (fun _=>Bool) false (tX f r) (f v)=_;rw[R8,ih];cases f v<;>rfl
def kG (v:V) (K:V->Al):Al:=@V.rec (fun _=>V->(V->Al)->Al) (fun _=>Unit) (fun _=>Unit) (fun _ v K=>K v) (fun _ _ v K=>K v) (fun _ v K=>K v) (fun v K=>K v) (fun _ _ v K=>@Bool.rec (fun _=>Al) none (K v) (BM v)) (fun _ _ v K=>@Bool.rec (fun _=>Al) none (K v) (BM v)) (fun _ _ _ v K=>@Bool.rec (fun _=>Al) none (K v) (BM v)) (fun _ _ _ v K=>@Bool.rec (fun _=>Al) none (K v) (BM v)) (fun _ _ _ _ v K=>@Bool.rec (fun _=>Al) none (K v) (BM v)) (fun _ _ _ _ v K=>@Bool.rec (fun _=>Al) none (K v) (BM v)) (fun _ v K=>@Bool.rec (fun _=>Al) none (K v) (BM v)) (fun v K=>K v) (fun _ _ _ _ _ v K=>@Bool.rec (fun _=>Al) none (K v) (BM v)) (fun v K=>K v) (fun _ _ _ v K=>@Bool.rec (fun _=>Al) none (K v) (BM v)) (fun v K=>K v) (fun _ _ v K=>@Bool.rec (fun _=>Al) none (K v) (BM v)) (fun _ _ v K=>@Bool.rec (fun _=>Al) none (K v) (BM v)) (fun v K=>@Bool.rec (fun _=>Al) none (K v) (BM v)) () (fun _ _ _ _=>()) () (fun _ _ _ _=>()) v v K
def BU {α:Type} (c:Bool) (x y:α): @Bool.rec (fun _=>α) y x c=bif c then x else y:=by cases c<;>rfl
def fb (v:V) (K:V->Al):kG v K=ob (bif BM v then some v else none) K:=by
 rw[LN];cases v<;>first|rfl|exact BU _ _ _
def PM (M n:Nat):Bool:=Nat.beq (Nat.land (Nat.shiftRight M n) 1) 1
def UE (e:CQ) (n:Nat):Option V:=bif PM e.1 n then get n e.2 else none
def JW (e:CQ) (env:Env):Prop:= ∀n,UE e n=get n env
def Bz (x:Bo) (e:CQ) (K:V->Al):Al:=@Bo.rec (fun _=>CQ->(V->Al)->Al) (fun n e K=>@Bool.rec (fun _=>Al) none (oI e.2 n K) (PM e.1 n)) (fun v _ K=>kG v K) x e K
def BI {e:CQ} {env:Env} (he:JW e env) (x:Bo) (K:V->Al):Bz x e K=ob (Dh env x) K:=by
 cases x with
 | t n=>
   show @Bool.rec (fun _=>Al) none (oI e.2 n K) (PM e.1 n)=ob (get n env) K;rw[<-he n,UE,BU,LN,qO]
 | c v=>exact fb v K
def Ly (l:List Bo) (env:CQ) (K:List V->Al):Al:=@List.rec Bo (fun _=>CQ->(List V->Al)->Al) (fun _ K=>K []) (fun x _ ih env K=>Bz x env fun v=>ih env fun vs=>K (v::vs)) l env K
def Bv {e:CQ} {env:Env} (he:JW e env): ∀(l:List Bo) (K:List V->Al),Ly l e K=ob (PD env l) K
 | [],K=>rfl
 | x ::r,K=>by
   show(Bz x e fun v=>Ly r e fun vs=>K (v::vs))=_;rw[BI he];simp only[PD];cases Dh env x with
   | none=>rfl
   | some v=>
     simp only[ob];rw[Bv he r];cases PD env r<;>rfl
def YV (x:Option Bo) (e:CQ) (K:Option V->Al):Al:=@Option.rec Bo (fun _=>CQ->(Option V->Al)->Al) (fun _ K=>K none) (fun x e K=>Bz x e fun v=>K (some v)) x e K
def B8 {e:CQ} {env:Env} (he:JW e env) (x:Option Bo) (K:Option V->Al):YV x e K=ob (LG env x) K:=by
 cases x with
 | none=>rfl
 | some x=>
   show(Bz x e fun v=>K (some v))=_;rw[BI he];simp only[LG];cases Dh env x<;>rfl
def AAC (k:IntKind):Nat:=@IntKind.rec (fun _=>Nat) 0 1 2 3 4 5 6 7 k
def NW (a b:IntKind):Bool:=Nat.beq (AAC a) (AAC b)
def qh (a b:IntKind):NW a b=decide (a=b):=by cases a<;>cases b<;>rfl
def AAL (a b:Int):Int:=@Int.rec (fun _=>Int->Int) (fun m b=>@Int.rec (fun _=>Nat->Int) (fun n m=>Int.ofNat (Nat.add m n)) (fun n m=>Int.ofNat m+Int.negSucc n) b m) (fun m b=>Int.negSucc m+b) a b
def rX (a b:Int):AAL a b=a+b:=by cases a<;>cases b<;>rfl
def zq (a b:Int):Int:=@Int.rec (fun _=>Int->Int) (fun m b=>@Int.rec (fun _=>Nat->Int) (fun n m=>@Bool.rec (fun _=>Int) (Int.negSucc (Nat.sub n (Nat.succ m))) (Int.ofNat (Nat.sub m n)) (Nat.ble n m)) (fun n m=>Int.ofNat m - Int.negSucc n) b m) (fun m b=>Int.negSucc m - b) a b
def oa (a b:Int):zq a b=a - b:=by
 cases a with
 | negSucc m=>rfl
 | ofNat m=>
   cases b with
   | negSucc n=>rfl
   | ofNat n=>
     show @Bool.rec (fun _=>Int) (Int.negSucc (n - (m+1))) (Int.ofNat (m - n)) (Nat.ble n m)=_;cases h:Nat.ble n m with
     | true=>
       have:=Nat.le_of_ble_eq_true h;show Int.ofNat (m - n)=(m:Int) - (n:Int);simp only[Int.ofNat_eq_natCast];omega
     | false=>
       have: ¬n<=m:=fun h'=>by rw[Nat.ble_eq_true_of_le h']at h;cases h
       show Int.negSucc (n - (m+1))=(m:Int) - (n:Int);omega
def gL (a b:Int):Bool:=@Int.rec (fun _=>Int->Bool) (fun m b=>@Int.rec (fun _=>Nat->Bool) (fun n m=>Nat.ble (Nat.succ m) n) (fun _ _=>false) b m) (fun m b=>@Int.rec (fun _=>Nat->Bool) (fun _ _=>true) (fun n m=>Nat.ble (Nat.succ n) m) b m) a b
def UQ (a b:Int):gL a b=NO a b:=by cases a<;>cases b<;>rfl
def eqI (a b:Int):Bool:=@Int.rec (fun _=>Int->Bool) (fun m b=>@Int.rec (fun _=>Nat->Bool) (fun n m=>Nat.beq m n) (fun _ _=>false) b m) (fun m b=>@Int.rec (fun _=>Nat->Bool) (fun _ _=>false) (fun n m=>Nat.beq m n) b m) a b
def vC (a b:Int):eqI a b=cu a b:=by cases a<;>cases b<;>rfl
def UB (b:Bool):Bool:=@Bool.rec (fun _=>Bool) true false b
def pS (b:Bool):UB b= !b:=by cases b<;>rfl
def gU (a:Int):Nat:=@Int.rec (fun _=>Nat) (fun n=>n) (fun _=>0) a
def QL (a:Int):gU a=a.toNat:=by cases a<;>rfl
def Z9 (k:IntKind) (n:Int):Int:=@IntKind.rec (fun _=>Int->Int) (fun n=>IntKind.i8.wrap n) (fun n=>IntKind.i16.wrap n) (fun n=>IntKind.i32.wrap n)
 (fun n=>@Int.rec (fun _=>Int) (fun m=>@Bool.rec (fun _=>Int) (IntKind.i64.wrap (Int.ofNat m)) (Int.ofNat m) (Nat.ble m 9223372036854775807)) (fun m=>@Bool.rec (fun _=>Int) (IntKind.i64.wrap (Int.negSucc m)) (Int.negSucc m) (Nat.ble m 9223372036854775807)) n)
 (fun n=>IntKind.u8.wrap n) (fun n=>IntKind.u16.wrap n) (fun n=>IntKind.u32.wrap n)
 (fun n=>@Int.rec (fun _=>Int) (fun m=>@Bool.rec (fun _=>Int) (IntKind.u64.wrap (Int.ofNat m)) (Int.ofNat m) (Nat.ble m 18446744073709551615)) (fun m=>IntKind.u64.wrap (Int.negSucc m)) n) k n
def lA (k:IntKind) (n:Int):Z9 k n=k.wrap n:=by
 cases k<;>try rfl
 .cases n with
  | ofNat m=>
    have:=Js .i64 (.ofNat m);simp only[I6]at this;rw[<-this];show @Bool.rec (fun _=>Int) _ _ _=_;cases Nat.ble m 9223372036854775807<;>rfl
  | negSucc m=>
    show @Bool.rec (fun _=>Int) (IntKind.i64.wrap (Int.negSucc m)) (Int.negSucc m) (Nat.ble m 9223372036854775807)=_;cases h:Nat.ble m 9223372036854775807 with
    | false=>rfl
    | true=>
      have:=Nat.le_of_ble_eq_true h;show Int.negSucc m=_;exact(wrap64 (by omega) (by omega)).symm
 .cases n with
  | ofNat m=>
    have:=Js .u64 (.ofNat m);simp only[I6]at this;rw[<-this];show @Bool.rec (fun _=>Int) _ _ _=_;cases Nat.ble m 18446744073709551615<;>rfl
  | negSucc m=>rfl
def zt (k:IntKind) (a b:Int):Int:=@Int.rec (fun _=>Int->IntKind->Int) (fun m b _=>Int.ofNat (Nat.shiftRight m (Nat.min (gU b) k.bits))) (fun m b k=>(Int.negSucc m).fdiv (2 ^ (min b.toNat k.bits))) a b k
def oj (k:IntKind) (a b:Int):zt k a b=a.fdiv (2 ^ (min b.toNat k.bits)):=by
 cases a with
 | negSucc m=>rfl
 | ofNat m=>
   show Int.ofNat (m >>> (min (gU b) k.bits))=_;rw[QL,Nat.shiftRight_eq_div_pow];have:(2:Int) ^ (min b.toNat k.bits)=((2 ^ (min b.toNat k.bits):Nat):Int):=by simp
   rw[this];exact(Int.ofNat_fdiv _ _)
def zw (k:IntKind) (a b:Int):Int:=@Int.rec (fun _=>Int->IntKind->Int) (fun m b _=>Int.ofNat (Nat.shiftLeft m (Nat.min (gU b) k.bits))) (fun m b k=>(Int.negSucc m)*(2 ^ (min b.toNat k.bits))) a b k
def om (k:IntKind) (a b:Int):zw k a b=a*(2 ^ (min b.toNat k.bits)):=by
 cases a with
 | negSucc m=>rfl
 | ofNat m=>
   show Int.ofNat (m <<< (min (gU b) k.bits))=_;rw[QL,Nat.shiftLeft_eq];simp
def asI (v:V) (K:IntKind->Int->Al):Al:=@V.rec (fun _=>(IntKind->Int->Al)->Al) (fun _=>Unit) (fun _=>Unit) (fun _ K=>none) (fun k n K=>K k n) (fun _ K=>none) (fun K=>none) (fun _ _ K=>none) (fun _ _ K=>none) (fun _ _ _ K=>none) (fun _ _ _ K=>none) (fun _ _ _ _ K=>none) (fun _ _ _ _ K=>none) (fun _ K=>none) (fun K=>none) (fun _ _ _ _ _ K=>none) (fun K=>none) (fun _ _ _ K=>none) (fun K=>none) (fun _ _ K=>none) (fun _ _ K=>none) (fun K=>none) () (fun _ _ _ _=>()) () (fun _ _ _ _=>()) v K
def isI:V->Option (IntKind×Int)| .i k n=>some (k,n)|_=>none
def Y7 (v:V) (K:IntKind->Int->Al):asI v K=ob (isI v) fun p=>K p.1 p.2:=by cases v<;>rfl
def oN (op:BinOp) (vx vy:V) (K:V->Al):Al:=asI vx fun ka a=>asI vy fun kb b=>@BinOp.rec (fun _=>IntKind->Int->IntKind->Int->(V->Al)->Al) (fun ka a kb b K=>@Bool.rec (fun _=>Al) none (K (.i ka (Z9 ka (AAL a b)))) (NW ka kb)) (fun ka a kb b K=>@Bool.rec (fun _=>Al) none (K (.i ka (Z9 ka (zq a b)))) (NW ka kb)) (fun ka a kb b K=>ob (Vu .mul (.i ka a) (.i kb b)) K) (fun ka a kb b K=>ob (Vu .quo (.i ka a) (.i kb b)) K) (fun ka a kb b K=>ob (Vu .rem (.i ka a) (.i kb b)) K) (fun ka a kb b K=>@Bool.rec (fun _=>Al) none (K (.i ka (QG .and ka a b))) (NW ka kb)) (fun ka a kb b K=>@Bool.rec (fun _=>Al) none (K (.i ka (QG .or ka a b))) (NW ka kb)) (fun ka a kb b K=>@Bool.rec (fun _=>Al) none (K (.i ka (QG .xor ka a b))) (NW ka kb)) (fun ka a kb b K=>@Bool.rec (fun _=>Al) none (K (.i ka (Z9 ka (zw ka a b)))) (UB (gL b 0))) (fun ka a kb b K=>@Bool.rec (fun _=>Al) none (K (.i ka (zt ka a b))) (UB (gL b 0))) (fun ka a kb b K=>@Bool.rec (fun _=>Al) none (K (.i ka (QG .andNot ka a b))) (NW ka kb)) (fun ka a kb b K=>@Bool.rec (fun _=>Al) none (K (.b (eqI a b))) (NW ka kb)) (fun ka a kb b K=>@Bool.rec (fun _=>Al) none (K (.b (UB (eqI a b)))) (NW ka kb)) (fun ka a kb b K=>@Bool.rec (fun _=>Al) none (K (.b (gL a b))) (NW ka kb)) (fun ka a kb b K=>@Bool.rec (fun _=>Al) none (K (.b (UB (gL b a)))) (NW ka kb)) (fun ka a kb b K=>@Bool.rec (fun _=>Al) none (K (.b (gL b a))) (NW ka kb)) (fun ka a kb b K=>@Bool.rec (fun _=>Al) none (K (.b (UB (gL a b)))) (NW ka kb)) op ka a kb b K
def rK (op:BinOp) (vx vy:V) (K:V->Al):oN op vx vy K=ob (Vu op vx vy) K:=by
 unfold oN;rw[Y7];cases vx<;>first|rfl|skip
 rename_i ka a;simp only[isI,ob];rw[Y7];cases vy<;>first|(cases op<;>rfl)|skip
 rename_i kb b;simp only[isI,ob];cases op<;>first|rfl|skip
 all_goals
  simp only[Vu];simp only[BU,qh,lA,rX,oa,vC,UQ,pS,om,oj,Js,Pu,ob]
  first
   | (cases decide (ka=kb)<;>rfl)
   | (cases NO b 0<;>rfl)
def dH {α:Type} (t:Tr α) (k:Nat):Option α:=@Tr.rec α (fun _=>Nat->Option α) (fun _=>none) (fun o _ _ ihl ihr k=>@Nat.rec (fun _=>Option α) o (fun j _=>@Bool.rec (fun _=>Option α) (ihr (Nat.div j 2)) (ihl (Nat.div j 2)) (Nat.beq (Nat.mod j 2) 0)) k) t k
def U6 {α:Type} (t:Tr α): ∀k:Nat,dH t k=t.get k:=by
 induction t with
 | leaf=>intro k;rfl
 | node o l r ihl ihr=>
   intro k;cases k with
   | zero=>rfl
   | succ j=>
     show @Bool.rec (fun _=>Option α) (dH r (j / 2)) (dH l (j / 2)) (Nat.beq (j % 2) 0)=bif Nat.beq (j % 2) 0 then l.get (j / 2)else r.get (j / 2);rw[ihl,ihr];cases Nat.beq (j % 2) 0<;>rfl
def T8 {α β:Type} (x:Option α) (d:Nat) (t:Tr α) (k:Nat) (K:Tr α->β):β:=
 @Nat.rec (fun _=>Tr α->Nat->(Tr α->β)->β) (fun t _ K=>K t)
  (fun _ ih t k K=>@Tr.rec α (fun _=>Nat->(Tr α->β)->β)
   (fun k K=>@Nat.rec (fun _=>β) (K (.node x .leaf .leaf)) (fun j _=>@Bool.rec (fun _=>β) (ih .leaf (Nat.div j 2) fun r=>K (.node none .leaf r)) (ih .leaf (Nat.div j 2) fun l=>K (.node none l .leaf)) (Nat.beq (Nat.mod j 2) 0)) k)
   (fun o l r _ _ k K=>@Nat.rec (fun _=>β) (K (.node x l r)) (fun j _=>@Bool.rec (fun _=>β) (ih r (Nat.div j 2) fun r=>K (.node o l r)) (ih l (Nat.div j 2) fun l=>K (.node o l r)) (Nat.beq (Nat.mod j 2) 0)) k) t k K) d t k K
def HD {α β:Type} (x:Option α): ∀(d:Nat) (t:Tr α) (k:Nat) (K:Tr α->β),T8 x d t k K=Tr.put x d t k K
 | 0,t,k,K=>rfl
 | d+1,.leaf,0,K=>rfl
 | d+1,.node _ _ _,0,K=>rfl
 | d+1,.leaf,j+1,K=>by
   show @Bool.rec (fun _=>β) (T8 x d .leaf (j / 2) fun r=>K (.node none .leaf r)) (T8 x d .leaf (j / 2) fun l=>K (.node none l .leaf)) (Nat.beq (j % 2) 0)=bif Nat.beq (j % 2) 0 then _ else _;rw[HD x d,HD x d,BU]
 | d+1,.node o l r,j+1,K=>by
   show @Bool.rec (fun _=>β) (T8 x d r (j / 2) fun r=>K (.node o l r)) (T8 x d l (j / 2) fun l=>K (.node o l r)) (Nat.beq (j % 2) 0)=bif Nat.beq (j % 2) 0 then _ else _;rw[HD x d,HD x d,BU]
def gq (s:St) (o:EO) (K:Nat->St->Al):Al:=@Nat.rec (fun _=>Al) (T8 (some o) A8 s.t 0 fun t=>K 0 ⟨1,t⟩) (fun n _=>@Bool.rec (fun _=>Al) none (T8 (some o) A8 s.t (Nat.succ n) fun t=>K (Nat.succ n) ⟨Nat.succ (Nat.succ n),t⟩) (Nat.ble (Nat.succ n) NV)) s.nx
def pX {γ:Type} (s:St) (o:EO) (f:Nat->St->Option γ) (K:γ->Al):ob (s.new o f) K=gq s o fun i s'=>ob (f i s') K:=by
 obtain⟨n,t⟩:=s;cases n with
 | zero=>
   unfold gq;simp only[St.new];rw[HD,Tr.put_eq,Tr.put_eq];rfl
 | succ n=>
   unfold gq;simp only[St.new];rw[HD,Tr.put_eq,Tr.put_eq,BU,LN]
def AAg (o:EO) (K:List V->Al):Al:=@EO.rec (fun _=>(List V->Al)->Al) (fun vs K=>K vs) (fun _ _ _=>none) (fun _ _=>none) (fun _ _ _ _ _ _=>none) o K
def uE (o:EO) (K:Nat->List (List V)->Al):Al:=@EO.rec (fun _=>(Nat->List (List V)->Al)->Al) (fun _ _=>none) (fun sz es K=>K sz es) (fun _ _=>none) (fun _ _ _ _ _ _=>none) o K
def obQ {α:Type} (o:Option α) (K:α->Al):Al:=@Option.rec α (fun _=>(α->Al)->Al) (fun _=>none) (fun a K=>K a) o K
def jP {α:Type} (o:Option α) (K:α->Al):obQ o K=ob o K:=by cases o<;>rfl
def aN (s:St) (n:Nat) (K:List V->Al):Al:=obQ (dH s.t n) fun o=>AAg o K
def UW (s:St) (n:Nat) (K:Nat->List (List V)->Al):Al:=obQ (dH s.t n) fun o=>uE o K
def XI (s:St) (n:Nat) (K:List V->Al):aN s n K=match s.t.get n with|some (.cs vs)=>K vs|_=>none:=by
 unfold aN;rw[jP,U6];cases s.t.get n with
 | none=>rfl
 | some o=>cases o<;>rfl
def TY (s:St) (n:Nat) (K:Nat->List (List V)->Al):UW s n K=match s.t.get n with|some (.arr sz es)=>K sz es|_=>none:=by
 unfold UW;rw[jP,U6];cases s.t.get n with
 | none=>rfl
 | some o=>cases o<;>rfl
def Ya (agg:Option Nat) (cs:List V) (off:Nat) (K:V->Al):Al:=@Option.rec Nat (fun _=>List V->Nat->(V->Al)->Al) (fun cs off K=>UA cs off K)
 (fun n cs off K=>@Bool.rec (fun _=>Al) (@Bool.rec (fun _=>Al) none (K (.a (aE (WR cs off) n))) (Nat.ble (Nat.add off n) (GX cs))) (K (.a cs)) (@Bool.rec (fun _=>Bool) false (Nat.beq n (GX cs)) (Nat.beq off 0))) agg cs off K
def Ph (agg:Option Nat) (cs:List V) (off:Nat) (K:V->Al):Ya agg cs off K=ob (Vs agg cs off) K:=by
 cases agg with
 | none=>exact MG cs off K
 | some n=>
   show @Bool.rec (fun _=>Al) (@Bool.rec (fun _=>Al) none (K (.a (aE (WR cs off) n))) (Nat.ble (off+n) (GX cs))) (K (.a cs)) (@Bool.rec (fun _=>Bool) false (Nat.beq n (GX cs)) (Nat.beq off 0))=_;simp only[Vs];rw[lI,Qz,Fe,LN];cases h1:Nat.beq off 0 with
   | false=>exact BU _ _ _
   | true=>
     cases h2:Nat.beq n cs.length with
     | false=>exact BU _ _ _
     | true=>
       have:=DD h1;subst this;have:=DD h2;subst this;show K (.a cs)=_;rw[Nat.ble_eq_true_of_le (by omega)];simp[ob]
def iP (s:St) (agg:Option Nat) (x:V) (K:V->Al):Al:=@V.rec (fun _=>St->Option Nat->(V->Al)->Al) (fun _=>Unit) (fun _=>Unit) (fun _ s agg K=>none) (fun _ _ s agg K=>none) (fun _ s agg K=>none) (fun s agg K=>none) (fun n off s agg K=>aN s n fun vs=>Ya agg vs off K) (fun cs _ s agg K=>Ya agg cs 0 K) (fun _ _ _ s agg K=>none) (fun _ _ _ s agg K=>none) (fun _ _ _ _ s agg K=>none) (fun n sz i off s agg K=>UW s n fun sz1 es=>@Bool.rec (fun _=>Al) none (UA es i fun e=>Ya agg e off K) (Nat.beq sz sz1)) (fun _ s agg K=>none) (fun s agg K=>none) (fun _ _ _ _ _ s agg K=>none) (fun s agg K=>none) (fun _ _ _ s agg K=>none) (fun s agg K=>none) (fun _ _ s agg K=>none) (fun _ _ s agg K=>none) (fun s agg K=>none) () (fun _ _ _ _=>()) () (fun _ _ _ _=>()) x s agg K
def mF (s:St) (agg:Option Nat) (x:V) (K:V->Al):iP s agg x K=ob (Oe s agg x) K:=by
 cases x<;>first|rfl|skip
 .rename_i n off
  refine(XI _ _ _).trans ?_;simp only[Oe];cases s.t.get n with
  | none=>rfl
  | some o=>cases o<;>first|rfl|exact Ph _ _ _ _
 .exact Ph _ _ _ _
 .rename_i n sz i off
  refine(TY _ _ _).trans ?_;simp only[Oe];cases s.t.get n with
  | none=>rfl
  | some o=>
    cases o<;>first|rfl|skip
    rename_i sz1 es;simp only;rw[BU,LN,MG];congr 1;cases es[i]? with
    | none=>rfl
    | some e=>exact Ph _ _ _ _
def He (v:V) (K:List V->Al):Al:=@V.rec (fun _=>V->(List V->Al)->Al) (fun _=>Unit) (fun _=>Unit) (fun _ v K=>K [v]) (fun _ _ v K=>K [v]) (fun _ v K=>K [v]) (fun v K=>K [v]) (fun _ _ v K=>K [v]) (fun _ _ v K=>K [v]) (fun _ _ _ v K=>K [v]) (fun _ _ _ v K=>K [v]) (fun _ _ _ _ v K=>K [v]) (fun _ _ _ _ v K=>K [v]) (fun _ v K=>K [v]) (fun v K=>K [v]) (fun _ _ _ _ _ v K=>K [v]) (fun v K=>K [v]) (fun _ _ _ v K=>K [v]) (fun v K=>K [v]) (fun cs _ v K=>K cs) (fun _ _ v K=>none) (fun v K=>none) () (fun _ _ _ _=>()) () (fun _ _ _ _=>()) v v K
def IX (v:V) (K:List V->Al):He v K=ob (cellsOf v) K:=by cases v<;>rfl
def zy (v:V):Bool:=@V.rec (fun _=>Bool) (fun _=>Unit) (fun _=>Unit) (fun _=>true) (fun _ _=>true) (fun _=>true) (true) (fun _ _=>true) (fun _ _=>true) (fun _ _ _=>true) (fun _ _ _=>true) (fun _ _ _ _=>true) (fun _ _ _ _=>true) (fun _=>true) (true) (fun _ _ _ _ _=>true) (true) (fun _ _ _=>true) (true) (fun _ _=>false) (fun _ _=>false) (false) () (fun _ _ _ _=>()) () (fun _ _ _ _=>()) v
def pO:zy=CN:=funext fun v=>by cases v<;>rfl
def gi (cs:List V) (o:Nat) (vc:List V):List V:=@List.rec V (fun _=>List V->Nat->List V) (fun cs _=>cs) (fun v _ ih cs o=>ih (YS cs o v) (Nat.succ o)) vc cs o
def PV: ∀(vc cs:List V) (o:Nat),gi cs o vc=putAt cs o vc
 | [],_,_=>rfl
 | v::r,cs,o=>by
   show gi (YS cs o v) (o+1) r=_;rw[PV r,Ur];rfl
def oE (cs:List V) (o:Nat) (vc:List V):List V:=@Bool.rec (fun _=>List V) (gi cs o vc) vc (@Bool.rec (fun _=>Bool) false (Nat.beq (GX vc) (GX cs)) (Nat.beq o 0))
def dw: ∀(vc pre cs:List V),vc.length=cs.length->putAt (pre++cs) pre.length vc=pre++vc:=by
 intro vc
 induction vc with
 | nil=>intro pre cs hl;cases cs with
   | nil=>rfl
   | cons _ _=>cases hl
 | cons x vc ih=>
   intro pre cs hl;cases cs with
   | nil=>cases hl
   | cons y cs=>
     simp only[putAt];rw[List.set_append_right _ _ (Ia _),Nat.sub_self,List.set_cons_zero];have:=ih (pre++[x]) cs (by simpa using hl);simp only[SB,Lr,List.length_nil,Gu,Ps,List.singleton_append]at this;exact this
def bE (cs:List V) (o:Nat) (vc:List V):oE cs o vc=putAt cs o vc:=by
 unfold oE;cases h1:Nat.beq o 0 with
 | false=>exact PV vc cs o
 | true=>
   rw[Fe,Fe];cases h2:Nat.beq vc.length cs.length with
   | false=>exact PV vc cs o
   | true=>
     have:=DD h1;subst this;exact(dw vc [] cs (DD h2)).symm
def iz (s:St) (sz:Nat) (a:V) (vc:List V) (K:St->Al):Al:=@V.rec (fun _=>St->Nat->List V->(St->Al)->Al) (fun _=>Unit) (fun _=>Unit) (fun _ s sz vc K=>none) (fun _ _ s sz vc K=>none) (fun _ s sz vc K=>none) (fun s sz vc K=>none) (fun n off s sz vc K=>aN s n fun vs=>@Bool.rec (fun _=>Al) none (T8 (some (.cs (oE vs off vc))) A8 s.t n fun t=>K ⟨s.nx,t⟩) (Nat.ble (Nat.add off sz) (GX vs))) (fun _ _ s sz vc K=>none) (fun _ _ _ s sz vc K=>none) (fun _ _ _ s sz vc K=>none) (fun _ _ _ _ s sz vc K=>none) (fun n s' i off s sz vc K=>UW s n fun s1 es=>@Bool.rec (fun _=>Al) none (@Bool.rec (fun _=>Al) none (UA es i fun e=>T8 (some (.arr s1 (YS es i (oE e off vc)))) A8 s.t n fun t=>K ⟨s.nx,t⟩) (Nat.ble (Nat.add off sz) s')) (Nat.beq s' s1)) (fun _ s sz vc K=>none) (fun s sz vc K=>none) (fun _ _ _ _ _ s sz vc K=>none) (fun s sz vc K=>none) (fun _ _ _ s sz vc K=>none) (fun s sz vc K=>none) (fun _ _ s sz vc K=>none) (fun _ _ s sz vc K=>none) (fun s sz vc K=>none) () (fun _ _ _ _=>()) () (fun _ _ _ _=>()) a s sz vc K
def UK (s:St) (sz:Nat) (a x:V) (K:St->Al):Al:=He x fun vc=>@Bool.rec (fun _=>Al) none (@Bool.rec (fun _=>Al) none (iz s sz a vc K) (tX zy vc)) (Nat.beq (GX vc) sz)
def dX (s : St) (sz:Nat) (a x:V) (K:St->Al):UK s sz a x K=ob (QT s sz a x) K:=by
 unfold UK QT;rw[IX];cases cellsOf x with
 | none=>rfl
 | some vc =>
   simp only[ob,Fe,rR,pO];cases Nat.beq vc.length sz with
   | false=>rfl
   | true=>
     cases vc.all CN with
     | false=>rfl
     | true=>
       simp only[Bool.and_true,cond_true];show iz s sz a vc K=_;cases a<;>first|rfl|skip
       .rename_i n off
        refine(XI _ _ _).trans ?_;simp only;cases s.t.get n with
        | none=>rfl
        | some o=>
          cases o<;>first|rfl|skip
          rename_i vs;simp only;rw[HD,Tr.put_eq,bE,Fe,BU,Tr.put_eq];show(bif Nat.ble (off+sz) vs.length then _ else none)=_;cases Nat.ble (off+sz) vs.length<;>rfl
       .rename_i n s' i off
        refine(TY _ _ _).trans ?_;simp only;cases s.t.get n with
        | none=>rfl
        | some o=>
          cases o<;>first|rfl|skip
          rename_i s1 es;simp only;rw[BU,BU,MG];show(bif Nat.beq s' s1 then(bif Nat.ble (off+sz) s' then _ else none)else none)=_;cases Nat.beq s' s1<;>cases Nat.ble (off+sz) s'<;>try rfl
          simp only[cond_true,Bool.and_true];cases es[i]? with
          | none=>rfl
          | some e=>
            simp only[ob];rw[HD,Tr.put_eq,bE,Ur,Tr.put_eq]
def Yv (off:Nat) (x:V) (K:V->Al):Al:=@V.rec (fun _=>Nat->(V->Al)->Al) (fun _=>Unit) (fun _=>Unit) (fun _ off K=>none) (fun _ _ off K=>none) (fun _ off K=>none) (fun off K=>none) (fun n o off K=>K (.p n (Nat.add o off))) (fun cs _ off K=>K (.rp (WR cs off))) (fun _ _ _ off K=>none) (fun _ _ _ off K=>none) (fun _ _ _ _ off K=>none) (fun n sz i o off K=>K (.pe n sz i (Nat.add o off))) (fun _ off K=>none) (fun off K=>none) (fun _ _ _ _ _ off K=>none) (fun off K=>none) (fun _ _ _ off K=>none) (fun off K=>none) (fun _ _ off K=>none) (fun _ _ off K=>none) (fun off K=>none) () (fun _ _ _ _=>()) () (fun _ _ _ _=>()) x off K
def fM (off:Nat) (x:V) (K:V->Al):Yv off x K=ob (Ud off x) K:=by
 cases x<;>first|rfl|skip
 show K (.rp (WR _ off))=_;rw[Qz];rfl
def ja (sz:Nat) (x:V) (j:Int) (K:V->Al):Al:=@V.rec (fun _=>Nat->Int->(V->Al)->Al) (fun _=>Unit) (fun _=>Unit) (fun _ sz j K=>none) (fun _ _ sz j K=>none) (fun _ sz j K=>none) (fun sz j K=>none) (fun _ _ sz j K=>none) (fun _ _ sz j K=>none) (fun es _ _ sz j K=>UA es (gU j) fun e=>@Bool.rec (fun _=>Al) none (K (.rp e)) (Nat.beq (GX e) sz)) (fun n len _ sz j K=>@Bool.rec (fun _=>Al) none (K (.pe n sz (gU j) 0)) (gL j (Int.ofNat len))) (fun n s off len sz j K=>@Bool.rec (fun _=>Al) none (@Bool.rec (fun _=>Al) none (K (.pe n sz (Nat.add off (gU j)) 0)) (gL j (Int.ofNat len))) (Nat.beq s sz)) (fun _ _ _ _ sz j K=>none) (fun _ sz j K=>none) (fun sz j K=>none) (fun _ _ _ _ _ sz j K=>none) (fun sz j K=>none) (fun _ _ _ sz j K=>none) (fun sz j K=>none) (fun _ _ sz j K=>none) (fun _ _ sz j K=>none) (fun sz j K=>none) () (fun _ _ _ _=>()) () (fun _ _ _ _=>()) x sz j K
def Ys (sz:Nat) (arr:Option Nat) (x i:V) (K:V->Al):Al:=@Option.rec Nat (fun _=>Nat->V->V->(V->Al)->Al) (fun sz x i K=>asI i fun _ j=>@Bool.rec (fun _=>Al) (ja sz x j K) none (gL j 0)) (fun m sz x i K=>ob (No sz (some m) x i) K) arr sz x i K
def eg (sz:Nat) (arr:Option Nat) (x i:V) (K:V->Al):Ys sz arr x i K=ob (No sz arr x i) K:=by
 cases arr with
 | some m=>rfl
 | none=>
   refine(Y7 _ _).trans ?_;cases i<;>first|rfl|skip
   rename_i k j;simp only[isI,ob,No,Pu,UQ];cases NO j 0 with
   | true=>rfl
   | false=>
     show ja sz x j K=_;cases x<;>first|rfl|skip
     .rename_i es full
      show UA es (gU j) _=_;rw[MG,QL];simp only[Bool.not_false,cond_true];cases es[j.toNat]? with
      | none=>rfl
      | some e=>
        simp only[ob,Fe];cases Nat.beq e.length sz<;>rfl
     .rename_i n len cap
      show @Bool.rec (fun _=>Al) none (K (.pe n sz (gU j) 0)) (gL j (Int.ofNat len))=_;rw[QL,UQ];simp only[Bool.not_false,cond_true];have:NO j (Int.ofNat len)=NO j (len:Int):=rfl;rw[this];cases NO j (len:Int)<;>rfl
     .rename_i n s off len
      show @Bool.rec (fun _=>Al) none (@Bool.rec (fun _=>Al) none (K (.pe n sz (off+gU j) 0)) (gL j (Int.ofNat len))) (Nat.beq s sz)=_;rw[QL,UQ];simp only[Bool.not_false,cond_true];have:NO j (Int.ofNat len)=NO j (len:Int):=rfl;rw[this];cases Nat.beq s sz<;>cases NO j (len:Int)<;>rfl
def tI (x:V) (K:V->Al):Al:=@V.rec (fun _=>(V->Al)->Al) (fun _=>Unit) (fun _=>Unit) (fun _ K=>none) (fun _ _ K=>none) (fun _ K=>none) (fun K=>none) (fun _ _ K=>none) (fun _ _ K=>none) (fun es _ _ K=>K (.i .i64 (Int.ofNat (GX es)))) (fun _ len _ K=>@Bool.rec (fun _=>Al) none (K (.i .i64 (Int.ofNat len))) (Nat.ble len Ae)) (fun _ _ _ len K=>@Bool.rec (fun _=>Al) none (K (.i .i64 (Int.ofNat len))) (Nat.ble len Ae)) (fun _ _ _ _ K=>none) (fun _ K=>none) (fun K=>none) (fun _ _ _ _ _ K=>none) (fun K=>none) (fun _ _ _ K=>none) (fun K=>none) (fun _ _ K=>none) (fun _ _ K=>none) (fun K=>none) () (fun _ _ _ _=>()) () (fun _ _ _ _=>()) x K
def pg (x:V) (K:V->Al):tI x K=ob (dJ x) K:=by
 cases x<;>first|rfl|skip
 .show K (.i .i64 (Int.ofNat (GX _)))=_
  rw[Fe];rfl
 .show @Bool.rec (fun _=>Al) none _ (Nat.ble _ Ae)=_
  rw[BU];simp only[dJ];rw[LN];rfl
 .show @Bool.rec (fun _=>Al) none _ (Nat.ble _ Ae)=_
  rw[BU];simp only[dJ];rw[LN];rfl
def Yl (x:V) (K:V->Al):Al:=@V.rec (fun _=>V->(V->Al)->Al) (fun _=>Unit) (fun _=>Unit) (fun _ x K=>none) (fun _ _ x K=>none) (fun _ x K=>none) (fun x K=>none) (fun _ _ x K=>K x) (fun _ _ x K=>K x) (fun _ _ _ x K=>none) (fun _ _ _ x K=>none) (fun _ _ _ _ x K=>none) (fun _ _ _ _ x K=>K x) (fun _ x K=>none) (fun x K=>none) (fun _ _ _ _ _ x K=>ob (Nn x) K) (fun x K=>none) (fun _ _ _ x K=>none) (fun x K=>none) (fun _ _ x K=>none) (fun _ _ x K=>none) (fun x K=>none) () (fun _ _ _ _=>()) () (fun _ _ _ _=>()) x x K
def eM (x:V) (K:V->Al):Yl x K=ob (Nn x) K:=by cases x<;>rfl
def asT (v:V) (K:List V->Al):Al:=@V.rec (fun _=>(List V->Al)->Al) (fun _=>Unit) (fun _=>Unit) (fun _ K=>none) (fun _ _ K=>none) (fun _ K=>none) (fun K=>none) (fun _ _ K=>none) (fun _ _ K=>none) (fun _ _ _ K=>none) (fun _ _ _ K=>none) (fun _ _ _ _ K=>none) (fun _ _ _ _ K=>none) (fun _ K=>none) (fun K=>none) (fun _ _ _ _ _ K=>none) (fun K=>none) (fun _ _ _ K=>none) (fun K=>none) (fun _ _ K=>none) (fun vs _ K=>K vs) (fun K=>none) () (fun _ _ _ _=>()) () (fun _ _ _ _=>()) v K
def rh (v:V) (K:Bool->Al):Al:=@V.rec (fun _=>(Bool->Al)->Al) (fun _=>Unit) (fun _=>Unit) (fun x K=>K x) (fun _ _ K=>none) (fun _ K=>none) (fun K=>none) (fun _ _ K=>none) (fun _ _ K=>none) (fun _ _ _ K=>none) (fun _ _ _ K=>none) (fun _ _ _ _ K=>none) (fun _ _ _ _ K=>none) (fun _ K=>none) (fun K=>none) (fun _ _ _ _ _ K=>none) (fun K=>none) (fun _ _ _ K=>none) (fun K=>none) (fun _ _ K=>none) (fun _ _ K=>none) (fun K=>none) () (fun _ _ _ _=>()) () (fun _ _ _ _=>()) v K
def asA (v:V) (K:List V->Al):Al:=@V.rec (fun _=>(List V->Al)->Al) (fun _=>Unit) (fun _=>Unit) (fun _ K=>none) (fun _ _ K=>none) (fun _ K=>none) (fun K=>none) (fun _ _ K=>none) (fun _ _ K=>none) (fun _ _ _ K=>none) (fun _ _ _ K=>none) (fun _ _ _ _ K=>none) (fun _ _ _ _ K=>none) (fun _ K=>none) (fun K=>none) (fun _ _ _ _ _ K=>none) (fun K=>none) (fun _ _ _ K=>none) (fun K=>none) (fun cs _ K=>K cs) (fun _ _ K=>none) (fun K=>none) () (fun _ _ _ _=>()) () (fun _ _ _ _=>()) v K
def YX (v:V) (K:V->Al):Al:=@V.rec (fun _=>V->(V->Al)->Al) (fun _=>Unit) (fun _=>Unit) (fun x v K=>@Bool.rec (fun _=>Al) (K (.b false)) (K (.b true)) x) (fun k n v K=>@Int.rec (fun _=>Al) (fun m=>@Nat.rec (fun _=>Al) (K (.i k (Int.ofNat 0))) (fun j _=>K (.i k (Int.ofNat (Nat.succ j)))) m) (fun m=>@Nat.rec (fun _=>Al) (K (.i k (Int.negSucc 0))) (fun j _=>K (.i k (Int.negSucc (Nat.succ j)))) m) n) (fun _ v K=>K v) (fun v K=>K v) (fun _ _ v K=>K v) (fun _ _ v K=>K v) (fun _ _ _ v K=>K v) (fun _ _ _ v K=>K v) (fun _ _ _ _ v K=>K v) (fun _ _ _ _ v K=>K v) (fun _ v K=>K v) (fun v K=>K v) (fun _ _ _ _ _ v K=>K v) (fun v K=>K v) (fun _ _ _ v K=>K v) (fun v K=>K v) (fun _ _ v K=>K v) (fun _ _ v K=>K v) (fun v K=>K v) () (fun _ _ _ _=>()) () (fun _ _ _ _=>()) v v K
def bn (v:V) (K:V->Al):YX v K=K v:=by
 cases v<;>first|rfl|skip
 .rename_i x;cases x<;>rfl
 .rename_i k n
  cases n with
  | ofNat m=>cases m<;>rfl
  | negSucc m=>cases m<;>rfl
def fin (o:Option (R×St)) (k kp:V->St->Al):Al:=match o with
 | some (.ret v,s)=>k v s
 | some (.Bh v,s)=>kp v s
 | none=>none
def CO (o:Option (R×St)) (k kp:V->St->Al):Al:=@Option.rec (R×St) (fun _=>(V->St->Al)->(V->St->Al)->Al) (fun _ _=>none) (fun p k kp=>@R.rec (fun _=>St->(V->St->Al)->(V->St->Al)->Al) (fun v s k _=>k v s) (fun v s _ kp=>kp v s) p.1 p.2 k kp) o k kp
def Bu (o:Option (R×St)) (k kp:V->St->Al):CO o k kp=fin o k kp:=by
 cases o with
 | none=>rfl
 | some p=>
   obtain⟨r,s⟩:=p;cases r<;>rfl
def Hb (o:Option V) (s:St) (k kp:V->St->Al):fin (ov o s) k kp=ob o fun v=>k v s:=by cases o<;>rfl
def vB (o:Option St) (k kp:V->St->Al):fin (os o) k kp=ob o fun s=>k (.t []) s:=by cases o<;>rfl
def BY {α:Type} (o:Option α) (f:α->Option (R×St)) (k kp:V->St->Al):fin (ob o f) k kp=ob o fun a=>fin (f a) k kp:=by cases o<;>rfl
abbrev OK:=CF->CV->CP->CQ->St->(V->St->Al)->(V->St->Al)->Al
def UY (e:CQ) (ps:List (Nat×Nat×Bo)) (cs:List V) (K:List V->Al):Al:=@List.rec (Nat×Nat×Bo) (fun _=>List V->(List V->Al)->Al) (fun cs K=>K cs)
 (fun p _ ih cs K=>Bz p.2.2 e fun v=>He v fun vc=>@Bool.rec (fun _=>Al) none (@Bool.rec (fun _=>Al) none (ih (gi cs p.1 vc) K) (Nat.ble (Nat.add p.1 p.2.1) (GX cs))) (Nat.beq (GX vc) p.2.1)) ps cs K
def Tg {e : CQ} {env:Env} (he:JW e env): ∀(ps:List (Nat×Nat×Bo)) (cs:List V) (K:List V->Al),UY e ps cs K=ob (Np env cs ps) K
 | [],cs,K=>rfl
 | (off, sz,x)::r,cs,K=>by
   show(Bz x e fun v=>He v fun vc=>@Bool.rec (fun _=>Al) none (@Bool.rec (fun _=>Al) none (UY e r (gi cs off vc) K) (Nat.ble (off+sz) (GX cs))) (Nat.beq (GX vc) sz))=_;rw[BI he];simp only[Np];cases Dh env x with
   | none=>rfl
   | some v=>
     simp only[ob];rw[IX];cases cellsOf v with
     | none=>rfl
     | some vc=>
       simp only[ob,Fe,PV];cases Nat.beq vc.length sz with
       | false=>rfl
       | true=>
         cases Nat.ble (off+sz) cs.length with
         | false=>rfl
         | true=>exact Tg he r _ K
def UZ (e:CQ) (sz:Nat) (ps:List (Nat×Bo)) (es:List (List V)) (K:List (List V)->Al):Al:=@List.rec (Nat×Bo) (fun _=>List (List V)->(List (List V)->Al)->Al) (fun es K=>K es)
 (fun p _ ih es K=>Bz p.2 e fun v=>He v fun vc=>@Bool.rec (fun _=>Al) none (@Bool.rec (fun _=>Al) none (ih (YS es p.1 vc) K) (Nat.ble (Nat.succ p.1) (GX es))) (Nat.beq (GX vc) sz)) ps es K
def Ti {e : CQ} {env:Env} (he:JW e env) (sz:Nat): ∀(ps:List (Nat×Bo)) (es:List (List V)) (K:List (List V)->Al),UZ e sz ps es K=ob (Nq env sz es ps) K
 | [],es,K=>rfl
 | (i, x)::r,es,K=>by
   show(Bz x e fun v=>He v fun vc=>@Bool.rec (fun _=>Al) none (@Bool.rec (fun _=>Al) none (UZ e sz r (YS es i vc) K) (Nat.ble (Nat.succ i) (GX es))) (Nat.beq (GX vc) sz))=_;rw[BI he];simp only[Nq];cases Dh env x with
   | none=>rfl
   | some v=>
     simp only[ob];rw[IX];cases cellsOf v with
     | none=>rfl
     | some vc=>
       simp only[ob,Fe,Ur,Nat.blt,Nat.succ_eq_add_one];cases Nat.beq vc.length sz with
       | false=>rfl
       | true=>
         cases Nat.ble (i+1) es.length with
         | false=>rfl
         | true=>exact Ti he sz r _ K
def opK (o:F6):OK:=@F6.rec (fun _=>OK)
 (fun x cf cv cp env s kk kp=>Bz x env fun v=>kk v s)
 (fun x cf cv cp env s kk kp=>Bz x env fun v=>kk v s)
 (fun c a b cf cv cp env s kk kp=>Bz c env fun vc=>Bz a env fun va=>Bz b env fun vb=>rh vc fun t=>@Bool.rec (fun _=>Al) (kk vb s) (kk va s) t)
 (fun op x y cf cv cp env s kk kp=>Bz x env fun vx=>Bz y env fun vy=>oN op vx vy fun v=>kk v s)
 (fun neg x y cf cv cp env s kk kp=>Bz x env fun vx=>Bz y env fun vy=>CO (match vx,vy with| .b p,.b q=>some (.ret (.b (bif neg then p != q else p==q)),s)|_,_=>none) kk kp)
 (fun len neg x y cf cv cp env s kk kp=>Bz x env fun vx=>Bz y env fun vy=>CO (ov (iC len neg vx vy) s) kk kp)
 (fun kind neg x cf cv cp env s kk kp=>Bz x env fun vx=>CO (ov (iB kind neg vx) s) kk kp)
 (fun x cf cv cp env s kk kp=>Bz x env fun vx=>rh vx fun p=>kk (.b (UB p)) s)
 (fun xor x cf cv cp env s kk kp=>Bz x env fun vx=>CO (match vx with| .i ka a=>some (.ret (.i ka (bif xor then bits .xor ka (bif ka.signed then -1 else ka.max) a else ka.wrap (0 - a))),s)|_=>none) kk kp)
 (fun k x cf cv cp env s kk kp=>Bz x env fun vx=>CO (match vx with| .i _ a=>some (.ret (.i k (I6 k a)),s)|_=>none) kk kp)
 (fun x cf cv cp env s kk kp=>Bz x env fun vx=>He vx fun cs=>gq s (.cs cs) fun i s=>kk (.p i 0) s)
 (fun x cf cv cp env s kk kp=>Bz x env fun vx=>He vx fun cs=>kk (.rp cs) s)
 (fun sz bytes x y cf cv cp env s kk kp=>Bz x env fun vx=>Bz y env fun vy=>CO (ov (WQ bytes s sz vx vy) s) kk kp)
 (fun zero cf cv cp env s kk kp=>CO (bif CH zero then s.new (.cs zero) fun i s=>some (.ret (.p i 0),s)else none) kk kp)
 (fun zero parts cf cv cp env s kk kp=>@Bool.rec (fun _=>Al) none (UY env parts zero fun cs=>kk (.a cs) s) (CH zero))
 (fun sz len zero parts cf cv cp env s kk kp=>@Bool.rec (fun _=>Al) none (UZ env (GX zero) parts (List.replicate len zero) fun es=>kk (.l es true) s) (CH zero))
 (fun agg x cf cv cp env s kk kp=>Bz x env fun vx=>iP s agg vx fun v=>kk v s)
 (fun sz a x cf cv cp env s kk kp=>Bz a env fun va=>Bz x env fun vx=>UK s sz va vx fun s=>kk (.t []) s)
 (fun off x cf cv cp env s kk kp=>Bz x env fun vx=>Yv off vx fun v=>kk v s)
 (fun agg off x cf cv cp env s kk kp=>Bz x env fun vx=>asA vx fun cs=>Ya agg cs off fun v=>kk v s)
 (fun sz arr x i cf cv cp env s kk kp=>Bz x env fun vx=>Bz i env fun vi=>Ys sz arr vx vi fun v=>kk v s)
 (fun len sz agg x i cf cv cp env s kk kp=>Bz x env fun vx=>Bz i env fun vi=>CO (ov (QV len sz agg vx vi) s) kk kp)
 (fun sz x lo hi mx cf cv cp env s kk kp=>Bz x env fun vx=>YV lo env fun l=>YV hi env fun h=>YV mx env fun m=>CO (cq (QU s sz vx l h m)) kk kp)
 (fun x cf cv cp env s kk kp=>Bz x env fun vx=>tI vx fun v=>kk v s)
 (fun x cf cv cp env s kk kp=>Bz x env fun vx=>CO (ov (WN s vx) s) kk kp)
 (fun x cf cv cp env s kk kp=>Bz x env fun vx=>CO (ov (iA s vx) s) kk kp)
 (fun x i cf cv cp env s kk kp=>Bz x env fun vx=>Bz i env fun vi=>CO (ov (WL vx vi) s) kk kp)
 (fun sz bytes x y cf cv cp env s kk kp=>Bz x env fun vx=>Bz y env fun vy=>CO (cq (MR bytes s sz vx vy)) kk kp)
 (fun sz x y cf cv cp env s kk kp=>Bz x env fun vx=>Bz y env fun vy=>CO (cq (WO s sz vx vy)) kk kp)
 (fun x y cf cv cp env s kk kp=>Bz x env fun vx=>Bz y env fun vy=>CO (match vx,vy with| .i ka a,.i kb b=>bif decide (ka=kb)then some (.ret (.i ka (bif NO a b then b else a)),s)else none|_,_=>none) kk kp)
 (fun x y cf cv cp env s kk kp=>Bz x env fun vx=>Bz y env fun vy=>CO (match vx,vy with| .i ka a,.i kb b=>bif decide (ka=kb)then some (.ret (.i ka (bif NO b a then b else a)),s)else none|_,_=>none) kk kp)
 (fun i x cf cv cp env s kk kp=>Bz x env fun vx=>asT vx fun vs=>UA vs i fun v=>kk v s)
 (fun x cf cv cp env s kk kp=>Bz x env fun vx=>Yl vx fun v=>kk v s)
 (fun f first cap cf cv cp env s kk kp=>Ly first env fun vf=>Ly cap env fun vc=>@Bool.rec (fun _=>Al) none (kk (.f f vf vc) s) (Nf f))
 (fun cf cv cp env s kk kp=>CO (s.new (.map []) fun i s=>some (.ret (.m i),s)) kk kp)
 (fun sz bytes zero len cap cf cv cp env s kk kp=>Bz len env fun vx=>Bz cap env fun vy=>CO (cq (Jy s sz zero vx vy)) kk kp)
 (fun ks zero ok m k cf cv cp env s kk kp=>Bz m env fun vm=>Bz k env fun vk=>CO (ov (MP s ks zero ok vm vk) s) kk kp)
 (fun ks m k v cf cv cp env s kk kp=>Bz m env fun vm=>Bz k env fun vk=>Bz v env fun vx=>CO (os (MO s ks vm vk vx)) kk kp)
 (fun t x cf cv cp env s kk kp=>Bz x env fun vx=>kk (.FF t vx) s)
 (fun t zero ok x cf cv cp env s kk kp=>Bz x env fun vx=>CO (ov (hZ t zero ok vx) s) kk kp)
 (fun x cf cv cp env s kk kp=>Bz x env fun vx=>CO (match vx with| .FF t v=>some (.Bh (.FF t v),s)|_=>none) kk kp)
 (fun f args cf cv cp env s kk kp=>Ly args env fun vs=>CO (cf f vs s) kk kp)
 (fun f args cf cv cp env s kk kp=>Ly args env fun vs=>CO (ov (cp f vs) s) kk kp)
 (fun x args cf cv cp env s kk kp=>Bz x env fun vx=>Ly args env fun vs=>CO (cv vx vs s) kk kp)
 (fun x args cf cv cp env s kk kp=>none)
 (fun tab x args cf cv cp env s kk kp=>Bz x env fun vx=>Ly args env fun vs=>CO (match vx with| .FF t v=>ob (look t tab) fun f=>cf f (v::vs) s|_=>none) kk kp) o
def lh {vc va vb:V} {s:St} {kk kp:V->St->Al}:rh vc (fun t=>@Bool.rec (fun _=>Al) (kk vb s) (kk va s) t)=fin (match vc with| .b t=>some (.ret (bif t then va else vb),s)|_=>none) kk kp:=by
 cases vc<;>first|rfl|skip
 rename_i t;cases t<;>rfl
def not_eq {vx:V} {s:St} {kk kp:V->St->Al}:rh vx (fun p=>kk (.b (UB p)) s)=fin (match vx with| .b p=>some (.ret (.b (!p)),s)|_=>none) kk kp:=by
 cases vx<;>first|rfl|skip
 rename_i t;cases t<;>rfl
def VA {c:Bool} {x:Option (R×St)} {kk kp:V->St->Al}:fin (bif c then x else none) kk kp=bif c then fin x kk kp else none:=by cases c<;>rfl
def jO {e:CQ} {env:Env} (he:JW e env) (o:F6) (cf:CF) (cv:CV) (cp:CP) (s:St) (kk kp:V->St->Al):opK o cf cv cp e s kk kp=fin (F5 cf cv cp o env s) kk kp:=by
 cases o with
 | mv x=>
   show(Bz x e fun v=>kk v s)=_;simp only[BI he,F5,Hb]
 | nk x=>
   show(Bz x e fun v=>kk v s)=_;simp only[BI he,F5,Hb]
 | pick c a b=>
   show(Bz c e fun vc=>Bz a e fun va=>Bz b e fun vb=>rh vc fun t=>@Bool.rec (fun _=>Al) (kk vb s) (kk va s) t)=_;simp only[BI he,F5,BY,lh (kp:=kp)];rfl
 | bin op x y=>
   show(Bz x e fun vx=>Bz y e fun vy=>oN op vx vy fun v=>kk v s)=_;simp only[BI he,F5,BY,Hb,rK]
 | nu neg x y=>
   show(Bz x e fun vx=>Bz y e fun vy=>CO (match vx,vy with| .b p,.b q=>some (.ret (.b (bif neg then p != q else p==q)),s)|_,_=>none) kk kp)=_;simp only[BI he,Bv he,B8 he,F5,BY,Bu]
   try rfl
 | nt len neg x y=>
   show(Bz x e fun vx=>Bz y e fun vy=>CO (ov (iC len neg vx vy) s) kk kp)=_;simp only[BI he,Bv he,B8 he,F5,BY,Bu]
   try rfl
 | gO kind neg x=>
   show(Bz x e fun vx=>CO (ov (iB kind neg vx) s) kk kp)=_;simp only[BI he,Bv he,B8 he,F5,BY,Bu]
   try rfl
 | not x=>
   show(Bz x e fun vx=>rh vx fun p=>kk (.b (UB p)) s)=_;simp only[BI he,F5,BY,not_eq (kp:=kp)];rfl
 | neg xor x=>
   show(Bz x e fun vx=>CO (match vx with| .i ka a=>some (.ret (.i ka (bif xor then bits .xor ka (bif ka.signed then -1 else ka.max) a else ka.wrap (0 - a))),s)|_=>none) kk kp)=_;simp only[BI he,Bv he,B8 he,F5,BY,Bu]
   try rfl
 | conv k x=>
   show(Bz x e fun vx=>CO (match vx with| .i _ a=>some (.ret (.i k (I6 k a)),s)|_=>none) kk kp)=_;simp only[BI he,Bv he,B8 he,F5,BY,Bu]
   try rfl
 | box x=>
   show(Bz x e fun vx=>He vx fun cs=>gq s (.cs cs) fun i s=>kk (.p i 0) s)=_;simp only[BI he,F5,BY,IX];congr 1;funext vx;congr 1;funext cs;have: ∀o:Option (R×St),fin o kk kp=ob o fun p=>fin (some p) kk kp:=fun o=>by cases o<;>rfl
   rw[this,pX];rfl
 | PF x=>
   show(Bz x e fun vx=>He vx fun cs=>kk (.rp cs) s)=_;simp only[BI he,F5,BY,IX];rfl
 | SS sz bytes x y=>
   show(Bz x e fun vx=>Bz y e fun vy=>CO (ov (WQ bytes s sz vx vy) s) kk kp)=_;simp only[BI he,Bv he,B8 he,F5,BY,Bu]
   try rfl
 | alloc zero=>
   show(CO (bif CH zero then s.new (.cs zero) fun i s=>some (.ret (.p i 0),s)else none) kk kp)=_;simp only[Bu,F5]
 | build zero parts=>
   show(@Bool.rec (fun _=>Al) none (UY e parts zero fun cs=>kk (.a cs) s) (CH zero))=_;simp only[F5,VA,BY,Tg he,BU];rfl
 | Hi sz len zero parts=>
   show(@Bool.rec (fun _=>Al) none (UZ e (GX zero) parts (List.replicate len zero) fun es=>kk (.l es true) s) (CH zero))=_;simp only[F5,VA,BY,Ti he,BU,Fe];rfl
 | load agg x=>
   show(Bz x e fun vx=>iP s agg vx fun v=>kk v s)=_;simp only[BI he,F5,BY,Hb,mF]
 | store sz a x=>
   show(Bz a e fun va=>Bz x e fun vx=>UK s sz va vx fun s=>kk (.t []) s)=_;simp only[BI he,F5,BY,vB,dX]
 | F9 off x=>
   show(Bz x e fun vx=>Yv off vx fun v=>kk v s)=_;simp only[BI he,F5,BY,Hb,fM]
 | field agg off x=>
   show(Bz x e fun vx=>asA vx fun cs=>Ya agg cs off fun v=>kk v s)=_;simp only[BI he,F5,BY];congr 1;funext vx;cases vx<;>first|rfl|skip
   show Ya agg _ off _=_;rw[Ph,Hb]
 | L4 sz arr x i=>
   show(Bz x e fun vx=>Bz i e fun vi=>Ys sz arr vx vi fun v=>kk v s)=_;simp only[BI he,F5,BY,Hb,eg]
 | index len sz agg x i=>
   show(Bz x e fun vx=>Bz i e fun vi=>CO (ov (QV len sz agg vx vi) s) kk kp)=_;simp only[BI he,Bv he,B8 he,F5,BY,Bu]
   try rfl
 | slice sz x lo hi mx=>
   show(Bz x e fun vx=>YV lo e fun l=>YV hi e fun h=>YV mx e fun m=>CO (cq (QU s sz vx l h m)) kk kp)=_;simp only[BI he,Bv he,B8 he,F5,BY,Bu]
   try rfl
 | len x=>
   show(Bz x e fun vx=>tI vx fun v=>kk v s)=_;simp only[BI he,F5,BY,Hb,pg]
 | UC x=>
   show(Bz x e fun vx=>CO (ov (WN s vx) s) kk kp)=_;simp only[BI he,Bv he,B8 he,F5,BY,Bu]
   try rfl
 | str x=>
   show(Bz x e fun vx=>CO (ov (iA s vx) s) kk kp)=_;simp only[BI he,Bv he,B8 he,F5,BY,Bu]
   try rfl
 | Vd x i=>
   show(Bz x e fun vx=>Bz i e fun vi=>CO (ov (WL vx vi) s) kk kp)=_;simp only[BI he,Bv he,B8 he,F5,BY,Bu]
   try rfl
 | append sz bytes x y=>
   show(Bz x e fun vx=>Bz y e fun vy=>CO (cq (MR bytes s sz vx vy)) kk kp)=_;simp only[BI he,Bv he,B8 he,F5,BY,Bu]
   try rfl
 | copy sz x y=>
   show(Bz x e fun vx=>Bz y e fun vy=>CO (cq (WO s sz vx vy)) kk kp)=_;simp only[BI he,Bv he,B8 he,F5,BY,Bu]
   try rfl
 | Vi x y=>
   show(Bz x e fun vx=>Bz y e fun vy=>CO (match vx,vy with| .i ka a,.i kb b=>bif decide (ka=kb)then some (.ret (.i ka (bif NO a b then b else a)),s)else none|_,_=>none) kk kp)=_;simp only[BI he,Bv he,B8 he,F5,BY,Bu]
   try rfl
 | Vh x y=>
   show(Bz x e fun vx=>Bz y e fun vy=>CO (match vx,vy with| .i ka a,.i kb b=>bif decide (ka=kb)then some (.ret (.i ka (bif NO b a then b else a)),s)else none|_,_=>none) kk kp)=_;simp only[BI he,Bv he,B8 he,F5,BY,Bu]
   try rfl
 | extract i x=>
   show(Bz x e fun vx=>asT vx fun vs=>UA vs i fun v=>kk v s)=_;simp only[BI he,F5,BY];congr 1;funext vx;cases vx<;>first|rfl|skip
   show UA _ i _=_;rw[MG,Hb]
 | JA x=>
   show(Bz x e fun vx=>Yl vx fun v=>kk v s)=_;simp only[BI he,F5,BY,Hb,eM]
 | gK f first cap=>
   show(Ly first e fun vf=>Ly cap e fun vc=>@Bool.rec (fun _=>Al) none (kk (.f f vf vc) s) (Nf f))=_;simp only[Bv he,F5,VA,BY,BU];rfl
 | OX=>
   show(CO (s.new (.map []) fun i s=>some (.ret (.m i),s)) kk kp)=_;simp only[Bu,F5]
 | GJ sz bytes zero len cap=>
   show(Bz len e fun vx=>Bz cap e fun vy=>CO (cq (Jy s sz zero vx vy)) kk kp)=_;simp only[BI he,Bv he,B8 he,F5,BY,Bu]
   try rfl
 | lookup ks zero ok m k=>
   show(Bz m e fun vm=>Bz k e fun vk=>CO (ov (MP s ks zero ok vm vk) s) kk kp)=_;simp only[BI he,Bv he,B8 he,F5,BY,Bu]
   try rfl
 | Ed ks m k v=>
   show(Bz m e fun vm=>Bz k e fun vk=>Bz v e fun vx=>CO (os (MO s ks vm vk vx)) kk kp)=_;simp only[BI he,Bv he,B8 he,F5,BY,Bu]
   try rfl
 | OY t x=>
   show(Bz x e fun vx=>kk (.FF t vx) s)=_;simp only[BI he,F5,BY];rfl
 | gI t zero ok x=>
   show(Bz x e fun vx=>CO (ov (hZ t zero ok vx) s) kk kp)=_;simp only[BI he,Bv he,B8 he,F5,BY,Bu]
   try rfl
 | panic x=>
   show(Bz x e fun vx=>CO (match vx with| .FF t v=>some (.Bh (.FF t v),s)|_=>none) kk kp)=_;simp only[BI he,Bv he,B8 he,F5,BY,Bu]
   try rfl
 | call f args=>
   show(Ly args e fun vs=>CO (cf f vs s) kk kp)=_;simp only[BI he,Bv he,B8 he,F5,BY,Bu]
   try rfl
 | L8 f args=>
   show(Ly args e fun vs=>CO (ov (cp f vs) s) kk kp)=_;simp only[BI he,Bv he,B8 he,F5,BY,Bu]
   try rfl
 | Jm x args=>
   show(Bz x e fun vx=>Ly args e fun vs=>CO (cv vx vs s) kk kp)=_;simp only[BI he,Bv he,B8 he,F5,BY,Bu]
   try rfl
 | Y2 x args=>
   rfl
 | inv tab x args=>
   show(Bz x e fun vx=>Ly args e fun vs=>CO (match vx with| .FF t v=>ob (look t tab) fun f=>cf f (v::vs) s|_=>none) kk kp)=_;simp only[BI he,Bv he,B8 he,F5,BY,Bu]
   try rfl
def tP (g:Bool) (t:Bool) (y:Al) (n:Al):Al:=@Bool.rec (fun _=>Al) (@Bool.rec (fun _=>Al) y n g) (@Bool.rec (fun _=>Al) n y g) t
def qG (g t:Bool) (y n:Al):tP g t y n=bif t==g then y else n:=by cases g<;>cases t<;>rfl
def AAF (v:V) (g:Bool) (y:Al) (n:Al):Al:=@V.rec (fun _=>Bool->Al->Al->Al) (fun _=>Unit) (fun _=>Unit) (fun t g y n=>tP g t y n) (fun _ _ g y n=>none) (fun _ g y n=>none) (fun g y n=>none) (fun _ _ g y n=>none) (fun _ _ g y n=>none) (fun _ _ _ g y n=>none) (fun _ _ _ g y n=>none) (fun _ _ _ _ g y n=>none) (fun _ _ _ _ g y n=>none) (fun _ g y n=>none) (fun g y n=>none) (fun _ _ _ _ _ g y n=>none) (fun g y n=>none) (fun _ _ _ g y n=>none) (fun g y n=>none) (fun _ _ g y n=>none) (fun vs _ g y n=>@List.rec V (fun _=>Al->Al) (fun n=>n) (fun _ _ _ _=>none) vs n) (fun g y n=>none) () (fun _ _ _ _=>()) () (fun _ _ _ _=>()) v g y n
def grdK (g:Nat×Bool) (o:F6):OK:=fun cf cv cp e s kk kp=>Bz (.t g.1) e fun v=>AAF v g.2 (opK o cf cv cp e s kk kp) (kk (.t []) s)
def YR (g:Option (Nat×Bool)) (o:F6):OK:=@Option.rec (Nat×Bool) (fun _=>F6->OK) (fun o=>opK o) (fun g o=>grdK g o) g o
def Uo {e:CQ} {env:Env} (he:JW e env) (d:Option Nat) (g:Option (Nat×Bool)) (o:F6) (cf:CF) (cv:CV) (cp:CP) (s:St) (kk kp:V->St->Al):YR g o cf cv cp e s kk kp=fin (JS cf cv cp ⟨d,o,g⟩ env s) kk kp:=by
 cases g with
 | none=>exact jO he o cf cv cp s kk kp
 | some g=>
   obtain⟨g,b⟩:=g;show(Bz (.t g) e fun v=>AAF v b (opK o cf cv cp e s kk kp) (kk (.t []) s))=_;rw[BI he,jO he];simp only[JS,Dh];cases get g env with
   | none=>rfl
   | some v=>
     simp only[ob];cases v<;>first|rfl|skip
     .rename_i t
      show tP b t _ _=_;rw[qG];simp only;cases t==b<;>rfl
     .rename_i vs
      cases vs<;>rfl
def OV (d:Option Nat) (v:V) (e:CQ):CQ:=@Option.rec Nat (fun _=>V->CQ->CQ) (fun _ e=>e) (fun d v e=>⟨Nat.lor e.1 (Nat.shiftLeft 1 d),(d,v)::e.2⟩) d v e
def LC (M n:Nat):PM M n=M.testBit n:=by
 have h1:(M >>> n)&&&1=(M >>> n) % 2:=Nat.and_one_is_mod _;have h2:PM M n=Nat.beq ((M >>> n)&&&1) 1:=rfl;rw[h2,h1,Nat.testBit_eq_decide_div_mod_eq,Nat.shiftRight_eq_div_pow];cases h:decide (M / 2 ^ n % 2=1)with
 | true=>rw[of_decide_eq_true h];rfl
 | false=>
   have:=of_decide_eq_false h;cases hb:Nat.beq (M / 2 ^ n % 2) 1 with
   | false=>rfl
   | true=>exact absurd (VW hb) this
def QZ (M d n:Nat):PM (Nat.lor M (Nat.shiftLeft 1 d)) n=(PM M n||Nat.beq d n):=by
 rw[LC,LC];show(M|||1 <<< d).testBit n=_;rw[Nat.testBit_or,Nat.one_shiftLeft,Nat.testBit_two_pow];congr 1;cases hb:Nat.beq d n with
 | true=>simp[VW hb]
 | false=>simpa using Nat.ne_of_beq_eq_false hb
def JW.push {e:CQ} {env:Env} (he:JW e env) (d:Option Nat) (v:V):JW (OV d v e) (put d v env):=by
 cases d with
 | none=>exact he
 | some d=>
   intro n;show(bif PM (Nat.lor e.1 (Nat.shiftLeft 1 d)) n then(bif Nat.beq d n then some v else get n e.2)else none)=bif Nat.beq d n then some v else get n env;rw[QZ,<-he n,UE];cases Nat.beq d n<;>cases PM e.1 n<;>rfl
def gl (ops:List Aq) (cf:CF) (cv:CV) (cp:CP) (env:CQ) (s:St):Al:=@List.rec Aq (fun _=>CF->CV->CP->CQ->St->Al) (fun _ _ _ env s=>some (.normal,env,s))
 (fun o _ ih cf cv cp env s=>YR o.3 o.2 cf cv cp env s (fun v s=>YX v fun v=>ih cf cv cp (OV o.1 v env) s) (fun v s=>some (.Bh v,env,s))) ops cf cv cp env s
def G2:Al->Rs->Prop
 | some (x,e,s),some (x',env,s')=>x=x'/\s=s'/\JW e env
 | none,none=>True
 | _,_=>False
def bK (cf:CF) (cv:CV) (cp:CP): ∀(ops:List Aq) {e:CQ} {env:Env} (s:St),JW e env->G2 (gl ops cf cv cp e s) (Vr cf cv cp ops env s)
 | [],e,env,s,he=>⟨rfl,rfl,he⟩
 | o ::r,e,env,s,he=>by
   show G2 (YR o.3 o.2 cf cv cp e s (fun v s=>YX v fun v=>gl r cf cv cp (OV o.1 v e) s) (fun v s=>some (.Bh v,e,s))) _;rw[Uo he o.1];show G2 (fin (JS cf cv cp o env s) _ _) _;simp only[Vr];cases JS cf cv cp o env s with
   | none=>trivial
   | some p=>
     obtain⟨x,s'⟩:=p;cases x with
     | Bh v=>exact⟨rfl,rfl,he⟩
     | ret v=>
       show G2 (YX v fun v=>gl r cf cv cp (OV o.1 v e) s') (Ij v _);rw[bn,IV];exact bK cf cv cp r s' (he.push o.1 v)
def zH (re:List Aq) (cf:CF) (cv:CV) (cp:CP) (e:CQ) (s:St) (K:Al):Al:=@List.rec Aq (fun _=>CF->CV->CP->CQ->St->Al->Al) (fun _ _ _ _ _ K=>K)
 (fun o _ ih cf cv cp e s K=>YR o.3 o.2 cf cv cp e s (fun u _=>@Option.rec Nat (fun _=>Al) (ih cf cv cp e s K) (fun d=>Bz (.t d) e fun w=>@Bool.rec (fun _=>Al) none (ih cf cv cp e s K) (Ew u w)) o.1) (fun _ _=>none)) re cf cv cp e s K
def jE (cf:CF) (cv:CV) (cp:CP) {e:CQ} {env:Env} (he:JW e env) (s:St) (K:Al): ∀re:List Aq,zH re cf cv cp e s K=bif nc cf cv cp re env s then K else none
 | []=>rfl
 | o ::r=>by
   show YR o.3 o.2 cf cv cp e s (fun u _=>@Option.rec Nat (fun _=>Al) (zH r cf cv cp e s K) (fun d=>Bz (.t d) e fun w=>@Bool.rec (fun _=>Al) none (zH r cf cv cp e s K) (Ew u w)) o.1) (fun _ _=>none)=_;rw[Uo he o.1,jE cf cv cp he s K r]
   have h':nc cf cv cp (o::r) env s=((match JS cf cv cp o env s with
    | some (.ret u,_)=>match o.dst with
      | none=>true
      | some d=>match get d env with|some w=>Ew u w|none=>false
    | _=>false)&&nc cf cv cp r env s):=rfl
   rw[h'];show fin (JS cf cv cp o env s) _ _=_;cases JS cf cv cp o env s with
   | none=>rfl
   | some p=>
     obtain⟨x,s'⟩:=p;cases x with
     | Bh v=>rfl
     | ret u=>
       obtain⟨d,op,g⟩:=o;cases d with
       | none=>simp only[fin,Cm]
       | some d=>
         simp only[fin];rw[BI he];simp only[Dh];cases get d env with
         | none=>rfl
         | some w=>
           simp only[ob];cases Ew u w<;>simp
def WS (ops:List Cq) (cf:CF) (cv:CV) (cp:CP) (e:CQ) (s:St):Al:=@List.rec Cq (fun _=>CF->CV->CP->CQ->St->Al) (fun _ _ _ e s=>some (.normal,e,s))
 (fun d _ ih cf cv cp e s=>YR d.2.3 d.2.2 cf cv cp e s (fun v s=>YX v fun v=>(fun e=>zH d.4 cf cv cp e s (ih cf cv cp e s)) (OV d.2.1 v e)) (fun v s=>some (.Bh v,⟨0,[]⟩,s))) ops cf cv cp e s
def JW.nil {M:Nat}:JW ⟨M,[]⟩ []:=fun n=>by
 show(bif PM M n then none else none)=none;cases PM M n<;>rfl
def XU (cf:CF) (cv:CV) (cp:CP): ∀(ops:List Cq) {e:CQ} {env:Env} (s:St),JW e env->G2 (WS ops cf cv cp e s) (Sm cf cv cp ops env s)
 | [],e,env,s,he=>⟨rfl,rfl,he⟩
 | d ::r,e,env,s,he=>by
   show G2 (YR d.2.3 d.2.2 cf cv cp e s (fun v s=>YX v fun v=>(fun e=>zH d.4 cf cv cp e s (WS r cf cv cp e s)) (OV d.2.1 v e)) (fun v s=>some (.Bh v,⟨0,[]⟩,s))) _;rw[Uo he d.2.1];show G2 (fin (JS cf cv cp d.o env s) _ _) _;simp only[Sm];cases JS cf cv cp d.o env s with
   | none=>trivial
   | some p=>
     obtain⟨x,s'⟩:=p;cases x with
     | Bh v=>exact⟨rfl,rfl,JW.nil⟩
     | ret v=>
       show G2 (YX v fun v=>zH d.4 cf cv cp (OV d.2.1 v e) s' (WS r cf cv cp (OV d.2.1 v e) s')) (Ij v _);rw[bn,IV,jE cf cv cp (he.push d.2.1 v)];show G2 (bif nc cf cv cp d.re (put d.o.dst v env) s' then _ else none) (bif nc cf cv cp d.re (put d.o.dst v env) s' then _ else none);cases nc cf cv cp d.re (put d.o.dst v env) s' with
       | false=>trivial
       | true=>exact XU cf cv cp r s' (he.push d.2.1 v)
def Si (l:List Nat):Nat:=@List.rec Nat (fun _=>Nat) 0 (fun n _ ih=>Nat.lor ih (Nat.shiftLeft 1 n)) l
def Ng (l:List Nat) (e:CQ):CQ:=⟨Nat.land e.1 (Si l),e.2⟩
def Wc: ∀(l:List Nat) (n:Nat),PM (Si l) n=l.any fun k=>Nat.beq k n
 | [],n=>by rw[LC];exact Nat.zero_testBit n
 | k::r,n=>by
   show PM (Nat.lor (Si r) (Nat.shiftLeft 1 k)) n=_;rw[QZ,Wc r n,SA,Bool.or_comm]
def NF: ∀(l:List Nat) (env:Env) (n:Nat),get n (prune l env)=bif l.any (fun k=>Nat.beq k n)then get n env else none
 | [],env,n=>rfl
 | k ::r,env,n=>by
   have ih:=NF r env n;simp only[prune,SA];cases hk:Nat.beq k n with
   | true=>
     have:=VW hk;subst this;cases hg:get k env with
     | none=>
       simp only;rw[ih,hg];cases(r.any fun j=>Nat.beq j k)<;>rfl
     | some v=>simp[get,hk]
   | false=>
     simp only[Bool.false_or];cases hg:get k env with
     | none=>exact ih
     | some v=>
       simp only[get,hk,cond_false];exact ih
def JW.prune {e:CQ} {env:Env} (he:JW e env) (l:List Nat):JW (Ng l e) (Gl.prune l env):=fun n=>by
 show(bif PM (Nat.land e.1 (Si l)) n then get n e.2 else none)=_
 have:PM (Nat.land e.1 (Si l)) n=(PM e.1 n&&PM (Si l) n):=by
  rw[LC,LC,LC];exact Nat.testBit_and _ _ _
 rw[this,NF,<-he n,UE,Wc];cases PM e.1 n<;>cases(l.any fun k=>Nat.beq k n)<;>rfl
def Vj (l:List Nat) (e:CQ) (K:Env->Al):Al:=@List.rec Nat (fun _=>CQ->(Env->Al)->Al) (fun _ K=>K [])
 (fun n _ ih e K=>@Bool.rec (fun _=>Al) (ih e K) (@List.rec (Nat×V) (fun _=>Nat->Al->(V->Al)->Al) (fun _ x _=>x) (fun p _ ih n x K=>@Bool.rec (fun _=>Al) (ih n x K) (K p.2) (Nat.beq p.1 n)) e.2 n (ih e K) (fun v=>ih e fun r=>K ((n,v)::r))) (PM e.1 n)) l e K
def oo (env:Env) (n:Nat) (x:Al) (K:V->Al): @List.rec (Nat×V) (fun _=>Nat->Al->(V->Al)->Al) (fun _ x _=>x) (fun p _ ih n x K=>@Bool.rec (fun _=>Al) (ih n x K) (K p.2) (Nat.beq p.1 n)) env n x K=match get n env with|some v=>K v|none=>x:=by
 induction env with
 | nil=>rfl
 | cons p r ih=>
   obtain⟨j,v⟩:=p;show @Bool.rec (fun _=>Al) _ (K v) (Nat.beq j n)=match(bif Nat.beq j n then some v else get n r)with|some v=>K v|none=>x
   cases Nat.beq j n
   .exact ih
   .rfl
def PZ {e:CQ} {env:Env} (he:JW e env): ∀(l:List Nat) (K:Env->Al),Vj l e K=K (Gl.prune l env)
 | [],K=>rfl
 | n ::r,K=>by
   show @Bool.rec (fun _=>Al) (Vj r e K) (@List.rec (Nat×V) (fun _=>Nat->Al->(V->Al)->Al) (fun _ x _=>x) (fun p _ ih n x K=>@Bool.rec (fun _=>Al) (ih n x K) (K p.2) (Nat.beq p.1 n)) e.2 n (Vj r e K) (fun v=>Vj r e fun r=>K ((n,v)::r))) (PM e.1 n)=_;rw[oo,PZ he r];simp only[PZ he r,Gl.prune];rw[<-he n,UE];cases PM e.1 n with
   | false=>rfl
   | true=>
     simp only[cond_true];cases get n e.2<;>rfl
def JB (env:Env):Nat:=@List.rec (Nat×V) (fun _=>Nat) 0 (fun p _ ih=>Nat.lor ih (Nat.shiftLeft 1 p.1)) env
def Sx: ∀(env:Env) (n:Nat),PM (JB env) n=(get n env).isSome
 | [],n=>by rw[LC];exact Nat.zero_testBit n
 | (k,v)::r,n=>by
   show PM (Nat.lor (JB r) (Nat.shiftLeft 1 k)) n=_;rw[QZ,Sx r n];simp only[get];cases Nat.beq k n<;>simp
def JW.of (env:Env):JW ⟨JB env,env⟩ env:=fun n=>by
 show(bif PM (JB env) n then get n env else none)=_;rw[Sx];cases get n env<;>rfl
abbrev IH:=AV->CQ->St->Al
def Se (r:Al) (K:CQ->St->Al):Al:=@Option.rec (Ad×CQ×St) (fun _=>(CQ->St->Al)->Al) (fun _=>none) (fun p K=>@Ad.rec (fun _=>CQ->St->(Ad×CQ×St)->(CQ->St->Al)->Al) (fun env s _ K=>K env s) (fun _ _ _ p _=>some p) (fun _ _ p _=>some p) (fun _ _ _ p _=>some p) p.1 p.2.1 p.2.2 p K) r K
def AAh (r:Rs) (K':Env->St->Rs):Rs:=match r with|some (.normal,env,s)=>K' env s|r=>r
def N0 {r:Al} {r':Rs} (h:G2 r r') {K:CQ->St->Al} {K':Env->St->Rs} (U: ∀e env s,JW e env->G2 (K e s) (K' env s)):G2 (Se r K) (AAh r' K'):=by
 cases r with
 | none=>cases r' with|none=>trivial|some p=>exact h.elim
 | some p=>
   cases r' with
   | none=>exact h.elim
   | some p'=>
     obtain⟨x,e,s⟩:=p;obtain⟨x',env,s'⟩:=p';obtain⟨rfl,rfl,he⟩:=h;cases x with
     | normal=>exact U e env s he
     | exit id=>exact⟨rfl,rfl,he⟩
     | ret=>exact⟨rfl,rfl,he⟩
     | Bh v=>exact⟨rfl,rfl,he⟩
def P1 (s:St) (e:CQ):List RS->Option (List V)
 | []=>some []
 | .t n::r=>ob (UE e n) fun v=>ob (P1 s e r) fun vs=>some (v::vs)
 | .c n g::r=>ob (UE e n) fun a=>ob (Oe s g a) fun v=>ob (P1 s e r) fun vs=>some (v::vs)
def aO (AH:List RS) (r:Al):Option (R×St):=
 match r with
 | some (.normal,env,s)=>ob (P1 s env AH) fun vs=>some (.ret (Ev vs),s)
 | some (.ret,env,s)=>ob (P1 s env AH) fun vs=>some (.ret (Ev vs),s)
 | some (.Bh v,_,s)=>some (.Bh v,s)
 | _=>none
def WK (tab:Kj) (ih:IH) (g:FuncId) (cap:List V) (m:Option V) (AH:List RS) (env:CQ) (s:St):Option (R×St):=
 match tab g with
 | some (.zI n k ops ac l)=>bif Nat.ble cap.length n then
  match ih (.seq l (.DH ops) ac) ⟨JB (put (some k) (m.getD .Dv) (A6 0 cap)),put (some k) (m.getD .Dv) (A6 0 cap)⟩ s with
  | some (.normal,_,s')=>ob (P1 s' env AH) fun vs=>some (.ret (Ev vs),s')
  | some (.ret,_,s')=>ob (P1 s' env AH) fun vs=>some (.ret (Ev vs),s')
  | _=>none
   else none
 | some (.pld n ac)=>match m with
   | some _=>none
   | none=>bif Nat.ble cap.length n then
     match ih ac ⟨JB (A6 0 cap),A6 0 cap⟩ s with
     | some (.normal,_,s')=>ob (P1 s' env AH) fun vs=>some (.ret (Ev vs),s')
     | some (.ret,_,s')=>ob (P1 s' env AH) fun vs=>some (.ret (Ev vs),s')
     | _=>none
   else none
 | _=>none
def Ug (tab:Kj) (ih:IH) (f:FuncId) (vs:List V) (s:St):Option (R×St):=
 match tab f with
 | some (.fn n ac AH)=>bif Nat.ble vs.length n then aO AH (ih ac ⟨JB (A6 0 vs),A6 0 vs⟩ s)else none
 | some (.zN n aA ops x aC AH l1 l2)=>bif Nat.ble vs.length n then
  match ih (.seq l1 aA (.DH ops)) ⟨JB (A6 0 vs),A6 0 vs⟩ s with
  | some (.normal,env,s1)=>match(match x with| .t n=>UE env n| .c v=>bif BM v then some v else none)with
    | some (.f (.func g) [] cap)=>match ih aC (Ng l2 env) s1 with
      | some (.normal,env2,s2)=>WK tab ih g cap none AH env2 s2
      | some (.ret,env2,s2)=>WK tab ih g cap none AH env2 s2
      | some (.Bh v,env2,s2)=>WK tab ih g cap (some v) AH env2 s2
      | _=>none
    | _=>none
  | _=>none
   else none
 | some (.zf n ac AH)=>bif Nat.ble vs.length n then tQ (aO AH (ih ac ⟨JB (A6 0 vs),A6 0 vs⟩ s))else none
 | some (.dD c)=>c vs s
 | _=>none
def Fg (tab:Kj) (memo:FJ) (ih:IH):CF:=fun f vs s=>
 match memo f with
 | []=>Ug tab ih f vs s
 | m::r=>match WH vs (m::r)with
   | some v=>some (.ret v,s)
   | none=>Ug tab ih f vs s
def KG (tab:Kj) (memo:FJ) (ih:IH):CV:=fun x vs s=>
 match x with
 | .f (.func f) first cap=>Fg tab memo ih f (first++vs++cap) s
 | .f (.yield L) [] []=>match s.t.get L with
   | some (.loop .ready env ps a b)=>bif Nat.beq vs.length ps.length then
    Tr.put none A8 s.t L fun t=>match ih a ⟨JB (Eh ps vs env),Eh ps vs env⟩ ⟨s.nx,t⟩with
    | some (.normal,env1,s1)=>match ih b env1 s1 with
      | some (.normal,_,s2)=>Tr.put (some (.loop .ready env ps a b)) A8 s2.t L fun t=>some (.ret (.b true),⟨s2.nx,t⟩)
      | some (.ret,_,s2)=>Tr.put (some (.loop .ret env ps a b)) A8 s2.t L fun t=>some (.ret (.b false),⟨s2.nx,t⟩)
      | some (.exit id,_,s2)=>Tr.put (some (.loop (.exit id) env ps a b)) A8 s2.t L fun t=>some (.ret (.b false),⟨s2.nx,t⟩)
      | some (.Bh v,_,s2)=>some (.Bh v,s2)
      | none=>none
    | _=>none
     else none
   | _=>none
 | _=>none
def LM (tab:Kj) (memo:FJ) (ih:IH):CP:=fun f vs=>
 bif CH vs then match Fg tab memo ih f vs ⟨0,.leaf⟩with
  | some (.ret v,s)=>match HQ s Vp v with
    | some u=>bif BM u then some u else none
    | none=>none
  | _=>none
 else none
abbrev SK:=Kj->FJ->IH->CQ->St->Al
def jA (c : AV):SK:=@AV.rec (fun _=>SK)
 (fun _ _ _ env s=>some (.normal,env,s))
 (fun ops tab memo ih env s=>gl ops (Fg tab memo ih) (KG tab memo ih) (LM tab memo ih) env s)
 (fun l ops tab memo ih env s=>Se (WS ops (Fg tab memo ih) (KG tab memo ih) (LM tab memo ih) env s) fun env s=>some (.normal,Ng l env,s))
 (fun l a b _ _ _ _ ih env s=>Se (ih a env s) fun env s=>ih b (Ng l env) s)
 (fun c a b _ _ _ _ ih env s=>Bz c env fun v=>rh v fun t=>@Bool.rec (fun _=>Al) (ih b env s) (ih a env s) t)
 (fun id a _ tab memo ih env s=>match ih a env s with
  | some (.exit id',env',s')=>bif Nat.beq id' id then some (.normal,env',s')else some (.exit id',env',s')
  | r=>r)
 (fun l a _ _ _ ih env s=>Vj l env fun E=>Se (ih a ⟨JB E,E⟩ s) fun env s=>ih (.loop l a) env s)
 (fun id _ _ _ env s=>some (.exit id,env,s))
 (fun _ _ _ env s=>some (.ret,env,s))
 (fun a _ _ _ ih env s=>ih a env s)
 (fun l g ps a b _ _ tab memo ih env s=>Bz g env fun v=>match v with
  | .f (.func gf) [] cap=>Vj l env fun E=>s.new (.loop .ready E ps a b) fun i s1=>
   match Fg tab memo ih gf (.f (.yield i) [] []::cap) s1 with
   | some (.ret _,s2)=>match s2.t.get i with
     | some (.loop st _ _ _ _)=>Tr.put none A8 s2.t i fun t=>some ((match st with| .ready=> .normal| .ret=> .ret| .exit id=> .exit id),env,⟨s2.nx,t⟩)
     | _=>none
   | some (.Bh v,s2)=>match s2.t.get i with
     | some _=>Tr.put none A8 s2.t i fun t=>some (.Bh v,env,⟨s2.nx,t⟩)
     | none=>none
   | none=>none
  | _=>none) c
def runK (tab:Kj) (memo:FJ) (n:Nat):IH:=@Nat.rec (fun _=>IH) (fun _ _ _=>none) (fun _ ih c env s=>jA c tab memo ih env s) n
def Yi (ihm:IH) (ih:AV->Env->St->Rs):Prop:= ∀c {e env} s,JW e env->G2 (ihm c e s) (ih c env s)
def MN {s:St} {e:CQ} {env:Env} (he:JW e env): ∀l:List RS,P1 s e l=Z7 s env l
 | []=>rfl
 | .t n::r=>by simp only[P1,Z7,he n,MN he r]
 | .c n g::r=>by simp only[P1,Z7,he n,MN he r]
def XS {AH:List RS} {r:Al} {r':Rs} (h:G2 r r'):aO AH r=dI AH r':=by
 cases r with
 | none=>cases r' with|none=>rfl|some p=>exact h.elim
 | some p=>
   cases r' with
   | none=>exact h.elim
   | some p'=>
     obtain⟨x,e,s⟩:=p;obtain⟨x',env,s'⟩:=p';obtain⟨rfl,rfl,he⟩:=h;cases x<;>first|rfl|simp only[aO,dI,MN he]
def mZ {tab : Kj} {ihm:IH} {ih:AV->Env->St->Rs} (hi:Yi ihm ih) {g:FuncId} {cap:List V} {m:Option V} {AH:List RS} {e:CQ} {env:Env} (he:JW e env) (s:St):WK tab ihm g cap m AH e s=YZ tab ih g cap m AH env s:=by
 unfold WK YZ;cases tab g with
 | none=>rfl
 | some fs =>
   cases fs<;>first|rfl|skip
   .rename_i n k ops ac l
    simp only;have:=hi (.seq l (.DH ops) ac) s (JW.of (put (some k) (m.getD .Dv) (A6 0 cap)))
    revert this
    cases ihm (.seq l (.DH ops) ac) _ s with
    | none=>cases ih (.seq l (.DH ops) ac) _ s with|none=>intro _;rfl|some p=>intro h;exact h.elim
    | some p=>
      cases ih (.seq l (.DH ops) ac) _ s with
      | none=>intro h;exact h.elim
      | some p'=>
        obtain⟨x,e1,s1⟩:=p;obtain⟨x',env1,s1'⟩:=p';rintro⟨rfl,rfl,he1⟩;cases x<;>simp only[MN he]
   .rename_i n ac
    cases m with
    | some v=>rfl
    | none=>
      simp only;have:=hi ac s (JW.of (A6 0 cap))
      revert this
      cases ihm ac _ s with
      | none=>cases ih ac _ s with|none=>intro _;rfl|some p=>intro h;exact h.elim
      | some p=>
        cases ih ac _ s with
        | none=>intro h;exact h.elim
        | some p'=>
          obtain⟨x,e1,s1⟩:=p;obtain⟨x',env1,s1'⟩:=p';rintro⟨rfl,rfl,he1⟩;cases x<;>simp only[MN he]
def fp {tab : Kj} {ihm:IH} {ih:AV->Env->St->Rs} (hi:Yi ihm ih) (f:FuncId) (vs:List V) (s:St):Ug tab ihm f vs s=Sp tab ih f vs s:=by
 unfold Ug Sp;cases tab f with
 | none=>rfl
 | some fs =>
   cases fs with
   | zI n k ops ac l=>rfl
   | dD c=>rfl
   | pld n ac=>rfl
   | fn n ac AH=>simp only;rw[XS (hi ac s (JW.of (A6 0 vs)))]
   | zf n ac AH=>simp only;rw[XS (hi ac s (JW.of (A6 0 vs)))]
   | zN n aA ops x aC AH l1 l2=>
     simp only;have:=hi (.seq l1 aA (.DH ops)) s (JW.of (A6 0 vs))
     revert this
     cases ihm (.seq l1 aA (.DH ops)) _ s with
     | none=>cases ih (.seq l1 aA (.DH ops)) _ s with|none=>intro _;rfl|some p=>intro h;exact h.elim
     | some p=>
       cases ih (.seq l1 aA (.DH ops)) _ s with
       | none=>intro h;exact h.elim
       | some p'=>
         obtain⟨x1,e1,s1⟩:=p;obtain⟨x1',env1,s1'⟩:=p';rintro⟨rfl,rfl,he1⟩;cases x1<;>first|rfl|skip
         simp only;have hx:(match x with| .t n=>UE e1 n| .c v=>bif BM v then some v else none)=Dh env1 x:=by cases x<;>first|exact he1 _|rfl
         rw[hx];cases Dh env1 x with
         | none=>rfl
         | some v=>
           cases v<;>first|rfl|skip
           rename_i fn first cap
           cases fn<;>first|rfl|skip
           cases first<;>first|rfl|skip
           simp only;have:=hi aC s1 (he1.prune l2)
           revert this
           cases ihm aC (Ng l2 e1) s1 with
           | none=>cases ih aC (Gl.prune l2 env1) s1 with|none=>intro _;rfl|some p=>intro h;exact h.elim
           | some p=>
             cases ih aC (Gl.prune l2 env1) s1 with
             | none=>intro h;exact h.elim
             | some p'=>
               obtain⟨x2,e2,s2⟩:=p;obtain⟨x2',env2,s2'⟩:=p';rintro⟨rfl,rfl,he2⟩;cases x2<;>simp only[mZ hi he2]
def Gp {tab:Kj} {memo:FJ} {ihm:IH} {ih:AV->Env->St->Rs} (hi:Yi ihm ih):Fg tab memo ihm=Hg tab memo ih:=by
 funext f vs s;unfold Fg Hg;simp only[fp hi];rfl
def Rz {tab : Kj} {memo:FJ} {ihm:IH} {ih:AV->Env->St->Rs} (hi:Yi ihm ih):KG tab memo ihm=Ns tab memo ih:=by
 funext x vs s;unfold KG Ns;rw[Gp hi];cases x<;>first|rfl|skip
 rename_i fn first cap
 cases fn<;>first|rfl|skip
 cases first<;>first|rfl|skip
 cases cap<;>first|rfl|skip
 rename_i L;simp only;cases s.t.get L with
 | none=>rfl
 | some o=>
   cases o<;>first|rfl|skip
   rename_i st env ps a b;cases st<;>first|rfl|skip
   simp only;congr 2;funext t;have:=hi a ⟨s.nx,t⟩ (JW.of (Eh ps vs env))
   revert this
   cases ihm a _ ⟨s.nx,t⟩with
   | none=>cases ih a _ ⟨s.nx,t⟩with|none=>intro _;rfl|some p=>intro h;exact h.elim
   | some p=>
     cases ih a _ ⟨s.nx,t⟩with
     | none=>intro h;exact h.elim
     | some p'=>
       obtain⟨x1,e1,s1⟩:=p;obtain⟨x1',env1,s1'⟩:=p';rintro⟨rfl,rfl,he1⟩;cases x1<;>first|rfl|skip
       simp only;have:=hi b s1 he1
       revert this
       cases ihm b e1 s1 with
       | none=>cases ih b env1 s1 with|none=>intro _;rfl|some p=>intro h;exact h.elim
       | some p=>
         cases ih b env1 s1 with
         | none=>intro h;exact h.elim
         | some p'=>
           obtain⟨x2,e2,s2⟩:=p;obtain⟨x2',env2,s2'⟩:=p';rintro⟨rfl,rfl,he2⟩;cases x2<;>rfl
def OJ {tab:Kj} {memo:FJ} {ihm:IH} {ih:AV->Env->St->Rs} (hi:Yi ihm ih):LM tab memo ihm=QF tab memo ih:=by
 funext f vs;unfold LM QF;rw[Gp hi];rfl
def lK {tab : Kj} {memo:FJ} {ihm:IH} {ih:AV->Env->St->Rs} (hi:Yi ihm ih) (c:AV) {e:CQ} {env:Env} (s:St) (he:JW e env):G2 (jA c tab memo ihm e s) (JF tab memo ih c env s):=by
 cases c with
 | skip=>exact⟨rfl,rfl,he⟩
 | ret=>exact⟨rfl,rfl,he⟩
 | exit id=>exact⟨rfl,rfl,he⟩
 | scope a=>exact hi a s he
 | DH ops=>
   show G2 (gl ops (Fg tab memo ihm) (KG tab memo ihm) (LM tab memo ihm) e s) _;rw[Gp hi,Rz hi,OJ hi];exact bK _ _ _ ops s he
 | HT l ops=>
   show G2 (Se (WS ops (Fg tab memo ihm) (KG tab memo ihm) (LM tab memo ihm) e s) fun env s=>some (.normal,Ng l env,s)) _;rw[Gp hi,Rz hi,OJ hi];exact N0 (K':=fun env s=>some (.normal,Gl.prune l env,s)) (XU _ _ _ ops s he) fun _ _ s he=>⟨rfl,rfl,he.prune l⟩
 | seq l a b=>exact N0 (K':=fun env s=>ih b (Gl.prune l env) s) (hi a s he) fun _ _ s he=>hi b s (he.prune l)
 | cond c a b=>
   show G2 (Bz c e fun v=>rh v fun t=>@Bool.rec (fun _=>Al) (ihm b e s) (ihm a e s) t) _;rw[BI he];simp only[JF];cases Dh env c with
   | none=>trivial
   | some v=>
     cases v<;>first|trivial|skip
     rename_i t;cases t
     .exact hi b s he
     .exact hi a s he
 | block id a=>
   have:=hi a s he;show G2 (match ihm a e s with|some (.exit id',env',s')=>bif Nat.beq id' id then some (.normal,env',s')else some (.exit id',env',s')|r=>r) (match ih a env s with|some (.exit id',env',s')=>bif Nat.beq id' id then some (.normal,env',s')else some (.exit id',env',s')|r=>r)
   revert this
   cases ihm a e s with
   | none=>cases ih a env s with|none=>intro _;trivial|some p=>intro h;exact h.elim
   | some p=>
     cases ih a env s with
     | none=>intro h;exact h.elim
     | some p'=>
       obtain⟨x1,e1,s1⟩:=p;obtain⟨x1',env1,s1'⟩:=p';rintro⟨rfl,rfl,he1⟩;cases x1 with
       | exit id'=>
         simp only;cases Nat.beq id' id<;>exact⟨rfl,rfl,he1⟩
       | normal=>exact⟨rfl,rfl,he1⟩
       | ret=>exact⟨rfl,rfl,he1⟩
       | Bh v=>exact⟨rfl,rfl,he1⟩
 | loop l a=>
   show G2 (Vj l e fun E=>Se (ihm a ⟨JB E,E⟩ s) fun env s=>ihm (.loop l a) env s) _;rw[PZ he];exact N0 (K':=fun env s=>ih (.loop l a) env s) (hi a s (JW.of _)) fun _ _ s he=>hi (.loop l a) s he
 | D0 l g ps a b=>
   show G2 (Bz g e fun v=>match v with
   | .f (.func gf) [] cap=>Vj l e fun E=>s.new (.loop .ready E ps a b) fun i s1=>
    match Fg tab memo ihm gf (.f (.yield i) [] []::cap) s1 with
    | some (.ret _,s2)=>match s2.t.get i with
      | some (.loop st _ _ _ _)=>Tr.put none A8 s2.t i fun t=>some ((match st with| .ready=> .normal| .ret=> .ret| .exit id=> .exit id),e,⟨s2.nx,t⟩)
      | _=>none
    | some (.Bh v,s2)=>match s2.t.get i with
      | some _=>Tr.put none A8 s2.t i fun t=>some (.Bh v,e,⟨s2.nx,t⟩)
      | none=>none
    | none=>none
   | _=>none) _
   rw[BI he,Gp hi];simp only[JF];cases Dh env g with
   | none=>trivial
   | some v=>
     cases v<;>first|trivial|skip
     rename_i fn first cap
     cases fn<;>first|trivial|skip
     cases first<;>first|trivial|skip
     rename_i gf;simp only[ob];rw[PZ he]
     have hnew: ∀ {β γ:Type} (o:EO) (f:Nat->St->Option β) (g:Nat->St->Option γ) (Rl:Option β->Option γ->Prop),Rl none none->(∀i s,Rl (f i s) (g i s))->Rl (s.new o f) (s.new o g):=fun {β γ} o f g Rl h0 h1=>by
      obtain⟨n,t⟩:=s;cases n with
      | zero=>simp only[St.new];rw[Tr.put_eq,Tr.put_eq];exact h1 _ _
      | succ n=>
        simp only[St.new];rw[Tr.put_eq,Tr.put_eq];cases Nat.ble (n+1) NV
        .exact h0
        .exact h1 _ _
     refine hnew _ _ _ G2 trivial fun i s1=>?_
     cases Hg tab memo ih gf (.f (.yield i) [] []::cap) s1 with
     | none=>trivial
     | some p=>
       obtain⟨x,s2⟩:=p;cases x with
       | ret v=>
         simp only;cases s2.t.get i with
         | none=>trivial
         | some o=>
           cases o<;>first|trivial|skip
           simp only;rw[Tr.put_eq,Tr.put_eq];exact⟨rfl,rfl,he⟩
       | Bh v=>
         simp only;cases s2.t.get i with
         | none=>trivial
         | some o=>
           simp only;rw[Tr.put_eq,Tr.put_eq];exact⟨rfl,rfl,he⟩
def a7 (tab:Kj) (memo:FJ): ∀n:Nat,Yi (runK tab memo n) (run tab memo n)
 | 0=>fun _ _ _ _ _=>trivial
 | n+1=>fun c _ _ s he=>lK (a7 tab memo n) c s he
def n6 (tab:Kj) (memo:FJ) (n:Nat) (f:FuncId) (vs:List V) (v:V):Bool:=
 match LM tab memo (runK tab memo n) f vs with
 | some u=>Ew u v
 | none=>false
def TE {tab:Kj} (ht:MA P tab) {memo:FJ} (hm:Hj P memo) {n:Nat} {f:FuncId} {vs:List V} {v:V} (h:n6 tab memo n f vs v=true):CH vs=true/\BM v=true/\Pure P f vs v:=by
 unfold n6 at h;rw[OJ (a7 tab memo n)]at h;exact Xv ht hm h
def s6 (t:Tr c8):Kj:=fun f=>dH t f
def ah {t:Tr c8} (h:aV (fun i=>PG P i) id t):MA P (s6 t):=fun f fs e=>h f fs ((U6 t f).symm.trans e)
def tY (m:FJ) (f:FuncId) (a:List V) (v:V):FJ:=fun g=>@Bool.rec (fun _=>List (List V×V)) (m g) ((a,v)::m g) (Nat.beq f g)
def rW {m:FJ} (h:Hj P m) {f:FuncId} {a:List V} {v:V} (h1:CH a=true/\BM v=true/\Pure P f a v):Hj P (tY m f a v):=fun g e he=>by
 unfold tY at he;cases hb:Nat.beq f g with
 | false=>rw[hb]at he;exact h g e he
 | true=>
   rw[hb]at he;have:=DD hb;subst this;rcases Fl.1 he with rfl|he
   .exact h1
   .exact h f e he
end Go.Gl
namespace Go.Gl
variable {P:Program}
abbrev VD (sz b:Nat):AV:=(.seq [0] (.DH [⟨(some 2),.mv (.c (.l [] true)),none⟩])
 (.seq [0] (.seq [0,4] (.DH [⟨(some 3),.mv (.t 0),none⟩,
  ⟨(some 4),.gO 1 false (.t 3),none⟩])
 (.cond (.t 4)
 (.seq [2] (.DH [⟨(some 2),.mv (.c (.l [] true)),none⟩])
 .ret)
 .skip))
 (.seq [2] (.DH [⟨(some 5),.Hi 1 0 [] [],none⟩,
  ⟨(some 6),.mv (.t 0),none⟩,
  ⟨(some 7),.append sz b (.t 5) (.t 6),none⟩,
  ⟨(some 2),.mv (.t 7),none⟩])
 .ret)))
def ed {q:Nat} {neg:Bool} {x:V} {k k':V->Prop} (h:JZ q neg x k) (hm: ∀t,k (.b t)->k' (.b t)):JZ q neg x k':=by
 unfold JZ at *;split at h<;>first|exact hm _ h|exact⟨fun e t=>hm _ (h.1 e t),fun e=>hm _ (h.2 e)⟩|exact h.elim
def OO {v:V} {Z:AE} {Q:R->AE->Prop} (h:Q (.ret v) Z):Aj Z v Q:=⟨v,Z,fun _ _ h=>h,.refl _,h⟩
def kz {Y:Ren} {f:Bool}:RV Y (.l [] f) (.l [] f):=by simp only[RV];exact⟨[],rfl,rfl⟩
section
attribute [local irreducible] Ar Aj AZ AQ AL AX AP AR AJ AW AM AN Am Av AT As Aa W JZ
def rB {sz b:Nat} {v:V} {Z:AE} {Q:R->AE->Prop} (h1:JZ 1 false v fun t=>(t= .b true->Aj Z (.l [] true) Q)/\(t= .b false->AL b Z sz (.l [] true) v fun v' Z'=>Aj Z' v' Q)) :
    W P (VD sz b) (Vy [.t 2] Q) [(0,v)] Z:=by
 conv=>whnf
 repeat((first|clear U K|apply st|(apply zk;intro K U)|fail);conv=>whnf)
 refine ed h1 fun t ht=>?_
 refine zh ?_;(repeat clear U K);repeat intro K U
 refine⟨fun h=>?_,fun h=>?_⟩
 .subst h
  refine zh ?_;(repeat clear U K);repeat intro K U
  exact ht.1 rfl
 .subst h
  refine zh ?_;(repeat clear U K);repeat intro K U
  refine NC (ht.2 rfl) fun v' Z' hq=>?_
  refine zh ?_;(repeat clear U K);repeat intro K U
  exact hq
end
def mo {f : FuncId} {n sz b:Nat} (h: ∀(args:List V) (Z:AE) (Q:R->AE->Prop),args.length<=n->T P (VD sz b) (Vy [.t 2] Q) (A6 0 args) Z->Ar P f args Z Q) (hn:1<=n) (hb:b<=131072:=by decide):PG P f (.dD (Y1 sz)):=by
 intro vs s r s' hc Y vs' Z hv hs Q hQ
 have main: ∀ {v v':V} {ys:List (List V)},vs= [v]->vs'= [v']->RV Y v v'->JG s sz v=some ys->(ys= []->r= .ret (.l [] true)/\s'=s)->
  (ys≠[]->(ys.all (fun e=>e.all CN)&&Nat.ble ys.length 1073741824)=true/\s.nx<=NV/\r= .ret (.sl s.nx ys.length 0)/\s'=⟨s.nx+1,Tr.set (some (.arr sz ys)) A8 s.t s.nx⟩)->
  (∀k:V->Prop,(ys= []-> ∀t,k (.b t))->(ys≠[]->k (.b false))->JZ 1 false v' k)->Ar P f vs' Z Q:=fun {v v' ys} e1 e2 hr hy h0 h1 hk=>by
  subst e1;subst e2;refine h _ _ _ hn (nv (rB (hk _ (fun e t=>⟨fun _=>?_,fun _=>?_⟩) fun e=>⟨fun h=>(by cases h),fun _=>?_⟩)))
  .obtain⟨rfl,rfl⟩:=h0 e
   exact OO (hQ Y _ Z (.refl _) ⟨_,kz,rfl⟩ hs)
  .obtain⟨rfl,rfl⟩:=h0 e
   refine IJ hs hy hr fun ys' hr'=>?_
   have:ys'= []:=by
    have:=hr'.len;rw[e]at this;exact YM.1 this
   subst this;exact⟨fun e he=>(by cases he),fun e he=>(by cases he),⟨Nat.zero_le _,by simp⟩,fun _=>OO (hQ Y _ Z (.refl _) ⟨_,kz,rfl⟩ hs),fun h=>absurd rfl h⟩
  .obtain⟨g1,g2,rfl,rfl⟩:=h1 e
   simp only[A0]at g1;refine IJ hs hy hr fun ys' hr'=>?_
   have hl:=hr'.len;have hne:ys'≠[]:=fun e'=>e (by rw[e']at hl;exact YM.1 hl.symm)
   refine⟨M1 g1.1 hr',fun e he=>(by cases he),?_,fun e=>absurd e hne,fun _=>⟨rfl,fun n cap hn0 hc=>?_⟩⟩
   .have:=UP (b:=b) (L:=ys.length) (by simp only[zJ,A0];exact⟨g1.2,Nat.ble_eq_true_of_le hb⟩)
    simp only[List.length_nil,Gu];rw[hl];exact this
   .obtain⟨Y',q1,q2,q3⟩:=hs.new g2 hn0 cap (o:= .arr sz ys) (o':= .arr sz ys' cap) ⟨_,hr',rfl⟩
    refine OO (hQ Y' _ _ q1 ?_ ?_)
    .refine⟨_,?_,rfl⟩
     simp only[RV];exact⟨_,q2,by simp[hl]⟩
    .simpa using q3
 have parts: ∀ {ys:List (List V)},(match some ys with
  | some []=>some (R.ret (V.l [] true),s)
  | some (y::ys)=>bif (y::ys).all (fun e=>e.all CN)&&Nat.ble (y::ys).length 1073741824 then s.new (.arr sz (y::ys)) fun i s'=>some (.ret (.sl i (y::ys).length 0),s')else none
  | none=>none)=some (r,s')->(ys= []->r= .ret (.l [] true)/\s'=s)/\
    (ys≠[]->(ys.all (fun e=>e.all CN)&&Nat.ble ys.length 1073741824)=true/\s.nx<=NV/\r= .ret (.sl s.nx ys.length 0)/\s'=⟨s.nx+1,Tr.set (some (.arr sz ys)) A8 s.t s.nx⟩):=fun {ys} hc=>by
  cases ys with
  | nil=>cases hc;exact⟨fun _=>⟨rfl,rfl⟩,fun h=>absurd rfl h⟩
  | cons y ys=>
    obtain⟨h1,h2⟩:=AY hc;obtain⟨h3,h4⟩:=St.Ii h2;cases h4;exact⟨fun h=>(by cases h),fun _=>⟨h1,h3,rfl,rfl⟩⟩
 unfold Y1 at hc;split at hc
 .rename_i es f
  obtain⟨v',l',k1,k2,rfl⟩:=hv;obtain rfl:l'= []:=k2;cases hy:JG s sz (.l es f)with
  | none=>rw[hy]at hc;cases hc
  | some ys=>
    rw[hy]at hc;obtain⟨p1,p2⟩:=parts hc;refine main rfl rfl k1 hy p1 p2 fun k h0 h1=>?_
    simp only[RV]at k1;obtain⟨es',k3,rfl⟩:=k1;have hl:=(Ft.1 k3).len
    have he:ys=es:=by
     simp only[JG]at hy;exact(Option.some.inj (AY hy).2).symm
    subst he;unfold JZ;exact⟨fun e=>h0 (by rw[e]at hl;exact YM.1 hl.symm),fun e=>h1 fun e'=>e (by rw[e']at hl;exact YM.1 hl)⟩
 .rename_i m len c
  obtain⟨v',l',k1,k2,rfl⟩:=hv;obtain rfl:l'= []:=k2;cases hy:JG s sz (.sl m len c)with
  | none=>rw[hy]at hc;cases hc
  | some ys=>
    rw[hy]at hc;obtain⟨p1,p2⟩:=parts (ys:=ys) hc;refine main rfl rfl k1 hy p1 p2 fun k h0 h1=>?_
    simp only[RV]at k1;obtain⟨m',k3,rfl⟩:=k1;unfold JZ;show k (.b false);by_cases e:ys= []
    .exact h0 e false
    .exact h1 e
 .cases hc
end Go.Gl
namespace Go.Gl
variable {P:Program}
structure gS (P:Program) where
 k:Nat
 fs:c8
 ok:PG P k fs
def zV:List (gS P)->Tr c8
 | []=> .leaf
 | e::r=>bif Nat.ble e.k 1000000 then Tr.set (some e.fs) A8 (zV r) e.k else zV r
def Ym: ∀l:List (gS P),aV (fun i=>PG P i) id (zV l)
 | []=>rS
 | e ::r=>by
   unfold zV;cases h:Nat.ble e.k 1000000 with
   | false=>exact Ym r
   | true=>
     have hk:e.k+1<2 ^ A8:=by
      have:=Nat.le_of_ble_eq_true h;have e2:(2:Nat) ^ A8=1099511627776:=by decide
      omega
     intro j a ha;rw[cond_true,Tr.EB A8 _ _ hk]at ha;split at ha
     .next e1=>subst e1;cases ha;exact e.ok
     .exact Ym r j a ha
def eX {k n:Nat} {fn:Func} {ac:AV} {rs:List RS} (pu fz:List Nat) (hf:P.funcs[k]? =some fn)
    (hn:fn.ntmps=n:=by conv=>lhs;reduce)
    (hr:NR P fn.results.toList=some rs:=by conv=>lhs;reduce)
    (hc:cw (rs.map zQ) ((fn.body.bind (res P fn.ntmps pu fz)).getD .skip) [] (rs.map zQ)=ac:=by conv=>lhs;reduce)
    (hb:fn.body.bind (res P fn.ntmps pu fz)=some (erase ac):=by kernel_rfl) (hok:okF P k=true:=by kernel_rfl):gS P:=
 ⟨k,.fn n ac rs,fun _ _ _ ha h=>Eu hf hok hb hr (hn ▸ ha) h⟩
def eZ {k n:Nat} {fn:Func} {ac:AV} {rs:List RS} (pu fz:List Nat) (hf:P.funcs[k]? =some fn)
    (hn:fn.ntmps=n:=by conv=>lhs;reduce)
    (hr:NR P fn.results.toList=some rs:=by conv=>lhs;reduce)
    (hc:cw (rs.map zQ) ((fn.body.bind (res P fn.ntmps pu fz)).getD .skip) [] (rs.map zQ)=ac:=by conv=>lhs;reduce)
    (hb:fn.body.bind (res P fn.ntmps pu fz)=some (erase ac):=by kernel_rfl) (hok:okF P k=true:=by kernel_rfl):gS P:=
 ⟨k,.zf n ac rs,fun _ _ _ ha h=>Eu hf hok hb hr (hn ▸ ha) h⟩
def eC {k:Nat} {fn:Func} (sz b:Nat) (hf:P.funcs[k]? =some fn) (hb:fn.body.bind (res P fn.ntmps [] [])=some (erase (VD sz b)):=by kernel_rfl)
    (hr:NR P fn.results.toList=some [.t 2]:=by kernel_rfl) (hok:okF P k=true:=by kernel_rfl) (hn:Nat.ble 1 fn.ntmps=true:=by kernel_rfl) (hs:Nat.ble b 131072=true:=by kernel_rfl):gS P:=
 ⟨k,.dD (Y1 sz),mo (sz:=sz) (b:=b) (fun _ _ _ ha h=>Eu hf hok hb hr ha h) (Nat.le_of_ble_eq_true hn) (Nat.le_of_ble_eq_true hs)⟩
structure MM (P:Program) where
 m:FJ
 ok:Hj P m
def MM.add (M:MM P) {f:Nat} {vs:List V} {v:V} (h:CH vs=true/\BM v=true/\Pure P f vs v):MM P:=⟨tY M.m f vs v,rW M.ok h⟩
end Go.Gl
namespace Go.Gl
open Go.Proofs
set_option maxRecDepth 100000
def e17:=eX [] [] Tryz.func17
def e66:=eZ [] [] Tryz.func66
def e18:=eX [] [] Tryz.func18
def e19:=eX [] [] Tryz.func19
def e23:=eX [] [] Tryz.func23
def e22:=eX [] [] Tryz.func22
def e38:=eX [] [] Tryz.func38
def e67:=eZ [] [] Tryz.func67
def e15:=eX [] [] Tryz.func15
def e40:=eX [] [] Tryz.func40
def e31:=eX [] [] Tryz.func31
def e25:=eX [] [] Tryz.func25
def e69:=eX [] [] Tryz.func69
def e68:=eX [] [] Tryz.func68
def e27:=eX [] [] Tryz.func27
def e70:=eX [] [] Tryz.func70
def e59:=eX [] [] Tryz.func59
def e73:=eX [] [] Tryz.func73
def e72:=eX [] [] Tryz.func72
def e71:=eX [] [] Tryz.func71
def e74:=eX [] [] Tryz.func74
def e78:=eX [] [] Tryz.func78
def e100:=eX [] [] Tryz.func100
def e101:=eZ [] [] Tryz.func101
def e62:=eX [] [] Tryz.func62
def e102:=eX [] [] Tryz.func102
def e137:=eX [] [] Tryz.func137
def e60:=eX [] [] Tryz.func60
def e84:=eX [] [] Tryz.func84
def e82:=eX [] [] Tryz.func82
def e83:=eX [] [] Tryz.func83
def e92:=eX [] [] Tryz.func92
def e93:=eX [] [] Tryz.func93
def e81:=eX [] [] Tryz.func81
def e34:=eX [] [] Tryz.func34
def e131:=eX [] [] Tryz.func131
def e132:=eX [] [] Tryz.func132
def e138:=eX [] [] Tryz.func138
def e140:=eX [] [] Tryz.func140
def e139:=eX [] [] Tryz.func139
def e144:=eX [] [] Tryz.func144
def e79:=eX [] [] Tryz.func79
def e49:=eX [] [] Tryz.func49
def e159:=eX [] [] Tryz.func159
def e133:=eX [] [] Tryz.func133
def e134:=eX [] [] Tryz.func134
def e160:=eX [] [] Tryz.func160
def e61:=eX [] [] Tryz.func61
def e146:=eX [] [] Tryz.func146
def e147:=eX [] [] Tryz.func147
def e150:=eX [] [] Tryz.func150
def e151:=eZ [] [] Tryz.func151
def e118:=eX [] [] Tryz.func118
def e152:=eX [] [] Tryz.func152
end Go.Gl
