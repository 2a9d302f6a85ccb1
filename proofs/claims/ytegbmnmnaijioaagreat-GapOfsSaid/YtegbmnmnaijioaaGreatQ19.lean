import Derived.Test.YtegbmnmnaijioaaGreatProg
import Derived.KernelRfl
import Derived.Test.YtegbmnmnaijioaaGreatQ6
import Derived.Test.YtegbmnmnaijioaaGreatQ18
set_option linter.all false
set_option linter.defProp false
set_option maxHeartbeats 8000000
noncomputable section
namespace Go.Gl
variable {P:Program}
structure CU where
 M:Nat
 E:Env
abbrev Al:=Option (Ac×CU×St)
def Ld {α β:Type} (c:Bool) (x:Option α) (g:α->Option β):ob (bif c then x else none) g=bif c then ob x g else none:=by cases c<;>rfl
def nZ (env:Env) (n:Nat) (K:V->Al):Al:=@List.rec (Nat×V) (fun _=>Nat->(V->Al)->Al) (fun _ _=>none) (fun p _ ih n K=>@Bool.rec (fun _=>Al) (ih n K) (K p.2) (Nat.beq p.1 n)) env n K
def pg (env:Env) (n:Nat) (K:V->Al):nZ env n K=ob (get n env) K:=by
 induction env with
 | nil=>rfl
 | cons p r ih=>
   obtain⟨j,v⟩:=p;show @Bool.rec (fun _=>Al) (nZ r n K) (K v) (Nat.beq j n)=ob (bif Nat.beq j n then some v else get n r) K;cases Nat.beq j n
   .exact ih
   .rfl
def UL {α:Type} (cs:List α) (i:Nat) (K:α->Al):Al:=@List.rec α (fun _=>Nat->(α->Al)->Al) (fun _ _=>none) (fun v _ ih i K=>@Nat.rec (fun _=>Al) (K v) (fun j _=>ih j K) i) cs i K
def MS {α:Type} (cs:List α): ∀(i:Nat) (K:α->Al),UL cs i K=ob cs[i]? K:=by
 induction cs with
 | nil=>intro i K;rfl
 | cons v r ih=>
   intro i K;cases i with
   | zero=>rfl
   | succ j=>exact ih j K
def Gf {α:Type} (cs:List α):Nat:=@List.rec α (fun _=>Nat) 0 (fun _ _ ih=>Nat.succ ih) cs
def Fs {α:Type} (cs:List α):Gf cs=cs.length:=by
 induction cs with
 | nil=>rfl
 | cons v r ih=>show Nat.succ (Gf r)=_;rw[ih];rfl
def WW {α:Type} (cs:List α) (n:Nat):List α:=@Nat.rec (fun _=>List α->List α) (fun cs=>cs) (fun _ ih cs=>@List.rec α (fun _=>(List α->List α)->List α) (fun _=>[]) (fun _ r _ ih=>ih r) cs ih) n cs
def RA {α:Type}: ∀(n:Nat) (cs:List α),WW cs n=cs.drop n
 | 0,cs=>rfl
 | n+1,[]=>rfl
 | n+1,v::r=>RA n r
def Z0 {α:Type} (cs:List α) (n:Nat):List α:=@List.rec α (fun _=>Nat->List α) (fun _=>[]) (fun v _ ih n=>@Nat.rec (fun _=>List α) [] (fun j _=>v::ih j) n) cs n
def kN {α:Type} (cs:List α): ∀n:Nat,Z0 cs n=cs.take n:=by
 induction cs with
 | nil=>intro n;cases n<;>rfl
 | cons v r ih=>
   intro n;cases n with
   | zero=>rfl
   | succ j=>show v::Z0 r j=_;rw[ih];rfl
def YO {α:Type} (cs:List α) (n:Nat) (x:α):List α:=@List.rec α (fun _=>Nat->α->List α) (fun _ _=>[]) (fun v r ih n x=>@Nat.rec (fun _=>List α) (x::r) (fun j _=>v::ih j x) n) cs n x
def U2 {α:Type} (cs:List α) (x:α): ∀n:Nat,YO cs n x=cs.set n x:=by
 induction cs with
 | nil=>intro n;rfl
 | cons v r ih=>
   intro n;cases n with
   | zero=>rfl
   | succ j=>show v::YO r j x=_;rw[ih];rfl
def tE {α:Type} (f:α->Bool) (cs:List α):Bool:=@List.rec α (fun _=>(α->Bool)->Bool) (fun _=>true) (fun v _ ih f=>@Bool.rec (fun _=>Bool) false (ih f) (f v)) cs f
def qs {α:Type} (f:α->Bool) (cs:List α):tE f cs=cs.all f:=by
 induction cs with
 | nil=>rfl
 | cons v r ih=>
   show @Bool.rec (fun _=>Bool) false (tE f r) (f v)=_;rw[KE,ih];cases f v<;>rfl
def ja (v:V) (K:V->Al):Al:=@V.rec (fun _=>V->(V->Al)->Al) (fun _=>Unit) (fun _=>Unit) (fun _ v K=>K v) (fun _ _ v K=>K v) (fun _ v K=>K v) (fun v K=>K v) (fun _ _ v K=>@Bool.rec (fun _=>Al) none (K v) (BL v)) (fun _ _ v K=>@Bool.rec (fun _=>Al) none (K v) (BL v)) (fun _ _ _ v K=>@Bool.rec (fun _=>Al) none (K v) (BL v)) (fun _ _ _ v K=>@Bool.rec (fun _=>Al) none (K v) (BL v)) (fun _ _ _ _ v K=>@Bool.rec (fun _=>Al) none (K v) (BL v)) (fun _ _ _ _ v K=>@Bool.rec (fun _=>Al) none (K v) (BL v)) (fun _ v K=>@Bool.rec (fun _=>Al) none (K v) (BL v)) (fun v K=>K v) (fun _ _ _ _ _ v K=>@Bool.rec (fun _=>Al) none (K v) (BL v)) (fun v K=>K v) (fun _ _ _ v K=>@Bool.rec (fun _=>Al) none (K v) (BL v)) (fun v K=>K v) (fun _ _ v K=>@Bool.rec (fun _=>Al) none (K v) (BL v)) (fun _ _ v K=>@Bool.rec (fun _=>Al) none (K v) (BL v)) (fun v K=>@Bool.rec (fun _=>Al) none (K v) (BL v)) () (fun _ _ _ _=>()) () (fun _ _ _ _=>()) v v K
def BS {α:Type} (c:Bool) (x y:α): @Bool.rec (fun _=>α) y x c=bif c then x else y:=by cases c<;>rfl
def fK (v:V) (K:V->Al):ja v K=ob (bif BL v then some v else none) K:=by
 rw[Ld];cases v<;>first|rfl|exact BS _ _ _
def PX (M n:Nat):Bool:=Nat.beq (Nat.land (Nat.shiftRight M n) 1) 1
def UQ (e:CU) (n:Nat):Option V:=bif PX e.1 n then get n e.2 else none
def Jf (e:CU) (env:Env):Prop:= ∀n,UQ e n=get n env
def Bx (x:Bn) (e:CU) (K:V->Al):Al:=@Bn.rec (fun _=>CU->(V->Al)->Al) (fun n e K=>@Bool.rec (fun _=>Al) none (nZ e.2 n K) (PX e.1 n)) (fun v _ K=>ja v K) x e K
def BI {e:CU} {env:Env} (he:Jf e env) (x:Bn) (K:V->Al):Bx x e K=ob (De env x) K:=by
 cases x with
 | t n=>
   show @Bool.rec (fun _=>Al) none (nZ e.2 n K) (PX e.1 n)=ob (get n env) K;rw[<-he n,UQ,BS,Ld,pg]
 | c v=>exact fK v K
def MA (l:List Bn) (env:CU) (K:List V->Al):Al:=@List.rec Bn (fun _=>CU->(List V->Al)->Al) (fun _ K=>K []) (fun x _ ih env K=>Bx x env fun v=>ih env fun vs=>K (v::vs)) l env K
def Bu {e:CU} {env:Env} (he:Jf e env): ∀(l:List Bn) (K:List V->Al),MA l e K=ob (PH env l) K
 | [],K=>rfl
 | x ::r,K=>by
   show(Bx x e fun v=>MA r e fun vs=>K (v::vs))=_;rw[BI he];simp only[PH];cases De env x with
   | none=>rfl
   | some v=>
     simp only[ob];rw[Bu he r];cases PH env r<;>rfl
def YQ (x:Option Bn) (e:CU) (K:Option V->Al):Al:=@Option.rec Bn (fun _=>CU->(Option V->Al)->Al) (fun _ K=>K none) (fun x e K=>Bx x e fun v=>K (some v)) x e K
def B6 {e:CU} {env:Env} (he:Jf e env) (x:Option Bn) (K:Option V->Al):YQ x e K=ob (LW env x) K:=by
 cases x with
 | none=>rfl
 | some x=>
   show(Bx x e fun v=>K (some v))=_;rw[BI he];simp only[LW];cases De env x<;>rfl
def z6 (k:IntKind):Nat:=@IntKind.rec (fun _=>Nat) 0 1 2 3 4 5 6 7 k
def Nf (a b:IntKind):Bool:=Nat.beq (z6 a) (z6 b)
def qJ (a b:IntKind):Nf a b=decide (a=b):=by cases a<;>cases b<;>rfl
def AAG (a b:Int):Int:=@Int.rec (fun _=>Int->Int) (fun m b=>@Int.rec (fun _=>Nat->Int) (fun n m=>Int.ofNat (Nat.add m n)) (fun n m=>Int.ofNat m+Int.negSucc n) b m) (fun m b=>Int.negSucc m+b) a b
def qz (a b:Int):AAG a b=a+b:=by cases a<;>cases b<;>rfl
def zj (a b:Int):Int:=@Int.rec (fun _=>Int->Int) (fun m b=>@Int.rec (fun _=>Nat->Int) (fun n m=>@Bool.rec (fun _=>Int) (Int.negSucc (Nat.sub n (Nat.succ m))) (Int.ofNat (Nat.sub m n)) (Nat.ble n m)) (fun n m=>Int.ofNat m - Int.negSucc n) b m) (fun m b=>Int.negSucc m - b) a b
def n9 (a b:Int):zj a b=a - b:=by
 cases a with
 | negSucc m=>rfl
 | ofNat m=>
   cases b with
   | negSucc n=>rfl
   | ofNat n=>
     show @Bool.rec (fun _=>Int) (Int.negSucc (n - (m+1))) (Int.ofNat (m - n)) (Nat.ble n m)=_;cases h:Nat.ble n m with
     | true=>
       have:=Nat.le_of_ble_eq_true h;show Int.ofNat (m - n)=(m:Int) - (n:Int);simp only[Int.ofNat_eq_natCast];omega
     | false=>
       have: ¬n<=m:=fun h'=>by rw[Nat.ble_eq_true_of_le h']at h;cases h
       show Int.negSucc (n - (m+1))=(m:Int) - (n:Int);omega
def fl (a b:Int):Bool:=@Int.rec (fun _=>Int->Bool) (fun m b=>@Int.rec (fun _=>Nat->Bool) (fun n m=>Nat.ble (Nat.succ m) n) (fun _ _=>false) b m) (fun m b=>@Int.rec (fun _=>Nat->Bool) (fun _ _=>true) (fun n m=>Nat.ble (Nat.succ n) m) b m) a b
def Ub (a b:Int):fl a b=NX a b:=by cases a<;>cases b<;>rfl
def eqI (a b:Int):Bool:=@Int.rec (fun _=>Int->Bool) (fun m b=>@Int.rec (fun _=>Nat->Bool) (fun n m=>Nat.beq m n) (fun _ _=>false) b m) (fun m b=>@Int.rec (fun _=>Nat->Bool) (fun _ _=>false) (fun n m=>Nat.beq m n) b m) a b
def ui (a b:Int):eqI a b=cV a b:=by cases a<;>cases b<;>rfl
def UM (b:Bool):Bool:=@Bool.rec (fun _=>Bool) true false b
def ow (b:Bool):UM b= !b:=by cases b<;>rfl
def fu (a:Int):Nat:=@Int.rec (fun _=>Nat) (fun n=>n) (fun _=>0) a
def QY (a:Int):fu a=a.toNat:=by cases a<;>rfl
def Zz (k:IntKind) (n:Int):Int:=@IntKind.rec (fun _=>Int->Int) (fun n=>IntKind.i8.wrap n) (fun n=>IntKind.i16.wrap n) (fun n=>IntKind.i32.wrap n)
 (fun n=>@Int.rec (fun _=>Int) (fun m=>@Bool.rec (fun _=>Int) (IntKind.i64.wrap (Int.ofNat m)) (Int.ofNat m) (Nat.ble m 9223372036854775807)) (fun m=>@Bool.rec (fun _=>Int) (IntKind.i64.wrap (Int.negSucc m)) (Int.negSucc m) (Nat.ble m 9223372036854775807)) n)
 (fun n=>IntKind.u8.wrap n) (fun n=>IntKind.u16.wrap n) (fun n=>IntKind.u32.wrap n)
 (fun n=>@Int.rec (fun _=>Int) (fun m=>@Bool.rec (fun _=>Int) (IntKind.u64.wrap (Int.ofNat m)) (Int.ofNat m) (Nat.ble m 18446744073709551615)) (fun m=>IntKind.u64.wrap (Int.negSucc m)) n) k n
def kC (k:IntKind) (n:Int):Zz k n=k.wrap n:=by
 cases k<;>try rfl
 .cases n with
  | ofNat m=>
    have:=J0 .i64 (.ofNat m);simp only[JE]at this;rw[<-this];show @Bool.rec (fun _=>Int) _ _ _=_;cases Nat.ble m 9223372036854775807<;>rfl
  | negSucc m=>
    show @Bool.rec (fun _=>Int) (IntKind.i64.wrap (Int.negSucc m)) (Int.negSucc m) (Nat.ble m 9223372036854775807)=_;cases h:Nat.ble m 9223372036854775807 with
    | false=>rfl
    | true=>
      have:=Nat.le_of_ble_eq_true h;show Int.negSucc m=_;exact(wrap64 (by omega) (by omega)).symm
 .cases n with
  | ofNat m=>
    have:=J0 .u64 (.ofNat m);simp only[JE]at this;rw[<-this];show @Bool.rec (fun _=>Int) _ _ _=_;cases Nat.ble m 18446744073709551615<;>rfl
  | negSucc m=>rfl
def zl (k:IntKind) (a b:Int):Int:=@Int.rec (fun _=>Int->IntKind->Int) (fun m b _=>Int.ofNat (Nat.shiftRight m (Nat.min (fu b) k.bits))) (fun m b k=>(Int.negSucc m).fdiv (2 ^ (min b.toNat k.bits))) a b k
def oE (k:IntKind) (a b:Int):zl k a b=a.fdiv (2 ^ (min b.toNat k.bits)):=by
 cases a with
 | negSucc m=>rfl
 | ofNat m=>
   show Int.ofNat (m >>> (min (fu b) k.bits))=_;rw[QY,Nat.shiftRight_eq_div_pow];have:(2:Int) ^ (min b.toNat k.bits)=((2 ^ (min b.toNat k.bits):Nat):Int):=by simp
   rw[this];exact(Int.ofNat_fdiv _ _)
def zm (k:IntKind) (a b:Int):Int:=@Int.rec (fun _=>Int->IntKind->Int) (fun m b _=>Int.ofNat (Nat.shiftLeft m (Nat.min (fu b) k.bits))) (fun m b k=>(Int.negSucc m)*(2 ^ (min b.toNat k.bits))) a b k
def oF (k:IntKind) (a b:Int):zm k a b=a*(2 ^ (min b.toNat k.bits)):=by
 cases a with
 | negSucc m=>rfl
 | ofNat m=>
   show Int.ofNat (m <<< (min (fu b) k.bits))=_;rw[QY,Nat.shiftLeft_eq];simp
def asI (v:V) (K:IntKind->Int->Al):Al:=@V.rec (fun _=>(IntKind->Int->Al)->Al) (fun _=>Unit) (fun _=>Unit) (fun _ K=>none) (fun k n K=>K k n) (fun _ K=>none) (fun K=>none) (fun _ _ K=>none) (fun _ _ K=>none) (fun _ _ _ K=>none) (fun _ _ _ K=>none) (fun _ _ _ _ K=>none) (fun _ _ _ _ K=>none) (fun _ K=>none) (fun K=>none) (fun _ _ _ _ _ K=>none) (fun K=>none) (fun _ _ _ K=>none) (fun K=>none) (fun _ _ K=>none) (fun _ _ K=>none) (fun K=>none) () (fun _ _ _ _=>()) () (fun _ _ _ _=>()) v K
def isI:V->Option (IntKind×Int)| .i k n=>some (k,n)|_=>none
def Yx (v:V) (K:IntKind->Int->Al):asI v K=ob (isI v) fun p=>K p.1 p.2:=by cases v<;>rfl
def nh (op:BinOp) (vx vy:V) (K:V->Al):Al:=asI vx fun ka a=>asI vy fun kb b=>@BinOp.rec (fun _=>IntKind->Int->IntKind->Int->(V->Al)->Al) (fun ka a kb b K=>@Bool.rec (fun _=>Al) none (K (.i ka (Zz ka (AAG a b)))) (Nf ka kb)) (fun ka a kb b K=>@Bool.rec (fun _=>Al) none (K (.i ka (Zz ka (zj a b)))) (Nf ka kb)) (fun ka a kb b K=>ob (V4 .mul (.i ka a) (.i kb b)) K) (fun ka a kb b K=>ob (V4 .quo (.i ka a) (.i kb b)) K) (fun ka a kb b K=>ob (V4 .rem (.i ka a) (.i kb b)) K) (fun ka a kb b K=>@Bool.rec (fun _=>Al) none (K (.i ka (QS .and ka a b))) (Nf ka kb)) (fun ka a kb b K=>@Bool.rec (fun _=>Al) none (K (.i ka (QS .or ka a b))) (Nf ka kb)) (fun ka a kb b K=>@Bool.rec (fun _=>Al) none (K (.i ka (QS .xor ka a b))) (Nf ka kb)) (fun ka a kb b K=>@Bool.rec (fun _=>Al) none (K (.i ka (Zz ka (zm ka a b)))) (UM (fl b 0))) (fun ka a kb b K=>@Bool.rec (fun _=>Al) none (K (.i ka (zl ka a b))) (UM (fl b 0))) (fun ka a kb b K=>@Bool.rec (fun _=>Al) none (K (.i ka (QS .andNot ka a b))) (Nf ka kb)) (fun ka a kb b K=>@Bool.rec (fun _=>Al) none (K (.b (eqI a b))) (Nf ka kb)) (fun ka a kb b K=>@Bool.rec (fun _=>Al) none (K (.b (UM (eqI a b)))) (Nf ka kb)) (fun ka a kb b K=>@Bool.rec (fun _=>Al) none (K (.b (fl a b))) (Nf ka kb)) (fun ka a kb b K=>@Bool.rec (fun _=>Al) none (K (.b (UM (fl b a)))) (Nf ka kb)) (fun ka a kb b K=>@Bool.rec (fun _=>Al) none (K (.b (fl b a))) (Nf ka kb)) (fun ka a kb b K=>@Bool.rec (fun _=>Al) none (K (.b (UM (fl a b)))) (Nf ka kb)) op ka a kb b K
def ql (op:BinOp) (vx vy:V) (K:V->Al):nh op vx vy K=ob (V4 op vx vy) K:=by
 unfold nh;rw[Yx];cases vx<;>first|rfl|skip
 rename_i ka a;simp only[isI,ob];rw[Yx];cases vy<;>first|(cases op<;>rfl)|skip
 rename_i kb b;simp only[isI,ob];cases op<;>first|rfl|skip
 all_goals
  simp only[V4];simp only[BS,qJ,kC,qz,n9,ui,Ub,ow,oF,oE,J0,P5,ob]
  first
   | (cases decide (ka=kb)<;>rfl)
   | (cases NX b 0<;>rfl)
def ct {α:Type} (t:Tr α) (k:Nat):Option α:=@Tr.rec α (fun _=>Nat->Option α) (fun _=>none) (fun o _ _ ihl ihr k=>@Nat.rec (fun _=>Option α) o (fun j _=>@Bool.rec (fun _=>Option α) (ihr (Nat.div j 2)) (ihl (Nat.div j 2)) (Nat.beq (Nat.mod j 2) 0)) k) t k
def VI {α:Type} (t:Tr α): ∀k:Nat,ct t k=t.get k:=by
 induction t with
 | leaf=>intro k;rfl
 | node o l r ihl ihr=>
   intro k;cases k with
   | zero=>rfl
   | succ j=>
     show @Bool.rec (fun _=>Option α) (ct r (j / 2)) (ct l (j / 2)) (Nat.beq (j % 2) 0)=bif Nat.beq (j % 2) 0 then l.get (j / 2)else r.get (j / 2);rw[ihl,ihr];cases Nat.beq (j % 2) 0<;>rfl
def UK {α β:Type} (x:Option α) (d:Nat) (t:Tr α) (k:Nat) (K:Tr α->β):β:=
 @Nat.rec (fun _=>Tr α->Nat->(Tr α->β)->β) (fun t _ K=>K t)
  (fun _ ih t k K=>@Tr.rec α (fun _=>Nat->(Tr α->β)->β)
   (fun k K=>@Nat.rec (fun _=>β) (K (.node x .leaf .leaf)) (fun j _=>@Bool.rec (fun _=>β) (ih .leaf (Nat.div j 2) fun r=>K (.node none .leaf r)) (ih .leaf (Nat.div j 2) fun l=>K (.node none l .leaf)) (Nat.beq (Nat.mod j 2) 0)) k)
   (fun o l r _ _ k K=>@Nat.rec (fun _=>β) (K (.node x l r)) (fun j _=>@Bool.rec (fun _=>β) (ih r (Nat.div j 2) fun r=>K (.node o l r)) (ih l (Nat.div j 2) fun l=>K (.node o l r)) (Nat.beq (Nat.mod j 2) 0)) k) t k K) d t k K
def HH {α β:Type} (x:Option α): ∀(d:Nat) (t:Tr α) (k:Nat) (K:Tr α->β),UK x d t k K=Tr.put x d t k K
 | 0,t,k,K=>rfl
 | d+1,.leaf,0,K=>rfl
 | d+1,.node _ _ _,0,K=>rfl
 | d+1,.leaf,j+1,K=>by
   show @Bool.rec (fun _=>β) (UK x d .leaf (j / 2) fun r=>K (.node none .leaf r)) (UK x d .leaf (j / 2) fun l=>K (.node none l .leaf)) (Nat.beq (j % 2) 0)=bif Nat.beq (j % 2) 0 then _ else _;rw[HH x d,HH x d,BS]
 | d+1,.node o l r,j+1,K=>by
   show @Bool.rec (fun _=>β) (UK x d r (j / 2) fun r=>K (.node o l r)) (UK x d l (j / 2) fun l=>K (.node o l r)) (Nat.beq (j % 2) 0)=bif Nat.beq (j % 2) 0 then _ else _;rw[HH x d,HH x d,BS]
def gN (s:St) (o:EO) (K:Nat->St->Al):Al:=@Nat.rec (fun _=>Al) (UK (some o) BD s.t 0 fun t=>K 0 ⟨1,t⟩) (fun n _=>@Bool.rec (fun _=>Al) none (UK (some o) BD s.t (Nat.succ n) fun t=>K (Nat.succ n) ⟨Nat.succ (Nat.succ n),t⟩) (Nat.ble (Nat.succ n) Nd)) s.nx
def o5 {γ:Type} (s:St) (o:EO) (f:Nat->St->Option γ) (K:γ->Al):ob (s.new o f) K=gN s o fun i s'=>ob (f i s') K:=by
 obtain⟨n,t⟩:=s;cases n with
 | zero=>
   unfold gN;simp only[St.new];rw[HH,Tr.put_eq,Tr.put_eq];rfl
 | succ n=>
   unfold gN;simp only[St.new];rw[HH,Tr.put_eq,Tr.put_eq,BS,Ld]
def AAU (o:EO) (K:List V->Al):Al:=@EO.rec (fun _=>(List V->Al)->Al) (fun vs K=>K vs) (fun _ _ _=>none) (fun _ _=>none) (fun _ _ _ _ _ _=>none) o K
def tk (o:EO) (K:Nat->List (List V)->Al):Al:=@EO.rec (fun _=>(Nat->List (List V)->Al)->Al) (fun _ _=>none) (fun sz es K=>K sz es) (fun _ _=>none) (fun _ _ _ _ _ _=>none) o K
def obQ {α:Type} (o:Option α) (K:α->Al):Al:=@Option.rec α (fun _=>(α->Al)->Al) (fun _=>none) (fun a K=>K a) o K
def iY {α:Type} (o:Option α) (K:α->Al):obQ o K=ob o K:=by cases o<;>rfl
def Z7 (s:St) (n:Nat) (K:List V->Al):Al:=obQ (ct s.t n) fun o=>AAU o K
def Uh (s:St) (n:Nat) (K:Nat->List (List V)->Al):Al:=obQ (ct s.t n) fun o=>tk o K
def XE (s:St) (n:Nat) (K:List V->Al):Z7 s n K=match s.t.get n with|some (.cs vs)=>K vs|_=>none:=by
 unfold Z7;rw[iY,VI];cases s.t.get n with
 | none=>rfl
 | some o=>cases o<;>rfl
def Ti (s:St) (n:Nat) (K:Nat->List (List V)->Al):Uh s n K=match s.t.get n with|some (.arr sz es)=>K sz es|_=>none:=by
 unfold Uh;rw[iY,VI];cases s.t.get n with
 | none=>rfl
 | some o=>cases o<;>rfl
def YV (agg:Option Nat) (cs:List V) (off:Nat) (K:V->Al):Al:=@Option.rec Nat (fun _=>List V->Nat->(V->Al)->Al) (fun cs off K=>UL cs off K)
 (fun n cs off K=>@Bool.rec (fun _=>Al) (@Bool.rec (fun _=>Al) none (K (.a (Z0 (WW cs off) n))) (Nat.ble (Nat.add off n) (Gf cs))) (K (.a cs)) (@Bool.rec (fun _=>Bool) false (Nat.beq n (Gf cs)) (Nat.beq off 0))) agg cs off K
def Pu (agg:Option Nat) (cs:List V) (off:Nat) (K:V->Al):YV agg cs off K=ob (V2 agg cs off) K:=by
 cases agg with
 | none=>exact MS cs off K
 | some n=>
   show @Bool.rec (fun _=>Al) (@Bool.rec (fun _=>Al) none (K (.a (Z0 (WW cs off) n))) (Nat.ble (off+n) (Gf cs))) (K (.a cs)) (@Bool.rec (fun _=>Bool) false (Nat.beq n (Gf cs)) (Nat.beq off 0))=_;simp only[V2];rw[kN,RA,Fs,Ld];cases h1:Nat.beq off 0 with
   | false=>exact BS _ _ _
   | true=>
     cases h2:Nat.beq n cs.length with
     | false=>exact BS _ _ _
     | true=>
       have:=C5 h1;subst this;have:=C5 h2;subst this;show K (.a cs)=_;rw[Nat.ble_eq_true_of_le (by omega)];simp[ob]
def gq (s:St) (agg:Option Nat) (x:V) (K:V->Al):Al:=@V.rec (fun _=>St->Option Nat->(V->Al)->Al) (fun _=>Unit) (fun _=>Unit) (fun _ s agg K=>none) (fun _ _ s agg K=>none) (fun _ s agg K=>none) (fun s agg K=>none) (fun n off s agg K=>Z7 s n fun vs=>YV agg vs off K) (fun cs _ s agg K=>YV agg cs 0 K) (fun _ _ _ s agg K=>none) (fun _ _ _ s agg K=>none) (fun _ _ _ _ s agg K=>none) (fun n sz i off s agg K=>Uh s n fun sz1 es=>@Bool.rec (fun _=>Al) none (UL es i fun e=>YV agg e off K) (Nat.beq sz sz1)) (fun _ s agg K=>none) (fun s agg K=>none) (fun _ _ _ _ _ s agg K=>none) (fun s agg K=>none) (fun _ _ _ s agg K=>none) (fun s agg K=>none) (fun _ _ s agg K=>none) (fun _ _ s agg K=>none) (fun s agg K=>none) () (fun _ _ _ _=>()) () (fun _ _ _ _=>()) x s agg K
def lQ (s:St) (agg:Option Nat) (x:V) (K:V->Al):gq s agg x K=ob (Oo s agg x) K:=by
 cases x<;>first|rfl|skip
 .rename_i n off
  refine(XE _ _ _).trans ?_;simp only[Oo];cases s.t.get n with
  | none=>rfl
  | some o=>cases o<;>first|rfl|exact Pu _ _ _ _
 .exact Pu _ _ _ _
 .rename_i n sz i off
  refine(Ti _ _ _).trans ?_;simp only[Oo];cases s.t.get n with
  | none=>rfl
  | some o=>
    cases o<;>first|rfl|skip
    rename_i sz1 es;simp only;rw[BS,Ld,MS];congr 1;cases es[i]? with
    | none=>rfl
    | some e=>exact Pu _ _ _ _
def Hf (v:V) (K:List V->Al):Al:=@V.rec (fun _=>V->(List V->Al)->Al) (fun _=>Unit) (fun _=>Unit) (fun _ v K=>K [v]) (fun _ _ v K=>K [v]) (fun _ v K=>K [v]) (fun v K=>K [v]) (fun _ _ v K=>K [v]) (fun _ _ v K=>K [v]) (fun _ _ _ v K=>K [v]) (fun _ _ _ v K=>K [v]) (fun _ _ _ _ v K=>K [v]) (fun _ _ _ _ v K=>K [v]) (fun _ v K=>K [v]) (fun v K=>K [v]) (fun _ _ _ _ _ v K=>K [v]) (fun v K=>K [v]) (fun _ _ _ v K=>K [v]) (fun v K=>K [v]) (fun cs _ v K=>K cs) (fun _ _ v K=>none) (fun v K=>none) () (fun _ _ _ _=>()) () (fun _ _ _ _=>()) v v K
def IT (v:V) (K:List V->Al):Hf v K=ob (cellsOf v) K:=by cases v<;>rfl
def zt (v:V):Bool:=@V.rec (fun _=>Bool) (fun _=>Unit) (fun _=>Unit) (fun _=>true) (fun _ _=>true) (fun _=>true) (true) (fun _ _=>true) (fun _ _=>true) (fun _ _ _=>true) (fun _ _ _=>true) (fun _ _ _ _=>true) (fun _ _ _ _=>true) (fun _=>true) (true) (fun _ _ _ _ _=>true) (true) (fun _ _ _=>true) (true) (fun _ _=>false) (fun _ _=>false) (false) () (fun _ _ _ _=>()) () (fun _ _ _ _=>()) v
def oq:zt=CO:=funext fun v=>by cases v<;>rfl
def gJ (cs:List V) (o:Nat) (vc:List V):List V:=@List.rec V (fun _=>List V->Nat->List V) (fun cs _=>cs) (fun v _ ih cs o=>ih (YO cs o v) (Nat.succ o)) vc cs o
def Pf: ∀(vc cs:List V) (o:Nat),gJ cs o vc=putAt cs o vc
 | [],_,_=>rfl
 | v::r,cs,o=>by
   show gJ (YO cs o v) (o+1) r=_;rw[Pf r,U2];rfl
def nR (cs:List V) (o:Nat) (vc:List V):List V:=@Bool.rec (fun _=>List V) (gJ cs o vc) vc (@Bool.rec (fun _=>Bool) false (Nat.beq (Gf vc) (Gf cs)) (Nat.beq o 0))
def db: ∀(vc pre cs:List V),vc.length=cs.length->putAt (pre++cs) pre.length vc=pre++vc:=by
 intro vc
 induction vc with
 | nil=>intro pre cs hl;cases cs with
   | nil=>rfl
   | cons _ _=>cases hl
 | cons x vc ih=>
   intro pre cs hl;cases cs with
   | nil=>cases hl
   | cons y cs=>
     simp only[putAt];rw[List.set_append_right _ _ (IW _),Nat.sub_self,List.set_cons_zero];have:=ih (pre++[x]) cs (by simpa using hl);simp only[NW,Ky,List.length_nil,G8,PD,List.singleton_append]at this;exact this
def ae (cs:List V) (o:Nat) (vc:List V):nR cs o vc=putAt cs o vc:=by
 unfold nR;cases h1:Nat.beq o 0 with
 | false=>exact Pf vc cs o
 | true=>
   rw[Fs,Fs];cases h2:Nat.beq vc.length cs.length with
   | false=>exact Pf vc cs o
   | true=>
     have:=C5 h1;subst this;exact(db vc [] cs (C5 h2)).symm
def iO (s:St) (sz:Nat) (a:V) (vc:List V) (K:St->Al):Al:=@V.rec (fun _=>St->Nat->List V->(St->Al)->Al) (fun _=>Unit) (fun _=>Unit) (fun _ s sz vc K=>none) (fun _ _ s sz vc K=>none) (fun _ s sz vc K=>none) (fun s sz vc K=>none) (fun n off s sz vc K=>Z7 s n fun vs=>@Bool.rec (fun _=>Al) none (UK (some (.cs (nR vs off vc))) BD s.t n fun t=>K ⟨s.nx,t⟩) (Nat.ble (Nat.add off sz) (Gf vs))) (fun _ _ s sz vc K=>none) (fun _ _ _ s sz vc K=>none) (fun _ _ _ s sz vc K=>none) (fun _ _ _ _ s sz vc K=>none) (fun n s' i off s sz vc K=>Uh s n fun s1 es=>@Bool.rec (fun _=>Al) none (@Bool.rec (fun _=>Al) none (UL es i fun e=>UK (some (.arr s1 (YO es i (nR e off vc)))) BD s.t n fun t=>K ⟨s.nx,t⟩) (Nat.ble (Nat.add off sz) s')) (Nat.beq s' s1)) (fun _ s sz vc K=>none) (fun s sz vc K=>none) (fun _ _ _ _ _ s sz vc K=>none) (fun s sz vc K=>none) (fun _ _ _ s sz vc K=>none) (fun s sz vc K=>none) (fun _ _ s sz vc K=>none) (fun _ _ s sz vc K=>none) (fun s sz vc K=>none) () (fun _ _ _ _=>()) () (fun _ _ _ _=>()) a s sz vc K
def UU (s:St) (sz:Nat) (a x:V) (K:St->Al):Al:=Hf x fun vc=>@Bool.rec (fun _=>Al) none (@Bool.rec (fun _=>Al) none (iO s sz a vc K) (tE zt vc)) (Nat.beq (Gf vc) sz)
def dH (s : St) (sz:Nat) (a x:V) (K:St->Al):UU s sz a x K=ob (Qd s sz a x) K:=by
 unfold UU Qd;rw[IT];cases cellsOf x with
 | none=>rfl
 | some vc =>
   simp only[ob,Fs,qs,oq];cases Nat.beq vc.length sz with
   | false=>rfl
   | true=>
     cases vc.all CO with
     | false=>rfl
     | true=>
       simp only[Bool.and_true,cond_true];show iO s sz a vc K=_;cases a<;>first|rfl|skip
       .rename_i n off
        refine(XE _ _ _).trans ?_;simp only;cases s.t.get n with
        | none=>rfl
        | some o=>
          cases o<;>first|rfl|skip
          rename_i vs;simp only;rw[HH,Tr.put_eq,ae,Fs,BS,Tr.put_eq];show(bif Nat.ble (off+sz) vs.length then _ else none)=_;cases Nat.ble (off+sz) vs.length<;>rfl
       .rename_i n s' i off
        refine(Ti _ _ _).trans ?_;simp only;cases s.t.get n with
        | none=>rfl
        | some o=>
          cases o<;>first|rfl|skip
          rename_i s1 es;simp only;rw[BS,BS,MS];show(bif Nat.beq s' s1 then(bif Nat.ble (off+sz) s' then _ else none)else none)=_;cases Nat.beq s' s1<;>cases Nat.ble (off+sz) s'<;>try rfl
          simp only[cond_true,Bool.and_true];cases es[i]? with
          | none=>rfl
          | some e=>
            simp only[ob];rw[HH,Tr.put_eq,ae,U2,Tr.put_eq]
def Ym (off:Nat) (x:V) (K:V->Al):Al:=@V.rec (fun _=>Nat->(V->Al)->Al) (fun _=>Unit) (fun _=>Unit) (fun _ off K=>none) (fun _ _ off K=>none) (fun _ off K=>none) (fun off K=>none) (fun n o off K=>K (.p n (Nat.add o off))) (fun cs _ off K=>K (.rp (WW cs off))) (fun _ _ _ off K=>none) (fun _ _ _ off K=>none) (fun _ _ _ _ off K=>none) (fun n sz i o off K=>K (.pe n sz i (Nat.add o off))) (fun _ off K=>none) (fun off K=>none) (fun _ _ _ _ _ off K=>none) (fun off K=>none) (fun _ _ _ off K=>none) (fun off K=>none) (fun _ _ off K=>none) (fun _ _ off K=>none) (fun off K=>none) () (fun _ _ _ _=>()) () (fun _ _ _ _=>()) x off K
def eo (off:Nat) (x:V) (K:V->Al):Ym off x K=ob (Uq off x) K:=by
 cases x<;>first|rfl|skip
 show K (.rp (WW _ off))=_;rw[RA];rfl
def iv (sz:Nat) (x:V) (j:Int) (K:V->Al):Al:=@V.rec (fun _=>Nat->Int->(V->Al)->Al) (fun _=>Unit) (fun _=>Unit) (fun _ sz j K=>none) (fun _ _ sz j K=>none) (fun _ sz j K=>none) (fun sz j K=>none) (fun _ _ sz j K=>none) (fun _ _ sz j K=>none) (fun es _ _ sz j K=>UL es (fu j) fun e=>@Bool.rec (fun _=>Al) none (K (.rp e)) (Nat.beq (Gf e) sz)) (fun n len _ sz j K=>@Bool.rec (fun _=>Al) none (K (.pe n sz (fu j) 0)) (fl j (Int.ofNat len))) (fun n s off len sz j K=>@Bool.rec (fun _=>Al) none (@Bool.rec (fun _=>Al) none (K (.pe n sz (Nat.add off (fu j)) 0)) (fl j (Int.ofNat len))) (Nat.beq s sz)) (fun _ _ _ _ sz j K=>none) (fun _ sz j K=>none) (fun sz j K=>none) (fun _ _ _ _ _ sz j K=>none) (fun sz j K=>none) (fun _ _ _ sz j K=>none) (fun sz j K=>none) (fun _ _ sz j K=>none) (fun _ _ sz j K=>none) (fun sz j K=>none) () (fun _ _ _ _=>()) () (fun _ _ _ _=>()) x sz j K
def Yk (sz:Nat) (arr:Option Nat) (x i:V) (K:V->Al):Al:=@Option.rec Nat (fun _=>Nat->V->V->(V->Al)->Al) (fun sz x i K=>asI i fun _ j=>@Bool.rec (fun _=>Al) (iv sz x j K) none (fl j 0)) (fun m sz x i K=>ob (Nv sz (some m) x i) K) arr sz x i K
def eH (sz:Nat) (arr:Option Nat) (x i:V) (K:V->Al):Yk sz arr x i K=ob (Nv sz arr x i) K:=by
 cases arr with
 | some m=>rfl
 | none=>
   refine(Yx _ _).trans ?_;cases i<;>first|rfl|skip
   rename_i k j;simp only[isI,ob,Nv,P5,Ub];cases NX j 0 with
   | true=>rfl
   | false=>
     show iv sz x j K=_;cases x<;>first|rfl|skip
     .rename_i es full
      show UL es (fu j) _=_;rw[MS,QY];simp only[Bool.not_false,cond_true];cases es[j.toNat]? with
      | none=>rfl
      | some e=>
        simp only[ob,Fs];cases Nat.beq e.length sz<;>rfl
     .rename_i n len cap
      show @Bool.rec (fun _=>Al) none (K (.pe n sz (fu j) 0)) (fl j (Int.ofNat len))=_;rw[QY,Ub];simp only[Bool.not_false,cond_true];have:NX j (Int.ofNat len)=NX j (len:Int):=rfl;rw[this];cases NX j (len:Int)<;>rfl
     .rename_i n s off len
      show @Bool.rec (fun _=>Al) none (@Bool.rec (fun _=>Al) none (K (.pe n sz (off+fu j) 0)) (fl j (Int.ofNat len))) (Nat.beq s sz)=_;rw[QY,Ub];simp only[Bool.not_false,cond_true];have:NX j (Int.ofNat len)=NX j (len:Int):=rfl;rw[this];cases Nat.beq s sz<;>cases NX j (len:Int)<;>rfl
def su (x:V) (K:V->Al):Al:=@V.rec (fun _=>(V->Al)->Al) (fun _=>Unit) (fun _=>Unit) (fun _ K=>none) (fun _ _ K=>none) (fun _ K=>none) (fun K=>none) (fun _ _ K=>none) (fun _ _ K=>none) (fun es _ _ K=>K (.i .i64 (Int.ofNat (Gf es)))) (fun _ len _ K=>@Bool.rec (fun _=>Al) none (K (.i .i64 (Int.ofNat len))) (Nat.ble len AZ)) (fun _ _ _ len K=>@Bool.rec (fun _=>Al) none (K (.i .i64 (Int.ofNat len))) (Nat.ble len AZ)) (fun _ _ _ _ K=>none) (fun _ K=>none) (fun K=>none) (fun _ _ _ _ _ K=>none) (fun K=>none) (fun _ _ _ K=>none) (fun K=>none) (fun _ _ K=>none) (fun _ _ K=>none) (fun K=>none) () (fun _ _ _ _=>()) () (fun _ _ _ _=>()) x K
def pC (x:V) (K:V->Al):su x K=ob (cw x) K:=by
 cases x<;>first|rfl|skip
 .show K (.i .i64 (Int.ofNat (Gf _)))=_
  rw[Fs];rfl
 .show @Bool.rec (fun _=>Al) none _ (Nat.ble _ AZ)=_
  rw[BS];simp only[cw];rw[Ld];rfl
 .show @Bool.rec (fun _=>Al) none _ (Nat.ble _ AZ)=_
  rw[BS];simp only[cw];rw[Ld];rfl
def Yd (x:V) (K:V->Al):Al:=@V.rec (fun _=>V->(V->Al)->Al) (fun _=>Unit) (fun _=>Unit) (fun _ x K=>none) (fun _ _ x K=>none) (fun _ x K=>none) (fun x K=>none) (fun _ _ x K=>K x) (fun _ _ x K=>K x) (fun _ _ _ x K=>none) (fun _ _ _ x K=>none) (fun _ _ _ _ x K=>none) (fun _ _ _ _ x K=>K x) (fun _ x K=>none) (fun x K=>none) (fun _ _ _ _ _ x K=>ob (Nu x) K) (fun x K=>none) (fun _ _ _ x K=>none) (fun x K=>none) (fun _ _ x K=>none) (fun _ _ x K=>none) (fun x K=>none) () (fun _ _ _ _=>()) () (fun _ _ _ _=>()) x x K
def dk (x:V) (K:V->Al):Yd x K=ob (Nu x) K:=by cases x<;>rfl
def asT (v:V) (K:List V->Al):Al:=@V.rec (fun _=>(List V->Al)->Al) (fun _=>Unit) (fun _=>Unit) (fun _ K=>none) (fun _ _ K=>none) (fun _ K=>none) (fun K=>none) (fun _ _ K=>none) (fun _ _ K=>none) (fun _ _ _ K=>none) (fun _ _ _ K=>none) (fun _ _ _ _ K=>none) (fun _ _ _ _ K=>none) (fun _ K=>none) (fun K=>none) (fun _ _ _ _ _ K=>none) (fun K=>none) (fun _ _ _ K=>none) (fun K=>none) (fun _ _ K=>none) (fun vs _ K=>K vs) (fun K=>none) () (fun _ _ _ _=>()) () (fun _ _ _ _=>()) v K
def rF (v:V) (K:Bool->Al):Al:=@V.rec (fun _=>(Bool->Al)->Al) (fun _=>Unit) (fun _=>Unit) (fun x K=>K x) (fun _ _ K=>none) (fun _ K=>none) (fun K=>none) (fun _ _ K=>none) (fun _ _ K=>none) (fun _ _ _ K=>none) (fun _ _ _ K=>none) (fun _ _ _ _ K=>none) (fun _ _ _ _ K=>none) (fun _ K=>none) (fun K=>none) (fun _ _ _ _ _ K=>none) (fun K=>none) (fun _ _ _ K=>none) (fun K=>none) (fun _ _ K=>none) (fun _ _ K=>none) (fun K=>none) () (fun _ _ _ _=>()) () (fun _ _ _ _=>()) v K
def asA (v:V) (K:List V->Al):Al:=@V.rec (fun _=>(List V->Al)->Al) (fun _=>Unit) (fun _=>Unit) (fun _ K=>none) (fun _ _ K=>none) (fun _ K=>none) (fun K=>none) (fun _ _ K=>none) (fun _ _ K=>none) (fun _ _ _ K=>none) (fun _ _ _ K=>none) (fun _ _ _ _ K=>none) (fun _ _ _ _ K=>none) (fun _ K=>none) (fun K=>none) (fun _ _ _ _ _ K=>none) (fun K=>none) (fun _ _ _ K=>none) (fun K=>none) (fun cs _ K=>K cs) (fun _ _ K=>none) (fun K=>none) () (fun _ _ _ _=>()) () (fun _ _ _ _=>()) v K
def YR (v:V) (K:V->Al):Al:=@V.rec (fun _=>V->(V->Al)->Al) (fun _=>Unit) (fun _=>Unit) (fun x v K=>@Bool.rec (fun _=>Al) (K (.b false)) (K (.b true)) x) (fun k n v K=>@Int.rec (fun _=>Al) (fun m=>@Nat.rec (fun _=>Al) (K (.i k (Int.ofNat 0))) (fun j _=>K (.i k (Int.ofNat (Nat.succ j)))) m) (fun m=>@Nat.rec (fun _=>Al) (K (.i k (Int.negSucc 0))) (fun j _=>K (.i k (Int.negSucc (Nat.succ j)))) m) n) (fun _ v K=>K v) (fun v K=>K v) (fun _ _ v K=>K v) (fun _ _ v K=>K v) (fun _ _ _ v K=>K v) (fun _ _ _ v K=>K v) (fun _ _ _ _ v K=>K v) (fun _ _ _ _ v K=>K v) (fun _ v K=>K v) (fun v K=>K v) (fun _ _ _ _ _ v K=>K v) (fun v K=>K v) (fun _ _ _ v K=>K v) (fun v K=>K v) (fun _ _ v K=>K v) (fun _ _ v K=>K v) (fun v K=>K v) () (fun _ _ _ _=>()) () (fun _ _ _ _=>()) v v K
def bS (v:V) (K:V->Al):YR v K=K v:=by
 cases v<;>first|rfl|skip
 .rename_i x;cases x<;>rfl
 .rename_i k n
  cases n with
  | ofNat m=>cases m<;>rfl
  | negSucc m=>cases m<;>rfl
def fin (o:Option (R×St)) (k kp:V->St->Al):Al:=match o with
 | some (.ret v,s)=>k v s
 | some (.Bj v,s)=>kp v s
 | none=>none
def CT (o:Option (R×St)) (k kp:V->St->Al):Al:=@Option.rec (R×St) (fun _=>(V->St->Al)->(V->St->Al)->Al) (fun _ _=>none) (fun p k kp=>@R.rec (fun _=>St->(V->St->Al)->(V->St->Al)->Al) (fun v s k _=>k v s) (fun v s _ kp=>kp v s) p.1 p.2 k kp) o k kp
def Bt (o:Option (R×St)) (k kp:V->St->Al):CT o k kp=fin o k kp:=by
 cases o with
 | none=>rfl
 | some p=>
   obtain⟨r,s⟩:=p;cases r<;>rfl
def Hc (o:Option V) (s:St) (k kp:V->St->Al):fin (ov o s) k kp=ob o fun v=>k v s:=by cases o<;>rfl
def uh (o:Option St) (k kp:V->St->Al):fin (os o) k kp=ob o fun s=>k (.t []) s:=by cases o<;>rfl
def BZ {α:Type} (o:Option α) (f:α->Option (R×St)) (k kp:V->St->Al):fin (ob o f) k kp=ob o fun a=>fin (f a) k kp:=by cases o<;>rfl
abbrev OK:=CF->CV->CP->CU->St->(V->St->Al)->(V->St->Al)->Al
def Ul (e:CU) (ps:List (Nat×Nat×Bn)) (cs:List V) (K:List V->Al):Al:=@List.rec (Nat×Nat×Bn) (fun _=>List V->(List V->Al)->Al) (fun cs K=>K cs)
 (fun p _ ih cs K=>Bx p.2.2 e fun v=>Hf v fun vc=>@Bool.rec (fun _=>Al) none (@Bool.rec (fun _=>Al) none (ih (gJ cs p.1 vc) K) (Nat.ble (Nat.add p.1 p.2.1) (Gf cs))) (Nat.beq (Gf vc) p.2.1)) ps cs K
def Tq {e : CU} {env:Env} (he:Jf e env): ∀(ps:List (Nat×Nat×Bn)) (cs:List V) (K:List V->Al),Ul e ps cs K=ob (Nw env cs ps) K
 | [],cs,K=>rfl
 | (off, sz,x)::r,cs,K=>by
   show(Bx x e fun v=>Hf v fun vc=>@Bool.rec (fun _=>Al) none (@Bool.rec (fun _=>Al) none (Ul e r (gJ cs off vc) K) (Nat.ble (off+sz) (Gf cs))) (Nat.beq (Gf vc) sz))=_;rw[BI he];simp only[Nw];cases De env x with
   | none=>rfl
   | some v=>
     simp only[ob];rw[IT];cases cellsOf v with
     | none=>rfl
     | some vc=>
       simp only[ob,Fs,Pf];cases Nat.beq vc.length sz with
       | false=>rfl
       | true=>
         cases Nat.ble (off+sz) cs.length with
         | false=>rfl
         | true=>exact Tq he r _ K
def Um (e:CU) (sz:Nat) (ps:List (Nat×Bn)) (es:List (List V)) (K:List (List V)->Al):Al:=@List.rec (Nat×Bn) (fun _=>List (List V)->(List (List V)->Al)->Al) (fun es K=>K es)
 (fun p _ ih es K=>Bx p.2 e fun v=>Hf v fun vc=>@Bool.rec (fun _=>Al) none (@Bool.rec (fun _=>Al) none (ih (YO es p.1 vc) K) (Nat.ble (Nat.succ p.1) (Gf es))) (Nat.beq (Gf vc) sz)) ps es K
def Tt {e : CU} {env:Env} (he:Jf e env) (sz:Nat): ∀(ps:List (Nat×Bn)) (es:List (List V)) (K:List (List V)->Al),Um e sz ps es K=ob (Nx env sz es ps) K
 | [],es,K=>rfl
 | (i, x)::r,es,K=>by
   show(Bx x e fun v=>Hf v fun vc=>@Bool.rec (fun _=>Al) none (@Bool.rec (fun _=>Al) none (Um e sz r (YO es i vc) K) (Nat.ble (Nat.succ i) (Gf es))) (Nat.beq (Gf vc) sz))=_;rw[BI he];simp only[Nx];cases De env x with
   | none=>rfl
   | some v=>
     simp only[ob];rw[IT];cases cellsOf v with
     | none=>rfl
     | some vc=>
       simp only[ob,Fs,U2,Nat.blt,Nat.succ_eq_add_one];cases Nat.beq vc.length sz with
       | false=>rfl
       | true=>
         cases Nat.ble (i+1) es.length with
         | false=>rfl
         | true=>exact Tt he sz r _ K
def opK (o:GJ):OK:=@GJ.rec (fun _=>OK)
 (fun x cf cv cp env s kk kp=>Bx x env fun v=>kk v s)
 (fun x cf cv cp env s kk kp=>Bx x env fun v=>kk v s)
 (fun c a b cf cv cp env s kk kp=>Bx c env fun vc=>Bx a env fun va=>Bx b env fun vb=>rF vc fun t=>@Bool.rec (fun _=>Al) (kk vb s) (kk va s) t)
 (fun op x y cf cv cp env s kk kp=>Bx x env fun vx=>Bx y env fun vy=>nh op vx vy fun v=>kk v s)
 (fun neg x y cf cv cp env s kk kp=>Bx x env fun vx=>Bx y env fun vy=>CT (match vx,vy with| .b p,.b q=>some (.ret (.b (bif neg then p != q else p==q)),s)|_,_=>none) kk kp)
 (fun len neg x y cf cv cp env s kk kp=>Bx x env fun vx=>Bx y env fun vy=>CT (ov (gV len neg vx vy) s) kk kp)
 (fun kind neg x cf cv cp env s kk kp=>Bx x env fun vx=>CT (ov (gU kind neg vx) s) kk kp)
 (fun x cf cv cp env s kk kp=>Bx x env fun vx=>rF vx fun p=>kk (.b (UM p)) s)
 (fun xor x cf cv cp env s kk kp=>Bx x env fun vx=>CT (match vx with| .i ka a=>some (.ret (.i ka (bif xor then bits .xor ka (bif ka.signed then -1 else ka.max) a else ka.wrap (0 - a))),s)|_=>none) kk kp)
 (fun k x cf cv cp env s kk kp=>Bx x env fun vx=>CT (match vx with| .i _ a=>some (.ret (.i k (JE k a)),s)|_=>none) kk kp)
 (fun x cf cv cp env s kk kp=>Bx x env fun vx=>Hf vx fun cs=>gN s (.cs cs) fun i s=>kk (.p i 0) s)
 (fun x cf cv cp env s kk kp=>Bx x env fun vx=>Hf vx fun cs=>kk (.rp cs) s)
 (fun sz bytes x y cf cv cp env s kk kp=>Bx x env fun vx=>Bx y env fun vy=>CT (ov (WV bytes s sz vx vy) s) kk kp)
 (fun zero cf cv cp env s kk kp=>CT (bif CK zero then s.new (.cs zero) fun i s=>some (.ret (.p i 0),s)else none) kk kp)
 (fun zero parts cf cv cp env s kk kp=>@Bool.rec (fun _=>Al) none (Ul env parts zero fun cs=>kk (.a cs) s) (CK zero))
 (fun sz len zero parts cf cv cp env s kk kp=>@Bool.rec (fun _=>Al) none (Um env (Gf zero) parts (List.replicate len zero) fun es=>kk (.l es true) s) (CK zero))
 (fun agg x cf cv cp env s kk kp=>Bx x env fun vx=>gq s agg vx fun v=>kk v s)
 (fun sz a x cf cv cp env s kk kp=>Bx a env fun va=>Bx x env fun vx=>UU s sz va vx fun s=>kk (.t []) s)
 (fun off x cf cv cp env s kk kp=>Bx x env fun vx=>Ym off vx fun v=>kk v s)
 (fun agg off x cf cv cp env s kk kp=>Bx x env fun vx=>asA vx fun cs=>YV agg cs off fun v=>kk v s)
 (fun sz arr x i cf cv cp env s kk kp=>Bx x env fun vx=>Bx i env fun vi=>Yk sz arr vx vi fun v=>kk v s)
 (fun len sz agg x i cf cv cp env s kk kp=>Bx x env fun vx=>Bx i env fun vi=>CT (ov (Qf len sz agg vx vi) s) kk kp)
 (fun sz x lo hi mx cf cv cp env s kk kp=>Bx x env fun vx=>YQ lo env fun l=>YQ hi env fun h=>YQ mx env fun m=>CT (cS (Qe s sz vx l h m)) kk kp)
 (fun x cf cv cp env s kk kp=>Bx x env fun vx=>su vx fun v=>kk v s)
 (fun x cf cv cp env s kk kp=>Bx x env fun vx=>CT (ov (WS s vx) s) kk kp)
 (fun x cf cv cp env s kk kp=>Bx x env fun vx=>CT (ov (gT s vx) s) kk kp)
 (fun x i cf cv cp env s kk kp=>Bx x env fun vx=>Bx i env fun vi=>CT (ov (WR vx vi) s) kk kp)
 (fun sz bytes x y cf cv cp env s kk kp=>Bx x env fun vx=>Bx y env fun vy=>CT (cS (Mc bytes s sz vx vy)) kk kp)
 (fun sz x y cf cv cp env s kk kp=>Bx x env fun vx=>Bx y env fun vy=>CT (cS (WU s sz vx vy)) kk kp)
 (fun x y cf cv cp env s kk kp=>Bx x env fun vx=>Bx y env fun vy=>CT (match vx,vy with| .i ka a,.i kb b=>bif decide (ka=kb)then some (.ret (.i ka (bif NX a b then b else a)),s)else none|_,_=>none) kk kp)
 (fun x y cf cv cp env s kk kp=>Bx x env fun vx=>Bx y env fun vy=>CT (match vx,vy with| .i ka a,.i kb b=>bif decide (ka=kb)then some (.ret (.i ka (bif NX b a then b else a)),s)else none|_,_=>none) kk kp)
 (fun i x cf cv cp env s kk kp=>Bx x env fun vx=>asT vx fun vs=>UL vs i fun v=>kk v s)
 (fun x cf cv cp env s kk kp=>Bx x env fun vx=>Yd vx fun v=>kk v s)
 (fun f first cap cf cv cp env s kk kp=>MA first env fun vf=>MA cap env fun vc=>@Bool.rec (fun _=>Al) none (kk (.f f vf vc) s) (Nn f))
 (fun cf cv cp env s kk kp=>CT (s.new (.map []) fun i s=>some (.ret (.m i),s)) kk kp)
 (fun sz bytes zero len cap cf cv cp env s kk kp=>Bx len env fun vx=>Bx cap env fun vy=>CT (cS (J6 s sz zero vx vy)) kk kp)
 (fun ks zero ok m k cf cv cp env s kk kp=>Bx m env fun vm=>Bx k env fun vk=>CT (ov (Ma s ks zero ok vm vk) s) kk kp)
 (fun ks m k v cf cv cp env s kk kp=>Bx m env fun vm=>Bx k env fun vk=>Bx v env fun vx=>CT (os (MZ s ks vm vk vx)) kk kp)
 (fun t x cf cv cp env s kk kp=>Bx x env fun vx=>kk (.FO t vx) s)
 (fun t zero ok x cf cv cp env s kk kp=>Bx x env fun vx=>CT (ov (gS t zero ok vx) s) kk kp)
 (fun x cf cv cp env s kk kp=>Bx x env fun vx=>CT (match vx with| .FO t v=>some (.Bj (.FO t v),s)|_=>none) kk kp)
 (fun f args cf cv cp env s kk kp=>MA args env fun vs=>CT (cf f vs s) kk kp)
 (fun f args cf cv cp env s kk kp=>MA args env fun vs=>CT (ov (cp f vs) s) kk kp)
 (fun x args cf cv cp env s kk kp=>Bx x env fun vx=>MA args env fun vs=>CT (cv vx vs s) kk kp)
 (fun x args cf cv cp env s kk kp=>none)
 (fun tab x args cf cv cp env s kk kp=>Bx x env fun vx=>MA args env fun vs=>CT (match vx with| .FO t v=>ob (look t tab) fun f=>cf f (v::vs) s|_=>none) kk kp) o
def k9 {vc va vb:V} {s:St} {kk kp:V->St->Al}:rF vc (fun t=>@Bool.rec (fun _=>Al) (kk vb s) (kk va s) t)=fin (match vc with| .b t=>some (.ret (bif t then va else vb),s)|_=>none) kk kp:=by
 cases vc<;>first|rfl|skip
 rename_i t;cases t<;>rfl
def not_eq {vx:V} {s:St} {kk kp:V->St->Al}:rF vx (fun p=>kk (.b (UM p)) s)=fin (match vx with| .b p=>some (.ret (.b (!p)),s)|_=>none) kk kp:=by
 cases vx<;>first|rfl|skip
 rename_i t;cases t<;>rfl
def VL {c:Bool} {x:Option (R×St)} {kk kp:V->St->Al}:fin (bif c then x else none) kk kp=bif c then fin x kk kp else none:=by cases c<;>rfl
def iX {e:CU} {env:Env} (he:Jf e env) (o:GJ) (cf:CF) (cv:CV) (cp:CP) (s:St) (kk kp:V->St->Al):opK o cf cv cp e s kk kp=fin (GI cf cv cp o env s) kk kp:=by
 cases o with
 | mv x=>
   show(Bx x e fun v=>kk v s)=_;simp only[BI he,GI,Hc]
 | m8 x=>
   show(Bx x e fun v=>kk v s)=_;simp only[BI he,GI,Hc]
 | pick c a b=>
   show(Bx c e fun vc=>Bx a e fun va=>Bx b e fun vb=>rF vc fun t=>@Bool.rec (fun _=>Al) (kk vb s) (kk va s) t)=_;simp only[BI he,GI,BZ,k9 (kp:=kp)];rfl
 | bin op x y=>
   show(Bx x e fun vx=>Bx y e fun vy=>nh op vx vy fun v=>kk v s)=_;simp only[BI he,GI,BZ,Hc,ql]
 | nD neg x y=>
   show(Bx x e fun vx=>Bx y e fun vy=>CT (match vx,vy with| .b p,.b q=>some (.ret (.b (bif neg then p != q else p==q)),s)|_,_=>none) kk kp)=_;simp only[BI he,Bu he,B6 he,GI,BZ,Bt]
   try rfl
 | nC len neg x y=>
   show(Bx x e fun vx=>Bx y e fun vy=>CT (ov (gV len neg vx vy) s) kk kp)=_;simp only[BI he,Bu he,B6 he,GI,BZ,Bt]
   try rfl
 | fm kind neg x=>
   show(Bx x e fun vx=>CT (ov (gU kind neg vx) s) kk kp)=_;simp only[BI he,Bu he,B6 he,GI,BZ,Bt]
   try rfl
 | not x=>
   show(Bx x e fun vx=>rF vx fun p=>kk (.b (UM p)) s)=_;simp only[BI he,GI,BZ,not_eq (kp:=kp)];rfl
 | neg xor x=>
   show(Bx x e fun vx=>CT (match vx with| .i ka a=>some (.ret (.i ka (bif xor then bits .xor ka (bif ka.signed then -1 else ka.max) a else ka.wrap (0 - a))),s)|_=>none) kk kp)=_;simp only[BI he,Bu he,B6 he,GI,BZ,Bt]
   try rfl
 | conv k x=>
   show(Bx x e fun vx=>CT (match vx with| .i _ a=>some (.ret (.i k (JE k a)),s)|_=>none) kk kp)=_;simp only[BI he,Bu he,B6 he,GI,BZ,Bt]
   try rfl
 | box x=>
   show(Bx x e fun vx=>Hf vx fun cs=>gN s (.cs cs) fun i s=>kk (.p i 0) s)=_;simp only[BI he,GI,BZ,IT];congr 1;funext vx;congr 1;funext cs;have: ∀o:Option (R×St),fin o kk kp=ob o fun p=>fin (some p) kk kp:=fun o=>by cases o<;>rfl
   rw[this,o5];rfl
 | PM x=>
   show(Bx x e fun vx=>Hf vx fun cs=>kk (.rp cs) s)=_;simp only[BI he,GI,BZ,IT];rfl
 | Sh sz bytes x y=>
   show(Bx x e fun vx=>Bx y e fun vy=>CT (ov (WV bytes s sz vx vy) s) kk kp)=_;simp only[BI he,Bu he,B6 he,GI,BZ,Bt]
   try rfl
 | alloc zero=>
   show(CT (bif CK zero then s.new (.cs zero) fun i s=>some (.ret (.p i 0),s)else none) kk kp)=_;simp only[Bt,GI]
 | build zero parts=>
   show(@Bool.rec (fun _=>Al) none (Ul e parts zero fun cs=>kk (.a cs) s) (CK zero))=_;simp only[GI,VL,BZ,Tq he,BS];rfl
 | Hi sz len zero parts=>
   show(@Bool.rec (fun _=>Al) none (Um e (Gf zero) parts (List.replicate len zero) fun es=>kk (.l es true) s) (CK zero))=_;simp only[GI,VL,BZ,Tt he,BS,Fs];rfl
 | load agg x=>
   show(Bx x e fun vx=>gq s agg vx fun v=>kk v s)=_;simp only[BI he,GI,BZ,Hc,lQ]
 | store sz a x=>
   show(Bx a e fun va=>Bx x e fun vx=>UU s sz va vx fun s=>kk (.t []) s)=_;simp only[BI he,GI,BZ,uh,dH]
 | GO off x=>
   show(Bx x e fun vx=>Ym off vx fun v=>kk v s)=_;simp only[BI he,GI,BZ,Hc,eo]
 | field agg off x=>
   show(Bx x e fun vx=>asA vx fun cs=>YV agg cs off fun v=>kk v s)=_;simp only[BI he,GI,BZ];congr 1;funext vx;cases vx<;>first|rfl|skip
   show YV agg _ off _=_;rw[Pu,Hc]
 | MF sz arr x i=>
   show(Bx x e fun vx=>Bx i e fun vi=>Yk sz arr vx vi fun v=>kk v s)=_;simp only[BI he,GI,BZ,Hc,eH]
 | index len sz agg x i=>
   show(Bx x e fun vx=>Bx i e fun vi=>CT (ov (Qf len sz agg vx vi) s) kk kp)=_;simp only[BI he,Bu he,B6 he,GI,BZ,Bt]
   try rfl
 | slice sz x lo hi mx=>
   show(Bx x e fun vx=>YQ lo e fun l=>YQ hi e fun h=>YQ mx e fun m=>CT (cS (Qe s sz vx l h m)) kk kp)=_;simp only[BI he,Bu he,B6 he,GI,BZ,Bt]
   try rfl
 | len x=>
   show(Bx x e fun vx=>su vx fun v=>kk v s)=_;simp only[BI he,GI,BZ,Hc,pC]
 | UN x=>
   show(Bx x e fun vx=>CT (ov (WS s vx) s) kk kp)=_;simp only[BI he,Bu he,B6 he,GI,BZ,Bt]
   try rfl
 | str x=>
   show(Bx x e fun vx=>CT (ov (gT s vx) s) kk kp)=_;simp only[BI he,Bu he,B6 he,GI,BZ,Bt]
   try rfl
 | Vp x i=>
   show(Bx x e fun vx=>Bx i e fun vi=>CT (ov (WR vx vi) s) kk kp)=_;simp only[BI he,Bu he,B6 he,GI,BZ,Bt]
   try rfl
 | append sz bytes x y=>
   show(Bx x e fun vx=>Bx y e fun vy=>CT (cS (Mc bytes s sz vx vy)) kk kp)=_;simp only[BI he,Bu he,B6 he,GI,BZ,Bt]
   try rfl
 | copy sz x y=>
   show(Bx x e fun vx=>Bx y e fun vy=>CT (cS (WU s sz vx vy)) kk kp)=_;simp only[BI he,Bu he,B6 he,GI,BZ,Bt]
   try rfl
 | Vs x y=>
   show(Bx x e fun vx=>Bx y e fun vy=>CT (match vx,vy with| .i ka a,.i kb b=>bif decide (ka=kb)then some (.ret (.i ka (bif NX a b then b else a)),s)else none|_,_=>none) kk kp)=_;simp only[BI he,Bu he,B6 he,GI,BZ,Bt]
   try rfl
 | Vr x y=>
   show(Bx x e fun vx=>Bx y e fun vy=>CT (match vx,vy with| .i ka a,.i kb b=>bif decide (ka=kb)then some (.ret (.i ka (bif NX b a then b else a)),s)else none|_,_=>none) kk kp)=_;simp only[BI he,Bu he,B6 he,GI,BZ,Bt]
   try rfl
 | extract i x=>
   show(Bx x e fun vx=>asT vx fun vs=>UL vs i fun v=>kk v s)=_;simp only[BI he,GI,BZ];congr 1;funext vx;cases vx<;>first|rfl|skip
   show UL _ i _=_;rw[MS,Hc]
 | JK x=>
   show(Bx x e fun vx=>Yd vx fun v=>kk v s)=_;simp only[BI he,GI,BZ,Hc,dk]
 | fk f first cap=>
   show(MA first e fun vf=>MA cap e fun vc=>@Bool.rec (fun _=>Al) none (kk (.f f vf vc) s) (Nn f))=_;simp only[Bu he,GI,VL,BZ,BS];rfl
 | Oi=>
   show(CT (s.new (.map []) fun i s=>some (.ret (.m i),s)) kk kp)=_;simp only[Bt,GI]
 | GW sz bytes zero len cap=>
   show(Bx len e fun vx=>Bx cap e fun vy=>CT (cS (J6 s sz zero vx vy)) kk kp)=_;simp only[BI he,Bu he,B6 he,GI,BZ,Bt]
   try rfl
 | lookup ks zero ok m k=>
   show(Bx m e fun vm=>Bx k e fun vk=>CT (ov (Ma s ks zero ok vm vk) s) kk kp)=_;simp only[BI he,Bu he,B6 he,GI,BZ,Bt]
   try rfl
 | Ef ks m k v=>
   show(Bx m e fun vm=>Bx k e fun vk=>Bx v e fun vx=>CT (os (MZ s ks vm vk vx)) kk kp)=_;simp only[BI he,Bu he,B6 he,GI,BZ,Bt]
   try rfl
 | Oj t x=>
   show(Bx x e fun vx=>kk (.FO t vx) s)=_;simp only[BI he,GI,BZ];rfl
 | fh t zero ok x=>
   show(Bx x e fun vx=>CT (ov (gS t zero ok vx) s) kk kp)=_;simp only[BI he,Bu he,B6 he,GI,BZ,Bt]
   try rfl
 | panic x=>
   show(Bx x e fun vx=>CT (match vx with| .FO t v=>some (.Bj (.FO t v),s)|_=>none) kk kp)=_;simp only[BI he,Bu he,B6 he,GI,BZ,Bt]
   try rfl
 | call f args=>
   show(MA args e fun vs=>CT (cf f vs s) kk kp)=_;simp only[BI he,Bu he,B6 he,GI,BZ,Bt]
   try rfl
 | MK f args=>
   show(MA args e fun vs=>CT (ov (cp f vs) s) kk kp)=_;simp only[BI he,Bu he,B6 he,GI,BZ,Bt]
   try rfl
 | Jy x args=>
   show(Bx x e fun vx=>MA args e fun vs=>CT (cv vx vs s) kk kp)=_;simp only[BI he,Bu he,B6 he,GI,BZ,Bt]
   try rfl
 | Yt x args=>
   rfl
 | inv tab x args=>
   show(Bx x e fun vx=>MA args e fun vs=>CT (match vx with| .FO t v=>ob (look t tab) fun f=>cf f (v::vs) s|_=>none) kk kp)=_;simp only[BI he,Bu he,B6 he,GI,BZ,Bt]
   try rfl
def s7 (g:Bool) (t:Bool) (y:Al) (n:Al):Al:=@Bool.rec (fun _=>Al) (@Bool.rec (fun _=>Al) y n g) (@Bool.rec (fun _=>Al) n y g) t
def pY (g t:Bool) (y n:Al):s7 g t y n=bif t==g then y else n:=by cases g<;>cases t<;>rfl
def z8 (v:V) (g:Bool) (y:Al) (n:Al):Al:=@V.rec (fun _=>Bool->Al->Al->Al) (fun _=>Unit) (fun _=>Unit) (fun t g y n=>s7 g t y n) (fun _ _ g y n=>none) (fun _ g y n=>none) (fun g y n=>none) (fun _ _ g y n=>none) (fun _ _ g y n=>none) (fun _ _ _ g y n=>none) (fun _ _ _ g y n=>none) (fun _ _ _ _ g y n=>none) (fun _ _ _ _ g y n=>none) (fun _ g y n=>none) (fun g y n=>none) (fun _ _ _ _ _ g y n=>none) (fun g y n=>none) (fun _ _ _ g y n=>none) (fun g y n=>none) (fun _ _ g y n=>none) (fun vs _ g y n=>@List.rec V (fun _=>Al->Al) (fun n=>n) (fun _ _ _ _=>none) vs n) (fun g y n=>none) () (fun _ _ _ _=>()) () (fun _ _ _ _=>()) v g y n
def grdK (g:Nat×Bool) (o:GJ):OK:=fun cf cv cp e s kk kp=>Bx (.t g.1) e fun v=>z8 v g.2 (opK o cf cv cp e s kk kp) (kk (.t []) s)
def YN (g:Option (Nat×Bool)) (o:GJ):OK:=@Option.rec (Nat×Bool) (fun _=>GJ->OK) (fun o=>opK o) (fun g o=>grdK g o) g o
def Uz {e:CU} {env:Env} (he:Jf e env) (d:Option Nat) (g:Option (Nat×Bool)) (o:GJ) (cf:CF) (cv:CV) (cp:CP) (s:St) (kk kp:V->St->Al):YN g o cf cv cp e s kk kp=fin (Jc cf cv cp ⟨d,o,g⟩ env s) kk kp:=by
 cases g with
 | none=>exact iX he o cf cv cp s kk kp
 | some g=>
   obtain⟨g,b⟩:=g;show(Bx (.t g) e fun v=>z8 v b (opK o cf cv cp e s kk kp) (kk (.t []) s))=_;rw[BI he,iX he];simp only[Jc,De];cases get g env with
   | none=>rfl
   | some v=>
     simp only[ob];cases v<;>first|rfl|skip
     .rename_i t
      show s7 b t _ _=_;rw[pY];simp only;cases t==b<;>rfl
     .rename_i vs
      cases vs<;>rfl
def Oh (d:Option Nat) (v:V) (e:CU):CU:=@Option.rec Nat (fun _=>V->CU->CU) (fun _ e=>e) (fun d v e=>⟨Nat.lor e.1 (Nat.shiftLeft 1 d),(d,v)::e.2⟩) d v e
def LS (M n:Nat):PX M n=M.testBit n:=by
 have h1:(M >>> n)&&&1=(M >>> n) % 2:=Nat.and_one_is_mod _;have h2:PX M n=Nat.beq ((M >>> n)&&&1) 1:=rfl;rw[h2,h1,Nat.testBit_eq_decide_div_mod_eq,Nat.shiftRight_eq_div_pow];cases h:decide (M / 2 ^ n % 2=1)with
 | true=>rw[of_decide_eq_true h];rfl
 | false=>
   have:=of_decide_eq_false h;cases hb:Nat.beq (M / 2 ^ n % 2) 1 with
   | false=>rfl
   | true=>exact absurd (Vj hb) this
def Qj (M d n:Nat):PX (Nat.lor M (Nat.shiftLeft 1 d)) n=(PX M n||Nat.beq d n):=by
 rw[LS,LS];show(M|||1 <<< d).testBit n=_;rw[Nat.testBit_or,Nat.one_shiftLeft,Nat.testBit_two_pow];congr 1;cases hb:Nat.beq d n with
 | true=>simp[Vj hb]
 | false=>simpa using Nat.ne_of_beq_eq_false hb
def Jf.push {e:CU} {env:Env} (he:Jf e env) (d:Option Nat) (v:V):Jf (Oh d v e) (put d v env):=by
 cases d with
 | none=>exact he
 | some d=>
   intro n;show(bif PX (Nat.lor e.1 (Nat.shiftLeft 1 d)) n then(bif Nat.beq d n then some v else get n e.2)else none)=bif Nat.beq d n then some v else get n env;rw[Qj,<-he n,UQ];cases Nat.beq d n<;>cases PX e.1 n<;>rfl
def gM (ops:List Ar) (cf:CF) (cv:CV) (cp:CP) (env:CU) (s:St):Al:=@List.rec Ar (fun _=>CF->CV->CP->CU->St->Al) (fun _ _ _ env s=>some (.normal,env,s))
 (fun o _ ih cf cv cp env s=>YN o.3 o.2 cf cv cp env s (fun v s=>YR v fun v=>ih cf cv cp (Oh o.1 v env) s) (fun v s=>some (.Bj v,env,s))) ops cf cv cp env s
def G7:Al->Rs->Prop
 | some (x,e,s),some (x',env,s')=>x=x'/\s=s'/\Jf e env
 | none,none=>True
 | _,_=>False
def an (cf:CF) (cv:CV) (cp:CP): ∀(ops:List Ar) {e:CU} {env:Env} (s:St),Jf e env->G7 (gM ops cf cv cp e s) (V1 cf cv cp ops env s)
 | [],e,env,s,he=>⟨rfl,rfl,he⟩
 | o ::r,e,env,s,he=>by
   show G7 (YN o.3 o.2 cf cv cp e s (fun v s=>YR v fun v=>gM r cf cv cp (Oh o.1 v e) s) (fun v s=>some (.Bj v,e,s))) _;rw[Uz he o.1];show G7 (fin (Jc cf cv cp o env s) _ _) _;simp only[V1];cases Jc cf cv cp o env s with
   | none=>trivial
   | some p=>
     obtain⟨x,s'⟩:=p;cases x with
     | Bj v=>exact⟨rfl,rfl,he⟩
     | ret v=>
       show G7 (YR v fun v=>gM r cf cv cp (Oh o.1 v e) s') (Ij v _);rw[bS,IN];exact an cf cv cp r s' (he.push o.1 v)
def y8 (re:List Ar) (cf:CF) (cv:CV) (cp:CP) (e:CU) (s:St) (K:Al):Al:=@List.rec Ar (fun _=>CF->CV->CP->CU->St->Al->Al) (fun _ _ _ _ _ K=>K)
 (fun o _ ih cf cv cp e s K=>YN o.3 o.2 cf cv cp e s (fun u _=>@Option.rec Nat (fun _=>Al) (ih cf cv cp e s K) (fun d=>Bx (.t d) e fun w=>@Bool.rec (fun _=>Al) none (ih cf cv cp e s K) (E6 u w)) o.1) (fun _ _=>none)) re cf cv cp e s K
def iR (cf:CF) (cv:CV) (cp:CP) {e:CU} {env:Env} (he:Jf e env) (s:St) (K:Al): ∀re:List Ar,y8 re cf cv cp e s K=bif mz cf cv cp re env s then K else none
 | []=>rfl
 | o ::r=>by
   show YN o.3 o.2 cf cv cp e s (fun u _=>@Option.rec Nat (fun _=>Al) (y8 r cf cv cp e s K) (fun d=>Bx (.t d) e fun w=>@Bool.rec (fun _=>Al) none (y8 r cf cv cp e s K) (E6 u w)) o.1) (fun _ _=>none)=_;rw[Uz he o.1,iR cf cv cp he s K r]
   have h':mz cf cv cp (o::r) env s=((match Jc cf cv cp o env s with
    | some (.ret u,_)=>match o.dst with
      | none=>true
      | some d=>match get d env with|some w=>E6 u w|none=>false
    | _=>false)&&mz cf cv cp r env s):=rfl
   rw[h'];show fin (Jc cf cv cp o env s) _ _=_;cases Jc cf cv cp o env s with
   | none=>rfl
   | some p=>
     obtain⟨x,s'⟩:=p;cases x with
     | Bj v=>rfl
     | ret u=>
       obtain⟨d,op,g⟩:=o;cases d with
       | none=>simp only[fin,EA]
       | some d=>
         simp only[fin];rw[BI he];simp only[De];cases get d env with
         | none=>rfl
         | some w=>
           simp only[ob];cases E6 u w<;>simp
def WX (ops:List Cq) (cf:CF) (cv:CV) (cp:CP) (e:CU) (s:St):Al:=@List.rec Cq (fun _=>CF->CV->CP->CU->St->Al) (fun _ _ _ e s=>some (.normal,e,s))
 (fun d _ ih cf cv cp e s=>YN d.2.3 d.2.2 cf cv cp e s (fun v s=>YR v fun v=>(fun e=>y8 d.4 cf cv cp e s (ih cf cv cp e s)) (Oh d.2.1 v e)) (fun v s=>some (.Bj v,⟨0,[]⟩,s))) ops cf cv cp e s
def Jf.nil {M:Nat}:Jf ⟨M,[]⟩ []:=fun n=>by
 show(bif PX M n then none else none)=none;cases PX M n<;>rfl
def XN (cf:CF) (cv:CV) (cp:CP): ∀(ops:List Cq) {e:CU} {env:Env} (s:St),Jf e env->G7 (WX ops cf cv cp e s) (S0 cf cv cp ops env s)
 | [],e,env,s,he=>⟨rfl,rfl,he⟩
 | d ::r,e,env,s,he=>by
   show G7 (YN d.2.3 d.2.2 cf cv cp e s (fun v s=>YR v fun v=>(fun e=>y8 d.4 cf cv cp e s (WX r cf cv cp e s)) (Oh d.2.1 v e)) (fun v s=>some (.Bj v,⟨0,[]⟩,s))) _;rw[Uz he d.2.1];show G7 (fin (Jc cf cv cp d.o env s) _ _) _;simp only[S0];cases Jc cf cv cp d.o env s with
   | none=>trivial
   | some p=>
     obtain⟨x,s'⟩:=p;cases x with
     | Bj v=>exact⟨rfl,rfl,Jf.nil⟩
     | ret v=>
       show G7 (YR v fun v=>y8 d.4 cf cv cp (Oh d.2.1 v e) s' (WX r cf cv cp (Oh d.2.1 v e) s')) (Ij v _);rw[bS,IN,iR cf cv cp (he.push d.2.1 v)];show G7 (bif mz cf cv cp d.re (put d.o.dst v env) s' then _ else none) (bif mz cf cv cp d.re (put d.o.dst v env) s' then _ else none);cases mz cf cv cp d.re (put d.o.dst v env) s' with
       | false=>trivial
       | true=>exact XN cf cv cp r s' (he.push d.2.1 v)
def Sx (l:List Nat):Nat:=@List.rec Nat (fun _=>Nat) 0 (fun n _ ih=>Nat.lor ih (Nat.shiftLeft 1 n)) l
def No (l:List Nat) (e:CU):CU:=⟨Nat.land e.1 (Sx l),e.2⟩
def Wd: ∀(l:List Nat) (n:Nat),PX (Sx l) n=l.any fun k=>Nat.beq k n
 | [],n=>by rw[LS];exact Nat.zero_testBit n
 | k::r,n=>by
   show PX (Nat.lor (Sx r) (Nat.shiftLeft 1 k)) n=_;rw[Qj,Wd r n,PV,Bool.or_comm]
def NM: ∀(l:List Nat) (env:Env) (n:Nat),get n (prune l env)=bif l.any (fun k=>Nat.beq k n)then get n env else none
 | [],env,n=>rfl
 | k ::r,env,n=>by
   have ih:=NM r env n;simp only[prune,PV];cases hk:Nat.beq k n with
   | true=>
     have:=Vj hk;subst this;cases hg:get k env with
     | none=>
       simp only;rw[ih,hg];cases(r.any fun j=>Nat.beq j k)<;>rfl
     | some v=>simp[get,hk]
   | false=>
     simp only[Bool.false_or];cases hg:get k env with
     | none=>exact ih
     | some v=>
       simp only[get,hk,cond_false];exact ih
def Jf.prune {e:CU} {env:Env} (he:Jf e env) (l:List Nat):Jf (No l e) (Gl.prune l env):=fun n=>by
 show(bif PX (Nat.land e.1 (Sx l)) n then get n e.2 else none)=_
 have:PX (Nat.land e.1 (Sx l)) n=(PX e.1 n&&PX (Sx l) n):=by
  rw[LS,LS,LS];exact Nat.testBit_and _ _ _
 rw[this,NM,<-he n,UQ,Wd];cases PX e.1 n<;>cases(l.any fun k=>Nat.beq k n)<;>rfl
def Vt (l:List Nat) (e:CU) (K:Env->Al):Al:=@List.rec Nat (fun _=>CU->(Env->Al)->Al) (fun _ K=>K [])
 (fun n _ ih e K=>@Bool.rec (fun _=>Al) (ih e K) (@List.rec (Nat×V) (fun _=>Nat->Al->(V->Al)->Al) (fun _ x _=>x) (fun p _ ih n x K=>@Bool.rec (fun _=>Al) (ih n x K) (K p.2) (Nat.beq p.1 n)) e.2 n (ih e K) (fun v=>ih e fun r=>K ((n,v)::r))) (PX e.1 n)) l e K
def oJ (env:Env) (n:Nat) (x:Al) (K:V->Al): @List.rec (Nat×V) (fun _=>Nat->Al->(V->Al)->Al) (fun _ x _=>x) (fun p _ ih n x K=>@Bool.rec (fun _=>Al) (ih n x K) (K p.2) (Nat.beq p.1 n)) env n x K=match get n env with|some v=>K v|none=>x:=by
 induction env with
 | nil=>rfl
 | cons p r ih=>
   obtain⟨j,v⟩:=p;show @Bool.rec (fun _=>Al) _ (K v) (Nat.beq j n)=match(bif Nat.beq j n then some v else get n r)with|some v=>K v|none=>x
   cases Nat.beq j n
   .exact ih
   .rfl
def Pm {e:CU} {env:Env} (he:Jf e env): ∀(l:List Nat) (K:Env->Al),Vt l e K=K (Gl.prune l env)
 | [],K=>rfl
 | n ::r,K=>by
   show @Bool.rec (fun _=>Al) (Vt r e K) (@List.rec (Nat×V) (fun _=>Nat->Al->(V->Al)->Al) (fun _ x _=>x) (fun p _ ih n x K=>@Bool.rec (fun _=>Al) (ih n x K) (K p.2) (Nat.beq p.1 n)) e.2 n (Vt r e K) (fun v=>Vt r e fun r=>K ((n,v)::r))) (PX e.1 n)=_;rw[oJ,Pm he r];simp only[Pm he r,Gl.prune];rw[<-he n,UQ];cases PX e.1 n with
   | false=>rfl
   | true=>
     simp only[cond_true];cases get n e.2<;>rfl
def JL (env:Env):Nat:=@List.rec (Nat×V) (fun _=>Nat) 0 (fun p _ ih=>Nat.lor ih (Nat.shiftLeft 1 p.1)) env
def S8: ∀(env:Env) (n:Nat),PX (JL env) n=(get n env).isSome
 | [],n=>by rw[LS];exact Nat.zero_testBit n
 | (k,v)::r,n=>by
   show PX (Nat.lor (JL r) (Nat.shiftLeft 1 k)) n=_;rw[Qj,S8 r n];simp only[get];cases Nat.beq k n<;>simp
def Jf.of (env:Env):Jf ⟨JL env,env⟩ env:=fun n=>by
 show(bif PX (JL env) n then get n env else none)=_;rw[S8];cases get n env<;>rfl
abbrev IH:=AV->CU->St->Al
def Su (r:Al) (K:CU->St->Al):Al:=@Option.rec (Ac×CU×St) (fun _=>(CU->St->Al)->Al) (fun _=>none) (fun p K=>@Ac.rec (fun _=>CU->St->(Ac×CU×St)->(CU->St->Al)->Al) (fun env s _ K=>K env s) (fun _ _ _ p _=>some p) (fun _ _ p _=>some p) (fun _ _ _ p _=>some p) p.1 p.2.1 p.2.2 p K) r K
def AAW (r:Rs) (K':Env->St->Rs):Rs:=match r with|some (.normal,env,s)=>K' env s|r=>r
def N8 {r:Al} {r':Rs} (h:G7 r r') {K:CU->St->Al} {K':Env->St->Rs} (U: ∀e env s,Jf e env->G7 (K e s) (K' env s)):G7 (Su r K) (AAW r' K'):=by
 cases r with
 | none=>cases r' with|none=>trivial|some p=>exact h.elim
 | some p=>
   cases r' with
   | none=>exact h.elim
   | some p'=>
     obtain⟨x,e,s⟩:=p;obtain⟨x',env,s'⟩:=p';obtain⟨rfl,rfl,he⟩:=h;cases x with
     | normal=>exact U e env s he
     | exit id=>exact⟨rfl,rfl,he⟩
     | ret=>exact⟨rfl,rfl,he⟩
     | Bj v=>exact⟨rfl,rfl,he⟩
def QC (s:St) (e:CU):List RS->Option (List V)
 | []=>some []
 | .t n::r=>ob (UQ e n) fun v=>ob (QC s e r) fun vs=>some (v::vs)
 | .c n g::r=>ob (UQ e n) fun a=>ob (Oo s g a) fun v=>ob (QC s e r) fun vs=>some (v::vs)
def Z8 (AG:List RS) (r:Al):Option (R×St):=
 match r with
 | some (.normal,env,s)=>ob (QC s env AG) fun vs=>some (.ret (E5 vs),s)
 | some (.ret,env,s)=>ob (QC s env AG) fun vs=>some (.ret (E5 vs),s)
 | some (.Bj v,_,s)=>some (.Bj v,s)
 | _=>none
def WQ (tab:Kw) (ih:IH) (g:FuncId) (cap:List V) (m:Option V) (AG:List RS) (env:CU) (s:St):Option (R×St):=
 match tab g with
 | some (.y9 n k ops ac l)=>bif Nat.ble cap.length n then
  match ih (.seq l (.C9 ops) ac) ⟨JL (put (some k) (m.getD .Dv) (BA 0 cap)),put (some k) (m.getD .Dv) (BA 0 cap)⟩ s with
  | some (.normal,_,s')=>ob (QC s' env AG) fun vs=>some (.ret (E5 vs),s')
  | some (.ret,_,s')=>ob (QC s' env AG) fun vs=>some (.ret (E5 vs),s')
  | _=>none
   else none
 | some (.pld n ac)=>match m with
   | some _=>none
   | none=>bif Nat.ble cap.length n then
     match ih ac ⟨JL (BA 0 cap),BA 0 cap⟩ s with
     | some (.normal,_,s')=>ob (QC s' env AG) fun vs=>some (.ret (E5 vs),s')
     | some (.ret,_,s')=>ob (QC s' env AG) fun vs=>some (.ret (E5 vs),s')
     | _=>none
   else none
 | _=>none
def Ut (tab:Kw) (ih:IH) (f:FuncId) (vs:List V) (s:St):Option (R×St):=
 match tab f with
 | some (.fn n ac AG)=>bif Nat.ble vs.length n then Z8 AG (ih ac ⟨JL (BA 0 vs),BA 0 vs⟩ s)else none
 | some (.zK n aA ops x aC AG l1 l2)=>bif Nat.ble vs.length n then
  match ih (.seq l1 aA (.C9 ops)) ⟨JL (BA 0 vs),BA 0 vs⟩ s with
  | some (.normal,env,s1)=>match(match x with| .t n=>UQ env n| .c v=>bif BL v then some v else none)with
    | some (.f (.func g) [] cap)=>match ih aC (No l2 env) s1 with
      | some (.normal,env2,s2)=>WQ tab ih g cap none AG env2 s2
      | some (.ret,env2,s2)=>WQ tab ih g cap none AG env2 s2
      | some (.Bj v,env2,s2)=>WQ tab ih g cap (some v) AG env2 s2
      | _=>none
    | _=>none
  | _=>none
   else none
 | some (.zU n ac AG)=>bif Nat.ble vs.length n then s8 (Z8 AG (ih ac ⟨JL (BA 0 vs),BA 0 vs⟩ s))else none
 | some (.cj c)=>c vs s
 | _=>none
def Fu (tab:Kw) (memo:FQ) (ih:IH):CF:=fun f vs s=>
 match memo f with
 | []=>Ut tab ih f vs s
 | m::r=>match WL vs (m::r)with
   | some v=>some (.ret v,s)
   | none=>Ut tab ih f vs s
def KY (tab:Kw) (memo:FQ) (ih:IH):CV:=fun x vs s=>
 match x with
 | .f (.func f) first cap=>Fu tab memo ih f (first++vs++cap) s
 | .f (.yield L) [] []=>match s.t.get L with
   | some (.loop .ready env ps a b)=>bif Nat.beq vs.length ps.length then
    Tr.put none BD s.t L fun t=>match ih a ⟨JL (El ps vs env),El ps vs env⟩ ⟨s.nx,t⟩with
    | some (.normal,env1,s1)=>match ih b env1 s1 with
      | some (.normal,_,s2)=>Tr.put (some (.loop .ready env ps a b)) BD s2.t L fun t=>some (.ret (.b true),⟨s2.nx,t⟩)
      | some (.ret,_,s2)=>Tr.put (some (.loop .ret env ps a b)) BD s2.t L fun t=>some (.ret (.b false),⟨s2.nx,t⟩)
      | some (.exit id,_,s2)=>Tr.put (some (.loop (.exit id) env ps a b)) BD s2.t L fun t=>some (.ret (.b false),⟨s2.nx,t⟩)
      | some (.Bj v,_,s2)=>some (.Bj v,s2)
      | none=>none
    | _=>none
     else none
   | _=>none
 | _=>none
def Lc (tab:Kw) (memo:FQ) (ih:IH):CP:=fun f vs=>
 bif CK vs then match Fu tab memo ih f vs ⟨0,.leaf⟩with
  | some (.ret v,s)=>match GC s Vx v with
    | some u=>bif BL u then some u else none
    | none=>none
  | _=>none
 else none
abbrev SK:=Kw->FQ->IH->CU->St->Al
def iP (c : AV):SK:=@AV.rec (fun _=>SK)
 (fun _ _ _ env s=>some (.normal,env,s))
 (fun ops tab memo ih env s=>gM ops (Fu tab memo ih) (KY tab memo ih) (Lc tab memo ih) env s)
 (fun l ops tab memo ih env s=>Su (WX ops (Fu tab memo ih) (KY tab memo ih) (Lc tab memo ih) env s) fun env s=>some (.normal,No l env,s))
 (fun l a b _ _ _ _ ih env s=>Su (ih a env s) fun env s=>ih b (No l env) s)
 (fun c a b _ _ _ _ ih env s=>Bx c env fun v=>rF v fun t=>@Bool.rec (fun _=>Al) (ih b env s) (ih a env s) t)
 (fun id a _ tab memo ih env s=>match ih a env s with
  | some (.exit id',env',s')=>bif Nat.beq id' id then some (.normal,env',s')else some (.exit id',env',s')
  | r=>r)
 (fun l a _ _ _ ih env s=>Vt l env fun E=>Su (ih a ⟨JL E,E⟩ s) fun env s=>ih (.loop l a) env s)
 (fun id _ _ _ env s=>some (.exit id,env,s))
 (fun _ _ _ env s=>some (.ret,env,s))
 (fun a _ _ _ ih env s=>ih a env s)
 (fun l g ps a b _ _ tab memo ih env s=>Bx g env fun v=>match v with
  | .f (.func gf) [] cap=>Vt l env fun E=>s.new (.loop .ready E ps a b) fun i s1=>
   match Fu tab memo ih gf (.f (.yield i) [] []::cap) s1 with
   | some (.ret _,s2)=>match s2.t.get i with
     | some (.loop st _ _ _ _)=>Tr.put none BD s2.t i fun t=>some ((match st with| .ready=> .normal| .ret=> .ret| .exit id=> .exit id),env,⟨s2.nx,t⟩)
     | _=>none
   | some (.Bj v,s2)=>match s2.t.get i with
     | some _=>Tr.put none BD s2.t i fun t=>some (.Bj v,env,⟨s2.nx,t⟩)
     | none=>none
   | none=>none
  | _=>none) c
def runK (tab:Kw) (memo:FQ) (n:Nat):IH:=@Nat.rec (fun _=>IH) (fun _ _ _=>none) (fun _ ih c env s=>iP c tab memo ih env s) n
def Ya (ihm:IH) (ih:AV->Env->St->Rs):Prop:= ∀c {e env} s,Jf e env->G7 (ihm c e s) (ih c env s)
def MY {s:St} {e:CU} {env:Env} (he:Jf e env): ∀l:List RS,QC s e l=Zw s env l
 | []=>rfl
 | .t n::r=>by simp only[QC,Zw,he n,MY he r]
 | .c n g::r=>by simp only[QC,Zw,he n,MY he r]
def XL {AG:List RS} {r:Al} {r':Rs} (h:G7 r r'):Z8 AG r=cu AG r':=by
 cases r with
 | none=>cases r' with|none=>rfl|some p=>exact h.elim
 | some p=>
   cases r' with
   | none=>exact h.elim
   | some p'=>
     obtain⟨x,e,s⟩:=p;obtain⟨x',env,s'⟩:=p';obtain⟨rfl,rfl,he⟩:=h;cases x<;>first|rfl|simp only[Z8,cu,MY he]
def l6 {tab : Kw} {ihm:IH} {ih:AV->Env->St->Rs} (hi:Ya ihm ih) {g:FuncId} {cap:List V} {m:Option V} {AG:List RS} {e:CU} {env:Env} (he:Jf e env) (s:St):WQ tab ihm g cap m AG e s=YT tab ih g cap m AG env s:=by
 unfold WQ YT;cases tab g with
 | none=>rfl
 | some fs =>
   cases fs<;>first|rfl|skip
   .rename_i n k ops ac l
    simp only;have:=hi (.seq l (.C9 ops) ac) s (Jf.of (put (some k) (m.getD .Dv) (BA 0 cap)))
    revert this
    cases ihm (.seq l (.C9 ops) ac) _ s with
    | none=>cases ih (.seq l (.C9 ops) ac) _ s with|none=>intro _;rfl|some p=>intro h;exact h.elim
    | some p=>
      cases ih (.seq l (.C9 ops) ac) _ s with
      | none=>intro h;exact h.elim
      | some p'=>
        obtain⟨x,e1,s1⟩:=p;obtain⟨x',env1,s1'⟩:=p';rintro⟨rfl,rfl,he1⟩;cases x<;>simp only[MY he]
   .rename_i n ac
    cases m with
    | some v=>rfl
    | none=>
      simp only;have:=hi ac s (Jf.of (BA 0 cap))
      revert this
      cases ihm ac _ s with
      | none=>cases ih ac _ s with|none=>intro _;rfl|some p=>intro h;exact h.elim
      | some p=>
        cases ih ac _ s with
        | none=>intro h;exact h.elim
        | some p'=>
          obtain⟨x,e1,s1⟩:=p;obtain⟨x',env1,s1'⟩:=p';rintro⟨rfl,rfl,he1⟩;cases x<;>simp only[MY he]
def fS {tab : Kw} {ihm:IH} {ih:AV->Env->St->Rs} (hi:Ya ihm ih) (f:FuncId) (vs:List V) (s:St):Ut tab ihm f vs s=S1 tab ih f vs s:=by
 unfold Ut S1;cases tab f with
 | none=>rfl
 | some fs =>
   cases fs with
   | y9 n k ops ac l=>rfl
   | cj c=>rfl
   | pld n ac=>rfl
   | fn n ac AG=>simp only;rw[XL (hi ac s (Jf.of (BA 0 vs)))]
   | zU n ac AG=>simp only;rw[XL (hi ac s (Jf.of (BA 0 vs)))]
   | zK n aA ops x aC AG l1 l2=>
     simp only;have:=hi (.seq l1 aA (.C9 ops)) s (Jf.of (BA 0 vs))
     revert this
     cases ihm (.seq l1 aA (.C9 ops)) _ s with
     | none=>cases ih (.seq l1 aA (.C9 ops)) _ s with|none=>intro _;rfl|some p=>intro h;exact h.elim
     | some p=>
       cases ih (.seq l1 aA (.C9 ops)) _ s with
       | none=>intro h;exact h.elim
       | some p'=>
         obtain⟨x1,e1,s1⟩:=p;obtain⟨x1',env1,s1'⟩:=p';rintro⟨rfl,rfl,he1⟩;cases x1<;>first|rfl|skip
         simp only;have hx:(match x with| .t n=>UQ e1 n| .c v=>bif BL v then some v else none)=De env1 x:=by cases x<;>first|exact he1 _|rfl
         rw[hx];cases De env1 x with
         | none=>rfl
         | some v=>
           cases v<;>first|rfl|skip
           rename_i fn first cap
           cases fn<;>first|rfl|skip
           cases first<;>first|rfl|skip
           simp only;have:=hi aC s1 (he1.prune l2)
           revert this
           cases ihm aC (No l2 e1) s1 with
           | none=>cases ih aC (Gl.prune l2 env1) s1 with|none=>intro _;rfl|some p=>intro h;exact h.elim
           | some p=>
             cases ih aC (Gl.prune l2 env1) s1 with
             | none=>intro h;exact h.elim
             | some p'=>
               obtain⟨x2,e2,s2⟩:=p;obtain⟨x2',env2,s2'⟩:=p';rintro⟨rfl,rfl,he2⟩;cases x2<;>simp only[l6 hi he2]
def Gz {tab:Kw} {memo:FQ} {ihm:IH} {ih:AV->Env->St->Rs} (hi:Ya ihm ih):Fu tab memo ihm=Hg tab memo ih:=by
 funext f vs s;unfold Fu Hg;simp only[fS hi];rfl
def SC {tab : Kw} {memo:FQ} {ihm:IH} {ih:AV->Env->St->Rs} (hi:Ya ihm ih):KY tab memo ihm=Nz tab memo ih:=by
 funext x vs s;unfold KY Nz;rw[Gz hi];cases x<;>first|rfl|skip
 rename_i fn first cap
 cases fn<;>first|rfl|skip
 cases first<;>first|rfl|skip
 cases cap<;>first|rfl|skip
 rename_i L;simp only;cases s.t.get L with
 | none=>rfl
 | some o=>
   cases o<;>first|rfl|skip
   rename_i st env ps a b;cases st<;>first|rfl|skip
   simp only;congr 2;funext t;have:=hi a ⟨s.nx,t⟩ (Jf.of (El ps vs env))
   revert this
   cases ihm a _ ⟨s.nx,t⟩with
   | none=>cases ih a _ ⟨s.nx,t⟩with|none=>intro _;rfl|some p=>intro h;exact h.elim
   | some p=>
     cases ih a _ ⟨s.nx,t⟩with
     | none=>intro h;exact h.elim
     | some p'=>
       obtain⟨x1,e1,s1⟩:=p;obtain⟨x1',env1,s1'⟩:=p';rintro⟨rfl,rfl,he1⟩;cases x1<;>first|rfl|skip
       simp only;have:=hi b s1 he1
       revert this
       cases ihm b e1 s1 with
       | none=>cases ih b env1 s1 with|none=>intro _;rfl|some p=>intro h;exact h.elim
       | some p=>
         cases ih b env1 s1 with
         | none=>intro h;exact h.elim
         | some p'=>
           obtain⟨x2,e2,s2⟩:=p;obtain⟨x2',env2,s2'⟩:=p';rintro⟨rfl,rfl,he2⟩;cases x2<;>rfl
def OV {tab:Kw} {memo:FQ} {ihm:IH} {ih:AV->Env->St->Rs} (hi:Ya ihm ih):Lc tab memo ihm=QR tab memo ih:=by
 funext f vs;unfold Lc QR;rw[Gz hi];rfl
def kP {tab : Kw} {memo:FQ} {ihm:IH} {ih:AV->Env->St->Rs} (hi:Ya ihm ih) (c:AV) {e:CU} {env:Env} (s:St) (he:Jf e env):G7 (iP c tab memo ihm e s) (JO tab memo ih c env s):=by
 cases c with
 | skip=>exact⟨rfl,rfl,he⟩
 | ret=>exact⟨rfl,rfl,he⟩
 | exit id=>exact⟨rfl,rfl,he⟩
 | scope a=>exact hi a s he
 | C9 ops=>
   show G7 (gM ops (Fu tab memo ihm) (KY tab memo ihm) (Lc tab memo ihm) e s) _;rw[Gz hi,SC hi,OV hi];exact an _ _ _ ops s he
 | HU l ops=>
   show G7 (Su (WX ops (Fu tab memo ihm) (KY tab memo ihm) (Lc tab memo ihm) e s) fun env s=>some (.normal,No l env,s)) _;rw[Gz hi,SC hi,OV hi];exact N8 (K':=fun env s=>some (.normal,Gl.prune l env,s)) (XN _ _ _ ops s he) fun _ _ s he=>⟨rfl,rfl,he.prune l⟩
 | seq l a b=>exact N8 (K':=fun env s=>ih b (Gl.prune l env) s) (hi a s he) fun _ _ s he=>hi b s (he.prune l)
 | cond c a b=>
   show G7 (Bx c e fun v=>rF v fun t=>@Bool.rec (fun _=>Al) (ihm b e s) (ihm a e s) t) _;rw[BI he];simp only[JO];cases De env c with
   | none=>trivial
   | some v=>
     cases v<;>first|trivial|skip
     rename_i t;cases t
     .exact hi b s he
     .exact hi a s he
 | block id a=>
   have:=hi a s he;show G7 (match ihm a e s with|some (.exit id',env',s')=>bif Nat.beq id' id then some (.normal,env',s')else some (.exit id',env',s')|r=>r) (match ih a env s with|some (.exit id',env',s')=>bif Nat.beq id' id then some (.normal,env',s')else some (.exit id',env',s')|r=>r)
   revert this
   cases ihm a e s with
   | none=>cases ih a env s with|none=>intro _;trivial|some p=>intro h;exact h.elim
   | some p=>
     cases ih a env s with
     | none=>intro h;exact h.elim
     | some p'=>
       obtain⟨x1,e1,s1⟩:=p;obtain⟨x1',env1,s1'⟩:=p';rintro⟨rfl,rfl,he1⟩;cases x1 with
       | exit id'=>
         simp only;cases Nat.beq id' id<;>exact⟨rfl,rfl,he1⟩
       | normal=>exact⟨rfl,rfl,he1⟩
       | ret=>exact⟨rfl,rfl,he1⟩
       | Bj v=>exact⟨rfl,rfl,he1⟩
 | loop l a=>
   show G7 (Vt l e fun E=>Su (ihm a ⟨JL E,E⟩ s) fun env s=>ihm (.loop l a) env s) _;rw[Pm he];exact N8 (K':=fun env s=>ih (.loop l a) env s) (hi a s (Jf.of _)) fun _ _ s he=>hi (.loop l a) s he
 | D2 l g ps a b=>
   show G7 (Bx g e fun v=>match v with
   | .f (.func gf) [] cap=>Vt l e fun E=>s.new (.loop .ready E ps a b) fun i s1=>
    match Fu tab memo ihm gf (.f (.yield i) [] []::cap) s1 with
    | some (.ret _,s2)=>match s2.t.get i with
      | some (.loop st _ _ _ _)=>Tr.put none BD s2.t i fun t=>some ((match st with| .ready=> .normal| .ret=> .ret| .exit id=> .exit id),e,⟨s2.nx,t⟩)
      | _=>none
    | some (.Bj v,s2)=>match s2.t.get i with
      | some _=>Tr.put none BD s2.t i fun t=>some (.Bj v,e,⟨s2.nx,t⟩)
      | none=>none
    | none=>none
   | _=>none) _
   rw[BI he,Gz hi];simp only[JO];cases De env g with
   | none=>trivial
   | some v=>
     cases v<;>first|trivial|skip
     rename_i fn first cap
     cases fn<;>first|trivial|skip
     cases first<;>first|trivial|skip
     rename_i gf;simp only[ob];rw[Pm he]
     have hnew: ∀ {β γ:Type} (o:EO) (f:Nat->St->Option β) (g:Nat->St->Option γ) (Rl:Option β->Option γ->Prop),Rl none none->(∀i s,Rl (f i s) (g i s))->Rl (s.new o f) (s.new o g):=fun {β γ} o f g Rl h0 h1=>by
      obtain⟨n,t⟩:=s;cases n with
      | zero=>simp only[St.new];rw[Tr.put_eq,Tr.put_eq];exact h1 _ _
      | succ n=>
        simp only[St.new];rw[Tr.put_eq,Tr.put_eq];cases Nat.ble (n+1) Nd
        .exact h0
        .exact h1 _ _
     refine hnew _ _ _ G7 trivial fun i s1=>?_
     cases Hg tab memo ih gf (.f (.yield i) [] []::cap) s1 with
     | none=>trivial
     | some p=>
       obtain⟨x,s2⟩:=p;cases x with
       | ret v=>
         simp only;cases s2.t.get i with
         | none=>trivial
         | some o=>
           cases o<;>first|trivial|skip
           simp only;rw[Tr.put_eq,Tr.put_eq];exact⟨rfl,rfl,he⟩
       | Bj v=>
         simp only;cases s2.t.get i with
         | none=>trivial
         | some o=>
           simp only;rw[Tr.put_eq,Tr.put_eq];exact⟨rfl,rfl,he⟩
def aT (tab:Kw) (memo:FQ): ∀n:Nat,Ya (runK tab memo n) (run tab memo n)
 | 0=>fun _ _ _ _ _=>trivial
 | n+1=>fun c _ _ s he=>kP (aT tab memo n) c s he
def nI (tab:Kw) (memo:FQ) (n:Nat) (f:FuncId) (vs:List V) (v:V):Bool:=
 match Lc tab memo (runK tab memo n) f vs with
 | some u=>E6 u v
 | none=>false
def TN {tab:Kw} (ht:MN P tab) {memo:FQ} (hm:Hj P memo) {n:Nat} {f:FuncId} {vs:List V} {v:V} (h:nI tab memo n f vs v=true):CK vs=true/\BL v=true/\Pure P f vs v:=by
 unfold nI at h;rw[OV (aT tab memo n)]at h;exact Xp ht hm h
def sb (t:Tr cZ):Kw:=fun f=>ct t f
def aM {t:Tr cZ} (h:aG (fun i=>PQ P i) id t):MN P (sb t):=fun f fs e=>h f fs ((VI t f).symm.trans e)
def tF (m:FQ) (f:FuncId) (a:List V) (v:V):FQ:=fun g=>@Bool.rec (fun _=>List (List V×V)) (m g) ((a,v)::m g) (Nat.beq f g)
def qy {m:FQ} (h:Hj P m) {f:FuncId} {a:List V} {v:V} (h1:CK a=true/\BL v=true/\Pure P f a v):Hj P (tF m f a v):=fun g e he=>by
 unfold tF at he;cases hb:Nat.beq f g with
 | false=>rw[hb]at he;exact h g e he
 | true=>
   rw[hb]at he;have:=C5 hb;subst this;rcases GR.1 he with rfl|he
   .exact h1
   .exact h f e he
end Go.Gl
namespace Go.Gl
variable {P:Program}
abbrev VO (sz b:Nat):AV:=(.seq [0] (.C9 [⟨(some 2),.mv (.c (.l [] true)),none⟩])
 (.seq [0] (.seq [0,4] (.C9 [⟨(some 3),.mv (.t 0),none⟩,
  ⟨(some 4),.fm 1 false (.t 3),none⟩])
 (.cond (.t 4)
 (.seq [2] (.C9 [⟨(some 2),.mv (.c (.l [] true)),none⟩])
 .ret)
 .skip))
 (.seq [2] (.C9 [⟨(some 5),.Hi 1 0 [] [],none⟩,
  ⟨(some 6),.mv (.t 0),none⟩,
  ⟨(some 7),.append sz b (.t 5) (.t 6),none⟩,
  ⟨(some 2),.mv (.t 7),none⟩])
 .ret)))
def eE {q:Nat} {neg:Bool} {x:V} {k k':V->Prop} (h:Ji q neg x k) (hm: ∀t,k (.b t)->k' (.b t)):Ji q neg x k':=by
 unfold Ji at *;split at h<;>first|exact hm _ h|exact⟨fun e t=>hm _ (h.1 e t),fun e=>hm _ (h.2 e)⟩|exact h.elim
def OZ {v:V} {Z:AE} {Q:R->AE->Prop} (h:Q (.ret v) Z):Am Z v Q:=⟨v,Z,fun _ _ h=>h,.refl _,h⟩
def jz {Y:Ren} {f:Bool}:RV Y (.l [] f) (.l [] f):=by simp only[RV];exact⟨[],rfl,rfl⟩
section
attribute [local irreducible] Au Am Ab AR AK AY AQ AS AJ AX AN AP Ao Az AU Ax Ad W Ji
def qd {sz b:Nat} {v:V} {Z:AE} {Q:R->AE->Prop} (h1:Ji 1 false v fun t=>(t= .b true->Am Z (.l [] true) Q)/\(t= .b false->AK b Z sz (.l [] true) v fun v' Z'=>Am Z' v' Q)) :
    W P (VO sz b) (V8 [.t 2] Q) [(0,v)] Z:=by
 conv=>whnf
 repeat((first|clear U K|apply st|(apply zk;intro K U)|fail);conv=>whnf)
 refine eE h1 fun t ht=>?_
 refine zh ?_;(repeat clear U K);repeat intro K U
 refine⟨fun h=>?_,fun h=>?_⟩
 .subst h
  refine zh ?_;(repeat clear U K);repeat intro K U
  exact ht.1 rfl
 .subst h
  refine zh ?_;(repeat clear U K);repeat intro K U
  refine NK (ht.2 rfl) fun v' Z' hq=>?_
  refine zh ?_;(repeat clear U K);repeat intro K U
  exact hq
end
def mI {f : FuncId} {n sz b:Nat} (h: ∀(args:List V) (Z:AE) (Q:R->AE->Prop),args.length<=n->T P (VO sz b) (V8 [.t 2] Q) (BA 0 args) Z->Au P f args Z Q) (hn:1<=n) (hb:b<=131072:=by decide):PQ P f (.cj (Ys sz)):=by
 intro vs s r s' hc Y vs' Z hv hs Q hQ
 have main: ∀ {v v':V} {ys:List (List V)},vs= [v]->vs'= [v']->RV Y v v'->JP s sz v=some ys->(ys= []->r= .ret (.l [] true)/\s'=s)->
  (ys≠[]->(ys.all (fun e=>e.all CO)&&Nat.ble ys.length 1073741824)=true/\s.nx<=Nd/\r= .ret (.sl s.nx ys.length 0)/\s'=⟨s.nx+1,Tr.set (some (.arr sz ys)) BD s.t s.nx⟩)->
  (∀k:V->Prop,(ys= []-> ∀t,k (.b t))->(ys≠[]->k (.b false))->Ji 1 false v' k)->Au P f vs' Z Q:=fun {v v' ys} e1 e2 hr hy h0 h1 hk=>by
  subst e1;subst e2;refine h _ _ _ hn (nE (qd (hk _ (fun e t=>⟨fun _=>?_,fun _=>?_⟩) fun e=>⟨fun h=>(by cases h),fun _=>?_⟩)))
  .obtain⟨rfl,rfl⟩:=h0 e
   exact OZ (hQ Y _ Z (.refl _) ⟨_,jz,rfl⟩ hs)
  .obtain⟨rfl,rfl⟩:=h0 e
   refine IE hs hy hr fun ys' hr'=>?_
   have:ys'= []:=by
    have:=hr'.len;rw[e]at this;exact YE.1 this
   subst this;exact⟨fun e he=>(by cases he),fun e he=>(by cases he),⟨Nat.zero_le _,by simp⟩,fun _=>OZ (hQ Y _ Z (.refl _) ⟨_,jz,rfl⟩ hs),fun h=>absurd rfl h⟩
  .obtain⟨g1,g2,rfl,rfl⟩:=h1 e
   simp only[A9]at g1;refine IE hs hy hr fun ys' hr'=>?_
   have hl:=hr'.len;have hne:ys'≠[]:=fun e'=>e (by rw[e']at hl;exact YE.1 hl.symm)
   refine⟨M9 g1.1 hr',fun e he=>(by cases he),?_,fun e=>absurd e hne,fun _=>⟨rfl,fun n cap hn0 hc=>?_⟩⟩
   .have:=Ua (b:=b) (L:=ys.length) (by simp only[zD,A9];exact⟨g1.2,Nat.ble_eq_true_of_le hb⟩)
    simp only[List.length_nil,G8];rw[hl];exact this
   .obtain⟨Y',q1,q2,q3⟩:=hs.new g2 hn0 cap (o:= .arr sz ys) (o':= .arr sz ys' cap) ⟨_,hr',rfl⟩
    refine OZ (hQ Y' _ _ q1 ?_ ?_)
    .refine⟨_,?_,rfl⟩
     simp only[RV];exact⟨_,q2,by simp[hl]⟩
    .simpa using q3
 have parts: ∀ {ys:List (List V)},(match some ys with
  | some []=>some (R.ret (V.l [] true),s)
  | some (y::ys)=>bif (y::ys).all (fun e=>e.all CO)&&Nat.ble (y::ys).length 1073741824 then s.new (.arr sz (y::ys)) fun i s'=>some (.ret (.sl i (y::ys).length 0),s')else none
  | none=>none)=some (r,s')->(ys= []->r= .ret (.l [] true)/\s'=s)/\
    (ys≠[]->(ys.all (fun e=>e.all CO)&&Nat.ble ys.length 1073741824)=true/\s.nx<=Nd/\r= .ret (.sl s.nx ys.length 0)/\s'=⟨s.nx+1,Tr.set (some (.arr sz ys)) BD s.t s.nx⟩):=fun {ys} hc=>by
  cases ys with
  | nil=>cases hc;exact⟨fun _=>⟨rfl,rfl⟩,fun h=>absurd rfl h⟩
  | cons y ys=>
    obtain⟨h1,h2⟩:=AW hc;obtain⟨h3,h4⟩:=St.Ig h2;cases h4;exact⟨fun h=>(by cases h),fun _=>⟨h1,h3,rfl,rfl⟩⟩
 unfold Ys at hc;split at hc
 .rename_i es f
  obtain⟨v',l',k1,k2,rfl⟩:=hv;obtain rfl:l'= []:=k2;cases hy:JP s sz (.l es f)with
  | none=>rw[hy]at hc;cases hc
  | some ys=>
    rw[hy]at hc;obtain⟨p1,p2⟩:=parts hc;refine main rfl rfl k1 hy p1 p2 fun k h0 h1=>?_
    simp only[RV]at k1;obtain⟨es',k3,rfl⟩:=k1;have hl:=(F1.1 k3).len
    have he:ys=es:=by
     simp only[JP]at hy;exact(Option.some.inj (AW hy).2).symm
    subst he;unfold Ji;exact⟨fun e=>h0 (by rw[e]at hl;exact YE.1 hl.symm),fun e=>h1 fun e'=>e (by rw[e']at hl;exact YE.1 hl)⟩
 .rename_i m len c
  obtain⟨v',l',k1,k2,rfl⟩:=hv;obtain rfl:l'= []:=k2;cases hy:JP s sz (.sl m len c)with
  | none=>rw[hy]at hc;cases hc
  | some ys=>
    rw[hy]at hc;obtain⟨p1,p2⟩:=parts (ys:=ys) hc;refine main rfl rfl k1 hy p1 p2 fun k h0 h1=>?_
    simp only[RV]at k1;obtain⟨m',k3,rfl⟩:=k1;unfold Ji;show k (.b false);by_cases e:ys= []
    .exact h0 e false
    .exact h1 e
 .cases hc
end Go.Gl
namespace Go.Gl
variable {P:Program}
structure fq (P:Program) where
 k:Nat
 fs:cZ
 ok:PQ P k fs
def zS:List (fq P)->Tr cZ
 | []=> .leaf
 | e::r=>bif Nat.ble e.k 1000000 then Tr.set (some e.fs) BD (zS r) e.k else zS r
def Ye: ∀l:List (fq P),aG (fun i=>PQ P i) id (zS l)
 | []=>qt
 | e ::r=>by
   unfold zS;cases h:Nat.ble e.k 1000000 with
   | false=>exact Ye r
   | true=>
     have hk:e.k+1<2 ^ BD:=by
      have:=Nat.le_of_ble_eq_true h;have e2:(2:Nat) ^ BD=1099511627776:=by decide
      omega
     intro j a ha;rw[cond_true,Tr.EE BD _ _ hk]at ha;split at ha
     .next e1=>subst e1;cases ha;exact e.ok
     .exact Ye r j a ha
def eX {k n:Nat} {fn:Func} {ac:AV} {rs:List RS} (pu fz:List Nat) (hf:P.funcs[k]? =some fn)
    (hn:fn.ntmps=n:=by conv=>lhs;reduce)
    (hr:NZ P fn.results.toList=some rs:=by conv=>lhs;reduce)
    (hc:cW (rs.map zM) ((fn.body.bind (res P fn.ntmps pu fz)).getD .skip) [] (rs.map zM)=ac:=by conv=>lhs;reduce)
    (hb:fn.body.bind (res P fn.ntmps pu fz)=some (erase ac):=by kernel_rfl) (hok:okF P k=true:=by kernel_rfl):fq P:=
 ⟨k,.fn n ac rs,fun _ _ _ ha h=>E2 hf hok hb hr (hn ▸ ha) h⟩
def eZ {k n:Nat} {fn:Func} {ac:AV} {rs:List RS} (pu fz:List Nat) (hf:P.funcs[k]? =some fn)
    (hn:fn.ntmps=n:=by conv=>lhs;reduce)
    (hr:NZ P fn.results.toList=some rs:=by conv=>lhs;reduce)
    (hc:cW (rs.map zM) ((fn.body.bind (res P fn.ntmps pu fz)).getD .skip) [] (rs.map zM)=ac:=by conv=>lhs;reduce)
    (hb:fn.body.bind (res P fn.ntmps pu fz)=some (erase ac):=by kernel_rfl) (hok:okF P k=true:=by kernel_rfl):fq P:=
 ⟨k,.zU n ac rs,fun _ _ _ ha h=>E2 hf hok hb hr (hn ▸ ha) h⟩
def eC {k:Nat} {fn:Func} (sz b:Nat) (hf:P.funcs[k]? =some fn) (hb:fn.body.bind (res P fn.ntmps [] [])=some (erase (VO sz b)):=by kernel_rfl)
    (hr:NZ P fn.results.toList=some [.t 2]:=by kernel_rfl) (hok:okF P k=true:=by kernel_rfl) (hn:Nat.ble 1 fn.ntmps=true:=by kernel_rfl) (hs:Nat.ble b 131072=true:=by kernel_rfl):fq P:=
 ⟨k,.cj (Ys sz),mI (sz:=sz) (b:=b) (fun _ _ _ ha h=>E2 hf hok hb hr ha h) (Nat.le_of_ble_eq_true hn) (Nat.le_of_ble_eq_true hs)⟩
structure MM (P:Program) where
 m:FQ
 ok:Hj P m
def MM.add (M:MM P) {f:Nat} {vs:List V} {v:V} (h:CK vs=true/\BL v=true/\Pure P f vs v):MM P:=⟨tF M.m f vs v,qy M.ok h⟩
end Go.Gl
namespace Go.Gl
open Go.Proofs
set_option maxRecDepth 100000
def e17:=eX [] [] Tryz.func17
def e66:=eZ [] [] Tryz.func66
def e18:=eX [] [] Tryz.func18
def e19:=eX [] [] Tryz.func19
def e23:=eX [] [] Tryz.func23
def e22:=eX [] [] Tryz.func22
def e38:=eX [] [] Tryz.func38
def e67:=eZ [] [] Tryz.func67
def e15:=eX [] [] Tryz.func15
def e40:=eX [] [] Tryz.func40
def e31:=eX [] [] Tryz.func31
def e25:=eX [] [] Tryz.func25
def e69:=eX [] [] Tryz.func69
def e68:=eX [] [] Tryz.func68
def e27:=eX [] [] Tryz.func27
def e70:=eX [] [] Tryz.func70
def e59:=eX [] [] Tryz.func59
def e73:=eX [] [] Tryz.func73
def e72:=eX [] [] Tryz.func72
def e71:=eX [] [] Tryz.func71
def e74:=eX [] [] Tryz.func74
def e78:=eX [] [] Tryz.func78
def e100:=eX [] [] Tryz.func100
def e101:=eZ [] [] Tryz.func101
def e62:=eX [] [] Tryz.func62
def e102:=eX [] [] Tryz.func102
def e137:=eX [] [] Tryz.func137
def e60:=eX [] [] Tryz.func60
def e84:=eX [] [] Tryz.func84
def e82:=eX [] [] Tryz.func82
def e83:=eX [] [] Tryz.func83
def e92:=eX [] [] Tryz.func92
def e93:=eX [] [] Tryz.func93
def e81:=eX [] [] Tryz.func81
def e34:=eX [] [] Tryz.func34
def e131:=eX [] [] Tryz.func131
def e132:=eX [] [] Tryz.func132
def e138:=eX [] [] Tryz.func138
def e140:=eX [] [] Tryz.func140
def e139:=eX [] [] Tryz.func139
def e144:=eX [] [] Tryz.func144
def e79:=eX [] [] Tryz.func79
def e49:=eX [] [] Tryz.func49
def e159:=eX [] [] Tryz.func159
def e133:=eX [] [] Tryz.func133
def e134:=eX [] [] Tryz.func134
def e160:=eX [] [] Tryz.func160
def e61:=eX [] [] Tryz.func61
def e146:=eX [] [] Tryz.func146
def e147:=eX [] [] Tryz.func147
def e150:=eX [] [] Tryz.func150
def e151:=eZ [] [] Tryz.func151
def e118:=eX [] [] Tryz.func118
def e152:=eX [] [] Tryz.func152
end Go.Gl
