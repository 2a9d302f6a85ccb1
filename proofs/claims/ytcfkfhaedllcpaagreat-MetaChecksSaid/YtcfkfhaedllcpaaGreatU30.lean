import Derived.Test.YtcfkfhaedllcpaaGreatU29
set_option linter.all false
set_option linter.defProp false
set_option maxHeartbeats 8000000
noncomputable section
namespace Go.Gl
variable {P:Program}
structure Bo where
 M:Nat
 E:Env
abbrev AZ:=Option (AR×Bo×St)
def Hw {α β:Type} (c:Bool) (x:Option α) (g:α->Option β):ob (bif c then x else none) g=bif c then ob x g else none:=by cases c<;>rfl
def Xw (env:Env) (n:Nat) (K:V->AZ):AZ:=@List.rec (Nat×V) (fun _=>Nat->(V->AZ)->AZ) (fun _ _=>none) (fun p _ ih n K=>@Bool.rec (fun _=>AZ) (ih n K) (K p.2) (Nat.beq p.1 n)) env n K
def Yw (env:Env) (n:Nat) (K:V->AZ):Xw env n K=ob (get n env) K:=by
 induction env with
 | nil=>rfl
 | cons p r ih=>
   obtain⟨j,v⟩:=p;show @Bool.rec (fun _=>AZ) (Xw r n K) (K v) (Nat.beq j n)=ob (bif Nat.beq j n then some v else get n r) K;cases Nat.beq j n
   .exact ih
   .rfl
def Nc {α:Type} (cs:List α) (i:Nat) (K:α->AZ):AZ:=@List.rec α (fun _=>Nat->(α->AZ)->AZ) (fun _ _=>none) (fun v _ ih i K=>@Nat.rec (fun _=>AZ) (K v) (fun j _=>ih j K) i) cs i K
def IY {α:Type} (cs:List α): ∀(i:Nat) (K:α->AZ),Nc cs i K=ob cs[i]? K:=by
 induction cs with
 | nil=>intro i K;rfl
 | cons v r ih=>
   intro i K;cases i with
   | zero=>rfl
   | succ j=>exact ih j K
def Ef {α:Type} (cs:List α):Nat:=@List.rec α (fun _=>Nat) 0 (fun _ _ ih=>Nat.succ ih) cs
def Dz {α:Type} (cs:List α):Ef cs=cs.length:=by
 induction cs with
 | nil=>rfl
 | cons v r ih=>show Nat.succ (Ef r)=_;rw[ih];rfl
def PN {α:Type} (cs:List α) (n:Nat):List α:=@Nat.rec (fun _=>List α->List α) (fun cs=>cs) (fun _ ih cs=>@List.rec α (fun _=>(List α->List α)->List α) (fun _=>[]) (fun _ r _ ih=>ih r) cs ih) n cs
def Ld {α:Type}: ∀(n:Nat) (cs:List α),PN cs n=cs.drop n
 | 0,cs=>rfl
 | n+1,[]=>rfl
 | n+1,v::r=>Ld n r
def SD {α:Type} (cs:List α) (n:Nat):List α:=@List.rec α (fun _=>Nat->List α) (fun _=>[]) (fun v _ ih n=>@Nat.rec (fun _=>List α) [] (fun j _=>v::ih j) n) cs n
def WU {α:Type} (cs:List α): ∀n:Nat,SD cs n=cs.take n:=by
 induction cs with
 | nil=>intro n;cases n<;>rfl
 | cons v r ih=>
   intro n;cases n with
   | zero=>rfl
   | succ j=>show v::SD r j=_;rw[ih];rfl
def Ql {α:Type} (cs:List α) (n:Nat) (x:α):List α:=@List.rec α (fun _=>Nat->α->List α) (fun _ _=>[]) (fun v r ih n x=>@Nat.rec (fun _=>List α) (x::r) (fun j _=>v::ih j x) n) cs n x
def OA {α:Type} (cs:List α) (x:α): ∀n:Nat,Ql cs n x=cs.set n x:=by
 induction cs with
 | nil=>intro n;rfl
 | cons v r ih=>
   intro n;cases n with
   | zero=>rfl
   | succ j=>show v::Ql r j x=_;rw[ih];rfl
def bI {α:Type} (f:α->Bool) (cs:List α):Bool:=@List.rec α (fun _=>(α->Bool)->Bool) (fun _=>true) (fun v _ ih f=>@Bool.rec (fun _=>Bool) false (ih f) (f v)) cs f
def ZX {α:Type} (f:α->Bool) (cs:List α):bI f cs=cs.all f:=by
 induction cs with
 | nil=>rfl
 | cons v r ih=>
   show @Bool.rec (fun _=>Bool) false (bI f r) (f v)=_;rw[NV,ih];cases f v<;>rfl
def V0 (v:V) (K:V->AZ):AZ:=@V.rec (fun _=>V->(V->AZ)->AZ) (fun _=>Unit) (fun _=>Unit) (fun _ v K=>K v) (fun _ _ v K=>K v) (fun _ v K=>K v) (fun v K=>K v) (fun _ _ v K=>@Bool.rec (fun _=>AZ) none (K v) (A2 v)) (fun _ _ v K=>@Bool.rec (fun _=>AZ) none (K v) (A2 v)) (fun _ _ _ v K=>@Bool.rec (fun _=>AZ) none (K v) (A2 v)) (fun _ _ _ v K=>@Bool.rec (fun _=>AZ) none (K v) (A2 v)) (fun _ _ _ _ v K=>@Bool.rec (fun _=>AZ) none (K v) (A2 v)) (fun _ _ _ _ v K=>@Bool.rec (fun _=>AZ) none (K v) (A2 v)) (fun _ v K=>@Bool.rec (fun _=>AZ) none (K v) (A2 v)) (fun v K=>K v) (fun _ _ _ _ _ v K=>@Bool.rec (fun _=>AZ) none (K v) (A2 v)) (fun v K=>K v) (fun _ _ _ v K=>@Bool.rec (fun _=>AZ) none (K v) (A2 v)) (fun v K=>K v) (fun _ _ v K=>@Bool.rec (fun _=>AZ) none (K v) (A2 v)) (fun _ _ v K=>@Bool.rec (fun _=>AZ) none (K v) (A2 v)) (fun v K=>@Bool.rec (fun _=>AZ) none (K v) (A2 v)) () (fun _ _ _ _=>()) () (fun _ _ _ _=>()) v v K
def A6 {α:Type} (c:Bool) (x y:α): @Bool.rec (fun _=>α) y x c=bif c then x else y:=by cases c<;>rfl
def Ud (v:V) (K:V->AZ):V0 v K=ob (bif A2 v then some v else none) K:=by
 rw[Hw];cases v<;>first|rfl|exact A6 _ _ _
def Kb (M n:Nat):Bool:=Nat.beq (Nat.land (Nat.shiftRight M n) 1) 1
def Nh (e:Bo) (n:Nat):Option V:=bif Kb e.1 n then get n e.2 else none
def Gc (e:Bo) (env:Env):Prop:= ∀n,Nh e n=get n env
def BV (x:BQ) (e:Bo) (K:V->AZ):AZ:=@BQ.rec (fun _=>Bo->(V->AZ)->AZ) (fun n e K=>@Bool.rec (fun _=>AZ) none (Xw e.2 n K) (Kb e.1 n)) (fun v _ K=>V0 v K) x e K
def Ay {e:Bo} {env:Env} (he:Gc e env) (x:BQ) (K:V->AZ):BV x e K=ob (Cd env x) K:=by
 cases x with
 | t n=>
   show @Bool.rec (fun _=>AZ) none (Xw e.2 n K) (Kb e.1 n)=ob (get n env) K;rw[<-he n,Nh,A6,Hw,Yw]
 | c v=>exact Ud v K
def IN (l:List BQ) (env:Bo) (K:List V->AZ):AZ:=@List.rec BQ (fun _=>Bo->(List V->AZ)->AZ) (fun _ K=>K []) (fun x _ ih env K=>BV x env fun v=>ih env fun vs=>K (v::vs)) l env K
def BT {e:Bo} {env:Env} (he:Gc e env): ∀(l:List BQ) (K:List V->AZ),IN l e K=ob (KW env l) K
 | [],K=>rfl
 | x ::r,K=>by
   show(BV x e fun v=>IN r e fun vs=>K (v::vs))=_;rw[Ay he];simp only[KW];cases Cd env x with
   | none=>rfl
   | some v=>
     simp only[ob];rw[BT he r];cases KW env r<;>rfl
def Qn (x:Option BQ) (e:Bo) (K:Option V->AZ):AZ:=@Option.rec BQ (fun _=>Bo->(Option V->AZ)->AZ) (fun _ K=>K none) (fun x e K=>BV x e fun v=>K (some v)) x e K
def BY {e:Bo} {env:Env} (he:Gc e env) (x:Option BQ) (K:Option V->AZ):Qn x e K=ob (Hp env x) K:=by
 cases x with
 | none=>rfl
 | some x=>
   show(BV x e fun v=>K (some v))=_;rw[Ay he];simp only[Hp];cases Cd env x<;>rfl
def gG (k:IntKind):Nat:=@IntKind.rec (fun _=>Nat) 0 1 2 3 4 5 6 7 k
def JL (a b:IntKind):Bool:=Nat.beq (gG a) (gG b)
def ZF (a b:IntKind):JL a b=decide (a=b):=by cases a<;>cases b<;>rfl
def gU (a b:Int):Int:=@Int.rec (fun _=>Int->Int) (fun m b=>@Int.rec (fun _=>Nat->Int) (fun n m=>Int.ofNat (Nat.add m n)) (fun n m=>Int.ofNat m+Int.negSucc n) b m) (fun m b=>Int.negSucc m+b) a b
def Zc (a b:Int):gU a b=a+b:=by cases a<;>cases b<;>rfl
def fw (a b:Int):Int:=@Int.rec (fun _=>Int->Int) (fun m b=>@Int.rec (fun _=>Nat->Int) (fun n m=>@Bool.rec (fun _=>Int) (Int.negSucc (Nat.sub n (Nat.succ m))) (Int.ofNat (Nat.sub m n)) (Nat.ble n m)) (fun n m=>Int.ofNat m - Int.negSucc n) b m) (fun m b=>Int.negSucc m - b) a b
def X7 (a b:Int):fw a b=a - b:=by
 cases a with
 | negSucc m=>rfl
 | ofNat m=>
   cases b with
   | negSucc n=>rfl
   | ofNat n=>
     show @Bool.rec (fun _=>Int) (Int.negSucc (n - (m+1))) (Int.ofNat (m - n)) (Nat.ble n m)=_;cases h:Nat.ble n m with
     | true=>
       have:=Nat.le_of_ble_eq_true h;show Int.ofNat (m - n)=(m:Int) - (n:Int);simp only[Int.ofNat_eq_natCast];omega
     | false=>
       have: ¬n<=m:=fun h'=>by rw[Nat.ble_eq_true_of_le h']at h;cases h
       show Int.negSucc (n - (m+1))=(m:Int) - (n:Int);omega
def Uq (a b:Int):Bool:=@Int.rec (fun _=>Int->Bool) (fun m b=>@Int.rec (fun _=>Nat->Bool) (fun n m=>Nat.ble (Nat.succ m) n) (fun _ _=>false) b m) (fun m b=>@Int.rec (fun _=>Nat->Bool) (fun _ _=>true) (fun n m=>Nat.ble (Nat.succ n) m) b m) a b
def Nu (a b:Int):Uq a b=JF a b:=by cases a<;>cases b<;>rfl
def jQ (a b:Int):Bool:=@Int.rec (fun _=>Int->Bool) (fun m b=>@Int.rec (fun _=>Nat->Bool) (fun n m=>Nat.beq m n) (fun _ _=>false) b m) (fun m b=>@Int.rec (fun _=>Nat->Bool) (fun _ _=>false) (fun n m=>Nat.beq m n) b m) a b
def cg (a b:Int):jQ a b=TV a b:=by cases a<;>cases b<;>rfl
def Nd (b:Bool):Bool:=@Bool.rec (fun _=>Bool) true false b
def YY (b:Bool):Nd b= !b:=by cases b<;>rfl
def Uy (a:Int):Nat:=@Int.rec (fun _=>Nat) (fun n=>n) (fun _=>0) a
def LD (a:Int):Uy a=a.toNat:=by cases a<;>rfl
def SC (k:IntKind) (n:Int):Int:=@IntKind.rec (fun _=>Int->Int) (fun n=>IntKind.i8.wrap n) (fun n=>IntKind.i16.wrap n) (fun n=>IntKind.i32.wrap n)
 (fun n=>@Int.rec (fun _=>Int) (fun m=>@Bool.rec (fun _=>Int) (IntKind.i64.wrap (Int.ofNat m)) (Int.ofNat m) (Nat.ble m 9223372036854775807)) (fun m=>@Bool.rec (fun _=>Int) (IntKind.i64.wrap (Int.negSucc m)) (Int.negSucc m) (Nat.ble m 9223372036854775807)) n)
 (fun n=>IntKind.u8.wrap n) (fun n=>IntKind.u16.wrap n) (fun n=>IntKind.u32.wrap n)
 (fun n=>@Int.rec (fun _=>Int) (fun m=>@Bool.rec (fun _=>Int) (IntKind.u64.wrap (Int.ofNat m)) (Int.ofNat m) (Nat.ble m 18446744073709551615)) (fun m=>IntKind.u64.wrap (Int.negSucc m)) n) k n
def WK (k:IntKind) (n:Int):SC k n=k.wrap n:=by
 cases k<;>try rfl
 .cases n with
  | ofNat m=>
    have:=Gt .i64 (.ofNat m);simp only[GK]at this;rw[<-this];show @Bool.rec (fun _=>Int) _ _ _=_;cases Nat.ble m 9223372036854775807<;>rfl
  | negSucc m=>
    show @Bool.rec (fun _=>Int) (IntKind.i64.wrap (Int.negSucc m)) (Int.negSucc m) (Nat.ble m 9223372036854775807)=_;cases h:Nat.ble m 9223372036854775807 with
    | false=>rfl
    | true=>
      have:=Nat.le_of_ble_eq_true h;show Int.negSucc m=_;exact(wrap64 (by omega) (by omega)).symm
 .cases n with
  | ofNat m=>
    have:=Gt .u64 (.ofNat m);simp only[GK]at this;rw[<-this];show @Bool.rec (fun _=>Int) _ _ _=_;cases Nat.ble m 18446744073709551615<;>rfl
  | negSucc m=>rfl
def fy (k:IntKind) (a b:Int):Int:=@Int.rec (fun _=>Int->IntKind->Int) (fun m b _=>Int.ofNat (Nat.shiftRight m (Nat.min (Uy b) k.bits))) (fun m b k=>(Int.negSucc m).fdiv (2 ^ (min b.toNat k.bits))) a b k
def YB (k:IntKind) (a b:Int):fy k a b=a.fdiv (2 ^ (min b.toNat k.bits)):=by
 cases a with
 | negSucc m=>rfl
 | ofNat m=>
   show Int.ofNat (m >>> (min (Uy b) k.bits))=_;rw[LD,Nat.shiftRight_eq_div_pow];have:(2:Int) ^ (min b.toNat k.bits)=((2 ^ (min b.toNat k.bits):Nat):Int):=by simp
   rw[this];exact(Int.ofNat_fdiv _ _)
def gA (k:IntKind) (a b:Int):Int:=@Int.rec (fun _=>Int->IntKind->Int) (fun m b _=>Int.ofNat (Nat.shiftLeft m (Nat.min (Uy b) k.bits))) (fun m b k=>(Int.negSucc m)*(2 ^ (min b.toNat k.bits))) a b k
def YC (k:IntKind) (a b:Int):gA k a b=a*(2 ^ (min b.toNat k.bits)):=by
 cases a with
 | negSucc m=>rfl
 | ofNat m=>
   show Int.ofNat (m <<< (min (Uy b) k.bits))=_;rw[LD,Nat.shiftLeft_eq];simp
def iy (v:V) (K:IntKind->Int->AZ):AZ:=@V.rec (fun _=>(IntKind->Int->AZ)->AZ) (fun _=>Unit) (fun _=>Unit) (fun _ K=>none) (fun k n K=>K k n) (fun _ K=>none) (fun K=>none) (fun _ _ K=>none) (fun _ _ K=>none) (fun _ _ _ K=>none) (fun _ _ _ K=>none) (fun _ _ _ _ K=>none) (fun _ _ _ _ K=>none) (fun _ K=>none) (fun K=>none) (fun _ _ _ _ _ K=>none) (fun K=>none) (fun _ _ _ K=>none) (fun K=>none) (fun _ _ K=>none) (fun _ _ K=>none) (fun K=>none) () (fun _ _ _ _=>()) () (fun _ _ _ _=>()) v K
def iv:V->Option (IntKind×Int)| .i k n=>some (k,n)|_=>none
def RF (v:V) (K:IntKind->Int->AZ):iy v K=ob (iv v) fun p=>K p.1 p.2:=by cases v<;>rfl
def X1 (op:BinOp) (vx vy:V) (K:V->AZ):AZ:=iy vx fun ka a=>iy vy fun kb b=>@BinOp.rec (fun _=>IntKind->Int->IntKind->Int->(V->AZ)->AZ) (fun ka a kb b K=>@Bool.rec (fun _=>AZ) none (K (.i ka (SC ka (gU a b)))) (JL ka kb)) (fun ka a kb b K=>@Bool.rec (fun _=>AZ) none (K (.i ka (SC ka (fw a b)))) (JL ka kb)) (fun ka a kb b K=>ob (O3 .mul (.i ka a) (.i kb b)) K) (fun ka a kb b K=>ob (O3 .quo (.i ka a) (.i kb b)) K) (fun ka a kb b K=>ob (O3 .rem (.i ka a) (.i kb b)) K) (fun ka a kb b K=>@Bool.rec (fun _=>AZ) none (K (.i ka (LB .and ka a b))) (JL ka kb)) (fun ka a kb b K=>@Bool.rec (fun _=>AZ) none (K (.i ka (LB .or ka a b))) (JL ka kb)) (fun ka a kb b K=>@Bool.rec (fun _=>AZ) none (K (.i ka (LB .xor ka a b))) (JL ka kb)) (fun ka a kb b K=>@Bool.rec (fun _=>AZ) none (K (.i ka (SC ka (gA ka a b)))) (Nd (Uq b 0))) (fun ka a kb b K=>@Bool.rec (fun _=>AZ) none (K (.i ka (fy ka a b))) (Nd (Uq b 0))) (fun ka a kb b K=>@Bool.rec (fun _=>AZ) none (K (.i ka (LB .andNot ka a b))) (JL ka kb)) (fun ka a kb b K=>@Bool.rec (fun _=>AZ) none (K (.b (jQ a b))) (JL ka kb)) (fun ka a kb b K=>@Bool.rec (fun _=>AZ) none (K (.b (Nd (jQ a b)))) (JL ka kb)) (fun ka a kb b K=>@Bool.rec (fun _=>AZ) none (K (.b (Uq a b))) (JL ka kb)) (fun ka a kb b K=>@Bool.rec (fun _=>AZ) none (K (.b (Nd (Uq b a)))) (JL ka kb)) (fun ka a kb b K=>@Bool.rec (fun _=>AZ) none (K (.b (Uq b a))) (JL ka kb)) (fun ka a kb b K=>@Bool.rec (fun _=>AZ) none (K (.b (Nd (Uq a b)))) (JL ka kb)) op ka a kb b K
def ZU (op:BinOp) (vx vy:V) (K:V->AZ):X1 op vx vy K=ob (O3 op vx vy) K:=by
 unfold X1;rw[RF];cases vx<;>first|rfl|skip
 rename_i ka a;simp only[iv,ob];rw[RF];cases vy<;>first|(cases op<;>rfl)|skip
 rename_i kb b;simp only[iv,ob];cases op<;>first|rfl|skip
 all_goals
  simp only[O3];simp only[A6,ZF,WK,Zc,X7,cg,Nu,YY,YC,YB,Gt,Ks,ob]
  first
   | (cases decide (ka=kb)<;>rfl)
   | (cases JF b 0<;>rfl)
def Tc {α:Type} (t:Tr α) (k:Nat):Option α:=@Tr.rec α (fun _=>Nat->Option α) (fun _=>none) (fun o _ _ ihl ihr k=>@Nat.rec (fun _=>Option α) o (fun j _=>@Bool.rec (fun _=>Option α) (ihr (Nat.div j 2)) (ihl (Nat.div j 2)) (Nat.beq (Nat.mod j 2) 0)) k) t k
def OM {α:Type} (t:Tr α): ∀k:Nat,Tc t k=t.get k:=by
 induction t with
 | leaf=>intro k;rfl
 | node o l r ihl ihr=>
   intro k;cases k with
   | zero=>rfl
   | succ j=>
     show @Bool.rec (fun _=>Option α) (Tc r (j / 2)) (Tc l (j / 2)) (Nat.beq (j % 2) 0)=bif Nat.beq (j % 2) 0 then l.get (j / 2)else r.get (j / 2);rw[ihl,ihr];cases Nat.beq (j % 2) 0<;>rfl
def Na {α β:Type} (x:Option α) (d:Nat) (t:Tr α) (k:Nat) (K:Tr α->β):β:=
 @Nat.rec (fun _=>Tr α->Nat->(Tr α->β)->β) (fun t _ K=>K t)
  (fun _ ih t k K=>@Tr.rec α (fun _=>Nat->(Tr α->β)->β)
   (fun k K=>@Nat.rec (fun _=>β) (K (.node x .leaf .leaf)) (fun j _=>@Bool.rec (fun _=>β) (ih .leaf (Nat.div j 2) fun r=>K (.node none .leaf r)) (ih .leaf (Nat.div j 2) fun l=>K (.node none l .leaf)) (Nat.beq (Nat.mod j 2) 0)) k)
   (fun o l r _ _ k K=>@Nat.rec (fun _=>β) (K (.node x l r)) (fun j _=>@Bool.rec (fun _=>β) (ih r (Nat.div j 2) fun r=>K (.node o l r)) (ih l (Nat.div j 2) fun l=>K (.node o l r)) (Nat.beq (Nat.mod j 2) 0)) k) t k K) d t k K
def E5 {α β:Type} (x:Option α): ∀(d:Nat) (t:Tr α) (k:Nat) (K:Tr α->β),Na x d t k K=Tr.put x d t k K
 | 0,t,k,K=>rfl
 | d+1,.leaf,0,K=>rfl
 | d+1,.node _ _ _,0,K=>rfl
 | d+1,.leaf,j+1,K=>by
   show @Bool.rec (fun _=>β) (Na x d .leaf (j / 2) fun r=>K (.node none .leaf r)) (Na x d .leaf (j / 2) fun l=>K (.node none l .leaf)) (Nat.beq (j % 2) 0)=bif Nat.beq (j % 2) 0 then _ else _;rw[E5 x d,E5 x d,A6]
 | d+1,.node o l r,j+1,K=>by
   show @Bool.rec (fun _=>β) (Na x d r (j / 2) fun r=>K (.node o l r)) (Na x d l (j / 2) fun l=>K (.node o l r)) (Nat.beq (j % 2) 0)=bif Nat.beq (j % 2) 0 then _ else _;rw[E5 x d,E5 x d,A6]
def U8 (s:St) (o:EO) (K:Nat->St->AZ):AZ:=@Nat.rec (fun _=>AZ) (Na (some o) Am s.t 0 fun t=>K 0 ⟨1,t⟩) (fun n _=>@Bool.rec (fun _=>AZ) none (Na (some o) Am s.t (Nat.succ n) fun t=>K (Nat.succ n) ⟨Nat.succ (Nat.succ n),t⟩) (Nat.ble (Nat.succ n) JK)) s.nx
def Yc {γ:Type} (s:St) (o:EO) (f:Nat->St->Option γ) (K:γ->AZ):ob (s.new o f) K=U8 s o fun i s'=>ob (f i s') K:=by
 obtain⟨n,t⟩:=s;cases n with
 | zero=>
   unfold U8;simp only[St.new];rw[E5,Tr.put_eq,Tr.put_eq];rfl
 | succ n=>
   unfold U8;simp only[St.new];rw[E5,Tr.put_eq,Tr.put_eq,A6,Hw]
def gv (o:EO) (K:List V->AZ):AZ:=@EO.rec (fun _=>(List V->AZ)->AZ) (fun vs K=>K vs) (fun _ _ _=>none) (fun _ _=>none) (fun _ _ _ _ _ _=>none) o K
def bq (o:EO) (K:Nat->List (List V)->AZ):AZ:=@EO.rec (fun _=>(Nat->List (List V)->AZ)->AZ) (fun _ _=>none) (fun sz es K=>K sz es) (fun _ _=>none) (fun _ _ _ _ _ _=>none) o K
def jM {α:Type} (o:Option α) (K:α->AZ):AZ:=@Option.rec α (fun _=>(α->AZ)->AZ) (fun _=>none) (fun a K=>K a) o K
def Vk {α:Type} (o:Option α) (K:α->AZ):jM o K=ob o K:=by cases o<;>rfl
def SI (s:St) (n:Nat) (K:List V->AZ):AZ:=jM (Tc s.t n) fun o=>gv o K
def Nx (s:St) (n:Nat) (K:Nat->List (List V)->AZ):AZ:=jM (Tc s.t n) fun o=>bq o K
def Pu (s:St) (n:Nat) (K:List V->AZ):SI s n K=match s.t.get n with|some (.cs vs)=>K vs|_=>none:=by
 unfold SI;rw[Vk,OM];cases s.t.get n with
 | none=>rfl
 | some o=>cases o<;>rfl
def NF (s:St) (n:Nat) (K:Nat->List (List V)->AZ):Nx s n K=match s.t.get n with|some (.arr sz es)=>K sz es|_=>none:=by
 unfold Nx;rw[Vk,OM];cases s.t.get n with
 | none=>rfl
 | some o=>cases o<;>rfl
def Qq (agg:Option Nat) (cs:List V) (off:Nat) (K:V->AZ):AZ:=@Option.rec Nat (fun _=>List V->Nat->(V->AZ)->AZ) (fun cs off K=>Nc cs off K)
 (fun n cs off K=>@Bool.rec (fun _=>AZ) (@Bool.rec (fun _=>AZ) none (K (.a (SD (PN cs off) n))) (Nat.ble (Nat.add off n) (Ef cs))) (K (.a cs)) (@Bool.rec (fun _=>Bool) false (Nat.beq n (Ef cs)) (Nat.beq off 0))) agg cs off K
def Ko (agg:Option Nat) (cs:List V) (off:Nat) (K:V->AZ):Qq agg cs off K=ob (O1 agg cs off) K:=by
 cases agg with
 | none=>exact IY cs off K
 | some n=>
   show @Bool.rec (fun _=>AZ) (@Bool.rec (fun _=>AZ) none (K (.a (SD (PN cs off) n))) (Nat.ble (off+n) (Ef cs))) (K (.a cs)) (@Bool.rec (fun _=>Bool) false (Nat.beq n (Ef cs)) (Nat.beq off 0))=_;simp only[O1];rw[WU,Ld,Dz,Hw];cases h1:Nat.beq off 0 with
   | false=>exact A6 _ _ _
   | true=>
     cases h2:Nat.beq n cs.length with
     | false=>exact A6 _ _ _
     | true=>
       have:=CE h1;subst this;have:=CE h2;subst this;show K (.a cs)=_;rw[Nat.ble_eq_true_of_le (by omega)];simp[ob]
def VM (s:St) (agg:Option Nat) (x:V) (K:V->AZ):AZ:=@V.rec (fun _=>St->Option Nat->(V->AZ)->AZ) (fun _=>Unit) (fun _=>Unit) (fun _ s agg K=>none) (fun _ _ s agg K=>none) (fun _ s agg K=>none) (fun s agg K=>none) (fun n off s agg K=>SI s n fun vs=>Qq agg vs off K) (fun cs _ s agg K=>Qq agg cs 0 K) (fun _ _ _ s agg K=>none) (fun _ _ _ s agg K=>none) (fun _ _ _ _ s agg K=>none) (fun n sz i off s agg K=>Nx s n fun sz1 es=>@Bool.rec (fun _=>AZ) none (Nc es i fun e=>Qq agg e off K) (Nat.beq sz sz1)) (fun _ s agg K=>none) (fun s agg K=>none) (fun _ _ _ _ _ s agg K=>none) (fun s agg K=>none) (fun _ _ _ s agg K=>none) (fun s agg K=>none) (fun _ _ s agg K=>none) (fun _ _ s agg K=>none) (fun s agg K=>none) () (fun _ _ _ _=>()) () (fun _ _ _ _=>()) x s agg K
def Wq (s:St) (agg:Option Nat) (x:V) (K:V->AZ):VM s agg x K=ob (J6 s agg x) K:=by
 cases x<;>first|rfl|skip
 .rename_i n off
  refine(Pu _ _ _).trans ?_;simp only[J6];cases s.t.get n with
  | none=>rfl
  | some o=>cases o<;>first|rfl|exact Ko _ _ _ _
 .exact Ko _ _ _ _
 .rename_i n sz i off
  refine(NF _ _ _).trans ?_;simp only[J6];cases s.t.get n with
  | none=>rfl
  | some o=>
    cases o<;>first|rfl|skip
    rename_i sz1 es;simp only;rw[A6,Hw,IY];congr 1;cases es[i]? with
    | none=>rfl
    | some e=>exact Ko _ _ _ _
def FN (v:V) (K:List V->AZ):AZ:=@V.rec (fun _=>V->(List V->AZ)->AZ) (fun _=>Unit) (fun _=>Unit) (fun _ v K=>K [v]) (fun _ _ v K=>K [v]) (fun _ v K=>K [v]) (fun v K=>K [v]) (fun _ _ v K=>K [v]) (fun _ _ v K=>K [v]) (fun _ _ _ v K=>K [v]) (fun _ _ _ v K=>K [v]) (fun _ _ _ _ v K=>K [v]) (fun _ _ _ _ v K=>K [v]) (fun _ v K=>K [v]) (fun v K=>K [v]) (fun _ _ _ _ _ v K=>K [v]) (fun v K=>K [v]) (fun _ _ _ v K=>K [v]) (fun v K=>K [v]) (fun cs _ v K=>K cs) (fun _ _ v K=>none) (fun v K=>none) () (fun _ _ _ _=>()) () (fun _ _ _ _=>()) v v K
def Fu (v:V) (K:List V->AZ):FN v K=ob (cellsOf v) K:=by cases v<;>rfl
def gC (v:V):Bool:=@V.rec (fun _=>Bool) (fun _=>Unit) (fun _=>Unit) (fun _=>true) (fun _ _=>true) (fun _=>true) (true) (fun _ _=>true) (fun _ _=>true) (fun _ _ _=>true) (fun _ _ _=>true) (fun _ _ _ _=>true) (fun _ _ _ _=>true) (fun _=>true) (true) (fun _ _ _ _ _=>true) (true) (fun _ _ _=>true) (true) (fun _ _=>false) (fun _ _=>false) (false) () (fun _ _ _ _=>()) () (fun _ _ _ _=>()) v
def YW:gC=Bm:=funext fun v=>by cases v<;>rfl
def U4 (cs:List V) (o:Nat) (vc:List V):List V:=@List.rec V (fun _=>List V->Nat->List V) (fun cs _=>cs) (fun v _ ih cs o=>ih (Ql cs o v) (Nat.succ o)) vc cs o
def Ki: ∀(vc cs:List V) (o:Nat),U4 cs o vc=putAt cs o vc
 | [],_,_=>rfl
 | v::r,cs,o=>by
   show U4 (Ql cs o v) (o+1) r=_;rw[Ki r,OA];rfl
def Xt (cs:List V) (o:Nat) (vc:List V):List V:=@Bool.rec (fun _=>List V) (U4 cs o vc) vc (@Bool.rec (fun _=>Bool) false (Nat.beq (Ef vc) (Ef cs)) (Nat.beq o 0))
def Tw: ∀(vc pre cs:List V),vc.length=cs.length->putAt (pre++cs) pre.length vc=pre++vc:=by
 intro vc
 induction vc with
 | nil=>intro pre cs hl;cases cs with
   | nil=>rfl
   | cons _ _=>cases hl
 | cons x vc ih=>
   intro pre cs hl;cases cs with
   | nil=>cases hl
   | cons y cs=>
     simp only[putAt];rw[List.set_append_right _ _ (JE _),Nat.sub_self,List.set_cons_zero];have:=ih (pre++[x]) cs (by simpa using hl);simp only[Uw,Om,List.length_nil,Ex,aS,List.singleton_append]at this;exact this
def Sg (cs:List V) (o:Nat) (vc:List V):Xt cs o vc=putAt cs o vc:=by
 unfold Xt;cases h1:Nat.beq o 0 with
 | false=>exact Ki vc cs o
 | true=>
   rw[Dz,Dz];cases h2:Nat.beq vc.length cs.length with
   | false=>exact Ki vc cs o
   | true=>
     have:=CE h1;subst this;exact(Tw vc [] cs (CE h2)).symm
def VZ (s:St) (sz:Nat) (a:V) (vc:List V) (K:St->AZ):AZ:=@V.rec (fun _=>St->Nat->List V->(St->AZ)->AZ) (fun _=>Unit) (fun _=>Unit) (fun _ s sz vc K=>none) (fun _ _ s sz vc K=>none) (fun _ s sz vc K=>none) (fun s sz vc K=>none) (fun n off s sz vc K=>SI s n fun vs=>@Bool.rec (fun _=>AZ) none (Na (some (.cs (Xt vs off vc))) Am s.t n fun t=>K ⟨s.nx,t⟩) (Nat.ble (Nat.add off sz) (Ef vs))) (fun _ _ s sz vc K=>none) (fun _ _ _ s sz vc K=>none) (fun _ _ _ s sz vc K=>none) (fun _ _ _ _ s sz vc K=>none) (fun n s' i off s sz vc K=>Nx s n fun s1 es=>@Bool.rec (fun _=>AZ) none (@Bool.rec (fun _=>AZ) none (Nc es i fun e=>Na (some (.arr s1 (Ql es i (Xt e off vc)))) Am s.t n fun t=>K ⟨s.nx,t⟩) (Nat.ble (Nat.add off sz) s')) (Nat.beq s' s1)) (fun _ s sz vc K=>none) (fun s sz vc K=>none) (fun _ _ _ _ _ s sz vc K=>none) (fun s sz vc K=>none) (fun _ _ _ s sz vc K=>none) (fun s sz vc K=>none) (fun _ _ s sz vc K=>none) (fun _ _ s sz vc K=>none) (fun s sz vc K=>none) () (fun _ _ _ _=>()) () (fun _ _ _ _=>()) a s sz vc K
def Nr (s:St) (sz:Nat) (a x:V) (K:St->AZ):AZ:=FN x fun vc=>@Bool.rec (fun _=>AZ) none (@Bool.rec (fun _=>AZ) none (VZ s sz a vc K) (bI gC vc)) (Nat.beq (Ef vc) sz)
def Tm (s : St) (sz:Nat) (a x:V) (K:St->AZ):Nr s sz a x K=ob (LI s sz a x) K:=by
 unfold Nr LI;rw[Fu];cases cellsOf x with
 | none=>rfl
 | some vc =>
   simp only[ob,Dz,ZX,YW];cases Nat.beq vc.length sz with
   | false=>rfl
   | true=>
     cases vc.all Bm with
     | false=>rfl
     | true=>
       simp only[Bool.and_true,cond_true];show VZ s sz a vc K=_;cases a<;>first|rfl|skip
       .rename_i n off
        refine(Pu _ _ _).trans ?_;simp only;cases s.t.get n with
        | none=>rfl
        | some o=>
          cases o<;>first|rfl|skip
          rename_i vs;simp only;rw[E5,Tr.put_eq,Sg,Dz,A6,Tr.put_eq];show(bif Nat.ble (off+sz) vs.length then _ else none)=_;cases Nat.ble (off+sz) vs.length<;>rfl
       .rename_i n s' i off
        refine(NF _ _ _).trans ?_;simp only;cases s.t.get n with
        | none=>rfl
        | some o=>
          cases o<;>first|rfl|skip
          rename_i s1 es;simp only;rw[A6,A6,IY];show(bif Nat.beq s' s1 then(bif Nat.ble (off+sz) s' then _ else none)else none)=_;cases Nat.beq s' s1<;>cases Nat.ble (off+sz) s'<;>try rfl
          simp only[cond_true,Bool.and_true];cases es[i]? with
          | none=>rfl
          | some e=>
            simp only[ob];rw[E5,Tr.put_eq,Sg,OA,Tr.put_eq]
def Q6 (off:Nat) (x:V) (K:V->AZ):AZ:=@V.rec (fun _=>Nat->(V->AZ)->AZ) (fun _=>Unit) (fun _=>Unit) (fun _ off K=>none) (fun _ _ off K=>none) (fun _ off K=>none) (fun off K=>none) (fun n o off K=>K (.p n (Nat.add o off))) (fun cs _ off K=>K (.rp (PN cs off))) (fun _ _ _ off K=>none) (fun _ _ _ off K=>none) (fun _ _ _ _ off K=>none) (fun n sz i o off K=>K (.pe n sz i (Nat.add o off))) (fun _ off K=>none) (fun off K=>none) (fun _ _ _ _ _ off K=>none) (fun off K=>none) (fun _ _ _ off K=>none) (fun off K=>none) (fun _ _ off K=>none) (fun _ _ off K=>none) (fun off K=>none) () (fun _ _ _ _=>()) () (fun _ _ _ _=>()) x off K
def UQ (off:Nat) (x:V) (K:V->AZ):Q6 off x K=ob (N3 off x) K:=by
 cases x<;>first|rfl|skip
 show K (.rp (PN _ off))=_;rw[Ld];rfl
def Vp (sz:Nat) (x:V) (j:Int) (K:V->AZ):AZ:=@V.rec (fun _=>Nat->Int->(V->AZ)->AZ) (fun _=>Unit) (fun _=>Unit) (fun _ sz j K=>none) (fun _ _ sz j K=>none) (fun _ sz j K=>none) (fun sz j K=>none) (fun _ _ sz j K=>none) (fun _ _ sz j K=>none) (fun es _ _ sz j K=>Nc es (Uy j) fun e=>@Bool.rec (fun _=>AZ) none (K (.rp e)) (Nat.beq (Ef e) sz)) (fun n len _ sz j K=>@Bool.rec (fun _=>AZ) none (K (.pe n sz (Uy j) 0)) (Uq j (Int.ofNat len))) (fun n s off len sz j K=>@Bool.rec (fun _=>AZ) none (@Bool.rec (fun _=>AZ) none (K (.pe n sz (Nat.add off (Uy j)) 0)) (Uq j (Int.ofNat len))) (Nat.beq s sz)) (fun _ _ _ _ sz j K=>none) (fun _ sz j K=>none) (fun sz j K=>none) (fun _ _ _ _ _ sz j K=>none) (fun sz j K=>none) (fun _ _ _ sz j K=>none) (fun sz j K=>none) (fun _ _ sz j K=>none) (fun _ _ sz j K=>none) (fun sz j K=>none) () (fun _ _ _ _=>()) () (fun _ _ _ _=>()) x sz j K
def Q3 (sz:Nat) (arr:Option Nat) (x i:V) (K:V->AZ):AZ:=@Option.rec Nat (fun _=>Nat->V->V->(V->AZ)->AZ) (fun sz x i K=>iy i fun _ j=>@Bool.rec (fun _=>AZ) (Vp sz x j K) none (Uq j 0)) (fun m sz x i K=>ob (JZ sz (some m) x i) K) arr sz x i K
def UC (sz:Nat) (arr:Option Nat) (x i:V) (K:V->AZ):Q3 sz arr x i K=ob (JZ sz arr x i) K:=by
 cases arr with
 | some m=>rfl
 | none=>
   refine(RF _ _).trans ?_;cases i<;>first|rfl|skip
   rename_i k j;simp only[iv,ob,JZ,Ks,Nu];cases JF j 0 with
   | true=>rfl
   | false=>
     show Vp sz x j K=_;cases x<;>first|rfl|skip
     .rename_i es full
      show Nc es (Uy j) _=_;rw[IY,LD];simp only[Bool.not_false,cond_true];cases es[j.toNat]? with
      | none=>rfl
      | some e=>
        simp only[ob,Dz];cases Nat.beq e.length sz<;>rfl
     .rename_i n len cap
      show @Bool.rec (fun _=>AZ) none (K (.pe n sz (Uy j) 0)) (Uq j (Int.ofNat len))=_;rw[LD,Nu];simp only[Bool.not_false,cond_true];have:JF j (Int.ofNat len)=JF j (len:Int):=rfl;rw[this];cases JF j (len:Int)<;>rfl
     .rename_i n s off len
      show @Bool.rec (fun _=>AZ) none (@Bool.rec (fun _=>AZ) none (K (.pe n sz (off+Uy j) 0)) (Uq j (Int.ofNat len))) (Nat.beq s sz)=_;rw[LD,Nu];simp only[Bool.not_false,cond_true];have:JF j (Int.ofNat len)=JF j (len:Int):=rfl;rw[this];cases Nat.beq s sz<;>cases JF j (len:Int)<;>rfl
def a7 (x:V) (K:V->AZ):AZ:=@V.rec (fun _=>(V->AZ)->AZ) (fun _=>Unit) (fun _=>Unit) (fun _ K=>none) (fun _ _ K=>none) (fun _ K=>none) (fun K=>none) (fun _ _ K=>none) (fun _ _ K=>none) (fun es _ _ K=>K (.i .i64 (Int.ofNat (Ef es)))) (fun _ len _ K=>@Bool.rec (fun _=>AZ) none (K (.i .i64 (Int.ofNat len))) (Nat.ble len AX)) (fun _ _ _ len K=>@Bool.rec (fun _=>AZ) none (K (.i .i64 (Int.ofNat len))) (Nat.ble len AX)) (fun _ _ _ _ K=>none) (fun _ K=>none) (fun K=>none) (fun _ _ _ _ _ K=>none) (fun K=>none) (fun _ _ _ K=>none) (fun K=>none) (fun _ _ K=>none) (fun _ _ K=>none) (fun K=>none) () (fun _ _ _ _=>()) () (fun _ _ _ _=>()) x K
def Ye (x:V) (K:V->AZ):a7 x K=ob (Te x) K:=by
 cases x<;>first|rfl|skip
 .show K (.i .i64 (Int.ofNat (Ef _)))=_
  rw[Dz];rfl
 .show @Bool.rec (fun _=>AZ) none _ (Nat.ble _ AX)=_
  rw[A6];simp only[Te];rw[Hw];rfl
 .show @Bool.rec (fun _=>AZ) none _ (Nat.ble _ AX)=_
  rw[A6];simp only[Te];rw[Hw];rfl
def Qx (x:V) (K:V->AZ):AZ:=@V.rec (fun _=>V->(V->AZ)->AZ) (fun _=>Unit) (fun _=>Unit) (fun _ x K=>none) (fun _ _ x K=>none) (fun _ x K=>none) (fun x K=>none) (fun _ _ x K=>K x) (fun _ _ x K=>K x) (fun _ _ _ x K=>none) (fun _ _ _ x K=>none) (fun _ _ _ _ x K=>none) (fun _ _ _ _ x K=>K x) (fun _ x K=>none) (fun x K=>none) (fun _ _ _ _ _ x K=>ob (JY x) K) (fun x K=>none) (fun _ _ _ x K=>none) (fun x K=>none) (fun _ _ x K=>none) (fun _ _ x K=>none) (fun x K=>none) () (fun _ _ _ _=>()) () (fun _ _ _ _=>()) x x K
def T4 (x:V) (K:V->AZ):Qx x K=ob (JY x) K:=by cases x<;>rfl
def pI (v:V) (K:List V->AZ):AZ:=@V.rec (fun _=>(List V->AZ)->AZ) (fun _=>Unit) (fun _=>Unit) (fun _ K=>none) (fun _ _ K=>none) (fun _ K=>none) (fun K=>none) (fun _ _ K=>none) (fun _ _ K=>none) (fun _ _ _ K=>none) (fun _ _ _ K=>none) (fun _ _ _ _ K=>none) (fun _ _ _ _ K=>none) (fun _ K=>none) (fun K=>none) (fun _ _ _ _ _ K=>none) (fun K=>none) (fun _ _ _ K=>none) (fun K=>none) (fun _ _ K=>none) (fun vs _ K=>K vs) (fun K=>none) () (fun _ _ _ _=>()) () (fun _ _ _ _=>()) v K
def Zi (v:V) (K:Bool->AZ):AZ:=@V.rec (fun _=>(Bool->AZ)->AZ) (fun _=>Unit) (fun _=>Unit) (fun x K=>K x) (fun _ _ K=>none) (fun _ K=>none) (fun K=>none) (fun _ _ K=>none) (fun _ _ K=>none) (fun _ _ _ K=>none) (fun _ _ _ K=>none) (fun _ _ _ _ K=>none) (fun _ _ _ _ K=>none) (fun _ K=>none) (fun K=>none) (fun _ _ _ _ _ K=>none) (fun K=>none) (fun _ _ _ K=>none) (fun K=>none) (fun _ _ K=>none) (fun _ _ K=>none) (fun K=>none) () (fun _ _ _ _=>()) () (fun _ _ _ _=>()) v K
def pJ (v:V) (K:List V->AZ):AZ:=@V.rec (fun _=>(List V->AZ)->AZ) (fun _=>Unit) (fun _=>Unit) (fun _ K=>none) (fun _ _ K=>none) (fun _ K=>none) (fun K=>none) (fun _ _ K=>none) (fun _ _ K=>none) (fun _ _ _ K=>none) (fun _ _ _ K=>none) (fun _ _ _ _ K=>none) (fun _ _ _ _ K=>none) (fun _ K=>none) (fun K=>none) (fun _ _ _ _ _ K=>none) (fun K=>none) (fun _ _ _ K=>none) (fun K=>none) (fun cs _ K=>K cs) (fun _ _ K=>none) (fun K=>none) () (fun _ _ _ _=>()) () (fun _ _ _ _=>()) v K
def Qo (v:V) (K:V->AZ):AZ:=@V.rec (fun _=>V->(V->AZ)->AZ) (fun _=>Unit) (fun _=>Unit) (fun x v K=>@Bool.rec (fun _=>AZ) (K (.b false)) (K (.b true)) x) (fun k n v K=>@Int.rec (fun _=>AZ) (fun m=>@Nat.rec (fun _=>AZ) (K (.i k (Int.ofNat 0))) (fun j _=>K (.i k (Int.ofNat (Nat.succ j)))) m) (fun m=>@Nat.rec (fun _=>AZ) (K (.i k (Int.negSucc 0))) (fun j _=>K (.i k (Int.negSucc (Nat.succ j)))) m) n) (fun _ v K=>K v) (fun v K=>K v) (fun _ _ v K=>K v) (fun _ _ v K=>K v) (fun _ _ _ v K=>K v) (fun _ _ _ v K=>K v) (fun _ _ _ _ v K=>K v) (fun _ _ _ _ v K=>K v) (fun _ v K=>K v) (fun v K=>K v) (fun _ _ _ _ _ v K=>K v) (fun v K=>K v) (fun _ _ _ v K=>K v) (fun v K=>K v) (fun _ _ v K=>K v) (fun _ _ v K=>K v) (fun v K=>K v) () (fun _ _ _ _=>()) () (fun _ _ _ _=>()) v v K
def Sx (v:V) (K:V->AZ):Qo v K=K v:=by
 cases v<;>first|rfl|skip
 .rename_i x;cases x<;>rfl
 .rename_i k n
  cases n with
  | ofNat m=>cases m<;>rfl
  | negSucc m=>cases m<;>rfl
def fin (o:Option (R×St)) (k kp:V->St->AZ):AZ:=match o with
 | some (.ret v,s)=>k v s
 | some (.BL v,s)=>kp v s
 | none=>none
def Bn (o:Option (R×St)) (k kp:V->St->AZ):AZ:=@Option.rec (R×St) (fun _=>(V->St->AZ)->(V->St->AZ)->AZ) (fun _ _=>none) (fun p k kp=>@R.rec (fun _=>St->(V->St->AZ)->(V->St->AZ)->AZ) (fun v s k _=>k v s) (fun v s _ kp=>kp v s) p.1 p.2 k kp) o k kp
def BS (o:Option (R×St)) (k kp:V->St->AZ):Bn o k kp=fin o k kp:=by
 cases o with
 | none=>rfl
 | some p=>
   obtain⟨r,s⟩:=p;cases r<;>rfl
def FL (o:Option V) (s:St) (k kp:V->St->AZ):fin (ov o s) k kp=ob o fun v=>k v s:=by cases o<;>rfl
def cd (o:Option St) (k kp:V->St->AZ):fin (os o) k kp=ob o fun s=>k (.t []) s:=by cases o<;>rfl
def BA {α:Type} (o:Option α) (f:α->Option (R×St)) (k kp:V->St->AZ):fin (ob o f) k kp=ob o fun a=>fin (f a) k kp:=by cases o<;>rfl
abbrev OK:=CF->CV->CP->Bo->St->(V->St->AZ)->(V->St->AZ)->AZ
def Nz (e:Bo) (ps:List (Nat×Nat×BQ)) (cs:List V) (K:List V->AZ):AZ:=@List.rec (Nat×Nat×BQ) (fun _=>List V->(List V->AZ)->AZ) (fun cs K=>K cs)
 (fun p _ ih cs K=>BV p.2.2 e fun v=>FN v fun vc=>@Bool.rec (fun _=>AZ) none (@Bool.rec (fun _=>AZ) none (ih (U4 cs p.1 vc) K) (Nat.ble (Nat.add p.1 p.2.1) (Ef cs))) (Nat.beq (Ef vc) p.2.1)) ps cs K
def NH {e : Bo} {env:Env} (he:Gc e env): ∀(ps:List (Nat×Nat×BQ)) (cs:List V) (K:List V->AZ),Nz e ps cs K=ob (Ja env cs ps) K
 | [],cs,K=>rfl
 | (off, sz,x)::r,cs,K=>by
   show(BV x e fun v=>FN v fun vc=>@Bool.rec (fun _=>AZ) none (@Bool.rec (fun _=>AZ) none (Nz e r (U4 cs off vc) K) (Nat.ble (off+sz) (Ef cs))) (Nat.beq (Ef vc) sz))=_;rw[Ay he];simp only[Ja];cases Cd env x with
   | none=>rfl
   | some v=>
     simp only[ob];rw[Fu];cases cellsOf v with
     | none=>rfl
     | some vc=>
       simp only[ob,Dz,Ki];cases Nat.beq vc.length sz with
       | false=>rfl
       | true=>
         cases Nat.ble (off+sz) cs.length with
         | false=>rfl
         | true=>exact NH he r _ K
def N0 (e:Bo) (sz:Nat) (ps:List (Nat×BQ)) (es:List (List V)) (K:List (List V)->AZ):AZ:=@List.rec (Nat×BQ) (fun _=>List (List V)->(List (List V)->AZ)->AZ) (fun es K=>K es)
 (fun p _ ih es K=>BV p.2 e fun v=>FN v fun vc=>@Bool.rec (fun _=>AZ) none (@Bool.rec (fun _=>AZ) none (ih (Ql es p.1 vc) K) (Nat.ble (Nat.succ p.1) (Ef es))) (Nat.beq (Ef vc) sz)) ps es K
def NJ {e : Bo} {env:Env} (he:Gc e env) (sz:Nat): ∀(ps:List (Nat×BQ)) (es:List (List V)) (K:List (List V)->AZ),N0 e sz ps es K=ob (Jb env sz es ps) K
 | [],es,K=>rfl
 | (i, x)::r,es,K=>by
   show(BV x e fun v=>FN v fun vc=>@Bool.rec (fun _=>AZ) none (@Bool.rec (fun _=>AZ) none (N0 e sz r (Ql es i vc) K) (Nat.ble (Nat.succ i) (Ef es))) (Nat.beq (Ef vc) sz))=_;rw[Ay he];simp only[Jb];cases Cd env x with
   | none=>rfl
   | some v=>
     simp only[ob];rw[Fu];cases cellsOf v with
     | none=>rfl
     | some vc=>
       simp only[ob,Dz,OA,Nat.blt,Nat.succ_eq_add_one];cases Nat.beq vc.length sz with
       | false=>rfl
       | true=>
         cases Nat.ble (i+1) es.length with
         | false=>rfl
         | true=>exact NJ he sz r _ K
def il (o:EM):OK:=@EM.rec (fun _=>OK)
 (fun x cf cv cp env s kk kp=>BV x env fun v=>kk v s)
 (fun x cf cv cp env s kk kp=>BV x env fun v=>kk v s)
 (fun c a b cf cv cp env s kk kp=>BV c env fun vc=>BV a env fun va=>BV b env fun vb=>Zi vc fun t=>@Bool.rec (fun _=>AZ) (kk vb s) (kk va s) t)
 (fun op x y cf cv cp env s kk kp=>BV x env fun vx=>BV y env fun vy=>X1 op vx vy fun v=>kk v s)
 (fun neg x y cf cv cp env s kk kp=>BV x env fun vx=>BV y env fun vy=>Bn (match vx,vy with| .b p,.b q=>some (.ret (.b (bif neg then p != q else p==q)),s)|_,_=>none) kk kp)
 (fun len neg x y cf cv cp env s kk kp=>BV x env fun vx=>BV y env fun vy=>Bn (ov (VG len neg vx vy) s) kk kp)
 (fun kind neg x cf cv cp env s kk kp=>BV x env fun vx=>Bn (ov (VF kind neg vx) s) kk kp)
 (fun x cf cv cp env s kk kp=>BV x env fun vx=>Zi vx fun p=>kk (.b (Nd p)) s)
 (fun xor x cf cv cp env s kk kp=>BV x env fun vx=>Bn (match vx with| .i ka a=>some (.ret (.i ka (bif xor then bits .xor ka (bif ka.signed then -1 else ka.max) a else ka.wrap (0 - a))),s)|_=>none) kk kp)
 (fun k x cf cv cp env s kk kp=>BV x env fun vx=>Bn (match vx with| .i _ a=>some (.ret (.i k (GK k a)),s)|_=>none) kk kp)
 (fun x cf cv cp env s kk kp=>BV x env fun vx=>FN vx fun cs=>U8 s (.cs cs) fun i s=>kk (.p i 0) s)
 (fun x cf cv cp env s kk kp=>BV x env fun vx=>FN vx fun cs=>kk (.rp cs) s)
 (fun sz bytes x y cf cv cp env s kk kp=>BV x env fun vx=>BV y env fun vy=>Bn (ov (PM bytes s sz vx vy) s) kk kp)
 (fun zero cf cv cp env s kk kp=>Bn (bif Bi zero then s.new (.cs zero) fun i s=>some (.ret (.p i 0),s)else none) kk kp)
 (fun zero parts cf cv cp env s kk kp=>@Bool.rec (fun _=>AZ) none (Nz env parts zero fun cs=>kk (.a cs) s) (Bi zero))
 (fun sz len zero parts cf cv cp env s kk kp=>@Bool.rec (fun _=>AZ) none (N0 env (Ef zero) parts (List.replicate len zero) fun es=>kk (.l es true) s) (Bi zero))
 (fun agg x cf cv cp env s kk kp=>BV x env fun vx=>VM s agg vx fun v=>kk v s)
 (fun sz a x cf cv cp env s kk kp=>BV a env fun va=>BV x env fun vx=>Nr s sz va vx fun s=>kk (.t []) s)
 (fun off x cf cv cp env s kk kp=>BV x env fun vx=>Q6 off vx fun v=>kk v s)
 (fun agg off x cf cv cp env s kk kp=>BV x env fun vx=>pJ vx fun cs=>Qq agg cs off fun v=>kk v s)
 (fun sz arr x i cf cv cp env s kk kp=>BV x env fun vx=>BV i env fun vi=>Q3 sz arr vx vi fun v=>kk v s)
 (fun len sz agg x i cf cv cp env s kk kp=>BV x env fun vx=>BV i env fun vi=>Bn (ov (LK len sz agg vx vi) s) kk kp)
 (fun sz x lo hi mx cf cv cp env s kk kp=>BV x env fun vx=>Qn lo env fun l=>Qn hi env fun h=>Qn mx env fun m=>Bn (TQ (LJ s sz vx l h m)) kk kp)
 (fun x cf cv cp env s kk kp=>BV x env fun vx=>a7 vx fun v=>kk v s)
 (fun x cf cv cp env s kk kp=>BV x env fun vx=>Bn (ov (PK s vx) s) kk kp)
 (fun x cf cv cp env s kk kp=>BV x env fun vx=>Bn (ov (VE s vx) s) kk kp)
 (fun x i cf cv cp env s kk kp=>BV x env fun vx=>BV i env fun vi=>Bn (ov (PJ vx vi) s) kk kp)
 (fun sz bytes x y cf cv cp env s kk kp=>BV x env fun vx=>BV y env fun vy=>Bn (TQ (Ii bytes s sz vx vy)) kk kp)
 (fun sz x y cf cv cp env s kk kp=>BV x env fun vx=>BV y env fun vy=>Bn (TQ (PL s sz vx vy)) kk kp)
 (fun x y cf cv cp env s kk kp=>BV x env fun vx=>BV y env fun vy=>Bn (match vx,vy with| .i ka a,.i kb b=>bif decide (ka=kb)then some (.ret (.i ka (bif JF a b then b else a)),s)else none|_,_=>none) kk kp)
 (fun x y cf cv cp env s kk kp=>BV x env fun vx=>BV y env fun vy=>Bn (match vx,vy with| .i ka a,.i kb b=>bif decide (ka=kb)then some (.ret (.i ka (bif JF b a then b else a)),s)else none|_,_=>none) kk kp)
 (fun i x cf cv cp env s kk kp=>BV x env fun vx=>pI vx fun vs=>Nc vs i fun v=>kk v s)
 (fun x cf cv cp env s kk kp=>BV x env fun vx=>Qx vx fun v=>kk v s)
 (fun f first cap cf cv cp env s kk kp=>IN first env fun vf=>IN cap env fun vc=>@Bool.rec (fun _=>AZ) none (kk (.f f vf vc) s) (JR f))
 (fun cf cv cp env s kk kp=>Bn (s.new (.map []) fun i s=>some (.ret (.m i),s)) kk kp)
 (fun sz bytes zero len cap cf cv cp env s kk kp=>BV len env fun vx=>BV cap env fun vy=>Bn (TQ (Gx s sz zero vx vy)) kk kp)
 (fun ks zero ok m k cf cv cp env s kk kp=>BV m env fun vm=>BV k env fun vk=>Bn (ov (Ig s ks zero ok vm vk) s) kk kp)
 (fun ks m k v cf cv cp env s kk kp=>BV m env fun vm=>BV k env fun vk=>BV v env fun vx=>Bn (os (Ie s ks vm vk vx)) kk kp)
 (fun t x cf cv cp env s kk kp=>BV x env fun vx=>kk (.De t vx) s)
 (fun t zero ok x cf cv cp env s kk kp=>BV x env fun vx=>Bn (ov (VD t zero ok vx) s) kk kp)
 (fun x cf cv cp env s kk kp=>BV x env fun vx=>Bn (match vx with| .De t v=>some (.BL (.De t v),s)|_=>none) kk kp)
 (fun f args cf cv cp env s kk kp=>IN args env fun vs=>Bn (cf f vs s) kk kp)
 (fun f args cf cv cp env s kk kp=>IN args env fun vs=>Bn (ov (cp f vs) s) kk kp)
 (fun x args cf cv cp env s kk kp=>BV x env fun vx=>IN args env fun vs=>Bn (cv vx vs s) kk kp)
 (fun x args cf cv cp env s kk kp=>none)
 (fun tab x args cf cv cp env s kk kp=>BV x env fun vx=>IN args env fun vs=>Bn (match vx with| .De t v=>ob (look t tab) fun f=>cf f (v::vs) s|_=>none) kk kp) o
def We {vc va vb:V} {s:St} {kk kp:V->St->AZ}:Zi vc (fun t=>@Bool.rec (fun _=>AZ) (kk vb s) (kk va s) t)=fin (match vc with| .b t=>some (.ret (bif t then va else vb),s)|_=>none) kk kp:=by
 cases vc<;>first|rfl|skip
 rename_i t;cases t<;>rfl
def not_eq {vx:V} {s:St} {kk kp:V->St->AZ}:Zi vx (fun p=>kk (.b (Nd p)) s)=fin (match vx with| .b p=>some (.ret (.b (!p)),s)|_=>none) kk kp:=by
 cases vx<;>first|rfl|skip
 rename_i t;cases t<;>rfl
def OO {c:Bool} {x:Option (R×St)} {kk kp:V->St->AZ}:fin (bif c then x else none) kk kp=bif c then fin x kk kp else none:=by cases c<;>rfl
def Vi {e:Bo} {env:Env} (he:Gc e env) (o:EM) (cf:CF) (cv:CV) (cp:CP) (s:St) (kk kp:V->St->AZ):il o cf cv cp e s kk kp=fin (EK cf cv cp o env s) kk kp:=by
 cases o with
 | mv x=>
   show(BV x e fun v=>kk v s)=_;simp only[Ay he,EK,FL]
 | Xi x=>
   show(BV x e fun v=>kk v s)=_;simp only[Ay he,EK,FL]
 | pick c a b=>
   show(BV c e fun vc=>BV a e fun va=>BV b e fun vb=>Zi vc fun t=>@Bool.rec (fun _=>AZ) (kk vb s) (kk va s) t)=_;simp only[Ay he,EK,BA,We (kp:=kp)];rfl
 | bin op x y=>
   show(BV x e fun vx=>BV y e fun vy=>X1 op vx vy fun v=>kk v s)=_;simp only[Ay he,EK,BA,FL,ZU]
 | Xm neg x y=>
   show(BV x e fun vx=>BV y e fun vy=>Bn (match vx,vy with| .b p,.b q=>some (.ret (.b (bif neg then p != q else p==q)),s)|_,_=>none) kk kp)=_;simp only[Ay he,BT he,BY he,EK,BA,BS]
   try rfl
 | Oo len neg x y=>
   show(BV x e fun vx=>BV y e fun vy=>Bn (ov (VG len neg vx vy) s) kk kp)=_;simp only[Ay he,BT he,BY he,EK,BA,BS]
   try rfl
 | TU kind neg x=>
   show(BV x e fun vx=>Bn (ov (VF kind neg vx) s) kk kp)=_;simp only[Ay he,BT he,BY he,EK,BA,BS]
   try rfl
 | not x=>
   show(BV x e fun vx=>Zi vx fun p=>kk (.b (Nd p)) s)=_;simp only[Ay he,EK,BA,not_eq (kp:=kp)];rfl
 | neg xor x=>
   show(BV x e fun vx=>Bn (match vx with| .i ka a=>some (.ret (.i ka (bif xor then bits .xor ka (bif ka.signed then -1 else ka.max) a else ka.wrap (0 - a))),s)|_=>none) kk kp)=_;simp only[Ay he,BT he,BY he,EK,BA,BS]
   try rfl
 | conv k x=>
   show(BV x e fun vx=>Bn (match vx with| .i _ a=>some (.ret (.i k (GK k a)),s)|_=>none) kk kp)=_;simp only[Ay he,BT he,BY he,EK,BA,BS]
   try rfl
 | box x=>
   show(BV x e fun vx=>FN vx fun cs=>U8 s (.cs cs) fun i s=>kk (.p i 0) s)=_;simp only[Ay he,EK,BA,Fu];congr 1;funext vx;congr 1;funext cs;have: ∀o:Option (R×St),fin o kk kp=ob o fun p=>fin (some p) kk kp:=fun o=>by cases o<;>rfl
   rw[this,Yc];rfl
 | K2 x=>
   show(BV x e fun vx=>FN vx fun cs=>kk (.rp cs) s)=_;simp only[Ay he,EK,BA,Fu];rfl
 | MR sz bytes x y=>
   show(BV x e fun vx=>BV y e fun vy=>Bn (ov (PM bytes s sz vx vy) s) kk kp)=_;simp only[Ay he,BT he,BY he,EK,BA,BS]
   try rfl
 | alloc zero=>
   show(Bn (bif Bi zero then s.new (.cs zero) fun i s=>some (.ret (.p i 0),s)else none) kk kp)=_;simp only[BS,EK]
 | build zero parts=>
   show(@Bool.rec (fun _=>AZ) none (Nz e parts zero fun cs=>kk (.a cs) s) (Bi zero))=_;simp only[EK,OO,BA,NH he,A6];rfl
 | Cr sz len zero parts=>
   show(@Bool.rec (fun _=>AZ) none (N0 e (Ef zero) parts (List.replicate len zero) fun es=>kk (.l es true) s) (Bi zero))=_;simp only[EK,OO,BA,NJ he,A6,Dz];rfl
 | load agg x=>
   show(BV x e fun vx=>VM s agg vx fun v=>kk v s)=_;simp only[Ay he,EK,BA,FL,Wq]
 | store sz a x=>
   show(BV a e fun va=>BV x e fun vx=>Nr s sz va vx fun s=>kk (.t []) s)=_;simp only[Ay he,EK,BA,cd,Tm]
 | BE off x=>
   show(BV x e fun vx=>Q6 off vx fun v=>kk v s)=_;simp only[Ay he,EK,BA,FL,UQ]
 | field agg off x=>
   show(BV x e fun vx=>pJ vx fun cs=>Qq agg cs off fun v=>kk v s)=_;simp only[Ay he,EK,BA];congr 1;funext vx;cases vx<;>first|rfl|skip
   show Qq agg _ off _=_;rw[Ko,FL]
 | Eg sz arr x i=>
   show(BV x e fun vx=>BV i e fun vi=>Q3 sz arr vx vi fun v=>kk v s)=_;simp only[Ay he,EK,BA,FL,UC]
 | index len sz agg x i=>
   show(BV x e fun vx=>BV i e fun vi=>Bn (ov (LK len sz agg vx vi) s) kk kp)=_;simp only[Ay he,BT he,BY he,EK,BA,BS]
   try rfl
 | slice sz x lo hi mx=>
   show(BV x e fun vx=>Qn lo e fun l=>Qn hi e fun h=>Qn mx e fun m=>Bn (TQ (LJ s sz vx l h m)) kk kp)=_;simp only[Ay he,BT he,BY he,EK,BA,BS]
   try rfl
 | len x=>
   show(BV x e fun vx=>a7 vx fun v=>kk v s)=_;simp only[Ay he,EK,BA,FL,Ye]
 | Nf x=>
   show(BV x e fun vx=>Bn (ov (PK s vx) s) kk kp)=_;simp only[Ay he,BT he,BY he,EK,BA,BS]
   try rfl
 | str x=>
   show(BV x e fun vx=>Bn (ov (VE s vx) s) kk kp)=_;simp only[Ay he,BT he,BY he,EK,BA,BS]
   try rfl
 | Oq x i=>
   show(BV x e fun vx=>BV i e fun vi=>Bn (ov (PJ vx vi) s) kk kp)=_;simp only[Ay he,BT he,BY he,EK,BA,BS]
   try rfl
 | append sz bytes x y=>
   show(BV x e fun vx=>BV y e fun vy=>Bn (TQ (Ii bytes s sz vx vy)) kk kp)=_;simp only[Ay he,BT he,BY he,EK,BA,BS]
   try rfl
 | copy sz x y=>
   show(BV x e fun vx=>BV y e fun vy=>Bn (TQ (PL s sz vx vy)) kk kp)=_;simp only[Ay he,BT he,BY he,EK,BA,BS]
   try rfl
 | Ou x y=>
   show(BV x e fun vx=>BV y e fun vy=>Bn (match vx,vy with| .i ka a,.i kb b=>bif decide (ka=kb)then some (.ret (.i ka (bif JF a b then b else a)),s)else none|_,_=>none) kk kp)=_;simp only[Ay he,BT he,BY he,EK,BA,BS]
   try rfl
 | Ot x y=>
   show(BV x e fun vx=>BV y e fun vy=>Bn (match vx,vy with| .i ka a,.i kb b=>bif decide (ka=kb)then some (.ret (.i ka (bif JF b a then b else a)),s)else none|_,_=>none) kk kp)=_;simp only[Ay he,BT he,BY he,EK,BA,BS]
   try rfl
 | extract i x=>
   show(BV x e fun vx=>pI vx fun vs=>Nc vs i fun v=>kk v s)=_;simp only[Ay he,EK,BA];congr 1;funext vx;cases vx<;>first|rfl|skip
   show Nc _ i _=_;rw[IY,FL]
 | Di x=>
   show(BV x e fun vx=>Qx vx fun v=>kk v s)=_;simp only[Ay he,EK,BA,FL,T4]
 | TR f first cap=>
   show(IN first e fun vf=>IN cap e fun vc=>@Bool.rec (fun _=>AZ) none (kk (.f f vf vc) s) (JR f))=_;simp only[BT he,EK,OO,BA,A6];rfl
 | J2=>
   show(Bn (s.new (.map []) fun i s=>some (.ret (.m i),s)) kk kp)=_;simp only[BS,EK]
 | EU sz bytes zero len cap=>
   show(BV len e fun vx=>BV cap e fun vy=>Bn (TQ (Gx s sz zero vx vy)) kk kp)=_;simp only[Ay he,BT he,BY he,EK,BA,BS]
   try rfl
 | lookup ks zero ok m k=>
   show(BV m e fun vm=>BV k e fun vk=>Bn (ov (Ig s ks zero ok vm vk) s) kk kp)=_;simp only[Ay he,BT he,BY he,EK,BA,BS]
   try rfl
 | EI ks m k v=>
   show(BV m e fun vm=>BV k e fun vk=>BV v e fun vx=>Bn (os (Ie s ks vm vk vx)) kk kp)=_;simp only[Ay he,BT he,BY he,EK,BA,BS]
   try rfl
 | J3 t x=>
   show(BV x e fun vx=>kk (.De t vx) s)=_;simp only[Ay he,EK,BA];rfl
 | Un t zero ok x=>
   show(BV x e fun vx=>Bn (ov (VD t zero ok vx) s) kk kp)=_;simp only[Ay he,BT he,BY he,EK,BA,BS]
   try rfl
 | panic x=>
   show(BV x e fun vx=>Bn (match vx with| .De t v=>some (.BL (.De t v),s)|_=>none) kk kp)=_;simp only[Ay he,BT he,BY he,EK,BA,BS]
   try rfl
 | call f args=>
   show(IN args e fun vs=>Bn (cf f vs s) kk kp)=_;simp only[Ay he,BT he,BY he,EK,BA,BS]
   try rfl
 | Fa f args=>
   show(IN args e fun vs=>Bn (ov (cp f vs) s) kk kp)=_;simp only[Ay he,BT he,BY he,EK,BA,BS]
   try rfl
 | GS x args=>
   show(BV x e fun vx=>IN args e fun vs=>Bn (cv vx vs s) kk kp)=_;simp only[Ay he,BT he,BY he,EK,BA,BS]
   try rfl
 | RB x args=>
   rfl
 | inv tab x args=>
   show(BV x e fun vx=>IN args e fun vs=>Bn (match vx with| .De t v=>ob (look t tab) fun f=>cf f (v::vs) s|_=>none) kk kp)=_;simp only[Ay he,BT he,BY he,EK,BA,BS]
   try rfl
def bE (g:Bool) (t:Bool) (y:AZ) (n:AZ):AZ:=@Bool.rec (fun _=>AZ) (@Bool.rec (fun _=>AZ) y n g) (@Bool.rec (fun _=>AZ) n y g) t
def Yt (g t:Bool) (y n:AZ):bE g t y n=bif t==g then y else n:=by cases g<;>cases t<;>rfl
def gK (v:V) (g:Bool) (y:AZ) (n:AZ):AZ:=@V.rec (fun _=>Bool->AZ->AZ->AZ) (fun _=>Unit) (fun _=>Unit) (fun t g y n=>bE g t y n) (fun _ _ g y n=>none) (fun _ g y n=>none) (fun g y n=>none) (fun _ _ g y n=>none) (fun _ _ g y n=>none) (fun _ _ _ g y n=>none) (fun _ _ _ g y n=>none) (fun _ _ _ _ g y n=>none) (fun _ _ _ _ g y n=>none) (fun _ g y n=>none) (fun g y n=>none) (fun _ _ _ _ _ g y n=>none) (fun g y n=>none) (fun _ _ _ g y n=>none) (fun g y n=>none) (fun _ _ g y n=>none) (fun vs _ g y n=>@List.rec V (fun _=>AZ->AZ) (fun n=>n) (fun _ _ _ _=>none) vs n) (fun g y n=>none) () (fun _ _ _ _=>()) () (fun _ _ _ _=>()) v g y n
def jf (g:Nat×Bool) (o:EM):OK:=fun cf cv cp e s kk kp=>BV (.t g.1) e fun v=>gK v g.2 (il o cf cv cp e s kk kp) (kk (.t []) s)
def Qk (g:Option (Nat×Bool)) (o:EM):OK:=@Option.rec (Nat×Bool) (fun _=>EM->OK) (fun o=>il o) (fun g o=>jf g o) g o
def N9 {e:Bo} {env:Env} (he:Gc e env) (d:Option Nat) (g:Option (Nat×Bool)) (o:EM) (cf:CF) (cv:CV) (cp:CP) (s:St) (kk kp:V->St->AZ):Qk g o cf cv cp e s kk kp=fin (GZ cf cv cp ⟨d,o,g⟩ env s) kk kp:=by
 cases g with
 | none=>exact Vi he o cf cv cp s kk kp
 | some g=>
   obtain⟨g,b⟩:=g;show(BV (.t g) e fun v=>gK v b (il o cf cv cp e s kk kp) (kk (.t []) s))=_;rw[Ay he,Vi he];simp only[GZ,Cd];cases get g env with
   | none=>rfl
   | some v=>
     simp only[ob];cases v<;>first|rfl|skip
     .rename_i t
      show bE b t _ _=_;rw[Yt];simp only;cases t==b<;>rfl
     .rename_i vs
      cases vs<;>rfl
def J1 (d:Option Nat) (v:V) (e:Bo):Bo:=@Option.rec Nat (fun _=>V->Bo->Bo) (fun _ e=>e) (fun d v e=>⟨Nat.lor e.1 (Nat.shiftLeft 1 d),(d,v)::e.2⟩) d v e
def Hn (M n:Nat):Kb M n=M.testBit n:=by
 have h1:(M >>> n)&&&1=(M >>> n) % 2:=Nat.and_one_is_mod _;have h2:Kb M n=Nat.beq ((M >>> n)&&&1) 1:=rfl;rw[h2,h1,Nat.testBit_eq_decide_div_mod_eq,Nat.shiftRight_eq_div_pow];cases h:decide (M / 2 ^ n % 2=1)with
 | true=>rw[of_decide_eq_true h];rfl
 | false=>
   have:=of_decide_eq_false h;cases hb:Nat.beq (M / 2 ^ n % 2) 1 with
   | false=>rfl
   | true=>exact absurd (Oe hb) this
def LN (M d n:Nat):Kb (Nat.lor M (Nat.shiftLeft 1 d)) n=(Kb M n||Nat.beq d n):=by
 rw[Hn,Hn];show(M|||1 <<< d).testBit n=_;rw[Nat.testBit_or,Nat.one_shiftLeft,Nat.testBit_two_pow];congr 1;cases hb:Nat.beq d n with
 | true=>simp[Oe hb]
 | false=>simpa using Nat.ne_of_beq_eq_false hb
def Gc.push {e:Bo} {env:Env} (he:Gc e env) (d:Option Nat) (v:V):Gc (J1 d v e) (put d v env):=by
 cases d with
 | none=>exact he
 | some d=>
   intro n;show(bif Kb (Nat.lor e.1 (Nat.shiftLeft 1 d)) n then(bif Nat.beq d n then some v else get n e.2)else none)=bif Nat.beq d n then some v else get n env;rw[LN,<-he n,Nh];cases Nat.beq d n<;>cases Kb e.1 n<;>rfl
def U7 (ops:List Ad) (cf:CF) (cv:CV) (cp:CP) (env:Bo) (s:St):AZ:=@List.rec Ad (fun _=>CF->CV->CP->Bo->St->AZ) (fun _ _ _ env s=>some (.normal,env,s))
 (fun o _ ih cf cv cp env s=>Qk o.3 o.2 cf cv cp env s (fun v s=>Qo v fun v=>ih cf cv cp (J1 o.1 v env) s) (fun v s=>some (.BL v,env,s))) ops cf cv cp env s
def Ew:AZ->Rs->Prop
 | some (x,e,s),some (x',env,s')=>x=x'/\s=s'/\Gc e env
 | none,none=>True
 | _,_=>False
def Sl (cf:CF) (cv:CV) (cp:CP): ∀(ops:List Ad) {e:Bo} {env:Env} (s:St),Gc e env->Ew (U7 ops cf cv cp e s) (O0 cf cv cp ops env s)
 | [],e,env,s,he=>⟨rfl,rfl,he⟩
 | o ::r,e,env,s,he=>by
   show Ew (Qk o.3 o.2 cf cv cp e s (fun v s=>Qo v fun v=>U7 r cf cv cp (J1 o.1 v e) s) (fun v s=>some (.BL v,e,s))) _;rw[N9 he o.1];show Ew (fin (GZ cf cv cp o env s) _ _) _;simp only[O0];cases GZ cf cv cp o env s with
   | none=>trivial
   | some p=>
     obtain⟨x,s'⟩:=p;cases x with
     | BL v=>exact⟨rfl,rfl,he⟩
     | ret v=>
       show Ew (Qo v fun v=>U7 r cf cv cp (J1 o.1 v e) s') (F3 v _);rw[Sx,Fp];exact Sl cf cv cp r s' (he.push o.1 v)
def fY (re:List Ad) (cf:CF) (cv:CV) (cp:CP) (e:Bo) (s:St) (K:AZ):AZ:=@List.rec Ad (fun _=>CF->CV->CP->Bo->St->AZ->AZ) (fun _ _ _ _ _ K=>K)
 (fun o _ ih cf cv cp e s K=>Qk o.3 o.2 cf cv cp e s (fun u _=>@Option.rec Nat (fun _=>AZ) (ih cf cv cp e s K) (fun d=>BV (.t d) e fun w=>@Bool.rec (fun _=>AZ) none (ih cf cv cp e s K) (DS u w)) o.1) (fun _ _=>none)) re cf cv cp e s K
def Vb (cf:CF) (cv:CV) (cp:CP) {e:Bo} {env:Env} (he:Gc e env) (s:St) (K:AZ): ∀re:List Ad,fY re cf cv cp e s K=bif Xd cf cv cp re env s then K else none
 | []=>rfl
 | o ::r=>by
   show Qk o.3 o.2 cf cv cp e s (fun u _=>@Option.rec Nat (fun _=>AZ) (fY r cf cv cp e s K) (fun d=>BV (.t d) e fun w=>@Bool.rec (fun _=>AZ) none (fY r cf cv cp e s K) (DS u w)) o.1) (fun _ _=>none)=_;rw[N9 he o.1,Vb cf cv cp he s K r]
   have h':Xd cf cv cp (o::r) env s=((match GZ cf cv cp o env s with
    | some (.ret u,_)=>match o.dst with
      | none=>true
      | some d=>match get d env with|some w=>DS u w|none=>false
    | _=>false)&&Xd cf cv cp r env s):=rfl
   rw[h'];show fin (GZ cf cv cp o env s) _ _=_;cases GZ cf cv cp o env s with
   | none=>rfl
   | some p=>
     obtain⟨x,s'⟩:=p;cases x with
     | BL v=>rfl
     | ret u=>
       obtain⟨d,op,g⟩:=o;cases d with
       | none=>simp only[fin,Fv]
       | some d=>
         simp only[fin];rw[Ay he];simp only[Cd];cases get d env with
         | none=>rfl
         | some w=>
           simp only[ob];cases DS u w<;>simp
def PO (ops:List B0) (cf:CF) (cv:CV) (cp:CP) (e:Bo) (s:St):AZ:=@List.rec B0 (fun _=>CF->CV->CP->Bo->St->AZ) (fun _ _ _ e s=>some (.normal,e,s))
 (fun d _ ih cf cv cp e s=>Qk d.2.3 d.2.2 cf cv cp e s (fun v s=>Qo v fun v=>(fun e=>fY d.4 cf cv cp e s (ih cf cv cp e s)) (J1 d.2.1 v e)) (fun v s=>some (.BL v,⟨0,[]⟩,s))) ops cf cv cp e s
def Gc.nil {M:Nat}:Gc ⟨M,[]⟩ []:=fun n=>by
 show(bif Kb M n then none else none)=none;cases Kb M n<;>rfl
def P0 (cf:CF) (cv:CV) (cp:CP): ∀(ops:List B0) {e:Bo} {env:Env} (s:St),Gc e env->Ew (PO ops cf cv cp e s) (Mk cf cv cp ops env s)
 | [],e,env,s,he=>⟨rfl,rfl,he⟩
 | d ::r,e,env,s,he=>by
   show Ew (Qk d.2.3 d.2.2 cf cv cp e s (fun v s=>Qo v fun v=>(fun e=>fY d.4 cf cv cp e s (PO r cf cv cp e s)) (J1 d.2.1 v e)) (fun v s=>some (.BL v,⟨0,[]⟩,s))) _;rw[N9 he d.2.1];show Ew (fin (GZ cf cv cp d.o env s) _ _) _;simp only[Mk];cases GZ cf cv cp d.o env s with
   | none=>trivial
   | some p=>
     obtain⟨x,s'⟩:=p;cases x with
     | BL v=>exact⟨rfl,rfl,Gc.nil⟩
     | ret v=>
       show Ew (Qo v fun v=>fY d.4 cf cv cp (J1 d.2.1 v e) s' (PO r cf cv cp (J1 d.2.1 v e) s')) (F3 v _);rw[Sx,Fp,Vb cf cv cp (he.push d.2.1 v)];show Ew (bif Xd cf cv cp d.re (put d.o.dst v env) s' then _ else none) (bif Xd cf cv cp d.re (put d.o.dst v env) s' then _ else none);cases Xd cf cv cp d.re (put d.o.dst v env) s' with
       | false=>trivial
       | true=>exact P0 cf cv cp r s' (he.push d.2.1 v)
def Mg (l:List Nat):Nat:=@List.rec Nat (fun _=>Nat) 0 (fun n _ ih=>Nat.lor ih (Nat.shiftLeft 1 n)) l
def JS (l:List Nat) (e:Bo):Bo:=⟨Nat.land e.1 (Mg l),e.2⟩
def PU: ∀(l:List Nat) (n:Nat),Kb (Mg l) n=l.any fun k=>Nat.beq k n
 | [],n=>by rw[Hn];exact Nat.zero_testBit n
 | k::r,n=>by
   show Kb (Nat.lor (Mg r) (Nat.shiftLeft 1 k)) n=_;rw[LN,PU r n,aR,Bool.or_comm]
def I7: ∀(l:List Nat) (env:Env) (n:Nat),get n (prune l env)=bif l.any (fun k=>Nat.beq k n)then get n env else none
 | [],env,n=>rfl
 | k ::r,env,n=>by
   have ih:=I7 r env n;simp only[prune,aR];cases hk:Nat.beq k n with
   | true=>
     have:=Oe hk;subst this;cases hg:get k env with
     | none=>
       simp only;rw[ih,hg];cases(r.any fun j=>Nat.beq j k)<;>rfl
     | some v=>simp[get,hk]
   | false=>
     simp only[Bool.false_or];cases hg:get k env with
     | none=>exact ih
     | some v=>
       simp only[get,hk,cond_false];exact ih
def Gc.prune {e:Bo} {env:Env} (he:Gc e env) (l:List Nat):Gc (JS l e) (Gl.prune l env):=fun n=>by
 show(bif Kb (Nat.land e.1 (Mg l)) n then get n e.2 else none)=_
 have:Kb (Nat.land e.1 (Mg l)) n=(Kb e.1 n&&Kb (Mg l) n):=by
  rw[Hn,Hn,Hn];exact Nat.testBit_and _ _ _
 rw[this,I7,<-he n,Nh,PU];cases Kb e.1 n<;>cases(l.any fun k=>Nat.beq k n)<;>rfl
def Ov (l:List Nat) (e:Bo) (K:Env->AZ):AZ:=@List.rec Nat (fun _=>Bo->(Env->AZ)->AZ) (fun _ K=>K [])
 (fun n _ ih e K=>@Bool.rec (fun _=>AZ) (ih e K) (@List.rec (Nat×V) (fun _=>Nat->AZ->(V->AZ)->AZ) (fun _ x _=>x) (fun p _ ih n x K=>@Bool.rec (fun _=>AZ) (ih n x K) (K p.2) (Nat.beq p.1 n)) e.2 n (ih e K) (fun v=>ih e fun r=>K ((n,v)::r))) (Kb e.1 n)) l e K
def YD (env:Env) (n:Nat) (x:AZ) (K:V->AZ): @List.rec (Nat×V) (fun _=>Nat->AZ->(V->AZ)->AZ) (fun _ x _=>x) (fun p _ ih n x K=>@Bool.rec (fun _=>AZ) (ih n x K) (K p.2) (Nat.beq p.1 n)) env n x K=match get n env with|some v=>K v|none=>x:=by
 induction env with
 | nil=>rfl
 | cons p r ih=>
   obtain⟨j,v⟩:=p;show @Bool.rec (fun _=>AZ) _ (K v) (Nat.beq j n)=match(bif Nat.beq j n then some v else get n r)with|some v=>K v|none=>x
   cases Nat.beq j n
   .exact ih
   .rfl
def Kj {e:Bo} {env:Env} (he:Gc e env): ∀(l:List Nat) (K:Env->AZ),Ov l e K=K (Gl.prune l env)
 | [],K=>rfl
 | n ::r,K=>by
   show @Bool.rec (fun _=>AZ) (Ov r e K) (@List.rec (Nat×V) (fun _=>Nat->AZ->(V->AZ)->AZ) (fun _ x _=>x) (fun p _ ih n x K=>@Bool.rec (fun _=>AZ) (ih n x K) (K p.2) (Nat.beq p.1 n)) e.2 n (Ov r e K) (fun v=>Ov r e fun r=>K ((n,v)::r))) (Kb e.1 n)=_;rw[YD,Kj he r];simp only[Kj he r,Gl.prune];rw[<-he n,Nh];cases Kb e.1 n with
   | false=>rfl
   | true=>
     simp only[cond_true];cases get n e.2<;>rfl
def GM (env:Env):Nat:=@List.rec (Nat×V) (fun _=>Nat) 0 (fun p _ ih=>Nat.lor ih (Nat.shiftLeft 1 p.1)) env
def Mq: ∀(env:Env) (n:Nat),Kb (GM env) n=(get n env).isSome
 | [],n=>by rw[Hn];exact Nat.zero_testBit n
 | (k,v)::r,n=>by
   show Kb (Nat.lor (GM r) (Nat.shiftLeft 1 k)) n=_;rw[LN,Mq r n];simp only[get];cases Nat.beq k n<;>simp
def Gc.of (env:Env):Gc ⟨GM env,env⟩ env:=fun n=>by
 show(bif Kb (GM env) n then get n env else none)=_;rw[Mq];cases get n env<;>rfl
abbrev IH:=AK->Bo->St->AZ
def Md (r:AZ) (K:Bo->St->AZ):AZ:=@Option.rec (AR×Bo×St) (fun _=>(Bo->St->AZ)->AZ) (fun _=>none) (fun p K=>@AR.rec (fun _=>Bo->St->(AR×Bo×St)->(Bo->St->AZ)->AZ) (fun env s _ K=>K env s) (fun _ _ _ p _=>some p) (fun _ _ p _=>some p) (fun _ _ _ p _=>some p) p.1 p.2.1 p.2.2 p K) r K
def gw (r:Rs) (K':Env->St->Rs):Rs:=match r with|some (.normal,env,s)=>K' env s|r=>r
def Jj {r:AZ} {r':Rs} (h:Ew r r') {K:Bo->St->AZ} {K':Env->St->Rs} (U: ∀e env s,Gc e env->Ew (K e s) (K' env s)):Ew (Md r K) (gw r' K'):=by
 cases r with
 | none=>cases r' with|none=>trivial|some p=>exact h.elim
 | some p=>
   cases r' with
   | none=>exact h.elim
   | some p'=>
     obtain⟨x,e,s⟩:=p;obtain⟨x',env,s'⟩:=p';obtain⟨rfl,rfl,he⟩:=h;cases x with
     | normal=>exact U e env s he
     | exit id=>exact⟨rfl,rfl,he⟩
     | ret=>exact⟨rfl,rfl,he⟩
     | BL v=>exact⟨rfl,rfl,he⟩
def K0 (s:St) (e:Bo):List RS->Option (List V)
 | []=>some []
 | .t n::r=>ob (Nh e n) fun v=>ob (K0 s e r) fun vs=>some (v::vs)
 | .c n g::r=>ob (Nh e n) fun a=>ob (J6 s g a) fun v=>ob (K0 s e r) fun vs=>some (v::vs)
def SJ (AH:List RS) (r:AZ):Option (R×St):=
 match r with
 | some (.normal,env,s)=>ob (K0 s env AH) fun vs=>some (.ret (DR vs),s)
 | some (.ret,env,s)=>ob (K0 s env AH) fun vs=>some (.ret (DR vs),s)
 | some (.BL v,_,s)=>some (.BL v,s)
 | _=>none
def PI (tab:HS) (ih:IH) (g:FuncId) (cap:List V) (m:Option V) (AH:List RS) (env:Bo) (s:St):Option (R×St):=
 match tab g with
 | some (.aX n k ops ac l)=>bif Nat.ble cap.length n then
  match ih (.seq l (.Bh ops) ac) ⟨GM (put (some k) (m.getD .C0) (Al 0 cap)),put (some k) (m.getD .C0) (Al 0 cap)⟩ s with
  | some (.normal,_,s')=>ob (K0 s' env AH) fun vs=>some (.ret (DR vs),s')
  | some (.ret,_,s')=>ob (K0 s' env AH) fun vs=>some (.ret (DR vs),s')
  | _=>none
   else none
 | some (.fm n ac)=>match m with
   | some _=>none
   | none=>bif Nat.ble cap.length n then
     match ih ac ⟨GM (Al 0 cap),Al 0 cap⟩ s with
     | some (.normal,_,s')=>ob (K0 s' env AH) fun vs=>some (.ret (DR vs),s')
     | some (.ret,_,s')=>ob (K0 s' env AH) fun vs=>some (.ret (DR vs),s')
     | _=>none
   else none
 | _=>none
def N4 (tab:HS) (ih:IH) (f:FuncId) (vs:List V) (s:St):Option (R×St):=
 match tab f with
 | some (.fn n ac AH)=>bif Nat.ble vs.length n then SJ AH (ih ac ⟨GM (Al 0 vs),Al 0 vs⟩ s)else none
 | some (.Zh n aA ops x aC AH l1 l2)=>bif Nat.ble vs.length n then
  match ih (.seq l1 aA (.Bh ops)) ⟨GM (Al 0 vs),Al 0 vs⟩ s with
  | some (.normal,env,s1)=>match(match x with| .t n=>Nh env n| .c v=>bif A2 v then some v else none)with
    | some (.f (.func g) [] cap)=>match ih aC (JS l2 env) s1 with
      | some (.normal,env2,s2)=>PI tab ih g cap none AH env2 s2
      | some (.ret,env2,s2)=>PI tab ih g cap none AH env2 s2
      | some (.BL v,env2,s2)=>PI tab ih g cap (some v) AH env2 s2
      | _=>none
    | _=>none
  | _=>none
   else none
 | some (.fp n ac AH)=>bif Nat.ble vs.length n then bF (SJ AH (ih ac ⟨GM (Al 0 vs),Al 0 vs⟩ s))else none
 | some (.TZ c)=>c vs s
 | _=>none
def D0 (tab:HS) (memo:Dh) (ih:IH):CF:=fun f vs s=>
 match memo f with
 | []=>N4 tab ih f vs s
 | m::r=>match PH vs (m::r)with
   | some v=>some (.ret v,s)
   | none=>N4 tab ih f vs s
def HA (tab:HS) (memo:Dh) (ih:IH):CV:=fun x vs s=>
 match x with
 | .f (.func f) first cap=>D0 tab memo ih f (first++vs++cap) s
 | .f (.yield L) [] []=>match s.t.get L with
   | some (.loop .ready env ps a b)=>bif Nat.beq vs.length ps.length then
    Tr.put none Am s.t L fun t=>match ih a ⟨GM (Dq ps vs env),Dq ps vs env⟩ ⟨s.nx,t⟩with
    | some (.normal,env1,s1)=>match ih b env1 s1 with
      | some (.normal,_,s2)=>Tr.put (some (.loop .ready env ps a b)) Am s2.t L fun t=>some (.ret (.b true),⟨s2.nx,t⟩)
      | some (.ret,_,s2)=>Tr.put (some (.loop .ret env ps a b)) Am s2.t L fun t=>some (.ret (.b false),⟨s2.nx,t⟩)
      | some (.exit id,_,s2)=>Tr.put (some (.loop (.exit id) env ps a b)) Am s2.t L fun t=>some (.ret (.b false),⟨s2.nx,t⟩)
      | some (.BL v,_,s2)=>some (.BL v,s2)
      | none=>none
    | _=>none
     else none
   | _=>none
 | _=>none
def Hv (tab:HS) (memo:Dh) (ih:IH):CP:=fun f vs=>
 bif Bi vs then match D0 tab memo ih f vs ⟨0,.leaf⟩with
  | some (.ret v,s)=>match HR s Oy v with
    | some u=>bif A2 u then some u else none
    | none=>none
  | _=>none
 else none
abbrev SK:=HS->Dh->IH->Bo->St->AZ
def Va (c : AK):SK:=@AK.rec (fun _=>SK)
 (fun _ _ _ env s=>some (.normal,env,s))
 (fun ops tab memo ih env s=>U7 ops (D0 tab memo ih) (HA tab memo ih) (Hv tab memo ih) env s)
 (fun l ops tab memo ih env s=>Md (PO ops (D0 tab memo ih) (HA tab memo ih) (Hv tab memo ih) env s) fun env s=>some (.normal,JS l env,s))
 (fun l a b _ _ _ _ ih env s=>Md (ih a env s) fun env s=>ih b (JS l env) s)
 (fun c a b _ _ _ _ ih env s=>BV c env fun v=>Zi v fun t=>@Bool.rec (fun _=>AZ) (ih b env s) (ih a env s) t)
 (fun id a _ tab memo ih env s=>match ih a env s with
  | some (.exit id',env',s')=>bif Nat.beq id' id then some (.normal,env',s')else some (.exit id',env',s')
  | r=>r)
 (fun l a _ _ _ ih env s=>Ov l env fun E=>Md (ih a ⟨GM E,E⟩ s) fun env s=>ih (.loop l a) env s)
 (fun id _ _ _ env s=>some (.exit id,env,s))
 (fun _ _ _ env s=>some (.ret,env,s))
 (fun a _ _ _ ih env s=>ih a env s)
 (fun l g ps a b _ _ tab memo ih env s=>BV g env fun v=>match v with
  | .f (.func gf) [] cap=>Ov l env fun E=>s.new (.loop .ready E ps a b) fun i s1=>
   match D0 tab memo ih gf (.f (.yield i) [] []::cap) s1 with
   | some (.ret _,s2)=>match s2.t.get i with
     | some (.loop st _ _ _ _)=>Tr.put none Am s2.t i fun t=>some ((match st with| .ready=> .normal| .ret=> .ret| .exit id=> .exit id),env,⟨s2.nx,t⟩)
     | _=>none
   | some (.BL v,s2)=>match s2.t.get i with
     | some _=>Tr.put none Am s2.t i fun t=>some (.BL v,env,⟨s2.nx,t⟩)
     | none=>none
   | none=>none
  | _=>none) c
def runK (tab:HS) (memo:Dh) (n:Nat):IH:=@Nat.rec (fun _=>IH) (fun _ _ _=>none) (fun _ ih c env s=>Va c tab memo ih env s) n
def Qt (ihm:IH) (ih:AK->Env->St->Rs):Prop:= ∀c {e env} s,Gc e env->Ew (ihm c e s) (ih c env s)
def Ic {s:St} {e:Bo} {env:Env} (he:Gc e env): ∀l:List RS,K0 s e l=SA s env l
 | []=>rfl
 | .t n::r=>by simp only[K0,SA,he n,Ic he r]
 | .c n g::r=>by simp only[K0,SA,he n,Ic he r]
def Py {AH:List RS} {r:AZ} {r':Rs} (h:Ew r r'):SJ AH r=Td AH r':=by
 cases r with
 | none=>cases r' with|none=>rfl|some p=>exact h.elim
 | some p=>
   cases r' with
   | none=>exact h.elim
   | some p'=>
     obtain⟨x,e,s⟩:=p;obtain⟨x',env,s'⟩:=p';obtain⟨rfl,rfl,he⟩:=h;cases x<;>first|rfl|simp only[SJ,Td,Ic he]
def XA {tab : HS} {ihm:IH} {ih:AK->Env->St->Rs} (hi:Qt ihm ih) {g:FuncId} {cap:List V} {m:Option V} {AH:List RS} {e:Bo} {env:Env} (he:Gc e env) (s:St):PI tab ihm g cap m AH e s=Qp tab ih g cap m AH env s:=by
 unfold PI Qp;cases tab g with
 | none=>rfl
 | some fs =>
   cases fs<;>first|rfl|skip
   .rename_i n k ops ac l
    simp only;have:=hi (.seq l (.Bh ops) ac) s (Gc.of (put (some k) (m.getD .C0) (Al 0 cap)))
    revert this
    cases ihm (.seq l (.Bh ops) ac) _ s with
    | none=>cases ih (.seq l (.Bh ops) ac) _ s with|none=>intro _;rfl|some p=>intro h;exact h.elim
    | some p=>
      cases ih (.seq l (.Bh ops) ac) _ s with
      | none=>intro h;exact h.elim
      | some p'=>
        obtain⟨x,e1,s1⟩:=p;obtain⟨x',env1,s1'⟩:=p';rintro⟨rfl,rfl,he1⟩;cases x<;>simp only[Ic he]
   .rename_i n ac
    cases m with
    | some v=>rfl
    | none=>
      simp only;have:=hi ac s (Gc.of (Al 0 cap))
      revert this
      cases ihm ac _ s with
      | none=>cases ih ac _ s with|none=>intro _;rfl|some p=>intro h;exact h.elim
      | some p=>
        cases ih ac _ s with
        | none=>intro h;exact h.elim
        | some p'=>
          obtain⟨x,e1,s1⟩:=p;obtain⟨x',env1,s1'⟩:=p';rintro⟨rfl,rfl,he1⟩;cases x<;>simp only[Ic he]
def Ui {tab : HS} {ihm:IH} {ih:AK->Env->St->Rs} (hi:Qt ihm ih) (f:FuncId) (vs:List V) (s:St):N4 tab ihm f vs s=Ml tab ih f vs s:=by
 unfold N4 Ml;cases tab f with
 | none=>rfl
 | some fs =>
   cases fs with
   | aX n k ops ac l=>rfl
   | TZ c=>rfl
   | fm n ac=>rfl
   | fn n ac AH=>simp only;rw[Py (hi ac s (Gc.of (Al 0 vs)))]
   | fp n ac AH=>simp only;rw[Py (hi ac s (Gc.of (Al 0 vs)))]
   | Zh n aA ops x aC AH l1 l2=>
     simp only;have:=hi (.seq l1 aA (.Bh ops)) s (Gc.of (Al 0 vs))
     revert this
     cases ihm (.seq l1 aA (.Bh ops)) _ s with
     | none=>cases ih (.seq l1 aA (.Bh ops)) _ s with|none=>intro _;rfl|some p=>intro h;exact h.elim
     | some p=>
       cases ih (.seq l1 aA (.Bh ops)) _ s with
       | none=>intro h;exact h.elim
       | some p'=>
         obtain⟨x1,e1,s1⟩:=p;obtain⟨x1',env1,s1'⟩:=p';rintro⟨rfl,rfl,he1⟩;cases x1<;>first|rfl|skip
         simp only;have hx:(match x with| .t n=>Nh e1 n| .c v=>bif A2 v then some v else none)=Cd env1 x:=by cases x<;>first|exact he1 _|rfl
         rw[hx];cases Cd env1 x with
         | none=>rfl
         | some v=>
           cases v<;>first|rfl|skip
           rename_i fn first cap
           cases fn<;>first|rfl|skip
           cases first<;>first|rfl|skip
           simp only;have:=hi aC s1 (he1.prune l2)
           revert this
           cases ihm aC (JS l2 e1) s1 with
           | none=>cases ih aC (Gl.prune l2 env1) s1 with|none=>intro _;rfl|some p=>intro h;exact h.elim
           | some p=>
             cases ih aC (Gl.prune l2 env1) s1 with
             | none=>intro h;exact h.elim
             | some p'=>
               obtain⟨x2,e2,s2⟩:=p;obtain⟨x2',env2,s2'⟩:=p';rintro⟨rfl,rfl,he2⟩;cases x2<;>simp only[XA hi he2]
def Es {tab:HS} {memo:Dh} {ihm:IH} {ih:AK->Env->St->Rs} (hi:Qt ihm ih):D0 tab memo ihm=FO tab memo ih:=by
 funext f vs s;unfold D0 FO;simp only[Ui hi];rfl
def L7 {tab : HS} {memo:Dh} {ihm:IH} {ih:AK->Env->St->Rs} (hi:Qt ihm ih):HA tab memo ihm=Jd tab memo ih:=by
 funext x vs s;unfold HA Jd;rw[Es hi];cases x<;>first|rfl|skip
 rename_i fn first cap
 cases fn<;>first|rfl|skip
 cases first<;>first|rfl|skip
 cases cap<;>first|rfl|skip
 rename_i L;simp only;cases s.t.get L with
 | none=>rfl
 | some o=>
   cases o<;>first|rfl|skip
   rename_i st env ps a b;cases st<;>first|rfl|skip
   simp only;congr 2;funext t;have:=hi a ⟨s.nx,t⟩ (Gc.of (Dq ps vs env))
   revert this
   cases ihm a _ ⟨s.nx,t⟩with
   | none=>cases ih a _ ⟨s.nx,t⟩with|none=>intro _;rfl|some p=>intro h;exact h.elim
   | some p=>
     cases ih a _ ⟨s.nx,t⟩with
     | none=>intro h;exact h.elim
     | some p'=>
       obtain⟨x1,e1,s1⟩:=p;obtain⟨x1',env1,s1'⟩:=p';rintro⟨rfl,rfl,he1⟩;cases x1<;>first|rfl|skip
       simp only;have:=hi b s1 he1
       revert this
       cases ihm b e1 s1 with
       | none=>cases ih b env1 s1 with|none=>intro _;rfl|some p=>intro h;exact h.elim
       | some p=>
         cases ih b env1 s1 with
         | none=>intro h;exact h.elim
         | some p'=>
           obtain⟨x2,e2,s2⟩:=p;obtain⟨x2',env2,s2'⟩:=p';rintro⟨rfl,rfl,he2⟩;cases x2<;>rfl
def Jw {tab:HS} {memo:Dh} {ihm:IH} {ih:AK->Env->St->Rs} (hi:Qt ihm ih):Hv tab memo ihm=LA tab memo ih:=by
 funext f vs;unfold Hv LA;rw[Es hi];rfl
def WV {tab : HS} {memo:Dh} {ihm:IH} {ih:AK->Env->St->Rs} (hi:Qt ihm ih) (c:AK) {e:Bo} {env:Env} (s:St) (he:Gc e env):Ew (Va c tab memo ihm e s) (GO tab memo ih c env s):=by
 cases c with
 | skip=>exact⟨rfl,rfl,he⟩
 | ret=>exact⟨rfl,rfl,he⟩
 | exit id=>exact⟨rfl,rfl,he⟩
 | scope a=>exact hi a s he
 | Bh ops=>
   show Ew (U7 ops (D0 tab memo ihm) (HA tab memo ihm) (Hv tab memo ihm) e s) _;rw[Es hi,L7 hi,Jw hi];exact Sl _ _ _ ops s he
 | DH l ops=>
   show Ew (Md (PO ops (D0 tab memo ihm) (HA tab memo ihm) (Hv tab memo ihm) e s) fun env s=>some (.normal,JS l env,s)) _;rw[Es hi,L7 hi,Jw hi];exact Jj (K':=fun env s=>some (.normal,Gl.prune l env,s)) (P0 _ _ _ ops s he) fun _ _ s he=>⟨rfl,rfl,he.prune l⟩
 | seq l a b=>exact Jj (K':=fun env s=>ih b (Gl.prune l env) s) (hi a s he) fun _ _ s he=>hi b s (he.prune l)
 | cond c a b=>
   show Ew (BV c e fun v=>Zi v fun t=>@Bool.rec (fun _=>AZ) (ihm b e s) (ihm a e s) t) _;rw[Ay he];simp only[GO];cases Cd env c with
   | none=>trivial
   | some v=>
     cases v<;>first|trivial|skip
     rename_i t;cases t
     .exact hi b s he
     .exact hi a s he
 | block id a=>
   have:=hi a s he;show Ew (match ihm a e s with|some (.exit id',env',s')=>bif Nat.beq id' id then some (.normal,env',s')else some (.exit id',env',s')|r=>r) (match ih a env s with|some (.exit id',env',s')=>bif Nat.beq id' id then some (.normal,env',s')else some (.exit id',env',s')|r=>r)
   revert this
   cases ihm a e s with
   | none=>cases ih a env s with|none=>intro _;trivial|some p=>intro h;exact h.elim
   | some p=>
     cases ih a env s with
     | none=>intro h;exact h.elim
     | some p'=>
       obtain⟨x1,e1,s1⟩:=p;obtain⟨x1',env1,s1'⟩:=p';rintro⟨rfl,rfl,he1⟩;cases x1 with
       | exit id'=>
         simp only;cases Nat.beq id' id<;>exact⟨rfl,rfl,he1⟩
       | normal=>exact⟨rfl,rfl,he1⟩
       | ret=>exact⟨rfl,rfl,he1⟩
       | BL v=>exact⟨rfl,rfl,he1⟩
 | loop l a=>
   show Ew (Ov l e fun E=>Md (ihm a ⟨GM E,E⟩ s) fun env s=>ihm (.loop l a) env s) _;rw[Kj he];exact Jj (K':=fun env s=>ih (.loop l a) env s) (hi a s (Gc.of _)) fun _ _ s he=>hi (.loop l a) s he
 | Co l g ps a b=>
   show Ew (BV g e fun v=>match v with
   | .f (.func gf) [] cap=>Ov l e fun E=>s.new (.loop .ready E ps a b) fun i s1=>
    match D0 tab memo ihm gf (.f (.yield i) [] []::cap) s1 with
    | some (.ret _,s2)=>match s2.t.get i with
      | some (.loop st _ _ _ _)=>Tr.put none Am s2.t i fun t=>some ((match st with| .ready=> .normal| .ret=> .ret| .exit id=> .exit id),e,⟨s2.nx,t⟩)
      | _=>none
    | some (.BL v,s2)=>match s2.t.get i with
      | some _=>Tr.put none Am s2.t i fun t=>some (.BL v,e,⟨s2.nx,t⟩)
      | none=>none
    | none=>none
   | _=>none) _
   rw[Ay he,Es hi];simp only[GO];cases Cd env g with
   | none=>trivial
   | some v=>
     cases v<;>first|trivial|skip
     rename_i fn first cap
     cases fn<;>first|trivial|skip
     cases first<;>first|trivial|skip
     rename_i gf;simp only[ob];rw[Kj he]
     have hnew: ∀ {β γ:Type} (o:EO) (f:Nat->St->Option β) (g:Nat->St->Option γ) (Rl:Option β->Option γ->Prop),Rl none none->(∀i s,Rl (f i s) (g i s))->Rl (s.new o f) (s.new o g):=fun {β γ} o f g Rl h0 h1=>by
      obtain⟨n,t⟩:=s;cases n with
      | zero=>simp only[St.new];rw[Tr.put_eq,Tr.put_eq];exact h1 _ _
      | succ n=>
        simp only[St.new];rw[Tr.put_eq,Tr.put_eq];cases Nat.ble (n+1) JK
        .exact h0
        .exact h1 _ _
     refine hnew _ _ _ Ew trivial fun i s1=>?_
     cases FO tab memo ih gf (.f (.yield i) [] []::cap) s1 with
     | none=>trivial
     | some p=>
       obtain⟨x,s2⟩:=p;cases x with
       | ret v=>
         simp only;cases s2.t.get i with
         | none=>trivial
         | some o=>
           cases o<;>first|trivial|skip
           simp only;rw[Tr.put_eq,Tr.put_eq];exact⟨rfl,rfl,he⟩
       | BL v=>
         simp only;cases s2.t.get i with
         | none=>trivial
         | some o=>
           simp only;rw[Tr.put_eq,Tr.put_eq];exact⟨rfl,rfl,he⟩
def Sb (tab:HS) (memo:Dh): ∀n:Nat,Qt (runK tab memo n) (run tab memo n)
 | 0=>fun _ _ _ _ _=>trivial
 | n+1=>fun c _ _ s he=>WV (Sb tab memo n) c s he
def Xp (tab:HS) (memo:Dh) (n:Nat) (f:FuncId) (vs:List V) (v:V):Bool:=
 match Hv tab memo (runK tab memo n) f vs with
 | some u=>DS u v
 | none=>false
def M1 {tab:HS} (ht:IT P tab) {memo:Dh} (hm:FP P memo) {n:Nat} {f:FuncId} {vs:List V} {v:V} (h:Xp tab memo n f vs v=true):Bi vs=true/\A2 v=true/\Pure P f vs v:=by
 unfold Xp at h;rw[Jw (Sb tab memo n)]at h;exact QI ht hm h
def an (t:Tr NZ):HS:=fun f=>Tc t f
def SY {t:Tr NZ} (h:SQ (fun i=>Ga P i) id t):IT P (an t):=fun f fs e=>h f fs ((OM t f).symm.trans e)
def bJ (m:Dh) (f:FuncId) (a:List V) (v:V):Dh:=fun g=>@Bool.rec (fun _=>List (List V×V)) (m g) ((a,v)::m g) (Nat.beq f g)
def Zb {m:Dh} (h:FP P m) {f:FuncId} {a:List V} {v:V} (h1:Bi a=true/\A2 v=true/\Pure P f a v):FP P (bJ m f a v):=fun g e he=>by
 unfold bJ at he;cases hb:Nat.beq f g with
 | false=>rw[hb]at he;exact h g e he
 | true=>
   rw[hb]at he;have:=CE hb;subst this;rcases HV.1 he with rfl|he
   .exact h1
   .exact h f e he
end Go.Gl
