import Derived.Test.YtijbpgdmpejgoaaGreatQ22
set_option linter.all false
set_option linter.unusedVariables false
set_option linter.unusedSimpArgs false
namespace Go.Gl
variable {P:Program}
structure B9 where
 M:Nat
 E:Env
abbrev Ai:=Option (Ae×B9×St)
theorem JM {α β:Type} (c:Bool) (x:Option α) (g:α→Option β):ob (bif c then x else none) g=bif c then ob x g else none:=by cases c<;>rfl
noncomputable def dK (env:Env) (n:Nat) (K:V→Ai):Ai:=@List.rec (Nat×V) (fun _=>Nat→(V→Ai)→Ai) (fun _ _=>none) (fun p _ ih n K=>@Bool.rec (fun _=>Ai) (ih n K) (K p.2) (Nat.beq p.1 n)) env n K
theorem fK (env:Env) (n:Nat) (K:V→Ai):dK env n K=ob (get n env) K:=by
 induction env with
 | nil=>rfl
 | cons p r ih=>
   obtain⟨j,v⟩:=p;show @Bool.rec (fun _=>Ai) (dK r n K) (K v) (Nat.beq j n)=ob (bif Nat.beq j n then some v else get n r) K;cases Nat.beq j n
   ·exact ih
   ·rfl
noncomputable def QM {α:Type} (cs:List α) (i:Nat) (K:α→Ai):Ai:=@List.rec α (fun _=>Nat→(α→Ai)→Ai) (fun _ _=>none) (fun v _ ih i K=>@Nat.rec (fun _=>Ai) (K v) (fun j _=>ih j K) i) cs i K
theorem Jz {α:Type} (cs:List α): ∀(i:Nat) (K:α→Ai),QM cs i K=ob cs[i]? K:=by
 induction cs with
 | nil=>intro i K;rfl
 | cons v r ih=>
   intro i K;cases i with
   | zero=>rfl
   | succ j=>exact ih j K
noncomputable def FZ {α:Type} (cs:List α):Nat:=@List.rec α (fun _=>Nat) 0 (fun _ _ ih=>Nat.succ ih) cs
theorem Ej {α:Type} (cs:List α):FZ cs=cs.length:=by
 induction cs with
 | nil=>rfl
 | cons v r ih=>show Nat.succ (FZ r)=_;rw[ih];rfl
noncomputable def SZ {α:Type} (cs:List α) (n:Nat):List α:=@Nat.rec (fun _=>List α→List α) (fun cs=>cs) (fun _ ih cs=>@List.rec α (fun _=>(List α→List α)→List α) (fun _=>[]) (fun _ r _ ih=>ih r) cs ih) n cs
theorem Nt {α:Type}: ∀(n:Nat) (cs:List α),SZ cs n=cs.drop n
 | 0,cs=>rfl
 | n+1,[]=>rfl
 | n+1,v::r=>Nt n r
noncomputable def V9 {α:Type} (cs:List α) (n:Nat):List α:=@List.rec α (fun _=>Nat→List α) (fun _=>[]) (fun v _ ih n=>@Nat.rec (fun _=>List α) [] (fun j _=>v::ih j) n) cs n
theorem bL {α:Type} (cs:List α): ∀n:Nat,V9 cs n=cs.take n:=by
 induction cs with
 | nil=>intro n;cases n<;>rfl
 | cons v r ih=>
   intro n;cases n with
   | zero=>rfl
   | succ j=>show v::V9 r j=_;rw[ih];rfl
noncomputable def UX {α:Type} (cs:List α) (n:Nat) (x:α):List α:=@List.rec α (fun _=>Nat→α→List α) (fun _ _=>[]) (fun v r ih n x=>@Nat.rec (fun _=>List α) (x::r) (fun j _=>v::ih j x) n) cs n x
theorem Q1 {α:Type} (cs:List α) (x:α): ∀n:Nat,UX cs n x=cs.set n x:=by
 induction cs with
 | nil=>intro n;rfl
 | cons v r ih=>
   intro n;cases n with
   | zero=>rfl
   | succ j=>show v::UX r j x=_;rw[ih];rfl
noncomputable def rT {α:Type} (f:α→Bool) (cs:List α):Bool:=@List.rec α (fun _=>(α→Bool)→Bool) (fun _=>true) (fun v _ ih f=>@Bool.rec (fun _=>Bool) false (ih f) (f v)) cs f
theorem kA {α:Type} (f:α→Bool) (cs:List α):rT f cs=cs.all f:=by
 induction cs with
 | nil=>rfl
 | cons v r ih=>
   show @Bool.rec (fun _=>Bool) false (rT f r) (f v)=_;rw[List.all_cons,ih];cases f v<;>rfl
noncomputable def aX (v:V) (K:V→Ai):Ai:=@V.rec (fun _=>V→(V→Ai)→Ai) (fun _=>Unit) (fun _=>Unit) (fun _ v K=>K v) (fun _ _ v K=>K v) (fun _ v K=>K v) (fun v K=>K v) (fun _ _ v K=>@Bool.rec (fun _=>Ai) none (K v) (Aq v)) (fun _ _ v K=>@Bool.rec (fun _=>Ai) none (K v) (Aq v)) (fun _ _ _ v K=>@Bool.rec (fun _=>Ai) none (K v) (Aq v)) (fun _ _ _ v K=>@Bool.rec (fun _=>Ai) none (K v) (Aq v)) (fun _ _ _ _ v K=>@Bool.rec (fun _=>Ai) none (K v) (Aq v)) (fun _ _ _ _ v K=>@Bool.rec (fun _=>Ai) none (K v) (Aq v)) (fun _ v K=>@Bool.rec (fun _=>Ai) none (K v) (Aq v)) (fun v K=>K v) (fun _ _ _ _ _ v K=>@Bool.rec (fun _=>Ai) none (K v) (Aq v)) (fun v K=>K v) (fun _ _ _ v K=>@Bool.rec (fun _=>Ai) none (K v) (Aq v)) (fun v K=>K v) (fun _ _ v K=>@Bool.rec (fun _=>Ai) none (K v) (Aq v)) (fun _ _ v K=>@Bool.rec (fun _=>Ai) none (K v) (Aq v)) (fun v K=>@Bool.rec (fun _=>Ai) none (K v) (Aq v)) () (fun _ _ _ _=>()) () (fun _ _ _ _=>()) v v K
theorem BL {α:Type} (c:Bool) (x y:α): @Bool.rec (fun _=>α) y x c=bif c then x else y:=by cases c<;>rfl
theorem Yo (v:V) (K:V→Ai):aX v K=ob (bif Aq v then some v else none) K:=by
 rw[JM];cases v<;>first|rfl|exact BL _ _ _
noncomputable def Ma (M n:Nat):Bool:=Nat.beq (Nat.land (Nat.shiftRight M n) 1) 1
noncomputable def QT (e:B9) (n:Nat):Option V:=bif Ma e.1 n then get n e.2 else none
def Hg (e:B9) (env:Env):Prop:= ∀n,QT e n=get n env
noncomputable def Bp (x:Bj) (e:B9) (K:V→Ai):Ai:=@Bj.rec (fun _=>B9→(V→Ai)→Ai) (fun n e K=>@Bool.rec (fun _=>Ai) none (dK e.2 n K) (Ma e.1 n)) (fun v _ K=>aX v K) x e K
theorem A8 {e:B9} {env:Env} (he:Hg e env) (x:Bj) (K:V→Ai):Bp x e K=ob (DL env x) K:=by
 cases x with
 | t n=>
   show @Bool.rec (fun _=>Ai) none (dK e.2 n K) (Ma e.1 n)=ob (get n env) K;rw[←he n,QT,BL,JM,fK]
 | c v=>exact Yo v K
noncomputable def Jo (l:List Bj) (env:B9) (K:List V→Ai):Ai:=@List.rec Bj (fun _=>B9→(List V→Ai)→Ai) (fun _ K=>K []) (fun x _ ih env K=>Bp x env fun v=>ih env fun vs=>K (v::vs)) l env K
theorem Bm {e:B9} {env:Env} (he:Hg e env): ∀(l:List Bj) (K:List V→Ai),Jo l e K=ob (MQ env l) K
 | [],K=>rfl
 | x ::r,K=>by
   show(Bp x e fun v=>Jo r e fun vs=>K (v::vs))=_;rw[A8 he];simp only[MQ];cases DL env x with
   | none=>rfl
   | some v=>
     simp only[ob];rw[Bm he r];cases MQ env r<;>rfl
noncomputable def Uc (x:Option Bj) (e:B9) (K:Option V→Ai):Ai:=@Option.rec Bj (fun _=>B9→(Option V→Ai)→Ai) (fun _ K=>K none) (fun x e K=>Bp x e fun v=>K (some v)) x e K
theorem Bw {e:B9} {env:Env} (he:Hg e env) (x:Option Bj) (K:Option V→Ai):Uc x e K=ob (JE env x) K:=by
 cases x with
 | none=>rfl
 | some x=>
   show(Bp x e fun v=>K (some v))=_;rw[A8 he];simp only[JE];cases DL env x<;>rfl
noncomputable def wm (k:IntKind):Nat:=@IntKind.rec (fun _=>Nat) 0 1 2 3 4 5 6 7 k
noncomputable def K0 (a b:IntKind):Bool:=Nat.beq (wm a) (wm b)
theorem jh (a b:IntKind):K0 a b=decide (a=b):=by cases a<;>cases b<;>rfl
noncomputable def xq (a b:Int):Int:=@Int.rec (fun _=>Int→Int) (fun m b=>@Int.rec (fun _=>Nat→Int) (fun n m=>Int.ofNat (Nat.add m n)) (fun n m=>Int.ofNat m+Int.negSucc n) b m) (fun m b=>Int.negSucc m+b) a b
theorem kE (a b:Int):xq a b=a+b:=by cases a<;>cases b<;>rfl
noncomputable def wW (a b:Int):Int:=@Int.rec (fun _=>Int→Int) (fun m b=>@Int.rec (fun _=>Nat→Int) (fun n m=>@Bool.rec (fun _=>Int) (Int.negSucc (Nat.sub n (Nat.succ m))) (Int.ofNat (Nat.sub m n)) (Nat.ble n m)) (fun n m=>Int.ofNat m - Int.negSucc n) b m) (fun m b=>Int.negSucc m - b) a b
theorem dg (a b:Int):wW a b=a - b:=by
 cases a with
 | negSucc m=>rfl
 | ofNat m=>
   cases b with
   | negSucc n=>rfl
   | ofNat n=>
     show @Bool.rec (fun _=>Int) (Int.negSucc (n - (m+1))) (Int.ofNat (m - n)) (Nat.ble n m)=_;cases h:Nat.ble n m with
     | true=>
       have:=Nat.le_of_ble_eq_true h;show Int.ofNat (m - n)=(m:Int) - (n:Int);simp only[Int.ofNat_eq_natCast];omega
     | false=>
       have: ¬n≤m:=fun h'=>by rw[Nat.ble_eq_true_of_le h']at h;cases h
       show Int.negSucc (n - (m+1))=(m:Int) - (n:Int);omega
noncomputable def Y6 (a b:Int):Bool:=@Int.rec (fun _=>Int→Bool) (fun m b=>@Int.rec (fun _=>Nat→Bool) (fun n m=>Nat.ble (Nat.succ m) n) (fun _ _=>false) b m) (fun m b=>@Int.rec (fun _=>Nat→Bool) (fun _ _=>true) (fun n m=>Nat.ble (Nat.succ n) m) b m) a b
theorem Qd (a b:Int):Y6 a b=Kx a b:=by cases a<;>cases b<;>rfl
noncomputable def eqI (a b:Int):Bool:=@Int.rec (fun _=>Int→Bool) (fun m b=>@Int.rec (fun _=>Nat→Bool) (fun n m=>Nat.beq m n) (fun _ _=>false) b m) (fun m b=>@Int.rec (fun _=>Nat→Bool) (fun _ _=>false) (fun n m=>Nat.beq m n) b m) a b
theorem tj (a b:Int):eqI a b=XY a b:=by cases a<;>cases b<;>rfl
noncomputable def QN (b:Bool):Bool:=@Bool.rec (fun _=>Bool) true false b
theorem eX (b:Bool):QN b= !b:=by cases b<;>rfl
noncomputable def ZD (a:Int):Nat:=@Int.rec (fun _=>Nat) (fun n=>n) (fun _=>0) a
theorem NR (a:Int):ZD a=a.toNat:=by cases a<;>rfl
noncomputable def V8 (k:IntKind) (n:Int):Int:=@IntKind.rec (fun _=>Int→Int) (fun n=>IntKind.i8.wrap n) (fun n=>IntKind.i16.wrap n) (fun n=>IntKind.i32.wrap n)
 (fun n=>@Int.rec (fun _=>Int) (fun m=>@Bool.rec (fun _=>Int) (IntKind.i64.wrap (Int.ofNat m)) (Int.ofNat m) (Nat.ble m 9223372036854775807)) (fun m=>@Bool.rec (fun _=>Int) (IntKind.i64.wrap (Int.negSucc m)) (Int.negSucc m) (Nat.ble m 9223372036854775807)) n)
 (fun n=>IntKind.u8.wrap n) (fun n=>IntKind.u16.wrap n) (fun n=>IntKind.u32.wrap n)
 (fun n=>@Int.rec (fun _=>Int) (fun m=>@Bool.rec (fun _=>Int) (IntKind.u64.wrap (Int.ofNat m)) (Int.ofNat m) (Nat.ble m 18446744073709551615)) (fun m=>IntKind.u64.wrap (Int.negSucc m)) n) k n
theorem bD (k:IntKind) (n:Int):V8 k n=k.wrap n:=by
 cases k<;>try rfl
 ·cases n with
  | ofNat m=>
    have:=Hw .i64 (.ofNat m);simp only[HS]at this;rw[←this];show @Bool.rec (fun _=>Int) _ _ _=_;cases Nat.ble m 9223372036854775807<;>rfl
  | negSucc m=>
    show @Bool.rec (fun _=>Int) (IntKind.i64.wrap (Int.negSucc m)) (Int.negSucc m) (Nat.ble m 9223372036854775807)=_;cases h:Nat.ble m 9223372036854775807 with
    | false=>rfl
    | true=>
      have:=Nat.le_of_ble_eq_true h;show Int.negSucc m=_;exact(wrap64 (by omega) (by omega)).symm
 ·cases n with
  | ofNat m=>
    have:=Hw .u64 (.ofNat m);simp only[HS]at this;rw[←this];show @Bool.rec (fun _=>Int) _ _ _=_;cases Nat.ble m 18446744073709551615<;>rfl
  | negSucc m=>rfl
noncomputable def wX (k:IntKind) (a b:Int):Int:=@Int.rec (fun _=>Int→IntKind→Int) (fun m b _=>Int.ofNat (Nat.shiftRight m (Nat.min (ZD b) k.bits))) (fun m b k=>(Int.negSucc m).fdiv (2 ^ (min b.toNat k.bits))) a b k
theorem dk (k:IntKind) (a b:Int):wX k a b=a.fdiv (2 ^ (min b.toNat k.bits)):=by
 cases a with
 | negSucc m=>rfl
 | ofNat m=>
   show Int.ofNat (m >>> (min (ZD b) k.bits))=_;rw[NR,Nat.shiftRight_eq_div_pow];have:(2:Int) ^ (min b.toNat k.bits)=((2 ^ (min b.toNat k.bits):Nat):Int):=by simp
   rw[this];exact(Int.ofNat_fdiv _ _)
noncomputable def wY (k:IntKind) (a b:Int):Int:=@Int.rec (fun _=>Int→IntKind→Int) (fun m b _=>Int.ofNat (Nat.shiftLeft m (Nat.min (ZD b) k.bits))) (fun m b k=>(Int.negSucc m)*(2 ^ (min b.toNat k.bits))) a b k
theorem dm (k:IntKind) (a b:Int):wY k a b=a*(2 ^ (min b.toNat k.bits)):=by
 cases a with
 | negSucc m=>rfl
 | ofNat m=>
   show Int.ofNat (m <<< (min (ZD b) k.bits))=_;rw[NR,Nat.shiftLeft_eq];simp
noncomputable def asI (v:V) (K:IntKind→Int→Ai):Ai:=@V.rec (fun _=>(IntKind→Int→Ai)→Ai) (fun _=>Unit) (fun _=>Unit) (fun _ K=>none) (fun k n K=>K k n) (fun _ K=>none) (fun K=>none) (fun _ _ K=>none) (fun _ _ K=>none) (fun _ _ _ K=>none) (fun _ _ _ K=>none) (fun _ _ _ _ K=>none) (fun _ _ _ _ K=>none) (fun _ K=>none) (fun K=>none) (fun _ _ _ _ _ K=>none) (fun K=>none) (fun _ _ _ K=>none) (fun K=>none) (fun _ _ K=>none) (fun _ _ K=>none) (fun K=>none) () (fun _ _ _ _=>()) () (fun _ _ _ _=>()) v K
def isI:V→Option (IntKind×Int)| .i k n=>some (k,n)|_=>none
theorem U8 (v:V) (K:IntKind→Int→Ai):asI v K=ob (isI v) fun p=>K p.1 p.2:=by cases v<;>rfl
noncomputable def dY (op:BinOp) (vx vy:V) (K:V→Ai):Ai:=asI vx fun ka a=>asI vy fun kb b=>@BinOp.rec (fun _=>IntKind→Int→IntKind→Int→(V→Ai)→Ai) (fun ka a kb b K=>@Bool.rec (fun _=>Ai) none (K (.i ka (V8 ka (xq a b)))) (K0 ka kb)) (fun ka a kb b K=>@Bool.rec (fun _=>Ai) none (K (.i ka (V8 ka (wW a b)))) (K0 ka kb)) (fun ka a kb b K=>ob (SD .mul (.i ka a) (.i kb b)) K) (fun ka a kb b K=>ob (SD .quo (.i ka a) (.i kb b)) K) (fun ka a kb b K=>ob (SD .rem (.i ka a) (.i kb b)) K) (fun ka a kb b K=>@Bool.rec (fun _=>Ai) none (K (.i ka (NP .and ka a b))) (K0 ka kb)) (fun ka a kb b K=>@Bool.rec (fun _=>Ai) none (K (.i ka (NP .or ka a b))) (K0 ka kb)) (fun ka a kb b K=>@Bool.rec (fun _=>Ai) none (K (.i ka (NP .xor ka a b))) (K0 ka kb)) (fun ka a kb b K=>@Bool.rec (fun _=>Ai) none (K (.i ka (V8 ka (wY ka a b)))) (QN (Y6 b 0))) (fun ka a kb b K=>@Bool.rec (fun _=>Ai) none (K (.i ka (wX ka a b))) (QN (Y6 b 0))) (fun ka a kb b K=>@Bool.rec (fun _=>Ai) none (K (.i ka (NP .andNot ka a b))) (K0 ka kb)) (fun ka a kb b K=>@Bool.rec (fun _=>Ai) none (K (.b (eqI a b))) (K0 ka kb)) (fun ka a kb b K=>@Bool.rec (fun _=>Ai) none (K (.b (QN (eqI a b)))) (K0 ka kb)) (fun ka a kb b K=>@Bool.rec (fun _=>Ai) none (K (.b (Y6 a b))) (K0 ka kb)) (fun ka a kb b K=>@Bool.rec (fun _=>Ai) none (K (.b (QN (Y6 b a)))) (K0 ka kb)) (fun ka a kb b K=>@Bool.rec (fun _=>Ai) none (K (.b (Y6 b a))) (K0 ka kb)) (fun ka a kb b K=>@Bool.rec (fun _=>Ai) none (K (.b (QN (Y6 a b)))) (K0 ka kb)) op ka a kb b K
theorem j6 (op:BinOp) (vx vy:V) (K:V→Ai):dY op vx vy K=ob (SD op vx vy) K:=by
 unfold dY;rw[U8];cases vx<;>first|rfl|skip
 rename_i ka a;simp only[isI,ob];rw[U8];cases vy<;>first|(cases op<;>rfl)|skip
 rename_i kb b;simp only[isI,ob];cases op<;>first|rfl|skip
 all_goals
  simp only[SD];simp only[BL,jh,bD,kE,dg,tj,Qd,eX,dm,dk,Hw,Mv,ob]
  first
   | (cases decide (ka=kb)<;>rfl)
   | (cases Kx b 0<;>rfl)
noncomputable def Xe {α:Type} (t:Tr α) (k:Nat):Option α:=@Tr.rec α (fun _=>Nat→Option α) (fun _=>none) (fun o _ _ ihl ihr k=>@Nat.rec (fun _=>Option α) o (fun j _=>@Bool.rec (fun _=>Option α) (ihr (Nat.div j 2)) (ihl (Nat.div j 2)) (Nat.beq (Nat.mod j 2) 0)) k) t k
theorem RI {α:Type} (t:Tr α): ∀k:Nat,Xe t k=t.get k:=by
 induction t with
 | leaf=>intro k;rfl
 | node o l r ihl ihr=>
   intro k;cases k with
   | zero=>rfl
   | succ j=>
     show @Bool.rec (fun _=>Option α) (Xe r (j / 2)) (Xe l (j / 2)) (Nat.beq (j % 2) 0)=bif Nat.beq (j % 2) 0 then l.get (j / 2)else r.get (j / 2);rw[ihl,ihr];cases Nat.beq (j % 2) 0<;>rfl
noncomputable def QI {α β:Type} (x:Option α) (d:Nat) (t:Tr α) (k:Nat) (K:Tr α→β):β:=
 @Nat.rec (fun _=>Tr α→Nat→(Tr α→β)→β) (fun t _ K=>K t)
  (fun _ ih t k K=>@Tr.rec α (fun _=>Nat→(Tr α→β)→β)
   (fun k K=>@Nat.rec (fun _=>β) (K (.node x .leaf .leaf)) (fun j _=>@Bool.rec (fun _=>β) (ih .leaf (Nat.div j 2) fun r=>K (.node none .leaf r)) (ih .leaf (Nat.div j 2) fun l=>K (.node none l .leaf)) (Nat.beq (Nat.mod j 2) 0)) k)
   (fun o l r _ _ k K=>@Nat.rec (fun _=>β) (K (.node x l r)) (fun j _=>@Bool.rec (fun _=>β) (ih r (Nat.div j 2) fun r=>K (.node o l r)) (ih l (Nat.div j 2) fun l=>K (.node o l r)) (Nat.beq (Nat.mod j 2) 0)) k) t k K) d t k K
theorem Fz {α β:Type} (x:Option α): ∀(d:Nat) (t:Tr α) (k:Nat) (K:Tr α→β),QI x d t k K=Tr.put x d t k K
 | 0,t,k,K=>rfl
 | d+1,.leaf,0,K=>rfl
 | d+1,.node _ _ _,0,K=>rfl
 | d+1,.leaf,j+1,K=>by
   show @Bool.rec (fun _=>β) (QI x d .leaf (j / 2) fun r=>K (.node none .leaf r)) (QI x d .leaf (j / 2) fun l=>K (.node none l .leaf)) (Nat.beq (j % 2) 0)=bif Nat.beq (j % 2) 0 then _ else _;rw[Fz x d,Fz x d,BL]
 | d+1,.node o l r,j+1,K=>by
   show @Bool.rec (fun _=>β) (QI x d r (j / 2) fun r=>K (.node o l r)) (QI x d l (j / 2) fun l=>K (.node o l r)) (Nat.beq (j % 2) 0)=bif Nat.beq (j % 2) 0 then _ else _;rw[Fz x d,Fz x d,BL]
noncomputable def ZS (s:St) (o:EO) (K:Nat→St→Ai):Ai:=@Nat.rec (fun _=>Ai) (QI (some o) BA s.t 0 fun t=>K 0 ⟨1,t⟩) (fun n _=>@Bool.rec (fun _=>Ai) none (QI (some o) BA s.t (Nat.succ n) fun t=>K (Nat.succ n) ⟨Nat.succ (Nat.succ n),t⟩) (Nat.ble (Nat.succ n) Kz)) s.nx
theorem ec {γ:Type} (s:St) (o:EO) (f:Nat→St→Option γ) (K:γ→Ai):ob (s.new o f) K=ZS s o fun i s'=>ob (f i s') K:=by
 obtain⟨n,t⟩:=s;cases n with
 | zero=>
   unfold ZS;simp only[St.new];rw[Fz,Tr.put_eq,Tr.put_eq];rfl
 | succ n=>
   unfold ZS;simp only[St.new];rw[Fz,Tr.put_eq,Tr.put_eq,BL,JM]
noncomputable def yG (o:EO) (K:List V→Ai):Ai:=@EO.rec (fun _=>(List V→Ai)→Ai) (fun vs K=>K vs) (fun _ _ _=>none) (fun _ _=>none) (fun _ _ _ _ _ _=>none) o K
noncomputable def r8 (o:EO) (K:Nat→List (List V)→Ai):Ai:=@EO.rec (fun _=>(Nat→List (List V)→Ai)→Ai) (fun _ _=>none) (fun sz es K=>K sz es) (fun _ _=>none) (fun _ _ _ _ _ _=>none) o K
noncomputable def obQ {α:Type} (o:Option α) (K:α→Ai):Ai:=@Option.rec α (fun _=>(α→Ai)→Ai) (fun _=>none) (fun a K=>K a) o K
theorem Z8 {α:Type} (o:Option α) (K:α→Ai):obQ o K=ob o K:=by cases o<;>rfl
noncomputable def WL (s:St) (n:Nat) (K:List V→Ai):Ai:=obQ (Xe s.t n) fun o=>yG o K
noncomputable def Qi (s:St) (n:Nat) (K:Nat→List (List V)→Ai):Ai:=obQ (Xe s.t n) fun o=>r8 o K
theorem TH (s:St) (n:Nat) (K:List V→Ai):WL s n K=match s.t.get n with|some (.cs vs)=>K vs|_=>none:=by
 unfold WL;rw[Z8,RI];cases s.t.get n with
 | none=>rfl
 | some o=>cases o<;>rfl
theorem Pp (s:St) (n:Nat) (K:Nat→List (List V)→Ai):Qi s n K=match s.t.get n with|some (.arr sz es)=>K sz es|_=>none:=by
 unfold Qi;rw[Z8,RI];cases s.t.get n with
 | none=>rfl
 | some o=>cases o<;>rfl
noncomputable def Ui (agg:Option Nat) (cs:List V) (off:Nat) (K:V→Ai):Ai:=@Option.rec Nat (fun _=>List V→Nat→(V→Ai)→Ai) (fun cs off K=>QM cs off K)
 (fun n cs off K=>@Bool.rec (fun _=>Ai) (@Bool.rec (fun _=>Ai) none (K (.a (V9 (SZ cs off) n))) (Nat.ble (Nat.add off n) (FZ cs))) (K (.a cs)) (@Bool.rec (fun _=>Bool) false (Nat.beq n (FZ cs)) (Nat.beq off 0))) agg cs off K
theorem Mp (agg:Option Nat) (cs:List V) (off:Nat) (K:V→Ai):Ui agg cs off K=ob (SA agg cs off) K:=by
 cases agg with
 | none=>exact Jz cs off K
 | some n=>
   show @Bool.rec (fun _=>Ai) (@Bool.rec (fun _=>Ai) none (K (.a (V9 (SZ cs off) n))) (Nat.ble (off+n) (FZ cs))) (K (.a cs)) (@Bool.rec (fun _=>Bool) false (Nat.beq n (FZ cs)) (Nat.beq off 0))=_;simp only[SA];rw[bL,Nt,Ej,JM];cases h1:Nat.beq off 0 with
   | false=>exact BL _ _ _
   | true=>
     cases h2:Nat.beq n cs.length with
     | false=>exact BL _ _ _
     | true=>
       have:=Ci h1;subst this;have:=Ci h2;subst this;show K (.a cs)=_;rw[Nat.ble_eq_true_of_le (by omega)];simp[ob]
noncomputable def Zi (s:St) (agg:Option Nat) (x:V) (K:V→Ai):Ai:=@V.rec (fun _=>St→Option Nat→(V→Ai)→Ai) (fun _=>Unit) (fun _=>Unit) (fun _ s agg K=>none) (fun _ _ s agg K=>none) (fun _ s agg K=>none) (fun s agg K=>none) (fun n off s agg K=>WL s n fun vs=>Ui agg vs off K) (fun cs _ s agg K=>Ui agg cs 0 K) (fun _ _ _ s agg K=>none) (fun _ _ _ s agg K=>none) (fun _ _ _ _ s agg K=>none) (fun n sz i off s agg K=>Qi s n fun sz1 es=>@Bool.rec (fun _=>Ai) none (QM es i fun e=>Ui agg e off K) (Nat.beq sz sz1)) (fun _ s agg K=>none) (fun s agg K=>none) (fun _ _ _ _ _ s agg K=>none) (fun s agg K=>none) (fun _ _ _ s agg K=>none) (fun s agg K=>none) (fun _ _ s agg K=>none) (fun _ _ s agg K=>none) (fun s agg K=>none) () (fun _ _ _ _=>()) () (fun _ _ _ _=>()) x s agg K
theorem bn (s:St) (agg:Option Nat) (x:V) (K:V→Ai):Zi s agg x K=ob (Lz s agg x) K:=by
 cases x<;>first|rfl|skip
 ·rename_i n off
  refine(TH _ _ _).trans ?_;simp only[Lz];cases s.t.get n with
  | none=>rfl
  | some o=>cases o<;>first|rfl|exact Mp _ _ _ _
 ·exact Mp _ _ _ _
 ·rename_i n sz i off
  refine(Pp _ _ _).trans ?_;simp only[Lz];cases s.t.get n with
  | none=>rfl
  | some o=>
    cases o<;>first|rfl|skip
    rename_i sz1 es;simp only;rw[BL,JM,Jz];congr 1;cases es[i]? with
    | none=>rfl
    | some e=>exact Mp _ _ _ _
noncomputable def GG (v:V) (K:List V→Ai):Ai:=@V.rec (fun _=>V→(List V→Ai)→Ai) (fun _=>Unit) (fun _=>Unit) (fun _ v K=>K [v]) (fun _ _ v K=>K [v]) (fun _ v K=>K [v]) (fun v K=>K [v]) (fun _ _ v K=>K [v]) (fun _ _ v K=>K [v]) (fun _ _ _ v K=>K [v]) (fun _ _ _ v K=>K [v]) (fun _ _ _ _ v K=>K [v]) (fun _ _ _ _ v K=>K [v]) (fun _ v K=>K [v]) (fun v K=>K [v]) (fun _ _ _ _ _ v K=>K [v]) (fun v K=>K [v]) (fun _ _ _ v K=>K [v]) (fun v K=>K [v]) (fun cs _ v K=>K cs) (fun _ _ v K=>none) (fun v K=>none) () (fun _ _ _ _=>()) () (fun _ _ _ _=>()) v v K
theorem G1 (v:V) (K:List V→Ai):GG v K=ob (cellsOf v) K:=by cases v<;>rfl
noncomputable def wa (v:V):Bool:=@V.rec (fun _=>Bool) (fun _=>Unit) (fun _=>Unit) (fun _=>true) (fun _ _=>true) (fun _=>true) (true) (fun _ _=>true) (fun _ _=>true) (fun _ _ _=>true) (fun _ _ _=>true) (fun _ _ _ _=>true) (fun _ _ _ _=>true) (fun _=>true) (true) (fun _ _ _ _ _=>true) (true) (fun _ _ _=>true) (true) (fun _ _=>false) (fun _ _=>false) (false) () (fun _ _ _ _=>()) () (fun _ _ _ _=>()) v
theorem eV:wa=B7:=funext fun v=>by cases v<;>rfl
noncomputable def ZM (cs:List V) (o:Nat) (vc:List V):List V:=@List.rec V (fun _=>List V→Nat→List V) (fun cs _=>cs) (fun v _ ih cs o=>ih (UX cs o v) (Nat.succ o)) vc cs o
theorem Mi: ∀(vc cs:List V) (o:Nat),ZM cs o vc=putAt cs o vc
 | [],_,_=>rfl
 | v::r,cs,o=>by
   show ZM (UX cs o v) (o+1) r=_;rw[Mi r,Q1];rfl
noncomputable def dI (cs:List V) (o:Nat) (vc:List V):List V:=@Bool.rec (fun _=>List V) (ZM cs o vc) vc (@Bool.rec (fun _=>Bool) false (Nat.beq (FZ vc) (FZ cs)) (Nat.beq o 0))
theorem X3: ∀(vc pre cs:List V),vc.length=cs.length→putAt (pre++cs) pre.length vc=pre++vc:=by
 intro vc
 induction vc with
 | nil=>intro pre cs hl;cases cs with
   | nil=>rfl
   | cons _ _=>cases hl
 | cons x vc ih=>
   intro pre cs hl;cases cs with
   | nil=>cases hl
   | cons y cs=>
     simp only[putAt];rw[List.set_append_right _ _ (Nat.le_refl _),Nat.sub_self,List.set_cons_zero];have:=ih (pre++[x]) cs (by simpa using hl);simp only[UE,Mu,List.length_nil,Nat.zero_add,UR,List.singleton_append]at this;exact this
theorem Wf (cs:List V) (o:Nat) (vc:List V):dI cs o vc=putAt cs o vc:=by
 unfold dI;cases h1:Nat.beq o 0 with
 | false=>exact Mi vc cs o
 | true=>
   rw[Ej,Ej];cases h2:Nat.beq vc.length cs.length with
   | false=>exact Mi vc cs o
   | true=>
     have:=Ci h1;subst this;exact(X3 vc [] cs (Ci h2)).symm
noncomputable def Zz (s:St) (sz:Nat) (a:V) (vc:List V) (K:St→Ai):Ai:=@V.rec (fun _=>St→Nat→List V→(St→Ai)→Ai) (fun _=>Unit) (fun _=>Unit) (fun _ s sz vc K=>none) (fun _ _ s sz vc K=>none) (fun _ s sz vc K=>none) (fun s sz vc K=>none) (fun n off s sz vc K=>WL s n fun vs=>@Bool.rec (fun _=>Ai) none (QI (some (.cs (dI vs off vc))) BA s.t n fun t=>K ⟨s.nx,t⟩) (Nat.ble (Nat.add off sz) (FZ vs))) (fun _ _ s sz vc K=>none) (fun _ _ _ s sz vc K=>none) (fun _ _ _ s sz vc K=>none) (fun _ _ _ _ s sz vc K=>none) (fun n s' i off s sz vc K=>Qi s n fun s1 es=>@Bool.rec (fun _=>Ai) none (@Bool.rec (fun _=>Ai) none (QM es i fun e=>QI (some (.arr s1 (UX es i (dI e off vc)))) BA s.t n fun t=>K ⟨s.nx,t⟩) (Nat.ble (Nat.add off sz) s')) (Nat.beq s' s1)) (fun _ s sz vc K=>none) (fun s sz vc K=>none) (fun _ _ _ _ _ s sz vc K=>none) (fun s sz vc K=>none) (fun _ _ _ s sz vc K=>none) (fun s sz vc K=>none) (fun _ _ s sz vc K=>none) (fun _ _ s sz vc K=>none) (fun s sz vc K=>none) () (fun _ _ _ _=>()) () (fun _ _ _ _=>()) a s sz vc K
noncomputable def QX (s:St) (sz:Nat) (a x:V) (K:St→Ai):Ai:=GG x fun vc=>@Bool.rec (fun _=>Ai) none (@Bool.rec (fun _=>Ai) none (Zz s sz a vc K) (rT wa vc)) (Nat.beq (FZ vc) sz)
theorem Xo (s : St) (sz:Nat) (a x:V) (K:St→Ai):QX s sz a x K=ob (NU s sz a x) K:=by
 unfold QX NU;rw[G1];cases cellsOf x with
 | none=>rfl
 | some vc =>
   simp only[ob,Ej,kA,eV];cases Nat.beq vc.length sz with
   | false=>rfl
   | true=>
     cases vc.all B7 with
     | false=>rfl
     | true=>
       simp only[Bool.and_true,cond_true];show Zz s sz a vc K=_;cases a<;>first|rfl|skip
       ·rename_i n off
        refine(TH _ _ _).trans ?_;simp only;cases s.t.get n with
        | none=>rfl
        | some o=>
          cases o<;>first|rfl|skip
          rename_i vs;simp only;rw[Fz,Tr.put_eq,Wf,Ej,BL,Tr.put_eq];show(bif Nat.ble (off+sz) vs.length then _ else none)=_;cases Nat.ble (off+sz) vs.length<;>rfl
       ·rename_i n s' i off
        refine(Pp _ _ _).trans ?_;simp only;cases s.t.get n with
        | none=>rfl
        | some o=>
          cases o<;>first|rfl|skip
          rename_i s1 es;simp only;rw[BL,BL,Jz];show(bif Nat.beq s' s1 then(bif Nat.ble (off+sz) s' then _ else none)else none)=_;cases Nat.beq s' s1<;>cases Nat.ble (off+sz) s'<;>try rfl
          simp only[cond_true,Bool.and_true];cases es[i]? with
          | none=>rfl
          | some e=>
            simp only[ob];rw[Fz,Tr.put_eq,Wf,Q1,Tr.put_eq]
noncomputable def U4 (off:Nat) (x:V) (K:V→Ai):Ai:=@V.rec (fun _=>Nat→(V→Ai)→Ai) (fun _=>Unit) (fun _=>Unit) (fun _ off K=>none) (fun _ _ off K=>none) (fun _ off K=>none) (fun off K=>none) (fun n o off K=>K (.p n (Nat.add o off))) (fun cs _ off K=>K (.rp (SZ cs off))) (fun _ _ _ off K=>none) (fun _ _ _ off K=>none) (fun _ _ _ _ off K=>none) (fun n sz i o off K=>K (.pe n sz i (Nat.add o off))) (fun _ off K=>none) (fun off K=>none) (fun _ _ _ _ _ off K=>none) (fun off K=>none) (fun _ _ _ off K=>none) (fun off K=>none) (fun _ _ off K=>none) (fun _ _ off K=>none) (fun off K=>none) () (fun _ _ _ _=>()) () (fun _ _ _ _=>()) x off K
theorem Yb (off:Nat) (x:V) (K:V→Ai):U4 off x K=ob (Qo off x) K:=by
 cases x<;>first|rfl|skip
 show K (.rp (SZ _ off))=_;rw[Nt];rfl
noncomputable def aI (sz:Nat) (x:V) (j:Int) (K:V→Ai):Ai:=@V.rec (fun _=>Nat→Int→(V→Ai)→Ai) (fun _=>Unit) (fun _=>Unit) (fun _ sz j K=>none) (fun _ _ sz j K=>none) (fun _ sz j K=>none) (fun sz j K=>none) (fun _ _ sz j K=>none) (fun _ _ sz j K=>none) (fun es _ _ sz j K=>QM es (ZD j) fun e=>@Bool.rec (fun _=>Ai) none (K (.rp e)) (Nat.beq (FZ e) sz)) (fun n len _ sz j K=>@Bool.rec (fun _=>Ai) none (K (.pe n sz (ZD j) 0)) (Y6 j (Int.ofNat len))) (fun n s off len sz j K=>@Bool.rec (fun _=>Ai) none (@Bool.rec (fun _=>Ai) none (K (.pe n sz (Nat.add off (ZD j)) 0)) (Y6 j (Int.ofNat len))) (Nat.beq s sz)) (fun _ _ _ _ sz j K=>none) (fun _ sz j K=>none) (fun sz j K=>none) (fun _ _ _ _ _ sz j K=>none) (fun sz j K=>none) (fun _ _ _ sz j K=>none) (fun sz j K=>none) (fun _ _ sz j K=>none) (fun _ _ sz j K=>none) (fun sz j K=>none) () (fun _ _ _ _=>()) () (fun _ _ _ _=>()) x sz j K
noncomputable def Uy (sz:Nat) (arr:Option Nat) (x i:V) (K:V→Ai):Ai:=@Option.rec Nat (fun _=>Nat→V→V→(V→Ai)→Ai) (fun sz x i K=>asI i fun _ j=>@Bool.rec (fun _=>Ai) (aI sz x j K) none (Y6 j 0)) (fun m sz x i K=>ob (LF sz (some m) x i) K) arr sz x i K
theorem YM (sz:Nat) (arr:Option Nat) (x i:V) (K:V→Ai):Uy sz arr x i K=ob (LF sz arr x i) K:=by
 cases arr with
 | some m=>rfl
 | none=>
   refine(U8 _ _).trans ?_;cases i<;>first|rfl|skip
   rename_i k j;simp only[isI,ob,LF,Mv,Qd];cases Kx j 0 with
   | true=>rfl
   | false=>
     show aI sz x j K=_;cases x<;>first|rfl|skip
     ·rename_i es full
      show QM es (ZD j) _=_;rw[Jz,NR];simp only[Bool.not_false,cond_true];cases es[j.toNat]? with
      | none=>rfl
      | some e=>
        simp only[ob,Ej];cases Nat.beq e.length sz<;>rfl
     ·rename_i n len cap
      show @Bool.rec (fun _=>Ai) none (K (.pe n sz (ZD j) 0)) (Y6 j (Int.ofNat len))=_;rw[NR,Qd];simp only[Bool.not_false,cond_true];have:Kx j (Int.ofNat len)=Kx j (len:Int):=rfl;rw[this];cases Kx j (len:Int)<;>rfl
     ·rename_i n s off len
      show @Bool.rec (fun _=>Ai) none (@Bool.rec (fun _=>Ai) none (K (.pe n sz (off+ZD j) 0)) (Y6 j (Int.ofNat len))) (Nat.beq s sz)=_;rw[NR,Qd];simp only[Bool.not_false,cond_true];have:Kx j (Int.ofNat len)=Kx j (len:Int):=rfl;rw[this];cases Nat.beq s sz<;>cases Kx j (len:Int)<;>rfl
noncomputable def rJ (x:V) (K:V→Ai):Ai:=@V.rec (fun _=>(V→Ai)→Ai) (fun _=>Unit) (fun _=>Unit) (fun _ K=>none) (fun _ _ K=>none) (fun _ K=>none) (fun K=>none) (fun _ _ K=>none) (fun _ _ K=>none) (fun es _ _ K=>K (.i .i64 (Int.ofNat (FZ es)))) (fun _ len _ K=>@Bool.rec (fun _=>Ai) none (K (.i .i64 (Int.ofNat len))) (Nat.ble len Ax)) (fun _ _ _ len K=>@Bool.rec (fun _=>Ai) none (K (.i .i64 (Int.ofNat len))) (Nat.ble len Ax)) (fun _ _ _ _ K=>none) (fun _ K=>none) (fun K=>none) (fun _ _ _ _ _ K=>none) (fun K=>none) (fun _ _ _ K=>none) (fun K=>none) (fun _ _ K=>none) (fun _ _ K=>none) (fun K=>none) () (fun _ _ _ _=>()) () (fun _ _ _ _=>()) x K
theorem ei (x:V) (K:V→Ai):rJ x K=ob (Xh x) K:=by
 cases x<;>first|rfl|skip
 ·show K (.i .i64 (Int.ofNat (FZ _)))=_
  rw[Ej];rfl
 ·show @Bool.rec (fun _=>Ai) none _ (Nat.ble _ Ax)=_
  rw[BL];simp only[Xh];rw[JM];rfl
 ·show @Bool.rec (fun _=>Ai) none _ (Nat.ble _ Ax)=_
  rw[BL];simp only[Xh];rw[JM];rfl
noncomputable def Uu (x:V) (K:V→Ai):Ai:=@V.rec (fun _=>V→(V→Ai)→Ai) (fun _=>Unit) (fun _=>Unit) (fun _ x K=>none) (fun _ _ x K=>none) (fun _ x K=>none) (fun x K=>none) (fun _ _ x K=>K x) (fun _ _ x K=>K x) (fun _ _ _ x K=>none) (fun _ _ _ x K=>none) (fun _ _ _ _ x K=>none) (fun _ _ _ _ x K=>K x) (fun _ x K=>none) (fun x K=>none) (fun _ _ _ _ _ x K=>ob (LD x) K) (fun x K=>none) (fun _ _ _ x K=>none) (fun x K=>none) (fun _ _ x K=>none) (fun _ _ x K=>none) (fun x K=>none) () (fun _ _ _ _=>()) () (fun _ _ _ _=>()) x x K
theorem YC (x:V) (K:V→Ai):Uu x K=ob (LD x) K:=by cases x<;>rfl
noncomputable def asT (v:V) (K:List V→Ai):Ai:=@V.rec (fun _=>(List V→Ai)→Ai) (fun _=>Unit) (fun _=>Unit) (fun _ K=>none) (fun _ _ K=>none) (fun _ K=>none) (fun K=>none) (fun _ _ K=>none) (fun _ _ K=>none) (fun _ _ _ K=>none) (fun _ _ _ K=>none) (fun _ _ _ _ K=>none) (fun _ _ _ _ K=>none) (fun _ K=>none) (fun K=>none) (fun _ _ _ _ _ K=>none) (fun K=>none) (fun _ _ _ K=>none) (fun K=>none) (fun _ _ K=>none) (fun vs _ K=>K vs) (fun K=>none) () (fun _ _ _ _=>()) () (fun _ _ _ _=>()) v K
noncomputable def kK (v:V) (K:Bool→Ai):Ai:=@V.rec (fun _=>(Bool→Ai)→Ai) (fun _=>Unit) (fun _=>Unit) (fun x K=>K x) (fun _ _ K=>none) (fun _ K=>none) (fun K=>none) (fun _ _ K=>none) (fun _ _ K=>none) (fun _ _ _ K=>none) (fun _ _ _ K=>none) (fun _ _ _ _ K=>none) (fun _ _ _ _ K=>none) (fun _ K=>none) (fun K=>none) (fun _ _ _ _ _ K=>none) (fun K=>none) (fun _ _ _ K=>none) (fun K=>none) (fun _ _ K=>none) (fun _ _ K=>none) (fun K=>none) () (fun _ _ _ _=>()) () (fun _ _ _ _=>()) v K
noncomputable def asA (v:V) (K:List V→Ai):Ai:=@V.rec (fun _=>(List V→Ai)→Ai) (fun _=>Unit) (fun _=>Unit) (fun _ K=>none) (fun _ _ K=>none) (fun _ K=>none) (fun K=>none) (fun _ _ K=>none) (fun _ _ K=>none) (fun _ _ _ K=>none) (fun _ _ _ K=>none) (fun _ _ _ _ K=>none) (fun _ _ _ _ K=>none) (fun _ K=>none) (fun K=>none) (fun _ _ _ _ _ K=>none) (fun K=>none) (fun _ _ _ K=>none) (fun K=>none) (fun cs _ K=>K cs) (fun _ _ K=>none) (fun K=>none) () (fun _ _ _ _=>()) () (fun _ _ _ _=>()) v K
noncomputable def Ug (v:V) (K:V→Ai):Ai:=@V.rec (fun _=>V→(V→Ai)→Ai) (fun _=>Unit) (fun _=>Unit) (fun x v K=>@Bool.rec (fun _=>Ai) (K (.b false)) (K (.b true)) x) (fun k n v K=>@Int.rec (fun _=>Ai) (fun m=>@Nat.rec (fun _=>Ai) (K (.i k (Int.ofNat 0))) (fun j _=>K (.i k (Int.ofNat (Nat.succ j)))) m) (fun m=>@Nat.rec (fun _=>Ai) (K (.i k (Int.negSucc 0))) (fun j _=>K (.i k (Int.negSucc (Nat.succ j)))) m) n) (fun _ v K=>K v) (fun v K=>K v) (fun _ _ v K=>K v) (fun _ _ v K=>K v) (fun _ _ _ v K=>K v) (fun _ _ _ v K=>K v) (fun _ _ _ _ v K=>K v) (fun _ _ _ _ v K=>K v) (fun _ v K=>K v) (fun v K=>K v) (fun _ _ _ _ _ v K=>K v) (fun v K=>K v) (fun _ _ _ v K=>K v) (fun v K=>K v) (fun _ _ v K=>K v) (fun _ _ v K=>K v) (fun v K=>K v) () (fun _ _ _ _=>()) () (fun _ _ _ _=>()) v v K
theorem W4 (v:V) (K:V→Ai):Ug v K=K v:=by
 cases v<;>first|rfl|skip
 ·rename_i x;cases x<;>rfl
 ·rename_i k n
  cases n with
  | ofNat m=>cases m<;>rfl
  | negSucc m=>cases m<;>rfl
def fin (o:Option (R×St)) (k kp:V→St→Ai):Ai:=match o with
 | some (.ret v,s)=>k v s
 | some (.Bi v,s)=>kp v s
 | none=>none
noncomputable def B8 (o:Option (R×St)) (k kp:V→St→Ai):Ai:=@Option.rec (R×St) (fun _=>(V→St→Ai)→(V→St→Ai)→Ai) (fun _ _=>none) (fun p k kp=>@R.rec (fun _=>St→(V→St→Ai)→(V→St→Ai)→Ai) (fun v s k _=>k v s) (fun v s _ kp=>kp v s) p.1 p.2 k kp) o k kp
theorem Bl (o:Option (R×St)) (k kp:V→St→Ai):B8 o k kp=fin o k kp:=by
 cases o with
 | none=>rfl
 | some p=>
   obtain⟨r,s⟩:=p;cases r<;>rfl
theorem GC (o:Option V) (s:St) (k kp:V→St→Ai):fin (ov o s) k kp=ob o fun v=>k v s:=by cases o<;>rfl
theorem ti (o:Option St) (k kp:V→St→Ai):fin (os o) k kp=ob o fun s=>k (.t []) s:=by cases o<;>rfl
theorem BS {α:Type} (o:Option α) (f:α→Option (R×St)) (k kp:V→St→Ai):fin (ob o f) k kp=ob o fun a=>fin (f a) k kp:=by cases o<;>rfl
abbrev OK:=CF→CV→CP→B9→St→(V→St→Ai)→(V→St→Ai)→Ai
noncomputable def Qk (e:B9) (ps:List (Nat×Nat×Bj)) (cs:List V) (K:List V→Ai):Ai:=@List.rec (Nat×Nat×Bj) (fun _=>List V→(List V→Ai)→Ai) (fun cs K=>K cs)
 (fun p _ ih cs K=>Bp p.2.2 e fun v=>GG v fun vc=>@Bool.rec (fun _=>Ai) none (@Bool.rec (fun _=>Ai) none (ih (ZM cs p.1 vc) K) (Nat.ble (Nat.add p.1 p.2.1) (FZ cs))) (Nat.beq (FZ vc) p.2.1)) ps cs K
theorem Pv {e:B9} {env:Env} (he:Hg e env): ∀(ps:List (Nat×Nat×Bj)) (cs:List V) (K:List V→Ai),Qk e ps cs K=ob (LG env cs ps) K
 | [],cs,K=>rfl
 | (off, sz,x)::r,cs,K=>by
   show(Bp x e fun v=>GG v fun vc=>@Bool.rec (fun _=>Ai) none (@Bool.rec (fun _=>Ai) none (Qk e r (ZM cs off vc) K) (Nat.ble (off+sz) (FZ cs))) (Nat.beq (FZ vc) sz))=_;rw[A8 he];simp only[LG];cases DL env x with
   | none=>rfl
   | some v=>
     simp only[ob];rw[G1];cases cellsOf v with
     | none=>rfl
     | some vc=>
       simp only[ob,Ej,Mi];cases Nat.beq vc.length sz with
       | false=>rfl
       | true=>
         cases Nat.ble (off+sz) cs.length with
         | false=>rfl
         | true=>exact Pv he r _ K
noncomputable def Ql (e:B9) (sz:Nat) (ps:List (Nat×Bj)) (es:List (List V)) (K:List (List V)→Ai):Ai:=@List.rec (Nat×Bj) (fun _=>List (List V)→(List (List V)→Ai)→Ai) (fun es K=>K es)
 (fun p _ ih es K=>Bp p.2 e fun v=>GG v fun vc=>@Bool.rec (fun _=>Ai) none (@Bool.rec (fun _=>Ai) none (ih (UX es p.1 vc) K) (Nat.ble (Nat.succ p.1) (FZ es))) (Nat.beq (FZ vc) sz)) ps es K
theorem Px {e:B9} {env:Env} (he:Hg e env) (sz:Nat): ∀(ps:List (Nat×Bj)) (es:List (List V)) (K:List (List V)→Ai),Ql e sz ps es K=ob (LH env sz es ps) K
 | [],es,K=>rfl
 | (i, x)::r,es,K=>by
   show(Bp x e fun v=>GG v fun vc=>@Bool.rec (fun _=>Ai) none (@Bool.rec (fun _=>Ai) none (Ql e sz r (UX es i vc) K) (Nat.ble (Nat.succ i) (FZ es))) (Nat.beq (FZ vc) sz))=_;rw[A8 he];simp only[LH];cases DL env x with
   | none=>rfl
   | some v=>
     simp only[ob];rw[G1];cases cellsOf v with
     | none=>rfl
     | some vc=>
       simp only[ob,Ej,Q1,Nat.blt,Nat.succ_eq_add_one];cases Nat.beq vc.length sz with
       | false=>rfl
       | true=>
         cases Nat.ble (i+1) es.length with
         | false=>rfl
         | true=>exact Px he sz r _ K
noncomputable def opK (o:EW):OK:=@EW.rec (fun _=>OK)
 (fun x cf cv cp env s kk kp=>Bp x env fun v=>kk v s)
 (fun x cf cv cp env s kk kp=>Bp x env fun v=>kk v s)
 (fun c a b cf cv cp env s kk kp=>Bp c env fun vc=>Bp a env fun va=>Bp b env fun vb=>kK vc fun t=>@Bool.rec (fun _=>Ai) (kk vb s) (kk va s) t)
 (fun op x y cf cv cp env s kk kp=>Bp x env fun vx=>Bp y env fun vy=>dY op vx vy fun v=>kk v s)
 (fun neg x y cf cv cp env s kk kp=>Bp x env fun vx=>Bp y env fun vy=>B8 (match vx,vy with| .b p,.b q=>some (.ret (.b (bif neg then p != q else p==q)),s)|_,_=>none) kk kp)
 (fun len neg x y cf cv cp env s kk kp=>Bp x env fun vx=>Bp y env fun vy=>B8 (ov (Za len neg vx vy) s) kk kp)
 (fun kind neg x cf cv cp env s kk kp=>Bp x env fun vx=>B8 (ov (ZZ kind neg vx) s) kk kp)
 (fun x cf cv cp env s kk kp=>Bp x env fun vx=>kK vx fun p=>kk (.b (QN p)) s)
 (fun xor x cf cv cp env s kk kp=>Bp x env fun vx=>B8 (match vx with| .i ka a=>some (.ret (.i ka (bif xor then bits .xor ka (bif ka.signed then -1 else ka.max) a else ka.wrap (0 - a))),s)|_=>none) kk kp)
 (fun k x cf cv cp env s kk kp=>Bp x env fun vx=>B8 (match vx with| .i _ a=>some (.ret (.i k (HS k a)),s)|_=>none) kk kp)
 (fun x cf cv cp env s kk kp=>Bp x env fun vx=>GG vx fun cs=>ZS s (.cs cs) fun i s=>kk (.p i 0) s)
 (fun x cf cv cp env s kk kp=>Bp x env fun vx=>GG vx fun cs=>kk (.rp cs) s)
 (fun sz bytes x y cf cv cp env s kk kp=>Bp x env fun vx=>Bp y env fun vy=>B8 (ov (SY bytes s sz vx vy) s) kk kp)
 (fun zero cf cv cp env s kk kp=>B8 (bif BK zero then s.new (.cs zero) fun i s=>some (.ret (.p i 0),s)else none) kk kp)
 (fun zero parts cf cv cp env s kk kp=>@Bool.rec (fun _=>Ai) none (Qk env parts zero fun cs=>kk (.a cs) s) (BK zero))
 (fun sz len zero parts cf cv cp env s kk kp=>@Bool.rec (fun _=>Ai) none (Ql env (FZ zero) parts (List.replicate len zero) fun es=>kk (.l es true) s) (BK zero))
 (fun agg x cf cv cp env s kk kp=>Bp x env fun vx=>Zi s agg vx fun v=>kk v s)
 (fun sz a x cf cv cp env s kk kp=>Bp a env fun va=>Bp x env fun vx=>QX s sz va vx fun s=>kk (.t []) s)
 (fun off x cf cv cp env s kk kp=>Bp x env fun vx=>U4 off vx fun v=>kk v s)
 (fun agg off x cf cv cp env s kk kp=>Bp x env fun vx=>asA vx fun cs=>Ui agg cs off fun v=>kk v s)
 (fun sz arr x i cf cv cp env s kk kp=>Bp x env fun vx=>Bp i env fun vi=>Uy sz arr vx vi fun v=>kk v s)
 (fun len sz agg x i cf cv cp env s kk kp=>Bp x env fun vx=>Bp i env fun vi=>B8 (ov (NW len sz agg vx vi) s) kk kp)
 (fun sz x lo hi mx cf cv cp env s kk kp=>Bp x env fun vx=>Uc lo env fun l=>Uc hi env fun h=>Uc mx env fun m=>B8 (XX (NV s sz vx l h m)) kk kp)
 (fun x cf cv cp env s kk kp=>Bp x env fun vx=>rJ vx fun v=>kk v s)
 (fun x cf cv cp env s kk kp=>Bp x env fun vx=>B8 (ov (SW s vx) s) kk kp)
 (fun x cf cv cp env s kk kp=>Bp x env fun vx=>B8 (ov (ZY s vx) s) kk kp)
 (fun x i cf cv cp env s kk kp=>Bp x env fun vx=>Bp i env fun vi=>B8 (ov (SV vx vi) s) kk kp)
 (fun sz bytes x y cf cv cp env s kk kp=>Bp x env fun vx=>Bp y env fun vy=>B8 (XX (J8 bytes s sz vx vy)) kk kp)
 (fun sz x y cf cv cp env s kk kp=>Bp x env fun vx=>Bp y env fun vy=>B8 (XX (SX s sz vx vy)) kk kp)
 (fun x y cf cv cp env s kk kp=>Bp x env fun vx=>Bp y env fun vy=>B8 (match vx,vy with| .i ka a,.i kb b=>bif decide (ka=kb)then some (.ret (.i ka (bif Kx a b then b else a)),s)else none|_,_=>none) kk kp)
 (fun x y cf cv cp env s kk kp=>Bp x env fun vx=>Bp y env fun vy=>B8 (match vx,vy with| .i ka a,.i kb b=>bif decide (ka=kb)then some (.ret (.i ka (bif Kx b a then b else a)),s)else none|_,_=>none) kk kp)
 (fun i x cf cv cp env s kk kp=>Bp x env fun vx=>asT vx fun vs=>QM vs i fun v=>kk v s)
 (fun x cf cv cp env s kk kp=>Bp x env fun vx=>Uu vx fun v=>kk v s)
 (fun f first cap cf cv cp env s kk kp=>Jo first env fun vf=>Jo cap env fun vc=>@Bool.rec (fun _=>Ai) none (kk (.f f vf vc) s) (K5 f))
 (fun cf cv cp env s kk kp=>B8 (s.new (.map []) fun i s=>some (.ret (.m i),s)) kk kp)
 (fun sz bytes zero len cap cf cv cp env s kk kp=>Bp len env fun vx=>Bp cap env fun vy=>B8 (XX (H0 s sz zero vx vy)) kk kp)
 (fun ks zero ok m k cf cv cp env s kk kp=>Bp m env fun vm=>Bp k env fun vk=>B8 (ov (J6 s ks zero ok vm vk) s) kk kp)
 (fun ks m k v cf cv cp env s kk kp=>Bp m env fun vm=>Bp k env fun vk=>Bp v env fun vx=>B8 (os (J5 s ks vm vk vx)) kk kp)
 (fun t x cf cv cp env s kk kp=>Bp x env fun vx=>kk (.ET t vx) s)
 (fun t zero ok x cf cv cp env s kk kp=>Bp x env fun vx=>B8 (ov (ZX t zero ok vx) s) kk kp)
 (fun x cf cv cp env s kk kp=>Bp x env fun vx=>B8 (match vx with| .ET t v=>some (.Bi (.ET t v),s)|_=>none) kk kp)
 (fun f args cf cv cp env s kk kp=>Jo args env fun vs=>B8 (cf f vs s) kk kp)
 (fun f args cf cv cp env s kk kp=>Jo args env fun vs=>B8 (ov (cp f vs) s) kk kp)
 (fun x args cf cv cp env s kk kp=>Bp x env fun vx=>Jo args env fun vs=>B8 (cv vx vs s) kk kp)
 (fun x args cf cv cp env s kk kp=>none)
 (fun tab x args cf cv cp env s kk kp=>Bp x env fun vx=>Jo args env fun vs=>B8 (match vx with| .ET t v=>ob (look t tab) fun f=>cf f (v::vs) s|_=>none) kk kp) o
theorem bX {vc va vb:V} {s:St} {kk kp:V→St→Ai}:kK vc (fun t=>@Bool.rec (fun _=>Ai) (kk vb s) (kk va s) t)=fin (match vc with| .b t=>some (.ret (bif t then va else vb),s)|_=>none) kk kp:=by
 cases vc<;>first|rfl|skip
 rename_i t;cases t<;>rfl
theorem not_eq {vx:V} {s:St} {kk kp:V→St→Ai}:kK vx (fun p=>kk (.b (QN p)) s)=fin (match vx with| .b p=>some (.ret (.b (!p)),s)|_=>none) kk kp:=by
 cases vx<;>first|rfl|skip
 rename_i t;cases t<;>rfl
theorem RP {c:Bool} {x:Option (R×St)} {kk kp:V→St→Ai}:fin (bif c then x else none) kk kp=bif c then fin x kk kp else none:=by cases c<;>rfl
theorem Z7 {e:B9} {env:Env} (he:Hg e env) (o:EW) (cf:CF) (cv:CV) (cp:CP) (s:St) (kk kp:V→St→Ai):opK o cf cv cp e s kk kp=fin (FC cf cv cp o env s) kk kp:=by
 cases o with
 | mv x=>
   show(Bp x e fun v=>kk v s)=_;simp only[A8 he,FC,GC]
 | ZF x=>
   show(Bp x e fun v=>kk v s)=_;simp only[A8 he,FC,GC]
 | pick c a b=>
   show(Bp c e fun vc=>Bp a e fun va=>Bp b e fun vb=>kK vc fun t=>@Bool.rec (fun _=>Ai) (kk vb s) (kk va s) t)=_;simp only[A8 he,FC,BS,bX (kp:=kp)];rfl
 | bin op x y=>
   show(Bp x e fun vx=>Bp y e fun vy=>dY op vx vy fun v=>kk v s)=_;simp only[A8 he,FC,BS,GC,j6]
 | V5 neg x y=>
   show(Bp x e fun vx=>Bp y e fun vy=>B8 (match vx,vy with| .b p,.b q=>some (.ret (.b (bif neg then p != q else p==q)),s)|_,_=>none) kk kp)=_;simp only[A8 he,Bm he,Bw he,FC,BS,Bl]
   try rfl
 | ZG len neg x y=>
   show(Bp x e fun vx=>Bp y e fun vy=>B8 (ov (Za len neg vx vy) s) kk kp)=_;simp only[A8 he,Bm he,Bw he,FC,BS,Bl]
   try rfl
 | UN kind neg x=>
   show(Bp x e fun vx=>B8 (ov (ZZ kind neg vx) s) kk kp)=_;simp only[A8 he,Bm he,Bw he,FC,BS,Bl]
   try rfl
 | not x=>
   show(Bp x e fun vx=>kK vx fun p=>kk (.b (QN p)) s)=_;simp only[A8 he,FC,BS,not_eq (kp:=kp)];rfl
 | neg xor x=>
   show(Bp x e fun vx=>B8 (match vx with| .i ka a=>some (.ret (.i ka (bif xor then bits .xor ka (bif ka.signed then -1 else ka.max) a else ka.wrap (0 - a))),s)|_=>none) kk kp)=_;simp only[A8 he,Bm he,Bw he,FC,BS,Bl]
   try rfl
 | conv k x=>
   show(Bp x e fun vx=>B8 (match vx with| .i _ a=>some (.ret (.i k (HS k a)),s)|_=>none) kk kp)=_;simp only[A8 he,Bm he,Bw he,FC,BS,Bl]
   try rfl
 | box x=>
   show(Bp x e fun vx=>GG vx fun cs=>ZS s (.cs cs) fun i s=>kk (.p i 0) s)=_;simp only[A8 he,FC,BS,G1];congr 1;funext vx;congr 1;funext cs;have: ∀o:Option (R×St),fin o kk kp=ob o fun p=>fin (some p) kk kp:=fun o=>by cases o<;>rfl
   rw[this,ec];rfl
 | MS x=>
   show(Bp x e fun vx=>GG vx fun cs=>kk (.rp cs) s)=_;simp only[A8 he,FC,BS,G1];rfl
 | Oq sz bytes x y=>
   show(Bp x e fun vx=>Bp y e fun vy=>B8 (ov (SY bytes s sz vx vy) s) kk kp)=_;simp only[A8 he,Bm he,Bw he,FC,BS,Bl]
   try rfl
 | alloc zero=>
   show(B8 (bif BK zero then s.new (.cs zero) fun i s=>some (.ret (.p i 0),s)else none) kk kp)=_;simp only[Bl,FC]
 | build zero parts=>
   show(@Bool.rec (fun _=>Ai) none (Qk e parts zero fun cs=>kk (.a cs) s) (BK zero))=_;simp only[FC,RP,BS,Pv he,BL];rfl
 | Am sz len zero parts=>
   show(@Bool.rec (fun _=>Ai) none (Ql e (FZ zero) parts (List.replicate len zero) fun es=>kk (.l es true) s) (BK zero))=_;simp only[FC,RP,BS,Px he,BL,Ej];rfl
 | load agg x=>
   show(Bp x e fun vx=>Zi s agg vx fun v=>kk v s)=_;simp only[A8 he,FC,BS,GC,bn]
 | store sz a x=>
   show(Bp a e fun va=>Bp x e fun vx=>QX s sz va vx fun s=>kk (.t []) s)=_;simp only[A8 he,FC,BS,ti,Xo]
 | GZ off x=>
   show(Bp x e fun vx=>U4 off vx fun v=>kk v s)=_;simp only[A8 he,FC,BS,GC,Yb]
 | field agg off x=>
   show(Bp x e fun vx=>asA vx fun cs=>Ui agg cs off fun v=>kk v s)=_;simp only[A8 he,FC,BS];congr 1;funext vx;cases vx<;>first|rfl|skip
   show Ui agg _ off _=_;rw[Mp,GC]
 | BG sz arr x i=>
   show(Bp x e fun vx=>Bp i e fun vi=>Uy sz arr vx vi fun v=>kk v s)=_;simp only[A8 he,FC,BS,GC,YM]
 | index len sz agg x i=>
   show(Bp x e fun vx=>Bp i e fun vi=>B8 (ov (NW len sz agg vx vi) s) kk kp)=_;simp only[A8 he,Bm he,Bw he,FC,BS,Bl]
   try rfl
 | slice sz x lo hi mx=>
   show(Bp x e fun vx=>Uc lo e fun l=>Uc hi e fun h=>Uc mx e fun m=>B8 (XX (NV s sz vx l h m)) kk kp)=_;simp only[A8 he,Bm he,Bw he,FC,BS,Bl]
   try rfl
 | len x=>
   show(Bp x e fun vx=>rJ vx fun v=>kk v s)=_;simp only[A8 he,FC,BS,GC,ei]
 | QP x=>
   show(Bp x e fun vx=>B8 (ov (SW s vx) s) kk kp)=_;simp only[A8 he,Bm he,Bw he,FC,BS,Bl]
   try rfl
 | str x=>
   show(Bp x e fun vx=>B8 (ov (ZY s vx) s) kk kp)=_;simp only[A8 he,Bm he,Bw he,FC,BS,Bl]
   try rfl
 | Oj x i=>
   show(Bp x e fun vx=>Bp i e fun vi=>B8 (ov (SV vx vi) s) kk kp)=_;simp only[A8 he,Bm he,Bw he,FC,BS,Bl]
   try rfl
 | append sz bytes x y=>
   show(Bp x e fun vx=>Bp y e fun vy=>B8 (XX (J8 bytes s sz vx vy)) kk kp)=_;simp only[A8 he,Bm he,Bw he,FC,BS,Bl]
   try rfl
 | copy sz x y=>
   show(Bp x e fun vx=>Bp y e fun vy=>B8 (XX (SX s sz vx vy)) kk kp)=_;simp only[A8 he,Bm he,Bw he,FC,BS,Bl]
   try rfl
 | MP x y=>
   show(Bp x e fun vx=>Bp y e fun vy=>B8 (match vx,vy with| .i ka a,.i kb b=>bif decide (ka=kb)then some (.ret (.i ka (bif Kx a b then b else a)),s)else none|_,_=>none) kk kp)=_;simp only[A8 he,Bm he,Bw he,FC,BS,Bl]
   try rfl
 | Om x y=>
   show(Bp x e fun vx=>Bp y e fun vy=>B8 (match vx,vy with| .i ka a,.i kb b=>bif decide (ka=kb)then some (.ret (.i ka (bif Kx b a then b else a)),s)else none|_,_=>none) kk kp)=_;simp only[A8 he,Bm he,Bw he,FC,BS,Bl]
   try rfl
 | extract i x=>
   show(Bp x e fun vx=>asT vx fun vs=>QM vs i fun v=>kk v s)=_;simp only[A8 he,FC,BS];congr 1;funext vx;cases vx<;>first|rfl|skip
   show QM _ i _=_;rw[Jz,GC]
 | D5 x=>
   show(Bp x e fun vx=>Uu vx fun v=>kk v s)=_;simp only[A8 he,FC,BS,GC,YC]
 | GN f first cap=>
   show(Jo first e fun vf=>Jo cap e fun vc=>@Bool.rec (fun _=>Ai) none (kk (.f f vf vc) s) (K5 f))=_;simp only[Bm he,FC,RP,BS,BL];rfl
 | Fw=>
   show(B8 (s.new (.map []) fun i s=>some (.ret (.m i),s)) kk kp)=_;simp only[Bl,FC]
 | EK sz bytes zero len cap=>
   show(Bp len e fun vx=>Bp cap e fun vy=>B8 (XX (H0 s sz zero vx vy)) kk kp)=_;simp only[A8 he,Bm he,Bw he,FC,BS,Bl]
   try rfl
 | lookup ks zero ok m k=>
   show(Bp m e fun vm=>Bp k e fun vk=>B8 (ov (J6 s ks zero ok vm vk) s) kk kp)=_;simp only[A8 he,Bm he,Bw he,FC,BS,Bl]
   try rfl
 | Cw ks m k v=>
   show(Bp m e fun vm=>Bp k e fun vk=>Bp v e fun vx=>B8 (os (J5 s ks vm vk vx)) kk kp)=_;simp only[A8 he,Bm he,Bw he,FC,BS,Bl]
   try rfl
 | Ep t x=>
   show(Bp x e fun vx=>kk (.ET t vx) s)=_;simp only[A8 he,FC,BS];rfl
 | V2 t zero ok x=>
   show(Bp x e fun vx=>B8 (ov (ZX t zero ok vx) s) kk kp)=_;simp only[A8 he,Bm he,Bw he,FC,BS,Bl]
   try rfl
 | panic x=>
   show(Bp x e fun vx=>B8 (match vx with| .ET t v=>some (.Bi (.ET t v),s)|_=>none) kk kp)=_;simp only[A8 he,Bm he,Bw he,FC,BS,Bl]
   try rfl
 | call f args=>
   show(Jo args e fun vs=>B8 (cf f vs s) kk kp)=_;simp only[A8 he,Bm he,Bw he,FC,BS,Bl]
   try rfl
 | Iy f args=>
   show(Jo args e fun vs=>B8 (ov (cp f vs) s) kk kp)=_;simp only[A8 he,Bm he,Bw he,FC,BS,Bl]
   try rfl
 | Bs x args=>
   show(Bp x e fun vx=>Jo args e fun vs=>B8 (cv vx vs s) kk kp)=_;simp only[A8 he,Bm he,Bw he,FC,BS,Bl]
   try rfl
 | U6 x args=>
   rfl
 | inv tab x args=>
   show(Bp x e fun vx=>Jo args e fun vs=>B8 (match vx with| .ET t v=>ob (look t tab) fun f=>cf f (v::vs) s|_=>none) kk kp)=_;simp only[A8 he,Bm he,Bw he,FC,BS,Bl]
   try rfl
noncomputable def rO (g:Bool) (t:Bool) (y:Ai) (n:Ai):Ai:=@Bool.rec (fun _=>Ai) (@Bool.rec (fun _=>Ai) y n g) (@Bool.rec (fun _=>Ai) n y g) t
theorem fI (g t:Bool) (y n:Ai):rO g t y n=bif t==g then y else n:=by cases g<;>cases t<;>rfl
noncomputable def wx (v:V) (g:Bool) (y:Ai) (n:Ai):Ai:=@V.rec (fun _=>Bool→Ai→Ai→Ai) (fun _=>Unit) (fun _=>Unit) (fun t g y n=>rO g t y n) (fun _ _ g y n=>none) (fun _ g y n=>none) (fun g y n=>none) (fun _ _ g y n=>none) (fun _ _ g y n=>none) (fun _ _ _ g y n=>none) (fun _ _ _ g y n=>none) (fun _ _ _ _ g y n=>none) (fun _ _ _ _ g y n=>none) (fun _ g y n=>none) (fun g y n=>none) (fun _ _ _ _ _ g y n=>none) (fun g y n=>none) (fun _ _ _ g y n=>none) (fun g y n=>none) (fun _ _ g y n=>none) (fun vs _ g y n=>@List.rec V (fun _=>Ai→Ai) (fun n=>n) (fun _ _ _ _=>none) vs n) (fun g y n=>none) () (fun _ _ _ _=>()) () (fun _ _ _ _=>()) v g y n
noncomputable def grdK (g:Nat×Bool) (o:EW):OK:=fun cf cv cp e s kk kp=>Bp (.t g.1) e fun v=>wx v g.2 (opK o cf cv cp e s kk kp) (kk (.t []) s)
noncomputable def UW (g:Option (Nat×Bool)) (o:EW):OK:=@Option.rec (Nat×Bool) (fun _=>EW→OK) (fun o=>opK o) (fun g o=>grdK g o) g o
theorem Qz {e:B9} {env:Env} (he:Hg e env) (d:Option Nat) (g:Option (Nat×Bool)) (o:EW) (cf:CF) (cv:CV) (cp:CP) (s:St) (kk kp:V→St→Ai):UW g o cf cv cp e s kk kp=fin (Hf cf cv cp ⟨d,o,g⟩ env s) kk kp:=by
 cases g with
 | none=>exact Z7 he o cf cv cp s kk kp
 | some g=>
   obtain⟨g,b⟩:=g;show(Bp (.t g) e fun v=>wx v b (opK o cf cv cp e s kk kp) (kk (.t []) s))=_;rw[A8 he,Z7 he];simp only[Hf,DL];cases get g env with
   | none=>rfl
   | some v=>
     simp only[ob];cases v<;>first|rfl|skip
     ·rename_i t
      show rO b t _ _=_;rw[fI];simp only;cases t==b<;>rfl
     ·rename_i vs
      cases vs<;>rfl
noncomputable def Lw (d:Option Nat) (v:V) (e:B9):B9:=@Option.rec Nat (fun _=>V→B9→B9) (fun _ e=>e) (fun d v e=>⟨Nat.lor e.1 (Nat.shiftLeft 1 d),(d,v)::e.2⟩) d v e
theorem I9 (M n:Nat):Ma M n=M.testBit n:=by
 have h1:(M >>> n)&&&1=(M >>> n) % 2:=Nat.and_one_is_mod _;have h2:Ma M n=Nat.beq ((M >>> n)&&&1) 1:=rfl;rw[h2,h1,Nat.testBit_eq_decide_div_mod_eq,Nat.shiftRight_eq_div_pow];cases h:decide (M / 2 ^ n % 2=1)with
 | true=>rw[of_decide_eq_true h];rfl
 | false=>
   have:=of_decide_eq_false h;cases hb:Nat.beq (M / 2 ^ n % 2) 1 with
   | false=>rfl
   | true=>exact absurd (Nat.eq_of_beq_eq_true hb) this
theorem NZ (M d n:Nat):Ma (Nat.lor M (Nat.shiftLeft 1 d)) n=(Ma M n||Nat.beq d n):=by
 rw[I9,I9];show(M|||1 <<< d).testBit n=_;rw[Nat.testBit_or,Nat.one_shiftLeft,Nat.testBit_two_pow];congr 1;cases hb:Nat.beq d n with
 | true=>simp[Nat.eq_of_beq_eq_true hb]
 | false=>simpa using Nat.ne_of_beq_eq_false hb
theorem Hg.push {e:B9} {env:Env} (he:Hg e env) (d:Option Nat) (v:V):Hg (Lw d v e) (put d v env):=by
 cases d with
 | none=>exact he
 | some d=>
   intro n;show(bif Ma (Nat.lor e.1 (Nat.shiftLeft 1 d)) n then(bif Nat.beq d n then some v else get n e.2)else none)=bif Nat.beq d n then some v else get n env;rw[NZ,←he n,QT];cases Nat.beq d n<;>cases Ma e.1 n<;>rfl
noncomputable def ZP (ops:List AS) (cf:CF) (cv:CV) (cp:CP) (env:B9) (s:St):Ai:=@List.rec AS (fun _=>CF→CV→CP→B9→St→Ai) (fun _ _ _ env s=>some (.normal,env,s))
 (fun o _ ih cf cv cp env s=>UW o.3 o.2 cf cv cp env s (fun v s=>Ug v fun v=>ih cf cv cp (Lw o.1 v env) s) (fun v s=>some (.Bi v,env,s))) ops cf cv cp env s
def Fp:Ai→Rs→Prop
 | some (x,e,s),some (x',env,s')=>x=x'∧s=s'∧Hg e env
 | none,none=>True
 | _,_=>False
theorem Wk (cf:CF) (cv:CV) (cp:CP): ∀(ops:List AS) {e:B9} {env:Env} (s:St),Hg e env→Fp (ZP ops cf cv cp e s) (R9 cf cv cp ops env s)
 | [],e,env,s,he=>⟨rfl,rfl,he⟩
 | o ::r,e,env,s,he=>by
   show Fp (UW o.3 o.2 cf cv cp e s (fun v s=>Ug v fun v=>ZP r cf cv cp (Lw o.1 v e) s) (fun v s=>some (.Bi v,e,s))) _;rw[Qz he o.1];show Fp (fin (Hf cf cv cp o env s) _ _) _;simp only[R9];cases Hf cf cv cp o env s with
   | none=>trivial
   | some p=>
     obtain⟨x,s'⟩:=p;cases x with
     | Bi v=>exact⟨rfl,rfl,he⟩
     | ret v=>
       show Fp (Ug v fun v=>ZP r cf cv cp (Lw o.1 v e) s') (HD v _);rw[W4,Gy];exact Wk cf cv cp r s' (he.push o.1 v)
noncomputable def wH (re:List AS) (cf:CF) (cv:CV) (cp:CP) (e:B9) (s:St) (K:Ai):Ai:=@List.rec AS (fun _=>CF→CV→CP→B9→St→Ai→Ai) (fun _ _ _ _ _ K=>K)
 (fun o _ ih cf cv cp e s K=>UW o.3 o.2 cf cv cp e s (fun u _=>@Option.rec Nat (fun _=>Ai) (ih cf cv cp e s K) (fun d=>Bp (.t d) e fun w=>@Bool.rec (fun _=>Ai) none (ih cf cv cp e s K) (EB u w)) o.1) (fun _ _=>none)) re cf cv cp e s K
theorem Z2 (cf:CF) (cv:CV) (cp:CP) {e:B9} {env:Env} (he:Hg e env) (s:St) (K:Ai): ∀re:List AS,wH re cf cv cp e s K=bif c0 cf cv cp re env s then K else none
 | []=>rfl
 | o ::r=>by
   show UW o.3 o.2 cf cv cp e s (fun u _=>@Option.rec Nat (fun _=>Ai) (wH r cf cv cp e s K) (fun d=>Bp (.t d) e fun w=>@Bool.rec (fun _=>Ai) none (wH r cf cv cp e s K) (EB u w)) o.1) (fun _ _=>none)=_;rw[Qz he o.1,Z2 cf cv cp he s K r]
   have h':c0 cf cv cp (o::r) env s=((match Hf cf cv cp o env s with
    | some (.ret u,_)=>match o.dst with
      | none=>true
      | some d=>match get d env with|some w=>EB u w|none=>false
    | _=>false)&&c0 cf cv cp r env s):=rfl
   rw[h'];show fin (Hf cf cv cp o env s) _ _=_;cases Hf cf cv cp o env s with
   | none=>rfl
   | some p=>
     obtain⟨x,s'⟩:=p;cases x with
     | Bi v=>rfl
     | ret u=>
       obtain⟨d,op,g⟩:=o;cases d with
       | none=>simp only[fin,Bool.true_and]
       | some d=>
         simp only[fin];rw[A8 he];simp only[DL];cases get d env with
         | none=>rfl
         | some w=>
           simp only[ob];cases EB u w<;>simp
noncomputable def Sa (ops:List CD) (cf:CF) (cv:CV) (cp:CP) (e:B9) (s:St):Ai:=@List.rec CD (fun _=>CF→CV→CP→B9→St→Ai) (fun _ _ _ e s=>some (.normal,e,s))
 (fun d _ ih cf cv cp e s=>UW d.2.3 d.2.2 cf cv cp e s (fun v s=>Ug v fun v=>(fun e=>wH d.4 cf cv cp e s (ih cf cv cp e s)) (Lw d.2.1 v e)) (fun v s=>some (.Bi v,⟨0,[]⟩,s))) ops cf cv cp e s
theorem Hg.nil {M:Nat}:Hg ⟨M,[]⟩ []:=fun n=>by
 show(bif Ma M n then none else none)=none;cases Ma M n<;>rfl
theorem TP (cf:CF) (cv:CV) (cp:CP): ∀(ops:List CD) {e:B9} {env:Env} (s:St),Hg e env→Fp (Sa ops cf cv cp e s) (PF cf cv cp ops env s)
 | [],e,env,s,he=>⟨rfl,rfl,he⟩
 | d ::r,e,env,s,he=>by
   show Fp (UW d.2.3 d.2.2 cf cv cp e s (fun v s=>Ug v fun v=>(fun e=>wH d.4 cf cv cp e s (Sa r cf cv cp e s)) (Lw d.2.1 v e)) (fun v s=>some (.Bi v,⟨0,[]⟩,s))) _;rw[Qz he d.2.1];show Fp (fin (Hf cf cv cp d.o env s) _ _) _;simp only[PF];cases Hf cf cv cp d.o env s with
   | none=>trivial
   | some p=>
     obtain⟨x,s'⟩:=p;cases x with
     | Bi v=>exact⟨rfl,rfl,Hg.nil⟩
     | ret v=>
       show Fp (Ug v fun v=>wH d.4 cf cv cp (Lw d.2.1 v e) s' (Sa r cf cv cp (Lw d.2.1 v e) s')) (HD v _);rw[W4,Gy,Z2 cf cv cp (he.push d.2.1 v)];show Fp (bif c0 cf cv cp d.re (put d.o.dst v env) s' then _ else none) (bif c0 cf cv cp d.re (put d.o.dst v env) s' then _ else none);cases c0 cf cv cp d.re (put d.o.dst v env) s' with
       | false=>trivial
       | true=>exact TP cf cv cp r s' (he.push d.2.1 v)
noncomputable def PA (l:List Nat):Nat:=@List.rec Nat (fun _=>Nat) 0 (fun n _ ih=>Nat.lor ih (Nat.shiftLeft 1 n)) l
noncomputable def K6 (l:List Nat) (e:B9):B9:=⟨Nat.land e.1 (PA l),e.2⟩
theorem Sf: ∀(l:List Nat) (n:Nat),Ma (PA l) n=l.any fun k=>Nat.beq k n
 | [],n=>by rw[I9];exact Nat.zero_testBit n
 | k::r,n=>by
   show Ma (Nat.lor (PA r) (Nat.shiftLeft 1 k)) n=_;rw[NZ,Sf r n,List.any_cons,Bool.or_comm]
theorem Kp: ∀(l:List Nat) (env:Env) (n:Nat),get n (prune l env)=bif l.any (fun k=>Nat.beq k n)then get n env else none
 | [],env,n=>rfl
 | k ::r,env,n=>by
   have ih:=Kp r env n;simp only[prune,List.any_cons];cases hk:Nat.beq k n with
   | true=>
     have:=Nat.eq_of_beq_eq_true hk;subst this;cases hg:get k env with
     | none=>
       simp only;rw[ih,hg];cases(r.any fun j=>Nat.beq j k)<;>rfl
     | some v=>simp[get,hk]
   | false=>
     simp only[Bool.false_or];cases hg:get k env with
     | none=>exact ih
     | some v=>
       simp only[get,hk,cond_false];exact ih
theorem Hg.prune {e:B9} {env:Env} (he:Hg e env) (l:List Nat):Hg (K6 l e) (Gl.prune l env):=fun n=>by
 show(bif Ma (Nat.land e.1 (PA l)) n then get n e.2 else none)=_
 have:Ma (Nat.land e.1 (PA l)) n=(Ma e.1 n&&Ma (PA l) n):=by
  rw[I9,I9,I9];exact Nat.testBit_and _ _ _
 rw[this,Kp,←he n,QT,Sf];cases Ma e.1 n<;>cases(l.any fun k=>Nat.beq k n)<;>rfl
noncomputable def R1 (l:List Nat) (e:B9) (K:Env→Ai):Ai:=@List.rec Nat (fun _=>B9→(Env→Ai)→Ai) (fun _ K=>K [])
 (fun n _ ih e K=>@Bool.rec (fun _=>Ai) (ih e K) (@List.rec (Nat×V) (fun _=>Nat→Ai→(V→Ai)→Ai) (fun _ x _=>x) (fun p _ ih n x K=>@Bool.rec (fun _=>Ai) (ih n x K) (K p.2) (Nat.beq p.1 n)) e.2 n (ih e K) (fun v=>ih e fun r=>K ((n,v)::r))) (Ma e.1 n)) l e K
theorem dn (env:Env) (n:Nat) (x:Ai) (K:V→Ai): @List.rec (Nat×V) (fun _=>Nat→Ai→(V→Ai)→Ai) (fun _ x _=>x) (fun p _ ih n x K=>@Bool.rec (fun _=>Ai) (ih n x K) (K p.2) (Nat.beq p.1 n)) env n x K=match get n env with|some v=>K v|none=>x:=by
 induction env with
 | nil=>rfl
 | cons p r ih=>
   obtain⟨j,v⟩:=p;show @Bool.rec (fun _=>Ai) _ (K v) (Nat.beq j n)=match(bif Nat.beq j n then some v else get n r)with|some v=>K v|none=>x
   cases Nat.beq j n
   ·exact ih
   ·rfl
theorem Ml {e:B9} {env:Env} (he:Hg e env): ∀(l:List Nat) (K:Env→Ai),R1 l e K=K (Gl.prune l env)
 | [],K=>rfl
 | n ::r,K=>by
   show @Bool.rec (fun _=>Ai) (R1 r e K) (@List.rec (Nat×V) (fun _=>Nat→Ai→(V→Ai)→Ai) (fun _ x _=>x) (fun p _ ih n x K=>@Bool.rec (fun _=>Ai) (ih n x K) (K p.2) (Nat.beq p.1 n)) e.2 n (R1 r e K) (fun v=>R1 r e fun r=>K ((n,v)::r))) (Ma e.1 n)=_;rw[dn,Ml he r];simp only[Ml he r,Gl.prune];rw[←he n,QT];cases Ma e.1 n with
   | false=>rfl
   | true=>
     simp only[cond_true];cases get n e.2<;>rfl
noncomputable def HT (env:Env):Nat:=@List.rec (Nat×V) (fun _=>Nat) 0 (fun p _ ih=>Nat.lor ih (Nat.shiftLeft 1 p.1)) env
theorem PM: ∀(env:Env) (n:Nat),Ma (HT env) n=(get n env).isSome
 | [],n=>by rw[I9];exact Nat.zero_testBit n
 | (k,v)::r,n=>by
   show Ma (Nat.lor (HT r) (Nat.shiftLeft 1 k)) n=_;rw[NZ,PM r n];simp only[get];cases Nat.beq k n<;>simp
theorem Hg.of (env:Env):Hg ⟨HT env,env⟩ env:=fun n=>by
 show(bif Ma (HT env) n then get n env else none)=_;rw[PM];cases get n env<;>rfl
abbrev IH:=AJ→B9→St→Ai
noncomputable def O6 (r:Ai) (K:B9→St→Ai):Ai:=@Option.rec (Ae×B9×St) (fun _=>(B9→St→Ai)→Ai) (fun _=>none) (fun p K=>@Ae.rec (fun _=>B9→St→(Ae×B9×St)→(B9→St→Ai)→Ai) (fun env s _ K=>K env s) (fun _ _ _ p _=>some p) (fun _ _ p _=>some p) (fun _ _ _ p _=>some p) p.1 p.2.1 p.2.2 p K) r K
def yH (r:Rs) (K':Env→St→Rs):Rs:=match r with|some (.normal,env,s)=>K' env s|r=>r
theorem LU {r:Ai} {r':Rs} (h:Fp r r') {K:B9→St→Ai} {K':Env→St→Rs} (U: ∀e env s,Hg e env→Fp (K e s) (K' env s)):Fp (O6 r K) (yH r' K'):=by
 cases r with
 | none=>cases r' with|none=>trivial|some p=>exact h.elim
 | some p=>
   cases r' with
   | none=>exact h.elim
   | some p'=>
     obtain⟨x,e,s⟩:=p;obtain⟨x',env,s'⟩:=p';obtain⟨rfl,rfl,he⟩:=h;cases x with
     | normal=>exact U e env s he
     | exit id=>exact⟨rfl,rfl,he⟩
     | ret=>exact⟨rfl,rfl,he⟩
     | Bi v=>exact⟨rfl,rfl,he⟩
noncomputable def M6 (s:St) (e:B9):List RS→Option (List V)
 | []=>some []
 | .t n::r=>ob (QT e n) fun v=>ob (M6 s e r) fun vs=>some (v::vs)
 | .c n g::r=>ob (QT e n) fun a=>ob (Lz s g a) fun v=>ob (M6 s e r) fun vs=>some (v::vs)
noncomputable def WO (AL:List RS) (r:Ai):Option (R×St):=
 match r with
 | some (.normal,env,s)=>ob (M6 s env AL) fun vs=>some (.ret (D9 vs),s)
 | some (.ret,env,s)=>ob (M6 s env AL) fun vs=>some (.ret (D9 vs),s)
 | some (.Bi v,_,s)=>some (.Bi v,s)
 | _=>none
noncomputable def SU (tab:Ii) (ih:IH) (g:FuncId) (cap:List V) (m:Option V) (AL:List RS) (env:B9) (s:St):Option (R×St):=
 match tab g with
 | some (.wI n k ops ac l)=>bif Nat.ble cap.length n then
  match ih (.seq l (.A2 ops) ac) ⟨HT (put (some k) (m.getD .DN) (A0 0 cap)),put (some k) (m.getD .DN) (A0 0 cap)⟩ s with
  | some (.normal,_,s')=>ob (M6 s' env AL) fun vs=>some (.ret (D9 vs),s')
  | some (.ret,_,s')=>ob (M6 s' env AL) fun vs=>some (.ret (D9 vs),s')
  | _=>none
   else none
 | some (.pld n ac)=>match m with
   | some _=>none
   | none=>bif Nat.ble cap.length n then
     match ih ac ⟨HT (A0 0 cap),A0 0 cap⟩ s with
     | some (.normal,_,s')=>ob (M6 s' env AL) fun vs=>some (.ret (D9 vs),s')
     | some (.ret,_,s')=>ob (M6 s' env AL) fun vs=>some (.ret (D9 vs),s')
     | _=>none
   else none
 | _=>none
noncomputable def Qq (tab:Ii) (ih:IH) (f:FuncId) (vs:List V) (s:St):Option (R×St):=
 match tab f with
 | some (.fn n ac AL)=>bif Nat.ble vs.length n then WO AL (ih ac ⟨HT (A0 0 vs),A0 0 vs⟩ s)else none
 | some (.wN n aA ops x aC AL l1 l2)=>bif Nat.ble vs.length n then
  match ih (.seq l1 aA (.A2 ops)) ⟨HT (A0 0 vs),A0 0 vs⟩ s with
  | some (.normal,env,s1)=>match(match x with| .t n=>QT env n| .c v=>bif Aq v then some v else none)with
    | some (.f (.func g) [] cap)=>match ih aC (K6 l2 env) s1 with
      | some (.normal,env2,s2)=>SU tab ih g cap none AL env2 s2
      | some (.ret,env2,s2)=>SU tab ih g cap none AL env2 s2
      | some (.Bi v,env2,s2)=>SU tab ih g cap (some v) AL env2 s2
      | _=>none
    | _=>none
  | _=>none
   else none
 | some (.dB n ac AL)=>bif Nat.ble vs.length n then xl (WO AL (ih ac ⟨HT (A0 0 vs),A0 0 vs⟩ s))else none
 | some (.UZ c)=>c vs s
 | _=>none
noncomputable def Ek (tab:Ii) (memo:C3) (ih:IH):CF:=fun f vs s=>
 match memo f with
 | []=>Qq tab ih f vs s
 | m::r=>match SQ vs (m::r)with
   | some v=>some (.ret v,s)
   | none=>Qq tab ih f vs s
noncomputable def IE (tab:Ii) (memo:C3) (ih:IH):CV:=fun x vs s=>
 match x with
 | .f (.func f) first cap=>Ek tab memo ih f (first++vs++cap) s
 | .f (.yield L) [] []=>match s.t.get L with
   | some (.loop .ready env ps a b)=>bif Nat.beq vs.length ps.length then
    Tr.put none BA s.t L fun t=>match ih a ⟨HT (EI ps vs env),EI ps vs env⟩ ⟨s.nx,t⟩with
    | some (.normal,env1,s1)=>match ih b env1 s1 with
      | some (.normal,_,s2)=>Tr.put (some (.loop .ready env ps a b)) BA s2.t L fun t=>some (.ret (.b true),⟨s2.nx,t⟩)
      | some (.ret,_,s2)=>Tr.put (some (.loop .ret env ps a b)) BA s2.t L fun t=>some (.ret (.b false),⟨s2.nx,t⟩)
      | some (.exit id,_,s2)=>Tr.put (some (.loop (.exit id) env ps a b)) BA s2.t L fun t=>some (.ret (.b false),⟨s2.nx,t⟩)
      | some (.Bi v,_,s2)=>some (.Bi v,s2)
      | none=>none
    | _=>none
     else none
   | _=>none
 | _=>none
noncomputable def JL (tab:Ii) (memo:C3) (ih:IH):CP:=fun f vs=>
 bif BK vs then match Ek tab memo ih f vs ⟨0,.leaf⟩with
  | some (.ret v,s)=>match Jk s R7 v with
    | some u=>bif Aq u then some u else none
    | none=>none
  | _=>none
 else none
abbrev SK:=Ii→C3→IH→B9→St→Ai
noncomputable def Z0 (c:AJ):SK:=@AJ.rec (fun _=>SK)
 (fun _ _ _ env s=>some (.normal,env,s))
 (fun ops tab memo ih env s=>ZP ops (Ek tab memo ih) (IE tab memo ih) (JL tab memo ih) env s)
 (fun l ops tab memo ih env s=>O6 (Sa ops (Ek tab memo ih) (IE tab memo ih) (JL tab memo ih) env s) fun env s=>some (.normal,K6 l env,s))
 (fun l a b _ _ _ _ ih env s=>O6 (ih a env s) fun env s=>ih b (K6 l env) s)
 (fun c a b _ _ _ _ ih env s=>Bp c env fun v=>kK v fun t=>@Bool.rec (fun _=>Ai) (ih b env s) (ih a env s) t)
 (fun id a _ tab memo ih env s=>match ih a env s with
  | some (.exit id',env',s')=>bif Nat.beq id' id then some (.normal,env',s')else some (.exit id',env',s')
  | r=>r)
 (fun l a _ _ _ ih env s=>R1 l env fun E=>O6 (ih a ⟨HT E,E⟩ s) fun env s=>ih (.loop l a) env s)
 (fun id _ _ _ env s=>some (.exit id,env,s))
 (fun _ _ _ env s=>some (.ret,env,s))
 (fun a _ _ _ ih env s=>ih a env s)
 (fun l g ps a b _ _ tab memo ih env s=>Bp g env fun v=>match v with
  | .f (.func gf) [] cap=>R1 l env fun E=>s.new (.loop .ready E ps a b) fun i s1=>
   match Ek tab memo ih gf (.f (.yield i) [] []::cap) s1 with
   | some (.ret _,s2)=>match s2.t.get i with
     | some (.loop st _ _ _ _)=>Tr.put none BA s2.t i fun t=>some ((match st with| .ready=> .normal| .ret=> .ret| .exit id=> .exit id),env,⟨s2.nx,t⟩)
     | _=>none
   | some (.Bi v,s2)=>match s2.t.get i with
     | some _=>Tr.put none BA s2.t i fun t=>some (.Bi v,env,⟨s2.nx,t⟩)
     | none=>none
   | none=>none
  | _=>none) c
noncomputable def runK (tab:Ii) (memo:C3) (n:Nat):IH:=@Nat.rec (fun _=>IH) (fun _ _ _=>none) (fun _ ih c env s=>Z0 c tab memo ih env s) n
def Uq (ihm:IH) (ih:AJ→Env→St→Rs):Prop:= ∀c {e env} s,Hg e env→Fp (ihm c e s) (ih c env s)
theorem J4 {s:St} {e:B9} {env:Env} (he:Hg e env): ∀l:List RS,M6 s e l=V6 s env l
 | []=>rfl
 | .t n::r=>by simp only[M6,V6,he n,J4 he r]
 | .c n g::r=>by simp only[M6,V6,he n,J4 he r]
theorem TN {AL:List RS} {r:Ai} {r':Rs} (h:Fp r r'):WO AL r=Xf AL r':=by
 cases r with
 | none=>cases r' with|none=>rfl|some p=>exact h.elim
 | some p=>
   cases r' with
   | none=>exact h.elim
   | some p'=>
     obtain⟨x,e,s⟩:=p;obtain⟨x',env,s'⟩:=p';obtain⟨rfl,rfl,he⟩:=h;cases x<;>first|rfl|simp only[WO,Xf,J4 he]
theorem cD {tab:Ii} {ihm:IH} {ih:AJ→Env→St→Rs} (hi:Uq ihm ih) {g:FuncId} {cap:List V} {m:Option V} {AL:List RS} {e:B9} {env:Env} (he:Hg e env) (s:St):SU tab ihm g cap m AL e s=Uh tab ih g cap m AL env s:=by
 unfold SU Uh;cases tab g with
 | none=>rfl
 | some fs =>
   cases fs<;>first|rfl|skip
   ·rename_i n k ops ac l
    simp only;have:=hi (.seq l (.A2 ops) ac) s (Hg.of (put (some k) (m.getD .DN) (A0 0 cap)))
    revert this
    cases ihm (.seq l (.A2 ops) ac) _ s with
    | none=>cases ih (.seq l (.A2 ops) ac) _ s with|none=>intro _;rfl|some p=>intro h;exact h.elim
    | some p=>
      cases ih (.seq l (.A2 ops) ac) _ s with
      | none=>intro h;exact h.elim
      | some p'=>
        obtain⟨x,e1,s1⟩:=p;obtain⟨x',env1,s1'⟩:=p';rintro⟨rfl,rfl,he1⟩;cases x<;>simp only[J4 he]
   ·rename_i n ac
    cases m with
    | some v=>rfl
    | none=>
      simp only;have:=hi ac s (Hg.of (A0 0 cap))
      revert this
      cases ihm ac _ s with
      | none=>cases ih ac _ s with|none=>intro _;rfl|some p=>intro h;exact h.elim
      | some p=>
        cases ih ac _ s with
        | none=>intro h;exact h.elim
        | some p'=>
          obtain⟨x,e1,s1⟩:=p;obtain⟨x',env1,s1'⟩:=p';rintro⟨rfl,rfl,he1⟩;cases x<;>simp only[J4 he]
theorem Yt {tab : Ii} {ihm:IH} {ih:AJ→Env→St→Rs} (hi:Uq ihm ih) (f:FuncId) (vs:List V) (s:St):Qq tab ihm f vs s=PG tab ih f vs s:=by
 unfold Qq PG;cases tab f with
 | none=>rfl
 | some fs =>
   cases fs with
   | wI n k ops ac l=>rfl
   | UZ c=>rfl
   | pld n ac=>rfl
   | fn n ac AL=>simp only;rw[TN (hi ac s (Hg.of (A0 0 vs)))]
   | dB n ac AL=>simp only;rw[TN (hi ac s (Hg.of (A0 0 vs)))]
   | wN n aA ops x aC AL l1 l2=>
     simp only;have:=hi (.seq l1 aA (.A2 ops)) s (Hg.of (A0 0 vs))
     revert this
     cases ihm (.seq l1 aA (.A2 ops)) _ s with
     | none=>cases ih (.seq l1 aA (.A2 ops)) _ s with|none=>intro _;rfl|some p=>intro h;exact h.elim
     | some p=>
       cases ih (.seq l1 aA (.A2 ops)) _ s with
       | none=>intro h;exact h.elim
       | some p'=>
         obtain⟨x1,e1,s1⟩:=p;obtain⟨x1',env1,s1'⟩:=p';rintro⟨rfl,rfl,he1⟩;cases x1<;>first|rfl|skip
         simp only;have hx:(match x with| .t n=>QT e1 n| .c v=>bif Aq v then some v else none)=DL env1 x:=by cases x<;>first|exact he1 _|rfl
         rw[hx];cases DL env1 x with
         | none=>rfl
         | some v=>
           cases v<;>first|rfl|skip
           rename_i fn first cap
           cases fn<;>first|rfl|skip
           cases first<;>first|rfl|skip
           simp only;have:=hi aC s1 (he1.prune l2)
           revert this
           cases ihm aC (K6 l2 e1) s1 with
           | none=>cases ih aC (Gl.prune l2 env1) s1 with|none=>intro _;rfl|some p=>intro h;exact h.elim
           | some p=>
             cases ih aC (Gl.prune l2 env1) s1 with
             | none=>intro h;exact h.elim
             | some p'=>
               obtain⟨x2,e2,s2⟩:=p;obtain⟨x2',env2,s2'⟩:=p';rintro⟨rfl,rfl,he2⟩;cases x2<;>simp only[cD hi he2]
theorem Fk {tab:Ii} {memo:C3} {ihm:IH} {ih:AJ→Env→St→Rs} (hi:Uq ihm ih):Ek tab memo ihm=GH tab memo ih:=by
 funext f vs s;unfold Ek GH;simp only[Yt hi];rfl
theorem OW {tab:Ii} {memo:C3} {ihm:IH} {ih:AJ→Env→St→Rs} (hi:Uq ihm ih):IE tab memo ihm=LI tab memo ih:=by
 funext x vs s;unfold IE LI;rw[Fk hi];cases x<;>first|rfl|skip
 rename_i fn first cap
 cases fn<;>first|rfl|skip
 cases first<;>first|rfl|skip
 cases cap<;>first|rfl|skip
 rename_i L;simp only;cases s.t.get L with
 | none=>rfl
 | some o=>
   cases o<;>first|rfl|skip
   rename_i st env ps a b;cases st<;>first|rfl|skip
   simp only;congr 2;funext t;have:=hi a ⟨s.nx,t⟩ (Hg.of (EI ps vs env))
   revert this
   cases ihm a _ ⟨s.nx,t⟩with
   | none=>cases ih a _ ⟨s.nx,t⟩with|none=>intro _;rfl|some p=>intro h;exact h.elim
   | some p=>
     cases ih a _ ⟨s.nx,t⟩with
     | none=>intro h;exact h.elim
     | some p'=>
       obtain⟨x1,e1,s1⟩:=p;obtain⟨x1',env1,s1'⟩:=p';rintro⟨rfl,rfl,he1⟩;cases x1<;>first|rfl|skip
       simp only;have:=hi b s1 he1
       revert this
       cases ihm b e1 s1 with
       | none=>cases ih b env1 s1 with|none=>intro _;rfl|some p=>intro h;exact h.elim
       | some p=>
         cases ih b env1 s1 with
         | none=>intro h;exact h.elim
         | some p'=>
           obtain⟨x2,e2,s2⟩:=p;obtain⟨x2',env2,s2'⟩:=p';rintro⟨rfl,rfl,he2⟩;cases x2<;>rfl
theorem Lm {tab:Ii} {memo:C3} {ihm:IH} {ih:AJ→Env→St→Rs} (hi:Uq ihm ih):JL tab memo ihm=NO tab memo ih:=by
 funext f vs;unfold JL NO;rw[Fk hi];rfl
theorem bN {tab:Ii} {memo:C3} {ihm:IH} {ih:AJ→Env→St→Rs} (hi:Uq ihm ih) (c:AJ) {e:B9} {env:Env} (s:St) (he:Hg e env):Fp (Z0 c tab memo ihm e s) (HV tab memo ih c env s):=by
 cases c with
 | skip=>exact⟨rfl,rfl,he⟩
 | ret=>exact⟨rfl,rfl,he⟩
 | exit id=>exact⟨rfl,rfl,he⟩
 | scope a=>exact hi a s he
 | A2 ops=>
   show Fp (ZP ops (Ek tab memo ihm) (IE tab memo ihm) (JL tab memo ihm) e s) _;rw[Fk hi,OW hi,Lm hi];exact Wk _ _ _ ops s he
 | BC l ops=>
   show Fp (O6 (Sa ops (Ek tab memo ihm) (IE tab memo ihm) (JL tab memo ihm) e s) fun env s=>some (.normal,K6 l env,s)) _;rw[Fk hi,OW hi,Lm hi];exact LU (K':=fun env s=>some (.normal,Gl.prune l env,s)) (TP _ _ _ ops s he) fun _ _ s he=>⟨rfl,rfl,he.prune l⟩
 | seq l a b=>exact LU (K':=fun env s=>ih b (Gl.prune l env) s) (hi a s he) fun _ _ s he=>hi b s (he.prune l)
 | cond c a b=>
   show Fp (Bp c e fun v=>kK v fun t=>@Bool.rec (fun _=>Ai) (ihm b e s) (ihm a e s) t) _;rw[A8 he];simp only[HV];cases DL env c with
   | none=>trivial
   | some v=>
     cases v<;>first|trivial|skip
     rename_i t;cases t
     ·exact hi b s he
     ·exact hi a s he
 | block id a=>
   have:=hi a s he;show Fp (match ihm a e s with|some (.exit id',env',s')=>bif Nat.beq id' id then some (.normal,env',s')else some (.exit id',env',s')|r=>r) (match ih a env s with|some (.exit id',env',s')=>bif Nat.beq id' id then some (.normal,env',s')else some (.exit id',env',s')|r=>r)
   revert this
   cases ihm a e s with
   | none=>cases ih a env s with|none=>intro _;trivial|some p=>intro h;exact h.elim
   | some p=>
     cases ih a env s with
     | none=>intro h;exact h.elim
     | some p'=>
       obtain⟨x1,e1,s1⟩:=p;obtain⟨x1',env1,s1'⟩:=p';rintro⟨rfl,rfl,he1⟩;cases x1 with
       | exit id'=>
         simp only;cases Nat.beq id' id<;>exact⟨rfl,rfl,he1⟩
       | normal=>exact⟨rfl,rfl,he1⟩
       | ret=>exact⟨rfl,rfl,he1⟩
       | Bi v=>exact⟨rfl,rfl,he1⟩
 | loop l a=>
   show Fp (R1 l e fun E=>O6 (ihm a ⟨HT E,E⟩ s) fun env s=>ihm (.loop l a) env s) _;rw[Ml he];exact LU (K':=fun env s=>ih (.loop l a) env s) (hi a s (Hg.of _)) fun _ _ s he=>hi (.loop l a) s he
 | Cg l g ps a b=>
   show Fp (Bp g e fun v=>match v with
   | .f (.func gf) [] cap=>R1 l e fun E=>s.new (.loop .ready E ps a b) fun i s1=>
    match Ek tab memo ihm gf (.f (.yield i) [] []::cap) s1 with
    | some (.ret _,s2)=>match s2.t.get i with
      | some (.loop st _ _ _ _)=>Tr.put none BA s2.t i fun t=>some ((match st with| .ready=> .normal| .ret=> .ret| .exit id=> .exit id),e,⟨s2.nx,t⟩)
      | _=>none
    | some (.Bi v,s2)=>match s2.t.get i with
      | some _=>Tr.put none BA s2.t i fun t=>some (.Bi v,e,⟨s2.nx,t⟩)
      | none=>none
    | none=>none
   | _=>none) _
   rw[A8 he,Fk hi];simp only[HV];cases DL env g with
   | none=>trivial
   | some v=>
     cases v<;>first|trivial|skip
     rename_i fn first cap
     cases fn<;>first|trivial|skip
     cases first<;>first|trivial|skip
     rename_i gf;simp only[ob];rw[Ml he]
     have hnew: ∀ {β γ:Type} (o:EO) (f:Nat→St→Option β) (g:Nat→St→Option γ) (Rl:Option β→Option γ→Prop),Rl none none→(∀i s,Rl (f i s) (g i s))→Rl (s.new o f) (s.new o g):=fun {β γ} o f g Rl h0 h1=>by
      obtain⟨n,t⟩:=s;cases n with
      | zero=>simp only[St.new];rw[Tr.put_eq,Tr.put_eq];exact h1 _ _
      | succ n=>
        simp only[St.new];rw[Tr.put_eq,Tr.put_eq];cases Nat.ble (n+1) Kz
        ·exact h0
        ·exact h1 _ _
     refine hnew _ _ _ Fp trivial fun i s1=>?_
     cases GH tab memo ih gf (.f (.yield i) [] []::cap) s1 with
     | none=>trivial
     | some p=>
       obtain⟨x,s2⟩:=p;cases x with
       | ret v=>
         simp only;cases s2.t.get i with
         | none=>trivial
         | some o=>
           cases o<;>first|trivial|skip
           simp only;rw[Tr.put_eq,Tr.put_eq];exact⟨rfl,rfl,he⟩
       | Bi v=>
         simp only;cases s2.t.get i with
         | none=>trivial
         | some o=>
           simp only;rw[Tr.put_eq,Tr.put_eq];exact⟨rfl,rfl,he⟩
theorem WZ (tab:Ii) (memo:C3): ∀n:Nat,Uq (runK tab memo n) (run tab memo n)
 | 0=>fun _ _ _ _ _=>trivial
 | n+1=>fun c _ _ s he=>bN (WZ tab memo n) c s he
noncomputable def En (tab:Ii) (memo:C3) (n:Nat) (f:FuncId) (vs:List V) (v:V):Bool:=
 match JL tab memo (runK tab memo n) f vs with
 | some u=>EB u v
 | none=>false
theorem BN {tab:Ii} (ht:Ju P tab) {memo:C3} (hm:Cq P memo) {n:Nat} {f:FuncId} {vs:List V} {v:V} (h:En tab memo n f vs v=true):BK vs=true∧Aq v=true∧Pure P f vs v:=by
 unfold En at h;rw[Lm (WZ tab memo n)]at h;exact Tn ht hm h
noncomputable def E3 (t:Tr BD):Ii:=fun f=>Xe t f
theorem Bv {t:Tr BD} (h:PK (fun i=>AV P i) id t):Ju P (E3 t):=fun f fs e=>h f fs ((RI t f).symm.trans e)
noncomputable def Cj (m:C3) (f:FuncId) (a:List V) (v:V):C3:=fun g=>@Bool.rec (fun _=>List (List V×V)) (m g) ((a,v)::m g) (Nat.beq f g)
theorem A1 {m:C3} (h:Cq P m) {f:FuncId} {a:List V} {v:V} (h1:BK a=true∧Aq v=true∧Pure P f a v):Cq P (Cj m f a v):=fun g e he=>by
 unfold Cj at he;cases hb:Nat.beq f g with
 | false=>rw[hb]at he;exact h g e he
 | true=>
   rw[hb]at he;have:=Ci hb;subst this;rcases G3.1 he with rfl|he
   ·exact h1
   ·exact h f e he
end Go.Gl
