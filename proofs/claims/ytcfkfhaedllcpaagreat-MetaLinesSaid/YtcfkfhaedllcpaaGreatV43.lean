import Derived.Test.YtcfkfhaedllcpaaGreatV42
set_option linter.all false
set_option linter.defProp false
set_option maxHeartbeats 8000000
noncomputable section
namespace Go.Gl
variable {P:Program}
structure CJ where
 M:Nat
 E:Env
abbrev Ak:=Option (Ac×CJ×St)
def K4 {α β:Type} (c:Bool) (x:Option α) (g:α->Option β):ob (bif c then x else none) g=bif c then ob x g else none:=by cases c<;>rfl
def lZ (env:Env) (n:Nat) (K:V->Ak):Ak:=@List.rec (Nat×V) (fun _=>Nat->(V->Ak)->Ak) (fun _ _=>none) (fun p _ ih n K=>@Bool.rec (fun _=>Ak) (ih n K) (K p.2) (Nat.beq p.1 n)) env n K
def nY (env:Env) (n:Nat) (K:V->Ak):lZ env n K=ob (get n env) K:=by
 induction env with
 | nil=>rfl
 | cons p r ih=>
   obtain⟨j,v⟩:=p;show @Bool.rec (fun _=>Ak) (lZ r n K) (K v) (Nat.beq j n)=ob (bif Nat.beq j n then some v else get n r) K;cases Nat.beq j n
   .exact ih
   .rfl
def TQ {α:Type} (cs:List α) (i:Nat) (K:α->Ak):Ak:=@List.rec α (fun _=>Nat->(α->Ak)->Ak) (fun _ _=>none) (fun v _ ih i K=>@Nat.rec (fun _=>Ak) (K v) (fun j _=>ih j K) i) cs i K
def Lw {α:Type} (cs:List α): ∀(i:Nat) (K:α->Ak),TQ cs i K=ob cs[i]? K:=by
 induction cs with
 | nil=>intro i K;rfl
 | cons v r ih=>
   intro i K;cases i with
   | zero=>rfl
   | succ j=>exact ih j K
def GL {α:Type} (cs:List α):Nat:=@List.rec α (fun _=>Nat) 0 (fun _ _ ih=>Nat.succ ih) cs
def Ff {α:Type} (cs:List α):GL cs=cs.length:=by
 induction cs with
 | nil=>rfl
 | cons v r ih=>show Nat.succ (GL r)=_;rw[ih];rfl
def VY {α:Type} (cs:List α) (n:Nat):List α:=@Nat.rec (fun _=>List α->List α) (fun cs=>cs) (fun _ ih cs=>@List.rec α (fun _=>(List α->List α)->List α) (fun _=>[]) (fun _ r _ ih=>ih r) cs ih) n cs
def QA {α:Type}: ∀(n:Nat) (cs:List α),VY cs n=cs.drop n
 | 0,cs=>rfl
 | n+1,[]=>rfl
 | n+1,v::r=>QA n r
def ZD {α:Type} (cs:List α) (n:Nat):List α:=@List.rec α (fun _=>Nat->List α) (fun _=>[]) (fun v _ ih n=>@Nat.rec (fun _=>List α) [] (fun j _=>v::ih j) n) cs n
def ie {α:Type} (cs:List α): ∀n:Nat,ZD cs n=cs.take n:=by
 induction cs with
 | nil=>intro n;cases n<;>rfl
 | cons v r ih=>
   intro n;cases n with
   | zero=>rfl
   | succ j=>show v::ZD r j=_;rw[ih];rfl
def XZ {α:Type} (cs:List α) (n:Nat) (x:α):List α:=@List.rec α (fun _=>Nat->α->List α) (fun _ _=>[]) (fun v r ih n x=>@Nat.rec (fun _=>List α) (x::r) (fun j _=>v::ih j x) n) cs n x
def T8 {α:Type} (cs:List α) (x:α): ∀n:Nat,XZ cs n x=cs.set n x:=by
 induction cs with
 | nil=>intro n;rfl
 | cons v r ih=>
   intro n;cases n with
   | zero=>rfl
   | succ j=>show v::XZ r j x=_;rw[ih];rfl
def qm {α:Type} (f:α->Bool) (cs:List α):Bool:=@List.rec α (fun _=>(α->Bool)->Bool) (fun _=>true) (fun v _ ih f=>@Bool.rec (fun _=>Bool) false (ih f) (f v)) cs f
def oa {α:Type} (f:α->Bool) (cs:List α):qm f cs=cs.all f:=by
 induction cs with
 | nil=>rfl
 | cons v r ih=>
   show @Bool.rec (fun _=>Bool) false (qm f r) (f v)=_;rw[KK,ih];cases f v<;>rfl
def gx (v:V) (K:V->Ak):Ak:=@V.rec (fun _=>V->(V->Ak)->Ak) (fun _=>Unit) (fun _=>Unit) (fun _ v K=>K v) (fun _ _ v K=>K v) (fun _ v K=>K v) (fun v K=>K v) (fun _ _ v K=>@Bool.rec (fun _=>Ak) none (K v) (BJ v)) (fun _ _ v K=>@Bool.rec (fun _=>Ak) none (K v) (BJ v)) (fun _ _ _ v K=>@Bool.rec (fun _=>Ak) none (K v) (BJ v)) (fun _ _ _ v K=>@Bool.rec (fun _=>Ak) none (K v) (BJ v)) (fun _ _ _ _ v K=>@Bool.rec (fun _=>Ak) none (K v) (BJ v)) (fun _ _ _ _ v K=>@Bool.rec (fun _=>Ak) none (K v) (BJ v)) (fun _ v K=>@Bool.rec (fun _=>Ak) none (K v) (BJ v)) (fun v K=>K v) (fun _ _ _ _ _ v K=>@Bool.rec (fun _=>Ak) none (K v) (BJ v)) (fun v K=>K v) (fun _ _ _ v K=>@Bool.rec (fun _=>Ak) none (K v) (BJ v)) (fun v K=>K v) (fun _ _ v K=>@Bool.rec (fun _=>Ak) none (K v) (BJ v)) (fun _ _ v K=>@Bool.rec (fun _=>Ak) none (K v) (BJ v)) (fun v K=>@Bool.rec (fun _=>Ak) none (K v) (BJ v)) () (fun _ _ _ _=>()) () (fun _ _ _ _=>()) v v K
def BN {α:Type} (c:Bool) (x y:α): @Bool.rec (fun _=>α) y x c=bif c then x else y:=by cases c<;>rfl
def dj (v:V) (K:V->Ak):gx v K=ob (bif BJ v then some v else none) K:=by
 rw[K4];cases v<;>first|rfl|exact BN _ _ _
def Ol (M n:Nat):Bool:=Nat.beq (Nat.land (Nat.shiftRight M n) 1) 1
def TY (e:CJ) (n:Nat):Option V:=bif Ol e.1 n then get n e.2 else none
def JE (e:CJ) (env:Env):Prop:= ∀n,TY e n=get n env
def Bs (x:Bi) (e:CJ) (K:V->Ak):Ak:=@Bi.rec (fun _=>CJ->(V->Ak)->Ak) (fun n e K=>@Bool.rec (fun _=>Ak) none (lZ e.2 n K) (Ol e.1 n)) (fun v _ K=>gx v K) x e K
def BF {e:CJ} {env:Env} (he:JE e env) (x:Bi) (K:V->Ak):Bs x e K=ob (DS env x) K:=by
 cases x with
 | t n=>
   show @Bool.rec (fun _=>Ak) none (lZ e.2 n K) (Ol e.1 n)=ob (get n env) K;rw[<-he n,TY,BN,K4,nY]
 | c v=>exact dj v K
def Lg (l:List Bi) (env:CJ) (K:List V->Ak):Ak:=@List.rec Bi (fun _=>CJ->(List V->Ak)->Ak) (fun _ K=>K []) (fun x _ ih env K=>Bs x env fun v=>ih env fun vs=>K (v::vs)) l env K
def Bp {e:CJ} {env:Env} (he:JE e env): ∀(l:List Bi) (K:List V->Ak),Lg l e K=ob (Oa env l) K
 | [],K=>rfl
 | x ::r,K=>by
   show(Bs x e fun v=>Lg r e fun vs=>K (v::vs))=_;rw[BF he];simp only[Oa];cases DS env x with
   | none=>rfl
   | some v=>
     simp only[ob];rw[Bp he r];cases Oa env r<;>rfl
def Xb (x:Option Bi) (e:CJ) (K:Option V->Ak):Ak:=@Option.rec Bi (fun _=>CJ->(Option V->Ak)->Ak) (fun _ K=>K none) (fun x e K=>Bs x e fun v=>K (some v)) x e K
def Bx {e:CJ} {env:Env} (he:JE e env) (x:Option Bi) (K:Option V->Ak):Xb x e K=ob (Ku env x) K:=by
 cases x with
 | none=>rfl
 | some x=>
   show(Bs x e fun v=>K (some v))=_;rw[BF he];simp only[Ku];cases DS env x<;>rfl
def xf (k:IntKind):Nat:=@IntKind.rec (fun _=>Nat) 0 1 2 3 4 5 6 7 k
def M4 (a b:IntKind):Bool:=Nat.beq (xf a) (xf b)
def oA (a b:IntKind):M4 a b=decide (a=b):=by cases a<;>cases b<;>rfl
def xr (a b:Int):Int:=@Int.rec (fun _=>Int->Int) (fun m b=>@Int.rec (fun _=>Nat->Int) (fun n m=>Int.ofNat (Nat.add m n)) (fun n m=>Int.ofNat m+Int.negSucc n) b m) (fun m b=>Int.negSucc m+b) a b
def oo (a b:Int):xr a b=a+b:=by cases a<;>cases b<;>rfl
def xX (a b:Int):Int:=@Int.rec (fun _=>Int->Int) (fun m b=>@Int.rec (fun _=>Nat->Int) (fun n m=>@Bool.rec (fun _=>Int) (Int.negSucc (Nat.sub n (Nat.succ m))) (Int.ofNat (Nat.sub m n)) (Nat.ble n m)) (fun n m=>Int.ofNat m - Int.negSucc n) b m) (fun m b=>Int.negSucc m - b) a b
def mA (a b:Int):xX a b=a - b:=by
 cases a with
 | negSucc m=>rfl
 | ofNat m=>
   cases b with
   | negSucc n=>rfl
   | ofNat n=>
     show @Bool.rec (fun _=>Int) (Int.negSucc (n - (m+1))) (Int.ofNat (m - n)) (Nat.ble n m)=_;cases h:Nat.ble n m with
     | true=>
       have:=Nat.le_of_ble_eq_true h;show Int.ofNat (m - n)=(m:Int) - (n:Int);simp only[Int.ofNat_eq_natCast];omega
     | false=>
       have: ¬n<=m:=fun h'=>by rw[Nat.ble_eq_true_of_le h']at h;cases h
       show Int.negSucc (n - (m+1))=(m:Int) - (n:Int);omega
def eP (a b:Int):Bool:=@Int.rec (fun _=>Int->Bool) (fun m b=>@Int.rec (fun _=>Nat->Bool) (fun n m=>Nat.ble (Nat.succ m) n) (fun _ _=>false) b m) (fun m b=>@Int.rec (fun _=>Nat->Bool) (fun _ _=>true) (fun n m=>Nat.ble (Nat.succ n) m) b m) a b
def Tk (a b:Int):eP a b=Mw a b:=by cases a<;>cases b<;>rfl
def z7 (a b:Int):Bool:=@Int.rec (fun _=>Int->Bool) (fun m b=>@Int.rec (fun _=>Nat->Bool) (fun n m=>Nat.beq m n) (fun _ _=>false) b m) (fun m b=>@Int.rec (fun _=>Nat->Bool) (fun _ _=>false) (fun n m=>Nat.beq m n) b m) a b
def sm (a b:Int):z7 a b=bR a b:=by cases a<;>cases b<;>rfl
def TR (b:Bool):Bool:=@Bool.rec (fun _=>Bool) true false b
def mq (b:Bool):TR b= !b:=by cases b<;>rfl
def eV (a:Int):Nat:=@Int.rec (fun _=>Nat) (fun n=>n) (fun _=>0) a
def PZ (a:Int):eV a=a.toNat:=by cases a<;>rfl
def ZC (k:IntKind) (n:Int):Int:=@IntKind.rec (fun _=>Int->Int) (fun n=>IntKind.i8.wrap n) (fun n=>IntKind.i16.wrap n) (fun n=>IntKind.i32.wrap n)
 (fun n=>@Int.rec (fun _=>Int) (fun m=>@Bool.rec (fun _=>Int) (IntKind.i64.wrap (Int.ofNat m)) (Int.ofNat m) (Nat.ble m 9223372036854775807)) (fun m=>@Bool.rec (fun _=>Int) (IntKind.i64.wrap (Int.negSucc m)) (Int.negSucc m) (Nat.ble m 9223372036854775807)) n)
 (fun n=>IntKind.u8.wrap n) (fun n=>IntKind.u16.wrap n) (fun n=>IntKind.u32.wrap n)
 (fun n=>@Int.rec (fun _=>Int) (fun m=>@Bool.rec (fun _=>Int) (IntKind.u64.wrap (Int.ofNat m)) (Int.ofNat m) (Nat.ble m 18446744073709551615)) (fun m=>IntKind.u64.wrap (Int.negSucc m)) n) k n
def iU (k:IntKind) (n:Int):ZC k n=k.wrap n:=by
 cases k<;>try rfl
 .cases n with
  | ofNat m=>
    have:=Jc .i64 (.ofNat m);simp only[Ij]at this;rw[<-this];show @Bool.rec (fun _=>Int) _ _ _=_;cases Nat.ble m 9223372036854775807<;>rfl
  | negSucc m=>
    show @Bool.rec (fun _=>Int) (IntKind.i64.wrap (Int.negSucc m)) (Int.negSucc m) (Nat.ble m 9223372036854775807)=_;cases h:Nat.ble m 9223372036854775807 with
    | false=>rfl
    | true=>
      have:=Nat.le_of_ble_eq_true h;show Int.negSucc m=_;exact(wrap64 (by omega) (by omega)).symm
 .cases n with
  | ofNat m=>
    have:=Jc .u64 (.ofNat m);simp only[Ij]at this;rw[<-this];show @Bool.rec (fun _=>Int) _ _ _=_;cases Nat.ble m 18446744073709551615<;>rfl
  | negSucc m=>rfl
def xY (k:IntKind) (a b:Int):Int:=@Int.rec (fun _=>Int->IntKind->Int) (fun m b _=>Int.ofNat (Nat.shiftRight m (Nat.min (eV b) k.bits))) (fun m b k=>(Int.negSucc m).fdiv (2 ^ (min b.toNat k.bits))) a b k
def mF (k:IntKind) (a b:Int):xY k a b=a.fdiv (2 ^ (min b.toNat k.bits)):=by
 cases a with
 | negSucc m=>rfl
 | ofNat m=>
   show Int.ofNat (m >>> (min (eV b) k.bits))=_;rw[PZ,Nat.shiftRight_eq_div_pow];have:(2:Int) ^ (min b.toNat k.bits)=((2 ^ (min b.toNat k.bits):Nat):Int):=by simp
   rw[this];exact(Int.ofNat_fdiv _ _)
def xZ (k:IntKind) (a b:Int):Int:=@Int.rec (fun _=>Int->IntKind->Int) (fun m b _=>Int.ofNat (Nat.shiftLeft m (Nat.min (eV b) k.bits))) (fun m b k=>(Int.negSucc m)*(2 ^ (min b.toNat k.bits))) a b k
def mG (k:IntKind) (a b:Int):xZ k a b=a*(2 ^ (min b.toNat k.bits)):=by
 cases a with
 | negSucc m=>rfl
 | ofNat m=>
   show Int.ofNat (m <<< (min (eV b) k.bits))=_;rw[PZ,Nat.shiftLeft_eq];simp
def zR (v:V) (K:IntKind->Int->Ak):Ak:=@V.rec (fun _=>(IntKind->Int->Ak)->Ak) (fun _=>Unit) (fun _=>Unit) (fun _ K=>none) (fun k n K=>K k n) (fun _ K=>none) (fun K=>none) (fun _ _ K=>none) (fun _ _ K=>none) (fun _ _ _ K=>none) (fun _ _ _ K=>none) (fun _ _ _ _ K=>none) (fun _ _ _ _ K=>none) (fun _ K=>none) (fun K=>none) (fun _ _ _ _ _ K=>none) (fun K=>none) (fun _ _ _ K=>none) (fun K=>none) (fun _ _ K=>none) (fun _ _ K=>none) (fun K=>none) () (fun _ _ _ _=>()) () (fun _ _ _ _=>()) v K
def zO:V->Option (IntKind×Int)| .i k n=>some (k,n)|_=>none
def X7 (v:V) (K:IntKind->Int->Ak):zR v K=ob (zO v) fun p=>K p.1 p.2:=by cases v<;>rfl
def lk (op:BinOp) (vx vy:V) (K:V->Ak):Ak:=zR vx fun ka a=>zR vy fun kb b=>@BinOp.rec (fun _=>IntKind->Int->IntKind->Int->(V->Ak)->Ak) (fun ka a kb b K=>@Bool.rec (fun _=>Ak) none (K (.i ka (ZC ka (xr a b)))) (M4 ka kb)) (fun ka a kb b K=>@Bool.rec (fun _=>Ak) none (K (.i ka (ZC ka (xX a b)))) (M4 ka kb)) (fun ka a kb b K=>ob (VE .mul (.i ka a) (.i kb b)) K) (fun ka a kb b K=>ob (VE .quo (.i ka a) (.i kb b)) K) (fun ka a kb b K=>ob (VE .rem (.i ka a) (.i kb b)) K) (fun ka a kb b K=>@Bool.rec (fun _=>Ak) none (K (.i ka (PY .and ka a b))) (M4 ka kb)) (fun ka a kb b K=>@Bool.rec (fun _=>Ak) none (K (.i ka (PY .or ka a b))) (M4 ka kb)) (fun ka a kb b K=>@Bool.rec (fun _=>Ak) none (K (.i ka (PY .xor ka a b))) (M4 ka kb)) (fun ka a kb b K=>@Bool.rec (fun _=>Ak) none (K (.i ka (ZC ka (xZ ka a b)))) (TR (eP b 0))) (fun ka a kb b K=>@Bool.rec (fun _=>Ak) none (K (.i ka (xY ka a b))) (TR (eP b 0))) (fun ka a kb b K=>@Bool.rec (fun _=>Ak) none (K (.i ka (PY .andNot ka a b))) (M4 ka kb)) (fun ka a kb b K=>@Bool.rec (fun _=>Ak) none (K (.b (z7 a b))) (M4 ka kb)) (fun ka a kb b K=>@Bool.rec (fun _=>Ak) none (K (.b (TR (z7 a b)))) (M4 ka kb)) (fun ka a kb b K=>@Bool.rec (fun _=>Ak) none (K (.b (eP a b))) (M4 ka kb)) (fun ka a kb b K=>@Bool.rec (fun _=>Ak) none (K (.b (TR (eP b a)))) (M4 ka kb)) (fun ka a kb b K=>@Bool.rec (fun _=>Ak) none (K (.b (eP b a))) (M4 ka kb)) (fun ka a kb b K=>@Bool.rec (fun _=>Ak) none (K (.b (TR (eP a b)))) (M4 ka kb)) op ka a kb b K
def oW (op:BinOp) (vx vy:V) (K:V->Ak):lk op vx vy K=ob (VE op vx vy) K:=by
 unfold lk;rw[X7];cases vx<;>first|rfl|skip
 rename_i ka a;simp only[zO,ob];rw[X7];cases vy<;>first|(cases op<;>rfl)|skip
 rename_i kb b;simp only[zO,ob];cases op<;>first|rfl|skip
 all_goals
  simp only[VE];simp only[BN,oA,iU,oo,mA,sm,Tk,mq,mG,mF,Jc,O7,ob]
  first
   | (cases decide (ka=kb)<;>rfl)
   | (cases Mw b 0<;>rfl)
def bf {α:Type} (t:Tr α) (k:Nat):Option α:=@Tr.rec α (fun _=>Nat->Option α) (fun _=>none) (fun o _ _ ihl ihr k=>@Nat.rec (fun _=>Option α) o (fun j _=>@Bool.rec (fun _=>Option α) (ihr (Nat.div j 2)) (ihl (Nat.div j 2)) (Nat.beq (Nat.mod j 2) 0)) k) t k
def UP {α:Type} (t:Tr α): ∀k:Nat,bf t k=t.get k:=by
 induction t with
 | leaf=>intro k;rfl
 | node o l r ihl ihr=>
   intro k;cases k with
   | zero=>rfl
   | succ j=>
     show @Bool.rec (fun _=>Option α) (bf r (j / 2)) (bf l (j / 2)) (Nat.beq (j % 2) 0)=bif Nat.beq (j % 2) 0 then l.get (j / 2)else r.get (j / 2);rw[ihl,ihr];cases Nat.beq (j % 2) 0<;>rfl
def TP {α β:Type} (x:Option α) (d:Nat) (t:Tr α) (k:Nat) (K:Tr α->β):β:=
 @Nat.rec (fun _=>Tr α->Nat->(Tr α->β)->β) (fun t _ K=>K t)
  (fun _ ih t k K=>@Tr.rec α (fun _=>Nat->(Tr α->β)->β)
   (fun k K=>@Nat.rec (fun _=>β) (K (.node x .leaf .leaf)) (fun j _=>@Bool.rec (fun _=>β) (ih .leaf (Nat.div j 2) fun r=>K (.node none .leaf r)) (ih .leaf (Nat.div j 2) fun l=>K (.node none l .leaf)) (Nat.beq (Nat.mod j 2) 0)) k)
   (fun o l r _ _ k K=>@Nat.rec (fun _=>β) (K (.node x l r)) (fun j _=>@Bool.rec (fun _=>β) (ih r (Nat.div j 2) fun r=>K (.node o l r)) (ih l (Nat.div j 2) fun l=>K (.node o l r)) (Nat.beq (Nat.mod j 2) 0)) k) t k K) d t k K
def Gw {α β:Type} (x:Option α): ∀(d:Nat) (t:Tr α) (k:Nat) (K:Tr α->β),TP x d t k K=Tr.put x d t k K
 | 0,t,k,K=>rfl
 | d+1,.leaf,0,K=>rfl
 | d+1,.node _ _ _,0,K=>rfl
 | d+1,.leaf,j+1,K=>by
   show @Bool.rec (fun _=>β) (TP x d .leaf (j / 2) fun r=>K (.node none .leaf r)) (TP x d .leaf (j / 2) fun l=>K (.node none l .leaf)) (Nat.beq (j % 2) 0)=bif Nat.beq (j % 2) 0 then _ else _;rw[Gw x d,Gw x d,BN]
 | d+1,.node o l r,j+1,K=>by
   show @Bool.rec (fun _=>β) (TP x d r (j / 2) fun r=>K (.node o l r)) (TP x d l (j / 2) fun l=>K (.node o l r)) (Nat.beq (j % 2) 0)=bif Nat.beq (j % 2) 0 then _ else _;rw[Gw x d,Gw x d,BN]
def ez (s:St) (o:EO) (K:Nat->St->Ak):Ak:=@Nat.rec (fun _=>Ak) (TP (some o) BA s.t 0 fun t=>K 0 ⟨1,t⟩) (fun n _=>@Bool.rec (fun _=>Ak) none (TP (some o) BA s.t (Nat.succ n) fun t=>K (Nat.succ n) ⟨Nat.succ (Nat.succ n),t⟩) (Nat.ble (Nat.succ n) M3)) s.nx
def mz {γ:Type} (s:St) (o:EO) (f:Nat->St->Option γ) (K:γ->Ak):ob (s.new o f) K=ez s o fun i s'=>ob (f i s') K:=by
 obtain⟨n,t⟩:=s;cases n with
 | zero=>
   unfold ez;simp only[St.new];rw[Gw,Tr.put_eq,Tr.put_eq];rfl
 | succ n=>
   unfold ez;simp only[St.new];rw[Gw,Tr.put_eq,Tr.put_eq,BN,K4]
def yG (o:EO) (K:List V->Ak):Ak:=@EO.rec (fun _=>(List V->Ak)->Ak) (fun vs K=>K vs) (fun _ _ _=>none) (fun _ _=>none) (fun _ _ _ _ _ _=>none) o K
def rW (o:EO) (K:Nat->List (List V)->Ak):Ak:=@EO.rec (fun _=>(Nat->List (List V)->Ak)->Ak) (fun _ _=>none) (fun sz es K=>K sz es) (fun _ _=>none) (fun _ _ _ _ _ _=>none) o K
def zw {α:Type} (o:Option α) (K:α->Ak):Ak:=@Option.rec α (fun _=>(α->Ak)->Ak) (fun _=>none) (fun a K=>K a) o K
def gI {α:Type} (o:Option α) (K:α->Ak):zw o K=ob o K:=by cases o<;>rfl
def ZM (s:St) (n:Nat) (K:List V->Ak):Ak:=zw (bf s.t n) fun o=>yG o K
def Tq (s:St) (n:Nat) (K:Nat->List (List V)->Ak):Ak:=zw (bf s.t n) fun o=>rW o K
def WK (s:St) (n:Nat) (K:List V->Ak):ZM s n K=match s.t.get n with|some (.cs vs)=>K vs|_=>none:=by
 unfold ZM;rw[gI,UP];cases s.t.get n with
 | none=>rfl
 | some o=>cases o<;>rfl
def Sm (s:St) (n:Nat) (K:Nat->List (List V)->Ak):Tq s n K=match s.t.get n with|some (.arr sz es)=>K sz es|_=>none:=by
 unfold Tq;rw[gI,UP];cases s.t.get n with
 | none=>rfl
 | some o=>cases o<;>rfl
def Xf (agg:Option Nat) (cs:List V) (off:Nat) (K:V->Ak):Ak:=@Option.rec Nat (fun _=>List V->Nat->(V->Ak)->Ak) (fun cs off K=>TQ cs off K)
 (fun n cs off K=>@Bool.rec (fun _=>Ak) (@Bool.rec (fun _=>Ak) none (K (.a (ZD (VY cs off) n))) (Nat.ble (Nat.add off n) (GL cs))) (K (.a cs)) (@Bool.rec (fun _=>Bool) false (Nat.beq n (GL cs)) (Nat.beq off 0))) agg cs off K
def O4 (agg:Option Nat) (cs:List V) (off:Nat) (K:V->Ak):Xf agg cs off K=ob (VC agg cs off) K:=by
 cases agg with
 | none=>exact Lw cs off K
 | some n=>
   show @Bool.rec (fun _=>Ak) (@Bool.rec (fun _=>Ak) none (K (.a (ZD (VY cs off) n))) (Nat.ble (off+n) (GL cs))) (K (.a cs)) (@Bool.rec (fun _=>Bool) false (Nat.beq n (GL cs)) (Nat.beq off 0))=_;simp only[VC];rw[ie,QA,Ff,K4];cases h1:Nat.beq off 0 with
   | false=>exact BN _ _ _
   | true=>
     cases h2:Nat.beq n cs.length with
     | false=>exact BN _ _ _
     | true=>
       have:=Cx h1;subst this;have:=Cx h2;subst this;show K (.a cs)=_;rw[Nat.ble_eq_true_of_le (by omega)];simp[ob]
def fS (s:St) (agg:Option Nat) (x:V) (K:V->Ak):Ak:=@V.rec (fun _=>St->Option Nat->(V->Ak)->Ak) (fun _=>Unit) (fun _=>Unit) (fun _ s agg K=>none) (fun _ _ s agg K=>none) (fun _ s agg K=>none) (fun s agg K=>none) (fun n off s agg K=>ZM s n fun vs=>Xf agg vs off K) (fun cs _ s agg K=>Xf agg cs 0 K) (fun _ _ _ s agg K=>none) (fun _ _ _ s agg K=>none) (fun _ _ _ _ s agg K=>none) (fun n sz i off s agg K=>Tq s n fun sz1 es=>@Bool.rec (fun _=>Ak) none (TQ es i fun e=>Xf agg e off K) (Nat.beq sz sz1)) (fun _ s agg K=>none) (fun s agg K=>none) (fun _ _ _ _ _ s agg K=>none) (fun s agg K=>none) (fun _ _ _ s agg K=>none) (fun s agg K=>none) (fun _ _ s agg K=>none) (fun _ _ s agg K=>none) (fun s agg K=>none) () (fun _ _ _ _=>()) () (fun _ _ _ _=>()) x s agg K
def jZ (s:St) (agg:Option Nat) (x:V) (K:V->Ak):fS s agg x K=ob (OB s agg x) K:=by
 cases x<;>first|rfl|skip
 .rename_i n off
  refine(WK _ _ _).trans ?_;simp only[OB];cases s.t.get n with
  | none=>rfl
  | some o=>cases o<;>first|rfl|exact O4 _ _ _ _
 .exact O4 _ _ _ _
 .rename_i n sz i off
  refine(Sm _ _ _).trans ?_;simp only[OB];cases s.t.get n with
  | none=>rfl
  | some o=>
    cases o<;>first|rfl|skip
    rename_i sz1 es;simp only;rw[BN,K4,Lw];congr 1;cases es[i]? with
    | none=>rfl
    | some e=>exact O4 _ _ _ _
def HH (v:V) (K:List V->Ak):Ak:=@V.rec (fun _=>V->(List V->Ak)->Ak) (fun _=>Unit) (fun _=>Unit) (fun _ v K=>K [v]) (fun _ _ v K=>K [v]) (fun _ v K=>K [v]) (fun v K=>K [v]) (fun _ _ v K=>K [v]) (fun _ _ v K=>K [v]) (fun _ _ _ v K=>K [v]) (fun _ _ _ v K=>K [v]) (fun _ _ _ _ v K=>K [v]) (fun _ _ _ _ v K=>K [v]) (fun _ v K=>K [v]) (fun v K=>K [v]) (fun _ _ _ _ _ v K=>K [v]) (fun v K=>K [v]) (fun _ _ _ v K=>K [v]) (fun v K=>K [v]) (fun cs _ v K=>K cs) (fun _ _ v K=>none) (fun v K=>none) () (fun _ _ _ _=>()) () (fun _ _ _ _=>()) v v K
def H3 (v:V) (K:List V->Ak):HH v K=ob (cellsOf v) K:=by cases v<;>rfl
def xb (v:V):Bool:=@V.rec (fun _=>Bool) (fun _=>Unit) (fun _=>Unit) (fun _=>true) (fun _ _=>true) (fun _=>true) (true) (fun _ _=>true) (fun _ _=>true) (fun _ _ _=>true) (fun _ _ _=>true) (fun _ _ _ _=>true) (fun _ _ _ _=>true) (fun _=>true) (true) (fun _ _ _ _ _=>true) (true) (fun _ _ _=>true) (true) (fun _ _=>false) (fun _ _=>false) (false) () (fun _ _ _ _=>()) () (fun _ _ _ _=>()) v
def ml:xb=CE:=funext fun v=>by cases v<;>rfl
def eo (cs:List V) (o:Nat) (vc:List V):List V:=@List.rec V (fun _=>List V->Nat->List V) (fun cs _=>cs) (fun v _ ih cs o=>ih (XZ cs o v) (Nat.succ o)) vc cs o
def Ov: ∀(vc cs:List V) (o:Nat),eo cs o vc=putAt cs o vc
 | [],_,_=>rfl
 | v::r,cs,o=>by
   show eo (XZ cs o v) (o+1) r=_;rw[Ov r,T8];rfl
def lU (cs:List V) (o:Nat) (vc:List V):List V:=@Bool.rec (fun _=>List V) (eo cs o vc) vc (@Bool.rec (fun _=>Bool) false (Nat.beq (GL vc) (GL cs)) (Nat.beq o 0))
def cP: ∀(vc pre cs:List V),vc.length=cs.length->putAt (pre++cs) pre.length vc=pre++vc:=by
 intro vc
 induction vc with
 | nil=>intro pre cs hl;cases cs with
   | nil=>rfl
   | cons _ _=>cases hl
 | cons x vc ih=>
   intro pre cs hl;cases cs with
   | nil=>cases hl
   | cons y cs=>
     simp only[putAt];rw[List.set_append_right _ _ (I3 _),Nat.sub_self,List.set_cons_zero];have:=ih (pre++[x]) cs (by simpa using hl);simp only[Ro,JD,List.length_nil,G3,XO,List.singleton_append]at this;exact this
def Zn (cs:List V) (o:Nat) (vc:List V):lU cs o vc=putAt cs o vc:=by
 unfold lU;cases h1:Nat.beq o 0 with
 | false=>exact Ov vc cs o
 | true=>
   rw[Ff,Ff];cases h2:Nat.beq vc.length cs.length with
   | false=>exact Ov vc cs o
   | true=>
     have:=Cx h1;subst this;exact(cP vc [] cs (Cx h2)).symm
def fu (s:St) (sz:Nat) (a:V) (vc:List V) (K:St->Ak):Ak:=@V.rec (fun _=>St->Nat->List V->(St->Ak)->Ak) (fun _=>Unit) (fun _=>Unit) (fun _ s sz vc K=>none) (fun _ _ s sz vc K=>none) (fun _ s sz vc K=>none) (fun s sz vc K=>none) (fun n off s sz vc K=>ZM s n fun vs=>@Bool.rec (fun _=>Ak) none (TP (some (.cs (lU vs off vc))) BA s.t n fun t=>K ⟨s.nx,t⟩) (Nat.ble (Nat.add off sz) (GL vs))) (fun _ _ s sz vc K=>none) (fun _ _ _ s sz vc K=>none) (fun _ _ _ s sz vc K=>none) (fun _ _ _ _ s sz vc K=>none) (fun n s' i off s sz vc K=>Tq s n fun s1 es=>@Bool.rec (fun _=>Ak) none (@Bool.rec (fun _=>Ak) none (TQ es i fun e=>TP (some (.arr s1 (XZ es i (lU e off vc)))) BA s.t n fun t=>K ⟨s.nx,t⟩) (Nat.ble (Nat.add off sz) s')) (Nat.beq s' s1)) (fun _ s sz vc K=>none) (fun s sz vc K=>none) (fun _ _ _ _ _ s sz vc K=>none) (fun s sz vc K=>none) (fun _ _ _ s sz vc K=>none) (fun s sz vc K=>none) (fun _ _ s sz vc K=>none) (fun _ _ s sz vc K=>none) (fun s sz vc K=>none) () (fun _ _ _ _=>()) () (fun _ _ _ _=>()) a s sz vc K
def Td (s:St) (sz:Nat) (a x:V) (K:St->Ak):Ak:=HH x fun vc=>@Bool.rec (fun _=>Ak) none (@Bool.rec (fun _=>Ak) none (fu s sz a vc K) (qm xb vc)) (Nat.beq (GL vc) sz)
def b7 (s : St) (sz:Nat) (a x:V) (K:St->Ak):Td s sz a x K=ob (Pe s sz a x) K:=by
 unfold Td Pe;rw[H3];cases cellsOf x with
 | none=>rfl
 | some vc =>
   simp only[ob,Ff,oa,ml];cases Nat.beq vc.length sz with
   | false=>rfl
   | true=>
     cases vc.all CE with
     | false=>rfl
     | true=>
       simp only[Bool.and_true,cond_true];show fu s sz a vc K=_;cases a<;>first|rfl|skip
       .rename_i n off
        refine(WK _ _ _).trans ?_;simp only;cases s.t.get n with
        | none=>rfl
        | some o=>
          cases o<;>first|rfl|skip
          rename_i vs;simp only;rw[Gw,Tr.put_eq,Zn,Ff,BN,Tr.put_eq];show(bif Nat.ble (off+sz) vs.length then _ else none)=_;cases Nat.ble (off+sz) vs.length<;>rfl
       .rename_i n s' i off
        refine(Sm _ _ _).trans ?_;simp only;cases s.t.get n with
        | none=>rfl
        | some o=>
          cases o<;>first|rfl|skip
          rename_i s1 es;simp only;rw[BN,BN,Lw];show(bif Nat.beq s' s1 then(bif Nat.ble (off+sz) s' then _ else none)else none)=_;cases Nat.beq s' s1<;>cases Nat.ble (off+sz) s'<;>try rfl
          simp only[cond_true,Bool.and_true];cases es[i]? with
          | none=>rfl
          | some e=>
            simp only[ob];rw[Gw,Tr.put_eq,Zn,T8,Tr.put_eq]
def Xy (off:Nat) (x:V) (K:V->Ak):Ak:=@V.rec (fun _=>Nat->(V->Ak)->Ak) (fun _=>Unit) (fun _=>Unit) (fun _ off K=>none) (fun _ _ off K=>none) (fun _ off K=>none) (fun off K=>none) (fun n o off K=>K (.p n (Nat.add o off))) (fun cs _ off K=>K (.rp (VY cs off))) (fun _ _ _ off K=>none) (fun _ _ _ off K=>none) (fun _ _ _ _ off K=>none) (fun n sz i o off K=>K (.pe n sz i (Nat.add o off))) (fun _ off K=>none) (fun off K=>none) (fun _ _ _ _ _ off K=>none) (fun off K=>none) (fun _ _ _ off K=>none) (fun off K=>none) (fun _ _ off K=>none) (fun _ _ off K=>none) (fun off K=>none) () (fun _ _ _ _=>()) () (fun _ _ _ _=>()) x off K
def dV (off:Nat) (x:V) (K:V->Ak):Xy off x K=ob (Tx off x) K:=by
 cases x<;>first|rfl|skip
 show K (.rp (VY _ off))=_;rw[QA];rfl
def gV (sz:Nat) (x:V) (j:Int) (K:V->Ak):Ak:=@V.rec (fun _=>Nat->Int->(V->Ak)->Ak) (fun _=>Unit) (fun _=>Unit) (fun _ sz j K=>none) (fun _ _ sz j K=>none) (fun _ sz j K=>none) (fun sz j K=>none) (fun _ _ sz j K=>none) (fun _ _ sz j K=>none) (fun es _ _ sz j K=>TQ es (eV j) fun e=>@Bool.rec (fun _=>Ak) none (K (.rp e)) (Nat.beq (GL e) sz)) (fun n len _ sz j K=>@Bool.rec (fun _=>Ak) none (K (.pe n sz (eV j) 0)) (eP j (Int.ofNat len))) (fun n s off len sz j K=>@Bool.rec (fun _=>Ak) none (@Bool.rec (fun _=>Ak) none (K (.pe n sz (Nat.add off (eV j)) 0)) (eP j (Int.ofNat len))) (Nat.beq s sz)) (fun _ _ _ _ sz j K=>none) (fun _ sz j K=>none) (fun sz j K=>none) (fun _ _ _ _ _ sz j K=>none) (fun sz j K=>none) (fun _ _ _ sz j K=>none) (fun sz j K=>none) (fun _ _ sz j K=>none) (fun _ _ sz j K=>none) (fun sz j K=>none) () (fun _ _ _ _=>()) () (fun _ _ _ _=>()) x sz j K
def Xv (sz:Nat) (arr:Option Nat) (x i:V) (K:V->Ak):Ak:=@Option.rec Nat (fun _=>Nat->V->V->(V->Ak)->Ak) (fun sz x i K=>zR i fun _ j=>@Bool.rec (fun _=>Ak) (gV sz x j K) none (eP j 0)) (fun m sz x i K=>ob (NJ sz (some m) x i) K) arr sz x i K
def dA (sz:Nat) (arr:Option Nat) (x i:V) (K:V->Ak):Xv sz arr x i K=ob (NJ sz arr x i) K:=by
 cases arr with
 | some m=>rfl
 | none=>
   refine(X7 _ _).trans ?_;cases i<;>first|rfl|skip
   rename_i k j;simp only[zO,ob,NJ,O7,Tk];cases Mw j 0 with
   | true=>rfl
   | false=>
     show gV sz x j K=_;cases x<;>first|rfl|skip
     .rename_i es full
      show TQ es (eV j) _=_;rw[Lw,PZ];simp only[Bool.not_false,cond_true];cases es[j.toNat]? with
      | none=>rfl
      | some e=>
        simp only[ob,Ff];cases Nat.beq e.length sz<;>rfl
     .rename_i n len cap
      show @Bool.rec (fun _=>Ak) none (K (.pe n sz (eV j) 0)) (eP j (Int.ofNat len))=_;rw[PZ,Tk];simp only[Bool.not_false,cond_true];have:Mw j (Int.ofNat len)=Mw j (len:Int):=rfl;rw[this];cases Mw j (len:Int)<;>rfl
     .rename_i n s off len
      show @Bool.rec (fun _=>Ak) none (@Bool.rec (fun _=>Ak) none (K (.pe n sz (off+eV j) 0)) (eP j (Int.ofNat len))) (Nat.beq s sz)=_;rw[PZ,Tk];simp only[Bool.not_false,cond_true];have:Mw j (Int.ofNat len)=Mw j (len:Int):=rfl;rw[this];cases Nat.beq s sz<;>cases Mw j (len:Int)<;>rfl
def qZ (x:V) (K:V->Ak):Ak:=@V.rec (fun _=>(V->Ak)->Ak) (fun _=>Unit) (fun _=>Unit) (fun _ K=>none) (fun _ _ K=>none) (fun _ K=>none) (fun K=>none) (fun _ _ K=>none) (fun _ _ K=>none) (fun es _ _ K=>K (.i .i64 (Int.ofNat (GL es)))) (fun _ len _ K=>@Bool.rec (fun _=>Ak) none (K (.i .i64 (Int.ofNat len))) (Nat.ble len AX)) (fun _ _ _ len K=>@Bool.rec (fun _=>Ak) none (K (.i .i64 (Int.ofNat len))) (Nat.ble len AX)) (fun _ _ _ _ K=>none) (fun _ K=>none) (fun K=>none) (fun _ _ _ _ _ K=>none) (fun K=>none) (fun _ _ _ K=>none) (fun K=>none) (fun _ _ K=>none) (fun _ _ K=>none) (fun K=>none) () (fun _ _ _ _=>()) () (fun _ _ _ _=>()) x K
def m8 (x:V) (K:V->Ak):qZ x K=ob (bj x) K:=by
 cases x<;>first|rfl|skip
 .show K (.i .i64 (Int.ofNat (GL _)))=_
  rw[Ff];rfl
 .show @Bool.rec (fun _=>Ak) none _ (Nat.ble _ AX)=_
  rw[BN];simp only[bj];rw[K4];rfl
 .show @Bool.rec (fun _=>Ak) none _ (Nat.ble _ AX)=_
  rw[BN];simp only[bj];rw[K4];rfl
def Xp (x:V) (K:V->Ak):Ak:=@V.rec (fun _=>V->(V->Ak)->Ak) (fun _=>Unit) (fun _=>Unit) (fun _ x K=>none) (fun _ _ x K=>none) (fun _ x K=>none) (fun x K=>none) (fun _ _ x K=>K x) (fun _ _ x K=>K x) (fun _ _ _ x K=>none) (fun _ _ _ x K=>none) (fun _ _ _ _ x K=>none) (fun _ _ _ _ x K=>K x) (fun _ x K=>none) (fun x K=>none) (fun _ _ _ _ _ x K=>ob (NI x) K) (fun x K=>none) (fun _ _ _ x K=>none) (fun x K=>none) (fun _ _ x K=>none) (fun _ _ x K=>none) (fun x K=>none) () (fun _ _ _ _=>()) () (fun _ _ _ _=>()) x x K
def cb (x:V) (K:V->Ak):Xp x K=ob (NI x) K:=by cases x<;>rfl
def asT (v:V) (K:List V->Ak):Ak:=@V.rec (fun _=>(List V->Ak)->Ak) (fun _=>Unit) (fun _=>Unit) (fun _ K=>none) (fun _ _ K=>none) (fun _ K=>none) (fun K=>none) (fun _ _ K=>none) (fun _ _ K=>none) (fun _ _ _ K=>none) (fun _ _ _ K=>none) (fun _ _ _ _ K=>none) (fun _ _ _ _ K=>none) (fun _ K=>none) (fun K=>none) (fun _ _ _ _ _ K=>none) (fun K=>none) (fun _ _ _ K=>none) (fun K=>none) (fun _ _ K=>none) (fun vs _ K=>K vs) (fun K=>none) () (fun _ _ _ _=>()) () (fun _ _ _ _=>()) v K
def o5 (v:V) (K:Bool->Ak):Ak:=@V.rec (fun _=>(Bool->Ak)->Ak) (fun _=>Unit) (fun _=>Unit) (fun x K=>K x) (fun _ _ K=>none) (fun _ K=>none) (fun K=>none) (fun _ _ K=>none) (fun _ _ K=>none) (fun _ _ _ K=>none) (fun _ _ _ K=>none) (fun _ _ _ _ K=>none) (fun _ _ _ _ K=>none) (fun _ K=>none) (fun K=>none) (fun _ _ _ _ _ K=>none) (fun K=>none) (fun _ _ _ K=>none) (fun K=>none) (fun _ _ K=>none) (fun _ _ K=>none) (fun K=>none) () (fun _ _ _ _=>()) () (fun _ _ _ _=>()) v K
def asA (v:V) (K:List V->Ak):Ak:=@V.rec (fun _=>(List V->Ak)->Ak) (fun _=>Unit) (fun _=>Unit) (fun _ K=>none) (fun _ _ K=>none) (fun _ K=>none) (fun K=>none) (fun _ _ K=>none) (fun _ _ K=>none) (fun _ _ _ K=>none) (fun _ _ _ K=>none) (fun _ _ _ _ K=>none) (fun _ _ _ _ K=>none) (fun _ K=>none) (fun K=>none) (fun _ _ _ _ _ K=>none) (fun K=>none) (fun _ _ _ K=>none) (fun K=>none) (fun cs _ K=>K cs) (fun _ _ K=>none) (fun K=>none) () (fun _ _ _ _=>()) () (fun _ _ _ _=>()) v K
def Xd (v:V) (K:V->Ak):Ak:=@V.rec (fun _=>V->(V->Ak)->Ak) (fun _=>Unit) (fun _=>Unit) (fun x v K=>@Bool.rec (fun _=>Ak) (K (.b false)) (K (.b true)) x) (fun k n v K=>@Int.rec (fun _=>Ak) (fun m=>@Nat.rec (fun _=>Ak) (K (.i k (Int.ofNat 0))) (fun j _=>K (.i k (Int.ofNat (Nat.succ j)))) m) (fun m=>@Nat.rec (fun _=>Ak) (K (.i k (Int.negSucc 0))) (fun j _=>K (.i k (Int.negSucc (Nat.succ j)))) m) n) (fun _ v K=>K v) (fun v K=>K v) (fun _ _ v K=>K v) (fun _ _ v K=>K v) (fun _ _ _ v K=>K v) (fun _ _ _ v K=>K v) (fun _ _ _ _ v K=>K v) (fun _ _ _ _ v K=>K v) (fun _ v K=>K v) (fun v K=>K v) (fun _ _ _ _ _ v K=>K v) (fun v K=>K v) (fun _ _ _ v K=>K v) (fun v K=>K v) (fun _ _ v K=>K v) (fun _ _ v K=>K v) (fun v K=>K v) () (fun _ _ _ _=>()) () (fun _ _ _ _=>()) v v K
def aJ (v:V) (K:V->Ak):Xd v K=K v:=by
 cases v<;>first|rfl|skip
 .rename_i x;cases x<;>rfl
 .rename_i k n
  cases n with
  | ofNat m=>cases m<;>rfl
  | negSucc m=>cases m<;>rfl
def fin (o:Option (R×St)) (k kp:V->St->Ak):Ak:=match o with
 | some (.ret v,s)=>k v s
 | some (.Bd v,s)=>kp v s
 | none=>none
def CI (o:Option (R×St)) (k kp:V->St->Ak):Ak:=@Option.rec (R×St) (fun _=>(V->St->Ak)->(V->St->Ak)->Ak) (fun _ _=>none) (fun p k kp=>@R.rec (fun _=>St->(V->St->Ak)->(V->St->Ak)->Ak) (fun v s k _=>k v s) (fun v s _ kp=>kp v s) p.1 p.2 k kp) o k kp
def Bo (o:Option (R×St)) (k kp:V->St->Ak):CI o k kp=fin o k kp:=by
 cases o with
 | none=>rfl
 | some p=>
   obtain⟨r,s⟩:=p;cases r<;>rfl
def HF (o:Option V) (s:St) (k kp:V->St->Ak):fin (ov o s) k kp=ob o fun v=>k v s:=by cases o<;>rfl
def sj (o:Option St) (k kp:V->St->Ak):fin (os o) k kp=ob o fun s=>k (.t []) s:=by cases o<;>rfl
def BU {α:Type} (o:Option α) (f:α->Option (R×St)) (k kp:V->St->Ak):fin (ob o f) k kp=ob o fun a=>fin (f a) k kp:=by cases o<;>rfl
abbrev OK:=CF->CV->CP->CJ->St->(V->St->Ak)->(V->St->Ak)->Ak
def Tt (e:CJ) (ps:List (Nat×Nat×Bi)) (cs:List V) (K:List V->Ak):Ak:=@List.rec (Nat×Nat×Bi) (fun _=>List V->(List V->Ak)->Ak) (fun cs K=>K cs)
 (fun p _ ih cs K=>Bs p.2.2 e fun v=>HH v fun vc=>@Bool.rec (fun _=>Ak) none (@Bool.rec (fun _=>Ak) none (ih (eo cs p.1 vc) K) (Nat.ble (Nat.add p.1 p.2.1) (GL cs))) (Nat.beq (GL vc) p.2.1)) ps cs K
def Sy {e : CJ} {env:Env} (he:JE e env): ∀(ps:List (Nat×Nat×Bi)) (cs:List V) (K:List V->Ak),Tt e ps cs K=ob (NK env cs ps) K
 | [],cs,K=>rfl
 | (off, sz,x)::r,cs,K=>by
   show(Bs x e fun v=>HH v fun vc=>@Bool.rec (fun _=>Ak) none (@Bool.rec (fun _=>Ak) none (Tt e r (eo cs off vc) K) (Nat.ble (off+sz) (GL cs))) (Nat.beq (GL vc) sz))=_;rw[BF he];simp only[NK];cases DS env x with
   | none=>rfl
   | some v=>
     simp only[ob];rw[H3];cases cellsOf v with
     | none=>rfl
     | some vc=>
       simp only[ob,Ff,Ov];cases Nat.beq vc.length sz with
       | false=>rfl
       | true=>
         cases Nat.ble (off+sz) cs.length with
         | false=>rfl
         | true=>exact Sy he r _ K
def Tu (e:CJ) (sz:Nat) (ps:List (Nat×Bi)) (es:List (List V)) (K:List (List V)->Ak):Ak:=@List.rec (Nat×Bi) (fun _=>List (List V)->(List (List V)->Ak)->Ak) (fun es K=>K es)
 (fun p _ ih es K=>Bs p.2 e fun v=>HH v fun vc=>@Bool.rec (fun _=>Ak) none (@Bool.rec (fun _=>Ak) none (ih (XZ es p.1 vc) K) (Nat.ble (Nat.succ p.1) (GL es))) (Nat.beq (GL vc) sz)) ps es K
def S0 {e : CJ} {env:Env} (he:JE e env) (sz:Nat): ∀(ps:List (Nat×Bi)) (es:List (List V)) (K:List (List V)->Ak),Tu e sz ps es K=ob (NL env sz es ps) K
 | [],es,K=>rfl
 | (i, x)::r,es,K=>by
   show(Bs x e fun v=>HH v fun vc=>@Bool.rec (fun _=>Ak) none (@Bool.rec (fun _=>Ak) none (Tu e sz r (XZ es i vc) K) (Nat.ble (Nat.succ i) (GL es))) (Nat.beq (GL vc) sz))=_;rw[BF he];simp only[NL];cases DS env x with
   | none=>rfl
   | some v=>
     simp only[ob];rw[H3];cases cellsOf v with
     | none=>rfl
     | some vc=>
       simp only[ob,Ff,T8,Nat.blt,Nat.succ_eq_add_one];cases Nat.beq vc.length sz with
       | false=>rfl
       | true=>
         cases Nat.ble (i+1) es.length with
         | false=>rfl
         | true=>exact S0 he sz r _ K
def zM (o:Fx):OK:=@Fx.rec (fun _=>OK)
 (fun x cf cv cp env s kk kp=>Bs x env fun v=>kk v s)
 (fun x cf cv cp env s kk kp=>Bs x env fun v=>kk v s)
 (fun c a b cf cv cp env s kk kp=>Bs c env fun vc=>Bs a env fun va=>Bs b env fun vb=>o5 vc fun t=>@Bool.rec (fun _=>Ak) (kk vb s) (kk va s) t)
 (fun op x y cf cv cp env s kk kp=>Bs x env fun vx=>Bs y env fun vy=>lk op vx vy fun v=>kk v s)
 (fun neg x y cf cv cp env s kk kp=>Bs x env fun vx=>Bs y env fun vy=>CI (match vx,vy with| .b p,.b q=>some (.ret (.b (bif neg then p != q else p==q)),s)|_,_=>none) kk kp)
 (fun len neg x y cf cv cp env s kk kp=>Bs x env fun vx=>Bs y env fun vy=>CI (ov (fG len neg vx vy) s) kk kp)
 (fun kind neg x cf cv cp env s kk kp=>Bs x env fun vx=>CI (ov (fF kind neg vx) s) kk kp)
 (fun x cf cv cp env s kk kp=>Bs x env fun vx=>o5 vx fun p=>kk (.b (TR p)) s)
 (fun xor x cf cv cp env s kk kp=>Bs x env fun vx=>CI (match vx with| .i ka a=>some (.ret (.i ka (bif xor then bits .xor ka (bif ka.signed then -1 else ka.max) a else ka.wrap (0 - a))),s)|_=>none) kk kp)
 (fun k x cf cv cp env s kk kp=>Bs x env fun vx=>CI (match vx with| .i _ a=>some (.ret (.i k (Ij k a)),s)|_=>none) kk kp)
 (fun x cf cv cp env s kk kp=>Bs x env fun vx=>HH vx fun cs=>ez s (.cs cs) fun i s=>kk (.p i 0) s)
 (fun x cf cv cp env s kk kp=>Bs x env fun vx=>HH vx fun cs=>kk (.rp cs) s)
 (fun sz bytes x y cf cv cp env s kk kp=>Bs x env fun vx=>Bs y env fun vy=>CI (ov (VX bytes s sz vx vy) s) kk kp)
 (fun zero cf cv cp env s kk kp=>CI (bif B7 zero then s.new (.cs zero) fun i s=>some (.ret (.p i 0),s)else none) kk kp)
 (fun zero parts cf cv cp env s kk kp=>@Bool.rec (fun _=>Ak) none (Tt env parts zero fun cs=>kk (.a cs) s) (B7 zero))
 (fun sz len zero parts cf cv cp env s kk kp=>@Bool.rec (fun _=>Ak) none (Tu env (GL zero) parts (List.replicate len zero) fun es=>kk (.l es true) s) (B7 zero))
 (fun agg x cf cv cp env s kk kp=>Bs x env fun vx=>fS s agg vx fun v=>kk v s)
 (fun sz a x cf cv cp env s kk kp=>Bs a env fun va=>Bs x env fun vx=>Td s sz va vx fun s=>kk (.t []) s)
 (fun off x cf cv cp env s kk kp=>Bs x env fun vx=>Xy off vx fun v=>kk v s)
 (fun agg off x cf cv cp env s kk kp=>Bs x env fun vx=>asA vx fun cs=>Xf agg cs off fun v=>kk v s)
 (fun sz arr x i cf cv cp env s kk kp=>Bs x env fun vx=>Bs i env fun vi=>Xv sz arr vx vi fun v=>kk v s)
 (fun len sz agg x i cf cv cp env s kk kp=>Bs x env fun vx=>Bs i env fun vi=>CI (ov (Pg len sz agg vx vi) s) kk kp)
 (fun sz x lo hi mx cf cv cp env s kk kp=>Bs x env fun vx=>Xb lo env fun l=>Xb hi env fun h=>Xb mx env fun m=>CI (bO (Pf s sz vx l h m)) kk kp)
 (fun x cf cv cp env s kk kp=>Bs x env fun vx=>qZ vx fun v=>kk v s)
 (fun x cf cv cp env s kk kp=>Bs x env fun vx=>CI (ov (VV s vx) s) kk kp)
 (fun x cf cv cp env s kk kp=>Bs x env fun vx=>CI (ov (fE s vx) s) kk kp)
 (fun x i cf cv cp env s kk kp=>Bs x env fun vx=>Bs i env fun vi=>CI (ov (VU vx vi) s) kk kp)
 (fun sz bytes x y cf cv cp env s kk kp=>Bs x env fun vx=>Bs y env fun vy=>CI (bO (L6 bytes s sz vx vy)) kk kp)
 (fun sz x y cf cv cp env s kk kp=>Bs x env fun vx=>Bs y env fun vy=>CI (bO (VW s sz vx vy)) kk kp)
 (fun x y cf cv cp env s kk kp=>Bs x env fun vx=>Bs y env fun vy=>CI (match vx,vy with| .i ka a,.i kb b=>bif decide (ka=kb)then some (.ret (.i ka (bif Mw a b then b else a)),s)else none|_,_=>none) kk kp)
 (fun x y cf cv cp env s kk kp=>Bs x env fun vx=>Bs y env fun vy=>CI (match vx,vy with| .i ka a,.i kb b=>bif decide (ka=kb)then some (.ret (.i ka (bif Mw b a then b else a)),s)else none|_,_=>none) kk kp)
 (fun i x cf cv cp env s kk kp=>Bs x env fun vx=>asT vx fun vs=>TQ vs i fun v=>kk v s)
 (fun x cf cv cp env s kk kp=>Bs x env fun vx=>Xp vx fun v=>kk v s)
 (fun f first cap cf cv cp env s kk kp=>Lg first env fun vf=>Lg cap env fun vc=>@Bool.rec (fun _=>Ak) none (kk (.f f vf vc) s) (NA f))
 (fun cf cv cp env s kk kp=>CI (s.new (.map []) fun i s=>some (.ret (.m i),s)) kk kp)
 (fun sz bytes zero len cap cf cv cp env s kk kp=>Bs len env fun vx=>Bs cap env fun vy=>CI (bO (Jg s sz zero vx vy)) kk kp)
 (fun ks zero ok m k cf cv cp env s kk kp=>Bs m env fun vm=>Bs k env fun vk=>CI (ov (L4 s ks zero ok vm vk) s) kk kp)
 (fun ks m k v cf cv cp env s kk kp=>Bs m env fun vm=>Bs k env fun vk=>Bs v env fun vx=>CI (os (L3 s ks vm vk vx)) kk kp)
 (fun t x cf cv cp env s kk kp=>Bs x env fun vx=>kk (.E9 t vx) s)
 (fun t zero ok x cf cv cp env s kk kp=>Bs x env fun vx=>CI (ov (fD t zero ok vx) s) kk kp)
 (fun x cf cv cp env s kk kp=>Bs x env fun vx=>CI (match vx with| .E9 t v=>some (.Bd (.E9 t v),s)|_=>none) kk kp)
 (fun f args cf cv cp env s kk kp=>Lg args env fun vs=>CI (cf f vs s) kk kp)
 (fun f args cf cv cp env s kk kp=>Lg args env fun vs=>CI (ov (cp f vs) s) kk kp)
 (fun x args cf cv cp env s kk kp=>Bs x env fun vx=>Lg args env fun vs=>CI (cv vx vs s) kk kp)
 (fun x args cf cv cp env s kk kp=>none)
 (fun tab x args cf cv cp env s kk kp=>Bs x env fun vx=>Lg args env fun vs=>CI (match vx with| .E9 t v=>ob (look t tab) fun f=>cf f (v::vs) s|_=>none) kk kp) o
def jE {vc va vb:V} {s:St} {kk kp:V->St->Ak}:o5 vc (fun t=>@Bool.rec (fun _=>Ak) (kk vb s) (kk va s) t)=fin (match vc with| .b t=>some (.ret (bif t then va else vb),s)|_=>none) kk kp:=by
 cases vc<;>first|rfl|skip
 rename_i t;cases t<;>rfl
def not_eq {vx:V} {s:St} {kk kp:V->St->Ak}:o5 vx (fun p=>kk (.b (TR p)) s)=fin (match vx with| .b p=>some (.ret (.b (!p)),s)|_=>none) kk kp:=by
 cases vx<;>first|rfl|skip
 rename_i t;cases t<;>rfl
def US {c:Bool} {x:Option (R×St)} {kk kp:V->St->Ak}:fin (bif c then x else none) kk kp=bif c then fin x kk kp else none:=by cases c<;>rfl
def gG {e:CJ} {env:Env} (he:JE e env) (o:Fx) (cf:CF) (cv:CV) (cp:CP) (s:St) (kk kp:V->St->Ak):zM o cf cv cp e s kk kp=fin (Fw cf cv cp o env s) kk kp:=by
 cases o with
 | mv x=>
   show(Bs x e fun v=>kk v s)=_;simp only[BF he,Fw,HF]
 | lJ x=>
   show(Bs x e fun v=>kk v s)=_;simp only[BF he,Fw,HF]
 | pick c a b=>
   show(Bs c e fun vc=>Bs a e fun va=>Bs b e fun vb=>o5 vc fun t=>@Bool.rec (fun _=>Ak) (kk vb s) (kk va s) t)=_;simp only[BF he,Fw,BU,jE (kp:=kp)];rfl
 | bin op x y=>
   show(Bs x e fun vx=>Bs y e fun vy=>lk op vx vy fun v=>kk v s)=_;simp only[BF he,Fw,BU,HF,oW]
 | lC neg x y=>
   show(Bs x e fun vx=>Bs y e fun vy=>CI (match vx,vy with| .b p,.b q=>some (.ret (.b (bif neg then p != q else p==q)),s)|_,_=>none) kk kp)=_;simp only[BF he,Bp he,Bx he,Fw,BU,Bo]
   try rfl
 | XR len neg x y=>
   show(Bs x e fun vx=>Bs y e fun vy=>CI (ov (fG len neg vx vy) s) kk kp)=_;simp only[BF he,Bp he,Bx he,Fw,BU,Bo]
   try rfl
 | bQ kind neg x=>
   show(Bs x e fun vx=>CI (ov (fF kind neg vx) s) kk kp)=_;simp only[BF he,Bp he,Bx he,Fw,BU,Bo]
   try rfl
 | not x=>
   show(Bs x e fun vx=>o5 vx fun p=>kk (.b (TR p)) s)=_;simp only[BF he,Fw,BU,not_eq (kp:=kp)];rfl
 | neg xor x=>
   show(Bs x e fun vx=>CI (match vx with| .i ka a=>some (.ret (.i ka (bif xor then bits .xor ka (bif ka.signed then -1 else ka.max) a else ka.wrap (0 - a))),s)|_=>none) kk kp)=_;simp only[BF he,Bp he,Bx he,Fw,BU,Bo]
   try rfl
 | conv k x=>
   show(Bs x e fun vx=>CI (match vx with| .i _ a=>some (.ret (.i k (Ij k a)),s)|_=>none) kk kp)=_;simp only[BF he,Bp he,Bx he,Fw,BU,Bo]
   try rfl
 | box x=>
   show(Bs x e fun vx=>HH vx fun cs=>ez s (.cs cs) fun i s=>kk (.p i 0) s)=_;simp only[BF he,Fw,BU,H3];congr 1;funext vx;congr 1;funext cs;have: ∀o:Option (R×St),fin o kk kp=ob o fun p=>fin (some p) kk kp:=fun o=>by cases o<;>rfl
   rw[this,mz];rfl
 | M6 x=>
   show(Bs x e fun vx=>HH vx fun cs=>kk (.rp cs) s)=_;simp only[BF he,Fw,BU,H3];rfl
 | Ra sz bytes x y=>
   show(Bs x e fun vx=>Bs y e fun vy=>CI (ov (VX bytes s sz vx vy) s) kk kp)=_;simp only[BF he,Bp he,Bx he,Fw,BU,Bo]
   try rfl
 | alloc zero=>
   show(CI (bif B7 zero then s.new (.cs zero) fun i s=>some (.ret (.p i 0),s)else none) kk kp)=_;simp only[Bo,Fw]
 | build zero parts=>
   show(@Bool.rec (fun _=>Ak) none (Tt e parts zero fun cs=>kk (.a cs) s) (B7 zero))=_;simp only[Fw,US,BU,Sy he,BN];rfl
 | Dm sz len zero parts=>
   show(@Bool.rec (fun _=>Ak) none (Tu e (GL zero) parts (List.replicate len zero) fun es=>kk (.l es true) s) (B7 zero))=_;simp only[Fw,US,BU,S0 he,BN,Ff];rfl
 | load agg x=>
   show(Bs x e fun vx=>fS s agg vx fun v=>kk v s)=_;simp only[BF he,Fw,BU,HF,jZ]
 | store sz a x=>
   show(Bs a e fun va=>Bs x e fun vx=>Td s sz va vx fun s=>kk (.t []) s)=_;simp only[BF he,Fw,BU,sj,b7]
 | Ba off x=>
   show(Bs x e fun vx=>Xy off vx fun v=>kk v s)=_;simp only[BF he,Fw,BU,HF,dV]
 | field agg off x=>
   show(Bs x e fun vx=>asA vx fun cs=>Xf agg cs off fun v=>kk v s)=_;simp only[BF he,Fw,BU];congr 1;funext vx;cases vx<;>first|rfl|skip
   show Xf agg _ off _=_;rw[O4,HF]
 | JU sz arr x i=>
   show(Bs x e fun vx=>Bs i e fun vi=>Xv sz arr vx vi fun v=>kk v s)=_;simp only[BF he,Fw,BU,HF,dA]
 | index len sz agg x i=>
   show(Bs x e fun vx=>Bs i e fun vi=>CI (ov (Pg len sz agg vx vi) s) kk kp)=_;simp only[BF he,Bp he,Bx he,Fw,BU,Bo]
   try rfl
 | slice sz x lo hi mx=>
   show(Bs x e fun vx=>Xb lo e fun l=>Xb hi e fun h=>Xb mx e fun m=>CI (bO (Pf s sz vx l h m)) kk kp)=_;simp only[BF he,Bp he,Bx he,Fw,BU,Bo]
   try rfl
 | len x=>
   show(Bs x e fun vx=>qZ vx fun v=>kk v s)=_;simp only[BF he,Fw,BU,HF,m8]
 | TU x=>
   show(Bs x e fun vx=>CI (ov (VV s vx) s) kk kp)=_;simp only[BF he,Bp he,Bx he,Fw,BU,Bo]
   try rfl
 | str x=>
   show(Bs x e fun vx=>CI (ov (fE s vx) s) kk kp)=_;simp only[BF he,Bp he,Bx he,Fw,BU,Bo]
   try rfl
 | U1 x i=>
   show(Bs x e fun vx=>Bs i e fun vi=>CI (ov (VU vx vi) s) kk kp)=_;simp only[BF he,Bp he,Bx he,Fw,BU,Bo]
   try rfl
 | append sz bytes x y=>
   show(Bs x e fun vx=>Bs y e fun vy=>CI (bO (L6 bytes s sz vx vy)) kk kp)=_;simp only[BF he,Bp he,Bx he,Fw,BU,Bo]
   try rfl
 | copy sz x y=>
   show(Bs x e fun vx=>Bs y e fun vy=>CI (bO (VW s sz vx vy)) kk kp)=_;simp only[BF he,Bp he,Bx he,Fw,BU,Bo]
   try rfl
 | U3 x y=>
   show(Bs x e fun vx=>Bs y e fun vy=>CI (match vx,vy with| .i ka a,.i kb b=>bif decide (ka=kb)then some (.ret (.i ka (bif Mw a b then b else a)),s)else none|_,_=>none) kk kp)=_;simp only[BF he,Bp he,Bx he,Fw,BU,Bo]
   try rfl
 | U2 x y=>
   show(Bs x e fun vx=>Bs y e fun vy=>CI (match vx,vy with| .i ka a,.i kb b=>bif decide (ka=kb)then some (.ret (.i ka (bif Mw b a then b else a)),s)else none|_,_=>none) kk kp)=_;simp only[BF he,Bp he,Bx he,Fw,BU,Bo]
   try rfl
 | extract i x=>
   show(Bs x e fun vx=>asT vx fun vs=>TQ vs i fun v=>kk v s)=_;simp only[BF he,Fw,BU];congr 1;funext vx;cases vx<;>first|rfl|skip
   show TQ _ i _=_;rw[Lw,HF]
 | Ec x=>
   show(Bs x e fun vx=>Xp vx fun v=>kk v s)=_;simp only[BF he,Fw,BU,HF,cb]
 | Y6 f first cap=>
   show(Lg first e fun vf=>Lg cap e fun vc=>@Bool.rec (fun _=>Ak) none (kk (.f f vf vc) s) (NA f))=_;simp only[Bp he,Fw,US,BU,BN];rfl
 | N5=>
   show(CI (s.new (.map []) fun i s=>some (.ret (.m i),s)) kk kp)=_;simp only[Bo,Fw]
 | F4 sz bytes zero len cap=>
   show(Bs len e fun vx=>Bs cap e fun vy=>CI (bO (Jg s sz zero vx vy)) kk kp)=_;simp only[BF he,Bp he,Bx he,Fw,BU,Bo]
   try rfl
 | lookup ks zero ok m k=>
   show(Bs m e fun vm=>Bs k e fun vk=>CI (ov (L4 s ks zero ok vm vk) s) kk kp)=_;simp only[BF he,Bp he,Bx he,Fw,BU,Bo]
   try rfl
 | FQ ks m k v=>
   show(Bs m e fun vm=>Bs k e fun vk=>Bs v e fun vx=>CI (os (L3 s ks vm vk vx)) kk kp)=_;simp only[BF he,Bp he,Bx he,Fw,BU,Bo]
   try rfl
 | N6 t x=>
   show(Bs x e fun vx=>kk (.E9 t vx) s)=_;simp only[BF he,Fw,BU];rfl
 | bM t zero ok x=>
   show(Bs x e fun vx=>CI (ov (fD t zero ok vx) s) kk kp)=_;simp only[BF he,Bp he,Bx he,Fw,BU,Bo]
   try rfl
 | panic x=>
   show(Bs x e fun vx=>CI (match vx with| .E9 t v=>some (.Bd (.E9 t v),s)|_=>none) kk kp)=_;simp only[BF he,Bp he,Bx he,Fw,BU,Bo]
   try rfl
 | call f args=>
   show(Lg args e fun vs=>CI (cf f vs s) kk kp)=_;simp only[BF he,Bp he,Bx he,Fw,BU,Bo]
   try rfl
 | Hb f args=>
   show(Lg args e fun vs=>CI (ov (cp f vs) s) kk kp)=_;simp only[BF he,Bp he,Bx he,Fw,BU,Bo]
   try rfl
 | Ix x args=>
   show(Bs x e fun vx=>Lg args e fun vs=>CI (cv vx vs s) kk kp)=_;simp only[BF he,Bp he,Bx he,Fw,BU,Bo]
   try rfl
 | X4 x args=>
   rfl
 | inv tab x args=>
   show(Bs x e fun vx=>Lg args e fun vs=>CI (match vx with| .E9 t v=>ob (look t tab) fun f=>cf f (v::vs) s|_=>none) kk kp)=_;simp only[BF he,Bp he,Bx he,Fw,BU,Bo]
   try rfl
def qe (g:Bool) (t:Bool) (y:Ak) (n:Ak):Ak:=@Bool.rec (fun _=>Ak) (@Bool.rec (fun _=>Ak) y n g) (@Bool.rec (fun _=>Ak) n y g) t
def nU (g t:Bool) (y n:Ak):qe g t y n=bif t==g then y else n:=by cases g<;>cases t<;>rfl
def xh (v:V) (g:Bool) (y:Ak) (n:Ak):Ak:=@V.rec (fun _=>Bool->Ak->Ak->Ak) (fun _=>Unit) (fun _=>Unit) (fun t g y n=>qe g t y n) (fun _ _ g y n=>none) (fun _ g y n=>none) (fun g y n=>none) (fun _ _ g y n=>none) (fun _ _ g y n=>none) (fun _ _ _ g y n=>none) (fun _ _ _ g y n=>none) (fun _ _ _ _ g y n=>none) (fun _ _ _ _ g y n=>none) (fun _ g y n=>none) (fun g y n=>none) (fun _ _ _ _ _ g y n=>none) (fun g y n=>none) (fun _ _ _ g y n=>none) (fun g y n=>none) (fun _ _ g y n=>none) (fun vs _ g y n=>@List.rec V (fun _=>Ak->Ak) (fun n=>n) (fun _ _ _ _=>none) vs n) (fun g y n=>none) () (fun _ _ _ _=>()) () (fun _ _ _ _=>()) v g y n
def grdK (g:Nat×Bool) (o:Fx):OK:=fun cf cv cp e s kk kp=>Bs (.t g.1) e fun v=>xh v g.2 (zM o cf cv cp e s kk kp) (kk (.t []) s)
def XY (g:Option (Nat×Bool)) (o:Fx):OK:=@Option.rec (Nat×Bool) (fun _=>Fx->OK) (fun o=>zM o) (fun g o=>grdK g o) g o
def T7 {e:CJ} {env:Env} (he:JE e env) (d:Option Nat) (g:Option (Nat×Bool)) (o:Fx) (cf:CF) (cv:CV) (cp:CP) (s:St) (kk kp:V->St->Ak):XY g o cf cv cp e s kk kp=fin (JA cf cv cp ⟨d,o,g⟩ env s) kk kp:=by
 cases g with
 | none=>exact gG he o cf cv cp s kk kp
 | some g=>
   obtain⟨g,b⟩:=g;show(Bs (.t g) e fun v=>xh v b (zM o cf cv cp e s kk kp) (kk (.t []) s))=_;rw[BF he,gG he];simp only[JA,DS];cases get g env with
   | none=>rfl
   | some v=>
     simp only[ob];cases v<;>first|rfl|skip
     .rename_i t
      show qe b t _ _=_;rw[nU];simp only;cases t==b<;>rfl
     .rename_i vs
      cases vs<;>rfl
def N4 (d:Option Nat) (v:V) (e:CJ):CJ:=@Option.rec Nat (fun _=>V->CJ->CJ) (fun _ e=>e) (fun d v e=>⟨Nat.lor e.1 (Nat.shiftLeft 1 d),(d,v)::e.2⟩) d v e
def Kp (M n:Nat):Ol M n=M.testBit n:=by
 have h1:(M >>> n)&&&1=(M >>> n) % 2:=Nat.and_one_is_mod _;have h2:Ol M n=Nat.beq ((M >>> n)&&&1) 1:=rfl;rw[h2,h1,Nat.testBit_eq_decide_div_mod_eq,Nat.shiftRight_eq_div_pow];cases h:decide (M / 2 ^ n % 2=1)with
 | true=>rw[of_decide_eq_true h];rfl
 | false=>
   have:=of_decide_eq_false h;cases hb:Nat.beq (M / 2 ^ n % 2) 1 with
   | false=>rfl
   | true=>exact absurd (Up hb) this
def Pk (M d n:Nat):Ol (Nat.lor M (Nat.shiftLeft 1 d)) n=(Ol M n||Nat.beq d n):=by
 rw[Kp,Kp];show(M|||1 <<< d).testBit n=_;rw[Nat.testBit_or,Nat.one_shiftLeft,Nat.testBit_two_pow];congr 1;cases hb:Nat.beq d n with
 | true=>simp[Up hb]
 | false=>simpa using Nat.ne_of_beq_eq_false hb
def JE.push {e:CJ} {env:Env} (he:JE e env) (d:Option Nat) (v:V):JE (N4 d v e) (put d v env):=by
 cases d with
 | none=>exact he
 | some d=>
   intro n;show(bif Ol (Nat.lor e.1 (Nat.shiftLeft 1 d)) n then(bif Nat.beq d n then some v else get n e.2)else none)=bif Nat.beq d n then some v else get n env;rw[Pk,<-he n,TY];cases Nat.beq d n<;>cases Ol e.1 n<;>rfl
def ew (ops:List Ao) (cf:CF) (cv:CV) (cp:CP) (env:CJ) (s:St):Ak:=@List.rec Ao (fun _=>CF->CV->CP->CJ->St->Ak) (fun _ _ _ env s=>some (.normal,env,s))
 (fun o _ ih cf cv cp env s=>XY o.3 o.2 cf cv cp env s (fun v s=>Xd v fun v=>ih cf cv cp (N4 o.1 v env) s) (fun v s=>some (.Bd v,env,s))) ops cf cv cp env s
def Gp:Ak->Rs->Prop
 | some (x,e,s),some (x',env,s')=>x=x'/\s=s'/\JE e env
 | none,none=>True
 | _,_=>False
def Zt (cf:CF) (cv:CV) (cp:CP): ∀(ops:List Ao) {e:CJ} {env:Env} (s:St),JE e env->Gp (ew ops cf cv cp e s) (VA cf cv cp ops env s)
 | [],e,env,s,he=>⟨rfl,rfl,he⟩
 | o ::r,e,env,s,he=>by
   show Gp (XY o.3 o.2 cf cv cp e s (fun v s=>Xd v fun v=>ew r cf cv cp (N4 o.1 v e) s) (fun v s=>some (.Bd v,e,s))) _;rw[T7 he o.1];show Gp (fin (JA cf cv cp o env s) _ _) _;simp only[VA];cases JA cf cv cp o env s with
   | none=>trivial
   | some p=>
     obtain⟨x,s'⟩:=p;cases x with
     | Bd v=>exact⟨rfl,rfl,he⟩
     | ret v=>
       show Gp (Xd v fun v=>ew r cf cv cp (N4 o.1 v e) s') (ID v _);rw[aJ,Hv];exact Zt cf cv cp r s' (he.push o.1 v)
def xC (re:List Ao) (cf:CF) (cv:CV) (cp:CP) (e:CJ) (s:St) (K:Ak):Ak:=@List.rec Ao (fun _=>CF->CV->CP->CJ->St->Ak->Ak) (fun _ _ _ _ _ K=>K)
 (fun o _ ih cf cv cp e s K=>XY o.3 o.2 cf cv cp e s (fun u _=>@Option.rec Nat (fun _=>Ak) (ih cf cv cp e s K) (fun d=>Bs (.t d) e fun w=>@Bool.rec (fun _=>Ak) none (ih cf cv cp e s K) (Em u w)) o.1) (fun _ _=>none)) re cf cv cp e s K
def fw (cf:CF) (cv:CV) (cp:CP) {e:CJ} {env:Env} (he:JE e env) (s:St) (K:Ak): ∀re:List Ao,xC re cf cv cp e s K=bif lD cf cv cp re env s then K else none
 | []=>rfl
 | o ::r=>by
   show XY o.3 o.2 cf cv cp e s (fun u _=>@Option.rec Nat (fun _=>Ak) (xC r cf cv cp e s K) (fun d=>Bs (.t d) e fun w=>@Bool.rec (fun _=>Ak) none (xC r cf cv cp e s K) (Em u w)) o.1) (fun _ _=>none)=_;rw[T7 he o.1,fw cf cv cp he s K r]
   have h':lD cf cv cp (o::r) env s=((match JA cf cv cp o env s with
    | some (.ret u,_)=>match o.dst with
      | none=>true
      | some d=>match get d env with|some w=>Em u w|none=>false
    | _=>false)&&lD cf cv cp r env s):=rfl
   rw[h'];show fin (JA cf cv cp o env s) _ _=_;cases JA cf cv cp o env s with
   | none=>rfl
   | some p=>
     obtain⟨x,s'⟩:=p;cases x with
     | Bd v=>rfl
     | ret u=>
       obtain⟨d,op,g⟩:=o;cases d with
       | none=>simp only[fin,GJ]
       | some d=>
         simp only[fin];rw[BF he];simp only[DS];cases get d env with
         | none=>rfl
         | some w=>
           simp only[ob];cases Em u w<;>simp
def VZ (ops:List Cg) (cf:CF) (cv:CV) (cp:CP) (e:CJ) (s:St):Ak:=@List.rec Cg (fun _=>CF->CV->CP->CJ->St->Ak) (fun _ _ _ e s=>some (.normal,e,s))
 (fun d _ ih cf cv cp e s=>XY d.2.3 d.2.2 cf cv cp e s (fun v s=>Xd v fun v=>(fun e=>xC d.4 cf cv cp e s (ih cf cv cp e s)) (N4 d.2.1 v e)) (fun v s=>some (.Bd v,⟨0,[]⟩,s))) ops cf cv cp e s
def JE.nil {M:Nat}:JE ⟨M,[]⟩ []:=fun n=>by
 show(bif Ol M n then none else none)=none;cases Ol M n<;>rfl
def WW (cf:CF) (cv:CV) (cp:CP): ∀(ops:List Cg) {e:CJ} {env:Env} (s:St),JE e env->Gp (VZ ops cf cv cp e s) (Ry cf cv cp ops env s)
 | [],e,env,s,he=>⟨rfl,rfl,he⟩
 | d ::r,e,env,s,he=>by
   show Gp (XY d.2.3 d.2.2 cf cv cp e s (fun v s=>Xd v fun v=>(fun e=>xC d.4 cf cv cp e s (VZ r cf cv cp e s)) (N4 d.2.1 v e)) (fun v s=>some (.Bd v,⟨0,[]⟩,s))) _;rw[T7 he d.2.1];show Gp (fin (JA cf cv cp d.o env s) _ _) _;simp only[Ry];cases JA cf cv cp d.o env s with
   | none=>trivial
   | some p=>
     obtain⟨x,s'⟩:=p;cases x with
     | Bd v=>exact⟨rfl,rfl,JE.nil⟩
     | ret v=>
       show Gp (Xd v fun v=>xC d.4 cf cv cp (N4 d.2.1 v e) s' (VZ r cf cv cp (N4 d.2.1 v e) s')) (ID v _);rw[aJ,Hv,fw cf cv cp (he.push d.2.1 v)];show Gp (bif lD cf cv cp d.re (put d.o.dst v env) s' then _ else none) (bif lD cf cv cp d.re (put d.o.dst v env) s' then _ else none);cases lD cf cv cp d.re (put d.o.dst v env) s' with
       | false=>trivial
       | true=>exact WW cf cv cp r s' (he.push d.2.1 v)
def Ru (l:List Nat):Nat:=@List.rec Nat (fun _=>Nat) 0 (fun n _ ih=>Nat.lor ih (Nat.shiftLeft 1 n)) l
def NB (l:List Nat) (e:CJ):CJ:=⟨Nat.land e.1 (Ru l),e.2⟩
def Vj: ∀(l:List Nat) (n:Nat),Ol (Ru l) n=l.any fun k=>Nat.beq k n
 | [],n=>by rw[Kp];exact Nat.zero_testBit n
 | k::r,n=>by
   show Ol (Nat.lor (Ru r) (Nat.shiftLeft 1 k)) n=_;rw[Pk,Vj r n,Q7,Bool.or_comm]
def Ml: ∀(l:List Nat) (env:Env) (n:Nat),get n (prune l env)=bif l.any (fun k=>Nat.beq k n)then get n env else none
 | [],env,n=>rfl
 | k ::r,env,n=>by
   have ih:=Ml r env n;simp only[prune,Q7];cases hk:Nat.beq k n with
   | true=>
     have:=Up hk;subst this;cases hg:get k env with
     | none=>
       simp only;rw[ih,hg];cases(r.any fun j=>Nat.beq j k)<;>rfl
     | some v=>simp[get,hk]
   | false=>
     simp only[Bool.false_or];cases hg:get k env with
     | none=>exact ih
     | some v=>
       simp only[get,hk,cond_false];exact ih
def JE.prune {e:CJ} {env:Env} (he:JE e env) (l:List Nat):JE (NB l e) (Gl.prune l env):=fun n=>by
 show(bif Ol (Nat.land e.1 (Ru l)) n then get n e.2 else none)=_
 have:Ol (Nat.land e.1 (Ru l)) n=(Ol e.1 n&&Ol (Ru l) n):=by
  rw[Kp,Kp,Kp];exact Nat.testBit_and _ _ _
 rw[this,Ml,<-he n,TY,Vj];cases Ol e.1 n<;>cases(l.any fun k=>Nat.beq k n)<;>rfl
def U4 (l:List Nat) (e:CJ) (K:Env->Ak):Ak:=@List.rec Nat (fun _=>CJ->(Env->Ak)->Ak) (fun _ K=>K [])
 (fun n _ ih e K=>@Bool.rec (fun _=>Ak) (ih e K) (@List.rec (Nat×V) (fun _=>Nat->Ak->(V->Ak)->Ak) (fun _ x _=>x) (fun p _ ih n x K=>@Bool.rec (fun _=>Ak) (ih n x K) (K p.2) (Nat.beq p.1 n)) e.2 n (ih e K) (fun v=>ih e fun r=>K ((n,v)::r))) (Ol e.1 n)) l e K
def mH (env:Env) (n:Nat) (x:Ak) (K:V->Ak): @List.rec (Nat×V) (fun _=>Nat->Ak->(V->Ak)->Ak) (fun _ x _=>x) (fun p _ ih n x K=>@Bool.rec (fun _=>Ak) (ih n x K) (K p.2) (Nat.beq p.1 n)) env n x K=match get n env with|some v=>K v|none=>x:=by
 induction env with
 | nil=>rfl
 | cons p r ih=>
   obtain⟨j,v⟩:=p;show @Bool.rec (fun _=>Ak) _ (K v) (Nat.beq j n)=match(bif Nat.beq j n then some v else get n r)with|some v=>K v|none=>x
   cases Nat.beq j n
   .exact ih
   .rfl
def Oy {e:CJ} {env:Env} (he:JE e env): ∀(l:List Nat) (K:Env->Ak),U4 l e K=K (Gl.prune l env)
 | [],K=>rfl
 | n ::r,K=>by
   show @Bool.rec (fun _=>Ak) (U4 r e K) (@List.rec (Nat×V) (fun _=>Nat->Ak->(V->Ak)->Ak) (fun _ x _=>x) (fun p _ ih n x K=>@Bool.rec (fun _=>Ak) (ih n x K) (K p.2) (Nat.beq p.1 n)) e.2 n (U4 r e K) (fun v=>U4 r e fun r=>K ((n,v)::r))) (Ol e.1 n)=_;rw[mH,Oy he r];simp only[Oy he r,Gl.prune];rw[<-he n,TY];cases Ol e.1 n with
   | false=>rfl
   | true=>
     simp only[cond_true];cases get n e.2<;>rfl
def Iq (env:Env):Nat:=@List.rec (Nat×V) (fun _=>Nat) 0 (fun p _ ih=>Nat.lor ih (Nat.shiftLeft 1 p.1)) env
def R5: ∀(env:Env) (n:Nat),Ol (Iq env) n=(get n env).isSome
 | [],n=>by rw[Kp];exact Nat.zero_testBit n
 | (k,v)::r,n=>by
   show Ol (Nat.lor (Iq r) (Nat.shiftLeft 1 k)) n=_;rw[Pk,R5 r n];simp only[get];cases Nat.beq k n<;>simp
def JE.of (env:Env):JE ⟨Iq env,env⟩ env:=fun n=>by
 show(bif Ol (Iq env) n then get n env else none)=_;rw[R5];cases get n env<;>rfl
abbrev IH:=AV->CJ->St->Ak
def Rq (r:Ak) (K:CJ->St->Ak):Ak:=@Option.rec (Ac×CJ×St) (fun _=>(CJ->St->Ak)->Ak) (fun _=>none) (fun p K=>@Ac.rec (fun _=>CJ->St->(Ac×CJ×St)->(CJ->St->Ak)->Ak) (fun env s _ K=>K env s) (fun _ _ _ p _=>some p) (fun _ _ p _=>some p) (fun _ _ _ p _=>some p) p.1 p.2.1 p.2.2 p K) r K
def yH (r:Rs) (K':Env->St->Rs):Rs:=match r with|some (.normal,env,s)=>K' env s|r=>r
def NU {r:Ak} {r':Rs} (h:Gp r r') {K:CJ->St->Ak} {K':Env->St->Rs} (U: ∀e env s,JE e env->Gp (K e s) (K' env s)):Gp (Rq r K) (yH r' K'):=by
 cases r with
 | none=>cases r' with|none=>trivial|some p=>exact h.elim
 | some p=>
   cases r' with
   | none=>exact h.elim
   | some p'=>
     obtain⟨x,e,s⟩:=p;obtain⟨x',env,s'⟩:=p';obtain⟨rfl,rfl,he⟩:=h;cases x with
     | normal=>exact U e env s he
     | exit id=>exact⟨rfl,rfl,he⟩
     | ret=>exact⟨rfl,rfl,he⟩
     | Bd v=>exact⟨rfl,rfl,he⟩
def PF (s:St) (e:CJ):List RS->Option (List V)
 | []=>some []
 | .t n::r=>ob (TY e n) fun v=>ob (PF s e r) fun vs=>some (v::vs)
 | .c n g::r=>ob (TY e n) fun a=>ob (OB s g a) fun v=>ob (PF s e r) fun vs=>some (v::vs)
def ZN (AG:List RS) (r:Ak):Option (R×St):=
 match r with
 | some (.normal,env,s)=>ob (PF s env AG) fun vs=>some (.ret (El vs),s)
 | some (.ret,env,s)=>ob (PF s env AG) fun vs=>some (.ret (El vs),s)
 | some (.Bd v,_,s)=>some (.Bd v,s)
 | _=>none
def VT (tab:KF) (ih:IH) (g:FuncId) (cap:List V) (m:Option V) (AG:List RS) (env:CJ) (s:St):Option (R×St):=
 match tab g with
 | some (.qF n k ops ac l)=>bif Nat.ble cap.length n then
  match ih (.seq l (.Bt ops) ac) ⟨Iq (put (some k) (m.getD .De) (A2 0 cap)),put (some k) (m.getD .De) (A2 0 cap)⟩ s with
  | some (.normal,_,s')=>ob (PF s' env AG) fun vs=>some (.ret (El vs),s')
  | some (.ret,_,s')=>ob (PF s' env AG) fun vs=>some (.ret (El vs),s')
  | _=>none
   else none
 | some (.xO n ac)=>match m with
   | some _=>none
   | none=>bif Nat.ble cap.length n then
     match ih ac ⟨Iq (A2 0 cap),A2 0 cap⟩ s with
     | some (.normal,_,s')=>ob (PF s' env AG) fun vs=>some (.ret (El vs),s')
     | some (.ret,_,s')=>ob (PF s' env AG) fun vs=>some (.ret (El vs),s')
     | _=>none
   else none
 | _=>none
def Ty (tab:KF) (ih:IH) (f:FuncId) (vs:List V) (s:St):Option (R×St):=
 match tab f with
 | some (.fn n ac AG)=>bif Nat.ble vs.length n then ZN AG (ih ac ⟨Iq (A2 0 vs),A2 0 vs⟩ s)else none
 | some (.o0 n aA ops x aC AG l1 l2)=>bif Nat.ble vs.length n then
  match ih (.seq l1 aA (.Bt ops)) ⟨Iq (A2 0 vs),A2 0 vs⟩ s with
  | some (.normal,env,s1)=>match(match x with| .t n=>TY env n| .c v=>bif BJ v then some v else none)with
    | some (.f (.func g) [] cap)=>match ih aC (NB l2 env) s1 with
      | some (.normal,env2,s2)=>VT tab ih g cap none AG env2 s2
      | some (.ret,env2,s2)=>VT tab ih g cap none AG env2 s2
      | some (.Bd v,env2,s2)=>VT tab ih g cap (some v) AG env2 s2
      | _=>none
    | _=>none
  | _=>none
   else none
 | some (.xS n ac AG)=>bif Nat.ble vs.length n then qf (ZN AG (ih ac ⟨Iq (A2 0 vs),A2 0 vs⟩ s))else none
 | some (.bW c)=>c vs s
 | _=>none
def Fg (tab:KF) (memo:FB) (ih:IH):CF:=fun f vs s=>
 match memo f with
 | []=>Ty tab ih f vs s
 | m::r=>match VR vs (m::r)with
   | some v=>some (.ret v,s)
   | none=>Ty tab ih f vs s
def Jx (tab:KF) (memo:FB) (ih:IH):CV:=fun x vs s=>
 match x with
 | .f (.func f) first cap=>Fg tab memo ih f (first++vs++cap) s
 | .f (.yield L) [] []=>match s.t.get L with
   | some (.loop .ready env ps a b)=>bif Nat.beq vs.length ps.length then
    Tr.put none BA s.t L fun t=>match ih a ⟨Iq (Ey ps vs env),Ey ps vs env⟩ ⟨s.nx,t⟩with
    | some (.normal,env1,s1)=>match ih b env1 s1 with
      | some (.normal,_,s2)=>Tr.put (some (.loop .ready env ps a b)) BA s2.t L fun t=>some (.ret (.b true),⟨s2.nx,t⟩)
      | some (.ret,_,s2)=>Tr.put (some (.loop .ret env ps a b)) BA s2.t L fun t=>some (.ret (.b false),⟨s2.nx,t⟩)
      | some (.exit id,_,s2)=>Tr.put (some (.loop (.exit id) env ps a b)) BA s2.t L fun t=>some (.ret (.b false),⟨s2.nx,t⟩)
      | some (.Bd v,_,s2)=>some (.Bd v,s2)
      | none=>none
    | _=>none
     else none
   | _=>none
 | _=>none
def K3 (tab:KF) (memo:FB) (ih:IH):CP:=fun f vs=>
 bif B7 vs then match Fg tab memo ih f vs ⟨0,.leaf⟩with
  | some (.ret v,s)=>match HP s U7 v with
    | some u=>bif BJ u then some u else none
    | none=>none
  | _=>none
 else none
abbrev SK:=KF->FB->IH->CJ->St->Ak
def fv (c : AV):SK:=@AV.rec (fun _=>SK)
 (fun _ _ _ env s=>some (.normal,env,s))
 (fun ops tab memo ih env s=>ew ops (Fg tab memo ih) (Jx tab memo ih) (K3 tab memo ih) env s)
 (fun l ops tab memo ih env s=>Rq (VZ ops (Fg tab memo ih) (Jx tab memo ih) (K3 tab memo ih) env s) fun env s=>some (.normal,NB l env,s))
 (fun l a b _ _ _ _ ih env s=>Rq (ih a env s) fun env s=>ih b (NB l env) s)
 (fun c a b _ _ _ _ ih env s=>Bs c env fun v=>o5 v fun t=>@Bool.rec (fun _=>Ak) (ih b env s) (ih a env s) t)
 (fun id a _ tab memo ih env s=>match ih a env s with
  | some (.exit id',env',s')=>bif Nat.beq id' id then some (.normal,env',s')else some (.exit id',env',s')
  | r=>r)
 (fun l a _ _ _ ih env s=>U4 l env fun E=>Rq (ih a ⟨Iq E,E⟩ s) fun env s=>ih (.loop l a) env s)
 (fun id _ _ _ env s=>some (.exit id,env,s))
 (fun _ _ _ env s=>some (.ret,env,s))
 (fun a _ _ _ ih env s=>ih a env s)
 (fun l g ps a b _ _ tab memo ih env s=>Bs g env fun v=>match v with
  | .f (.func gf) [] cap=>U4 l env fun E=>s.new (.loop .ready E ps a b) fun i s1=>
   match Fg tab memo ih gf (.f (.yield i) [] []::cap) s1 with
   | some (.ret _,s2)=>match s2.t.get i with
     | some (.loop st _ _ _ _)=>Tr.put none BA s2.t i fun t=>some ((match st with| .ready=> .normal| .ret=> .ret| .exit id=> .exit id),env,⟨s2.nx,t⟩)
     | _=>none
   | some (.Bd v,s2)=>match s2.t.get i with
     | some _=>Tr.put none BA s2.t i fun t=>some (.Bd v,env,⟨s2.nx,t⟩)
     | none=>none
   | none=>none
  | _=>none) c
def runK (tab:KF) (memo:FB) (n:Nat):IH:=@Nat.rec (fun _=>IH) (fun _ _ _=>none) (fun _ ih c env s=>fv c tab memo ih env s) n
def Xj (ihm:IH) (ih:AV->Env->St->Rs):Prop:= ∀c {e env} s,JE e env->Gp (ihm c e s) (ih c env s)
def L2 {s:St} {e:CJ} {env:Env} (he:JE e env): ∀l:List RS,PF s e l=ZA s env l
 | []=>rfl
 | .t n::r=>by simp only[PF,ZA,he n,L2 he r]
 | .c n g::r=>by simp only[PF,ZA,he n,L2 he r]
def WU {AG:List RS} {r:Ak} {r':Rs} (h:Gp r r'):ZN AG r=bg AG r':=by
 cases r with
 | none=>cases r' with|none=>rfl|some p=>exact h.elim
 | some p=>
   cases r' with
   | none=>exact h.elim
   | some p'=>
     obtain⟨x,e,s⟩:=p;obtain⟨x',env,s'⟩:=p';obtain⟨rfl,rfl,he⟩:=h;cases x<;>first|rfl|simp only[ZN,bg,L2 he]
def jw {tab : KF} {ihm:IH} {ih:AV->Env->St->Rs} (hi:Xj ihm ih) {g:FuncId} {cap:List V} {m:Option V} {AG:List RS} {e:CJ} {env:Env} (he:JE e env) (s:St):VT tab ihm g cap m AG e s=Xe tab ih g cap m AG env s:=by
 unfold VT Xe;cases tab g with
 | none=>rfl
 | some fs =>
   cases fs<;>first|rfl|skip
   .rename_i n k ops ac l
    simp only;have:=hi (.seq l (.Bt ops) ac) s (JE.of (put (some k) (m.getD .De) (A2 0 cap)))
    revert this
    cases ihm (.seq l (.Bt ops) ac) _ s with
    | none=>cases ih (.seq l (.Bt ops) ac) _ s with|none=>intro _;rfl|some p=>intro h;exact h.elim
    | some p=>
      cases ih (.seq l (.Bt ops) ac) _ s with
      | none=>intro h;exact h.elim
      | some p'=>
        obtain⟨x,e1,s1⟩:=p;obtain⟨x',env1,s1'⟩:=p';rintro⟨rfl,rfl,he1⟩;cases x<;>simp only[L2 he]
   .rename_i n ac
    cases m with
    | some v=>rfl
    | none=>
      simp only;have:=hi ac s (JE.of (A2 0 cap))
      revert this
      cases ihm ac _ s with
      | none=>cases ih ac _ s with|none=>intro _;rfl|some p=>intro h;exact h.elim
      | some p=>
        cases ih ac _ s with
        | none=>intro h;exact h.elim
        | some p'=>
          obtain⟨x,e1,s1⟩:=p;obtain⟨x',env1,s1'⟩:=p';rintro⟨rfl,rfl,he1⟩;cases x<;>simp only[L2 he]
def dv {tab : KF} {ihm:IH} {ih:AV->Env->St->Rs} (hi:Xj ihm ih) (f:FuncId) (vs:List V) (s:St):Ty tab ihm f vs s=Rz tab ih f vs s:=by
 unfold Ty Rz;cases tab f with
 | none=>rfl
 | some fs =>
   cases fs with
   | qF n k ops ac l=>rfl
   | bW c=>rfl
   | xO n ac=>rfl
   | fn n ac AG=>simp only;rw[WU (hi ac s (JE.of (A2 0 vs)))]
   | xS n ac AG=>simp only;rw[WU (hi ac s (JE.of (A2 0 vs)))]
   | o0 n aA ops x aC AG l1 l2=>
     simp only;have:=hi (.seq l1 aA (.Bt ops)) s (JE.of (A2 0 vs))
     revert this
     cases ihm (.seq l1 aA (.Bt ops)) _ s with
     | none=>cases ih (.seq l1 aA (.Bt ops)) _ s with|none=>intro _;rfl|some p=>intro h;exact h.elim
     | some p=>
       cases ih (.seq l1 aA (.Bt ops)) _ s with
       | none=>intro h;exact h.elim
       | some p'=>
         obtain⟨x1,e1,s1⟩:=p;obtain⟨x1',env1,s1'⟩:=p';rintro⟨rfl,rfl,he1⟩;cases x1<;>first|rfl|skip
         simp only;have hx:(match x with| .t n=>TY e1 n| .c v=>bif BJ v then some v else none)=DS env1 x:=by cases x<;>first|exact he1 _|rfl
         rw[hx];cases DS env1 x with
         | none=>rfl
         | some v=>
           cases v<;>first|rfl|skip
           rename_i fn first cap
           cases fn<;>first|rfl|skip
           cases first<;>first|rfl|skip
           simp only;have:=hi aC s1 (he1.prune l2)
           revert this
           cases ihm aC (NB l2 e1) s1 with
           | none=>cases ih aC (Gl.prune l2 env1) s1 with|none=>intro _;rfl|some p=>intro h;exact h.elim
           | some p=>
             cases ih aC (Gl.prune l2 env1) s1 with
             | none=>intro h;exact h.elim
             | some p'=>
               obtain⟨x2,e2,s2⟩:=p;obtain⟨x2',env2,s2'⟩:=p';rintro⟨rfl,rfl,he2⟩;cases x2<;>simp only[jw hi he2]
def Gg {tab:KF} {memo:FB} {ihm:IH} {ih:AV->Env->St->Rs} (hi:Xj ihm ih):Fg tab memo ihm=HI tab memo ih:=by
 funext f vs s;unfold Fg HI;simp only[dv hi];rfl
def Qz {tab : KF} {memo:FB} {ihm:IH} {ih:AV->Env->St->Rs} (hi:Xj ihm ih):Jx tab memo ihm=NM tab memo ih:=by
 funext x vs s;unfold Jx NM;rw[Gg hi];cases x<;>first|rfl|skip
 rename_i fn first cap
 cases fn<;>first|rfl|skip
 cases first<;>first|rfl|skip
 cases cap<;>first|rfl|skip
 rename_i L;simp only;cases s.t.get L with
 | none=>rfl
 | some o=>
   cases o<;>first|rfl|skip
   rename_i st env ps a b;cases st<;>first|rfl|skip
   simp only;congr 2;funext t;have:=hi a ⟨s.nx,t⟩ (JE.of (Ey ps vs env))
   revert this
   cases ihm a _ ⟨s.nx,t⟩with
   | none=>cases ih a _ ⟨s.nx,t⟩with|none=>intro _;rfl|some p=>intro h;exact h.elim
   | some p=>
     cases ih a _ ⟨s.nx,t⟩with
     | none=>intro h;exact h.elim
     | some p'=>
       obtain⟨x1,e1,s1⟩:=p;obtain⟨x1',env1,s1'⟩:=p';rintro⟨rfl,rfl,he1⟩;cases x1<;>first|rfl|skip
       simp only;have:=hi b s1 he1
       revert this
       cases ihm b e1 s1 with
       | none=>cases ih b env1 s1 with|none=>intro _;rfl|some p=>intro h;exact h.elim
       | some p=>
         cases ih b env1 s1 with
         | none=>intro h;exact h.elim
         | some p'=>
           obtain⟨x2,e2,s2⟩:=p;obtain⟨x2',env2,s2'⟩:=p';rintro⟨rfl,rfl,he2⟩;cases x2<;>rfl
def Nv {tab:KF} {memo:FB} {ihm:IH} {ih:AV->Env->St->Rs} (hi:Xj ihm ih):K3 tab memo ihm=PX tab memo ih:=by
 funext f vs;unfold K3 PX;rw[Gg hi];rfl
def ij {tab : KF} {memo:FB} {ihm:IH} {ih:AV->Env->St->Rs} (hi:Xj ihm ih) (c:AV) {e:CJ} {env:Env} (s:St) (he:JE e env):Gp (fv c tab memo ihm e s) (Iu tab memo ih c env s):=by
 cases c with
 | skip=>exact⟨rfl,rfl,he⟩
 | ret=>exact⟨rfl,rfl,he⟩
 | exit id=>exact⟨rfl,rfl,he⟩
 | scope a=>exact hi a s he
 | Bt ops=>
   show Gp (ew ops (Fg tab memo ihm) (Jx tab memo ihm) (K3 tab memo ihm) e s) _;rw[Gg hi,Qz hi,Nv hi];exact Zt _ _ _ ops s he
 | EK l ops=>
   show Gp (Rq (VZ ops (Fg tab memo ihm) (Jx tab memo ihm) (K3 tab memo ihm) e s) fun env s=>some (.normal,NB l env,s)) _;rw[Gg hi,Qz hi,Nv hi];exact NU (K':=fun env s=>some (.normal,Gl.prune l env,s)) (WW _ _ _ ops s he) fun _ _ s he=>⟨rfl,rfl,he.prune l⟩
 | seq l a b=>exact NU (K':=fun env s=>ih b (Gl.prune l env) s) (hi a s he) fun _ _ s he=>hi b s (he.prune l)
 | cond c a b=>
   show Gp (Bs c e fun v=>o5 v fun t=>@Bool.rec (fun _=>Ak) (ihm b e s) (ihm a e s) t) _;rw[BF he];simp only[Iu];cases DS env c with
   | none=>trivial
   | some v=>
     cases v<;>first|trivial|skip
     rename_i t;cases t
     .exact hi b s he
     .exact hi a s he
 | block id a=>
   have:=hi a s he;show Gp (match ihm a e s with|some (.exit id',env',s')=>bif Nat.beq id' id then some (.normal,env',s')else some (.exit id',env',s')|r=>r) (match ih a env s with|some (.exit id',env',s')=>bif Nat.beq id' id then some (.normal,env',s')else some (.exit id',env',s')|r=>r)
   revert this
   cases ihm a e s with
   | none=>cases ih a env s with|none=>intro _;trivial|some p=>intro h;exact h.elim
   | some p=>
     cases ih a env s with
     | none=>intro h;exact h.elim
     | some p'=>
       obtain⟨x1,e1,s1⟩:=p;obtain⟨x1',env1,s1'⟩:=p';rintro⟨rfl,rfl,he1⟩;cases x1 with
       | exit id'=>
         simp only;cases Nat.beq id' id<;>exact⟨rfl,rfl,he1⟩
       | normal=>exact⟨rfl,rfl,he1⟩
       | ret=>exact⟨rfl,rfl,he1⟩
       | Bd v=>exact⟨rfl,rfl,he1⟩
 | loop l a=>
   show Gp (U4 l e fun E=>Rq (ihm a ⟨Iq E,E⟩ s) fun env s=>ihm (.loop l a) env s) _;rw[Oy he];exact NU (K':=fun env s=>ih (.loop l a) env s) (hi a s (JE.of _)) fun _ _ s he=>hi (.loop l a) s he
 | Dk l g ps a b=>
   show Gp (Bs g e fun v=>match v with
   | .f (.func gf) [] cap=>U4 l e fun E=>s.new (.loop .ready E ps a b) fun i s1=>
    match Fg tab memo ihm gf (.f (.yield i) [] []::cap) s1 with
    | some (.ret _,s2)=>match s2.t.get i with
      | some (.loop st _ _ _ _)=>Tr.put none BA s2.t i fun t=>some ((match st with| .ready=> .normal| .ret=> .ret| .exit id=> .exit id),e,⟨s2.nx,t⟩)
      | _=>none
    | some (.Bd v,s2)=>match s2.t.get i with
      | some _=>Tr.put none BA s2.t i fun t=>some (.Bd v,e,⟨s2.nx,t⟩)
      | none=>none
    | none=>none
   | _=>none) _
   rw[BF he,Gg hi];simp only[Iu];cases DS env g with
   | none=>trivial
   | some v=>
     cases v<;>first|trivial|skip
     rename_i fn first cap
     cases fn<;>first|trivial|skip
     cases first<;>first|trivial|skip
     rename_i gf;simp only[ob];rw[Oy he]
     have hnew: ∀ {β γ:Type} (o:EO) (f:Nat->St->Option β) (g:Nat->St->Option γ) (Rl:Option β->Option γ->Prop),Rl none none->(∀i s,Rl (f i s) (g i s))->Rl (s.new o f) (s.new o g):=fun {β γ} o f g Rl h0 h1=>by
      obtain⟨n,t⟩:=s;cases n with
      | zero=>simp only[St.new];rw[Tr.put_eq,Tr.put_eq];exact h1 _ _
      | succ n=>
        simp only[St.new];rw[Tr.put_eq,Tr.put_eq];cases Nat.ble (n+1) M3
        .exact h0
        .exact h1 _ _
     refine hnew _ _ _ Gp trivial fun i s1=>?_
     cases HI tab memo ih gf (.f (.yield i) [] []::cap) s1 with
     | none=>trivial
     | some p=>
       obtain⟨x,s2⟩:=p;cases x with
       | ret v=>
         simp only;cases s2.t.get i with
         | none=>trivial
         | some o=>
           cases o<;>first|trivial|skip
           simp only;rw[Tr.put_eq,Tr.put_eq];exact⟨rfl,rfl,he⟩
       | Bd v=>
         simp only;cases s2.t.get i with
         | none=>trivial
         | some o=>
           simp only;rw[Tr.put_eq,Tr.put_eq];exact⟨rfl,rfl,he⟩
def Zh (tab:KF) (memo:FB): ∀n:Nat,Xj (runK tab memo n) (run tab memo n)
 | 0=>fun _ _ _ _ _=>trivial
 | n+1=>fun c _ _ s he=>ij (Zh tab memo n) c s he
def lP (tab:KF) (memo:FB) (n:Nat) (f:FuncId) (vs:List V) (v:V):Bool:=
 match K3 tab memo (runK tab memo n) f vs with
 | some u=>Em u v
 | none=>false
def SO {tab:KF} (ht:Lr P tab) {memo:FB} (hm:HK P memo) {n:Nat} {f:FuncId} {vs:List V} {v:V} (h:lP tab memo n f vs v=true):B7 vs=true/\BJ v=true/\Pure P f vs v:=by
 unfold lP at h;rw[Nv (Zh tab memo n)]at h;exact Wv ht hm h
def qN (t:Tr TM):KF:=fun f=>bf t f
def Zb {t:Tr TM} (h:ZV (fun i=>JB P i) id t):Lr P (qN t):=fun f fs e=>h f fs ((UP t f).symm.trans e)
def qn (m:FB) (f:FuncId) (a:List V) (v:V):FB:=fun g=>@Bool.rec (fun _=>List (List V×V)) (m g) ((a,v)::m g) (Nat.beq f g)
def om {m:FB} (h:HK P m) {f:FuncId} {a:List V} {v:V} (h1:B7 a=true/\BJ v=true/\Pure P f a v):HK P (qn m f a v):=fun g e he=>by
 unfold qn at he;cases hb:Nat.beq f g with
 | false=>rw[hb]at he;exact h g e he
 | true=>
   rw[hb]at he;have:=Cx hb;subst this;rcases GK.1 he with rfl|he
   .exact h1
   .exact h f e he
end Go.Gl
