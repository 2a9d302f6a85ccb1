import Derived.Test.YtnidfcmdimehdaaGreatV40
set_option linter.all false
set_option linter.defProp false
set_option maxHeartbeats 8000000
noncomputable section
namespace Go.Gl
variable {P:Program}
structure CN where
 M:Nat
 E:Env
abbrev Ak:=Option (Aa×CN×St)
def LQ {α β:Type} (c:Bool) (x:Option α) (g:α->Option β):ob (bif c then x else none) g=bif c then ob x g else none:=by cases c<;>rfl
def mW (env:Env) (n:Nat) (K:V->Ak):Ak:=@List.rec (Nat×V) (fun _=>Nat->(V->Ak)->Ak) (fun _ _=>none) (fun p _ ih n K=>@Bool.rec (fun _=>Ak) (ih n K) (K p.2) (Nat.beq p.1 n)) env n K
def oh (env:Env) (n:Nat) (K:V->Ak):mW env n K=ob (get n env) K:=by
 induction env with
 | nil=>rfl
 | cons p r ih=>
   obtain⟨j,v⟩:=p;show @Bool.rec (fun _=>Ak) (mW r n K) (K v) (Nat.beq j n)=ob (bif Nat.beq j n then some v else get n r) K;cases Nat.beq j n
   .exact ih
   .rfl
def Tc {α:Type} (cs:List α) (i:Nat) (K:α->Ak):Ak:=@List.rec α (fun _=>Nat->(α->Ak)->Ak) (fun _ _=>none) (fun v _ ih i K=>@Nat.rec (fun _=>Ak) (K v) (fun j _=>ih j K) i) cs i K
def MG {α:Type} (cs:List α): ∀(i:Nat) (K:α->Ak),Tc cs i K=ob cs[i]? K:=by
 induction cs with
 | nil=>intro i K;rfl
 | cons v r ih=>
   intro i K;cases i with
   | zero=>rfl
   | succ j=>exact ih j K
def GP {α:Type} (cs:List α):Nat:=@List.rec α (fun _=>Nat) 0 (fun _ _ ih=>Nat.succ ih) cs
def FY {α:Type} (cs:List α):GP cs=cs.length:=by
 induction cs with
 | nil=>rfl
 | cons v r ih=>show Nat.succ (GP r)=_;rw[ih];rfl
def Vy {α:Type} (cs:List α) (n:Nat):List α:=@Nat.rec (fun _=>List α->List α) (fun cs=>cs) (fun _ ih cs=>@List.rec α (fun _=>(List α->List α)->List α) (fun _=>[]) (fun _ r _ ih=>ih r) cs ih) n cs
def Qd {α:Type}: ∀(n:Nat) (cs:List α),Vy cs n=cs.drop n
 | 0,cs=>rfl
 | n+1,[]=>rfl
 | n+1,v::r=>Qd n r
def ZY {α:Type} (cs:List α) (n:Nat):List α:=@List.rec α (fun _=>Nat->List α) (fun _=>[]) (fun v _ ih n=>@Nat.rec (fun _=>List α) [] (fun j _=>v::ih j) n) cs n
def jc {α:Type} (cs:List α): ∀n:Nat,ZY cs n=cs.take n:=by
 induction cs with
 | nil=>intro n;cases n<;>rfl
 | cons v r ih=>
   intro n;cases n with
   | zero=>rfl
   | succ j=>show v::ZY r j=_;rw[ih];rfl
def X3 {α:Type} (cs:List α) (n:Nat) (x:α):List α:=@List.rec α (fun _=>Nat->α->List α) (fun _ _=>[]) (fun v r ih n x=>@Nat.rec (fun _=>List α) (x::r) (fun j _=>v::ih j x) n) cs n x
def UO {α:Type} (cs:List α) (x:α): ∀n:Nat,X3 cs n x=cs.set n x:=by
 induction cs with
 | nil=>intro n;rfl
 | cons v r ih=>
   intro n;cases n with
   | zero=>rfl
   | succ j=>show v::X3 r j x=_;rw[ih];rfl
def sJ {α:Type} (f:α->Bool) (cs:List α):Bool:=@List.rec α (fun _=>(α->Bool)->Bool) (fun _=>true) (fun v _ ih f=>@Bool.rec (fun _=>Bool) false (ih f) (f v)) cs f
def pw {α:Type} (f:α->Bool) (cs:List α):sJ f cs=cs.all f:=by
 induction cs with
 | nil=>rfl
 | cons v r ih=>
   show @Bool.rec (fun _=>Bool) false (sJ f r) (f v)=_;rw[Pg,ih];cases f v<;>rfl
def ij (v:V) (K:V->Ak):Ak:=@V.rec (fun _=>V->(V->Ak)->Ak) (fun _=>Unit) (fun _=>Unit) (fun _ v K=>K v) (fun _ _ v K=>K v) (fun _ v K=>K v) (fun v K=>K v) (fun _ _ v K=>@Bool.rec (fun _=>Ak) none (K v) (BG v)) (fun _ _ v K=>@Bool.rec (fun _=>Ak) none (K v) (BG v)) (fun _ _ _ v K=>@Bool.rec (fun _=>Ak) none (K v) (BG v)) (fun _ _ _ v K=>@Bool.rec (fun _=>Ak) none (K v) (BG v)) (fun _ _ _ _ v K=>@Bool.rec (fun _=>Ak) none (K v) (BG v)) (fun _ _ _ _ v K=>@Bool.rec (fun _=>Ak) none (K v) (BG v)) (fun _ v K=>@Bool.rec (fun _=>Ak) none (K v) (BG v)) (fun v K=>K v) (fun _ _ _ _ _ v K=>@Bool.rec (fun _=>Ak) none (K v) (BG v)) (fun v K=>K v) (fun _ _ _ v K=>@Bool.rec (fun _=>Ak) none (K v) (BG v)) (fun v K=>K v) (fun _ _ v K=>@Bool.rec (fun _=>Ak) none (K v) (BG v)) (fun _ _ v K=>@Bool.rec (fun _=>Ak) none (K v) (BG v)) (fun v K=>@Bool.rec (fun _=>Ak) none (K v) (BG v)) () (fun _ _ _ _=>()) () (fun _ _ _ _=>()) v v K
def BM {α:Type} (c:Bool) (x y:α): @Bool.rec (fun _=>α) y x c=bif c then x else y:=by cases c<;>rfl
def dz (v:V) (K:V->Ak):ij v K=ob (bif BG v then some v else none) K:=by
 rw[LQ];cases v<;>first|rfl|exact BM _ _ _
def PI (M n:Nat):Bool:=Nat.beq (Nat.land (Nat.shiftRight M n) 1) 1
def Tj (e:CN) (n:Nat):Option V:=bif PI e.1 n then get n e.2 else none
def JO (e:CN) (env:Env):Prop:= ∀n,Tj e n=get n env
def Bx (x:Bk) (e:CN) (K:V->Ak):Ak:=@Bk.rec (fun _=>CN->(V->Ak)->Ak) (fun n e K=>@Bool.rec (fun _=>Ak) none (mW e.2 n K) (PI e.1 n)) (fun v _ K=>ij v K) x e K
def BD {e:CN} {env:Env} (he:JO e env) (x:Bk) (K:V->Ak):Bx x e K=ob (Da env x) K:=by
 cases x with
 | t n=>
   show @Bool.rec (fun _=>Ak) none (mW e.2 n K) (PI e.1 n)=ob (get n env) K;rw[<-he n,Tj,BM,LQ,oh]
 | c v=>exact dz v K
def L0 (l:List Bk) (env:CN) (K:List V->Ak):Ak:=@List.rec Bk (fun _=>CN->(List V->Ak)->Ak) (fun _ K=>K []) (fun x _ ih env K=>Bx x env fun v=>ih env fun vs=>K (v::vs)) l env K
def Bs {e:CN} {env:Env} (he:JO e env): ∀(l:List Bk) (K:List V->Ak),L0 l e K=ob (O7 env l) K
 | [],K=>rfl
 | x ::r,K=>by
   show(Bx x e fun v=>L0 r e fun vs=>K (v::vs))=_;rw[BD he];simp only[O7];cases Da env x with
   | none=>rfl
   | some v=>
     simp only[ob];rw[Bs he r];cases O7 env r<;>rfl
def X6 (x:Option Bk) (e:CN) (K:Option V->Ak):Ak:=@Option.rec Bk (fun _=>CN->(Option V->Ak)->Ak) (fun _ K=>K none) (fun x e K=>Bx x e fun v=>K (some v)) x e K
def B6 {e:CN} {env:Env} (he:JO e env) (x:Option Bk) (K:Option V->Ak):X6 x e K=ob (LJ env x) K:=by
 cases x with
 | none=>rfl
 | some x=>
   show(Bx x e fun v=>K (some v))=_;rw[BD he];simp only[LJ];cases Da env x<;>rfl
def yE (k:IntKind):Nat:=@IntKind.rec (fun _=>Nat) 0 1 2 3 4 5 6 7 k
def NX (a b:IntKind):Bool:=Nat.beq (yE a) (yE b)
def pD (a b:IntKind):NX a b=decide (a=b):=by cases a<;>cases b<;>rfl
def yO (a b:Int):Int:=@Int.rec (fun _=>Int->Int) (fun m b=>@Int.rec (fun _=>Nat->Int) (fun n m=>Int.ofNat (Nat.add m n)) (fun n m=>Int.ofNat m+Int.negSucc n) b m) (fun m b=>Int.negSucc m+b) a b
def qC (a b:Int):yO a b=a+b:=by cases a<;>cases b<;>rfl
def x4 (a b:Int):Int:=@Int.rec (fun _=>Int->Int) (fun m b=>@Int.rec (fun _=>Nat->Int) (fun n m=>@Bool.rec (fun _=>Int) (Int.negSucc (Nat.sub n (Nat.succ m))) (Int.ofNat (Nat.sub m n)) (Nat.ble n m)) (fun n m=>Int.ofNat m - Int.negSucc n) b m) (fun m b=>Int.negSucc m - b) a b
def my (a b:Int):x4 a b=a - b:=by
 cases a with
 | negSucc m=>rfl
 | ofNat m=>
   cases b with
   | negSucc n=>rfl
   | ofNat n=>
     show @Bool.rec (fun _=>Int) (Int.negSucc (n - (m+1))) (Int.ofNat (m - n)) (Nat.ble n m)=_;cases h:Nat.ble n m with
     | true=>
       have:=Nat.le_of_ble_eq_true h;show Int.ofNat (m - n)=(m:Int) - (n:Int);simp only[Int.ofNat_eq_natCast];omega
     | false=>
       have: ¬n<=m:=fun h'=>by rw[Nat.ble_eq_true_of_le h']at h;cases h
       show Int.negSucc (n - (m+1))=(m:Int) - (n:Int);omega
def er (a b:Int):Bool:=@Int.rec (fun _=>Int->Bool) (fun m b=>@Int.rec (fun _=>Nat->Bool) (fun n m=>Nat.ble (Nat.succ m) n) (fun _ _=>false) b m) (fun m b=>@Int.rec (fun _=>Nat->Bool) (fun _ _=>true) (fun n m=>Nat.ble (Nat.succ n) m) b m) a b
def T0 (a b:Int):er a b=NR a b:=by cases a<;>cases b<;>rfl
def eqI (a b:Int):Bool:=@Int.rec (fun _=>Int->Bool) (fun m b=>@Int.rec (fun _=>Nat->Bool) (fun n m=>Nat.beq m n) (fun _ _=>false) b m) (fun m b=>@Int.rec (fun _=>Nat->Bool) (fun _ _=>false) (fun n m=>Nat.beq m n) b m) a b
def tt (a b:Int):eqI a b=bf a b:=by cases a<;>cases b<;>rfl
def Td (b:Bool):Bool:=@Bool.rec (fun _=>Bool) true false b
def np (b:Bool):Td b= !b:=by cases b<;>rfl
def fF (a:Int):Nat:=@Int.rec (fun _=>Nat) (fun n=>n) (fun _=>0) a
def P7 (a:Int):fF a=a.toNat:=by cases a<;>rfl
def ZX (k:IntKind) (n:Int):Int:=@IntKind.rec (fun _=>Int->Int) (fun n=>IntKind.i8.wrap n) (fun n=>IntKind.i16.wrap n) (fun n=>IntKind.i32.wrap n)
 (fun n=>@Int.rec (fun _=>Int) (fun m=>@Bool.rec (fun _=>Int) (IntKind.i64.wrap (Int.ofNat m)) (Int.ofNat m) (Nat.ble m 9223372036854775807)) (fun m=>@Bool.rec (fun _=>Int) (IntKind.i64.wrap (Int.negSucc m)) (Int.negSucc m) (Nat.ble m 9223372036854775807)) n)
 (fun n=>IntKind.u8.wrap n) (fun n=>IntKind.u16.wrap n) (fun n=>IntKind.u32.wrap n)
 (fun n=>@Int.rec (fun _=>Int) (fun m=>@Bool.rec (fun _=>Int) (IntKind.u64.wrap (Int.ofNat m)) (Int.ofNat m) (Nat.ble m 18446744073709551615)) (fun m=>IntKind.u64.wrap (Int.negSucc m)) n) k n
def jU (k:IntKind) (n:Int):ZX k n=k.wrap n:=by
 cases k<;>try rfl
 .cases n with
  | ofNat m=>
    have:=Jl .i64 (.ofNat m);simp only[Iz]at this;rw[<-this];show @Bool.rec (fun _=>Int) _ _ _=_;cases Nat.ble m 9223372036854775807<;>rfl
  | negSucc m=>
    show @Bool.rec (fun _=>Int) (IntKind.i64.wrap (Int.negSucc m)) (Int.negSucc m) (Nat.ble m 9223372036854775807)=_;cases h:Nat.ble m 9223372036854775807 with
    | false=>rfl
    | true=>
      have:=Nat.le_of_ble_eq_true h;show Int.negSucc m=_;exact(wrap64 (by omega) (by omega)).symm
 .cases n with
  | ofNat m=>
    have:=Jl .u64 (.ofNat m);simp only[Iz]at this;rw[<-this];show @Bool.rec (fun _=>Int) _ _ _=_;cases Nat.ble m 18446744073709551615<;>rfl
  | negSucc m=>rfl
def x5 (k:IntKind) (a b:Int):Int:=@Int.rec (fun _=>Int->IntKind->Int) (fun m b _=>Int.ofNat (Nat.shiftRight m (Nat.min (fF b) k.bits))) (fun m b k=>(Int.negSucc m).fdiv (2 ^ (min b.toNat k.bits))) a b k
def m7 (k:IntKind) (a b:Int):x5 k a b=a.fdiv (2 ^ (min b.toNat k.bits)):=by
 cases a with
 | negSucc m=>rfl
 | ofNat m=>
   show Int.ofNat (m >>> (min (fF b) k.bits))=_;rw[P7,Nat.shiftRight_eq_div_pow];have:(2:Int) ^ (min b.toNat k.bits)=((2 ^ (min b.toNat k.bits):Nat):Int):=by simp
   rw[this];exact(Int.ofNat_fdiv _ _)
def x6 (k:IntKind) (a b:Int):Int:=@Int.rec (fun _=>Int->IntKind->Int) (fun m b _=>Int.ofNat (Nat.shiftLeft m (Nat.min (fF b) k.bits))) (fun m b k=>(Int.negSucc m)*(2 ^ (min b.toNat k.bits))) a b k
def m8 (k:IntKind) (a b:Int):x6 k a b=a*(2 ^ (min b.toNat k.bits)):=by
 cases a with
 | negSucc m=>rfl
 | ofNat m=>
   show Int.ofNat (m <<< (min (fF b) k.bits))=_;rw[P7,Nat.shiftLeft_eq];simp
def asI (v:V) (K:IntKind->Int->Ak):Ak:=@V.rec (fun _=>(IntKind->Int->Ak)->Ak) (fun _=>Unit) (fun _=>Unit) (fun _ K=>none) (fun k n K=>K k n) (fun _ K=>none) (fun K=>none) (fun _ _ K=>none) (fun _ _ K=>none) (fun _ _ _ K=>none) (fun _ _ _ K=>none) (fun _ _ _ _ K=>none) (fun _ _ _ _ K=>none) (fun _ K=>none) (fun K=>none) (fun _ _ _ _ _ K=>none) (fun K=>none) (fun _ _ _ K=>none) (fun K=>none) (fun _ _ K=>none) (fun _ _ K=>none) (fun K=>none) () (fun _ _ _ _=>()) () (fun _ _ _ _=>()) v K
def isI:V->Option (IntKind×Int)| .i k n=>some (k,n)|_=>none
def Yb (v:V) (K:IntKind->Int->Ak):asI v K=ob (isI v) fun p=>K p.1 p.2:=by cases v<;>rfl
def me (op:BinOp) (vx vy:V) (K:V->Ak):Ak:=asI vx fun ka a=>asI vy fun kb b=>@BinOp.rec (fun _=>IntKind->Int->IntKind->Int->(V->Ak)->Ak) (fun ka a kb b K=>@Bool.rec (fun _=>Ak) none (K (.i ka (ZX ka (yO a b)))) (NX ka kb)) (fun ka a kb b K=>@Bool.rec (fun _=>Ak) none (K (.i ka (ZX ka (x4 a b)))) (NX ka kb)) (fun ka a kb b K=>ob (VV .mul (.i ka a) (.i kb b)) K) (fun ka a kb b K=>ob (VV .quo (.i ka a) (.i kb b)) K) (fun ka a kb b K=>ob (VV .rem (.i ka a) (.i kb b)) K) (fun ka a kb b K=>@Bool.rec (fun _=>Ak) none (K (.i ka (P6 .and ka a b))) (NX ka kb)) (fun ka a kb b K=>@Bool.rec (fun _=>Ak) none (K (.i ka (P6 .or ka a b))) (NX ka kb)) (fun ka a kb b K=>@Bool.rec (fun _=>Ak) none (K (.i ka (P6 .xor ka a b))) (NX ka kb)) (fun ka a kb b K=>@Bool.rec (fun _=>Ak) none (K (.i ka (ZX ka (x6 ka a b)))) (Td (er b 0))) (fun ka a kb b K=>@Bool.rec (fun _=>Ak) none (K (.i ka (x5 ka a b))) (Td (er b 0))) (fun ka a kb b K=>@Bool.rec (fun _=>Ak) none (K (.i ka (P6 .andNot ka a b))) (NX ka kb)) (fun ka a kb b K=>@Bool.rec (fun _=>Ak) none (K (.b (eqI a b))) (NX ka kb)) (fun ka a kb b K=>@Bool.rec (fun _=>Ak) none (K (.b (Td (eqI a b)))) (NX ka kb)) (fun ka a kb b K=>@Bool.rec (fun _=>Ak) none (K (.b (er a b))) (NX ka kb)) (fun ka a kb b K=>@Bool.rec (fun _=>Ak) none (K (.b (Td (er b a)))) (NX ka kb)) (fun ka a kb b K=>@Bool.rec (fun _=>Ak) none (K (.b (er b a))) (NX ka kb)) (fun ka a kb b K=>@Bool.rec (fun _=>Ak) none (K (.b (Td (er a b)))) (NX ka kb)) op ka a kb b K
def po (op:BinOp) (vx vy:V) (K:V->Ak):me op vx vy K=ob (VV op vx vy) K:=by
 unfold me;rw[Yb];cases vx<;>first|rfl|skip
 rename_i ka a;simp only[isI,ob];rw[Yb];cases vy<;>first|(cases op<;>rfl)|skip
 rename_i kb b;simp only[isI,ob];cases op<;>first|rfl|skip
 all_goals
  simp only[VV];simp only[BM,pD,jU,qC,my,tt,T0,np,m8,m7,Jl,Pk,ob]
  first
   | (cases decide (ka=kb)<;>rfl)
   | (cases NR b 0<;>rfl)
def bw {α:Type} (t:Tr α) (k:Nat):Option α:=@Tr.rec α (fun _=>Nat->Option α) (fun _=>none) (fun o _ _ ihl ihr k=>@Nat.rec (fun _=>Option α) o (fun j _=>@Bool.rec (fun _=>Option α) (ihr (Nat.div j 2)) (ihl (Nat.div j 2)) (Nat.beq (Nat.mod j 2) 0)) k) t k
def Uh {α:Type} (t:Tr α): ∀k:Nat,bw t k=t.get k:=by
 induction t with
 | leaf=>intro k;rfl
 | node o l r ihl ihr=>
   intro k;cases k with
   | zero=>rfl
   | succ j=>
     show @Bool.rec (fun _=>Option α) (bw r (j / 2)) (bw l (j / 2)) (Nat.beq (j % 2) 0)=bif Nat.beq (j % 2) 0 then l.get (j / 2)else r.get (j / 2);rw[ihl,ihr];cases Nat.beq (j % 2) 0<;>rfl
def Tb {α β:Type} (x:Option α) (d:Nat) (t:Tr α) (k:Nat) (K:Tr α->β):β:=
 @Nat.rec (fun _=>Tr α->Nat->(Tr α->β)->β) (fun t _ K=>K t)
  (fun _ ih t k K=>@Tr.rec α (fun _=>Nat->(Tr α->β)->β)
   (fun k K=>@Nat.rec (fun _=>β) (K (.node x .leaf .leaf)) (fun j _=>@Bool.rec (fun _=>β) (ih .leaf (Nat.div j 2) fun r=>K (.node none .leaf r)) (ih .leaf (Nat.div j 2) fun l=>K (.node none l .leaf)) (Nat.beq (Nat.mod j 2) 0)) k)
   (fun o l r _ _ k K=>@Nat.rec (fun _=>β) (K (.node x l r)) (fun j _=>@Bool.rec (fun _=>β) (ih r (Nat.div j 2) fun r=>K (.node o l r)) (ih l (Nat.div j 2) fun l=>K (.node o l r)) (Nat.beq (Nat.mod j 2) 0)) k) t k K) d t k K
def G4 {α β:Type} (x:Option α): ∀(d:Nat) (t:Tr α) (k:Nat) (K:Tr α->β),Tb x d t k K=Tr.put x d t k K
 | 0,t,k,K=>rfl
 | d+1,.leaf,0,K=>rfl
 | d+1,.node _ _ _,0,K=>rfl
 | d+1,.leaf,j+1,K=>by
   show @Bool.rec (fun _=>β) (Tb x d .leaf (j / 2) fun r=>K (.node none .leaf r)) (Tb x d .leaf (j / 2) fun l=>K (.node none l .leaf)) (Nat.beq (j % 2) 0)=bif Nat.beq (j % 2) 0 then _ else _;rw[G4 x d,G4 x d,BM]
 | d+1,.node o l r,j+1,K=>by
   show @Bool.rec (fun _=>β) (Tb x d r (j / 2) fun r=>K (.node o l r)) (Tb x d l (j / 2) fun l=>K (.node o l r)) (Nat.beq (j % 2) 0)=bif Nat.beq (j % 2) 0 then _ else _;rw[G4 x d,G4 x d,BM]
def fZ (s:St) (o:EO) (K:Nat->St->Ak):Ak:=@Nat.rec (fun _=>Ak) (Tb (some o) A9 s.t 0 fun t=>K 0 ⟨1,t⟩) (fun n _=>@Bool.rec (fun _=>Ak) none (Tb (some o) A9 s.t (Nat.succ n) fun t=>K (Nat.succ n) ⟨Nat.succ (Nat.succ n),t⟩) (Nat.ble (Nat.succ n) NW)) s.nx
def nv {γ:Type} (s:St) (o:EO) (f:Nat->St->Option γ) (K:γ->Ak):ob (s.new o f) K=fZ s o fun i s'=>ob (f i s') K:=by
 obtain⟨n,t⟩:=s;cases n with
 | zero=>
   unfold fZ;simp only[St.new];rw[G4,Tr.put_eq,Tr.put_eq];rfl
 | succ n=>
   unfold fZ;simp only[St.new];rw[G4,Tr.put_eq,Tr.put_eq,BM,LQ]
def ye (o:EO) (K:List V->Ak):Ak:=@EO.rec (fun _=>(List V->Ak)->Ak) (fun vs K=>K vs) (fun _ _ _=>none) (fun _ _=>none) (fun _ _ _ _ _ _=>none) o K
def s6 (o:EO) (K:Nat->List (List V)->Ak):Ak:=@EO.rec (fun _=>(Nat->List (List V)->Ak)->Ak) (fun _ _=>none) (fun sz es K=>K sz es) (fun _ _=>none) (fun _ _ _ _ _ _=>none) o K
def obQ {α:Type} (o:Option α) (K:α->Ak):Ak:=@Option.rec α (fun _=>(α->Ak)->Ak) (fun _=>none) (fun a K=>K a) o K
def gq {α:Type} (o:Option α) (K:α->Ak):obQ o K=ob o K:=by cases o<;>rfl
def Zh (s:St) (n:Nat) (K:List V->Ak):Ak:=obQ (bw s.t n) fun o=>ye o K
def T6 (s:St) (n:Nat) (K:Nat->List (List V)->Ak):Ak:=obQ (bw s.t n) fun o=>s6 o K
def Wp (s:St) (n:Nat) (K:List V->Ak):Zh s n K=match s.t.get n with|some (.cs vs)=>K vs|_=>none:=by
 unfold Zh;rw[gq,Uh];cases s.t.get n with
 | none=>rfl
 | some o=>cases o<;>rfl
def S1 (s:St) (n:Nat) (K:Nat->List (List V)->Ak):T6 s n K=match s.t.get n with|some (.arr sz es)=>K sz es|_=>none:=by
 unfold T6;rw[gq,Uh];cases s.t.get n with
 | none=>rfl
 | some o=>cases o<;>rfl
def X9 (agg:Option Nat) (cs:List V) (off:Nat) (K:V->Ak):Ak:=@Option.rec Nat (fun _=>List V->Nat->(V->Ak)->Ak) (fun cs off K=>Tc cs off K)
 (fun n cs off K=>@Bool.rec (fun _=>Ak) (@Bool.rec (fun _=>Ak) none (K (.a (ZY (Vy cs off) n))) (Nat.ble (Nat.add off n) (GP cs))) (K (.a cs)) (@Bool.rec (fun _=>Bool) false (Nat.beq n (GP cs)) (Nat.beq off 0))) agg cs off K
def Pa (agg:Option Nat) (cs:List V) (off:Nat) (K:V->Ak):X9 agg cs off K=ob (VT agg cs off) K:=by
 cases agg with
 | none=>exact MG cs off K
 | some n=>
   show @Bool.rec (fun _=>Ak) (@Bool.rec (fun _=>Ak) none (K (.a (ZY (Vy cs off) n))) (Nat.ble (off+n) (GP cs))) (K (.a cs)) (@Bool.rec (fun _=>Bool) false (Nat.beq n (GP cs)) (Nat.beq off 0))=_;simp only[VT];rw[jc,Qd,FY,LQ];cases h1:Nat.beq off 0 with
   | false=>exact BM _ _ _
   | true=>
     cases h2:Nat.beq n cs.length with
     | false=>exact BM _ _ _
     | true=>
       have:=C6 h1;subst this;have:=C6 h2;subst this;show K (.a cs)=_;rw[Nat.ble_eq_true_of_le (by omega)];simp[ob]
def gE (s:St) (agg:Option Nat) (x:V) (K:V->Ak):Ak:=@V.rec (fun _=>St->Option Nat->(V->Ak)->Ak) (fun _=>Unit) (fun _=>Unit) (fun _ s agg K=>none) (fun _ _ s agg K=>none) (fun _ s agg K=>none) (fun s agg K=>none) (fun n off s agg K=>Zh s n fun vs=>X9 agg vs off K) (fun cs _ s agg K=>X9 agg cs 0 K) (fun _ _ _ s agg K=>none) (fun _ _ _ s agg K=>none) (fun _ _ _ _ s agg K=>none) (fun n sz i off s agg K=>T6 s n fun sz1 es=>@Bool.rec (fun _=>Ak) none (Tc es i fun e=>X9 agg e off K) (Nat.beq sz sz1)) (fun _ s agg K=>none) (fun s agg K=>none) (fun _ _ _ _ _ s agg K=>none) (fun s agg K=>none) (fun _ _ _ s agg K=>none) (fun s agg K=>none) (fun _ _ s agg K=>none) (fun _ _ s agg K=>none) (fun s agg K=>none) () (fun _ _ _ _=>()) () (fun _ _ _ _=>()) x s agg K
def kQ (s:St) (agg:Option Nat) (x:V) (K:V->Ak):gE s agg x K=ob (Oe s agg x) K:=by
 cases x<;>first|rfl|skip
 .rename_i n off
  refine(Wp _ _ _).trans ?_;simp only[Oe];cases s.t.get n with
  | none=>rfl
  | some o=>cases o<;>first|rfl|exact Pa _ _ _ _
 .exact Pa _ _ _ _
 .rename_i n sz i off
  refine(S1 _ _ _).trans ?_;simp only[Oe];cases s.t.get n with
  | none=>rfl
  | some o=>
    cases o<;>first|rfl|skip
    rename_i sz1 es;simp only;rw[BM,LQ,MG];congr 1;cases es[i]? with
    | none=>rfl
    | some e=>exact Pa _ _ _ _
def HQ (v:V) (K:List V->Ak):Ak:=@V.rec (fun _=>V->(List V->Ak)->Ak) (fun _=>Unit) (fun _=>Unit) (fun _ v K=>K [v]) (fun _ _ v K=>K [v]) (fun _ v K=>K [v]) (fun v K=>K [v]) (fun _ _ v K=>K [v]) (fun _ _ v K=>K [v]) (fun _ _ _ v K=>K [v]) (fun _ _ _ v K=>K [v]) (fun _ _ _ _ v K=>K [v]) (fun _ _ _ _ v K=>K [v]) (fun _ v K=>K [v]) (fun v K=>K [v]) (fun _ _ _ _ _ v K=>K [v]) (fun v K=>K [v]) (fun _ _ _ v K=>K [v]) (fun v K=>K [v]) (fun cs _ v K=>K cs) (fun _ _ v K=>none) (fun v K=>none) () (fun _ _ _ _=>()) () (fun _ _ _ _=>()) v v K
def IM (v:V) (K:List V->Ak):HQ v K=ob (cellsOf v) K:=by cases v<;>rfl
def x9 (v:V):Bool:=@V.rec (fun _=>Bool) (fun _=>Unit) (fun _=>Unit) (fun _=>true) (fun _ _=>true) (fun _=>true) (true) (fun _ _=>true) (fun _ _=>true) (fun _ _ _=>true) (fun _ _ _=>true) (fun _ _ _ _=>true) (fun _ _ _ _=>true) (fun _=>true) (true) (fun _ _ _ _ _=>true) (true) (fun _ _ _=>true) (true) (fun _ _=>false) (fun _ _=>false) (false) () (fun _ _ _ _=>()) () (fun _ _ _ _=>()) v
def ni:x9=CJ:=funext fun v=>by cases v<;>rfl
def fV (cs:List V) (o:Nat) (vc:List V):List V:=@List.rec V (fun _=>List V->Nat->List V) (fun cs _=>cs) (fun v _ ih cs o=>ih (X3 cs o v) (Nat.succ o)) vc cs o
def PQ: ∀(vc cs:List V) (o:Nat),fV cs o vc=putAt cs o vc
 | [],_,_=>rfl
 | v::r,cs,o=>by
   show fV (X3 cs o v) (o+1) r=_;rw[PQ r,UO];rfl
def mR (cs:List V) (o:Nat) (vc:List V):List V:=@Bool.rec (fun _=>List V) (fV cs o vc) vc (@Bool.rec (fun _=>Bool) false (Nat.beq (GP vc) (GP cs)) (Nat.beq o 0))
def cq: ∀(vc pre cs:List V),vc.length=cs.length->putAt (pre++cs) pre.length vc=pre++vc:=by
 intro vc
 induction vc with
 | nil=>intro pre cs hl;cases cs with
   | nil=>rfl
   | cons _ _=>cases hl
 | cons x vc ih=>
   intro pre cs hl;cases cs with
   | nil=>cases hl
   | cons y cs=>
     simp only[putAt];rw[List.set_append_right _ _ (IS _),Nat.sub_self,List.set_cons_zero];have:=ih (pre++[x]) cs (by simpa using hl);simp only[Ri,NM,List.length_nil,Gq,Ph,List.singleton_append]at this;exact this
def Z8 (cs:List V) (o:Nat) (vc:List V):mR cs o vc=putAt cs o vc:=by
 unfold mR;cases h1:Nat.beq o 0 with
 | false=>exact PQ vc cs o
 | true=>
   rw[FY,FY];cases h2:Nat.beq vc.length cs.length with
   | false=>exact PQ vc cs o
   | true=>
     have:=C6 h1;subst this;exact(cq vc [] cs (C6 h2)).symm
def gb (s:St) (sz:Nat) (a:V) (vc:List V) (K:St->Ak):Ak:=@V.rec (fun _=>St->Nat->List V->(St->Ak)->Ak) (fun _=>Unit) (fun _=>Unit) (fun _ s sz vc K=>none) (fun _ _ s sz vc K=>none) (fun _ s sz vc K=>none) (fun s sz vc K=>none) (fun n off s sz vc K=>Zh s n fun vs=>@Bool.rec (fun _=>Ak) none (Tb (some (.cs (mR vs off vc))) A9 s.t n fun t=>K ⟨s.nx,t⟩) (Nat.ble (Nat.add off sz) (GP vs))) (fun _ _ s sz vc K=>none) (fun _ _ _ s sz vc K=>none) (fun _ _ _ s sz vc K=>none) (fun _ _ _ _ s sz vc K=>none) (fun n s' i off s sz vc K=>T6 s n fun s1 es=>@Bool.rec (fun _=>Ak) none (@Bool.rec (fun _=>Ak) none (Tc es i fun e=>Tb (some (.arr s1 (X3 es i (mR e off vc)))) A9 s.t n fun t=>K ⟨s.nx,t⟩) (Nat.ble (Nat.add off sz) s')) (Nat.beq s' s1)) (fun _ s sz vc K=>none) (fun s sz vc K=>none) (fun _ _ _ _ _ s sz vc K=>none) (fun s sz vc K=>none) (fun _ _ _ s sz vc K=>none) (fun s sz vc K=>none) (fun _ _ s sz vc K=>none) (fun _ _ s sz vc K=>none) (fun s sz vc K=>none) () (fun _ _ _ _=>()) () (fun _ _ _ _=>()) a s sz vc K
def Ts (s:St) (sz:Nat) (a x:V) (K:St->Ak):Ak:=HQ x fun vc=>@Bool.rec (fun _=>Ak) none (@Bool.rec (fun _=>Ak) none (gb s sz a vc K) (sJ x9 vc)) (Nat.beq (GP vc) sz)
def cK (s : St) (sz:Nat) (a x:V) (K:St->Ak):Ts s sz a x K=ob (QB s sz a x) K:=by
 unfold Ts QB;rw[IM];cases cellsOf x with
 | none=>rfl
 | some vc =>
   simp only[ob,FY,pw,ni];cases Nat.beq vc.length sz with
   | false=>rfl
   | true=>
     cases vc.all CJ with
     | false=>rfl
     | true=>
       simp only[Bool.and_true,cond_true];show gb s sz a vc K=_;cases a<;>first|rfl|skip
       .rename_i n off
        refine(Wp _ _ _).trans ?_;simp only;cases s.t.get n with
        | none=>rfl
        | some o=>
          cases o<;>first|rfl|skip
          rename_i vs;simp only;rw[G4,Tr.put_eq,Z8,FY,BM,Tr.put_eq];show(bif Nat.ble (off+sz) vs.length then _ else none)=_;cases Nat.ble (off+sz) vs.length<;>rfl
       .rename_i n s' i off
        refine(S1 _ _ _).trans ?_;simp only;cases s.t.get n with
        | none=>rfl
        | some o=>
          cases o<;>first|rfl|skip
          rename_i s1 es;simp only;rw[BM,BM,MG];show(bif Nat.beq s' s1 then(bif Nat.ble (off+sz) s' then _ else none)else none)=_;cases Nat.beq s' s1<;>cases Nat.ble (off+sz) s'<;>try rfl
          simp only[cond_true,Bool.and_true];cases es[i]? with
          | none=>rfl
          | some e=>
            simp only[ob];rw[G4,Tr.put_eq,Z8,UO,Tr.put_eq]
def YU (off:Nat) (x:V) (K:V->Ak):Ak:=@V.rec (fun _=>Nat->(V->Ak)->Ak) (fun _=>Unit) (fun _=>Unit) (fun _ off K=>none) (fun _ _ off K=>none) (fun _ off K=>none) (fun off K=>none) (fun n o off K=>K (.p n (Nat.add o off))) (fun cs _ off K=>K (.rp (Vy cs off))) (fun _ _ _ off K=>none) (fun _ _ _ off K=>none) (fun _ _ _ _ off K=>none) (fun n sz i o off K=>K (.pe n sz i (Nat.add o off))) (fun _ off K=>none) (fun off K=>none) (fun _ _ _ _ _ off K=>none) (fun off K=>none) (fun _ _ _ off K=>none) (fun off K=>none) (fun _ _ off K=>none) (fun _ _ off K=>none) (fun off K=>none) () (fun _ _ _ _=>()) () (fun _ _ _ _=>()) x off K
def dh (off:Nat) (x:V) (K:V->Ak):YU off x K=ob (UD off x) K:=by
 cases x<;>first|rfl|skip
 show K (.rp (Vy _ off))=_;rw[Qd];rfl
def iF (sz:Nat) (x:V) (j:Int) (K:V->Ak):Ak:=@V.rec (fun _=>Nat->Int->(V->Ak)->Ak) (fun _=>Unit) (fun _=>Unit) (fun _ sz j K=>none) (fun _ _ sz j K=>none) (fun _ sz j K=>none) (fun sz j K=>none) (fun _ _ sz j K=>none) (fun _ _ sz j K=>none) (fun es _ _ sz j K=>Tc es (fF j) fun e=>@Bool.rec (fun _=>Ak) none (K (.rp e)) (Nat.beq (GP e) sz)) (fun n len _ sz j K=>@Bool.rec (fun _=>Ak) none (K (.pe n sz (fF j) 0)) (er j (Int.ofNat len))) (fun n s off len sz j K=>@Bool.rec (fun _=>Ak) none (@Bool.rec (fun _=>Ak) none (K (.pe n sz (Nat.add off (fF j)) 0)) (er j (Int.ofNat len))) (Nat.beq s sz)) (fun _ _ _ _ sz j K=>none) (fun _ sz j K=>none) (fun sz j K=>none) (fun _ _ _ _ _ sz j K=>none) (fun sz j K=>none) (fun _ _ _ sz j K=>none) (fun sz j K=>none) (fun _ _ sz j K=>none) (fun _ _ sz j K=>none) (fun sz j K=>none) () (fun _ _ _ _=>()) () (fun _ _ _ _=>()) x sz j K
def YR (sz:Nat) (arr:Option Nat) (x i:V) (K:V->Ak):Ak:=@Option.rec Nat (fun _=>Nat->V->V->(V->Ak)->Ak) (fun sz x i K=>asI i fun _ j=>@Bool.rec (fun _=>Ak) (iF sz x j K) none (er j 0)) (fun m sz x i K=>ob (Np sz (some m) x i) K) arr sz x i K
def dO (sz:Nat) (arr:Option Nat) (x i:V) (K:V->Ak):YR sz arr x i K=ob (Np sz arr x i) K:=by
 cases arr with
 | some m=>rfl
 | none=>
   refine(Yb _ _).trans ?_;cases i<;>first|rfl|skip
   rename_i k j;simp only[isI,ob,Np,Pk,T0];cases NR j 0 with
   | true=>rfl
   | false=>
     show iF sz x j K=_;cases x<;>first|rfl|skip
     .rename_i es full
      show Tc es (fF j) _=_;rw[MG,P7];simp only[Bool.not_false,cond_true];cases es[j.toNat]? with
      | none=>rfl
      | some e=>
        simp only[ob,FY];cases Nat.beq e.length sz<;>rfl
     .rename_i n len cap
      show @Bool.rec (fun _=>Ak) none (K (.pe n sz (fF j) 0)) (er j (Int.ofNat len))=_;rw[P7,T0];simp only[Bool.not_false,cond_true];have:NR j (Int.ofNat len)=NR j (len:Int):=rfl;rw[this];cases NR j (len:Int)<;>rfl
     .rename_i n s off len
      show @Bool.rec (fun _=>Ak) none (@Bool.rec (fun _=>Ak) none (K (.pe n sz (off+fF j) 0)) (er j (Int.ofNat len))) (Nat.beq s sz)=_;rw[P7,T0];simp only[Bool.not_false,cond_true];have:NR j (Int.ofNat len)=NR j (len:Int):=rfl;rw[this];cases Nat.beq s sz<;>cases NR j (len:Int)<;>rfl
def rz (x:V) (K:V->Ak):Ak:=@V.rec (fun _=>(V->Ak)->Ak) (fun _=>Unit) (fun _=>Unit) (fun _ K=>none) (fun _ _ K=>none) (fun _ K=>none) (fun K=>none) (fun _ _ K=>none) (fun _ _ K=>none) (fun es _ _ K=>K (.i .i64 (Int.ofNat (GP es)))) (fun _ len _ K=>@Bool.rec (fun _=>Ak) none (K (.i .i64 (Int.ofNat len))) (Nat.ble len Ad)) (fun _ _ _ len K=>@Bool.rec (fun _=>Ak) none (K (.i .i64 (Int.ofNat len))) (Nat.ble len Ad)) (fun _ _ _ _ K=>none) (fun _ K=>none) (fun K=>none) (fun _ _ _ _ _ K=>none) (fun K=>none) (fun _ _ _ K=>none) (fun K=>none) (fun _ _ K=>none) (fun _ _ K=>none) (fun K=>none) () (fun _ _ _ _=>()) () (fun _ _ _ _=>()) x K
def oD (x:V) (K:V->Ak):rz x K=ob (b6 x) K:=by
 cases x<;>first|rfl|skip
 .show K (.i .i64 (Int.ofNat (GP _)))=_
  rw[FY];rfl
 .show @Bool.rec (fun _=>Ak) none _ (Nat.ble _ Ad)=_
  rw[BM];simp only[b6];rw[LQ];rfl
 .show @Bool.rec (fun _=>Ak) none _ (Nat.ble _ Ad)=_
  rw[BM];simp only[b6];rw[LQ];rfl
def YK (x:V) (K:V->Ak):Ak:=@V.rec (fun _=>V->(V->Ak)->Ak) (fun _=>Unit) (fun _=>Unit) (fun _ x K=>none) (fun _ _ x K=>none) (fun _ x K=>none) (fun x K=>none) (fun _ _ x K=>K x) (fun _ _ x K=>K x) (fun _ _ _ x K=>none) (fun _ _ _ x K=>none) (fun _ _ _ _ x K=>none) (fun _ _ _ _ x K=>K x) (fun _ x K=>none) (fun x K=>none) (fun _ _ _ _ _ x K=>ob (No x) K) (fun x K=>none) (fun _ _ _ x K=>none) (fun x K=>none) (fun _ _ x K=>none) (fun _ _ x K=>none) (fun x K=>none) () (fun _ _ _ _=>()) () (fun _ _ _ _=>()) x x K
def dC (x:V) (K:V->Ak):YK x K=ob (No x) K:=by cases x<;>rfl
def asT (v:V) (K:List V->Ak):Ak:=@V.rec (fun _=>(List V->Ak)->Ak) (fun _=>Unit) (fun _=>Unit) (fun _ K=>none) (fun _ _ K=>none) (fun _ K=>none) (fun K=>none) (fun _ _ K=>none) (fun _ _ K=>none) (fun _ _ _ K=>none) (fun _ _ _ K=>none) (fun _ _ _ _ K=>none) (fun _ _ _ _ K=>none) (fun _ K=>none) (fun K=>none) (fun _ _ _ _ _ K=>none) (fun K=>none) (fun _ _ _ K=>none) (fun K=>none) (fun _ _ K=>none) (fun vs _ K=>K vs) (fun K=>none) () (fun _ _ _ _=>()) () (fun _ _ _ _=>()) v K
def qH (v:V) (K:Bool->Ak):Ak:=@V.rec (fun _=>(Bool->Ak)->Ak) (fun _=>Unit) (fun _=>Unit) (fun x K=>K x) (fun _ _ K=>none) (fun _ K=>none) (fun K=>none) (fun _ _ K=>none) (fun _ _ K=>none) (fun _ _ _ K=>none) (fun _ _ _ K=>none) (fun _ _ _ _ K=>none) (fun _ _ _ _ K=>none) (fun _ K=>none) (fun K=>none) (fun _ _ _ _ _ K=>none) (fun K=>none) (fun _ _ _ K=>none) (fun K=>none) (fun _ _ K=>none) (fun _ _ K=>none) (fun K=>none) () (fun _ _ _ _=>()) () (fun _ _ _ _=>()) v K
def asA (v:V) (K:List V->Ak):Ak:=@V.rec (fun _=>(List V->Ak)->Ak) (fun _=>Unit) (fun _=>Unit) (fun _ K=>none) (fun _ _ K=>none) (fun _ K=>none) (fun K=>none) (fun _ _ K=>none) (fun _ _ K=>none) (fun _ _ _ K=>none) (fun _ _ _ K=>none) (fun _ _ _ _ K=>none) (fun _ _ _ _ K=>none) (fun _ K=>none) (fun K=>none) (fun _ _ _ _ _ K=>none) (fun K=>none) (fun _ _ _ K=>none) (fun K=>none) (fun cs _ K=>K cs) (fun _ _ K=>none) (fun K=>none) () (fun _ _ _ _=>()) () (fun _ _ _ _=>()) v K
def X7 (v:V) (K:V->Ak):Ak:=@V.rec (fun _=>V->(V->Ak)->Ak) (fun _=>Unit) (fun _=>Unit) (fun x v K=>@Bool.rec (fun _=>Ak) (K (.b false)) (K (.b true)) x) (fun k n v K=>@Int.rec (fun _=>Ak) (fun m=>@Nat.rec (fun _=>Ak) (K (.i k (Int.ofNat 0))) (fun j _=>K (.i k (Int.ofNat (Nat.succ j)))) m) (fun m=>@Nat.rec (fun _=>Ak) (K (.i k (Int.negSucc 0))) (fun j _=>K (.i k (Int.negSucc (Nat.succ j)))) m) n) (fun _ v K=>K v) (fun v K=>K v) (fun _ _ v K=>K v) (fun _ _ v K=>K v) (fun _ _ _ v K=>K v) (fun _ _ _ v K=>K v) (fun _ _ _ _ v K=>K v) (fun _ _ _ _ v K=>K v) (fun _ v K=>K v) (fun v K=>K v) (fun _ _ _ _ _ v K=>K v) (fun v K=>K v) (fun _ _ _ v K=>K v) (fun v K=>K v) (fun _ _ v K=>K v) (fun _ _ v K=>K v) (fun v K=>K v) () (fun _ _ _ _=>()) () (fun _ _ _ _=>()) v v K
def ai (v:V) (K:V->Ak):X7 v K=K v:=by
 cases v<;>first|rfl|skip
 .rename_i x;cases x<;>rfl
 .rename_i k n
  cases n with
  | ofNat m=>cases m<;>rfl
  | negSucc m=>cases m<;>rfl
def fin (o:Option (R×St)) (k kp:V->St->Ak):Ak:=match o with
 | some (.ret v,s)=>k v s
 | some (.Bf v,s)=>kp v s
 | none=>none
def CM (o:Option (R×St)) (k kp:V->St->Ak):Ak:=@Option.rec (R×St) (fun _=>(V->St->Ak)->(V->St->Ak)->Ak) (fun _ _=>none) (fun p k kp=>@R.rec (fun _=>St->(V->St->Ak)->(V->St->Ak)->Ak) (fun v s k _=>k v s) (fun v s _ kp=>kp v s) p.1 p.2 k kp) o k kp
def Br (o:Option (R×St)) (k kp:V->St->Ak):CM o k kp=fin o k kp:=by
 cases o with
 | none=>rfl
 | some p=>
   obtain⟨r,s⟩:=p;cases r<;>rfl
def HO (o:Option V) (s:St) (k kp:V->St->Ak):fin (ov o s) k kp=ob o fun v=>k v s:=by cases o<;>rfl
def ts (o:Option St) (k kp:V->St->Ak):fin (os o) k kp=ob o fun s=>k (.t []) s:=by cases o<;>rfl
def BW {α:Type} (o:Option α) (f:α->Option (R×St)) (k kp:V->St->Ak):fin (ob o f) k kp=ob o fun a=>fin (f a) k kp:=by cases o<;>rfl
abbrev OK:=CF->CV->CP->CN->St->(V->St->Ak)->(V->St->Ak)->Ak
def T9 (e:CN) (ps:List (Nat×Nat×Bk)) (cs:List V) (K:List V->Ak):Ak:=@List.rec (Nat×Nat×Bk) (fun _=>List V->(List V->Ak)->Ak) (fun cs K=>K cs)
 (fun p _ ih cs K=>Bx p.2.2 e fun v=>HQ v fun vc=>@Bool.rec (fun _=>Ak) none (@Bool.rec (fun _=>Ak) none (ih (fV cs p.1 vc) K) (Nat.ble (Nat.add p.1 p.2.1) (GP cs))) (Nat.beq (GP vc) p.2.1)) ps cs K
def S9 {e : CN} {env:Env} (he:JO e env): ∀(ps:List (Nat×Nat×Bk)) (cs:List V) (K:List V->Ak),T9 e ps cs K=ob (Nq env cs ps) K
 | [],cs,K=>rfl
 | (off, sz,x)::r,cs,K=>by
   show(Bx x e fun v=>HQ v fun vc=>@Bool.rec (fun _=>Ak) none (@Bool.rec (fun _=>Ak) none (T9 e r (fV cs off vc) K) (Nat.ble (off+sz) (GP cs))) (Nat.beq (GP vc) sz))=_;rw[BD he];simp only[Nq];cases Da env x with
   | none=>rfl
   | some v=>
     simp only[ob];rw[IM];cases cellsOf v with
     | none=>rfl
     | some vc=>
       simp only[ob,FY,PQ];cases Nat.beq vc.length sz with
       | false=>rfl
       | true=>
         cases Nat.ble (off+sz) cs.length with
         | false=>rfl
         | true=>exact S9 he r _ K
def UA (e:CN) (sz:Nat) (ps:List (Nat×Bk)) (es:List (List V)) (K:List (List V)->Ak):Ak:=@List.rec (Nat×Bk) (fun _=>List (List V)->(List (List V)->Ak)->Ak) (fun es K=>K es)
 (fun p _ ih es K=>Bx p.2 e fun v=>HQ v fun vc=>@Bool.rec (fun _=>Ak) none (@Bool.rec (fun _=>Ak) none (ih (X3 es p.1 vc) K) (Nat.ble (Nat.succ p.1) (GP es))) (Nat.beq (GP vc) sz)) ps es K
def TB {e : CN} {env:Env} (he:JO e env) (sz:Nat): ∀(ps:List (Nat×Bk)) (es:List (List V)) (K:List (List V)->Ak),UA e sz ps es K=ob (Nr env sz es ps) K
 | [],es,K=>rfl
 | (i, x)::r,es,K=>by
   show(Bx x e fun v=>HQ v fun vc=>@Bool.rec (fun _=>Ak) none (@Bool.rec (fun _=>Ak) none (UA e sz r (X3 es i vc) K) (Nat.ble (Nat.succ i) (GP es))) (Nat.beq (GP vc) sz))=_;rw[BD he];simp only[Nr];cases Da env x with
   | none=>rfl
   | some v=>
     simp only[ob];rw[IM];cases cellsOf v with
     | none=>rfl
     | some vc=>
       simp only[ob,FY,UO,Nat.blt,Nat.succ_eq_add_one];cases Nat.beq vc.length sz with
       | false=>rfl
       | true=>
         cases Nat.ble (i+1) es.length with
         | false=>rfl
         | true=>exact TB he sz r _ K
def opK (o:F4):OK:=@F4.rec (fun _=>OK)
 (fun x cf cv cp env s kk kp=>Bx x env fun v=>kk v s)
 (fun x cf cv cp env s kk kp=>Bx x env fun v=>kk v s)
 (fun c a b cf cv cp env s kk kp=>Bx c env fun vc=>Bx a env fun va=>Bx b env fun vb=>qH vc fun t=>@Bool.rec (fun _=>Ak) (kk vb s) (kk va s) t)
 (fun op x y cf cv cp env s kk kp=>Bx x env fun vx=>Bx y env fun vy=>me op vx vy fun v=>kk v s)
 (fun neg x y cf cv cp env s kk kp=>Bx x env fun vx=>Bx y env fun vy=>CM (match vx,vy with| .b p,.b q=>some (.ret (.b (bif neg then p != q else p==q)),s)|_,_=>none) kk kp)
 (fun len neg x y cf cv cp env s kk kp=>Bx x env fun vx=>Bx y env fun vy=>CM (ov (fm len neg vx vy) s) kk kp)
 (fun kind neg x cf cv cp env s kk kp=>Bx x env fun vx=>CM (ov (fl kind neg vx) s) kk kp)
 (fun x cf cv cp env s kk kp=>Bx x env fun vx=>qH vx fun p=>kk (.b (Td p)) s)
 (fun xor x cf cv cp env s kk kp=>Bx x env fun vx=>CM (match vx with| .i ka a=>some (.ret (.i ka (bif xor then bits .xor ka (bif ka.signed then -1 else ka.max) a else ka.wrap (0 - a))),s)|_=>none) kk kp)
 (fun k x cf cv cp env s kk kp=>Bx x env fun vx=>CM (match vx with| .i _ a=>some (.ret (.i k (Iz k a)),s)|_=>none) kk kp)
 (fun x cf cv cp env s kk kp=>Bx x env fun vx=>HQ vx fun cs=>fZ s (.cs cs) fun i s=>kk (.p i 0) s)
 (fun x cf cv cp env s kk kp=>Bx x env fun vx=>HQ vx fun cs=>kk (.rp cs) s)
 (fun sz bytes x y cf cv cp env s kk kp=>Bx x env fun vx=>Bx y env fun vy=>CM (ov (Vx bytes s sz vx vy) s) kk kp)
 (fun zero cf cv cp env s kk kp=>CM (bif CG zero then s.new (.cs zero) fun i s=>some (.ret (.p i 0),s)else none) kk kp)
 (fun zero parts cf cv cp env s kk kp=>@Bool.rec (fun _=>Ak) none (T9 env parts zero fun cs=>kk (.a cs) s) (CG zero))
 (fun sz len zero parts cf cv cp env s kk kp=>@Bool.rec (fun _=>Ak) none (UA env (GP zero) parts (List.replicate len zero) fun es=>kk (.l es true) s) (CG zero))
 (fun agg x cf cv cp env s kk kp=>Bx x env fun vx=>gE s agg vx fun v=>kk v s)
 (fun sz a x cf cv cp env s kk kp=>Bx a env fun va=>Bx x env fun vx=>Ts s sz va vx fun s=>kk (.t []) s)
 (fun off x cf cv cp env s kk kp=>Bx x env fun vx=>YU off vx fun v=>kk v s)
 (fun agg off x cf cv cp env s kk kp=>Bx x env fun vx=>asA vx fun cs=>X9 agg cs off fun v=>kk v s)
 (fun sz arr x i cf cv cp env s kk kp=>Bx x env fun vx=>Bx i env fun vi=>YR sz arr vx vi fun v=>kk v s)
 (fun len sz agg x i cf cv cp env s kk kp=>Bx x env fun vx=>Bx i env fun vi=>CM (ov (QD len sz agg vx vi) s) kk kp)
 (fun sz x lo hi mx cf cv cp env s kk kp=>Bx x env fun vx=>X6 lo env fun l=>X6 hi env fun h=>X6 mx env fun m=>CM (bZ (QC s sz vx l h m)) kk kp)
 (fun x cf cv cp env s kk kp=>Bx x env fun vx=>rz vx fun v=>kk v s)
 (fun x cf cv cp env s kk kp=>Bx x env fun vx=>CM (ov (Vv s vx) s) kk kp)
 (fun x cf cv cp env s kk kp=>Bx x env fun vx=>CM (ov (fk s vx) s) kk kp)
 (fun x i cf cv cp env s kk kp=>Bx x env fun vx=>Bx i env fun vi=>CM (ov (Vu vx vi) s) kk kp)
 (fun sz bytes x y cf cv cp env s kk kp=>Bx x env fun vx=>Bx y env fun vy=>CM (bZ (MS bytes s sz vx vy)) kk kp)
 (fun sz x y cf cv cp env s kk kp=>Bx x env fun vx=>Bx y env fun vy=>CM (bZ (Vw s sz vx vy)) kk kp)
 (fun x y cf cv cp env s kk kp=>Bx x env fun vx=>Bx y env fun vy=>CM (match vx,vy with| .i ka a,.i kb b=>bif decide (ka=kb)then some (.ret (.i ka (bif NR a b then b else a)),s)else none|_,_=>none) kk kp)
 (fun x y cf cv cp env s kk kp=>Bx x env fun vx=>Bx y env fun vy=>CM (match vx,vy with| .i ka a,.i kb b=>bif decide (ka=kb)then some (.ret (.i ka (bif NR b a then b else a)),s)else none|_,_=>none) kk kp)
 (fun i x cf cv cp env s kk kp=>Bx x env fun vx=>asT vx fun vs=>Tc vs i fun v=>kk v s)
 (fun x cf cv cp env s kk kp=>Bx x env fun vx=>YK vx fun v=>kk v s)
 (fun f first cap cf cv cp env s kk kp=>L0 first env fun vf=>L0 cap env fun vc=>@Bool.rec (fun _=>Ak) none (kk (.f f vf vc) s) (Nh f))
 (fun cf cv cp env s kk kp=>CM (s.new (.map []) fun i s=>some (.ret (.m i),s)) kk kp)
 (fun sz bytes zero len cap cf cv cp env s kk kp=>Bx len env fun vx=>Bx cap env fun vy=>CM (bZ (Js s sz zero vx vy)) kk kp)
 (fun ks zero ok m k cf cv cp env s kk kp=>Bx m env fun vm=>Bx k env fun vk=>CM (ov (MQ s ks zero ok vm vk) s) kk kp)
 (fun ks m k v cf cv cp env s kk kp=>Bx m env fun vm=>Bx k env fun vk=>Bx v env fun vx=>CM (os (MP s ks vm vk vx)) kk kp)
 (fun t x cf cv cp env s kk kp=>Bx x env fun vx=>kk (.FD t vx) s)
 (fun t zero ok x cf cv cp env s kk kp=>Bx x env fun vx=>CM (ov (fj t zero ok vx) s) kk kp)
 (fun x cf cv cp env s kk kp=>Bx x env fun vx=>CM (match vx with| .FD t v=>some (.Bf (.FD t v),s)|_=>none) kk kp)
 (fun f args cf cv cp env s kk kp=>L0 args env fun vs=>CM (cf f vs s) kk kp)
 (fun f args cf cv cp env s kk kp=>L0 args env fun vs=>CM (ov (cp f vs) s) kk kp)
 (fun x args cf cv cp env s kk kp=>Bx x env fun vx=>L0 args env fun vs=>CM (cv vx vs s) kk kp)
 (fun x args cf cv cp env s kk kp=>none)
 (fun tab x args cf cv cp env s kk kp=>Bx x env fun vx=>L0 args env fun vs=>CM (match vx with| .FD t v=>ob (look t tab) fun f=>cf f (v::vs) s|_=>none) kk kp) o
def jx {vc va vb:V} {s:St} {kk kp:V->St->Ak}:qH vc (fun t=>@Bool.rec (fun _=>Ak) (kk vb s) (kk va s) t)=fin (match vc with| .b t=>some (.ret (bif t then va else vb),s)|_=>none) kk kp:=by
 cases vc<;>first|rfl|skip
 rename_i t;cases t<;>rfl
def not_eq {vx:V} {s:St} {kk kp:V->St->Ak}:qH vx (fun p=>kk (.b (Td p)) s)=fin (match vx with| .b p=>some (.ret (.b (!p)),s)|_=>none) kk kp:=by
 cases vx<;>first|rfl|skip
 rename_i t;cases t<;>rfl
def Uk {c:Bool} {x:Option (R×St)} {kk kp:V->St->Ak}:fin (bif c then x else none) kk kp=bif c then fin x kk kp else none:=by cases c<;>rfl
def gm {e:CN} {env:Env} (he:JO e env) (o:F4) (cf:CF) (cv:CV) (cp:CP) (s:St) (kk kp:V->St->Ak):opK o cf cv cp e s kk kp=fin (F1 cf cv cp o env s) kk kp:=by
 cases o with
 | mv x=>
   show(Bx x e fun v=>kk v s)=_;simp only[BD he,F1,HO]
 | mC x=>
   show(Bx x e fun v=>kk v s)=_;simp only[BD he,F1,HO]
 | pick c a b=>
   show(Bx c e fun vc=>Bx a e fun va=>Bx b e fun vb=>qH vc fun t=>@Bool.rec (fun _=>Ak) (kk vb s) (kk va s) t)=_;simp only[BD he,F1,BW,jx (kp:=kp)];rfl
 | bin op x y=>
   show(Bx x e fun vx=>Bx y e fun vy=>me op vx vy fun v=>kk v s)=_;simp only[BD he,F1,BW,HO,po]
 | mI neg x y=>
   show(Bx x e fun vx=>Bx y e fun vy=>CM (match vx,vy with| .b p,.b q=>some (.ret (.b (bif neg then p != q else p==q)),s)|_,_=>none) kk kp)=_;simp only[BD he,Bs he,B6 he,F1,BW,Br]
   try rfl
 | mH len neg x y=>
   show(Bx x e fun vx=>Bx y e fun vy=>CM (ov (fm len neg vx vy) s) kk kp)=_;simp only[BD he,Bs he,B6 he,F1,BW,Br]
   try rfl
 | ew kind neg x=>
   show(Bx x e fun vx=>CM (ov (fl kind neg vx) s) kk kp)=_;simp only[BD he,Bs he,B6 he,F1,BW,Br]
   try rfl
 | not x=>
   show(Bx x e fun vx=>qH vx fun p=>kk (.b (Td p)) s)=_;simp only[BD he,F1,BW,not_eq (kp:=kp)];rfl
 | neg xor x=>
   show(Bx x e fun vx=>CM (match vx with| .i ka a=>some (.ret (.i ka (bif xor then bits .xor ka (bif ka.signed then -1 else ka.max) a else ka.wrap (0 - a))),s)|_=>none) kk kp)=_;simp only[BD he,Bs he,B6 he,F1,BW,Br]
   try rfl
 | conv k x=>
   show(Bx x e fun vx=>CM (match vx with| .i _ a=>some (.ret (.i k (Iz k a)),s)|_=>none) kk kp)=_;simp only[BD he,Bs he,B6 he,F1,BW,Br]
   try rfl
 | box x=>
   show(Bx x e fun vx=>HQ vx fun cs=>fZ s (.cs cs) fun i s=>kk (.p i 0) s)=_;simp only[BD he,F1,BW,IM];congr 1;funext vx;congr 1;funext cs;have: ∀o:Option (R×St),fin o kk kp=ob o fun p=>fin (some p) kk kp:=fun o=>by cases o<;>rfl
   rw[this,nv];rfl
 | PA x=>
   show(Bx x e fun vx=>HQ vx fun cs=>kk (.rp cs) s)=_;simp only[BD he,F1,BW,IM];rfl
 | Rz sz bytes x y=>
   show(Bx x e fun vx=>Bx y e fun vy=>CM (ov (Vx bytes s sz vx vy) s) kk kp)=_;simp only[BD he,Bs he,B6 he,F1,BW,Br]
   try rfl
 | alloc zero=>
   show(CM (bif CG zero then s.new (.cs zero) fun i s=>some (.ret (.p i 0),s)else none) kk kp)=_;simp only[Br,F1]
 | build zero parts=>
   show(@Bool.rec (fun _=>Ak) none (T9 e parts zero fun cs=>kk (.a cs) s) (CG zero))=_;simp only[F1,Uk,BW,S9 he,BM];rfl
 | HT sz len zero parts=>
   show(@Bool.rec (fun _=>Ak) none (UA e (GP zero) parts (List.replicate len zero) fun es=>kk (.l es true) s) (CG zero))=_;simp only[F1,Uk,BW,TB he,BM,FY];rfl
 | load agg x=>
   show(Bx x e fun vx=>gE s agg vx fun v=>kk v s)=_;simp only[BD he,F1,BW,HO,kQ]
 | store sz a x=>
   show(Bx a e fun va=>Bx x e fun vx=>Ts s sz va vx fun s=>kk (.t []) s)=_;simp only[BD he,F1,BW,ts,cK]
 | F7 off x=>
   show(Bx x e fun vx=>YU off vx fun v=>kk v s)=_;simp only[BD he,F1,BW,HO,dh]
 | field agg off x=>
   show(Bx x e fun vx=>asA vx fun cs=>X9 agg cs off fun v=>kk v s)=_;simp only[BD he,F1,BW];congr 1;funext vx;cases vx<;>first|rfl|skip
   show X9 agg _ off _=_;rw[Pa,HO]
 | L5 sz arr x i=>
   show(Bx x e fun vx=>Bx i e fun vi=>YR sz arr vx vi fun v=>kk v s)=_;simp only[BD he,F1,BW,HO,dO]
 | index len sz agg x i=>
   show(Bx x e fun vx=>Bx i e fun vi=>CM (ov (QD len sz agg vx vi) s) kk kp)=_;simp only[BD he,Bs he,B6 he,F1,BW,Br]
   try rfl
 | slice sz x lo hi mx=>
   show(Bx x e fun vx=>X6 lo e fun l=>X6 hi e fun h=>X6 mx e fun m=>CM (bZ (QC s sz vx l h m)) kk kp)=_;simp only[BD he,Bs he,B6 he,F1,BW,Br]
   try rfl
 | len x=>
   show(Bx x e fun vx=>rz vx fun v=>kk v s)=_;simp only[BD he,F1,BW,HO,oD]
 | Tg x=>
   show(Bx x e fun vx=>CM (ov (Vv s vx) s) kk kp)=_;simp only[BD he,Bs he,B6 he,F1,BW,Br]
   try rfl
 | str x=>
   show(Bx x e fun vx=>CM (ov (fk s vx) s) kk kp)=_;simp only[BD he,Bs he,B6 he,F1,BW,Br]
   try rfl
 | VG x i=>
   show(Bx x e fun vx=>Bx i e fun vi=>CM (ov (Vu vx vi) s) kk kp)=_;simp only[BD he,Bs he,B6 he,F1,BW,Br]
   try rfl
 | append sz bytes x y=>
   show(Bx x e fun vx=>Bx y e fun vy=>CM (bZ (MS bytes s sz vx vy)) kk kp)=_;simp only[BD he,Bs he,B6 he,F1,BW,Br]
   try rfl
 | copy sz x y=>
   show(Bx x e fun vx=>Bx y e fun vy=>CM (bZ (Vw s sz vx vy)) kk kp)=_;simp only[BD he,Bs he,B6 he,F1,BW,Br]
   try rfl
 | VK x y=>
   show(Bx x e fun vx=>Bx y e fun vy=>CM (match vx,vy with| .i ka a,.i kb b=>bif decide (ka=kb)then some (.ret (.i ka (bif NR a b then b else a)),s)else none|_,_=>none) kk kp)=_;simp only[BD he,Bs he,B6 he,F1,BW,Br]
   try rfl
 | VJ x y=>
   show(Bx x e fun vx=>Bx y e fun vy=>CM (match vx,vy with| .i ka a,.i kb b=>bif decide (ka=kb)then some (.ret (.i ka (bif NR b a then b else a)),s)else none|_,_=>none) kk kp)=_;simp only[BD he,Bs he,B6 he,F1,BW,Br]
   try rfl
 | extract i x=>
   show(Bx x e fun vx=>asT vx fun vs=>Tc vs i fun v=>kk v s)=_;simp only[BD he,F1,BW];congr 1;funext vx;cases vx<;>first|rfl|skip
   show Tc _ i _=_;rw[MG,HO]
 | I3 x=>
   show(Bx x e fun vx=>YK vx fun v=>kk v s)=_;simp only[BD he,F1,BW,HO,dC]
 | ep f first cap=>
   show(L0 first e fun vf=>L0 cap e fun vc=>@Bool.rec (fun _=>Ak) none (kk (.f f vf vc) s) (Nh f))=_;simp only[Bs he,F1,Uk,BW,BM];rfl
 | OY=>
   show(CM (s.new (.map []) fun i s=>some (.ret (.m i),s)) kk kp)=_;simp only[Br,F1]
 | GC sz bytes zero len cap=>
   show(Bx len e fun vx=>Bx cap e fun vy=>CM (bZ (Js s sz zero vx vy)) kk kp)=_;simp only[BD he,Bs he,B6 he,F1,BW,Br]
   try rfl
 | lookup ks zero ok m k=>
   show(Bx m e fun vm=>Bx k e fun vk=>CM (ov (MQ s ks zero ok vm vk) s) kk kp)=_;simp only[BD he,Bs he,B6 he,F1,BW,Br]
   try rfl
 | Ed ks m k v=>
   show(Bx m e fun vm=>Bx k e fun vk=>Bx v e fun vx=>CM (os (MP s ks vm vk vx)) kk kp)=_;simp only[BD he,Bs he,B6 he,F1,BW,Br]
   try rfl
 | OZ t x=>
   show(Bx x e fun vx=>kk (.FD t vx) s)=_;simp only[BD he,F1,BW];rfl
 | ee t zero ok x=>
   show(Bx x e fun vx=>CM (ov (fj t zero ok vx) s) kk kp)=_;simp only[BD he,Bs he,B6 he,F1,BW,Br]
   try rfl
 | panic x=>
   show(Bx x e fun vx=>CM (match vx with| .FD t v=>some (.Bf (.FD t v),s)|_=>none) kk kp)=_;simp only[BD he,Bs he,B6 he,F1,BW,Br]
   try rfl
 | call f args=>
   show(L0 args e fun vs=>CM (cf f vs s) kk kp)=_;simp only[BD he,Bs he,B6 he,F1,BW,Br]
   try rfl
 | L8 f args=>
   show(L0 args e fun vs=>CM (ov (cp f vs) s) kk kp)=_;simp only[BD he,Bs he,B6 he,F1,BW,Br]
   try rfl
 | Je x args=>
   show(Bx x e fun vx=>L0 args e fun vs=>CM (cv vx vs s) kk kp)=_;simp only[BD he,Bs he,B6 he,F1,BW,Br]
   try rfl
 | YY x args=>
   rfl
 | inv tab x args=>
   show(Bx x e fun vx=>L0 args e fun vs=>CM (match vx with| .FD t v=>ob (look t tab) fun f=>cf f (v::vs) s|_=>none) kk kp)=_;simp only[BD he,Bs he,B6 he,F1,BW,Br]
   try rfl
def sA (g:Bool) (t:Bool) (y:Ak) (n:Ak):Ak:=@Bool.rec (fun _=>Ak) (@Bool.rec (fun _=>Ak) y n g) (@Bool.rec (fun _=>Ak) n y g) t
def oW (g t:Bool) (y n:Ak):sA g t y n=bif t==g then y else n:=by cases g<;>cases t<;>rfl
def yH (v:V) (g:Bool) (y:Ak) (n:Ak):Ak:=@V.rec (fun _=>Bool->Ak->Ak->Ak) (fun _=>Unit) (fun _=>Unit) (fun t g y n=>sA g t y n) (fun _ _ g y n=>none) (fun _ g y n=>none) (fun g y n=>none) (fun _ _ g y n=>none) (fun _ _ g y n=>none) (fun _ _ _ g y n=>none) (fun _ _ _ g y n=>none) (fun _ _ _ _ g y n=>none) (fun _ _ _ _ g y n=>none) (fun _ g y n=>none) (fun g y n=>none) (fun _ _ _ _ _ g y n=>none) (fun g y n=>none) (fun _ _ _ g y n=>none) (fun g y n=>none) (fun _ _ g y n=>none) (fun vs _ g y n=>@List.rec V (fun _=>Ak->Ak) (fun n=>n) (fun _ _ _ _=>none) vs n) (fun g y n=>none) () (fun _ _ _ _=>()) () (fun _ _ _ _=>()) v g y n
def grdK (g:Nat×Bool) (o:F4):OK:=fun cf cv cp e s kk kp=>Bx (.t g.1) e fun v=>yH v g.2 (opK o cf cv cp e s kk kp) (kk (.t []) s)
def X2 (g:Option (Nat×Bool)) (o:F4):OK:=@Option.rec (Nat×Bool) (fun _=>F4->OK) (fun o=>opK o) (fun g o=>grdK g o) g o
def UL {e:CN} {env:Env} (he:JO e env) (d:Option Nat) (g:Option (Nat×Bool)) (o:F4) (cf:CF) (cv:CV) (cp:CP) (s:St) (kk kp:V->St->Ak):X2 g o cf cv cp e s kk kp=fin (JL cf cv cp ⟨d,o,g⟩ env s) kk kp:=by
 cases g with
 | none=>exact gm he o cf cv cp s kk kp
 | some g=>
   obtain⟨g,b⟩:=g;show(Bx (.t g) e fun v=>yH v b (opK o cf cv cp e s kk kp) (kk (.t []) s))=_;rw[BD he,gm he];simp only[JL,Da];cases get g env with
   | none=>rfl
   | some v=>
     simp only[ob];cases v<;>first|rfl|skip
     .rename_i t
      show sA b t _ _=_;rw[oW];simp only;cases t==b<;>rfl
     .rename_i vs
      cases vs<;>rfl
def OX (d:Option Nat) (v:V) (e:CN):CN:=@Option.rec Nat (fun _=>V->CN->CN) (fun _ e=>e) (fun d v e=>⟨Nat.lor e.1 (Nat.shiftLeft 1 d),(d,v)::e.2⟩) d v e
def LF (M n:Nat):PI M n=M.testBit n:=by
 have h1:(M >>> n)&&&1=(M >>> n) % 2:=Nat.and_one_is_mod _;have h2:PI M n=Nat.beq ((M >>> n)&&&1) 1:=rfl;rw[h2,h1,Nat.testBit_eq_decide_div_mod_eq,Nat.shiftRight_eq_div_pow];cases h:decide (M / 2 ^ n % 2=1)with
 | true=>rw[of_decide_eq_true h];rfl
 | false=>
   have:=of_decide_eq_false h;cases hb:Nat.beq (M / 2 ^ n % 2) 1 with
   | false=>rfl
   | true=>exact absurd (U7 hb) this
def QH (M d n:Nat):PI (Nat.lor M (Nat.shiftLeft 1 d)) n=(PI M n||Nat.beq d n):=by
 rw[LF,LF];show(M|||1 <<< d).testBit n=_;rw[Nat.testBit_or,Nat.one_shiftLeft,Nat.testBit_two_pow];congr 1;cases hb:Nat.beq d n with
 | true=>simp[U7 hb]
 | false=>simpa using Nat.ne_of_beq_eq_false hb
def JO.push {e:CN} {env:Env} (he:JO e env) (d:Option Nat) (v:V):JO (OX d v e) (put d v env):=by
 cases d with
 | none=>exact he
 | some d=>
   intro n;show(bif PI (Nat.lor e.1 (Nat.shiftLeft 1 d)) n then(bif Nat.beq d n then some v else get n e.2)else none)=bif Nat.beq d n then some v else get n env;rw[QH,<-he n,Tj];cases Nat.beq d n<;>cases PI e.1 n<;>rfl
def fY (ops:List Ao) (cf:CF) (cv:CV) (cp:CP) (env:CN) (s:St):Ak:=@List.rec Ao (fun _=>CF->CV->CP->CN->St->Ak) (fun _ _ _ env s=>some (.normal,env,s))
 (fun o _ ih cf cv cp env s=>X2 o.3 o.2 cf cv cp env s (fun v s=>X7 v fun v=>ih cf cv cp (OX o.1 v env) s) (fun v s=>some (.Bf v,env,s))) ops cf cv cp env s
def Gw:Ak->Rs->Prop
 | some (x,e,s),some (x',env,s')=>x=x'/\s=s'/\JO e env
 | none,none=>True
 | _,_=>False
def aF (cf:CF) (cv:CV) (cp:CP): ∀(ops:List Ao) {e:CN} {env:Env} (s:St),JO e env->Gw (fY ops cf cv cp e s) (VS cf cv cp ops env s)
 | [],e,env,s,he=>⟨rfl,rfl,he⟩
 | o ::r,e,env,s,he=>by
   show Gw (X2 o.3 o.2 cf cv cp e s (fun v s=>X7 v fun v=>fY r cf cv cp (OX o.1 v e) s) (fun v s=>some (.Bf v,e,s))) _;rw[UL he o.1];show Gw (fin (JL cf cv cp o env s) _ _) _;simp only[VS];cases JL cf cv cp o env s with
   | none=>trivial
   | some p=>
     obtain⟨x,s'⟩:=p;cases x with
     | Bf v=>exact⟨rfl,rfl,he⟩
     | ret v=>
       show Gw (X7 v fun v=>fY r cf cv cp (OX o.1 v e) s') (IY v _);rw[ai,IJ];exact aF cf cv cp r s' (he.push o.1 v)
def xa (re:List Ao) (cf:CF) (cv:CV) (cp:CP) (e:CN) (s:St) (K:Ak):Ak:=@List.rec Ao (fun _=>CF->CV->CP->CN->St->Ak->Ak) (fun _ _ _ _ _ K=>K)
 (fun o _ ih cf cv cp e s K=>X2 o.3 o.2 cf cv cp e s (fun u _=>@Option.rec Nat (fun _=>Ak) (ih cf cv cp e s K) (fun d=>Bx (.t d) e fun w=>@Bool.rec (fun _=>Ak) none (ih cf cv cp e s K) (Eu u w)) o.1) (fun _ _=>none)) re cf cv cp e s K
def gi (cf:CF) (cv:CV) (cp:CP) {e:CN} {env:Env} (he:JO e env) (s:St) (K:Ak): ∀re:List Ao,xa re cf cv cp e s K=bif l7 cf cv cp re env s then K else none
 | []=>rfl
 | o ::r=>by
   show X2 o.3 o.2 cf cv cp e s (fun u _=>@Option.rec Nat (fun _=>Ak) (xa r cf cv cp e s K) (fun d=>Bx (.t d) e fun w=>@Bool.rec (fun _=>Ak) none (xa r cf cv cp e s K) (Eu u w)) o.1) (fun _ _=>none)=_;rw[UL he o.1,gi cf cv cp he s K r]
   have h':l7 cf cv cp (o::r) env s=((match JL cf cv cp o env s with
    | some (.ret u,_)=>match o.dst with
      | none=>true
      | some d=>match get d env with|some w=>Eu u w|none=>false
    | _=>false)&&l7 cf cv cp r env s):=rfl
   rw[h'];show fin (JL cf cv cp o env s) _ _=_;cases JL cf cv cp o env s with
   | none=>rfl
   | some p=>
     obtain⟨x,s'⟩:=p;cases x with
     | Bf v=>rfl
     | ret u=>
       obtain⟨d,op,g⟩:=o;cases d with
       | none=>simp only[fin,Du]
       | some d=>
         simp only[fin];rw[BD he];simp only[Da];cases get d env with
         | none=>rfl
         | some w=>
           simp only[ob];cases Eu u w<;>simp
def Vz (ops:List Ck) (cf:CF) (cv:CV) (cp:CP) (e:CN) (s:St):Ak:=@List.rec Ck (fun _=>CF->CV->CP->CN->St->Ak) (fun _ _ _ e s=>some (.normal,e,s))
 (fun d _ ih cf cv cp e s=>X2 d.2.3 d.2.2 cf cv cp e s (fun v s=>X7 v fun v=>(fun e=>xa d.4 cf cv cp e s (ih cf cv cp e s)) (OX d.2.1 v e)) (fun v s=>some (.Bf v,⟨0,[]⟩,s))) ops cf cv cp e s
def JO.nil {M:Nat}:JO ⟨M,[]⟩ []:=fun n=>by
 show(bif PI M n then none else none)=none;cases PI M n<;>rfl
def Wz (cf:CF) (cv:CV) (cp:CP): ∀(ops:List Ck) {e:CN} {env:Env} (s:St),JO e env->Gw (Vz ops cf cv cp e s) (SI cf cv cp ops env s)
 | [],e,env,s,he=>⟨rfl,rfl,he⟩
 | d ::r,e,env,s,he=>by
   show Gw (X2 d.2.3 d.2.2 cf cv cp e s (fun v s=>X7 v fun v=>(fun e=>xa d.4 cf cv cp e s (Vz r cf cv cp e s)) (OX d.2.1 v e)) (fun v s=>some (.Bf v,⟨0,[]⟩,s))) _;rw[UL he d.2.1];show Gw (fin (JL cf cv cp d.o env s) _ _) _;simp only[SI];cases JL cf cv cp d.o env s with
   | none=>trivial
   | some p=>
     obtain⟨x,s'⟩:=p;cases x with
     | Bf v=>exact⟨rfl,rfl,JO.nil⟩
     | ret v=>
       show Gw (X7 v fun v=>xa d.4 cf cv cp (OX d.2.1 v e) s' (Vz r cf cv cp (OX d.2.1 v e) s')) (IY v _);rw[ai,IJ,gi cf cv cp (he.push d.2.1 v)];show Gw (bif l7 cf cv cp d.re (put d.o.dst v env) s' then _ else none) (bif l7 cf cv cp d.re (put d.o.dst v env) s' then _ else none);cases l7 cf cv cp d.re (put d.o.dst v env) s' with
       | false=>trivial
       | true=>exact Wz cf cv cp r s' (he.push d.2.1 v)
def SD (l:List Nat):Nat:=@List.rec Nat (fun _=>Nat) 0 (fun n _ ih=>Nat.lor ih (Nat.shiftLeft 1 n)) l
def Ni (l:List Nat) (e:CN):CN:=⟨Nat.land e.1 (SD l),e.2⟩
def V7: ∀(l:List Nat) (n:Nat),PI (SD l) n=l.any fun k=>Nat.beq k n
 | [],n=>by rw[LF];exact Nat.zero_testBit n
 | k::r,n=>by
   show PI (Nat.lor (SD r) (Nat.shiftLeft 1 k)) n=_;rw[QH,V7 r n,Rj,Bool.or_comm]
def ND: ∀(l:List Nat) (env:Env) (n:Nat),get n (prune l env)=bif l.any (fun k=>Nat.beq k n)then get n env else none
 | [],env,n=>rfl
 | k ::r,env,n=>by
   have ih:=ND r env n;simp only[prune,Rj];cases hk:Nat.beq k n with
   | true=>
     have:=U7 hk;subst this;cases hg:get k env with
     | none=>
       simp only;rw[ih,hg];cases(r.any fun j=>Nat.beq j k)<;>rfl
     | some v=>simp[get,hk]
   | false=>
     simp only[Bool.false_or];cases hg:get k env with
     | none=>exact ih
     | some v=>
       simp only[get,hk,cond_false];exact ih
def JO.prune {e:CN} {env:Env} (he:JO e env) (l:List Nat):JO (Ni l e) (Gl.prune l env):=fun n=>by
 show(bif PI (Nat.land e.1 (SD l)) n then get n e.2 else none)=_
 have:PI (Nat.land e.1 (SD l)) n=(PI e.1 n&&PI (SD l) n):=by
  rw[LF,LF,LF];exact Nat.testBit_and _ _ _
 rw[this,ND,<-he n,Tj,V7];cases PI e.1 n<;>cases(l.any fun k=>Nat.beq k n)<;>rfl
def VM (l:List Nat) (e:CN) (K:Env->Ak):Ak:=@List.rec Nat (fun _=>CN->(Env->Ak)->Ak) (fun _ K=>K [])
 (fun n _ ih e K=>@Bool.rec (fun _=>Ak) (ih e K) (@List.rec (Nat×V) (fun _=>Nat->Ak->(V->Ak)->Ak) (fun _ x _=>x) (fun p _ ih n x K=>@Bool.rec (fun _=>Ak) (ih n x K) (K p.2) (Nat.beq p.1 n)) e.2 n (ih e K) (fun v=>ih e fun r=>K ((n,v)::r))) (PI e.1 n)) l e K
def nC (env:Env) (n:Nat) (x:Ak) (K:V->Ak): @List.rec (Nat×V) (fun _=>Nat->Ak->(V->Ak)->Ak) (fun _ x _=>x) (fun p _ ih n x K=>@Bool.rec (fun _=>Ak) (ih n x K) (K p.2) (Nat.beq p.1 n)) env n x K=match get n env with|some v=>K v|none=>x:=by
 induction env with
 | nil=>rfl
 | cons p r ih=>
   obtain⟨j,v⟩:=p;show @Bool.rec (fun _=>Ak) _ (K v) (Nat.beq j n)=match(bif Nat.beq j n then some v else get n r)with|some v=>K v|none=>x
   cases Nat.beq j n
   .exact ih
   .rfl
def PV {e:CN} {env:Env} (he:JO e env): ∀(l:List Nat) (K:Env->Ak),VM l e K=K (Gl.prune l env)
 | [],K=>rfl
 | n ::r,K=>by
   show @Bool.rec (fun _=>Ak) (VM r e K) (@List.rec (Nat×V) (fun _=>Nat->Ak->(V->Ak)->Ak) (fun _ x _=>x) (fun p _ ih n x K=>@Bool.rec (fun _=>Ak) (ih n x K) (K p.2) (Nat.beq p.1 n)) e.2 n (VM r e K) (fun v=>VM r e fun r=>K ((n,v)::r))) (PI e.1 n)=_;rw[nC,PV he r];simp only[PV he r,Gl.prune];rw[<-he n,Tj];cases PI e.1 n with
   | false=>rfl
   | true=>
     simp only[cond_true];cases get n e.2<;>rfl
def I5 (env:Env):Nat:=@List.rec (Nat×V) (fun _=>Nat) 0 (fun p _ ih=>Nat.lor ih (Nat.shiftLeft 1 p.1)) env
def SS: ∀(env:Env) (n:Nat),PI (I5 env) n=(get n env).isSome
 | [],n=>by rw[LF];exact Nat.zero_testBit n
 | (k,v)::r,n=>by
   show PI (Nat.lor (I5 r) (Nat.shiftLeft 1 k)) n=_;rw[QH,SS r n];simp only[get];cases Nat.beq k n<;>simp
def JO.of (env:Env):JO ⟨I5 env,env⟩ env:=fun n=>by
 show(bif PI (I5 env) n then get n env else none)=_;rw[SS];cases get n env<;>rfl
abbrev IH:=AT->CN->St->Ak
def R9 (r:Ak) (K:CN->St->Ak):Ak:=@Option.rec (Aa×CN×St) (fun _=>(CN->St->Ak)->Ak) (fun _=>none) (fun p K=>@Aa.rec (fun _=>CN->St->(Aa×CN×St)->(CN->St->Ak)->Ak) (fun env s _ K=>K env s) (fun _ _ _ p _=>some p) (fun _ _ p _=>some p) (fun _ _ _ p _=>some p) p.1 p.2.1 p.2.2 p K) r K
def yf (r:Rs) (K':Env->St->Rs):Rs:=match r with|some (.normal,env,s)=>K' env s|r=>r
def N0 {r:Ak} {r':Rs} (h:Gw r r') {K:CN->St->Ak} {K':Env->St->Rs} (U: ∀e env s,JO e env->Gw (K e s) (K' env s)):Gw (R9 r K) (yf r' K'):=by
 cases r with
 | none=>cases r' with|none=>trivial|some p=>exact h.elim
 | some p=>
   cases r' with
   | none=>exact h.elim
   | some p'=>
     obtain⟨x,e,s⟩:=p;obtain⟨x',env,s'⟩:=p';obtain⟨rfl,rfl,he⟩:=h;cases x with
     | normal=>exact U e env s he
     | exit id=>exact⟨rfl,rfl,he⟩
     | ret=>exact⟨rfl,rfl,he⟩
     | Bf v=>exact⟨rfl,rfl,he⟩
def Pu (s:St) (e:CN):List RS->Option (List V)
 | []=>some []
 | .t n::r=>ob (Tj e n) fun v=>ob (Pu s e r) fun vs=>some (v::vs)
 | .c n g::r=>ob (Tj e n) fun a=>ob (Oe s g a) fun v=>ob (Pu s e r) fun vs=>some (v::vs)
def Zj (AF:List RS) (r:Ak):Option (R×St):=
 match r with
 | some (.normal,env,s)=>ob (Pu s env AF) fun vs=>some (.ret (Et vs),s)
 | some (.ret,env,s)=>ob (Pu s env AF) fun vs=>some (.ret (Et vs),s)
 | some (.Bf v,_,s)=>some (.Bf v,s)
 | _=>none
def Vt (tab:Kk) (ih:IH) (g:FuncId) (cap:List V) (m:Option V) (AF:List RS) (env:CN) (s:St):Option (R×St):=
 match tab g with
 | some (.xb n k ops ac l)=>bif Nat.ble cap.length n then
  match ih (.seq l (.DA ops) ac) ⟨I5 (put (some k) (m.getD .Dv) (A5 0 cap)),put (some k) (m.getD .Dv) (A5 0 cap)⟩ s with
  | some (.normal,_,s')=>ob (Pu s' env AF) fun vs=>some (.ret (Et vs),s')
  | some (.ret,_,s')=>ob (Pu s' env AF) fun vs=>some (.ret (Et vs),s')
  | _=>none
   else none
 | some (.pld n ac)=>match m with
   | some _=>none
   | none=>bif Nat.ble cap.length n then
     match ih ac ⟨I5 (A5 0 cap),A5 0 cap⟩ s with
     | some (.normal,_,s')=>ob (Pu s' env AF) fun vs=>some (.ret (Et vs),s')
     | some (.ret,_,s')=>ob (Pu s' env AF) fun vs=>some (.ret (Et vs),s')
     | _=>none
   else none
 | _=>none
def UF (tab:Kk) (ih:IH) (f:FuncId) (vs:List V) (s:St):Option (R×St):=
 match tab f with
 | some (.fn n ac AF)=>bif Nat.ble vs.length n then Zj AF (ih ac ⟨I5 (A5 0 vs),A5 0 vs⟩ s)else none
 | some (.xg n aA ops x aC AF l1 l2)=>bif Nat.ble vs.length n then
  match ih (.seq l1 aA (.DA ops)) ⟨I5 (A5 0 vs),A5 0 vs⟩ s with
  | some (.normal,env,s1)=>match(match x with| .t n=>Tj env n| .c v=>bif BG v then some v else none)with
    | some (.f (.func g) [] cap)=>match ih aC (Ni l2 env) s1 with
      | some (.normal,env2,s2)=>Vt tab ih g cap none AF env2 s2
      | some (.ret,env2,s2)=>Vt tab ih g cap none AF env2 s2
      | some (.Bf v,env2,s2)=>Vt tab ih g cap (some v) AF env2 s2
      | _=>none
    | _=>none
  | _=>none
   else none
 | some (.xw n ac AF)=>bif Nat.ble vs.length n then sB (Zj AF (ih ac ⟨I5 (A5 0 vs),A5 0 vs⟩ s))else none
 | some (.br c)=>c vs s
 | _=>none
def Fb (tab:Kk) (memo:FG) (ih:IH):CF:=fun f vs s=>
 match memo f with
 | []=>UF tab ih f vs s
 | m::r=>match Vq vs (m::r)with
   | some v=>some (.ret v,s)
   | none=>UF tab ih f vs s
def KD (tab:Kk) (memo:FG) (ih:IH):CV:=fun x vs s=>
 match x with
 | .f (.func f) first cap=>Fb tab memo ih f (first++vs++cap) s
 | .f (.yield L) [] []=>match s.t.get L with
   | some (.loop .ready env ps a b)=>bif Nat.beq vs.length ps.length then
    Tr.put none A9 s.t L fun t=>match ih a ⟨I5 (Eh ps vs env),Eh ps vs env⟩ ⟨s.nx,t⟩with
    | some (.normal,env1,s1)=>match ih b env1 s1 with
      | some (.normal,_,s2)=>Tr.put (some (.loop .ready env ps a b)) A9 s2.t L fun t=>some (.ret (.b true),⟨s2.nx,t⟩)
      | some (.ret,_,s2)=>Tr.put (some (.loop .ret env ps a b)) A9 s2.t L fun t=>some (.ret (.b false),⟨s2.nx,t⟩)
      | some (.exit id,_,s2)=>Tr.put (some (.loop (.exit id) env ps a b)) A9 s2.t L fun t=>some (.ret (.b false),⟨s2.nx,t⟩)
      | some (.Bf v,_,s2)=>some (.Bf v,s2)
      | none=>none
    | _=>none
     else none
   | _=>none
 | _=>none
def LP (tab:Kk) (memo:FG) (ih:IH):CP:=fun f vs=>
 bif CG vs then match Fb tab memo ih f vs ⟨0,.leaf⟩with
  | some (.ret v,s)=>match Ha s VQ v with
    | some u=>bif BG u then some u else none
    | none=>none
  | _=>none
 else none
abbrev SK:=Kk->FG->IH->CN->St->Ak
def gd (c : AT):SK:=@AT.rec (fun _=>SK)
 (fun _ _ _ env s=>some (.normal,env,s))
 (fun ops tab memo ih env s=>fY ops (Fb tab memo ih) (KD tab memo ih) (LP tab memo ih) env s)
 (fun l ops tab memo ih env s=>R9 (Vz ops (Fb tab memo ih) (KD tab memo ih) (LP tab memo ih) env s) fun env s=>some (.normal,Ni l env,s))
 (fun l a b _ _ _ _ ih env s=>R9 (ih a env s) fun env s=>ih b (Ni l env) s)
 (fun c a b _ _ _ _ ih env s=>Bx c env fun v=>qH v fun t=>@Bool.rec (fun _=>Ak) (ih b env s) (ih a env s) t)
 (fun id a _ tab memo ih env s=>match ih a env s with
  | some (.exit id',env',s')=>bif Nat.beq id' id then some (.normal,env',s')else some (.exit id',env',s')
  | r=>r)
 (fun l a _ _ _ ih env s=>VM l env fun E=>R9 (ih a ⟨I5 E,E⟩ s) fun env s=>ih (.loop l a) env s)
 (fun id _ _ _ env s=>some (.exit id,env,s))
 (fun _ _ _ env s=>some (.ret,env,s))
 (fun a _ _ _ ih env s=>ih a env s)
 (fun l g ps a b _ _ tab memo ih env s=>Bx g env fun v=>match v with
  | .f (.func gf) [] cap=>VM l env fun E=>s.new (.loop .ready E ps a b) fun i s1=>
   match Fb tab memo ih gf (.f (.yield i) [] []::cap) s1 with
   | some (.ret _,s2)=>match s2.t.get i with
     | some (.loop st _ _ _ _)=>Tr.put none A9 s2.t i fun t=>some ((match st with| .ready=> .normal| .ret=> .ret| .exit id=> .exit id),env,⟨s2.nx,t⟩)
     | _=>none
   | some (.Bf v,s2)=>match s2.t.get i with
     | some _=>Tr.put none A9 s2.t i fun t=>some (.Bf v,env,⟨s2.nx,t⟩)
     | none=>none
   | none=>none
  | _=>none) c
def runK (tab:Kk) (memo:FG) (n:Nat):IH:=@Nat.rec (fun _=>IH) (fun _ _ _=>none) (fun _ ih c env s=>gd c tab memo ih env s) n
def YF (ihm:IH) (ih:AT->Env->St->Rs):Prop:= ∀c {e env} s,JO e env->Gw (ihm c e s) (ih c env s)
def MO {s:St} {e:CN} {env:Env} (he:JO e env): ∀l:List RS,Pu s e l=ZV s env l
 | []=>rfl
 | .t n::r=>by simp only[Pu,ZV,he n,MO he r]
 | .c n g::r=>by simp only[Pu,ZV,he n,MO he r]
def Wx {AF:List RS} {r:Ak} {r':Rs} (h:Gw r r'):Zj AF r=bz AF r':=by
 cases r with
 | none=>cases r' with|none=>rfl|some p=>exact h.elim
 | some p=>
   cases r' with
   | none=>exact h.elim
   | some p'=>
     obtain⟨x,e,s⟩:=p;obtain⟨x',env,s'⟩:=p';obtain⟨rfl,rfl,he⟩:=h;cases x<;>first|rfl|simp only[Zj,bz,MO he]
def lC {tab : Kk} {ihm:IH} {ih:AT->Env->St->Rs} (hi:YF ihm ih) {g:FuncId} {cap:List V} {m:Option V} {AF:List RS} {e:CN} {env:Env} (he:JO e env) (s:St):Vt tab ihm g cap m AF e s=X8 tab ih g cap m AF env s:=by
 unfold Vt X8;cases tab g with
 | none=>rfl
 | some fs =>
   cases fs<;>first|rfl|skip
   .rename_i n k ops ac l
    simp only;have:=hi (.seq l (.DA ops) ac) s (JO.of (put (some k) (m.getD .Dv) (A5 0 cap)))
    revert this
    cases ihm (.seq l (.DA ops) ac) _ s with
    | none=>cases ih (.seq l (.DA ops) ac) _ s with|none=>intro _;rfl|some p=>intro h;exact h.elim
    | some p=>
      cases ih (.seq l (.DA ops) ac) _ s with
      | none=>intro h;exact h.elim
      | some p'=>
        obtain⟨x,e1,s1⟩:=p;obtain⟨x',env1,s1'⟩:=p';rintro⟨rfl,rfl,he1⟩;cases x<;>simp only[MO he]
   .rename_i n ac
    cases m with
    | some v=>rfl
    | none=>
      simp only;have:=hi ac s (JO.of (A5 0 cap))
      revert this
      cases ihm ac _ s with
      | none=>cases ih ac _ s with|none=>intro _;rfl|some p=>intro h;exact h.elim
      | some p=>
        cases ih ac _ s with
        | none=>intro h;exact h.elim
        | some p'=>
          obtain⟨x,e1,s1⟩:=p;obtain⟨x',env1,s1'⟩:=p';rintro⟨rfl,rfl,he1⟩;cases x<;>simp only[MO he]
def eM {tab : Kk} {ihm:IH} {ih:AT->Env->St->Rs} (hi:YF ihm ih) (f:FuncId) (vs:List V) (s:St):UF tab ihm f vs s=SJ tab ih f vs s:=by
 unfold UF SJ;cases tab f with
 | none=>rfl
 | some fs =>
   cases fs with
   | xb n k ops ac l=>rfl
   | br c=>rfl
   | pld n ac=>rfl
   | fn n ac AF=>simp only;rw[Wx (hi ac s (JO.of (A5 0 vs)))]
   | xw n ac AF=>simp only;rw[Wx (hi ac s (JO.of (A5 0 vs)))]
   | xg n aA ops x aC AF l1 l2=>
     simp only;have:=hi (.seq l1 aA (.DA ops)) s (JO.of (A5 0 vs))
     revert this
     cases ihm (.seq l1 aA (.DA ops)) _ s with
     | none=>cases ih (.seq l1 aA (.DA ops)) _ s with|none=>intro _;rfl|some p=>intro h;exact h.elim
     | some p=>
       cases ih (.seq l1 aA (.DA ops)) _ s with
       | none=>intro h;exact h.elim
       | some p'=>
         obtain⟨x1,e1,s1⟩:=p;obtain⟨x1',env1,s1'⟩:=p';rintro⟨rfl,rfl,he1⟩;cases x1<;>first|rfl|skip
         simp only;have hx:(match x with| .t n=>Tj e1 n| .c v=>bif BG v then some v else none)=Da env1 x:=by cases x<;>first|exact he1 _|rfl
         rw[hx];cases Da env1 x with
         | none=>rfl
         | some v=>
           cases v<;>first|rfl|skip
           rename_i fn first cap
           cases fn<;>first|rfl|skip
           cases first<;>first|rfl|skip
           simp only;have:=hi aC s1 (he1.prune l2)
           revert this
           cases ihm aC (Ni l2 e1) s1 with
           | none=>cases ih aC (Gl.prune l2 env1) s1 with|none=>intro _;rfl|some p=>intro h;exact h.elim
           | some p=>
             cases ih aC (Gl.prune l2 env1) s1 with
             | none=>intro h;exact h.elim
             | some p'=>
               obtain⟨x2,e2,s2⟩:=p;obtain⟨x2',env2,s2'⟩:=p';rintro⟨rfl,rfl,he2⟩;cases x2<;>simp only[lC hi he2]
def Gk {tab:Kk} {memo:FG} {ihm:IH} {ih:AT->Env->St->Rs} (hi:YF ihm ih):Fb tab memo ihm=HS tab memo ih:=by
 funext f vs s;unfold Fb HS;simp only[eM hi];rfl
def RX {tab : Kk} {memo:FG} {ihm:IH} {ih:AT->Env->St->Rs} (hi:YF ihm ih):KD tab memo ihm=Ns tab memo ih:=by
 funext x vs s;unfold KD Ns;rw[Gk hi];cases x<;>first|rfl|skip
 rename_i fn first cap
 cases fn<;>first|rfl|skip
 cases first<;>first|rfl|skip
 cases cap<;>first|rfl|skip
 rename_i L;simp only;cases s.t.get L with
 | none=>rfl
 | some o=>
   cases o<;>first|rfl|skip
   rename_i st env ps a b;cases st<;>first|rfl|skip
   simp only;congr 2;funext t;have:=hi a ⟨s.nx,t⟩ (JO.of (Eh ps vs env))
   revert this
   cases ihm a _ ⟨s.nx,t⟩with
   | none=>cases ih a _ ⟨s.nx,t⟩with|none=>intro _;rfl|some p=>intro h;exact h.elim
   | some p=>
     cases ih a _ ⟨s.nx,t⟩with
     | none=>intro h;exact h.elim
     | some p'=>
       obtain⟨x1,e1,s1⟩:=p;obtain⟨x1',env1,s1'⟩:=p';rintro⟨rfl,rfl,he1⟩;cases x1<;>first|rfl|skip
       simp only;have:=hi b s1 he1
       revert this
       cases ihm b e1 s1 with
       | none=>cases ih b env1 s1 with|none=>intro _;rfl|some p=>intro h;exact h.elim
       | some p=>
         cases ih b env1 s1 with
         | none=>intro h;exact h.elim
         | some p'=>
           obtain⟨x2,e2,s2⟩:=p;obtain⟨x2',env2,s2'⟩:=p';rintro⟨rfl,rfl,he2⟩;cases x2<;>rfl
def OM {tab:Kk} {memo:FG} {ihm:IH} {ih:AT->Env->St->Rs} (hi:YF ihm ih):LP tab memo ihm=P5 tab memo ih:=by
 funext f vs;unfold LP P5;rw[Gk hi];rfl
def je {tab : Kk} {memo:FG} {ihm:IH} {ih:AT->Env->St->Rs} (hi:YF ihm ih) (c:AT) {e:CN} {env:Env} (s:St) (he:JO e env):Gw (gd c tab memo ihm e s) (JA tab memo ih c env s):=by
 cases c with
 | skip=>exact⟨rfl,rfl,he⟩
 | ret=>exact⟨rfl,rfl,he⟩
 | exit id=>exact⟨rfl,rfl,he⟩
 | scope a=>exact hi a s he
 | DA ops=>
   show Gw (fY ops (Fb tab memo ihm) (KD tab memo ihm) (LP tab memo ihm) e s) _;rw[Gk hi,RX hi,OM hi];exact aF _ _ _ ops s he
 | HG l ops=>
   show Gw (R9 (Vz ops (Fb tab memo ihm) (KD tab memo ihm) (LP tab memo ihm) e s) fun env s=>some (.normal,Ni l env,s)) _;rw[Gk hi,RX hi,OM hi];exact N0 (K':=fun env s=>some (.normal,Gl.prune l env,s)) (Wz _ _ _ ops s he) fun _ _ s he=>⟨rfl,rfl,he.prune l⟩
 | seq l a b=>exact N0 (K':=fun env s=>ih b (Gl.prune l env) s) (hi a s he) fun _ _ s he=>hi b s (he.prune l)
 | cond c a b=>
   show Gw (Bx c e fun v=>qH v fun t=>@Bool.rec (fun _=>Ak) (ihm b e s) (ihm a e s) t) _;rw[BD he];simp only[JA];cases Da env c with
   | none=>trivial
   | some v=>
     cases v<;>first|trivial|skip
     rename_i t;cases t
     .exact hi b s he
     .exact hi a s he
 | block id a=>
   have:=hi a s he;show Gw (match ihm a e s with|some (.exit id',env',s')=>bif Nat.beq id' id then some (.normal,env',s')else some (.exit id',env',s')|r=>r) (match ih a env s with|some (.exit id',env',s')=>bif Nat.beq id' id then some (.normal,env',s')else some (.exit id',env',s')|r=>r)
   revert this
   cases ihm a e s with
   | none=>cases ih a env s with|none=>intro _;trivial|some p=>intro h;exact h.elim
   | some p=>
     cases ih a env s with
     | none=>intro h;exact h.elim
     | some p'=>
       obtain⟨x1,e1,s1⟩:=p;obtain⟨x1',env1,s1'⟩:=p';rintro⟨rfl,rfl,he1⟩;cases x1 with
       | exit id'=>
         simp only;cases Nat.beq id' id<;>exact⟨rfl,rfl,he1⟩
       | normal=>exact⟨rfl,rfl,he1⟩
       | ret=>exact⟨rfl,rfl,he1⟩
       | Bf v=>exact⟨rfl,rfl,he1⟩
 | loop l a=>
   show Gw (VM l e fun E=>R9 (ihm a ⟨I5 E,E⟩ s) fun env s=>ihm (.loop l a) env s) _;rw[PV he];exact N0 (K':=fun env s=>ih (.loop l a) env s) (hi a s (JO.of _)) fun _ _ s he=>hi (.loop l a) s he
 | D1 l g ps a b=>
   show Gw (Bx g e fun v=>match v with
   | .f (.func gf) [] cap=>VM l e fun E=>s.new (.loop .ready E ps a b) fun i s1=>
    match Fb tab memo ihm gf (.f (.yield i) [] []::cap) s1 with
    | some (.ret _,s2)=>match s2.t.get i with
      | some (.loop st _ _ _ _)=>Tr.put none A9 s2.t i fun t=>some ((match st with| .ready=> .normal| .ret=> .ret| .exit id=> .exit id),e,⟨s2.nx,t⟩)
      | _=>none
    | some (.Bf v,s2)=>match s2.t.get i with
      | some _=>Tr.put none A9 s2.t i fun t=>some (.Bf v,e,⟨s2.nx,t⟩)
      | none=>none
    | none=>none
   | _=>none) _
   rw[BD he,Gk hi];simp only[JA];cases Da env g with
   | none=>trivial
   | some v=>
     cases v<;>first|trivial|skip
     rename_i fn first cap
     cases fn<;>first|trivial|skip
     cases first<;>first|trivial|skip
     rename_i gf;simp only[ob];rw[PV he]
     have hnew: ∀ {β γ:Type} (o:EO) (f:Nat->St->Option β) (g:Nat->St->Option γ) (Rl:Option β->Option γ->Prop),Rl none none->(∀i s,Rl (f i s) (g i s))->Rl (s.new o f) (s.new o g):=fun {β γ} o f g Rl h0 h1=>by
      obtain⟨n,t⟩:=s;cases n with
      | zero=>simp only[St.new];rw[Tr.put_eq,Tr.put_eq];exact h1 _ _
      | succ n=>
        simp only[St.new];rw[Tr.put_eq,Tr.put_eq];cases Nat.ble (n+1) NW
        .exact h0
        .exact h1 _ _
     refine hnew _ _ _ Gw trivial fun i s1=>?_
     cases HS tab memo ih gf (.f (.yield i) [] []::cap) s1 with
     | none=>trivial
     | some p=>
       obtain⟨x,s2⟩:=p;cases x with
       | ret v=>
         simp only;cases s2.t.get i with
         | none=>trivial
         | some o=>
           cases o<;>first|trivial|skip
           simp only;rw[Tr.put_eq,Tr.put_eq];exact⟨rfl,rfl,he⟩
       | Bf v=>
         simp only;cases s2.t.get i with
         | none=>trivial
         | some o=>
           simp only;rw[Tr.put_eq,Tr.put_eq];exact⟨rfl,rfl,he⟩
def Z1 (tab:Kk) (memo:FG): ∀n:Nat,YF (runK tab memo n) (run tab memo n)
 | 0=>fun _ _ _ _ _=>trivial
 | n+1=>fun c _ _ s he=>je (Z1 tab memo n) c s he
def mL (tab:Kk) (memo:FG) (n:Nat) (f:FuncId) (vs:List V) (v:V):Bool:=
 match LP tab memo (runK tab memo n) f vs with
 | some u=>Eu u v
 | none=>false
def Sh {tab:Kk} (ht:MB P tab) {memo:FG} (hm:HU P memo) {n:Nat} {f:FuncId} {vs:List V} {v:V} (h:mL tab memo n f vs v=true):CG vs=true/\BG v=true/\Pure P f vs v:=by
 unfold mL at h;rw[OM (Z1 tab memo n)]at h;exact XU ht hm h
def rZ (t:Tr bk):Kk:=fun f=>bw t f
def Zv {t:Tr bk} (h:Zo (fun i=>PB P i) id t):MB P (rZ t):=fun f fs e=>h f fs ((Uh t f).symm.trans e)
def sK (m:FG) (f:FuncId) (a:List V) (v:V):FG:=fun g=>@Bool.rec (fun _=>List (List V×V)) (m g) ((a,v)::m g) (Nat.beq f g)
def qB {m:FG} (h:HU P m) {f:FuncId} {a:List V} {v:V} (h1:CG a=true/\BG v=true/\Pure P f a v):HU P (sK m f a v):=fun g e he=>by
 unfold sK at he;cases hb:Nat.beq f g with
 | false=>rw[hb]at he;exact h g e he
 | true=>
   rw[hb]at he;have:=C6 hb;subst this;rcases Fg.1 he with rfl|he
   .exact h1
   .exact h f e he
end Go.Gl
