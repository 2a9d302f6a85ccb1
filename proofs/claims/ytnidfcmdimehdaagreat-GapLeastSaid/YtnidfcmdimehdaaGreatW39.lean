import Derived.Test.YtnidfcmdimehdaaGreatW38
set_option linter.all false
set_option linter.defProp false
set_option maxHeartbeats 8000000
noncomputable section
namespace Go.Gl
variable {P:Program}
structure B8 where
 M:Nat
 E:Env
abbrev Ah:=Option (Ab×B8×St)
def KK {α β:Type} (c:Bool) (x:Option α) (g:α->Option β):ob (bif c then x else none) g=bif c then ob x g else none:=by cases c<;>rfl
def kx (env:Env) (n:Nat) (K:V->Ah):Ah:=@List.rec (Nat×V) (fun _=>Nat->(V->Ah)->Ah) (fun _ _=>none) (fun p _ ih n K=>@Bool.rec (fun _=>Ah) (ih n K) (K p.2) (Nat.beq p.1 n)) env n K
def mz (env:Env) (n:Nat) (K:V->Ah):kx env n K=ob (get n env) K:=by
 induction env with
 | nil=>rfl
 | cons p r ih=>
   obtain⟨j,v⟩:=p;show @Bool.rec (fun _=>Ah) (kx r n K) (K v) (Nat.beq j n)=ob (bif Nat.beq j n then some v else get n r) K;cases Nat.beq j n
   .exact ih
   .rfl
def Sv {α:Type} (cs:List α) (i:Nat) (K:α->Ah):Ah:=@List.rec α (fun _=>Nat->(α->Ah)->Ah) (fun _ _=>none) (fun v _ ih i K=>@Nat.rec (fun _=>Ah) (K v) (fun j _=>ih j K) i) cs i K
def LG {α:Type} (cs:List α): ∀(i:Nat) (K:α->Ah),Sv cs i K=ob cs[i]? K:=by
 induction cs with
 | nil=>intro i K;rfl
 | cons v r ih=>
   intro i K;cases i with
   | zero=>rfl
   | succ j=>exact ih j K
def Fp {α:Type} (cs:List α):Nat:=@List.rec α (fun _=>Nat) 0 (fun _ _ ih=>Nat.succ ih) cs
def E2 {α:Type} (cs:List α):Fp cs=cs.length:=by
 induction cs with
 | nil=>rfl
 | cons v r ih=>show Nat.succ (Fp r)=_;rw[ih];rfl
def VD {α:Type} (cs:List α) (n:Nat):List α:=@Nat.rec (fun _=>List α->List α) (fun cs=>cs) (fun _ ih cs=>@List.rec α (fun _=>(List α->List α)->List α) (fun _=>[]) (fun _ r _ ih=>ih r) cs ih) n cs
def Pt {α:Type}: ∀(n:Nat) (cs:List α),VD cs n=cs.drop n
 | 0,cs=>rfl
 | n+1,[]=>rfl
 | n+1,v::r=>Pt n r
def Ym {α:Type} (cs:List α) (n:Nat):List α:=@List.rec α (fun _=>Nat->List α) (fun _=>[]) (fun v _ ih n=>@Nat.rec (fun _=>List α) [] (fun j _=>v::ih j) n) cs n
def gz {α:Type} (cs:List α): ∀n:Nat,Ym cs n=cs.take n:=by
 induction cs with
 | nil=>intro n;cases n<;>rfl
 | cons v r ih=>
   intro n;cases n with
   | zero=>rfl
   | succ j=>show v::Ym r j=_;rw[ih];rfl
def XE {α:Type} (cs:List α) (n:Nat) (x:α):List α:=@List.rec α (fun _=>Nat->α->List α) (fun _ _=>[]) (fun v r ih n x=>@Nat.rec (fun _=>List α) (x::r) (fun j _=>v::ih j x) n) cs n x
def Tb {α:Type} (cs:List α) (x:α): ∀n:Nat,XE cs n x=cs.set n x:=by
 induction cs with
 | nil=>intro n;rfl
 | cons v r ih=>
   intro n;cases n with
   | zero=>rfl
   | succ j=>show v::XE r j x=_;rw[ih];rfl
def qQ {α:Type} (f:α->Bool) (cs:List α):Bool:=@List.rec α (fun _=>(α->Bool)->Bool) (fun _=>true) (fun v _ ih f=>@Bool.rec (fun _=>Bool) false (ih f) (f v)) cs f
def oC {α:Type} (f:α->Bool) (cs:List α):qQ f cs=cs.all f:=by
 induction cs with
 | nil=>rfl
 | cons v r ih=>
   show @Bool.rec (fun _=>Bool) false (qQ f r) (f v)=_;rw[W5,ih];cases f v<;>rfl
def gG (v:V) (K:V->Ah):Ah:=@V.rec (fun _=>V->(V->Ah)->Ah) (fun _=>Unit) (fun _=>Unit) (fun _ v K=>K v) (fun _ _ v K=>K v) (fun _ v K=>K v) (fun v K=>K v) (fun _ _ v K=>@Bool.rec (fun _=>Ah) none (K v) (BC v)) (fun _ _ v K=>@Bool.rec (fun _=>Ah) none (K v) (BC v)) (fun _ _ _ v K=>@Bool.rec (fun _=>Ah) none (K v) (BC v)) (fun _ _ _ v K=>@Bool.rec (fun _=>Ah) none (K v) (BC v)) (fun _ _ _ _ v K=>@Bool.rec (fun _=>Ah) none (K v) (BC v)) (fun _ _ _ _ v K=>@Bool.rec (fun _=>Ah) none (K v) (BC v)) (fun _ v K=>@Bool.rec (fun _=>Ah) none (K v) (BC v)) (fun v K=>K v) (fun _ _ _ _ _ v K=>@Bool.rec (fun _=>Ah) none (K v) (BC v)) (fun v K=>K v) (fun _ _ _ v K=>@Bool.rec (fun _=>Ah) none (K v) (BC v)) (fun v K=>K v) (fun _ _ v K=>@Bool.rec (fun _=>Ah) none (K v) (BC v)) (fun _ _ v K=>@Bool.rec (fun _=>Ah) none (K v) (BC v)) (fun v K=>@Bool.rec (fun _=>Ah) none (K v) (BC v)) () (fun _ _ _ _=>()) () (fun _ _ _ _=>()) v v K
def BF {α:Type} (c:Bool) (x y:α): @Bool.rec (fun _=>α) y x c=bif c then x else y:=by cases c<;>rfl
def cb (v:V) (K:V->Ah):gG v K=ob (bif BC v then some v else none) K:=by
 rw[KK];cases v<;>first|rfl|exact BF _ _ _
def OE (M n:Nat):Bool:=Nat.beq (Nat.land (Nat.shiftRight M n) 1) 1
def S1 (e:B8) (n:Nat):Option V:=bif OE e.1 n then get n e.2 else none
def IT (e:B8) (env:Env):Prop:= ∀n,S1 e n=get n env
def Bk (x:Bb) (e:B8) (K:V->Ah):Ah:=@Bb.rec (fun _=>B8->(V->Ah)->Ah) (fun n e K=>@Bool.rec (fun _=>Ah) none (kx e.2 n K) (OE e.1 n)) (fun v _ K=>gG v K) x e K
def A8 {e:B8} {env:Env} (he:IT e env) (x:Bb) (K:V->Ah):Bk x e K=ob (DG env x) K:=by
 cases x with
 | t n=>
   show @Bool.rec (fun _=>Ah) none (kx e.2 n K) (OE e.1 n)=ob (get n env) K;rw[<-he n,S1,BF,KK,mz]
 | c v=>exact cb v K
def K0 (l:List Bb) (env:B8) (K:List V->Ah):Ah:=@List.rec Bb (fun _=>B8->(List V->Ah)->Ah) (fun _ K=>K []) (fun x _ ih env K=>Bk x env fun v=>ih env fun vs=>K (v::vs)) l env K
def Bg {e:B8} {env:Env} (he:IT e env): ∀(l:List Bb) (K:List V->Ah),K0 l e K=ob (N1 env l) K
 | [],K=>rfl
 | x ::r,K=>by
   show(Bk x e fun v=>K0 r e fun vs=>K (v::vs))=_;rw[A8 he];simp only[N1];cases DG env x with
   | none=>rfl
   | some v=>
     simp only[ob];rw[Bg he r];cases N1 env r<;>rfl
def XI (x:Option Bb) (e:B8) (K:Option V->Ah):Ah:=@Option.rec Bb (fun _=>B8->(Option V->Ah)->Ah) (fun _ K=>K none) (fun x e K=>Bk x e fun v=>K (some v)) x e K
def Bu {e:B8} {env:Env} (he:IT e env) (x:Option Bb) (K:Option V->Ah):XI x e K=ob (KB env x) K:=by
 cases x with
 | none=>rfl
 | some x=>
   show(Bk x e fun v=>K (some v))=_;rw[A8 he];simp only[KB];cases DG env x<;>rfl
def vW (k:IntKind):Nat:=@IntKind.rec (fun _=>Nat) 0 1 2 3 4 5 6 7 k
def MN (a b:IntKind):Bool:=Nat.beq (vW a) (vW b)
def nK (a b:IntKind):MN a b=decide (a=b):=by cases a<;>cases b<;>rfl
def vt (a b:Int):Int:=@Int.rec (fun _=>Int->Int) (fun m b=>@Int.rec (fun _=>Nat->Int) (fun n m=>Int.ofNat (Nat.add m n)) (fun n m=>Int.ofNat m+Int.negSucc n) b m) (fun m b=>Int.negSucc m+b) a b
def oI (a b:Int):vt a b=a+b:=by cases a<;>cases b<;>rfl
def vN (a b:Int):Int:=@Int.rec (fun _=>Int->Int) (fun m b=>@Int.rec (fun _=>Nat->Int) (fun n m=>@Bool.rec (fun _=>Int) (Int.negSucc (Nat.sub n (Nat.succ m))) (Int.ofNat (Nat.sub m n)) (Nat.ble n m)) (fun n m=>Int.ofNat m - Int.negSucc n) b m) (fun m b=>Int.negSucc m - b) a b
def lL (a b:Int):vN a b=a - b:=by
 cases a with
 | negSucc m=>rfl
 | ofNat m=>
   cases b with
   | negSucc n=>rfl
   | ofNat n=>
     show @Bool.rec (fun _=>Int) (Int.negSucc (n - (m+1))) (Int.ofNat (m - n)) (Nat.ble n m)=_;cases h:Nat.ble n m with
     | true=>
       have:=Nat.le_of_ble_eq_true h;show Int.ofNat (m - n)=(m:Int) - (n:Int);simp only[Int.ofNat_eq_natCast];omega
     | false=>
       have: ¬n<=m:=fun h'=>by rw[Nat.ble_eq_true_of_le h']at h;cases h
       show Int.negSucc (n - (m+1))=(m:Int) - (n:Int);omega
def dG (a b:Int):Bool:=@Int.rec (fun _=>Int->Bool) (fun m b=>@Int.rec (fun _=>Nat->Bool) (fun n m=>Nat.ble (Nat.succ m) n) (fun _ _=>false) b m) (fun m b=>@Int.rec (fun _=>Nat->Bool) (fun _ _=>true) (fun n m=>Nat.ble (Nat.succ n) m) b m) a b
def TC (a b:Int):dG a b=MI a b:=by cases a<;>cases b<;>rfl
def yH (a b:Int):Bool:=@Int.rec (fun _=>Int->Bool) (fun m b=>@Int.rec (fun _=>Nat->Bool) (fun n m=>Nat.beq m n) (fun _ _=>false) b m) (fun m b=>@Int.rec (fun _=>Nat->Bool) (fun _ _=>false) (fun n m=>Nat.beq m n) b m) a b
def r8 (a b:Int):yH a b=aK a b:=by cases a<;>cases b<;>rfl
def Sw (b:Bool):Bool:=@Bool.rec (fun _=>Bool) true false b
def mC (b:Bool):Sw b= !b:=by cases b<;>rfl
def dQ (a:Int):Nat:=@Int.rec (fun _=>Nat) (fun n=>n) (fun _=>0) a
def PD (a:Int):dQ a=a.toNat:=by cases a<;>rfl
def Yl (k:IntKind) (n:Int):Int:=@IntKind.rec (fun _=>Int->Int) (fun n=>IntKind.i8.wrap n) (fun n=>IntKind.i16.wrap n) (fun n=>IntKind.i32.wrap n)
 (fun n=>@Int.rec (fun _=>Int) (fun m=>@Bool.rec (fun _=>Int) (IntKind.i64.wrap (Int.ofNat m)) (Int.ofNat m) (Nat.ble m 9223372036854775807)) (fun m=>@Bool.rec (fun _=>Int) (IntKind.i64.wrap (Int.negSucc m)) (Int.negSucc m) (Nat.ble m 9223372036854775807)) n)
 (fun n=>IntKind.u8.wrap n) (fun n=>IntKind.u16.wrap n) (fun n=>IntKind.u32.wrap n)
 (fun n=>@Int.rec (fun _=>Int) (fun m=>@Bool.rec (fun _=>Int) (IntKind.u64.wrap (Int.ofNat m)) (Int.ofNat m) (Nat.ble m 18446744073709551615)) (fun m=>IntKind.u64.wrap (Int.negSucc m)) n) k n
def gm (k:IntKind) (n:Int):Yl k n=k.wrap n:=by
 cases k<;>try rfl
 .cases n with
  | ofNat m=>
    have:=Iq .i64 (.ofNat m);simp only[H9]at this;rw[<-this];show @Bool.rec (fun _=>Int) _ _ _=_;cases Nat.ble m 9223372036854775807<;>rfl
  | negSucc m=>
    show @Bool.rec (fun _=>Int) (IntKind.i64.wrap (Int.negSucc m)) (Int.negSucc m) (Nat.ble m 9223372036854775807)=_;cases h:Nat.ble m 9223372036854775807 with
    | false=>rfl
    | true=>
      have:=Nat.le_of_ble_eq_true h;show Int.negSucc m=_;exact(wrap64 (by omega) (by omega)).symm
 .cases n with
  | ofNat m=>
    have:=Iq .u64 (.ofNat m);simp only[H9]at this;rw[<-this];show @Bool.rec (fun _=>Int) _ _ _=_;cases Nat.ble m 18446744073709551615<;>rfl
  | negSucc m=>rfl
def vO (k:IntKind) (a b:Int):Int:=@Int.rec (fun _=>Int->IntKind->Int) (fun m b _=>Int.ofNat (Nat.shiftRight m (Nat.min (dQ b) k.bits))) (fun m b k=>(Int.negSucc m).fdiv (2 ^ (min b.toNat k.bits))) a b k
def lP (k:IntKind) (a b:Int):vO k a b=a.fdiv (2 ^ (min b.toNat k.bits)):=by
 cases a with
 | negSucc m=>rfl
 | ofNat m=>
   show Int.ofNat (m >>> (min (dQ b) k.bits))=_;rw[PD,Nat.shiftRight_eq_div_pow];have:(2:Int) ^ (min b.toNat k.bits)=((2 ^ (min b.toNat k.bits):Nat):Int):=by simp
   rw[this];exact(Int.ofNat_fdiv _ _)
def vP (k:IntKind) (a b:Int):Int:=@Int.rec (fun _=>Int->IntKind->Int) (fun m b _=>Int.ofNat (Nat.shiftLeft m (Nat.min (dQ b) k.bits))) (fun m b k=>(Int.negSucc m)*(2 ^ (min b.toNat k.bits))) a b k
def lQ (k:IntKind) (a b:Int):vP k a b=a*(2 ^ (min b.toNat k.bits)):=by
 cases a with
 | negSucc m=>rfl
 | ofNat m=>
   show Int.ofNat (m <<< (min (dQ b) k.bits))=_;rw[PD,Nat.shiftLeft_eq];simp
def xv (v:V) (K:IntKind->Int->Ah):Ah:=@V.rec (fun _=>(IntKind->Int->Ah)->Ah) (fun _=>Unit) (fun _=>Unit) (fun _ K=>none) (fun k n K=>K k n) (fun _ K=>none) (fun K=>none) (fun _ _ K=>none) (fun _ _ K=>none) (fun _ _ _ K=>none) (fun _ _ _ K=>none) (fun _ _ _ _ K=>none) (fun _ _ _ _ K=>none) (fun _ K=>none) (fun K=>none) (fun _ _ _ _ _ K=>none) (fun K=>none) (fun _ _ _ K=>none) (fun K=>none) (fun _ _ K=>none) (fun _ _ K=>none) (fun K=>none) () (fun _ _ _ _=>()) () (fun _ _ _ _=>()) v K
def xn:V->Option (IntKind×Int)| .i k n=>some (k,n)|_=>none
def Xp (v:V) (K:IntKind->Int->Ah):xv v K=ob (xn v) fun p=>K p.1 p.2:=by cases v<;>rfl
def k9 (op:BinOp) (vx vy:V) (K:V->Ah):Ah:=xv vx fun ka a=>xv vy fun kb b=>@BinOp.rec (fun _=>IntKind->Int->IntKind->Int->(V->Ah)->Ah) (fun ka a kb b K=>@Bool.rec (fun _=>Ah) none (K (.i ka (Yl ka (vt a b)))) (MN ka kb)) (fun ka a kb b K=>@Bool.rec (fun _=>Ah) none (K (.i ka (Yl ka (vN a b)))) (MN ka kb)) (fun ka a kb b K=>ob (Uk .mul (.i ka a) (.i kb b)) K) (fun ka a kb b K=>ob (Uk .quo (.i ka a) (.i kb b)) K) (fun ka a kb b K=>ob (Uk .rem (.i ka a) (.i kb b)) K) (fun ka a kb b K=>@Bool.rec (fun _=>Ah) none (K (.i ka (PA .and ka a b))) (MN ka kb)) (fun ka a kb b K=>@Bool.rec (fun _=>Ah) none (K (.i ka (PA .or ka a b))) (MN ka kb)) (fun ka a kb b K=>@Bool.rec (fun _=>Ah) none (K (.i ka (PA .xor ka a b))) (MN ka kb)) (fun ka a kb b K=>@Bool.rec (fun _=>Ah) none (K (.i ka (Yl ka (vP ka a b)))) (Sw (dG b 0))) (fun ka a kb b K=>@Bool.rec (fun _=>Ah) none (K (.i ka (vO ka a b))) (Sw (dG b 0))) (fun ka a kb b K=>@Bool.rec (fun _=>Ah) none (K (.i ka (PA .andNot ka a b))) (MN ka kb)) (fun ka a kb b K=>@Bool.rec (fun _=>Ah) none (K (.b (yH a b))) (MN ka kb)) (fun ka a kb b K=>@Bool.rec (fun _=>Ah) none (K (.b (Sw (yH a b)))) (MN ka kb)) (fun ka a kb b K=>@Bool.rec (fun _=>Ah) none (K (.b (dG a b))) (MN ka kb)) (fun ka a kb b K=>@Bool.rec (fun _=>Ah) none (K (.b (Sw (dG b a)))) (MN ka kb)) (fun ka a kb b K=>@Bool.rec (fun _=>Ah) none (K (.b (dG b a))) (MN ka kb)) (fun ka a kb b K=>@Bool.rec (fun _=>Ah) none (K (.b (Sw (dG a b)))) (MN ka kb)) op ka a kb b K
def n6 (op:BinOp) (vx vy:V) (K:V->Ah):k9 op vx vy K=ob (Uk op vx vy) K:=by
 unfold k9;rw[Xp];cases vx<;>first|rfl|skip
 rename_i ka a;simp only[xn,ob];rw[Xp];cases vy<;>first|(cases op<;>rfl)|skip
 rename_i kb b;simp only[xn,ob];cases op<;>first|rfl|skip
 all_goals
  simp only[Uk];simp only[BF,nK,gm,oI,lL,r8,TC,mC,lQ,lP,Iq,Oe,ob]
  first
   | (cases decide (ka=kb)<;>rfl)
   | (cases MI b 0<;>rfl)
def aW {α:Type} (t:Tr α) (k:Nat):Option α:=@Tr.rec α (fun _=>Nat->Option α) (fun _=>none) (fun o _ _ ihl ihr k=>@Nat.rec (fun _=>Option α) o (fun j _=>@Bool.rec (fun _=>Option α) (ihr (Nat.div j 2)) (ihl (Nat.div j 2)) (Nat.beq (Nat.mod j 2) 0)) k) t k
def Tt {α:Type} (t:Tr α): ∀k:Nat,aW t k=t.get k:=by
 induction t with
 | leaf=>intro k;rfl
 | node o l r ihl ihr=>
   intro k;cases k with
   | zero=>rfl
   | succ j=>
     show @Bool.rec (fun _=>Option α) (aW r (j / 2)) (aW l (j / 2)) (Nat.beq (j % 2) 0)=bif Nat.beq (j % 2) 0 then l.get (j / 2)else r.get (j / 2);rw[ihl,ihr];cases Nat.beq (j % 2) 0<;>rfl
def Ss {α β:Type} (x:Option α) (d:Nat) (t:Tr α) (k:Nat) (K:Tr α->β):β:=
 @Nat.rec (fun _=>Tr α->Nat->(Tr α->β)->β) (fun t _ K=>K t)
  (fun _ ih t k K=>@Tr.rec α (fun _=>Nat->(Tr α->β)->β)
   (fun k K=>@Nat.rec (fun _=>β) (K (.node x .leaf .leaf)) (fun j _=>@Bool.rec (fun _=>β) (ih .leaf (Nat.div j 2) fun r=>K (.node none .leaf r)) (ih .leaf (Nat.div j 2) fun l=>K (.node none l .leaf)) (Nat.beq (Nat.mod j 2) 0)) k)
   (fun o l r _ _ k K=>@Nat.rec (fun _=>β) (K (.node x l r)) (fun j _=>@Bool.rec (fun _=>β) (ih r (Nat.div j 2) fun r=>K (.node o l r)) (ih l (Nat.div j 2) fun l=>K (.node o l r)) (Nat.beq (Nat.mod j 2) 0)) k) t k K) d t k K
def GM {α β:Type} (x:Option α): ∀(d:Nat) (t:Tr α) (k:Nat) (K:Tr α->β),Ss x d t k K=Tr.put x d t k K
 | 0,t,k,K=>rfl
 | d+1,.leaf,0,K=>rfl
 | d+1,.node _ _ _,0,K=>rfl
 | d+1,.leaf,j+1,K=>by
   show @Bool.rec (fun _=>β) (Ss x d .leaf (j / 2) fun r=>K (.node none .leaf r)) (Ss x d .leaf (j / 2) fun l=>K (.node none l .leaf)) (Nat.beq (j % 2) 0)=bif Nat.beq (j % 2) 0 then _ else _;rw[GM x d,GM x d,BF]
 | d+1,.node o l r,j+1,K=>by
   show @Bool.rec (fun _=>β) (Ss x d r (j / 2) fun r=>K (.node o l r)) (Ss x d l (j / 2) fun l=>K (.node o l r)) (Nat.beq (j % 2) 0)=bif Nat.beq (j % 2) 0 then _ else _;rw[GM x d,GM x d,BF]
def dg (s:St) (o:EO) (K:Nat->St->Ah):Ah:=@Nat.rec (fun _=>Ah) (Ss (some o) A3 s.t 0 fun t=>K 0 ⟨1,t⟩) (fun n _=>@Bool.rec (fun _=>Ah) none (Ss (some o) A3 s.t (Nat.succ n) fun t=>K (Nat.succ n) ⟨Nat.succ (Nat.succ n),t⟩) (Nat.ble (Nat.succ n) ML)) s.nx
def mI {γ:Type} (s:St) (o:EO) (f:Nat->St->Option γ) (K:γ->Ah):ob (s.new o f) K=dg s o fun i s'=>ob (f i s') K:=by
 obtain⟨n,t⟩:=s;cases n with
 | zero=>
   unfold dg;simp only[St.new];rw[GM,Tr.put_eq,Tr.put_eq];rfl
 | succ n=>
   unfold dg;simp only[St.new];rw[GM,Tr.put_eq,Tr.put_eq,BF,KK]
def wR (o:EO) (K:List V->Ah):Ah:=@EO.rec (fun _=>(List V->Ah)->Ah) (fun vs K=>K vs) (fun _ _ _=>none) (fun _ _=>none) (fun _ _ _ _ _ _=>none) o K
def qx (o:EO) (K:Nat->List (List V)->Ah):Ah:=@EO.rec (fun _=>(Nat->List (List V)->Ah)->Ah) (fun _ _=>none) (fun sz es K=>K sz es) (fun _ _=>none) (fun _ _ _ _ _ _=>none) o K
def yD {α:Type} (o:Option α) (K:α->Ah):Ah:=@Option.rec α (fun _=>(α->Ah)->Ah) (fun _=>none) (fun a K=>K a) o K
def fK {α:Type} (o:Option α) (K:α->Ah):yD o K=ob o K:=by cases o<;>rfl
def Yv (s:St) (n:Nat) (K:List V->Ah):Ah:=yD (aW s.t n) fun o=>wR o K
def TI (s:St) (n:Nat) (K:Nat->List (List V)->Ah):Ah:=yD (aW s.t n) fun o=>qx o K
def Vv (s:St) (n:Nat) (K:List V->Ah):Yv s n K=match s.t.get n with|some (.cs vs)=>K vs|_=>none:=by
 unfold Yv;rw[fK,Tt];cases s.t.get n with
 | none=>rfl
 | some o=>cases o<;>rfl
def SD (s:St) (n:Nat) (K:Nat->List (List V)->Ah):TI s n K=match s.t.get n with|some (.arr sz es)=>K sz es|_=>none:=by
 unfold TI;rw[fK,Tt];cases s.t.get n with
 | none=>rfl
 | some o=>cases o<;>rfl
def XN (agg:Option Nat) (cs:List V) (off:Nat) (K:V->Ah):Ah:=@Option.rec Nat (fun _=>List V->Nat->(V->Ah)->Ah) (fun cs off K=>Sv cs off K)
 (fun n cs off K=>@Bool.rec (fun _=>Ah) (@Bool.rec (fun _=>Ah) none (K (.a (Ym (VD cs off) n))) (Nat.ble (Nat.add off n) (Fp cs))) (K (.a cs)) (@Bool.rec (fun _=>Bool) false (Nat.beq n (Fp cs)) (Nat.beq off 0))) agg cs off K
def OV (agg:Option Nat) (cs:List V) (off:Nat) (K:V->Ah):XN agg cs off K=ob (Ui agg cs off) K:=by
 cases agg with
 | none=>exact LG cs off K
 | some n=>
   show @Bool.rec (fun _=>Ah) (@Bool.rec (fun _=>Ah) none (K (.a (Ym (VD cs off) n))) (Nat.ble (off+n) (Fp cs))) (K (.a cs)) (@Bool.rec (fun _=>Bool) false (Nat.beq n (Fp cs)) (Nat.beq off 0))=_;simp only[Ui];rw[gz,Pt,E2,KK];cases h1:Nat.beq off 0 with
   | false=>exact BF _ _ _
   | true=>
     cases h2:Nat.beq n cs.length with
     | false=>exact BF _ _ _
     | true=>
       have:=Cg h1;subst this;have:=Cg h2;subst this;show K (.a cs)=_;rw[Nat.ble_eq_true_of_le (by omega)];simp[ob]
def eM (s:St) (agg:Option Nat) (x:V) (K:V->Ah):Ah:=@V.rec (fun _=>St->Option Nat->(V->Ah)->Ah) (fun _=>Unit) (fun _=>Unit) (fun _ s agg K=>none) (fun _ _ s agg K=>none) (fun _ s agg K=>none) (fun s agg K=>none) (fun n off s agg K=>Yv s n fun vs=>XN agg vs off K) (fun cs _ s agg K=>XN agg cs 0 K) (fun _ _ _ s agg K=>none) (fun _ _ _ s agg K=>none) (fun _ _ _ _ s agg K=>none) (fun n sz i off s agg K=>TI s n fun sz1 es=>@Bool.rec (fun _=>Ah) none (Sv es i fun e=>XN agg e off K) (Nat.beq sz sz1)) (fun _ s agg K=>none) (fun s agg K=>none) (fun _ _ _ _ _ s agg K=>none) (fun s agg K=>none) (fun _ _ _ s agg K=>none) (fun s agg K=>none) (fun _ _ s agg K=>none) (fun _ _ s agg K=>none) (fun s agg K=>none) () (fun _ _ _ _=>()) () (fun _ _ _ _=>()) x s agg K
def jA (s:St) (agg:Option Nat) (x:V) (K:V->Ah):eM s agg x K=ob (NU s agg x) K:=by
 cases x<;>first|rfl|skip
 .rename_i n off
  refine(Vv _ _ _).trans ?_;simp only[NU];cases s.t.get n with
  | none=>rfl
  | some o=>cases o<;>first|rfl|exact OV _ _ _ _
 .exact OV _ _ _ _
 .rename_i n sz i off
  refine(SD _ _ _).trans ?_;simp only[NU];cases s.t.get n with
  | none=>rfl
  | some o=>
    cases o<;>first|rfl|skip
    rename_i sz1 es;simp only;rw[BF,KK,LG];congr 1;cases es[i]? with
    | none=>rfl
    | some e=>exact OV _ _ _ _
def Gg (v:V) (K:List V->Ah):Ah:=@V.rec (fun _=>V->(List V->Ah)->Ah) (fun _=>Unit) (fun _=>Unit) (fun _ v K=>K [v]) (fun _ _ v K=>K [v]) (fun _ v K=>K [v]) (fun v K=>K [v]) (fun _ _ v K=>K [v]) (fun _ _ v K=>K [v]) (fun _ _ _ v K=>K [v]) (fun _ _ _ v K=>K [v]) (fun _ _ _ _ v K=>K [v]) (fun _ _ _ _ v K=>K [v]) (fun _ v K=>K [v]) (fun v K=>K [v]) (fun _ _ _ _ _ v K=>K [v]) (fun v K=>K [v]) (fun _ _ _ v K=>K [v]) (fun v K=>K [v]) (fun cs _ v K=>K cs) (fun _ _ v K=>none) (fun v K=>none) () (fun _ _ _ _=>()) () (fun _ _ _ _=>()) v v K
def HZ (v:V) (K:List V->Ah):Gg v K=ob (cellsOf v) K:=by cases v<;>rfl
def vS (v:V):Bool:=@V.rec (fun _=>Bool) (fun _=>Unit) (fun _=>Unit) (fun _=>true) (fun _ _=>true) (fun _=>true) (true) (fun _ _=>true) (fun _ _=>true) (fun _ _ _=>true) (fun _ _ _=>true) (fun _ _ _ _=>true) (fun _ _ _ _=>true) (fun _=>true) (true) (fun _ _ _ _ _=>true) (true) (fun _ _ _=>true) (true) (fun _ _=>false) (fun _ _=>false) (false) () (fun _ _ _ _=>()) () (fun _ _ _ _=>()) v
def l8:vS=B6:=funext fun v=>by cases v<;>rfl
def dc (cs:List V) (o:Nat) (vc:List V):List V:=@List.rec V (fun _=>List V->Nat->List V) (fun cs _=>cs) (fun v _ ih cs o=>ih (XE cs o v) (Nat.succ o)) vc cs o
def OL: ∀(vc cs:List V) (o:Nat),dc cs o vc=putAt cs o vc
 | [],_,_=>rfl
 | v::r,cs,o=>by
   show dc (XE cs o v) (o+1) r=_;rw[OL r,Tb];rfl
def kq (cs:List V) (o:Nat) (vc:List V):List V:=@Bool.rec (fun _=>List V) (dc cs o vc) vc (@Bool.rec (fun _=>Bool) false (Nat.beq (Fp vc) (Fp cs)) (Nat.beq o 0))
def bQ: ∀(vc pre cs:List V),vc.length=cs.length->putAt (pre++cs) pre.length vc=pre++vc:=by
 intro vc
 induction vc with
 | nil=>intro pre cs hl;cases cs with
   | nil=>rfl
   | cons _ _=>cases hl
 | cons x vc ih=>
   intro pre cs hl;cases cs with
   | nil=>cases hl
   | cons y cs=>
     simp only[putAt];rw[List.set_append_right _ _ (IN _),Nat.sub_self,List.set_cons_zero];have:=ih (pre++[x]) cs (by simpa using hl);simp only[RG,Kt,List.length_nil,F9,Od,List.singleton_append]at this;exact this
def ZL (cs:List V) (o:Nat) (vc:List V):kq cs o vc=putAt cs o vc:=by
 unfold kq;cases h1:Nat.beq o 0 with
 | false=>exact OL vc cs o
 | true=>
   rw[E2,E2];cases h2:Nat.beq vc.length cs.length with
   | false=>exact OL vc cs o
   | true=>
     have:=Cg h1;subst this;exact(bQ vc [] cs (Cg h2)).symm
def fA (s:St) (sz:Nat) (a:V) (vc:List V) (K:St->Ah):Ah:=@V.rec (fun _=>St->Nat->List V->(St->Ah)->Ah) (fun _=>Unit) (fun _=>Unit) (fun _ s sz vc K=>none) (fun _ _ s sz vc K=>none) (fun _ s sz vc K=>none) (fun s sz vc K=>none) (fun n off s sz vc K=>Yv s n fun vs=>@Bool.rec (fun _=>Ah) none (Ss (some (.cs (kq vs off vc))) A3 s.t n fun t=>K ⟨s.nx,t⟩) (Nat.ble (Nat.add off sz) (Fp vs))) (fun _ _ s sz vc K=>none) (fun _ _ _ s sz vc K=>none) (fun _ _ _ s sz vc K=>none) (fun _ _ _ _ s sz vc K=>none) (fun n s' i off s sz vc K=>TI s n fun s1 es=>@Bool.rec (fun _=>Ah) none (@Bool.rec (fun _=>Ah) none (Sv es i fun e=>Ss (some (.arr s1 (XE es i (kq e off vc)))) A3 s.t n fun t=>K ⟨s.nx,t⟩) (Nat.ble (Nat.add off sz) s')) (Nat.beq s' s1)) (fun _ s sz vc K=>none) (fun s sz vc K=>none) (fun _ _ _ _ _ s sz vc K=>none) (fun s sz vc K=>none) (fun _ _ _ s sz vc K=>none) (fun s sz vc K=>none) (fun _ _ s sz vc K=>none) (fun _ _ s sz vc K=>none) (fun s sz vc K=>none) () (fun _ _ _ _=>()) () (fun _ _ _ _=>()) a s sz vc K
def S6 (s:St) (sz:Nat) (a x:V) (K:St->Ah):Ah:=Gg x fun vc=>@Bool.rec (fun _=>Ah) none (@Bool.rec (fun _=>Ah) none (fA s sz a vc K) (qQ vS vc)) (Nat.beq (Fp vc) sz)
def az (s : St) (sz:Nat) (a x:V) (K:St->Ah):S6 s sz a x K=ob (PL s sz a x) K:=by
 unfold S6 PL;rw[HZ];cases cellsOf x with
 | none=>rfl
 | some vc =>
   simp only[ob,E2,oC,l8];cases Nat.beq vc.length sz with
   | false=>rfl
   | true=>
     cases vc.all B6 with
     | false=>rfl
     | true=>
       simp only[Bool.and_true,cond_true];show fA s sz a vc K=_;cases a<;>first|rfl|skip
       .rename_i n off
        refine(Vv _ _ _).trans ?_;simp only;cases s.t.get n with
        | none=>rfl
        | some o=>
          cases o<;>first|rfl|skip
          rename_i vs;simp only;rw[GM,Tr.put_eq,ZL,E2,BF,Tr.put_eq];show(bif Nat.ble (off+sz) vs.length then _ else none)=_;cases Nat.ble (off+sz) vs.length<;>rfl
       .rename_i n s' i off
        refine(SD _ _ _).trans ?_;simp only;cases s.t.get n with
        | none=>rfl
        | some o=>
          cases o<;>first|rfl|skip
          rename_i s1 es;simp only;rw[BF,BF,LG];show(bif Nat.beq s' s1 then(bif Nat.ble (off+sz) s' then _ else none)else none)=_;cases Nat.beq s' s1<;>cases Nat.ble (off+sz) s'<;>try rfl
          simp only[cond_true,Bool.and_true];cases es[i]? with
          | none=>rfl
          | some e=>
            simp only[ob];rw[GM,Tr.put_eq,ZL,Tb,Tr.put_eq]
def Xh (off:Nat) (x:V) (K:V->Ah):Ah:=@V.rec (fun _=>Nat->(V->Ah)->Ah) (fun _=>Unit) (fun _=>Unit) (fun _ off K=>none) (fun _ _ off K=>none) (fun _ off K=>none) (fun off K=>none) (fun n o off K=>K (.p n (Nat.add o off))) (fun cs _ off K=>K (.rp (VD cs off))) (fun _ _ _ off K=>none) (fun _ _ _ off K=>none) (fun _ _ _ _ off K=>none) (fun n sz i o off K=>K (.pe n sz i (Nat.add o off))) (fun _ off K=>none) (fun off K=>none) (fun _ _ _ _ _ off K=>none) (fun off K=>none) (fun _ _ _ off K=>none) (fun off K=>none) (fun _ _ off K=>none) (fun _ _ off K=>none) (fun off K=>none) () (fun _ _ _ _=>()) () (fun _ _ _ _=>()) x off K
def cL (off:Nat) (x:V) (K:V->Ah):Xh off x K=ob (TO off x) K:=by
 cases x<;>first|rfl|skip
 show K (.rp (VD _ off))=_;rw[Pt];rfl
def fW (sz:Nat) (x:V) (j:Int) (K:V->Ah):Ah:=@V.rec (fun _=>Nat->Int->(V->Ah)->Ah) (fun _=>Unit) (fun _=>Unit) (fun _ sz j K=>none) (fun _ _ sz j K=>none) (fun _ sz j K=>none) (fun sz j K=>none) (fun _ _ sz j K=>none) (fun _ _ sz j K=>none) (fun es _ _ sz j K=>Sv es (dQ j) fun e=>@Bool.rec (fun _=>Ah) none (K (.rp e)) (Nat.beq (Fp e) sz)) (fun n len _ sz j K=>@Bool.rec (fun _=>Ah) none (K (.pe n sz (dQ j) 0)) (dG j (Int.ofNat len))) (fun n s off len sz j K=>@Bool.rec (fun _=>Ah) none (@Bool.rec (fun _=>Ah) none (K (.pe n sz (Nat.add off (dQ j)) 0)) (dG j (Int.ofNat len))) (Nat.beq s sz)) (fun _ _ _ _ sz j K=>none) (fun _ sz j K=>none) (fun sz j K=>none) (fun _ _ _ _ _ sz j K=>none) (fun sz j K=>none) (fun _ _ _ sz j K=>none) (fun sz j K=>none) (fun _ _ sz j K=>none) (fun _ _ sz j K=>none) (fun sz j K=>none) () (fun _ _ _ _=>()) () (fun _ _ _ _=>()) x sz j K
def Xf (sz:Nat) (arr:Option Nat) (x i:V) (K:V->Ah):Ah:=@Option.rec Nat (fun _=>Nat->V->V->(V->Ah)->Ah) (fun sz x i K=>xv i fun _ j=>@Bool.rec (fun _=>Ah) (fW sz x j K) none (dG j 0)) (fun m sz x i K=>ob (Md sz (some m) x i) K) arr sz x i K
def bq (sz:Nat) (arr:Option Nat) (x i:V) (K:V->Ah):Xf sz arr x i K=ob (Md sz arr x i) K:=by
 cases arr with
 | some m=>rfl
 | none=>
   refine(Xp _ _).trans ?_;cases i<;>first|rfl|skip
   rename_i k j;simp only[xn,ob,Md,Oe,TC];cases MI j 0 with
   | true=>rfl
   | false=>
     show fW sz x j K=_;cases x<;>first|rfl|skip
     .rename_i es full
      show Sv es (dQ j) _=_;rw[LG,PD];simp only[Bool.not_false,cond_true];cases es[j.toNat]? with
      | none=>rfl
      | some e=>
        simp only[ob,E2];cases Nat.beq e.length sz<;>rfl
     .rename_i n len cap
      show @Bool.rec (fun _=>Ah) none (K (.pe n sz (dQ j) 0)) (dG j (Int.ofNat len))=_;rw[PD,TC];simp only[Bool.not_false,cond_true];have:MI j (Int.ofNat len)=MI j (len:Int):=rfl;rw[this];cases MI j (len:Int)<;>rfl
     .rename_i n s off len
      show @Bool.rec (fun _=>Ah) none (@Bool.rec (fun _=>Ah) none (K (.pe n sz (off+dQ j) 0)) (dG j (Int.ofNat len))) (Nat.beq s sz)=_;rw[PD,TC];simp only[Bool.not_false,cond_true];have:MI j (Int.ofNat len)=MI j (len:Int):=rfl;rw[this];cases Nat.beq s sz<;>cases MI j (len:Int)<;>rfl
def qE (x:V) (K:V->Ah):Ah:=@V.rec (fun _=>(V->Ah)->Ah) (fun _=>Unit) (fun _=>Unit) (fun _ K=>none) (fun _ _ K=>none) (fun _ K=>none) (fun K=>none) (fun _ _ K=>none) (fun _ _ K=>none) (fun es _ _ K=>K (.i .i64 (Int.ofNat (Fp es)))) (fun _ len _ K=>@Bool.rec (fun _=>Ah) none (K (.i .i64 (Int.ofNat len))) (Nat.ble len As)) (fun _ _ _ len K=>@Bool.rec (fun _=>Ah) none (K (.i .i64 (Int.ofNat len))) (Nat.ble len As)) (fun _ _ _ _ K=>none) (fun _ K=>none) (fun K=>none) (fun _ _ _ _ _ K=>none) (fun K=>none) (fun _ _ _ K=>none) (fun K=>none) (fun _ _ K=>none) (fun _ _ K=>none) (fun K=>none) () (fun _ _ _ _=>()) () (fun _ _ _ _=>()) x K
def mQ (x:V) (K:V->Ah):qE x K=ob (aZ x) K:=by
 cases x<;>first|rfl|skip
 .show K (.i .i64 (Int.ofNat (Fp _)))=_
  rw[E2];rfl
 .show @Bool.rec (fun _=>Ah) none _ (Nat.ble _ As)=_
  rw[BF];simp only[aZ];rw[KK];rfl
 .show @Bool.rec (fun _=>Ah) none _ (Nat.ble _ As)=_
  rw[BF];simp only[aZ];rw[KK];rfl
def XY (x:V) (K:V->Ah):Ah:=@V.rec (fun _=>V->(V->Ah)->Ah) (fun _=>Unit) (fun _=>Unit) (fun _ x K=>none) (fun _ _ x K=>none) (fun _ x K=>none) (fun x K=>none) (fun _ _ x K=>K x) (fun _ _ x K=>K x) (fun _ _ _ x K=>none) (fun _ _ _ x K=>none) (fun _ _ _ _ x K=>none) (fun _ _ _ _ x K=>K x) (fun _ x K=>none) (fun x K=>none) (fun _ _ _ _ _ x K=>ob (Mc x) K) (fun x K=>none) (fun _ _ _ x K=>none) (fun x K=>none) (fun _ _ x K=>none) (fun _ _ x K=>none) (fun x K=>none) () (fun _ _ _ _=>()) () (fun _ _ _ _=>()) x x K
def bY (x:V) (K:V->Ah):XY x K=ob (Mc x) K:=by cases x<;>rfl
def asT (v:V) (K:List V->Ah):Ah:=@V.rec (fun _=>(List V->Ah)->Ah) (fun _=>Unit) (fun _=>Unit) (fun _ K=>none) (fun _ _ K=>none) (fun _ K=>none) (fun K=>none) (fun _ _ K=>none) (fun _ _ K=>none) (fun _ _ _ K=>none) (fun _ _ _ K=>none) (fun _ _ _ _ K=>none) (fun _ _ _ _ K=>none) (fun _ K=>none) (fun K=>none) (fun _ _ _ _ _ K=>none) (fun K=>none) (fun _ _ _ K=>none) (fun K=>none) (fun _ _ K=>none) (fun vs _ K=>K vs) (fun K=>none) () (fun _ _ _ _=>()) () (fun _ _ _ _=>()) v K
def oP (v:V) (K:Bool->Ah):Ah:=@V.rec (fun _=>(Bool->Ah)->Ah) (fun _=>Unit) (fun _=>Unit) (fun x K=>K x) (fun _ _ K=>none) (fun _ K=>none) (fun K=>none) (fun _ _ K=>none) (fun _ _ K=>none) (fun _ _ _ K=>none) (fun _ _ _ K=>none) (fun _ _ _ _ K=>none) (fun _ _ _ _ K=>none) (fun _ K=>none) (fun K=>none) (fun _ _ _ _ _ K=>none) (fun K=>none) (fun _ _ _ K=>none) (fun K=>none) (fun _ _ K=>none) (fun _ _ K=>none) (fun K=>none) () (fun _ _ _ _=>()) () (fun _ _ _ _=>()) v K
def asA (v:V) (K:List V->Ah):Ah:=@V.rec (fun _=>(List V->Ah)->Ah) (fun _=>Unit) (fun _=>Unit) (fun _ K=>none) (fun _ _ K=>none) (fun _ K=>none) (fun K=>none) (fun _ _ K=>none) (fun _ _ K=>none) (fun _ _ _ K=>none) (fun _ _ _ K=>none) (fun _ _ _ _ K=>none) (fun _ _ _ _ K=>none) (fun _ K=>none) (fun K=>none) (fun _ _ _ _ _ K=>none) (fun K=>none) (fun _ _ _ K=>none) (fun K=>none) (fun cs _ K=>K cs) (fun _ _ K=>none) (fun K=>none) () (fun _ _ _ _=>()) () (fun _ _ _ _=>()) v K
def XL (v:V) (K:V->Ah):Ah:=@V.rec (fun _=>V->(V->Ah)->Ah) (fun _=>Unit) (fun _=>Unit) (fun x v K=>@Bool.rec (fun _=>Ah) (K (.b false)) (K (.b true)) x) (fun k n v K=>@Int.rec (fun _=>Ah) (fun m=>@Nat.rec (fun _=>Ah) (K (.i k (Int.ofNat 0))) (fun j _=>K (.i k (Int.ofNat (Nat.succ j)))) m) (fun m=>@Nat.rec (fun _=>Ah) (K (.i k (Int.negSucc 0))) (fun j _=>K (.i k (Int.negSucc (Nat.succ j)))) m) n) (fun _ v K=>K v) (fun v K=>K v) (fun _ _ v K=>K v) (fun _ _ v K=>K v) (fun _ _ _ v K=>K v) (fun _ _ _ v K=>K v) (fun _ _ _ _ v K=>K v) (fun _ _ _ _ v K=>K v) (fun _ v K=>K v) (fun v K=>K v) (fun _ _ _ _ _ v K=>K v) (fun v K=>K v) (fun _ _ _ v K=>K v) (fun v K=>K v) (fun _ _ v K=>K v) (fun _ _ v K=>K v) (fun v K=>K v) () (fun _ _ _ _=>()) () (fun _ _ _ _=>()) v v K
def Zi (v:V) (K:V->Ah):XL v K=K v:=by
 cases v<;>first|rfl|skip
 .rename_i x;cases x<;>rfl
 .rename_i k n
  cases n with
  | ofNat m=>cases m<;>rfl
  | negSucc m=>cases m<;>rfl
def fin (o:Option (R×St)) (k kp:V->St->Ah):Ah:=match o with
 | some (.ret v,s)=>k v s
 | some (.BV v,s)=>kp v s
 | none=>none
def B7 (o:Option (R×St)) (k kp:V->St->Ah):Ah:=@Option.rec (R×St) (fun _=>(V->St->Ah)->(V->St->Ah)->Ah) (fun _ _=>none) (fun p k kp=>@R.rec (fun _=>St->(V->St->Ah)->(V->St->Ah)->Ah) (fun v s k _=>k v s) (fun v s _ kp=>kp v s) p.1 p.2 k kp) o k kp
def Bf (o:Option (R×St)) (k kp:V->St->Ah):B7 o k kp=fin o k kp:=by
 cases o with
 | none=>rfl
 | some p=>
   obtain⟨r,s⟩:=p;cases r<;>rfl
def Gd (o:Option V) (s:St) (k kp:V->St->Ah):fin (ov o s) k kp=ob o fun v=>k v s:=by cases o<;>rfl
def r7 (o:Option St) (k kp:V->St->Ah):fin (os o) k kp=ob o fun s=>k (.t []) s:=by cases o<;>rfl
def BH {α:Type} (o:Option α) (f:α->Option (R×St)) (k kp:V->St->Ah):fin (ob o f) k kp=ob o fun a=>fin (f a) k kp:=by cases o<;>rfl
abbrev OK:=CF->CV->CP->B8->St->(V->St->Ah)->(V->St->Ah)->Ah
def TK (e:B8) (ps:List (Nat×Nat×Bb)) (cs:List V) (K:List V->Ah):Ah:=@List.rec (Nat×Nat×Bb) (fun _=>List V->(List V->Ah)->Ah) (fun cs K=>K cs)
 (fun p _ ih cs K=>Bk p.2.2 e fun v=>Gg v fun vc=>@Bool.rec (fun _=>Ah) none (@Bool.rec (fun _=>Ah) none (ih (dc cs p.1 vc) K) (Nat.ble (Nat.add p.1 p.2.1) (Fp cs))) (Nat.beq (Fp vc) p.2.1)) ps cs K
def SM {e : B8} {env:Env} (he:IT e env): ∀(ps:List (Nat×Nat×Bb)) (cs:List V) (K:List V->Ah),TK e ps cs K=ob (Me env cs ps) K
 | [],cs,K=>rfl
 | (off, sz,x)::r,cs,K=>by
   show(Bk x e fun v=>Gg v fun vc=>@Bool.rec (fun _=>Ah) none (@Bool.rec (fun _=>Ah) none (TK e r (dc cs off vc) K) (Nat.ble (off+sz) (Fp cs))) (Nat.beq (Fp vc) sz))=_;rw[A8 he];simp only[Me];cases DG env x with
   | none=>rfl
   | some v=>
     simp only[ob];rw[HZ];cases cellsOf v with
     | none=>rfl
     | some vc=>
       simp only[ob,E2,OL];cases Nat.beq vc.length sz with
       | false=>rfl
       | true=>
         cases Nat.ble (off+sz) cs.length with
         | false=>rfl
         | true=>exact SM he r _ K
def TL (e:B8) (sz:Nat) (ps:List (Nat×Bb)) (es:List (List V)) (K:List (List V)->Ah):Ah:=@List.rec (Nat×Bb) (fun _=>List (List V)->(List (List V)->Ah)->Ah) (fun es K=>K es)
 (fun p _ ih es K=>Bk p.2 e fun v=>Gg v fun vc=>@Bool.rec (fun _=>Ah) none (@Bool.rec (fun _=>Ah) none (ih (XE es p.1 vc) K) (Nat.ble (Nat.succ p.1) (Fp es))) (Nat.beq (Fp vc) sz)) ps es K
def SO {e : B8} {env:Env} (he:IT e env) (sz:Nat): ∀(ps:List (Nat×Bb)) (es:List (List V)) (K:List (List V)->Ah),TL e sz ps es K=ob (Mf env sz es ps) K
 | [],es,K=>rfl
 | (i, x)::r,es,K=>by
   show(Bk x e fun v=>Gg v fun vc=>@Bool.rec (fun _=>Ah) none (@Bool.rec (fun _=>Ah) none (TL e sz r (XE es i vc) K) (Nat.ble (Nat.succ i) (Fp es))) (Nat.beq (Fp vc) sz))=_;rw[A8 he];simp only[Mf];cases DG env x with
   | none=>rfl
   | some v=>
     simp only[ob];rw[HZ];cases cellsOf v with
     | none=>rfl
     | some vc=>
       simp only[ob,E2,Tb,Nat.blt,Nat.succ_eq_add_one];cases Nat.beq vc.length sz with
       | false=>rfl
       | true=>
         cases Nat.ble (i+1) es.length with
         | false=>rfl
         | true=>exact SO he sz r _ K
def xm (o:FU):OK:=@FU.rec (fun _=>OK)
 (fun x cf cv cp env s kk kp=>Bk x env fun v=>kk v s)
 (fun x cf cv cp env s kk kp=>Bk x env fun v=>kk v s)
 (fun c a b cf cv cp env s kk kp=>Bk c env fun vc=>Bk a env fun va=>Bk b env fun vb=>oP vc fun t=>@Bool.rec (fun _=>Ah) (kk vb s) (kk va s) t)
 (fun op x y cf cv cp env s kk kp=>Bk x env fun vx=>Bk y env fun vy=>k9 op vx vy fun v=>kk v s)
 (fun neg x y cf cv cp env s kk kp=>Bk x env fun vx=>Bk y env fun vy=>B7 (match vx,vy with| .b p,.b q=>some (.ret (.b (bif neg then p != q else p==q)),s)|_,_=>none) kk kp)
 (fun len neg x y cf cv cp env s kk kp=>Bk x env fun vx=>Bk y env fun vy=>B7 (ov (dt len neg vx vy) s) kk kp)
 (fun kind neg x cf cv cp env s kk kp=>Bk x env fun vx=>B7 (ov (dq kind neg vx) s) kk kp)
 (fun x cf cv cp env s kk kp=>Bk x env fun vx=>oP vx fun p=>kk (.b (Sw p)) s)
 (fun xor x cf cv cp env s kk kp=>Bk x env fun vx=>B7 (match vx with| .i ka a=>some (.ret (.i ka (bif xor then bits .xor ka (bif ka.signed then -1 else ka.max) a else ka.wrap (0 - a))),s)|_=>none) kk kp)
 (fun k x cf cv cp env s kk kp=>Bk x env fun vx=>B7 (match vx with| .i _ a=>some (.ret (.i k (H9 k a)),s)|_=>none) kk kp)
 (fun x cf cv cp env s kk kp=>Bk x env fun vx=>Gg vx fun cs=>dg s (.cs cs) fun i s=>kk (.p i 0) s)
 (fun x cf cv cp env s kk kp=>Bk x env fun vx=>Gg vx fun cs=>kk (.rp cs) s)
 (fun sz bytes x y cf cv cp env s kk kp=>Bk x env fun vx=>Bk y env fun vy=>B7 (ov (VC bytes s sz vx vy) s) kk kp)
 (fun zero cf cv cp env s kk kp=>B7 (bif B3 zero then s.new (.cs zero) fun i s=>some (.ret (.p i 0),s)else none) kk kp)
 (fun zero parts cf cv cp env s kk kp=>@Bool.rec (fun _=>Ah) none (TK env parts zero fun cs=>kk (.a cs) s) (B3 zero))
 (fun sz len zero parts cf cv cp env s kk kp=>@Bool.rec (fun _=>Ah) none (TL env (Fp zero) parts (List.replicate len zero) fun es=>kk (.l es true) s) (B3 zero))
 (fun agg x cf cv cp env s kk kp=>Bk x env fun vx=>eM s agg vx fun v=>kk v s)
 (fun sz a x cf cv cp env s kk kp=>Bk a env fun va=>Bk x env fun vx=>S6 s sz va vx fun s=>kk (.t []) s)
 (fun off x cf cv cp env s kk kp=>Bk x env fun vx=>Xh off vx fun v=>kk v s)
 (fun agg off x cf cv cp env s kk kp=>Bk x env fun vx=>asA vx fun cs=>XN agg cs off fun v=>kk v s)
 (fun sz arr x i cf cv cp env s kk kp=>Bk x env fun vx=>Bk i env fun vi=>Xf sz arr vx vi fun v=>kk v s)
 (fun len sz agg x i cf cv cp env s kk kp=>Bk x env fun vx=>Bk i env fun vi=>B7 (ov (PN len sz agg vx vi) s) kk kp)
 (fun sz x lo hi mx cf cv cp env s kk kp=>Bk x env fun vx=>XI lo env fun l=>XI hi env fun h=>XI mx env fun m=>B7 (aG (PM s sz vx l h m)) kk kp)
 (fun x cf cv cp env s kk kp=>Bk x env fun vx=>qE vx fun v=>kk v s)
 (fun x cf cv cp env s kk kp=>Bk x env fun vx=>B7 (ov (VA s vx) s) kk kp)
 (fun x cf cv cp env s kk kp=>Bk x env fun vx=>B7 (ov (dn s vx) s) kk kp)
 (fun x i cf cv cp env s kk kp=>Bk x env fun vx=>Bk i env fun vi=>B7 (ov (U9 vx vi) s) kk kp)
 (fun sz bytes x y cf cv cp env s kk kp=>Bk x env fun vx=>Bk y env fun vy=>B7 (aG (LQ bytes s sz vx vy)) kk kp)
 (fun sz x y cf cv cp env s kk kp=>Bk x env fun vx=>Bk y env fun vy=>B7 (aG (VB s sz vx vy)) kk kp)
 (fun x y cf cv cp env s kk kp=>Bk x env fun vx=>Bk y env fun vy=>B7 (match vx,vy with| .i ka a,.i kb b=>bif decide (ka=kb)then some (.ret (.i ka (bif MI a b then b else a)),s)else none|_,_=>none) kk kp)
 (fun x y cf cv cp env s kk kp=>Bk x env fun vx=>Bk y env fun vy=>B7 (match vx,vy with| .i ka a,.i kb b=>bif decide (ka=kb)then some (.ret (.i ka (bif MI b a then b else a)),s)else none|_,_=>none) kk kp)
 (fun i x cf cv cp env s kk kp=>Bk x env fun vx=>asT vx fun vs=>Sv vs i fun v=>kk v s)
 (fun x cf cv cp env s kk kp=>Bk x env fun vx=>XY vx fun v=>kk v s)
 (fun f first cap cf cv cp env s kk kp=>K0 first env fun vf=>K0 cap env fun vc=>@Bool.rec (fun _=>Ah) none (kk (.f f vf vc) s) (MT f))
 (fun cf cv cp env s kk kp=>B7 (s.new (.map []) fun i s=>some (.ret (.m i),s)) kk kp)
 (fun sz bytes zero len cap cf cv cp env s kk kp=>Bk len env fun vx=>Bk cap env fun vy=>B7 (aG (Iw s sz zero vx vy)) kk kp)
 (fun ks zero ok m k cf cv cp env s kk kp=>Bk m env fun vm=>Bk k env fun vk=>B7 (ov (LO s ks zero ok vm vk) s) kk kp)
 (fun ks m k v cf cv cp env s kk kp=>Bk m env fun vm=>Bk k env fun vk=>Bk v env fun vx=>B7 (os (LN s ks vm vk vx)) kk kp)
 (fun t x cf cv cp env s kk kp=>Bk x env fun vx=>kk (.Ee t vx) s)
 (fun t zero ok x cf cv cp env s kk kp=>Bk x env fun vx=>B7 (ov (dm t zero ok vx) s) kk kp)
 (fun x cf cv cp env s kk kp=>Bk x env fun vx=>B7 (match vx with| .Ee t v=>some (.BV (.Ee t v),s)|_=>none) kk kp)
 (fun f args cf cv cp env s kk kp=>K0 args env fun vs=>B7 (cf f vs s) kk kp)
 (fun f args cf cv cp env s kk kp=>K0 args env fun vs=>B7 (ov (cp f vs) s) kk kp)
 (fun x args cf cv cp env s kk kp=>Bk x env fun vx=>K0 args env fun vs=>B7 (cv vx vs s) kk kp)
 (fun x args cf cv cp env s kk kp=>none)
 (fun tab x args cf cv cp env s kk kp=>Bk x env fun vx=>K0 args env fun vs=>B7 (match vx with| .Ee t v=>ob (look t tab) fun f=>cf f (v::vs) s|_=>none) kk kp) o
def iW {vc va vb:V} {s:St} {kk kp:V->St->Ah}:oP vc (fun t=>@Bool.rec (fun _=>Ah) (kk vb s) (kk va s) t)=fin (match vc with| .b t=>some (.ret (bif t then va else vb),s)|_=>none) kk kp:=by
 cases vc<;>first|rfl|skip
 rename_i t;cases t<;>rfl
def not_eq {vx:V} {s:St} {kk kp:V->St->Ah}:oP vx (fun p=>kk (.b (Sw p)) s)=fin (match vx with| .b p=>some (.ret (.b (!p)),s)|_=>none) kk kp:=by
 cases vx<;>first|rfl|skip
 rename_i t;cases t<;>rfl
def Ty {c:Bool} {x:Option (R×St)} {kk kp:V->St->Ah}:fin (bif c then x else none) kk kp=bif c then fin x kk kp else none:=by cases c<;>rfl
def fJ {e:B8} {env:Env} (he:IT e env) (o:FU) (cf:CF) (cv:CV) (cp:CP) (s:St) (kk kp:V->St->Ah):xm o cf cv cp e s kk kp=fin (FT cf cv cp o env s) kk kp:=by
 cases o with
 | mv x=>
   show(Bk x e fun v=>kk v s)=_;simp only[A8 he,FT,Gd]
 | kL x=>
   show(Bk x e fun v=>kk v s)=_;simp only[A8 he,FT,Gd]
 | pick c a b=>
   show(Bk c e fun vc=>Bk a e fun va=>Bk b e fun vb=>oP vc fun t=>@Bool.rec (fun _=>Ah) (kk vb s) (kk va s) t)=_;simp only[A8 he,FT,BH,iW (kp:=kp)];rfl
 | bin op x y=>
   show(Bk x e fun vx=>Bk y e fun vy=>k9 op vx vy fun v=>kk v s)=_;simp only[A8 he,FT,BH,Gd,n6]
 | kR neg x y=>
   show(Bk x e fun vx=>Bk y e fun vy=>B7 (match vx,vy with| .b p,.b q=>some (.ret (.b (bif neg then p != q else p==q)),s)|_,_=>none) kk kp)=_;simp only[A8 he,Bg he,Bu he,FT,BH,Bf]
   try rfl
 | kQ len neg x y=>
   show(Bk x e fun vx=>Bk y e fun vy=>B7 (ov (dt len neg vx vy) s) kk kp)=_;simp only[A8 he,Bg he,Bu he,FT,BH,Bf]
   try rfl
 | dI kind neg x=>
   show(Bk x e fun vx=>B7 (ov (dq kind neg vx) s) kk kp)=_;simp only[A8 he,Bg he,Bu he,FT,BH,Bf]
   try rfl
 | not x=>
   show(Bk x e fun vx=>oP vx fun p=>kk (.b (Sw p)) s)=_;simp only[A8 he,FT,BH,not_eq (kp:=kp)];rfl
 | neg xor x=>
   show(Bk x e fun vx=>B7 (match vx with| .i ka a=>some (.ret (.i ka (bif xor then bits .xor ka (bif ka.signed then -1 else ka.max) a else ka.wrap (0 - a))),s)|_=>none) kk kp)=_;simp only[A8 he,Bg he,Bu he,FT,BH,Bf]
   try rfl
 | conv k x=>
   show(Bk x e fun vx=>B7 (match vx with| .i _ a=>some (.ret (.i k (H9 k a)),s)|_=>none) kk kp)=_;simp only[A8 he,Bg he,Bu he,FT,BH,Bf]
   try rfl
 | box x=>
   show(Bk x e fun vx=>Gg vx fun cs=>dg s (.cs cs) fun i s=>kk (.p i 0) s)=_;simp only[A8 he,FT,BH,HZ];congr 1;funext vx;congr 1;funext cs;have: ∀o:Option (R×St),fin o kk kp=ob o fun p=>fin (some p) kk kp:=fun o=>by cases o<;>rfl
   rw[this,mI];rfl
 | N3 x=>
   show(Bk x e fun vx=>Gg vx fun cs=>kk (.rp cs) s)=_;simp only[A8 he,FT,BH,HZ];rfl
 | Q3 sz bytes x y=>
   show(Bk x e fun vx=>Bk y e fun vy=>B7 (ov (VC bytes s sz vx vy) s) kk kp)=_;simp only[A8 he,Bg he,Bu he,FT,BH,Bf]
   try rfl
 | alloc zero=>
   show(B7 (bif B3 zero then s.new (.cs zero) fun i s=>some (.ret (.p i 0),s)else none) kk kp)=_;simp only[Bf,FT]
 | build zero parts=>
   show(@Bool.rec (fun _=>Ah) none (TK e parts zero fun cs=>kk (.a cs) s) (B3 zero))=_;simp only[FT,Ty,BH,SM he,BF];rfl
 | Gj sz len zero parts=>
   show(@Bool.rec (fun _=>Ah) none (TL e (Fp zero) parts (List.replicate len zero) fun es=>kk (.l es true) s) (B3 zero))=_;simp only[FT,Ty,BH,SO he,BF,E2];rfl
 | load agg x=>
   show(Bk x e fun vx=>eM s agg vx fun v=>kk v s)=_;simp only[A8 he,FT,BH,Gd,jA]
 | store sz a x=>
   show(Bk a e fun va=>Bk x e fun vx=>S6 s sz va vx fun s=>kk (.t []) s)=_;simp only[A8 he,FT,BH,r7,az]
 | FW off x=>
   show(Bk x e fun vx=>Xh off vx fun v=>kk v s)=_;simp only[A8 he,FT,BH,Gd,cL]
 | field agg off x=>
   show(Bk x e fun vx=>asA vx fun cs=>XN agg cs off fun v=>kk v s)=_;simp only[A8 he,FT,BH];congr 1;funext vx;cases vx<;>first|rfl|skip
   show XN agg _ off _=_;rw[OV,Gd]
 | K4 sz arr x i=>
   show(Bk x e fun vx=>Bk i e fun vi=>Xf sz arr vx vi fun v=>kk v s)=_;simp only[A8 he,FT,BH,Gd,bq]
 | index len sz agg x i=>
   show(Bk x e fun vx=>Bk i e fun vi=>B7 (ov (PN len sz agg vx vi) s) kk kp)=_;simp only[A8 he,Bg he,Bu he,FT,BH,Bf]
   try rfl
 | slice sz x lo hi mx=>
   show(Bk x e fun vx=>XI lo e fun l=>XI hi e fun h=>XI mx e fun m=>B7 (aG (PM s sz vx l h m)) kk kp)=_;simp only[A8 he,Bg he,Bu he,FT,BH,Bf]
   try rfl
 | len x=>
   show(Bk x e fun vx=>qE vx fun v=>kk v s)=_;simp only[A8 he,FT,BH,Gd,mQ]
 | Sx x=>
   show(Bk x e fun vx=>B7 (ov (VA s vx) s) kk kp)=_;simp only[A8 he,Bg he,Bu he,FT,BH,Bf]
   try rfl
 | str x=>
   show(Bk x e fun vx=>B7 (ov (dn s vx) s) kk kp)=_;simp only[A8 he,Bg he,Bu he,FT,BH,Bf]
   try rfl
 | UT x i=>
   show(Bk x e fun vx=>Bk i e fun vi=>B7 (ov (U9 vx vi) s) kk kp)=_;simp only[A8 he,Bg he,Bu he,FT,BH,Bf]
   try rfl
 | append sz bytes x y=>
   show(Bk x e fun vx=>Bk y e fun vy=>B7 (aG (LQ bytes s sz vx vy)) kk kp)=_;simp only[A8 he,Bg he,Bu he,FT,BH,Bf]
   try rfl
 | copy sz x y=>
   show(Bk x e fun vx=>Bk y e fun vy=>B7 (aG (VB s sz vx vy)) kk kp)=_;simp only[A8 he,Bg he,Bu he,FT,BH,Bf]
   try rfl
 | UY x y=>
   show(Bk x e fun vx=>Bk y e fun vy=>B7 (match vx,vy with| .i ka a,.i kb b=>bif decide (ka=kb)then some (.ret (.i ka (bif MI a b then b else a)),s)else none|_,_=>none) kk kp)=_;simp only[A8 he,Bg he,Bu he,FT,BH,Bf]
   try rfl
 | UX x y=>
   show(Bk x e fun vx=>Bk y e fun vy=>B7 (match vx,vy with| .i ka a,.i kb b=>bif decide (ka=kb)then some (.ret (.i ka (bif MI b a then b else a)),s)else none|_,_=>none) kk kp)=_;simp only[A8 he,Bg he,Bu he,FT,BH,Bf]
   try rfl
 | extract i x=>
   show(Bk x e fun vx=>asT vx fun vs=>Sv vs i fun v=>kk v s)=_;simp only[A8 he,FT,BH];congr 1;funext vx;cases vx<;>first|rfl|skip
   show Sv _ i _=_;rw[LG,Gd]
 | IB x=>
   show(Bk x e fun vx=>XY vx fun v=>kk v s)=_;simp only[A8 he,FT,BH,Gd,bY]
 | dF f first cap=>
   show(K0 first e fun vf=>K0 cap e fun vc=>@Bool.rec (fun _=>Ah) none (kk (.f f vf vc) s) (MT f))=_;simp only[Bg he,FT,Ty,BH,BF];rfl
 | NQ=>
   show(B7 (s.new (.map []) fun i s=>some (.ret (.m i),s)) kk kp)=_;simp only[Bf,FT]
 | Fb sz bytes zero len cap=>
   show(Bk len e fun vx=>Bk cap e fun vy=>B7 (aG (Iw s sz zero vx vy)) kk kp)=_;simp only[A8 he,Bg he,Bu he,FT,BH,Bf]
   try rfl
 | lookup ks zero ok m k=>
   show(Bk m e fun vm=>Bk k e fun vk=>B7 (ov (LO s ks zero ok vm vk) s) kk kp)=_;simp only[A8 he,Bg he,Bu he,FT,BH,Bf]
   try rfl
 | D0 ks m k v=>
   show(Bk m e fun vm=>Bk k e fun vk=>Bk v e fun vx=>B7 (os (LN s ks vm vk vx)) kk kp)=_;simp only[A8 he,Bg he,Bu he,FT,BH,Bf]
   try rfl
 | NR t x=>
   show(Bk x e fun vx=>kk (.Ee t vx) s)=_;simp only[A8 he,FT,BH];rfl
 | dD t zero ok x=>
   show(Bk x e fun vx=>B7 (ov (dm t zero ok vx) s) kk kp)=_;simp only[A8 he,Bg he,Bu he,FT,BH,Bf]
   try rfl
 | panic x=>
   show(Bk x e fun vx=>B7 (match vx with| .Ee t v=>some (.BV (.Ee t v),s)|_=>none) kk kp)=_;simp only[A8 he,Bg he,Bu he,FT,BH,Bf]
   try rfl
 | call f args=>
   show(K0 args e fun vs=>B7 (cf f vs s) kk kp)=_;simp only[A8 he,Bg he,Bu he,FT,BH,Bf]
   try rfl
 | K7 f args=>
   show(K0 args e fun vs=>B7 (ov (cp f vs) s) kk kp)=_;simp only[A8 he,Bg he,Bu he,FT,BH,Bf]
   try rfl
 | Ii x args=>
   show(Bk x e fun vx=>K0 args e fun vs=>B7 (cv vx vs s) kk kp)=_;simp only[A8 he,Bg he,Bu he,FT,BH,Bf]
   try rfl
 | Xm x args=>
   rfl
 | inv tab x args=>
   show(Bk x e fun vx=>K0 args e fun vs=>B7 (match vx with| .Ee t v=>ob (look t tab) fun f=>cf f (v::vs) s|_=>none) kk kp)=_;simp only[A8 he,Bg he,Bu he,FT,BH,Bf]
   try rfl
def qJ (g:Bool) (t:Bool) (y:Ah) (n:Ah):Ah:=@Bool.rec (fun _=>Ah) (@Bool.rec (fun _=>Ah) y n g) (@Bool.rec (fun _=>Ah) n y g) t
def ml (g t:Bool) (y n:Ah):qJ g t y n=bif t==g then y else n:=by cases g<;>cases t<;>rfl
def vZ (v:V) (g:Bool) (y:Ah) (n:Ah):Ah:=@V.rec (fun _=>Bool->Ah->Ah->Ah) (fun _=>Unit) (fun _=>Unit) (fun t g y n=>qJ g t y n) (fun _ _ g y n=>none) (fun _ g y n=>none) (fun g y n=>none) (fun _ _ g y n=>none) (fun _ _ g y n=>none) (fun _ _ _ g y n=>none) (fun _ _ _ g y n=>none) (fun _ _ _ _ g y n=>none) (fun _ _ _ _ g y n=>none) (fun _ g y n=>none) (fun g y n=>none) (fun _ _ _ _ _ g y n=>none) (fun g y n=>none) (fun _ _ _ g y n=>none) (fun g y n=>none) (fun _ _ g y n=>none) (fun vs _ g y n=>@List.rec V (fun _=>Ah->Ah) (fun n=>n) (fun _ _ _ _=>none) vs n) (fun g y n=>none) () (fun _ _ _ _=>()) () (fun _ _ _ _=>()) v g y n
def yd (g:Nat×Bool) (o:FU):OK:=fun cf cv cp e s kk kp=>Bk (.t g.1) e fun v=>vZ v g.2 (xm o cf cv cp e s kk kp) (kk (.t []) s)
def XD (g:Option (Nat×Bool)) (o:FU):OK:=@Option.rec (Nat×Bool) (fun _=>FU->OK) (fun o=>xm o) (fun g o=>yd g o) g o
def TX {e:B8} {env:Env} (he:IT e env) (d:Option Nat) (g:Option (Nat×Bool)) (o:FU) (cf:CF) (cv:CV) (cp:CP) (s:St) (kk kp:V->St->Ah):XD g o cf cv cp e s kk kp=fin (IS cf cv cp ⟨d,o,g⟩ env s) kk kp:=by
 cases g with
 | none=>exact fJ he o cf cv cp s kk kp
 | some g=>
   obtain⟨g,b⟩:=g;show(Bk (.t g) e fun v=>vZ v b (xm o cf cv cp e s kk kp) (kk (.t []) s))=_;rw[A8 he,fJ he];simp only[IS,DG];cases get g env with
   | none=>rfl
   | some v=>
     simp only[ob];cases v<;>first|rfl|skip
     .rename_i t
      show qJ b t _ _=_;rw[ml];simp only;cases t==b<;>rfl
     .rename_i vs
      cases vs<;>rfl
def NP (d:Option Nat) (v:V) (e:B8):B8:=@Option.rec Nat (fun _=>V->B8->B8) (fun _ e=>e) (fun d v e=>⟨Nat.lor e.1 (Nat.shiftLeft 1 d),(d,v)::e.2⟩) d v e
def J8 (M n:Nat):OE M n=M.testBit n:=by
 have h1:(M >>> n)&&&1=(M >>> n) % 2:=Nat.and_one_is_mod _;have h2:OE M n=Nat.beq ((M >>> n)&&&1) 1:=rfl;rw[h2,h1,Nat.testBit_eq_decide_div_mod_eq,Nat.shiftRight_eq_div_pow];cases h:decide (M / 2 ^ n % 2=1)with
 | true=>rw[of_decide_eq_true h];rfl
 | false=>
   have:=of_decide_eq_false h;cases hb:Nat.beq (M / 2 ^ n % 2) 1 with
   | false=>rfl
   | true=>exact absurd (UJ hb) this
def PU (M d n:Nat):OE (Nat.lor M (Nat.shiftLeft 1 d)) n=(OE M n||Nat.beq d n):=by
 rw[J8,J8];show(M|||1 <<< d).testBit n=_;rw[Nat.testBit_or,Nat.one_shiftLeft,Nat.testBit_two_pow];congr 1;cases hb:Nat.beq d n with
 | true=>simp[UJ hb]
 | false=>simpa using Nat.ne_of_beq_eq_false hb
def IT.push {e:B8} {env:Env} (he:IT e env) (d:Option Nat) (v:V):IT (NP d v e) (put d v env):=by
 cases d with
 | none=>exact he
 | some d=>
   intro n;show(bif OE (Nat.lor e.1 (Nat.shiftLeft 1 d)) n then(bif Nat.beq d n then some v else get n e.2)else none)=bif Nat.beq d n then some v else get n env;rw[PU,<-he n,S1];cases Nat.beq d n<;>cases OE e.1 n<;>rfl
def df (ops:List Am) (cf:CF) (cv:CV) (cp:CP) (env:B8) (s:St):Ah:=@List.rec Am (fun _=>CF->CV->CP->B8->St->Ah) (fun _ _ _ env s=>some (.normal,env,s))
 (fun o _ ih cf cv cp env s=>XD o.3 o.2 cf cv cp env s (fun v s=>XL v fun v=>ih cf cv cp (NP o.1 v env) s) (fun v s=>some (.BV v,env,s))) ops cf cv cp env s
def GD:Ah->Rs->Prop
 | some (x,e,s),some (x',env,s')=>x=x'/\s=s'/\IT e env
 | none,none=>True
 | _,_=>False
def ZR (cf:CF) (cv:CV) (cp:CP): ∀(ops:List Am) {e:B8} {env:Env} (s:St),IT e env->GD (df ops cf cv cp e s) (Uh cf cv cp ops env s)
 | [],e,env,s,he=>⟨rfl,rfl,he⟩
 | o ::r,e,env,s,he=>by
   show GD (XD o.3 o.2 cf cv cp e s (fun v s=>XL v fun v=>df r cf cv cp (NP o.1 v e) s) (fun v s=>some (.BV v,e,s))) _;rw[TX he o.1];show GD (fin (IS cf cv cp o env s) _ _) _;simp only[Uh];cases IS cf cv cp o env s with
   | none=>trivial
   | some p=>
     obtain⟨x,s'⟩:=p;cases x with
     | BV v=>exact⟨rfl,rfl,he⟩
     | ret v=>
       show GD (XL v fun v=>df r cf cv cp (NP o.1 v e) s') (Hm v _);rw[Zi,HX];exact ZR cf cv cp r s' (he.push o.1 v)
def uo (re:List Am) (cf:CF) (cv:CV) (cp:CP) (e:B8) (s:St) (K:Ah):Ah:=@List.rec Am (fun _=>CF->CV->CP->B8->St->Ah->Ah) (fun _ _ _ _ _ K=>K)
 (fun o _ ih cf cv cp e s K=>XD o.3 o.2 cf cv cp e s (fun u _=>@Option.rec Nat (fun _=>Ah) (ih cf cv cp e s K) (fun d=>Bk (.t d) e fun w=>@Bool.rec (fun _=>Ah) none (ih cf cv cp e s K) (EI u w)) o.1) (fun _ _=>none)) re cf cv cp e s K
def fF (cf:CF) (cv:CV) (cp:CP) {e:B8} {env:Env} (he:IT e env) (s:St) (K:Ah): ∀re:List Am,uo re cf cv cp e s K=bif kF cf cv cp re env s then K else none
 | []=>rfl
 | o ::r=>by
   show XD o.3 o.2 cf cv cp e s (fun u _=>@Option.rec Nat (fun _=>Ah) (uo r cf cv cp e s K) (fun d=>Bk (.t d) e fun w=>@Bool.rec (fun _=>Ah) none (uo r cf cv cp e s K) (EI u w)) o.1) (fun _ _=>none)=_;rw[TX he o.1,fF cf cv cp he s K r]
   have h':kF cf cv cp (o::r) env s=((match IS cf cv cp o env s with
    | some (.ret u,_)=>match o.dst with
      | none=>true
      | some d=>match get d env with|some w=>EI u w|none=>false
    | _=>false)&&kF cf cv cp r env s):=rfl
   rw[h'];show fin (IS cf cv cp o env s) _ _=_;cases IS cf cv cp o env s with
   | none=>rfl
   | some p=>
     obtain⟨x,s'⟩:=p;cases x with
     | BV v=>rfl
     | ret u=>
       obtain⟨d,op,g⟩:=o;cases d with
       | none=>simp only[fin,Ed]
       | some d=>
         simp only[fin];rw[A8 he];simp only[DG];cases get d env with
         | none=>rfl
         | some w=>
           simp only[ob];cases EI u w<;>simp
def VE (ops:List CS) (cf:CF) (cv:CV) (cp:CP) (e:B8) (s:St):Ah:=@List.rec CS (fun _=>CF->CV->CP->B8->St->Ah) (fun _ _ _ e s=>some (.normal,e,s))
 (fun d _ ih cf cv cp e s=>XD d.2.3 d.2.2 cf cv cp e s (fun v s=>XL v fun v=>(fun e=>uo d.4 cf cv cp e s (ih cf cv cp e s)) (NP d.2.1 v e)) (fun v s=>some (.BV v,⟨0,[]⟩,s))) ops cf cv cp e s
def IT.nil {M:Nat}:IT ⟨M,[]⟩ []:=fun n=>by
 show(bif OE M n then none else none)=none;cases OE M n<;>rfl
def V7 (cf:CF) (cv:CV) (cp:CP): ∀(ops:List CS) {e:B8} {env:Env} (s:St),IT e env->GD (VE ops cf cv cp e s) (RT cf cv cp ops env s)
 | [],e,env,s,he=>⟨rfl,rfl,he⟩
 | d ::r,e,env,s,he=>by
   show GD (XD d.2.3 d.2.2 cf cv cp e s (fun v s=>XL v fun v=>(fun e=>uo d.4 cf cv cp e s (VE r cf cv cp e s)) (NP d.2.1 v e)) (fun v s=>some (.BV v,⟨0,[]⟩,s))) _;rw[TX he d.2.1];show GD (fin (IS cf cv cp d.o env s) _ _) _;simp only[RT];cases IS cf cv cp d.o env s with
   | none=>trivial
   | some p=>
     obtain⟨x,s'⟩:=p;cases x with
     | BV v=>exact⟨rfl,rfl,IT.nil⟩
     | ret v=>
       show GD (XL v fun v=>uo d.4 cf cv cp (NP d.2.1 v e) s' (VE r cf cv cp (NP d.2.1 v e) s')) (Hm v _);rw[Zi,HX,fF cf cv cp (he.push d.2.1 v)];show GD (bif kF cf cv cp d.re (put d.o.dst v env) s' then _ else none) (bif kF cf cv cp d.re (put d.o.dst v env) s' then _ else none);cases kF cf cv cp d.re (put d.o.dst v env) s' with
       | false=>trivial
       | true=>exact V7 cf cv cp r s' (he.push d.2.1 v)
def RN (l:List Nat):Nat:=@List.rec Nat (fun _=>Nat) 0 (fun n _ ih=>Nat.lor ih (Nat.shiftLeft 1 n)) l
def MU (l:List Nat) (e:B8):B8:=⟨Nat.land e.1 (RN l),e.2⟩
def VK: ∀(l:List Nat) (n:Nat),OE (RN l) n=l.any fun k=>Nat.beq k n
 | [],n=>by rw[J8];exact Nat.zero_testBit n
 | k::r,n=>by
   show OE (Nat.lor (RN r) (Nat.shiftLeft 1 k)) n=_;rw[PU,VK r n,Qj,Bool.or_comm]
def L9: ∀(l:List Nat) (env:Env) (n:Nat),get n (prune l env)=bif l.any (fun k=>Nat.beq k n)then get n env else none
 | [],env,n=>rfl
 | k ::r,env,n=>by
   have ih:=L9 r env n;simp only[prune,Qj];cases hk:Nat.beq k n with
   | true=>
     have:=UJ hk;subst this;cases hg:get k env with
     | none=>
       simp only;rw[ih,hg];cases(r.any fun j=>Nat.beq j k)<;>rfl
     | some v=>simp[get,hk]
   | false=>
     simp only[Bool.false_or];cases hg:get k env with
     | none=>exact ih
     | some v=>
       simp only[get,hk,cond_false];exact ih
def IT.prune {e:B8} {env:Env} (he:IT e env) (l:List Nat):IT (MU l e) (Gl.prune l env):=fun n=>by
 show(bif OE (Nat.land e.1 (RN l)) n then get n e.2 else none)=_
 have:OE (Nat.land e.1 (RN l)) n=(OE e.1 n&&OE (RN l) n):=by
  rw[J8,J8,J8];exact Nat.testBit_and _ _ _
 rw[this,L9,<-he n,S1,VK];cases OE e.1 n<;>cases(l.any fun k=>Nat.beq k n)<;>rfl
def Ua (l:List Nat) (e:B8) (K:Env->Ah):Ah:=@List.rec Nat (fun _=>B8->(Env->Ah)->Ah) (fun _ K=>K [])
 (fun n _ ih e K=>@Bool.rec (fun _=>Ah) (ih e K) (@List.rec (Nat×V) (fun _=>Nat->Ah->(V->Ah)->Ah) (fun _ x _=>x) (fun p _ ih n x K=>@Bool.rec (fun _=>Ah) (ih n x K) (K p.2) (Nat.beq p.1 n)) e.2 n (ih e K) (fun v=>ih e fun r=>K ((n,v)::r))) (OE e.1 n)) l e K
def lS (env:Env) (n:Nat) (x:Ah) (K:V->Ah): @List.rec (Nat×V) (fun _=>Nat->Ah->(V->Ah)->Ah) (fun _ x _=>x) (fun p _ ih n x K=>@Bool.rec (fun _=>Ah) (ih n x K) (K p.2) (Nat.beq p.1 n)) env n x K=match get n env with|some v=>K v|none=>x:=by
 induction env with
 | nil=>rfl
 | cons p r ih=>
   obtain⟨j,v⟩:=p;show @Bool.rec (fun _=>Ah) _ (K v) (Nat.beq j n)=match(bif Nat.beq j n then some v else get n r)with|some v=>K v|none=>x
   cases Nat.beq j n
   .exact ih
   .rfl
def OO {e:B8} {env:Env} (he:IT e env): ∀(l:List Nat) (K:Env->Ah),Ua l e K=K (Gl.prune l env)
 | [],K=>rfl
 | n ::r,K=>by
   show @Bool.rec (fun _=>Ah) (Ua r e K) (@List.rec (Nat×V) (fun _=>Nat->Ah->(V->Ah)->Ah) (fun _ x _=>x) (fun p _ ih n x K=>@Bool.rec (fun _=>Ah) (ih n x K) (K p.2) (Nat.beq p.1 n)) e.2 n (Ua r e K) (fun v=>Ua r e fun r=>K ((n,v)::r))) (OE e.1 n)=_;rw[lS,OO he r];simp only[OO he r,Gl.prune];rw[<-he n,S1];cases OE e.1 n with
   | false=>rfl
   | true=>
     simp only[cond_true];cases get n e.2<;>rfl
def IC (env:Env):Nat:=@List.rec (Nat×V) (fun _=>Nat) 0 (fun p _ ih=>Nat.lor ih (Nat.shiftLeft 1 p.1)) env
def Rc: ∀(env:Env) (n:Nat),OE (IC env) n=(get n env).isSome
 | [],n=>by rw[J8];exact Nat.zero_testBit n
 | (k,v)::r,n=>by
   show OE (Nat.lor (IC r) (Nat.shiftLeft 1 k)) n=_;rw[PU,Rc r n];simp only[get];cases Nat.beq k n<;>simp
def IT.of (env:Env):IT ⟨IC env,env⟩ env:=fun n=>by
 show(bif OE (IC env) n then get n env else none)=_;rw[Rc];cases get n env<;>rfl
abbrev IH:=AU->B8->St->Ah
def RH (r:Ah) (K:B8->St->Ah):Ah:=@Option.rec (Ab×B8×St) (fun _=>(B8->St->Ah)->Ah) (fun _=>none) (fun p K=>@Ab.rec (fun _=>B8->St->(Ab×B8×St)->(B8->St->Ah)->Ah) (fun env s _ K=>K env s) (fun _ _ _ p _=>some p) (fun _ _ p _=>some p) (fun _ _ _ p _=>some p) p.1 p.2.1 p.2.2 p K) r K
def wT (r:Rs) (K':Env->St->Rs):Rs:=match r with|some (.normal,env,s)=>K' env s|r=>r
def Ms {r:Ah} {r':Rs} (h:GD r r') {K:B8->St->Ah} {K':Env->St->Rs} (U: ∀e env s,IT e env->GD (K e s) (K' env s)):GD (RH r K) (wT r' K'):=by
 cases r with
 | none=>cases r' with|none=>trivial|some p=>exact h.elim
 | some p=>
   cases r' with
   | none=>exact h.elim
   | some p'=>
     obtain⟨x,e,s⟩:=p;obtain⟨x',env,s'⟩:=p';obtain⟨rfl,rfl,he⟩:=h;cases x with
     | normal=>exact U e env s he
     | exit id=>exact⟨rfl,rfl,he⟩
     | ret=>exact⟨rfl,rfl,he⟩
     | BV v=>exact⟨rfl,rfl,he⟩
def On (s:St) (e:B8):List RS->Option (List V)
 | []=>some []
 | .t n::r=>ob (S1 e n) fun v=>ob (On s e r) fun vs=>some (v::vs)
 | .c n g::r=>ob (S1 e n) fun a=>ob (NU s g a) fun v=>ob (On s e r) fun vs=>some (v::vs)
def Yw (AF:List RS) (r:Ah):Option (R×St):=
 match r with
 | some (.normal,env,s)=>ob (On s env AF) fun vs=>some (.ret (EH vs),s)
 | some (.ret,env,s)=>ob (On s env AF) fun vs=>some (.ret (EH vs),s)
 | some (.BV v,_,s)=>some (.BV v,s)
 | _=>none
def U8 (tab:Jh) (ih:IH) (g:FuncId) (cap:List V) (m:Option V) (AF:List RS) (env:B8) (s:St):Option (R×St):=
 match tab g with
 | some (.uq n k ops ac l)=>bif Nat.ble cap.length n then
  match ih (.seq l (.Cl ops) ac) ⟨IC (put (some k) (m.getD .DT) (Az 0 cap)),put (some k) (m.getD .DT) (Az 0 cap)⟩ s with
  | some (.normal,_,s')=>ob (On s' env AF) fun vs=>some (.ret (EH vs),s')
  | some (.ret,_,s')=>ob (On s' env AF) fun vs=>some (.ret (EH vs),s')
  | _=>none
   else none
 | some (.xl n ac)=>match m with
   | some _=>none
   | none=>bif Nat.ble cap.length n then
     match ih ac ⟨IC (Az 0 cap),Az 0 cap⟩ s with
     | some (.normal,_,s')=>ob (On s' env AF) fun vs=>some (.ret (EH vs),s')
     | some (.ret,_,s')=>ob (On s' env AF) fun vs=>some (.ret (EH vs),s')
     | _=>none
   else none
 | _=>none
def TP (tab:Jh) (ih:IH) (f:FuncId) (vs:List V) (s:St):Option (R×St):=
 match tab f with
 | some (.fn n ac AF)=>bif Nat.ble vs.length n then Yw AF (ih ac ⟨IC (Az 0 vs),Az 0 vs⟩ s)else none
 | some (.uz n aA ops x aC AF l1 l2)=>bif Nat.ble vs.length n then
  match ih (.seq l1 aA (.Cl ops)) ⟨IC (Az 0 vs),Az 0 vs⟩ s with
  | some (.normal,env,s1)=>match(match x with| .t n=>S1 env n| .c v=>bif BC v then some v else none)with
    | some (.f (.func g) [] cap)=>match ih aC (MU l2 env) s1 with
      | some (.normal,env2,s2)=>U8 tab ih g cap none AF env2 s2
      | some (.ret,env2,s2)=>U8 tab ih g cap none AF env2 s2
      | some (.BV v,env2,s2)=>U8 tab ih g cap (some v) AF env2 s2
      | _=>none
    | _=>none
  | _=>none
   else none
 | some (.vH n ac AF)=>bif Nat.ble vs.length n then qK (Yw AF (ih ac ⟨IC (Az 0 vs),Az 0 vs⟩ s))else none
 | some (.aR c)=>c vs s
 | _=>none
def E5 (tab:Jh) (memo:Ef) (ih:IH):CF:=fun f vs s=>
 match memo f with
 | []=>TP tab ih f vs s
 | m::r=>match U5 vs (m::r)with
   | some v=>some (.ret v,s)
   | none=>TP tab ih f vs s
def JB (tab:Jh) (memo:Ef) (ih:IH):CV:=fun x vs s=>
 match x with
 | .f (.func f) first cap=>E5 tab memo ih f (first++vs++cap) s
 | .f (.yield L) [] []=>match s.t.get L with
   | some (.loop .ready env ps a b)=>bif Nat.beq vs.length ps.length then
    Tr.put none A3 s.t L fun t=>match ih a ⟨IC (D4 ps vs env),D4 ps vs env⟩ ⟨s.nx,t⟩with
    | some (.normal,env1,s1)=>match ih b env1 s1 with
      | some (.normal,_,s2)=>Tr.put (some (.loop .ready env ps a b)) A3 s2.t L fun t=>some (.ret (.b true),⟨s2.nx,t⟩)
      | some (.ret,_,s2)=>Tr.put (some (.loop .ret env ps a b)) A3 s2.t L fun t=>some (.ret (.b false),⟨s2.nx,t⟩)
      | some (.exit id,_,s2)=>Tr.put (some (.loop (.exit id) env ps a b)) A3 s2.t L fun t=>some (.ret (.b false),⟨s2.nx,t⟩)
      | some (.BV v,_,s2)=>some (.BV v,s2)
      | none=>none
    | _=>none
     else none
   | _=>none
 | _=>none
def KH (tab:Jh) (memo:Ef) (ih:IH):CP:=fun f vs=>
 bif B3 vs then match E5 tab memo ih f vs ⟨0,.leaf⟩with
  | some (.ret v,s)=>match He s Uf v with
    | some u=>bif BC u then some u else none
    | none=>none
  | _=>none
 else none
abbrev SK:=Jh->Ef->IH->B8->St->Ah
def fB (c : AU):SK:=@AU.rec (fun _=>SK)
 (fun _ _ _ env s=>some (.normal,env,s))
 (fun ops tab memo ih env s=>df ops (E5 tab memo ih) (JB tab memo ih) (KH tab memo ih) env s)
 (fun l ops tab memo ih env s=>RH (VE ops (E5 tab memo ih) (JB tab memo ih) (KH tab memo ih) env s) fun env s=>some (.normal,MU l env,s))
 (fun l a b _ _ _ _ ih env s=>RH (ih a env s) fun env s=>ih b (MU l env) s)
 (fun c a b _ _ _ _ ih env s=>Bk c env fun v=>oP v fun t=>@Bool.rec (fun _=>Ah) (ih b env s) (ih a env s) t)
 (fun id a _ tab memo ih env s=>match ih a env s with
  | some (.exit id',env',s')=>bif Nat.beq id' id then some (.normal,env',s')else some (.exit id',env',s')
  | r=>r)
 (fun l a _ _ _ ih env s=>Ua l env fun E=>RH (ih a ⟨IC E,E⟩ s) fun env s=>ih (.loop l a) env s)
 (fun id _ _ _ env s=>some (.exit id,env,s))
 (fun _ _ _ env s=>some (.ret,env,s))
 (fun a _ _ _ ih env s=>ih a env s)
 (fun l g ps a b _ _ tab memo ih env s=>Bk g env fun v=>match v with
  | .f (.func gf) [] cap=>Ua l env fun E=>s.new (.loop .ready E ps a b) fun i s1=>
   match E5 tab memo ih gf (.f (.yield i) [] []::cap) s1 with
   | some (.ret _,s2)=>match s2.t.get i with
     | some (.loop st _ _ _ _)=>Tr.put none A3 s2.t i fun t=>some ((match st with| .ready=> .normal| .ret=> .ret| .exit id=> .exit id),env,⟨s2.nx,t⟩)
     | _=>none
   | some (.BV v,s2)=>match s2.t.get i with
     | some _=>Tr.put none A3 s2.t i fun t=>some (.BV v,env,⟨s2.nx,t⟩)
     | none=>none
   | none=>none
  | _=>none) c
def runK (tab:Jh) (memo:Ef) (n:Nat):IH:=@Nat.rec (fun _=>IH) (fun _ _ _=>none) (fun _ ih c env s=>fB c tab memo ih env s) n
def XV (ihm:IH) (ih:AU->Env->St->Rs):Prop:= ∀c {e env} s,IT e env->GD (ihm c e s) (ih c env s)
def LM {s:St} {e:B8} {env:Env} (he:IT e env): ∀l:List RS,On s e l=Yj s env l
 | []=>rfl
 | .t n::r=>by simp only[On,Yj,he n,LM he r]
 | .c n g::r=>by simp only[On,Yj,he n,LM he r]
def V5 {AF:List RS} {r:Ah} {r':Rs} (h:GD r r'):Yw AF r=aX AF r':=by
 cases r with
 | none=>cases r' with|none=>rfl|some p=>exact h.elim
 | some p=>
   cases r' with
   | none=>exact h.elim
   | some p'=>
     obtain⟨x,e,s⟩:=p;obtain⟨x',env,s'⟩:=p';obtain⟨rfl,rfl,he⟩:=h;cases x<;>first|rfl|simp only[Yw,aX,LM he]
def jU {tab : Jh} {ihm:IH} {ih:AU->Env->St->Rs} (hi:XV ihm ih) {g:FuncId} {cap:List V} {m:Option V} {AF:List RS} {e:B8} {env:Env} (he:IT e env) (s:St):U8 tab ihm g cap m AF e s=XM tab ih g cap m AF env s:=by
 unfold U8 XM;cases tab g with
 | none=>rfl
 | some fs =>
   cases fs<;>first|rfl|skip
   .rename_i n k ops ac l
    simp only;have:=hi (.seq l (.Cl ops) ac) s (IT.of (put (some k) (m.getD .DT) (Az 0 cap)))
    revert this
    cases ihm (.seq l (.Cl ops) ac) _ s with
    | none=>cases ih (.seq l (.Cl ops) ac) _ s with|none=>intro _;rfl|some p=>intro h;exact h.elim
    | some p=>
      cases ih (.seq l (.Cl ops) ac) _ s with
      | none=>intro h;exact h.elim
      | some p'=>
        obtain⟨x,e1,s1⟩:=p;obtain⟨x',env1,s1'⟩:=p';rintro⟨rfl,rfl,he1⟩;cases x<;>simp only[LM he]
   .rename_i n ac
    cases m with
    | some v=>rfl
    | none=>
      simp only;have:=hi ac s (IT.of (Az 0 cap))
      revert this
      cases ihm ac _ s with
      | none=>cases ih ac _ s with|none=>intro _;rfl|some p=>intro h;exact h.elim
      | some p=>
        cases ih ac _ s with
        | none=>intro h;exact h.elim
        | some p'=>
          obtain⟨x,e1,s1⟩:=p;obtain⟨x',env1,s1'⟩:=p';rintro⟨rfl,rfl,he1⟩;cases x<;>simp only[LM he]
def cr {tab : Jh} {ihm:IH} {ih:AU->Env->St->Rs} (hi:XV ihm ih) (f:FuncId) (vs:List V) (s:St):TP tab ihm f vs s=RU tab ih f vs s:=by
 unfold TP RU;cases tab f with
 | none=>rfl
 | some fs =>
   cases fs with
   | uq n k ops ac l=>rfl
   | aR c=>rfl
   | xl n ac=>rfl
   | fn n ac AF=>simp only;rw[V5 (hi ac s (IT.of (Az 0 vs)))]
   | vH n ac AF=>simp only;rw[V5 (hi ac s (IT.of (Az 0 vs)))]
   | uz n aA ops x aC AF l1 l2=>
     simp only;have:=hi (.seq l1 aA (.Cl ops)) s (IT.of (Az 0 vs))
     revert this
     cases ihm (.seq l1 aA (.Cl ops)) _ s with
     | none=>cases ih (.seq l1 aA (.Cl ops)) _ s with|none=>intro _;rfl|some p=>intro h;exact h.elim
     | some p=>
       cases ih (.seq l1 aA (.Cl ops)) _ s with
       | none=>intro h;exact h.elim
       | some p'=>
         obtain⟨x1,e1,s1⟩:=p;obtain⟨x1',env1,s1'⟩:=p';rintro⟨rfl,rfl,he1⟩;cases x1<;>first|rfl|skip
         simp only;have hx:(match x with| .t n=>S1 e1 n| .c v=>bif BC v then some v else none)=DG env1 x:=by cases x<;>first|exact he1 _|rfl
         rw[hx];cases DG env1 x with
         | none=>rfl
         | some v=>
           cases v<;>first|rfl|skip
           rename_i fn first cap
           cases fn<;>first|rfl|skip
           cases first<;>first|rfl|skip
           simp only;have:=hi aC s1 (he1.prune l2)
           revert this
           cases ihm aC (MU l2 e1) s1 with
           | none=>cases ih aC (Gl.prune l2 env1) s1 with|none=>intro _;rfl|some p=>intro h;exact h.elim
           | some p=>
             cases ih aC (Gl.prune l2 env1) s1 with
             | none=>intro h;exact h.elim
             | some p'=>
               obtain⟨x2,e2,s2⟩:=p;obtain⟨x2',env2,s2'⟩:=p';rintro⟨rfl,rfl,he2⟩;cases x2<;>simp only[jU hi he2]
def F5 {tab:Jh} {memo:Ef} {ihm:IH} {ih:AU->Env->St->Rs} (hi:XV ihm ih):E5 tab memo ihm=Gi tab memo ih:=by
 funext f vs s;unfold E5 Gi;simp only[cr hi];rfl
def Qb {tab : Jh} {memo:Ef} {ihm:IH} {ih:AU->Env->St->Rs} (hi:XV ihm ih):JB tab memo ihm=Mg tab memo ih:=by
 funext x vs s;unfold JB Mg;rw[F5 hi];cases x<;>first|rfl|skip
 rename_i fn first cap
 cases fn<;>first|rfl|skip
 cases first<;>first|rfl|skip
 cases cap<;>first|rfl|skip
 rename_i L;simp only;cases s.t.get L with
 | none=>rfl
 | some o=>
   cases o<;>first|rfl|skip
   rename_i st env ps a b;cases st<;>first|rfl|skip
   simp only;congr 2;funext t;have:=hi a ⟨s.nx,t⟩ (IT.of (D4 ps vs env))
   revert this
   cases ihm a _ ⟨s.nx,t⟩with
   | none=>cases ih a _ ⟨s.nx,t⟩with|none=>intro _;rfl|some p=>intro h;exact h.elim
   | some p=>
     cases ih a _ ⟨s.nx,t⟩with
     | none=>intro h;exact h.elim
     | some p'=>
       obtain⟨x1,e1,s1⟩:=p;obtain⟨x1',env1,s1'⟩:=p';rintro⟨rfl,rfl,he1⟩;cases x1<;>first|rfl|skip
       simp only;have:=hi b s1 he1
       revert this
       cases ihm b e1 s1 with
       | none=>cases ih b env1 s1 with|none=>intro _;rfl|some p=>intro h;exact h.elim
       | some p=>
         cases ih b env1 s1 with
         | none=>intro h;exact h.elim
         | some p'=>
           obtain⟨x2,e2,s2⟩:=p;obtain⟨x2',env2,s2'⟩:=p';rintro⟨rfl,rfl,he2⟩;cases x2<;>rfl
def NC {tab:Jh} {memo:Ef} {ihm:IH} {ih:AU->Env->St->Rs} (hi:XV ihm ih):KH tab memo ihm=O9 tab memo ih:=by
 funext f vs;unfold KH O9;rw[F5 hi];rfl
def iA {tab : Jh} {memo:Ef} {ihm:IH} {ih:AU->Env->St->Rs} (hi:XV ihm ih) (c:AU) {e:B8} {env:Env} (s:St) (he:IT e env):GD (fB c tab memo ihm e s) (IE tab memo ih c env s):=by
 cases c with
 | skip=>exact⟨rfl,rfl,he⟩
 | ret=>exact⟨rfl,rfl,he⟩
 | exit id=>exact⟨rfl,rfl,he⟩
 | scope a=>exact hi a s he
 | Cl ops=>
   show GD (df ops (E5 tab memo ihm) (JB tab memo ihm) (KH tab memo ihm) e s) _;rw[F5 hi,Qb hi,NC hi];exact ZR _ _ _ ops s he
 | GX l ops=>
   show GD (RH (VE ops (E5 tab memo ihm) (JB tab memo ihm) (KH tab memo ihm) e s) fun env s=>some (.normal,MU l env,s)) _;rw[F5 hi,Qb hi,NC hi];exact Ms (K':=fun env s=>some (.normal,Gl.prune l env,s)) (V7 _ _ _ ops s he) fun _ _ s he=>⟨rfl,rfl,he.prune l⟩
 | seq l a b=>exact Ms (K':=fun env s=>ih b (Gl.prune l env) s) (hi a s he) fun _ _ s he=>hi b s (he.prune l)
 | cond c a b=>
   show GD (Bk c e fun v=>oP v fun t=>@Bool.rec (fun _=>Ah) (ihm b e s) (ihm a e s) t) _;rw[A8 he];simp only[IE];cases DG env c with
   | none=>trivial
   | some v=>
     cases v<;>first|trivial|skip
     rename_i t;cases t
     .exact hi b s he
     .exact hi a s he
 | block id a=>
   have:=hi a s he;show GD (match ihm a e s with|some (.exit id',env',s')=>bif Nat.beq id' id then some (.normal,env',s')else some (.exit id',env',s')|r=>r) (match ih a env s with|some (.exit id',env',s')=>bif Nat.beq id' id then some (.normal,env',s')else some (.exit id',env',s')|r=>r)
   revert this
   cases ihm a e s with
   | none=>cases ih a env s with|none=>intro _;trivial|some p=>intro h;exact h.elim
   | some p=>
     cases ih a env s with
     | none=>intro h;exact h.elim
     | some p'=>
       obtain⟨x1,e1,s1⟩:=p;obtain⟨x1',env1,s1'⟩:=p';rintro⟨rfl,rfl,he1⟩;cases x1 with
       | exit id'=>
         simp only;cases Nat.beq id' id<;>exact⟨rfl,rfl,he1⟩
       | normal=>exact⟨rfl,rfl,he1⟩
       | ret=>exact⟨rfl,rfl,he1⟩
       | BV v=>exact⟨rfl,rfl,he1⟩
 | loop l a=>
   show GD (Ua l e fun E=>RH (ihm a ⟨IC E,E⟩ s) fun env s=>ihm (.loop l a) env s) _;rw[OO he];exact Ms (K':=fun env s=>ih (.loop l a) env s) (hi a s (IT.of _)) fun _ _ s he=>hi (.loop l a) s he
 | DV l g ps a b=>
   show GD (Bk g e fun v=>match v with
   | .f (.func gf) [] cap=>Ua l e fun E=>s.new (.loop .ready E ps a b) fun i s1=>
    match E5 tab memo ihm gf (.f (.yield i) [] []::cap) s1 with
    | some (.ret _,s2)=>match s2.t.get i with
      | some (.loop st _ _ _ _)=>Tr.put none A3 s2.t i fun t=>some ((match st with| .ready=> .normal| .ret=> .ret| .exit id=> .exit id),e,⟨s2.nx,t⟩)
      | _=>none
    | some (.BV v,s2)=>match s2.t.get i with
      | some _=>Tr.put none A3 s2.t i fun t=>some (.BV v,e,⟨s2.nx,t⟩)
      | none=>none
    | none=>none
   | _=>none) _
   rw[A8 he,F5 hi];simp only[IE];cases DG env g with
   | none=>trivial
   | some v=>
     cases v<;>first|trivial|skip
     rename_i fn first cap
     cases fn<;>first|trivial|skip
     cases first<;>first|trivial|skip
     rename_i gf;simp only[ob];rw[OO he]
     have hnew: ∀ {β γ:Type} (o:EO) (f:Nat->St->Option β) (g:Nat->St->Option γ) (Rl:Option β->Option γ->Prop),Rl none none->(∀i s,Rl (f i s) (g i s))->Rl (s.new o f) (s.new o g):=fun {β γ} o f g Rl h0 h1=>by
      obtain⟨n,t⟩:=s;cases n with
      | zero=>simp only[St.new];rw[Tr.put_eq,Tr.put_eq];exact h1 _ _
      | succ n=>
        simp only[St.new];rw[Tr.put_eq,Tr.put_eq];cases Nat.ble (n+1) ML
        .exact h0
        .exact h1 _ _
     refine hnew _ _ _ GD trivial fun i s1=>?_
     cases Gi tab memo ih gf (.f (.yield i) [] []::cap) s1 with
     | none=>trivial
     | some p=>
       obtain⟨x,s2⟩:=p;cases x with
       | ret v=>
         simp only;cases s2.t.get i with
         | none=>trivial
         | some o=>
           cases o<;>first|trivial|skip
           simp only;rw[Tr.put_eq,Tr.put_eq];exact⟨rfl,rfl,he⟩
       | BV v=>
         simp only;cases s2.t.get i with
         | none=>trivial
         | some o=>
           simp only;rw[Tr.put_eq,Tr.put_eq];exact⟨rfl,rfl,he⟩
def ZC (tab:Jh) (memo:Ef): ∀n:Nat,XV (runK tab memo n) (run tab memo n)
 | 0=>fun _ _ _ _ _=>trivial
 | n+1=>fun c _ _ s he=>iA (ZC tab memo n) c s he
def kW (tab:Jh) (memo:Ef) (n:Nat) (f:FuncId) (vs:List V) (v:V):Bool:=
 match KH tab memo (runK tab memo n) f vs with
 | some u=>EI u v
 | none=>false
def Ru {tab:Jh} (ht:K9 P tab) {memo:Ef} (hm:Gk P memo) {n:Nat} {f:FuncId} {vs:List V} {v:V} (h:kW tab memo n f vs v=true):B3 vs=true/\BC v=true/\Pure P f vs v:=by
 unfold kW at h;rw[NC (ZC tab memo n)]at h;exact Wd ht hm h
def pq (t:Tr aO):Jh:=fun f=>aW t f
def Y6 {t:Tr aO} (h:Y1 (fun i=>N7 P i) id t):K9 P (pq t):=fun f fs e=>h f fs ((Tt t f).symm.trans e)
def qR (m:Ef) (f:FuncId) (a:List V) (v:V):Ef:=fun g=>@Bool.rec (fun _=>List (List V×V)) (m g) ((a,v)::m g) (Nat.beq f g)
def oH {m:Ef} (h:Gk P m) {f:FuncId} {a:List V} {v:V} (h1:B3 a=true/\BC v=true/\Pure P f a v):Gk P (qR m f a v):=fun g e he=>by
 unfold qR at he;cases hb:Nat.beq f g with
 | false=>rw[hb]at he;exact h g e he
 | true=>
   rw[hb]at he;have:=Cg hb;subst this;rcases FR.1 he with rfl|he
   .exact h1
   .exact h f e he
end Go.Gl
