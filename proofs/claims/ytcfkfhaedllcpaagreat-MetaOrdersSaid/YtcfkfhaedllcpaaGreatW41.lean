import Derived.Test.YtcfkfhaedllcpaaGreatW40
set_option linter.all false
set_option linter.defProp false
set_option maxHeartbeats 8000000
noncomputable section
namespace Go.Gl
variable {P:Program}
structure CH where
 M:Nat
 E:Env
abbrev Aj:=Option (Aa×CH×St)
def Kj {α β:Type} (c:Bool) (x:Option α) (g:α->Option β):ob (bif c then x else none) g=bif c then ob x g else none:=by cases c<;>rfl
def kQ (env:Env) (n:Nat) (K:V->Aj):Aj:=@List.rec (Nat×V) (fun _=>Nat->(V->Aj)->Aj) (fun _ _=>none) (fun p _ ih n K=>@Bool.rec (fun _=>Aj) (ih n K) (K p.2) (Nat.beq p.1 n)) env n K
def mT (env:Env) (n:Nat) (K:V->Aj):kQ env n K=ob (get n env) K:=by
 induction env with
 | nil=>rfl
 | cons p r ih=>
   obtain⟨j,v⟩:=p;show @Bool.rec (fun _=>Aj) (kQ r n K) (K v) (Nat.beq j n)=ob (bif Nat.beq j n then some v else get n r) K;cases Nat.beq j n
   .exact ih
   .rfl
def S9 {α:Type} (cs:List α) (i:Nat) (K:α->Aj):Aj:=@List.rec α (fun _=>Nat->(α->Aj)->Aj) (fun _ _=>none) (fun v _ ih i K=>@Nat.rec (fun _=>Aj) (K v) (fun j _=>ih j K) i) cs i K
def Lf {α:Type} (cs:List α): ∀(i:Nat) (K:α->Aj),S9 cs i K=ob cs[i]? K:=by
 induction cs with
 | nil=>intro i K;rfl
 | cons v r ih=>
   intro i K;cases i with
   | zero=>rfl
   | succ j=>exact ih j K
def F5 {α:Type} (cs:List α):Nat:=@List.rec α (fun _=>Nat) 0 (fun _ _ ih=>Nat.succ ih) cs
def FR {α:Type} (cs:List α):F5 cs=cs.length:=by
 induction cs with
 | nil=>rfl
 | cons v r ih=>show Nat.succ (F5 r)=_;rw[ih];rfl
def VF {α:Type} (cs:List α) (n:Nat):List α:=@Nat.rec (fun _=>List α->List α) (fun cs=>cs) (fun _ ih cs=>@List.rec α (fun _=>(List α->List α)->List α) (fun _=>[]) (fun _ r _ ih=>ih r) cs ih) n cs
def Pv {α:Type}: ∀(n:Nat) (cs:List α),VF cs n=cs.drop n
 | 0,cs=>rfl
 | n+1,[]=>rfl
 | n+1,v::r=>Pv n r
def Yo {α:Type} (cs:List α) (n:Nat):List α:=@List.rec α (fun _=>Nat->List α) (fun _=>[]) (fun v _ ih n=>@Nat.rec (fun _=>List α) [] (fun j _=>v::ih j) n) cs n
def gq {α:Type} (cs:List α): ∀n:Nat,Yo cs n=cs.take n:=by
 induction cs with
 | nil=>intro n;cases n<;>rfl
 | cons v r ih=>
   intro n;cases n with
   | zero=>rfl
   | succ j=>show v::Yo r j=_;rw[ih];rfl
def XD {α:Type} (cs:List α) (n:Nat) (x:α):List α:=@List.rec α (fun _=>Nat->α->List α) (fun _ _=>[]) (fun v r ih n x=>@Nat.rec (fun _=>List α) (x::r) (fun j _=>v::ih j x) n) cs n x
def Tp {α:Type} (cs:List α) (x:α): ∀n:Nat,XD cs n x=cs.set n x:=by
 induction cs with
 | nil=>intro n;rfl
 | cons v r ih=>
   intro n;cases n with
   | zero=>rfl
   | succ j=>show v::XD r j x=_;rw[ih];rfl
def p6 {α:Type} (f:α->Bool) (cs:List α):Bool:=@List.rec α (fun _=>(α->Bool)->Bool) (fun _=>true) (fun v _ ih f=>@Bool.rec (fun _=>Bool) false (ih f) (f v)) cs f
def nZ {α:Type} (f:α->Bool) (cs:List α):p6 f cs=cs.all f:=by
 induction cs with
 | nil=>rfl
 | cons v r ih=>
   show @Bool.rec (fun _=>Bool) false (p6 f r) (f v)=_;rw[LC,ih];cases f v<;>rfl
def gE (v:V) (K:V->Aj):Aj:=@V.rec (fun _=>V->(V->Aj)->Aj) (fun _=>Unit) (fun _=>Unit) (fun _ v K=>K v) (fun _ _ v K=>K v) (fun _ v K=>K v) (fun v K=>K v) (fun _ _ v K=>@Bool.rec (fun _=>Aj) none (K v) (BJ v)) (fun _ _ v K=>@Bool.rec (fun _=>Aj) none (K v) (BJ v)) (fun _ _ _ v K=>@Bool.rec (fun _=>Aj) none (K v) (BJ v)) (fun _ _ _ v K=>@Bool.rec (fun _=>Aj) none (K v) (BJ v)) (fun _ _ _ _ v K=>@Bool.rec (fun _=>Aj) none (K v) (BJ v)) (fun _ _ _ _ v K=>@Bool.rec (fun _=>Aj) none (K v) (BJ v)) (fun _ v K=>@Bool.rec (fun _=>Aj) none (K v) (BJ v)) (fun v K=>K v) (fun _ _ _ _ _ v K=>@Bool.rec (fun _=>Aj) none (K v) (BJ v)) (fun v K=>K v) (fun _ _ _ v K=>@Bool.rec (fun _=>Aj) none (K v) (BJ v)) (fun v K=>K v) (fun _ _ v K=>@Bool.rec (fun _=>Aj) none (K v) (BJ v)) (fun _ _ v K=>@Bool.rec (fun _=>Aj) none (K v) (BJ v)) (fun v K=>@Bool.rec (fun _=>Aj) none (K v) (BJ v)) () (fun _ _ _ _=>()) () (fun _ _ _ _=>()) v v K
def BM {α:Type} (c:Bool) (x y:α): @Bool.rec (fun _=>α) y x c=bif c then x else y:=by cases c<;>rfl
def dB (v:V) (K:V->Aj):gE v K=ob (bif BJ v then some v else none) K:=by
 rw[Kj];cases v<;>first|rfl|exact BM _ _ _
def OX (M n:Nat):Bool:=Nat.beq (Nat.land (Nat.shiftRight M n) 1) 1
def TG (e:CH) (n:Nat):Option V:=bif OX e.1 n then get n e.2 else none
def Iw (e:CH) (env:Env):Prop:= ∀n,TG e n=get n env
def Bq (x:Bf) (e:CH) (K:V->Aj):Aj:=@Bf.rec (fun _=>CH->(V->Aj)->Aj) (fun n e K=>@Bool.rec (fun _=>Aj) none (kQ e.2 n K) (OX e.1 n)) (fun v _ K=>gE v K) x e K
def BF {e:CH} {env:Env} (he:Iw e env) (x:Bf) (K:V->Aj):Bq x e K=ob (DN env x) K:=by
 cases x with
 | t n=>
   show @Bool.rec (fun _=>Aj) none (kQ e.2 n K) (OX e.1 n)=ob (get n env) K;rw[<-he n,TG,BM,Kj,mT]
 | c v=>exact dB v K
def LO (l:List Bf) (env:CH) (K:List V->Aj):Aj:=@List.rec Bf (fun _=>CH->(List V->Aj)->Aj) (fun _ K=>K []) (fun x _ ih env K=>Bq x env fun v=>ih env fun vs=>K (v::vs)) l env K
def Bn {e:CH} {env:Env} (he:Iw e env): ∀(l:List Bf) (K:List V->Aj),LO l e K=ob (OP env l) K
 | [],K=>rfl
 | x ::r,K=>by
   show(Bq x e fun v=>LO r e fun vs=>K (v::vs))=_;rw[BF he];simp only[OP];cases DN env x with
   | none=>rfl
   | some v=>
     simp only[ob];rw[Bn he r];cases OP env r<;>rfl
def XF (x:Option Bf) (e:CH) (K:Option V->Aj):Aj:=@Option.rec Bf (fun _=>CH->(Option V->Aj)->Aj) (fun _ K=>K none) (fun x e K=>Bq x e fun v=>K (some v)) x e K
def Bv {e:CH} {env:Env} (he:Iw e env) (x:Option Bf) (K:Option V->Aj):XF x e K=ob (KY env x) K:=by
 cases x with
 | none=>rfl
 | some x=>
   show(Bq x e fun v=>K (some v))=_;rw[BF he];simp only[KY];cases DN env x<;>rfl
def wO (k:IntKind):Nat:=@IntKind.rec (fun _=>Nat) 0 1 2 3 4 5 6 7 k
def Mn (a b:IntKind):Bool:=Nat.beq (wO a) (wO b)
def mw (a b:IntKind):Mn a b=decide (a=b):=by cases a<;>cases b<;>rfl
def wZ (a b:Int):Int:=@Int.rec (fun _=>Int->Int) (fun m b=>@Int.rec (fun _=>Nat->Int) (fun n m=>Int.ofNat (Nat.add m n)) (fun n m=>Int.ofNat m+Int.negSucc n) b m) (fun m b=>Int.negSucc m+b) a b
def nj (a b:Int):wZ a b=a+b:=by cases a<;>cases b<;>rfl
def wF (a b:Int):Int:=@Int.rec (fun _=>Int->Int) (fun m b=>@Int.rec (fun _=>Nat->Int) (fun n m=>@Bool.rec (fun _=>Int) (Int.negSucc (Nat.sub n (Nat.succ m))) (Int.ofNat (Nat.sub m n)) (Nat.ble n m)) (fun n m=>Int.ofNat m - Int.negSucc n) b m) (fun m b=>Int.negSucc m - b) a b
def kx (a b:Int):wF a b=a - b:=by
 cases a with
 | negSucc m=>rfl
 | ofNat m=>
   cases b with
   | negSucc n=>rfl
   | ofNat n=>
     show @Bool.rec (fun _=>Int) (Int.negSucc (n - (m+1))) (Int.ofNat (m - n)) (Nat.ble n m)=_;cases h:Nat.ble n m with
     | true=>
       have:=Nat.le_of_ble_eq_true h;show Int.ofNat (m - n)=(m:Int) - (n:Int);simp only[Int.ofNat_eq_natCast];omega
     | false=>
       have: ¬n<=m:=fun h'=>by rw[Nat.ble_eq_true_of_le h']at h;cases h
       show Int.negSucc (n - (m+1))=(m:Int) - (n:Int);omega
def dY (a b:Int):Bool:=@Int.rec (fun _=>Int->Bool) (fun m b=>@Int.rec (fun _=>Nat->Bool) (fun n m=>Nat.ble (Nat.succ m) n) (fun _ _=>false) b m) (fun m b=>@Int.rec (fun _=>Nat->Bool) (fun _ _=>true) (fun n m=>Nat.ble (Nat.succ n) m) b m) a b
def TR (a b:Int):dY a b=Mh a b:=by cases a<;>cases b<;>rfl
def yN (a b:Int):Bool:=@Int.rec (fun _=>Int->Bool) (fun m b=>@Int.rec (fun _=>Nat->Bool) (fun n m=>Nat.beq m n) (fun _ _=>false) b m) (fun m b=>@Int.rec (fun _=>Nat->Bool) (fun _ _=>false) (fun n m=>Nat.beq m n) b m) a b
def rY (a b:Int):yN a b=aY a b:=by cases a<;>cases b<;>rfl
def TA (b:Bool):Bool:=@Bool.rec (fun _=>Bool) true false b
def lj (b:Bool):TA b= !b:=by cases b<;>rfl
def dc (a:Int):Nat:=@Int.rec (fun _=>Nat) (fun n=>n) (fun _=>0) a
def PK (a:Int):dc a=a.toNat:=by cases a<;>rfl
def Yn (k:IntKind) (n:Int):Int:=@IntKind.rec (fun _=>Int->Int) (fun n=>IntKind.i8.wrap n) (fun n=>IntKind.i16.wrap n) (fun n=>IntKind.i32.wrap n)
 (fun n=>@Int.rec (fun _=>Int) (fun m=>@Bool.rec (fun _=>Int) (IntKind.i64.wrap (Int.ofNat m)) (Int.ofNat m) (Nat.ble m 9223372036854775807)) (fun m=>@Bool.rec (fun _=>Int) (IntKind.i64.wrap (Int.negSucc m)) (Int.negSucc m) (Nat.ble m 9223372036854775807)) n)
 (fun n=>IntKind.u8.wrap n) (fun n=>IntKind.u16.wrap n) (fun n=>IntKind.u32.wrap n)
 (fun n=>@Int.rec (fun _=>Int) (fun m=>@Bool.rec (fun _=>Int) (IntKind.u64.wrap (Int.ofNat m)) (Int.ofNat m) (Nat.ble m 18446744073709551615)) (fun m=>IntKind.u64.wrap (Int.negSucc m)) n) k n
def gd (k:IntKind) (n:Int):Yn k n=k.wrap n:=by
 cases k<;>try rfl
 .cases n with
  | ofNat m=>
    have:=JD .i64 (.ofNat m);simp only[IP]at this;rw[<-this];show @Bool.rec (fun _=>Int) _ _ _=_;cases Nat.ble m 9223372036854775807<;>rfl
  | negSucc m=>
    show @Bool.rec (fun _=>Int) (IntKind.i64.wrap (Int.negSucc m)) (Int.negSucc m) (Nat.ble m 9223372036854775807)=_;cases h:Nat.ble m 9223372036854775807 with
    | false=>rfl
    | true=>
      have:=Nat.le_of_ble_eq_true h;show Int.negSucc m=_;exact(wrap64 (by omega) (by omega)).symm
 .cases n with
  | ofNat m=>
    have:=JD .u64 (.ofNat m);simp only[IP]at this;rw[<-this];show @Bool.rec (fun _=>Int) _ _ _=_;cases Nat.ble m 18446744073709551615<;>rfl
  | negSucc m=>rfl
def wG (k:IntKind) (a b:Int):Int:=@Int.rec (fun _=>Int->IntKind->Int) (fun m b _=>Int.ofNat (Nat.shiftRight m (Nat.min (dc b) k.bits))) (fun m b k=>(Int.negSucc m).fdiv (2 ^ (min b.toNat k.bits))) a b k
def k8 (k:IntKind) (a b:Int):wG k a b=a.fdiv (2 ^ (min b.toNat k.bits)):=by
 cases a with
 | negSucc m=>rfl
 | ofNat m=>
   show Int.ofNat (m >>> (min (dc b) k.bits))=_;rw[PK,Nat.shiftRight_eq_div_pow];have:(2:Int) ^ (min b.toNat k.bits)=((2 ^ (min b.toNat k.bits):Nat):Int):=by simp
   rw[this];exact(Int.ofNat_fdiv _ _)
def wH (k:IntKind) (a b:Int):Int:=@Int.rec (fun _=>Int->IntKind->Int) (fun m b _=>Int.ofNat (Nat.shiftLeft m (Nat.min (dc b) k.bits))) (fun m b k=>(Int.negSucc m)*(2 ^ (min b.toNat k.bits))) a b k
def k9 (k:IntKind) (a b:Int):wH k a b=a*(2 ^ (min b.toNat k.bits)):=by
 cases a with
 | negSucc m=>rfl
 | ofNat m=>
   show Int.ofNat (m <<< (min (dc b) k.bits))=_;rw[PK,Nat.shiftLeft_eq];simp
def x5 (v:V) (K:IntKind->Int->Aj):Aj:=@V.rec (fun _=>(IntKind->Int->Aj)->Aj) (fun _=>Unit) (fun _=>Unit) (fun _ K=>none) (fun k n K=>K k n) (fun _ K=>none) (fun K=>none) (fun _ _ K=>none) (fun _ _ K=>none) (fun _ _ _ K=>none) (fun _ _ _ K=>none) (fun _ _ _ _ K=>none) (fun _ _ _ _ K=>none) (fun _ K=>none) (fun K=>none) (fun _ _ _ _ _ K=>none) (fun K=>none) (fun _ _ _ K=>none) (fun K=>none) (fun _ _ K=>none) (fun _ _ K=>none) (fun K=>none) () (fun _ _ _ _=>()) () (fun _ _ _ _=>()) v K
def x3:V->Option (IntKind×Int)| .i k n=>some (k,n)|_=>none
def Xj (v:V) (K:IntKind->Int->Aj):x5 v K=ob (x3 v) fun p=>K p.1 p.2:=by cases v<;>rfl
def kW (op:BinOp) (vx vy:V) (K:V->Aj):Aj:=x5 vx fun ka a=>x5 vy fun kb b=>@BinOp.rec (fun _=>IntKind->Int->IntKind->Int->(V->Aj)->Aj) (fun ka a kb b K=>@Bool.rec (fun _=>Aj) none (K (.i ka (Yn ka (wZ a b)))) (Mn ka kb)) (fun ka a kb b K=>@Bool.rec (fun _=>Aj) none (K (.i ka (Yn ka (wF a b)))) (Mn ka kb)) (fun ka a kb b K=>ob (Uw .mul (.i ka a) (.i kb b)) K) (fun ka a kb b K=>ob (Uw .quo (.i ka a) (.i kb b)) K) (fun ka a kb b K=>ob (Uw .rem (.i ka a) (.i kb b)) K) (fun ka a kb b K=>@Bool.rec (fun _=>Aj) none (K (.i ka (PJ .and ka a b))) (Mn ka kb)) (fun ka a kb b K=>@Bool.rec (fun _=>Aj) none (K (.i ka (PJ .or ka a b))) (Mn ka kb)) (fun ka a kb b K=>@Bool.rec (fun _=>Aj) none (K (.i ka (PJ .xor ka a b))) (Mn ka kb)) (fun ka a kb b K=>@Bool.rec (fun _=>Aj) none (K (.i ka (Yn ka (wH ka a b)))) (TA (dY b 0))) (fun ka a kb b K=>@Bool.rec (fun _=>Aj) none (K (.i ka (wG ka a b))) (TA (dY b 0))) (fun ka a kb b K=>@Bool.rec (fun _=>Aj) none (K (.i ka (PJ .andNot ka a b))) (Mn ka kb)) (fun ka a kb b K=>@Bool.rec (fun _=>Aj) none (K (.b (yN a b))) (Mn ka kb)) (fun ka a kb b K=>@Bool.rec (fun _=>Aj) none (K (.b (TA (yN a b)))) (Mn ka kb)) (fun ka a kb b K=>@Bool.rec (fun _=>Aj) none (K (.b (dY a b))) (Mn ka kb)) (fun ka a kb b K=>@Bool.rec (fun _=>Aj) none (K (.b (TA (dY b a)))) (Mn ka kb)) (fun ka a kb b K=>@Bool.rec (fun _=>Aj) none (K (.b (dY b a))) (Mn ka kb)) (fun ka a kb b K=>@Bool.rec (fun _=>Aj) none (K (.b (TA (dY a b)))) (Mn ka kb)) op ka a kb b K
def nU (op:BinOp) (vx vy:V) (K:V->Aj):kW op vx vy K=ob (Uw op vx vy) K:=by
 unfold kW;rw[Xj];cases vx<;>first|rfl|skip
 rename_i ka a;simp only[x3,ob];rw[Xj];cases vy<;>first|(cases op<;>rfl)|skip
 rename_i kb b;simp only[x3,ob];cases op<;>first|rfl|skip
 all_goals
  simp only[Uw];simp only[BM,mw,gd,nj,kx,rY,TR,lj,k9,k8,JD,Ow,ob]
  first
   | (cases decide (ka=kb)<;>rfl)
   | (cases Mh b 0<;>rfl)
def av {α:Type} (t:Tr α) (k:Nat):Option α:=@Tr.rec α (fun _=>Nat->Option α) (fun _=>none) (fun o _ _ ihl ihr k=>@Nat.rec (fun _=>Option α) o (fun j _=>@Bool.rec (fun _=>Option α) (ihr (Nat.div j 2)) (ihl (Nat.div j 2)) (Nat.beq (Nat.mod j 2) 0)) k) t k
def T7 {α:Type} (t:Tr α): ∀k:Nat,av t k=t.get k:=by
 induction t with
 | leaf=>intro k;rfl
 | node o l r ihl ihr=>
   intro k;cases k with
   | zero=>rfl
   | succ j=>
     show @Bool.rec (fun _=>Option α) (av r (j / 2)) (av l (j / 2)) (Nat.beq (j % 2) 0)=bif Nat.beq (j % 2) 0 then l.get (j / 2)else r.get (j / 2);rw[ihl,ihr];cases Nat.beq (j % 2) 0<;>rfl
def S8 {α β:Type} (x:Option α) (d:Nat) (t:Tr α) (k:Nat) (K:Tr α->β):β:=
 @Nat.rec (fun _=>Tr α->Nat->(Tr α->β)->β) (fun t _ K=>K t)
  (fun _ ih t k K=>@Tr.rec α (fun _=>Nat->(Tr α->β)->β)
   (fun k K=>@Nat.rec (fun _=>β) (K (.node x .leaf .leaf)) (fun j _=>@Bool.rec (fun _=>β) (ih .leaf (Nat.div j 2) fun r=>K (.node none .leaf r)) (ih .leaf (Nat.div j 2) fun l=>K (.node none l .leaf)) (Nat.beq (Nat.mod j 2) 0)) k)
   (fun o l r _ _ k K=>@Nat.rec (fun _=>β) (K (.node x l r)) (fun j _=>@Bool.rec (fun _=>β) (ih r (Nat.div j 2) fun r=>K (.node o l r)) (ih l (Nat.div j 2) fun l=>K (.node o l r)) (Nat.beq (Nat.mod j 2) 0)) k) t k K) d t k K
def Gc {α β:Type} (x:Option α): ∀(d:Nat) (t:Tr α) (k:Nat) (K:Tr α->β),S8 x d t k K=Tr.put x d t k K
 | 0,t,k,K=>rfl
 | d+1,.leaf,0,K=>rfl
 | d+1,.node _ _ _,0,K=>rfl
 | d+1,.leaf,j+1,K=>by
   show @Bool.rec (fun _=>β) (S8 x d .leaf (j / 2) fun r=>K (.node none .leaf r)) (S8 x d .leaf (j / 2) fun l=>K (.node none l .leaf)) (Nat.beq (j % 2) 0)=bif Nat.beq (j % 2) 0 then _ else _;rw[Gc x d,Gc x d,BM]
 | d+1,.node o l r,j+1,K=>by
   show @Bool.rec (fun _=>β) (S8 x d r (j / 2) fun r=>K (.node o l r)) (S8 x d l (j / 2) fun l=>K (.node o l r)) (Nat.beq (j % 2) 0)=bif Nat.beq (j % 2) 0 then _ else _;rw[Gc x d,Gc x d,BM]
def du (s:St) (o:EO) (K:Nat->St->Aj):Aj:=@Nat.rec (fun _=>Aj) (S8 (some o) A7 s.t 0 fun t=>K 0 ⟨1,t⟩) (fun n _=>@Bool.rec (fun _=>Aj) none (S8 (some o) A7 s.t (Nat.succ n) fun t=>K (Nat.succ n) ⟨Nat.succ (Nat.succ n),t⟩) (Nat.ble (Nat.succ n) Mm)) s.nx
def lu {γ:Type} (s:St) (o:EO) (f:Nat->St->Option γ) (K:γ->Aj):ob (s.new o f) K=du s o fun i s'=>ob (f i s') K:=by
 obtain⟨n,t⟩:=s;cases n with
 | zero=>
   unfold du;simp only[St.new];rw[Gc,Tr.put_eq,Tr.put_eq];rfl
 | succ n=>
   unfold du;simp only[St.new];rw[Gc,Tr.put_eq,Tr.put_eq,BM,Kj]
def wu (o:EO) (K:List V->Aj):Aj:=@EO.rec (fun _=>(List V->Aj)->Aj) (fun vs K=>K vs) (fun _ _ _=>none) (fun _ _=>none) (fun _ _ _ _ _ _=>none) o K
def qd (o:EO) (K:Nat->List (List V)->Aj):Aj:=@EO.rec (fun _=>(Nat->List (List V)->Aj)->Aj) (fun _ _=>none) (fun sz es K=>K sz es) (fun _ _=>none) (fun _ _ _ _ _ _=>none) o K
def yJ {α:Type} (o:Option α) (K:α->Aj):Aj:=@Option.rec α (fun _=>(α->Aj)->Aj) (fun _=>none) (fun a K=>K a) o K
def fO {α:Type} (o:Option α) (K:α->Aj):yJ o K=ob o K:=by cases o<;>rfl
def Yy (s:St) (n:Nat) (K:List V->Aj):Aj:=yJ (av s.t n) fun o=>wu o K
def TY (s:St) (n:Nat) (K:Nat->List (List V)->Aj):Aj:=yJ (av s.t n) fun o=>qd o K
def Vw (s:St) (n:Nat) (K:List V->Aj):Yy s n K=match s.t.get n with|some (.cs vs)=>K vs|_=>none:=by
 unfold Yy;rw[fO,T7];cases s.t.get n with
 | none=>rfl
 | some o=>cases o<;>rfl
def SW (s:St) (n:Nat) (K:Nat->List (List V)->Aj):TY s n K=match s.t.get n with|some (.arr sz es)=>K sz es|_=>none:=by
 unfold TY;rw[fO,T7];cases s.t.get n with
 | none=>rfl
 | some o=>cases o<;>rfl
def XJ (agg:Option Nat) (cs:List V) (off:Nat) (K:V->Aj):Aj:=@Option.rec Nat (fun _=>List V->Nat->(V->Aj)->Aj) (fun cs off K=>S9 cs off K)
 (fun n cs off K=>@Bool.rec (fun _=>Aj) (@Bool.rec (fun _=>Aj) none (K (.a (Yo (VF cs off) n))) (Nat.ble (Nat.add off n) (F5 cs))) (K (.a cs)) (@Bool.rec (fun _=>Bool) false (Nat.beq n (F5 cs)) (Nat.beq off 0))) agg cs off K
def Oq (agg:Option Nat) (cs:List V) (off:Nat) (K:V->Aj):XJ agg cs off K=ob (Uu agg cs off) K:=by
 cases agg with
 | none=>exact Lf cs off K
 | some n=>
   show @Bool.rec (fun _=>Aj) (@Bool.rec (fun _=>Aj) none (K (.a (Yo (VF cs off) n))) (Nat.ble (off+n) (F5 cs))) (K (.a cs)) (@Bool.rec (fun _=>Bool) false (Nat.beq n (F5 cs)) (Nat.beq off 0))=_;simp only[Uu];rw[gq,Pv,FR,Kj];cases h1:Nat.beq off 0 with
   | false=>exact BM _ _ _
   | true=>
     cases h2:Nat.beq n cs.length with
     | false=>exact BM _ _ _
     | true=>
       have:=Ct h1;subst this;have:=Ct h2;subst this;show K (.a cs)=_;rw[Nat.ble_eq_true_of_le (by omega)];simp[ob]
def eS (s:St) (agg:Option Nat) (x:V) (K:V->Aj):Aj:=@V.rec (fun _=>St->Option Nat->(V->Aj)->Aj) (fun _=>Unit) (fun _=>Unit) (fun _ s agg K=>none) (fun _ _ s agg K=>none) (fun _ s agg K=>none) (fun s agg K=>none) (fun n off s agg K=>Yy s n fun vs=>XJ agg vs off K) (fun cs _ s agg K=>XJ agg cs 0 K) (fun _ _ _ s agg K=>none) (fun _ _ _ s agg K=>none) (fun _ _ _ _ s agg K=>none) (fun n sz i off s agg K=>TY s n fun sz1 es=>@Bool.rec (fun _=>Aj) none (S9 es i fun e=>XJ agg e off K) (Nat.beq sz sz1)) (fun _ s agg K=>none) (fun s agg K=>none) (fun _ _ _ _ _ s agg K=>none) (fun s agg K=>none) (fun _ _ _ s agg K=>none) (fun s agg K=>none) (fun _ _ s agg K=>none) (fun _ _ s agg K=>none) (fun s agg K=>none) () (fun _ _ _ _=>()) () (fun _ _ _ _=>()) x s agg K
def iY (s:St) (agg:Option Nat) (x:V) (K:V->Aj):eS s agg x K=ob (Ny s agg x) K:=by
 cases x<;>first|rfl|skip
 .rename_i n off
  refine(Vw _ _ _).trans ?_;simp only[Ny];cases s.t.get n with
  | none=>rfl
  | some o=>cases o<;>first|rfl|exact Oq _ _ _ _
 .exact Oq _ _ _ _
 .rename_i n sz i off
  refine(SW _ _ _).trans ?_;simp only[Ny];cases s.t.get n with
  | none=>rfl
  | some o=>
    cases o<;>first|rfl|skip
    rename_i sz1 es;simp only;rw[BM,Kj,Lf];congr 1;cases es[i]? with
    | none=>rfl
    | some e=>exact Oq _ _ _ _
def G1 (v:V) (K:List V->Aj):Aj:=@V.rec (fun _=>V->(List V->Aj)->Aj) (fun _=>Unit) (fun _=>Unit) (fun _ v K=>K [v]) (fun _ _ v K=>K [v]) (fun _ v K=>K [v]) (fun v K=>K [v]) (fun _ _ v K=>K [v]) (fun _ _ v K=>K [v]) (fun _ _ _ v K=>K [v]) (fun _ _ _ v K=>K [v]) (fun _ _ _ _ v K=>K [v]) (fun _ _ _ _ v K=>K [v]) (fun _ v K=>K [v]) (fun v K=>K [v]) (fun _ _ _ _ _ v K=>K [v]) (fun v K=>K [v]) (fun _ _ _ v K=>K [v]) (fun v K=>K [v]) (fun cs _ v K=>K cs) (fun _ _ v K=>none) (fun v K=>none) () (fun _ _ _ _=>()) () (fun _ _ _ _=>()) v v K
def Hk (v:V) (K:List V->Aj):G1 v K=ob (cellsOf v) K:=by cases v<;>rfl
def wJ (v:V):Bool:=@V.rec (fun _=>Bool) (fun _=>Unit) (fun _=>Unit) (fun _=>true) (fun _ _=>true) (fun _=>true) (true) (fun _ _=>true) (fun _ _=>true) (fun _ _ _=>true) (fun _ _ _=>true) (fun _ _ _ _=>true) (fun _ _ _ _=>true) (fun _=>true) (true) (fun _ _ _ _ _=>true) (true) (fun _ _ _=>true) (true) (fun _ _=>false) (fun _ _=>false) (false) () (fun _ _ _ _=>()) () (fun _ _ _ _=>()) v
def lg:wJ=CC:=funext fun v=>by cases v<;>rfl
def dm (cs:List V) (o:Nat) (vc:List V):List V:=@List.rec V (fun _=>List V->Nat->List V) (fun cs _=>cs) (fun v _ ih cs o=>ih (XD cs o v) (Nat.succ o)) vc cs o
def Of: ∀(vc cs:List V) (o:Nat),dm cs o vc=putAt cs o vc
 | [],_,_=>rfl
 | v::r,cs,o=>by
   show dm (XD cs o v) (o+1) r=_;rw[Of r,Tp];rfl
def kK (cs:List V) (o:Nat) (vc:List V):List V:=@Bool.rec (fun _=>List V) (dm cs o vc) vc (@Bool.rec (fun _=>Bool) false (Nat.beq (F5 vc) (F5 cs)) (Nat.beq o 0))
def bc: ∀(vc pre cs:List V),vc.length=cs.length->putAt (pre++cs) pre.length vc=pre++vc:=by
 intro vc
 induction vc with
 | nil=>intro pre cs hl;cases cs with
   | nil=>rfl
   | cons _ _=>cases hl
 | cons x vc ih=>
   intro pre cs hl;cases cs with
   | nil=>cases hl
   | cons y cs=>
     simp only[putAt];rw[List.set_append_right _ _ (Io _),Nat.sub_self,List.set_cons_zero];have:=ih (pre++[x]) cs (by simpa using hl);simp only[RQ,LF,List.length_nil,Gj,Wx,List.singleton_append]at this;exact this
def ZN (cs:List V) (o:Nat) (vc:List V):kK cs o vc=putAt cs o vc:=by
 unfold kK;cases h1:Nat.beq o 0 with
 | false=>exact Of vc cs o
 | true=>
   rw[FR,FR];cases h2:Nat.beq vc.length cs.length with
   | false=>exact Of vc cs o
   | true=>
     have:=Ct h1;subst this;exact(bc vc [] cs (Ct h2)).symm
def fC (s:St) (sz:Nat) (a:V) (vc:List V) (K:St->Aj):Aj:=@V.rec (fun _=>St->Nat->List V->(St->Aj)->Aj) (fun _=>Unit) (fun _=>Unit) (fun _ s sz vc K=>none) (fun _ _ s sz vc K=>none) (fun _ s sz vc K=>none) (fun s sz vc K=>none) (fun n off s sz vc K=>Yy s n fun vs=>@Bool.rec (fun _=>Aj) none (S8 (some (.cs (kK vs off vc))) A7 s.t n fun t=>K ⟨s.nx,t⟩) (Nat.ble (Nat.add off sz) (F5 vs))) (fun _ _ s sz vc K=>none) (fun _ _ _ s sz vc K=>none) (fun _ _ _ s sz vc K=>none) (fun _ _ _ _ s sz vc K=>none) (fun n s' i off s sz vc K=>TY s n fun s1 es=>@Bool.rec (fun _=>Aj) none (@Bool.rec (fun _=>Aj) none (S9 es i fun e=>S8 (some (.arr s1 (XD es i (kK e off vc)))) A7 s.t n fun t=>K ⟨s.nx,t⟩) (Nat.ble (Nat.add off sz) s')) (Nat.beq s' s1)) (fun _ s sz vc K=>none) (fun s sz vc K=>none) (fun _ _ _ _ _ s sz vc K=>none) (fun s sz vc K=>none) (fun _ _ _ s sz vc K=>none) (fun s sz vc K=>none) (fun _ _ s sz vc K=>none) (fun _ _ s sz vc K=>none) (fun s sz vc K=>none) () (fun _ _ _ _=>()) () (fun _ _ _ _=>()) a s sz vc K
def TK (s:St) (sz:Nat) (a x:V) (K:St->Aj):Aj:=G1 x fun vc=>@Bool.rec (fun _=>Aj) none (@Bool.rec (fun _=>Aj) none (fC s sz a vc K) (p6 wJ vc)) (Nat.beq (F5 vc) sz)
def bJ (s : St) (sz:Nat) (a x:V) (K:St->Aj):TK s sz a x K=ob (PO s sz a x) K:=by
 unfold TK PO;rw[Hk];cases cellsOf x with
 | none=>rfl
 | some vc =>
   simp only[ob,FR,nZ,lg];cases Nat.beq vc.length sz with
   | false=>rfl
   | true=>
     cases vc.all CC with
     | false=>rfl
     | true=>
       simp only[Bool.and_true,cond_true];show fC s sz a vc K=_;cases a<;>first|rfl|skip
       .rename_i n off
        refine(Vw _ _ _).trans ?_;simp only;cases s.t.get n with
        | none=>rfl
        | some o=>
          cases o<;>first|rfl|skip
          rename_i vs;simp only;rw[Gc,Tr.put_eq,ZN,FR,BM,Tr.put_eq];show(bif Nat.ble (off+sz) vs.length then _ else none)=_;cases Nat.ble (off+sz) vs.length<;>rfl
       .rename_i n s' i off
        refine(SW _ _ _).trans ?_;simp only;cases s.t.get n with
        | none=>rfl
        | some o=>
          cases o<;>first|rfl|skip
          rename_i s1 es;simp only;rw[BM,BM,Lf];show(bif Nat.beq s' s1 then(bif Nat.ble (off+sz) s' then _ else none)else none)=_;cases Nat.beq s' s1<;>cases Nat.ble (off+sz) s'<;>try rfl
          simp only[cond_true,Bool.and_true];cases es[i]? with
          | none=>rfl
          | some e=>
            simp only[ob];rw[Gc,Tr.put_eq,ZN,Tp,Tr.put_eq]
def Xb (off:Nat) (x:V) (K:V->Aj):Aj:=@V.rec (fun _=>Nat->(V->Aj)->Aj) (fun _=>Unit) (fun _=>Unit) (fun _ off K=>none) (fun _ _ off K=>none) (fun _ off K=>none) (fun off K=>none) (fun n o off K=>K (.p n (Nat.add o off))) (fun cs _ off K=>K (.rp (VF cs off))) (fun _ _ _ off K=>none) (fun _ _ _ off K=>none) (fun _ _ _ _ off K=>none) (fun n sz i o off K=>K (.pe n sz i (Nat.add o off))) (fun _ off K=>none) (fun off K=>none) (fun _ _ _ _ _ off K=>none) (fun off K=>none) (fun _ _ _ off K=>none) (fun off K=>none) (fun _ _ off K=>none) (fun _ _ off K=>none) (fun off K=>none) () (fun _ _ _ _=>()) () (fun _ _ _ _=>()) x off K
def cd (off:Nat) (x:V) (K:V->Aj):Xb off x K=ob (Te off x) K:=by
 cases x<;>first|rfl|skip
 show K (.rp (VF _ off))=_;rw[Pv];rfl
def fb (sz:Nat) (x:V) (j:Int) (K:V->Aj):Aj:=@V.rec (fun _=>Nat->Int->(V->Aj)->Aj) (fun _=>Unit) (fun _=>Unit) (fun _ sz j K=>none) (fun _ _ sz j K=>none) (fun _ sz j K=>none) (fun sz j K=>none) (fun _ _ sz j K=>none) (fun _ _ sz j K=>none) (fun es _ _ sz j K=>S9 es (dc j) fun e=>@Bool.rec (fun _=>Aj) none (K (.rp e)) (Nat.beq (F5 e) sz)) (fun n len _ sz j K=>@Bool.rec (fun _=>Aj) none (K (.pe n sz (dc j) 0)) (dY j (Int.ofNat len))) (fun n s off len sz j K=>@Bool.rec (fun _=>Aj) none (@Bool.rec (fun _=>Aj) none (K (.pe n sz (Nat.add off (dc j)) 0)) (dY j (Int.ofNat len))) (Nat.beq s sz)) (fun _ _ _ _ sz j K=>none) (fun _ sz j K=>none) (fun sz j K=>none) (fun _ _ _ _ _ sz j K=>none) (fun sz j K=>none) (fun _ _ _ sz j K=>none) (fun sz j K=>none) (fun _ _ sz j K=>none) (fun _ _ sz j K=>none) (fun sz j K=>none) () (fun _ _ _ _=>()) () (fun _ _ _ _=>()) x sz j K
def XY (sz:Nat) (arr:Option Nat) (x i:V) (K:V->Aj):Aj:=@Option.rec Nat (fun _=>Nat->V->V->(V->Aj)->Aj) (fun sz x i K=>x5 i fun _ j=>@Bool.rec (fun _=>Aj) (fb sz x j K) none (dY j 0)) (fun m sz x i K=>ob (M4 sz (some m) x i) K) arr sz x i K
def cI (sz:Nat) (arr:Option Nat) (x i:V) (K:V->Aj):XY sz arr x i K=ob (M4 sz arr x i) K:=by
 cases arr with
 | some m=>rfl
 | none=>
   refine(Xj _ _).trans ?_;cases i<;>first|rfl|skip
   rename_i k j;simp only[x3,ob,M4,Ow,TR];cases Mh j 0 with
   | true=>rfl
   | false=>
     show fb sz x j K=_;cases x<;>first|rfl|skip
     .rename_i es full
      show S9 es (dc j) _=_;rw[Lf,PK];simp only[Bool.not_false,cond_true];cases es[j.toNat]? with
      | none=>rfl
      | some e=>
        simp only[ob,FR];cases Nat.beq e.length sz<;>rfl
     .rename_i n len cap
      show @Bool.rec (fun _=>Aj) none (K (.pe n sz (dc j) 0)) (dY j (Int.ofNat len))=_;rw[PK,TR];simp only[Bool.not_false,cond_true];have:Mh j (Int.ofNat len)=Mh j (len:Int):=rfl;rw[this];cases Mh j (len:Int)<;>rfl
     .rename_i n s off len
      show @Bool.rec (fun _=>Aj) none (@Bool.rec (fun _=>Aj) none (K (.pe n sz (off+dc j) 0)) (dY j (Int.ofNat len))) (Nat.beq s sz)=_;rw[PK,TR];simp only[Bool.not_false,cond_true];have:Mh j (Int.ofNat len)=Mh j (len:Int):=rfl;rw[this];cases Nat.beq s sz<;>cases Mh j (len:Int)<;>rfl
def pg (x:V) (K:V->Aj):Aj:=@V.rec (fun _=>(V->Aj)->Aj) (fun _=>Unit) (fun _=>Unit) (fun _ K=>none) (fun _ _ K=>none) (fun _ K=>none) (fun K=>none) (fun _ _ K=>none) (fun _ _ K=>none) (fun es _ _ K=>K (.i .i64 (Int.ofNat (F5 es)))) (fun _ len _ K=>@Bool.rec (fun _=>Aj) none (K (.i .i64 (Int.ofNat len))) (Nat.ble len AY)) (fun _ _ _ len K=>@Bool.rec (fun _=>Aj) none (K (.i .i64 (Int.ofNat len))) (Nat.ble len AY)) (fun _ _ _ _ K=>none) (fun _ K=>none) (fun K=>none) (fun _ _ _ _ _ K=>none) (fun K=>none) (fun _ _ _ K=>none) (fun K=>none) (fun _ _ K=>none) (fun _ _ K=>none) (fun K=>none) () (fun _ _ _ _=>()) () (fun _ _ _ _=>()) x K
def l7 (x:V) (K:V->Aj):pg x K=ob (az x) K:=by
 cases x<;>first|rfl|skip
 .show K (.i .i64 (Int.ofNat (F5 _)))=_
  rw[FR];rfl
 .show @Bool.rec (fun _=>Aj) none _ (Nat.ble _ AY)=_
  rw[BM];simp only[az];rw[Kj];rfl
 .show @Bool.rec (fun _=>Aj) none _ (Nat.ble _ AY)=_
  rw[BM];simp only[az];rw[Kj];rfl
def XT (x:V) (K:V->Aj):Aj:=@V.rec (fun _=>V->(V->Aj)->Aj) (fun _=>Unit) (fun _=>Unit) (fun _ x K=>none) (fun _ _ x K=>none) (fun _ x K=>none) (fun x K=>none) (fun _ _ x K=>K x) (fun _ _ x K=>K x) (fun _ _ _ x K=>none) (fun _ _ _ x K=>none) (fun _ _ _ _ x K=>none) (fun _ _ _ _ x K=>K x) (fun _ x K=>none) (fun x K=>none) (fun _ _ _ _ _ x K=>ob (M3 x) K) (fun x K=>none) (fun _ _ _ x K=>none) (fun x K=>none) (fun _ _ x K=>none) (fun _ _ x K=>none) (fun x K=>none) () (fun _ _ _ _=>()) () (fun _ _ _ _=>()) x x K
def bu (x:V) (K:V->Aj):XT x K=ob (M3 x) K:=by cases x<;>rfl
def asT (v:V) (K:List V->Aj):Aj:=@V.rec (fun _=>(List V->Aj)->Aj) (fun _=>Unit) (fun _=>Unit) (fun _ K=>none) (fun _ _ K=>none) (fun _ K=>none) (fun K=>none) (fun _ _ K=>none) (fun _ _ K=>none) (fun _ _ _ K=>none) (fun _ _ _ K=>none) (fun _ _ _ _ K=>none) (fun _ _ _ _ K=>none) (fun _ K=>none) (fun K=>none) (fun _ _ _ _ _ K=>none) (fun K=>none) (fun _ _ _ K=>none) (fun K=>none) (fun _ _ K=>none) (fun vs _ K=>K vs) (fun K=>none) () (fun _ _ _ _=>()) () (fun _ _ _ _=>()) v K
def oB (v:V) (K:Bool->Aj):Aj:=@V.rec (fun _=>(Bool->Aj)->Aj) (fun _=>Unit) (fun _=>Unit) (fun x K=>K x) (fun _ _ K=>none) (fun _ K=>none) (fun K=>none) (fun _ _ K=>none) (fun _ _ K=>none) (fun _ _ _ K=>none) (fun _ _ _ K=>none) (fun _ _ _ _ K=>none) (fun _ _ _ _ K=>none) (fun _ K=>none) (fun K=>none) (fun _ _ _ _ _ K=>none) (fun K=>none) (fun _ _ _ K=>none) (fun K=>none) (fun _ _ K=>none) (fun _ _ K=>none) (fun K=>none) () (fun _ _ _ _=>()) () (fun _ _ _ _=>()) v K
def asA (v:V) (K:List V->Aj):Aj:=@V.rec (fun _=>(List V->Aj)->Aj) (fun _=>Unit) (fun _=>Unit) (fun _ K=>none) (fun _ _ K=>none) (fun _ K=>none) (fun K=>none) (fun _ _ K=>none) (fun _ _ K=>none) (fun _ _ _ K=>none) (fun _ _ _ K=>none) (fun _ _ _ _ K=>none) (fun _ _ _ _ K=>none) (fun _ K=>none) (fun K=>none) (fun _ _ _ _ _ K=>none) (fun K=>none) (fun _ _ _ K=>none) (fun K=>none) (fun cs _ K=>K cs) (fun _ _ K=>none) (fun K=>none) () (fun _ _ _ _=>()) () (fun _ _ _ _=>()) v K
def XH (v:V) (K:V->Aj):Aj:=@V.rec (fun _=>V->(V->Aj)->Aj) (fun _=>Unit) (fun _=>Unit) (fun x v K=>@Bool.rec (fun _=>Aj) (K (.b false)) (K (.b true)) x) (fun k n v K=>@Int.rec (fun _=>Aj) (fun m=>@Nat.rec (fun _=>Aj) (K (.i k (Int.ofNat 0))) (fun j _=>K (.i k (Int.ofNat (Nat.succ j)))) m) (fun m=>@Nat.rec (fun _=>Aj) (K (.i k (Int.negSucc 0))) (fun j _=>K (.i k (Int.negSucc (Nat.succ j)))) m) n) (fun _ v K=>K v) (fun v K=>K v) (fun _ _ v K=>K v) (fun _ _ v K=>K v) (fun _ _ _ v K=>K v) (fun _ _ _ v K=>K v) (fun _ _ _ _ v K=>K v) (fun _ _ _ _ v K=>K v) (fun _ v K=>K v) (fun v K=>K v) (fun _ _ _ _ _ v K=>K v) (fun v K=>K v) (fun _ _ _ v K=>K v) (fun v K=>K v) (fun _ _ v K=>K v) (fun _ _ v K=>K v) (fun v K=>K v) () (fun _ _ _ _=>()) () (fun _ _ _ _=>()) v v K
def Zo (v:V) (K:V->Aj):XH v K=K v:=by
 cases v<;>first|rfl|skip
 .rename_i x;cases x<;>rfl
 .rename_i k n
  cases n with
  | ofNat m=>cases m<;>rfl
  | negSucc m=>cases m<;>rfl
def fin (o:Option (R×St)) (k kp:V->St->Aj):Aj:=match o with
 | some (.ret v,s)=>k v s
 | some (.Bb v,s)=>kp v s
 | none=>none
def CG (o:Option (R×St)) (k kp:V->St->Aj):Aj:=@Option.rec (R×St) (fun _=>(V->St->Aj)->(V->St->Aj)->Aj) (fun _ _=>none) (fun p k kp=>@R.rec (fun _=>St->(V->St->Aj)->(V->St->Aj)->Aj) (fun v s k _=>k v s) (fun v s _ kp=>kp v s) p.1 p.2 k kp) o k kp
def Bm (o:Option (R×St)) (k kp:V->St->Aj):CG o k kp=fin o k kp:=by
 cases o with
 | none=>rfl
 | some p=>
   obtain⟨r,s⟩:=p;cases r<;>rfl
def Gz (o:Option V) (s:St) (k kp:V->St->Aj):fin (ov o s) k kp=ob o fun v=>k v s:=by cases o<;>rfl
def rX (o:Option St) (k kp:V->St->Aj):fin (os o) k kp=ob o fun s=>k (.t []) s:=by cases o<;>rfl
def BS {α:Type} (o:Option α) (f:α->Option (R×St)) (k kp:V->St->Aj):fin (ob o f) k kp=ob o fun a=>fin (f a) k kp:=by cases o<;>rfl
abbrev OK:=CF->CV->CP->CH->St->(V->St->Aj)->(V->St->Aj)->Aj
def Ta (e:CH) (ps:List (Nat×Nat×Bf)) (cs:List V) (K:List V->Aj):Aj:=@List.rec (Nat×Nat×Bf) (fun _=>List V->(List V->Aj)->Aj) (fun cs K=>K cs)
 (fun p _ ih cs K=>Bq p.2.2 e fun v=>G1 v fun vc=>@Bool.rec (fun _=>Aj) none (@Bool.rec (fun _=>Aj) none (ih (dm cs p.1 vc) K) (Nat.ble (Nat.add p.1 p.2.1) (F5 cs))) (Nat.beq (F5 vc) p.2.1)) ps cs K
def Sf {e : CH} {env:Env} (he:Iw e env): ∀(ps:List (Nat×Nat×Bf)) (cs:List V) (K:List V->Aj),Ta e ps cs K=ob (M5 env cs ps) K
 | [],cs,K=>rfl
 | (off, sz,x)::r,cs,K=>by
   show(Bq x e fun v=>G1 v fun vc=>@Bool.rec (fun _=>Aj) none (@Bool.rec (fun _=>Aj) none (Ta e r (dm cs off vc) K) (Nat.ble (off+sz) (F5 cs))) (Nat.beq (F5 vc) sz))=_;rw[BF he];simp only[M5];cases DN env x with
   | none=>rfl
   | some v=>
     simp only[ob];rw[Hk];cases cellsOf v with
     | none=>rfl
     | some vc=>
       simp only[ob,FR,Of];cases Nat.beq vc.length sz with
       | false=>rfl
       | true=>
         cases Nat.ble (off+sz) cs.length with
         | false=>rfl
         | true=>exact Sf he r _ K
def Tb (e:CH) (sz:Nat) (ps:List (Nat×Bf)) (es:List (List V)) (K:List (List V)->Aj):Aj:=@List.rec (Nat×Bf) (fun _=>List (List V)->(List (List V)->Aj)->Aj) (fun es K=>K es)
 (fun p _ ih es K=>Bq p.2 e fun v=>G1 v fun vc=>@Bool.rec (fun _=>Aj) none (@Bool.rec (fun _=>Aj) none (ih (XD es p.1 vc) K) (Nat.ble (Nat.succ p.1) (F5 es))) (Nat.beq (F5 vc) sz)) ps es K
def Sh {e : CH} {env:Env} (he:Iw e env) (sz:Nat): ∀(ps:List (Nat×Bf)) (es:List (List V)) (K:List (List V)->Aj),Tb e sz ps es K=ob (M6 env sz es ps) K
 | [],es,K=>rfl
 | (i, x)::r,es,K=>by
   show(Bq x e fun v=>G1 v fun vc=>@Bool.rec (fun _=>Aj) none (@Bool.rec (fun _=>Aj) none (Tb e sz r (XD es i vc) K) (Nat.ble (Nat.succ i) (F5 es))) (Nat.beq (F5 vc) sz))=_;rw[BF he];simp only[M6];cases DN env x with
   | none=>rfl
   | some v=>
     simp only[ob];rw[Hk];cases cellsOf v with
     | none=>rfl
     | some vc=>
       simp only[ob,FR,Tp,Nat.blt,Nat.succ_eq_add_one];cases Nat.beq vc.length sz with
       | false=>rfl
       | true=>
         cases Nat.ble (i+1) es.length with
         | false=>rfl
         | true=>exact Sh he sz r _ K
def xx (o:Fh):OK:=@Fh.rec (fun _=>OK)
 (fun x cf cv cp env s kk kp=>Bq x env fun v=>kk v s)
 (fun x cf cv cp env s kk kp=>Bq x env fun v=>kk v s)
 (fun c a b cf cv cp env s kk kp=>Bq c env fun vc=>Bq a env fun va=>Bq b env fun vb=>oB vc fun t=>@Bool.rec (fun _=>Aj) (kk vb s) (kk va s) t)
 (fun op x y cf cv cp env s kk kp=>Bq x env fun vx=>Bq y env fun vy=>kW op vx vy fun v=>kk v s)
 (fun neg x y cf cv cp env s kk kp=>Bq x env fun vx=>Bq y env fun vy=>CG (match vx,vy with| .b p,.b q=>some (.ret (.b (bif neg then p != q else p==q)),s)|_,_=>none) kk kp)
 (fun len neg x y cf cv cp env s kk kp=>Bq x env fun vx=>Bq y env fun vy=>CG (ov (eG len neg vx vy) s) kk kp)
 (fun kind neg x cf cv cp env s kk kp=>Bq x env fun vx=>CG (ov (eF kind neg vx) s) kk kp)
 (fun x cf cv cp env s kk kp=>Bq x env fun vx=>oB vx fun p=>kk (.b (TA p)) s)
 (fun xor x cf cv cp env s kk kp=>Bq x env fun vx=>CG (match vx with| .i ka a=>some (.ret (.i ka (bif xor then bits .xor ka (bif ka.signed then -1 else ka.max) a else ka.wrap (0 - a))),s)|_=>none) kk kp)
 (fun k x cf cv cp env s kk kp=>Bq x env fun vx=>CG (match vx with| .i _ a=>some (.ret (.i k (IP k a)),s)|_=>none) kk kp)
 (fun x cf cv cp env s kk kp=>Bq x env fun vx=>G1 vx fun cs=>du s (.cs cs) fun i s=>kk (.p i 0) s)
 (fun x cf cv cp env s kk kp=>Bq x env fun vx=>G1 vx fun cs=>kk (.rp cs) s)
 (fun sz bytes x y cf cv cp env s kk kp=>Bq x env fun vx=>Bq y env fun vy=>CG (ov (VE bytes s sz vx vy) s) kk kp)
 (fun zero cf cv cp env s kk kp=>CG (bif B6 zero then s.new (.cs zero) fun i s=>some (.ret (.p i 0),s)else none) kk kp)
 (fun zero parts cf cv cp env s kk kp=>@Bool.rec (fun _=>Aj) none (Ta env parts zero fun cs=>kk (.a cs) s) (B6 zero))
 (fun sz len zero parts cf cv cp env s kk kp=>@Bool.rec (fun _=>Aj) none (Tb env (F5 zero) parts (List.replicate len zero) fun es=>kk (.l es true) s) (B6 zero))
 (fun agg x cf cv cp env s kk kp=>Bq x env fun vx=>eS s agg vx fun v=>kk v s)
 (fun sz a x cf cv cp env s kk kp=>Bq a env fun va=>Bq x env fun vx=>TK s sz va vx fun s=>kk (.t []) s)
 (fun off x cf cv cp env s kk kp=>Bq x env fun vx=>Xb off vx fun v=>kk v s)
 (fun agg off x cf cv cp env s kk kp=>Bq x env fun vx=>asA vx fun cs=>XJ agg cs off fun v=>kk v s)
 (fun sz arr x i cf cv cp env s kk kp=>Bq x env fun vx=>Bq i env fun vi=>XY sz arr vx vi fun v=>kk v s)
 (fun len sz agg x i cf cv cp env s kk kp=>Bq x env fun vx=>Bq i env fun vi=>CG (ov (PR len sz agg vx vi) s) kk kp)
 (fun sz x lo hi mx cf cv cp env s kk kp=>Bq x env fun vx=>XF lo env fun l=>XF hi env fun h=>XF mx env fun m=>CG (aV (PQ s sz vx l h m)) kk kp)
 (fun x cf cv cp env s kk kp=>Bq x env fun vx=>pg vx fun v=>kk v s)
 (fun x cf cv cp env s kk kp=>Bq x env fun vx=>CG (ov (VC s vx) s) kk kp)
 (fun x cf cv cp env s kk kp=>Bq x env fun vx=>CG (ov (eE s vx) s) kk kp)
 (fun x i cf cv cp env s kk kp=>Bq x env fun vx=>Bq i env fun vi=>CG (ov (VB vx vi) s) kk kp)
 (fun sz bytes x y cf cv cp env s kk kp=>Bq x env fun vx=>Bq y env fun vy=>CG (aV (Lo bytes s sz vx vy)) kk kp)
 (fun sz x y cf cv cp env s kk kp=>Bq x env fun vx=>Bq y env fun vy=>CG (aV (VD s sz vx vy)) kk kp)
 (fun x y cf cv cp env s kk kp=>Bq x env fun vx=>Bq y env fun vy=>CG (match vx,vy with| .i ka a,.i kb b=>bif decide (ka=kb)then some (.ret (.i ka (bif Mh a b then b else a)),s)else none|_,_=>none) kk kp)
 (fun x y cf cv cp env s kk kp=>Bq x env fun vx=>Bq y env fun vy=>CG (match vx,vy with| .i ka a,.i kb b=>bif decide (ka=kb)then some (.ret (.i ka (bif Mh b a then b else a)),s)else none|_,_=>none) kk kp)
 (fun i x cf cv cp env s kk kp=>Bq x env fun vx=>asT vx fun vs=>S9 vs i fun v=>kk v s)
 (fun x cf cv cp env s kk kp=>Bq x env fun vx=>XT vx fun v=>kk v s)
 (fun f first cap cf cv cp env s kk kp=>LO first env fun vf=>LO cap env fun vc=>@Bool.rec (fun _=>Aj) none (kk (.f f vf vc) s) (Mu f))
 (fun cf cv cp env s kk kp=>CG (s.new (.map []) fun i s=>some (.ret (.m i),s)) kk kp)
 (fun sz bytes zero len cap cf cv cp env s kk kp=>Bq len env fun vx=>Bq cap env fun vy=>CG (aV (JI s sz zero vx vy)) kk kp)
 (fun ks zero ok m k cf cv cp env s kk kp=>Bq m env fun vm=>Bq k env fun vk=>CG (ov (Lm s ks zero ok vm vk) s) kk kp)
 (fun ks m k v cf cv cp env s kk kp=>Bq m env fun vm=>Bq k env fun vk=>Bq v env fun vx=>CG (os (Ll s ks vm vk vx)) kk kp)
 (fun t x cf cv cp env s kk kp=>Bq x env fun vx=>kk (.Ey t vx) s)
 (fun t zero ok x cf cv cp env s kk kp=>Bq x env fun vx=>CG (ov (dz t zero ok vx) s) kk kp)
 (fun x cf cv cp env s kk kp=>Bq x env fun vx=>CG (match vx with| .Ey t v=>some (.Bb (.Ey t v),s)|_=>none) kk kp)
 (fun f args cf cv cp env s kk kp=>LO args env fun vs=>CG (cf f vs s) kk kp)
 (fun f args cf cv cp env s kk kp=>LO args env fun vs=>CG (ov (cp f vs) s) kk kp)
 (fun x args cf cv cp env s kk kp=>Bq x env fun vx=>LO args env fun vs=>CG (cv vx vs s) kk kp)
 (fun x args cf cv cp env s kk kp=>none)
 (fun tab x args cf cv cp env s kk kp=>Bq x env fun vx=>LO args env fun vs=>CG (match vx with| .Ey t v=>ob (look t tab) fun f=>cf f (v::vs) s|_=>none) kk kp) o
def iH {vc va vb:V} {s:St} {kk kp:V->St->Aj}:oB vc (fun t=>@Bool.rec (fun _=>Aj) (kk vb s) (kk va s) t)=fin (match vc with| .b t=>some (.ret (bif t then va else vb),s)|_=>none) kk kp:=by
 cases vc<;>first|rfl|skip
 rename_i t;cases t<;>rfl
def not_eq {vx:V} {s:St} {kk kp:V->St->Aj}:oB vx (fun p=>kk (.b (TA p)) s)=fin (match vx with| .b p=>some (.ret (.b (!p)),s)|_=>none) kk kp:=by
 cases vx<;>first|rfl|skip
 rename_i t;cases t<;>rfl
def UA {c:Bool} {x:Option (R×St)} {kk kp:V->St->Aj}:fin (bif c then x else none) kk kp=bif c then fin x kk kp else none:=by cases c<;>rfl
def fN {e:CH} {env:Env} (he:Iw e env) (o:Fh) (cf:CF) (cv:CV) (cp:CP) (s:St) (kk kp:V->St->Aj):xx o cf cv cp e s kk kp=fin (Fg cf cv cp o env s) kk kp:=by
 cases o with
 | mv x=>
   show(Bq x e fun v=>kk v s)=_;simp only[BF he,Fg,Gz]
 | jy x=>
   show(Bq x e fun v=>kk v s)=_;simp only[BF he,Fg,Gz]
 | pick c a b=>
   show(Bq c e fun vc=>Bq a e fun va=>Bq b e fun vb=>oB vc fun t=>@Bool.rec (fun _=>Aj) (kk vb s) (kk va s) t)=_;simp only[BF he,Fg,BS,iH (kp:=kp)];rfl
 | bin op x y=>
   show(Bq x e fun vx=>Bq y e fun vy=>kW op vx vy fun v=>kk v s)=_;simp only[BF he,Fg,BS,Gz,nU]
 | kD neg x y=>
   show(Bq x e fun vx=>Bq y e fun vy=>CG (match vx,vy with| .b p,.b q=>some (.ret (.b (bif neg then p != q else p==q)),s)|_,_=>none) kk kp)=_;simp only[BF he,Bn he,Bv he,Fg,BS,Bm]
   try rfl
 | W9 len neg x y=>
   show(Bq x e fun vx=>Bq y e fun vy=>CG (ov (eG len neg vx vy) s) kk kp)=_;simp only[BF he,Bn he,Bv he,Fg,BS,Bm]
   try rfl
 | aX kind neg x=>
   show(Bq x e fun vx=>CG (ov (eF kind neg vx) s) kk kp)=_;simp only[BF he,Bn he,Bv he,Fg,BS,Bm]
   try rfl
 | not x=>
   show(Bq x e fun vx=>oB vx fun p=>kk (.b (TA p)) s)=_;simp only[BF he,Fg,BS,not_eq (kp:=kp)];rfl
 | neg xor x=>
   show(Bq x e fun vx=>CG (match vx with| .i ka a=>some (.ret (.i ka (bif xor then bits .xor ka (bif ka.signed then -1 else ka.max) a else ka.wrap (0 - a))),s)|_=>none) kk kp)=_;simp only[BF he,Bn he,Bv he,Fg,BS,Bm]
   try rfl
 | conv k x=>
   show(Bq x e fun vx=>CG (match vx with| .i _ a=>some (.ret (.i k (IP k a)),s)|_=>none) kk kp)=_;simp only[BF he,Bn he,Bv he,Fg,BS,Bm]
   try rfl
 | box x=>
   show(Bq x e fun vx=>G1 vx fun cs=>du s (.cs cs) fun i s=>kk (.p i 0) s)=_;simp only[BF he,Fg,BS,Hk];congr 1;funext vx;congr 1;funext cs;have: ∀o:Option (R×St),fin o kk kp=ob o fun p=>fin (some p) kk kp:=fun o=>by cases o<;>rfl
   rw[this,lu];rfl
 | Q8 x=>
   show(Bq x e fun vx=>G1 vx fun cs=>kk (.rp cs) s)=_;simp only[BF he,Fg,BS,Hk];rfl
 | Q9 sz bytes x y=>
   show(Bq x e fun vx=>Bq y e fun vy=>CG (ov (VE bytes s sz vx vy) s) kk kp)=_;simp only[BF he,Bn he,Bv he,Fg,BS,Bm]
   try rfl
 | alloc zero=>
   show(CG (bif B6 zero then s.new (.cs zero) fun i s=>some (.ret (.p i 0),s)else none) kk kp)=_;simp only[Bm,Fg]
 | build zero parts=>
   show(@Bool.rec (fun _=>Aj) none (Ta e parts zero fun cs=>kk (.a cs) s) (B6 zero))=_;simp only[Fg,UA,BS,Sf he,BM];rfl
 | Di sz len zero parts=>
   show(@Bool.rec (fun _=>Aj) none (Tb e (F5 zero) parts (List.replicate len zero) fun es=>kk (.l es true) s) (B6 zero))=_;simp only[Fg,UA,BS,Sh he,BM,FR];rfl
 | load agg x=>
   show(Bq x e fun vx=>eS s agg vx fun v=>kk v s)=_;simp only[BF he,Fg,BS,Gz,iY]
 | store sz a x=>
   show(Bq a e fun va=>Bq x e fun vx=>TK s sz va vx fun s=>kk (.t []) s)=_;simp only[BF he,Fg,BS,rX,bJ]
 | Bs off x=>
   show(Bq x e fun vx=>Xb off vx fun v=>kk v s)=_;simp only[BF he,Fg,BS,Gz,cd]
 | field agg off x=>
   show(Bq x e fun vx=>asA vx fun cs=>XJ agg cs off fun v=>kk v s)=_;simp only[BF he,Fg,BS];congr 1;funext vx;cases vx<;>first|rfl|skip
   show XJ agg _ off _=_;rw[Oq,Gz]
 | I7 sz arr x i=>
   show(Bq x e fun vx=>Bq i e fun vi=>XY sz arr vx vi fun v=>kk v s)=_;simp only[BF he,Fg,BS,Gz,cI]
 | index len sz agg x i=>
   show(Bq x e fun vx=>Bq i e fun vi=>CG (ov (PR len sz agg vx vi) s) kk kp)=_;simp only[BF he,Bn he,Bv he,Fg,BS,Bm]
   try rfl
 | slice sz x lo hi mx=>
   show(Bq x e fun vx=>XF lo e fun l=>XF hi e fun h=>XF mx e fun m=>CG (aV (PQ s sz vx l h m)) kk kp)=_;simp only[BF he,Bn he,Bv he,Fg,BS,Bm]
   try rfl
 | len x=>
   show(Bq x e fun vx=>pg vx fun v=>kk v s)=_;simp only[BF he,Fg,BS,Gz,l7]
 | TC x=>
   show(Bq x e fun vx=>CG (ov (VC s vx) s) kk kp)=_;simp only[BF he,Bn he,Bv he,Fg,BS,Bm]
   try rfl
 | str x=>
   show(Bq x e fun vx=>CG (ov (eE s vx) s) kk kp)=_;simp only[BF he,Bn he,Bv he,Fg,BS,Bm]
   try rfl
 | Uk x i=>
   show(Bq x e fun vx=>Bq i e fun vi=>CG (ov (VB vx vi) s) kk kp)=_;simp only[BF he,Bn he,Bv he,Fg,BS,Bm]
   try rfl
 | append sz bytes x y=>
   show(Bq x e fun vx=>Bq y e fun vy=>CG (aV (Lo bytes s sz vx vy)) kk kp)=_;simp only[BF he,Bn he,Bv he,Fg,BS,Bm]
   try rfl
 | copy sz x y=>
   show(Bq x e fun vx=>Bq y e fun vy=>CG (aV (VD s sz vx vy)) kk kp)=_;simp only[BF he,Bn he,Bv he,Fg,BS,Bm]
   try rfl
 | Um x y=>
   show(Bq x e fun vx=>Bq y e fun vy=>CG (match vx,vy with| .i ka a,.i kb b=>bif decide (ka=kb)then some (.ret (.i ka (bif Mh a b then b else a)),s)else none|_,_=>none) kk kp)=_;simp only[BF he,Bn he,Bv he,Fg,BS,Bm]
   try rfl
 | Ul x y=>
   show(Bq x e fun vx=>Bq y e fun vy=>CG (match vx,vy with| .i ka a,.i kb b=>bif decide (ka=kb)then some (.ret (.i ka (bif Mh b a then b else a)),s)else none|_,_=>none) kk kp)=_;simp only[BF he,Bn he,Bv he,Fg,BS,Bm]
   try rfl
 | extract i x=>
   show(Bq x e fun vx=>asT vx fun vs=>S9 vs i fun v=>kk v s)=_;simp only[BF he,Fg,BS];congr 1;funext vx;cases vx<;>first|rfl|skip
   show S9 _ i _=_;rw[Lf,Gz]
 | EX x=>
   show(Bq x e fun vx=>XT vx fun v=>kk v s)=_;simp only[BF he,Fg,BS,Gz,bu]
 | Yi f first cap=>
   show(LO first e fun vf=>LO cap e fun vc=>@Bool.rec (fun _=>Aj) none (kk (.f f vf vc) s) (Mu f))=_;simp only[Bn he,Fg,UA,BS,BM];rfl
 | Np=>
   show(CG (s.new (.map []) fun i s=>some (.ret (.m i),s)) kk kp)=_;simp only[Bm,Fg]
 | Fp sz bytes zero len cap=>
   show(Bq len e fun vx=>Bq cap e fun vy=>CG (aV (JI s sz zero vx vy)) kk kp)=_;simp only[BF he,Bn he,Bv he,Fg,BS,Bm]
   try rfl
 | lookup ks zero ok m k=>
   show(Bq m e fun vm=>Bq k e fun vk=>CG (ov (Lm s ks zero ok vm vk) s) kk kp)=_;simp only[BF he,Bn he,Bv he,Fg,BS,Bm]
   try rfl
 | FG ks m k v=>
   show(Bq m e fun vm=>Bq k e fun vk=>Bq v e fun vx=>CG (os (Ll s ks vm vk vx)) kk kp)=_;simp only[BF he,Bn he,Bv he,Fg,BS,Bm]
   try rfl
 | Nq t x=>
   show(Bq x e fun vx=>kk (.Ey t vx) s)=_;simp only[BF he,Fg,BS];rfl
 | aT t zero ok x=>
   show(Bq x e fun vx=>CG (ov (dz t zero ok vx) s) kk kp)=_;simp only[BF he,Bn he,Bv he,Fg,BS,Bm]
   try rfl
 | panic x=>
   show(Bq x e fun vx=>CG (match vx with| .Ey t v=>some (.Bb (.Ey t v),s)|_=>none) kk kp)=_;simp only[BF he,Bn he,Bv he,Fg,BS,Bm]
   try rfl
 | call f args=>
   show(LO args e fun vs=>CG (cf f vs s) kk kp)=_;simp only[BF he,Bn he,Bv he,Fg,BS,Bm]
   try rfl
 | HK f args=>
   show(LO args e fun vs=>CG (ov (cp f vs) s) kk kp)=_;simp only[BF he,Bn he,Bv he,Fg,BS,Bm]
   try rfl
 | Ih x args=>
   show(Bq x e fun vx=>LO args e fun vs=>CG (cv vx vs s) kk kp)=_;simp only[BF he,Bn he,Bv he,Fg,BS,Bm]
   try rfl
 | Xg x args=>
   rfl
 | inv tab x args=>
   show(Bq x e fun vx=>LO args e fun vs=>CG (match vx with| .Ey t v=>ob (look t tab) fun f=>cf f (v::vs) s|_=>none) kk kp)=_;simp only[BF he,Bn he,Bv he,Fg,BS,Bm]
   try rfl
def pt (g:Bool) (t:Bool) (y:Aj) (n:Aj):Aj:=@Bool.rec (fun _=>Aj) (@Bool.rec (fun _=>Aj) y n g) (@Bool.rec (fun _=>Aj) n y g) t
def mQ (g t:Bool) (y n:Aj):pt g t y n=bif t==g then y else n:=by cases g<;>cases t<;>rfl
def wQ (v:V) (g:Bool) (y:Aj) (n:Aj):Aj:=@V.rec (fun _=>Bool->Aj->Aj->Aj) (fun _=>Unit) (fun _=>Unit) (fun t g y n=>pt g t y n) (fun _ _ g y n=>none) (fun _ g y n=>none) (fun g y n=>none) (fun _ _ g y n=>none) (fun _ _ g y n=>none) (fun _ _ _ g y n=>none) (fun _ _ _ g y n=>none) (fun _ _ _ _ g y n=>none) (fun _ _ _ _ g y n=>none) (fun _ g y n=>none) (fun g y n=>none) (fun _ _ _ _ _ g y n=>none) (fun g y n=>none) (fun _ _ _ g y n=>none) (fun g y n=>none) (fun _ _ g y n=>none) (fun vs _ g y n=>@List.rec V (fun _=>Aj->Aj) (fun n=>n) (fun _ _ _ _=>none) vs n) (fun g y n=>none) () (fun _ _ _ _=>()) () (fun _ _ _ _=>()) v g y n
def yd (g:Nat×Bool) (o:Fh):OK:=fun cf cv cp e s kk kp=>Bq (.t g.1) e fun v=>wQ v g.2 (xx o cf cv cp e s kk kp) (kk (.t []) s)
def XC (g:Option (Nat×Bool)) (o:Fh):OK:=@Option.rec (Nat×Bool) (fun _=>Fh->OK) (fun o=>xx o) (fun g o=>yd g o) g o
def To {e:CH} {env:Env} (he:Iw e env) (d:Option Nat) (g:Option (Nat×Bool)) (o:Fh) (cf:CF) (cv:CV) (cp:CP) (s:St) (kk kp:V->St->Aj):XC g o cf cv cp e s kk kp=fin (Iu cf cv cp ⟨d,o,g⟩ env s) kk kp:=by
 cases g with
 | none=>exact fN he o cf cv cp s kk kp
 | some g=>
   obtain⟨g,b⟩:=g;show(Bq (.t g) e fun v=>wQ v b (xx o cf cv cp e s kk kp) (kk (.t []) s))=_;rw[BF he,fN he];simp only[Iu,DN];cases get g env with
   | none=>rfl
   | some v=>
     simp only[ob];cases v<;>first|rfl|skip
     .rename_i t
      show pt b t _ _=_;rw[mQ];simp only;cases t==b<;>rfl
     .rename_i vs
      cases vs<;>rfl
def No (d:Option Nat) (v:V) (e:CH):CH:=@Option.rec Nat (fun _=>V->CH->CH) (fun _ e=>e) (fun d v e=>⟨Nat.lor e.1 (Nat.shiftLeft 1 d),(d,v)::e.2⟩) d v e
def KU (M n:Nat):OX M n=M.testBit n:=by
 have h1:(M >>> n)&&&1=(M >>> n) % 2:=Nat.and_one_is_mod _;have h2:OX M n=Nat.beq ((M >>> n)&&&1) 1:=rfl;rw[h2,h1,Nat.testBit_eq_decide_div_mod_eq,Nat.shiftRight_eq_div_pow];cases h:decide (M / 2 ^ n % 2=1)with
 | true=>rw[of_decide_eq_true h];rfl
 | false=>
   have:=of_decide_eq_false h;cases hb:Nat.beq (M / 2 ^ n % 2) 1 with
   | false=>rfl
   | true=>exact absurd (UX hb) this
def PU (M d n:Nat):OX (Nat.lor M (Nat.shiftLeft 1 d)) n=(OX M n||Nat.beq d n):=by
 rw[KU,KU];show(M|||1 <<< d).testBit n=_;rw[Nat.testBit_or,Nat.one_shiftLeft,Nat.testBit_two_pow];congr 1;cases hb:Nat.beq d n with
 | true=>simp[UX hb]
 | false=>simpa using Nat.ne_of_beq_eq_false hb
def Iw.push {e:CH} {env:Env} (he:Iw e env) (d:Option Nat) (v:V):Iw (No d v e) (put d v env):=by
 cases d with
 | none=>exact he
 | some d=>
   intro n;show(bif OX (Nat.lor e.1 (Nat.shiftLeft 1 d)) n then(bif Nat.beq d n then some v else get n e.2)else none)=bif Nat.beq d n then some v else get n env;rw[PU,<-he n,TG];cases Nat.beq d n<;>cases OX e.1 n<;>rfl
def dt (ops:List Am) (cf:CF) (cv:CV) (cp:CP) (env:CH) (s:St):Aj:=@List.rec Am (fun _=>CF->CV->CP->CH->St->Aj) (fun _ _ _ env s=>some (.normal,env,s))
 (fun o _ ih cf cv cp env s=>XC o.3 o.2 cf cv cp env s (fun v s=>XH v fun v=>ih cf cv cp (No o.1 v env) s) (fun v s=>some (.Bb v,env,s))) ops cf cv cp env s
def GU:Aj->Rs->Prop
 | some (x,e,s),some (x',env,s')=>x=x'/\s=s'/\Iw e env
 | none,none=>True
 | _,_=>False
def ZS (cf:CF) (cv:CV) (cp:CP): ∀(ops:List Am) {e:CH} {env:Env} (s:St),Iw e env->GU (dt ops cf cv cp e s) (Ut cf cv cp ops env s)
 | [],e,env,s,he=>⟨rfl,rfl,he⟩
 | o ::r,e,env,s,he=>by
   show GU (XC o.3 o.2 cf cv cp e s (fun v s=>XH v fun v=>dt r cf cv cp (No o.1 v e) s) (fun v s=>some (.Bb v,e,s))) _;rw[To he o.1];show GU (fin (Iu cf cv cp o env s) _ _) _;simp only[Ut];cases Iu cf cv cp o env s with
   | none=>trivial
   | some p=>
     obtain⟨x,s'⟩:=p;cases x with
     | Bb v=>exact⟨rfl,rfl,he⟩
     | ret v=>
       show GU (XH v fun v=>dt r cf cv cp (No o.1 v e) s') (Hw v _);rw[Zo,He];exact ZS cf cv cp r s' (he.push o.1 v)
def vW (re:List Am) (cf:CF) (cv:CV) (cp:CP) (e:CH) (s:St) (K:Aj):Aj:=@List.rec Am (fun _=>CF->CV->CP->CH->St->Aj->Aj) (fun _ _ _ _ _ K=>K)
 (fun o _ ih cf cv cp e s K=>XC o.3 o.2 cf cv cp e s (fun u _=>@Option.rec Nat (fun _=>Aj) (ih cf cv cp e s K) (fun d=>Bq (.t d) e fun w=>@Bool.rec (fun _=>Aj) none (ih cf cv cp e s K) (Eg u w)) o.1) (fun _ _=>none)) re cf cv cp e s K
def fE (cf:CF) (cv:CV) (cp:CP) {e:CH} {env:Env} (he:Iw e env) (s:St) (K:Aj): ∀re:List Am,vW re cf cv cp e s K=bif jv cf cv cp re env s then K else none
 | []=>rfl
 | o ::r=>by
   show XC o.3 o.2 cf cv cp e s (fun u _=>@Option.rec Nat (fun _=>Aj) (vW r cf cv cp e s K) (fun d=>Bq (.t d) e fun w=>@Bool.rec (fun _=>Aj) none (vW r cf cv cp e s K) (Eg u w)) o.1) (fun _ _=>none)=_;rw[To he o.1,fE cf cv cp he s K r]
   have h':jv cf cv cp (o::r) env s=((match Iu cf cv cp o env s with
    | some (.ret u,_)=>match o.dst with
      | none=>true
      | some d=>match get d env with|some w=>Eg u w|none=>false
    | _=>false)&&jv cf cv cp r env s):=rfl
   rw[h'];show fin (Iu cf cv cp o env s) _ _=_;cases Iu cf cv cp o env s with
   | none=>rfl
   | some p=>
     obtain⟨x,s'⟩:=p;cases x with
     | Bb v=>rfl
     | ret u=>
       obtain⟨d,op,g⟩:=o;cases d with
       | none=>simp only[fin,G7]
       | some d=>
         simp only[fin];rw[BF he];simp only[DN];cases get d env with
         | none=>rfl
         | some w=>
           simp only[ob];cases Eg u w<;>simp
def VG (ops:List Cd) (cf:CF) (cv:CV) (cp:CP) (e:CH) (s:St):Aj:=@List.rec Cd (fun _=>CF->CV->CP->CH->St->Aj) (fun _ _ _ e s=>some (.normal,e,s))
 (fun d _ ih cf cv cp e s=>XC d.2.3 d.2.2 cf cv cp e s (fun v s=>XH v fun v=>(fun e=>vW d.4 cf cv cp e s (ih cf cv cp e s)) (No d.2.1 v e)) (fun v s=>some (.Bb v,⟨0,[]⟩,s))) ops cf cv cp e s
def Iw.nil {M:Nat}:Iw ⟨M,[]⟩ []:=fun n=>by
 show(bif OX M n then none else none)=none;cases OX M n<;>rfl
def V5 (cf:CF) (cv:CV) (cp:CP): ∀(ops:List Cd) {e:CH} {env:Env} (s:St),Iw e env->GU (VG ops cf cv cp e s) (Rg cf cv cp ops env s)
 | [],e,env,s,he=>⟨rfl,rfl,he⟩
 | d ::r,e,env,s,he=>by
   show GU (XC d.2.3 d.2.2 cf cv cp e s (fun v s=>XH v fun v=>(fun e=>vW d.4 cf cv cp e s (VG r cf cv cp e s)) (No d.2.1 v e)) (fun v s=>some (.Bb v,⟨0,[]⟩,s))) _;rw[To he d.2.1];show GU (fin (Iu cf cv cp d.o env s) _ _) _;simp only[Rg];cases Iu cf cv cp d.o env s with
   | none=>trivial
   | some p=>
     obtain⟨x,s'⟩:=p;cases x with
     | Bb v=>exact⟨rfl,rfl,Iw.nil⟩
     | ret v=>
       show GU (XH v fun v=>vW d.4 cf cv cp (No d.2.1 v e) s' (VG r cf cv cp (No d.2.1 v e) s')) (Hw v _);rw[Zo,He,fE cf cv cp (he.push d.2.1 v)];show GU (bif jv cf cv cp d.re (put d.o.dst v env) s' then _ else none) (bif jv cf cv cp d.re (put d.o.dst v env) s' then _ else none);cases jv cf cv cp d.re (put d.o.dst v env) s' with
       | false=>trivial
       | true=>exact V5 cf cv cp r s' (he.push d.2.1 v)
def Rc (l:List Nat):Nat:=@List.rec Nat (fun _=>Nat) 0 (fun n _ ih=>Nat.lor ih (Nat.shiftLeft 1 n)) l
def Mv (l:List Nat) (e:CH):CH:=⟨Nat.land e.1 (Rc l),e.2⟩
def VN: ∀(l:List Nat) (n:Nat),OX (Rc l) n=l.any fun k=>Nat.beq k n
 | [],n=>by rw[KU];exact Nat.zero_testBit n
 | k::r,n=>by
   show OX (Nat.lor (Rc r) (Nat.shiftLeft 1 k)) n=_;rw[PU,VN r n,Q1,Bool.or_comm]
def MU: ∀(l:List Nat) (env:Env) (n:Nat),get n (prune l env)=bif l.any (fun k=>Nat.beq k n)then get n env else none
 | [],env,n=>rfl
 | k ::r,env,n=>by
   have ih:=MU r env n;simp only[prune,Q1];cases hk:Nat.beq k n with
   | true=>
     have:=UX hk;subst this;cases hg:get k env with
     | none=>
       simp only;rw[ih,hg];cases(r.any fun j=>Nat.beq j k)<;>rfl
     | some v=>simp[get,hk]
   | false=>
     simp only[Bool.false_or];cases hg:get k env with
     | none=>exact ih
     | some v=>
       simp only[get,hk,cond_false];exact ih
def Iw.prune {e:CH} {env:Env} (he:Iw e env) (l:List Nat):Iw (Mv l e) (Gl.prune l env):=fun n=>by
 show(bif OX (Nat.land e.1 (Rc l)) n then get n e.2 else none)=_
 have:OX (Nat.land e.1 (Rc l)) n=(OX e.1 n&&OX (Rc l) n):=by
  rw[KU,KU,KU];exact Nat.testBit_and _ _ _
 rw[this,MU,<-he n,TG,VN];cases OX e.1 n<;>cases(l.any fun k=>Nat.beq k n)<;>rfl
def Un (l:List Nat) (e:CH) (K:Env->Aj):Aj:=@List.rec Nat (fun _=>CH->(Env->Aj)->Aj) (fun _ K=>K [])
 (fun n _ ih e K=>@Bool.rec (fun _=>Aj) (ih e K) (@List.rec (Nat×V) (fun _=>Nat->Aj->(V->Aj)->Aj) (fun _ x _=>x) (fun p _ ih n x K=>@Bool.rec (fun _=>Aj) (ih n x K) (K p.2) (Nat.beq p.1 n)) e.2 n (ih e K) (fun v=>ih e fun r=>K ((n,v)::r))) (OX e.1 n)) l e K
def lA (env:Env) (n:Nat) (x:Aj) (K:V->Aj): @List.rec (Nat×V) (fun _=>Nat->Aj->(V->Aj)->Aj) (fun _ x _=>x) (fun p _ ih n x K=>@Bool.rec (fun _=>Aj) (ih n x K) (K p.2) (Nat.beq p.1 n)) env n x K=match get n env with|some v=>K v|none=>x:=by
 induction env with
 | nil=>rfl
 | cons p r ih=>
   obtain⟨j,v⟩:=p;show @Bool.rec (fun _=>Aj) _ (K v) (Nat.beq j n)=match(bif Nat.beq j n then some v else get n r)with|some v=>K v|none=>x
   cases Nat.beq j n
   .exact ih
   .rfl
def Oi {e:CH} {env:Env} (he:Iw e env): ∀(l:List Nat) (K:Env->Aj),Un l e K=K (Gl.prune l env)
 | [],K=>rfl
 | n ::r,K=>by
   show @Bool.rec (fun _=>Aj) (Un r e K) (@List.rec (Nat×V) (fun _=>Nat->Aj->(V->Aj)->Aj) (fun _ x _=>x) (fun p _ ih n x K=>@Bool.rec (fun _=>Aj) (ih n x K) (K p.2) (Nat.beq p.1 n)) e.2 n (Un r e K) (fun v=>Un r e fun r=>K ((n,v)::r))) (OX e.1 n)=_;rw[lA,Oi he r];simp only[Oi he r,Gl.prune];rw[<-he n,TG];cases OX e.1 n with
   | false=>rfl
   | true=>
     simp only[cond_true];cases get n e.2<;>rfl
def IX (env:Env):Nat:=@List.rec (Nat×V) (fun _=>Nat) 0 (fun p _ ih=>Nat.lor ih (Nat.shiftLeft 1 p.1)) env
def Ro: ∀(env:Env) (n:Nat),OX (IX env) n=(get n env).isSome
 | [],n=>by rw[KU];exact Nat.zero_testBit n
 | (k,v)::r,n=>by
   show OX (Nat.lor (IX r) (Nat.shiftLeft 1 k)) n=_;rw[PU,Ro r n];simp only[get];cases Nat.beq k n<;>simp
def Iw.of (env:Env):Iw ⟨IX env,env⟩ env:=fun n=>by
 show(bif OX (IX env) n then get n env else none)=_;rw[Ro];cases get n env<;>rfl
abbrev IH:=AV->CH->St->Aj
def RY (r:Aj) (K:CH->St->Aj):Aj:=@Option.rec (Aa×CH×St) (fun _=>(CH->St->Aj)->Aj) (fun _=>none) (fun p K=>@Aa.rec (fun _=>CH->St->(Aa×CH×St)->(CH->St->Aj)->Aj) (fun env s _ K=>K env s) (fun _ _ _ p _=>some p) (fun _ _ p _=>some p) (fun _ _ _ p _=>some p) p.1 p.2.1 p.2.2 p K) r K
def wx (r:Rs) (K':Env->St->Rs):Rs:=match r with|some (.normal,env,s)=>K' env s|r=>r
def NG {r:Aj} {r':Rs} (h:GU r r') {K:CH->St->Aj} {K':Env->St->Rs} (U: ∀e env s,Iw e env->GU (K e s) (K' env s)):GU (RY r K) (wx r' K'):=by
 cases r with
 | none=>cases r' with|none=>trivial|some p=>exact h.elim
 | some p=>
   cases r' with
   | none=>exact h.elim
   | some p'=>
     obtain⟨x,e,s⟩:=p;obtain⟨x',env,s'⟩:=p';obtain⟨rfl,rfl,he⟩:=h;cases x with
     | normal=>exact U e env s he
     | exit id=>exact⟨rfl,rfl,he⟩
     | ret=>exact⟨rfl,rfl,he⟩
     | Bb v=>exact⟨rfl,rfl,he⟩
def O5 (s:St) (e:CH):List RS->Option (List V)
 | []=>some []
 | .t n::r=>ob (TG e n) fun v=>ob (O5 s e r) fun vs=>some (v::vs)
 | .c n g::r=>ob (TG e n) fun a=>ob (Ny s g a) fun v=>ob (O5 s e r) fun vs=>some (v::vs)
def Yz (AG:List RS) (r:Aj):Option (R×St):=
 match r with
 | some (.normal,env,s)=>ob (O5 s env AG) fun vs=>some (.ret (Ef vs),s)
 | some (.ret,env,s)=>ob (O5 s env AG) fun vs=>some (.ret (Ef vs),s)
 | some (.Bb v,_,s)=>some (.Bb v,s)
 | _=>none
def VA (tab:Jx) (ih:IH) (g:FuncId) (cap:List V) (m:Option V) (AG:List RS) (env:CH) (s:St):Option (R×St):=
 match tab g with
 | some (.pK n k ops ac l)=>bif Nat.ble cap.length n then
  match ih (.seq l (.B5 ops) ac) ⟨IX (put (some k) (m.getD .DZ) (A2 0 cap)),put (some k) (m.getD .DZ) (A2 0 cap)⟩ s with
  | some (.normal,_,s')=>ob (O5 s' env AG) fun vs=>some (.ret (Ef vs),s')
  | some (.ret,_,s')=>ob (O5 s' env AG) fun vs=>some (.ret (Ef vs),s')
  | _=>none
   else none
 | some (.vr n ac)=>match m with
   | some _=>none
   | none=>bif Nat.ble cap.length n then
     match ih ac ⟨IX (A2 0 cap),A2 0 cap⟩ s with
     | some (.normal,_,s')=>ob (O5 s' env AG) fun vs=>some (.ret (Ef vs),s')
     | some (.ret,_,s')=>ob (O5 s' env AG) fun vs=>some (.ret (Ef vs),s')
     | _=>none
   else none
 | _=>none
def Tf (tab:Jx) (ih:IH) (f:FuncId) (vs:List V) (s:St):Option (R×St):=
 match tab f with
 | some (.fn n ac AG)=>bif Nat.ble vs.length n then Yz AG (ih ac ⟨IX (A2 0 vs),A2 0 vs⟩ s)else none
 | some (.oA n aA ops x aC AG l1 l2)=>bif Nat.ble vs.length n then
  match ih (.seq l1 aA (.B5 ops)) ⟨IX (A2 0 vs),A2 0 vs⟩ s with
  | some (.normal,env,s1)=>match(match x with| .t n=>TG env n| .c v=>bif BJ v then some v else none)with
    | some (.f (.func g) [] cap)=>match ih aC (Mv l2 env) s1 with
      | some (.normal,env2,s2)=>VA tab ih g cap none AG env2 s2
      | some (.ret,env2,s2)=>VA tab ih g cap none AG env2 s2
      | some (.Bb v,env2,s2)=>VA tab ih g cap (some v) AG env2 s2
      | _=>none
    | _=>none
  | _=>none
   else none
 | some (.wA n ac AG)=>bif Nat.ble vs.length n then pv (Yz AG (ih ac ⟨IX (A2 0 vs),A2 0 vs⟩ s))else none
 | some (.ai c)=>c vs s
 | _=>none
def FT (tab:Jx) (memo:E2) (ih:IH):CF:=fun f vs s=>
 match memo f with
 | []=>Tf tab ih f vs s
 | m::r=>match U8 vs (m::r)with
   | some v=>some (.ret v,s)
   | none=>Tf tab ih f vs s
def Jg (tab:Jx) (memo:E2) (ih:IH):CV:=fun x vs s=>
 match x with
 | .f (.func f) first cap=>FT tab memo ih f (first++vs++cap) s
 | .f (.yield L) [] []=>match s.t.get L with
   | some (.loop .ready env ps a b)=>bif Nat.beq vs.length ps.length then
    Tr.put none A7 s.t L fun t=>match ih a ⟨IX (En ps vs env),En ps vs env⟩ ⟨s.nx,t⟩with
    | some (.normal,env1,s1)=>match ih b env1 s1 with
      | some (.normal,_,s2)=>Tr.put (some (.loop .ready env ps a b)) A7 s2.t L fun t=>some (.ret (.b true),⟨s2.nx,t⟩)
      | some (.ret,_,s2)=>Tr.put (some (.loop .ret env ps a b)) A7 s2.t L fun t=>some (.ret (.b false),⟨s2.nx,t⟩)
      | some (.exit id,_,s2)=>Tr.put (some (.loop (.exit id) env ps a b)) A7 s2.t L fun t=>some (.ret (.b false),⟨s2.nx,t⟩)
      | some (.Bb v,_,s2)=>some (.Bb v,s2)
      | none=>none
    | _=>none
     else none
   | _=>none
 | _=>none
def Ki (tab:Jx) (memo:E2) (ih:IH):CP:=fun f vs=>
 bif B6 vs then match FT tab memo ih f vs ⟨0,.leaf⟩with
  | some (.ret v,s)=>match GW s Uq v with
    | some u=>bif BJ u then some u else none
    | none=>none
  | _=>none
 else none
abbrev SK:=Jx->E2->IH->CH->St->Aj
def fD (c : AV):SK:=@AV.rec (fun _=>SK)
 (fun _ _ _ env s=>some (.normal,env,s))
 (fun ops tab memo ih env s=>dt ops (FT tab memo ih) (Jg tab memo ih) (Ki tab memo ih) env s)
 (fun l ops tab memo ih env s=>RY (VG ops (FT tab memo ih) (Jg tab memo ih) (Ki tab memo ih) env s) fun env s=>some (.normal,Mv l env,s))
 (fun l a b _ _ _ _ ih env s=>RY (ih a env s) fun env s=>ih b (Mv l env) s)
 (fun c a b _ _ _ _ ih env s=>Bq c env fun v=>oB v fun t=>@Bool.rec (fun _=>Aj) (ih b env s) (ih a env s) t)
 (fun id a _ tab memo ih env s=>match ih a env s with
  | some (.exit id',env',s')=>bif Nat.beq id' id then some (.normal,env',s')else some (.exit id',env',s')
  | r=>r)
 (fun l a _ _ _ ih env s=>Un l env fun E=>RY (ih a ⟨IX E,E⟩ s) fun env s=>ih (.loop l a) env s)
 (fun id _ _ _ env s=>some (.exit id,env,s))
 (fun _ _ _ env s=>some (.ret,env,s))
 (fun a _ _ _ ih env s=>ih a env s)
 (fun l g ps a b _ _ tab memo ih env s=>Bq g env fun v=>match v with
  | .f (.func gf) [] cap=>Un l env fun E=>s.new (.loop .ready E ps a b) fun i s1=>
   match FT tab memo ih gf (.f (.yield i) [] []::cap) s1 with
   | some (.ret _,s2)=>match s2.t.get i with
     | some (.loop st _ _ _ _)=>Tr.put none A7 s2.t i fun t=>some ((match st with| .ready=> .normal| .ret=> .ret| .exit id=> .exit id),env,⟨s2.nx,t⟩)
     | _=>none
   | some (.Bb v,s2)=>match s2.t.get i with
     | some _=>Tr.put none A7 s2.t i fun t=>some (.Bb v,env,⟨s2.nx,t⟩)
     | none=>none
   | none=>none
  | _=>none) c
def runK (tab:Jx) (memo:E2) (n:Nat):IH:=@Nat.rec (fun _=>IH) (fun _ _ _=>none) (fun _ ih c env s=>fD c tab memo ih env s) n
def XN (ihm:IH) (ih:AV->Env->St->Rs):Prop:= ∀c {e env} s,Iw e env->GU (ihm c e s) (ih c env s)
def Lk {s:St} {e:CH} {env:Env} (he:Iw e env): ∀l:List RS,O5 s e l=Yl s env l
 | []=>rfl
 | .t n::r=>by simp only[O5,Yl,he n,Lk he r]
 | .c n g::r=>by simp only[O5,Yl,he n,Lk he r]
def V3 {AG:List RS} {r:Aj} {r':Rs} (h:GU r r'):Yz AG r=aw AG r':=by
 cases r with
 | none=>cases r' with|none=>rfl|some p=>exact h.elim
 | some p=>
   cases r' with
   | none=>exact h.elim
   | some p'=>
     obtain⟨x,e,s⟩:=p;obtain⟨x',env,s'⟩:=p';obtain⟨rfl,rfl,he⟩:=h;cases x<;>first|rfl|simp only[Yz,aw,Lk he]
def jF {tab : Jx} {ihm:IH} {ih:AV->Env->St->Rs} (hi:XN ihm ih) {g:FuncId} {cap:List V} {m:Option V} {AG:List RS} {e:CH} {env:Env} (he:Iw e env) (s:St):VA tab ihm g cap m AG e s=XI tab ih g cap m AG env s:=by
 unfold VA XI;cases tab g with
 | none=>rfl
 | some fs =>
   cases fs<;>first|rfl|skip
   .rename_i n k ops ac l
    simp only;have:=hi (.seq l (.B5 ops) ac) s (Iw.of (put (some k) (m.getD .DZ) (A2 0 cap)))
    revert this
    cases ihm (.seq l (.B5 ops) ac) _ s with
    | none=>cases ih (.seq l (.B5 ops) ac) _ s with|none=>intro _;rfl|some p=>intro h;exact h.elim
    | some p=>
      cases ih (.seq l (.B5 ops) ac) _ s with
      | none=>intro h;exact h.elim
      | some p'=>
        obtain⟨x,e1,s1⟩:=p;obtain⟨x',env1,s1'⟩:=p';rintro⟨rfl,rfl,he1⟩;cases x<;>simp only[Lk he]
   .rename_i n ac
    cases m with
    | some v=>rfl
    | none=>
      simp only;have:=hi ac s (Iw.of (A2 0 cap))
      revert this
      cases ihm ac _ s with
      | none=>cases ih ac _ s with|none=>intro _;rfl|some p=>intro h;exact h.elim
      | some p=>
        cases ih ac _ s with
        | none=>intro h;exact h.elim
        | some p'=>
          obtain⟨x,e1,s1⟩:=p;obtain⟨x',env1,s1'⟩:=p';rintro⟨rfl,rfl,he1⟩;cases x<;>simp only[Lk he]
def dJ {tab : Jx} {ihm:IH} {ih:AV->Env->St->Rs} (hi:XN ihm ih) (f:FuncId) (vs:List V) (s:St):Tf tab ihm f vs s=Rh tab ih f vs s:=by
 unfold Tf Rh;cases tab f with
 | none=>rfl
 | some fs =>
   cases fs with
   | pK n k ops ac l=>rfl
   | ai c=>rfl
   | vr n ac=>rfl
   | fn n ac AG=>simp only;rw[V3 (hi ac s (Iw.of (A2 0 vs)))]
   | wA n ac AG=>simp only;rw[V3 (hi ac s (Iw.of (A2 0 vs)))]
   | oA n aA ops x aC AG l1 l2=>
     simp only;have:=hi (.seq l1 aA (.B5 ops)) s (Iw.of (A2 0 vs))
     revert this
     cases ihm (.seq l1 aA (.B5 ops)) _ s with
     | none=>cases ih (.seq l1 aA (.B5 ops)) _ s with|none=>intro _;rfl|some p=>intro h;exact h.elim
     | some p=>
       cases ih (.seq l1 aA (.B5 ops)) _ s with
       | none=>intro h;exact h.elim
       | some p'=>
         obtain⟨x1,e1,s1⟩:=p;obtain⟨x1',env1,s1'⟩:=p';rintro⟨rfl,rfl,he1⟩;cases x1<;>first|rfl|skip
         simp only;have hx:(match x with| .t n=>TG e1 n| .c v=>bif BJ v then some v else none)=DN env1 x:=by cases x<;>first|exact he1 _|rfl
         rw[hx];cases DN env1 x with
         | none=>rfl
         | some v=>
           cases v<;>first|rfl|skip
           rename_i fn first cap
           cases fn<;>first|rfl|skip
           cases first<;>first|rfl|skip
           simp only;have:=hi aC s1 (he1.prune l2)
           revert this
           cases ihm aC (Mv l2 e1) s1 with
           | none=>cases ih aC (Gl.prune l2 env1) s1 with|none=>intro _;rfl|some p=>intro h;exact h.elim
           | some p=>
             cases ih aC (Gl.prune l2 env1) s1 with
             | none=>intro h;exact h.elim
             | some p'=>
               obtain⟨x2,e2,s2⟩:=p;obtain⟨x2',env2,s2'⟩:=p';rintro⟨rfl,rfl,he2⟩;cases x2<;>simp only[jF hi he2]
def GO {tab:Jx} {memo:E2} {ihm:IH} {ih:AV->Env->St->Rs} (hi:XN ihm ih):FT tab memo ihm=G2 tab memo ih:=by
 funext f vs s;unfold FT G2;simp only[dJ hi];rfl
def Ql {tab : Jx} {memo:E2} {ihm:IH} {ih:AV->Env->St->Rs} (hi:XN ihm ih):Jg tab memo ihm=M7 tab memo ih:=by
 funext x vs s;unfold Jg M7;rw[GO hi];cases x<;>first|rfl|skip
 rename_i fn first cap
 cases fn<;>first|rfl|skip
 cases first<;>first|rfl|skip
 cases cap<;>first|rfl|skip
 rename_i L;simp only;cases s.t.get L with
 | none=>rfl
 | some o=>
   cases o<;>first|rfl|skip
   rename_i st env ps a b;cases st<;>first|rfl|skip
   simp only;congr 2;funext t;have:=hi a ⟨s.nx,t⟩ (Iw.of (En ps vs env))
   revert this
   cases ihm a _ ⟨s.nx,t⟩with
   | none=>cases ih a _ ⟨s.nx,t⟩with|none=>intro _;rfl|some p=>intro h;exact h.elim
   | some p=>
     cases ih a _ ⟨s.nx,t⟩with
     | none=>intro h;exact h.elim
     | some p'=>
       obtain⟨x1,e1,s1⟩:=p;obtain⟨x1',env1,s1'⟩:=p';rintro⟨rfl,rfl,he1⟩;cases x1<;>first|rfl|skip
       simp only;have:=hi b s1 he1
       revert this
       cases ihm b e1 s1 with
       | none=>cases ih b env1 s1 with|none=>intro _;rfl|some p=>intro h;exact h.elim
       | some p=>
         cases ih b env1 s1 with
         | none=>intro h;exact h.elim
         | some p'=>
           obtain⟨x2,e2,s2⟩:=p;obtain⟨x2',env2,s2'⟩:=p';rintro⟨rfl,rfl,he2⟩;cases x2<;>rfl
def Ng {tab:Jx} {memo:E2} {ihm:IH} {ih:AV->Env->St->Rs} (hi:XN ihm ih):Ki tab memo ihm=PI tab memo ih:=by
 funext f vs;unfold Ki PI;rw[GO hi];rfl
def gu {tab : Jx} {memo:E2} {ihm:IH} {ih:AV->Env->St->Rs} (hi:XN ihm ih) (c:AV) {e:CH} {env:Env} (s:St) (he:Iw e env):GU (fD c tab memo ihm e s) (Ic tab memo ih c env s):=by
 cases c with
 | skip=>exact⟨rfl,rfl,he⟩
 | ret=>exact⟨rfl,rfl,he⟩
 | exit id=>exact⟨rfl,rfl,he⟩
 | scope a=>exact hi a s he
 | B5 ops=>
   show GU (dt ops (FT tab memo ihm) (Jg tab memo ihm) (Ki tab memo ihm) e s) _;rw[GO hi,Ql hi,Ng hi];exact ZS _ _ _ ops s he
 | EG l ops=>
   show GU (RY (VG ops (FT tab memo ihm) (Jg tab memo ihm) (Ki tab memo ihm) e s) fun env s=>some (.normal,Mv l env,s)) _;rw[GO hi,Ql hi,Ng hi];exact NG (K':=fun env s=>some (.normal,Gl.prune l env,s)) (V5 _ _ _ ops s he) fun _ _ s he=>⟨rfl,rfl,he.prune l⟩
 | seq l a b=>exact NG (K':=fun env s=>ih b (Gl.prune l env) s) (hi a s he) fun _ _ s he=>hi b s (he.prune l)
 | cond c a b=>
   show GU (Bq c e fun v=>oB v fun t=>@Bool.rec (fun _=>Aj) (ihm b e s) (ihm a e s) t) _;rw[BF he];simp only[Ic];cases DN env c with
   | none=>trivial
   | some v=>
     cases v<;>first|trivial|skip
     rename_i t;cases t
     .exact hi b s he
     .exact hi a s he
 | block id a=>
   have:=hi a s he;show GU (match ihm a e s with|some (.exit id',env',s')=>bif Nat.beq id' id then some (.normal,env',s')else some (.exit id',env',s')|r=>r) (match ih a env s with|some (.exit id',env',s')=>bif Nat.beq id' id then some (.normal,env',s')else some (.exit id',env',s')|r=>r)
   revert this
   cases ihm a e s with
   | none=>cases ih a env s with|none=>intro _;trivial|some p=>intro h;exact h.elim
   | some p=>
     cases ih a env s with
     | none=>intro h;exact h.elim
     | some p'=>
       obtain⟨x1,e1,s1⟩:=p;obtain⟨x1',env1,s1'⟩:=p';rintro⟨rfl,rfl,he1⟩;cases x1 with
       | exit id'=>
         simp only;cases Nat.beq id' id<;>exact⟨rfl,rfl,he1⟩
       | normal=>exact⟨rfl,rfl,he1⟩
       | ret=>exact⟨rfl,rfl,he1⟩
       | Bb v=>exact⟨rfl,rfl,he1⟩
 | loop l a=>
   show GU (Un l e fun E=>RY (ihm a ⟨IX E,E⟩ s) fun env s=>ihm (.loop l a) env s) _;rw[Oi he];exact NG (K':=fun env s=>ih (.loop l a) env s) (hi a s (Iw.of _)) fun _ _ s he=>hi (.loop l a) s he
 | Dg l g ps a b=>
   show GU (Bq g e fun v=>match v with
   | .f (.func gf) [] cap=>Un l e fun E=>s.new (.loop .ready E ps a b) fun i s1=>
    match FT tab memo ihm gf (.f (.yield i) [] []::cap) s1 with
    | some (.ret _,s2)=>match s2.t.get i with
      | some (.loop st _ _ _ _)=>Tr.put none A7 s2.t i fun t=>some ((match st with| .ready=> .normal| .ret=> .ret| .exit id=> .exit id),e,⟨s2.nx,t⟩)
      | _=>none
    | some (.Bb v,s2)=>match s2.t.get i with
      | some _=>Tr.put none A7 s2.t i fun t=>some (.Bb v,e,⟨s2.nx,t⟩)
      | none=>none
    | none=>none
   | _=>none) _
   rw[BF he,GO hi];simp only[Ic];cases DN env g with
   | none=>trivial
   | some v=>
     cases v<;>first|trivial|skip
     rename_i fn first cap
     cases fn<;>first|trivial|skip
     cases first<;>first|trivial|skip
     rename_i gf;simp only[ob];rw[Oi he]
     have hnew: ∀ {β γ:Type} (o:EO) (f:Nat->St->Option β) (g:Nat->St->Option γ) (Rl:Option β->Option γ->Prop),Rl none none->(∀i s,Rl (f i s) (g i s))->Rl (s.new o f) (s.new o g):=fun {β γ} o f g Rl h0 h1=>by
      obtain⟨n,t⟩:=s;cases n with
      | zero=>simp only[St.new];rw[Tr.put_eq,Tr.put_eq];exact h1 _ _
      | succ n=>
        simp only[St.new];rw[Tr.put_eq,Tr.put_eq];cases Nat.ble (n+1) Mm
        .exact h0
        .exact h1 _ _
     refine hnew _ _ _ GU trivial fun i s1=>?_
     cases G2 tab memo ih gf (.f (.yield i) [] []::cap) s1 with
     | none=>trivial
     | some p=>
       obtain⟨x,s2⟩:=p;cases x with
       | ret v=>
         simp only;cases s2.t.get i with
         | none=>trivial
         | some o=>
           cases o<;>first|trivial|skip
           simp only;rw[Tr.put_eq,Tr.put_eq];exact⟨rfl,rfl,he⟩
       | Bb v=>
         simp only;cases s2.t.get i with
         | none=>trivial
         | some o=>
           simp only;rw[Tr.put_eq,Tr.put_eq];exact⟨rfl,rfl,he⟩
def ZG (tab:Jx) (memo:E2): ∀n:Nat,XN (runK tab memo n) (run tab memo n)
 | 0=>fun _ _ _ _ _=>trivial
 | n+1=>fun c _ _ s he=>gu (ZG tab memo n) c s he
def kF (tab:Jx) (memo:E2) (n:Nat) (f:FuncId) (vs:List V) (v:V):Bool:=
 match Ki tab memo (runK tab memo n) f vs with
 | some u=>Eg u v
 | none=>false
def R5 {tab:Jx} (ht:La P tab) {memo:E2} (hm:G3 P memo) {n:Nat} {f:FuncId} {vs:List V} {v:V} (h:kF tab memo n f vs v=true):B6 vs=true/\BJ v=true/\Pure P f vs v:=by
 unfold kF at h;rw[Ng (ZG tab memo n)]at h;exact WY ht hm h
def pU (t:Tr S6):Jx:=fun f=>av t f
def ZA {t:Tr S6} (h:Y4 (fun i=>Iv P i) id t):La P (pU t):=fun f fs e=>h f fs ((T7 t f).symm.trans e)
def p7 (m:E2) (f:FuncId) (a:List V) (v:V):E2:=fun g=>@Bool.rec (fun _=>List (List V×V)) (m g) ((a,v)::m g) (Nat.beq f g)
def ni {m:E2} (h:G3 P m) {f:FuncId} {a:List V} {v:V} (h1:B6 a=true/\BJ v=true/\Pure P f a v):G3 P (p7 m f a v):=fun g e he=>by
 unfold p7 at he;cases hb:Nat.beq f g with
 | false=>rw[hb]at he;exact h g e he
 | true=>
   rw[hb]at he;have:=Ct hb;subst this;rcases Fm.1 he with rfl|he
   .exact h1
   .exact h f e he
end Go.Gl
