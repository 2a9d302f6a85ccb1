import Derived.Test.YtnidfcmdimehdaaGreatU6
set_option linter.all false
set_option linter.defProp false
set_option maxHeartbeats 8000000
noncomputable section
namespace Go.Gl
variable {P:Program} {F:Nat->Prop} {env env':Env} {Z:AD}
def Aq (AB:(V->Prop)->Prop):Prop:= ∀k,AB k-> ∃v,k v/\ ∀k':V->Prop,k' v->AB k'
def Aq.one (v:V):Aq fun k=>k v:=fun _ h=>⟨v,h,fun _ h=>h⟩
def Aq.no:Aq fun _=>False:=fun _ h=>h.elim
def Aq.and {p:Prop} {AB:(V->Prop)->Prop} (h:Aq AB):Aq fun k=>p/\AB k:=fun k ⟨hp,hF⟩=>let⟨v,h1,h2⟩:=h k hF;⟨v,h1,fun k' hk=>⟨hp,h2 k' hk⟩⟩
def Aq.wv {o:Option V} {AB:V->(V->Prop)->Prop} (h: ∀v,Aq (AB v)):Aq fun k=>wv o fun v=>AB v k:=by
 cases o with
 | none=>exact Aq.no
 | some v=>exact h v
def Aq.ws {o:Option (List V)} {AB:List V->(V->Prop)->Prop} (h: ∀v,Aq (AB v)):Aq fun k=>ws o fun v=>AB v k:=by
 cases o with
 | none=>exact Aq.no
 | some v=>exact h v
def Aq.wr {o:Option (List (List V))} {AB:List (List V)->(V->Prop)->Prop} (h: ∀v,Aq (AB v)):Aq fun k=>wr o fun v=>AB v k:=by
 cases o with
 | none=>exact Aq.no
 | some v=>exact h v
def Aq.wo {o:Option (Option V)} {AB:Option V->(V->Prop)->Prop} (h: ∀v,Aq (AB v)):Aq fun k=>wo o fun v=>AB v k:=by
 cases o with
 | none=>exact Aq.no
 | some v=>exact h v
def kB (op:BinOp) (x y:V):Aq (bc op x y):=by
 unfold bc;cases x<;>cases y<;>first|exact Aq.no|skip
 cases op<;>simp only<;>first|exact(Aq.one _).and|exact(Aq.one _).and.and
def MS (agg:Option Nat) (cs:List V) (off:Nat):Aq (cut agg cs off):=by
 unfold cut;cases agg with
 | none=>cases cs[off]? with
   | none=>exact Aq.no
   | some v=>exact Aq.one _
 | some n=>exact(Aq.one _).and
def dT (Z:AD) (agg:Option Nat) (x:V):Aq (AS Z agg x):=by
 unfold AS SK SL;cases x<;>first|exact Aq.no|skip
 case p n off=>
  simp only;cases Z n with
  | none=>exact Aq.no
  | some o=>cases o<;>first|exact Aq.no|exact MS _ _ _
 case rp cs=>exact MS _ _ _
 case pe n sz i off=>
  simp only;cases Z n with
  | none=>exact Aq.no
  | some o=>
    cases o<;>first|exact Aq.no|skip
    simp only;refine Aq.and ?_;rename_i es _;cases es[i]? with
    | none=>exact Aq.no
    | some e=>exact MS _ _ _
def cn {Z Z':AD} (hs:Sub Z Z') {agg:Option Nat} {x:V} {k:V->Prop} (h:AS Z agg x k):AS Z' agg x k:=by
 unfold AS SK SL at *;cases x<;>first|exact h|skip
 case p n off=>
  simp only at *;cases hn:Z n with
  | none=>rw[hn]at h;exact h.elim
  | some o=>rw[hs n o hn];rw[hn]at h;exact h
 case pe n sz i off=>
  simp only at *;cases hn:Z n with
  | none=>rw[hn]at h;exact h.elim
  | some o=>rw[hs n o hn];rw[hn]at h;exact h
def ZA (off:Nat) (x:V):Aq (Na off x):=by
 unfold Na;cases x<;>first|exact Aq.no|exact Aq.one _
def Y9 (sz:Nat) (arr:Option Nat) (x i:V):Aq (AQ sz arr x i):=by
 unfold AQ;cases i<;>first|exact Aq.no|skip
 cases arr<;>cases x<;>first|exact Aq.no|exact(Aq.one _).and.and|exact(Aq.one _).and.and.and|skip
 intro k ⟨h0,e,h1,h2,h3⟩;exact⟨_,h3,fun k' hk=>⟨h0,e,h1,h2,hk⟩⟩
def Y8 (len sz:Nat) (agg:Option Nat) (x i:V):Aq (NZ len sz agg x i):=by
 unfold NZ;cases x<;>first|exact Aq.no|skip
 cases i<;>first|exact Aq.no|skip
 exact(MS _ _ _).and.and
def dS (x i:V):Aq (SO x i):=by
 unfold SO;cases x<;>first|exact Aq.no|skip
 cases i<;>first|exact Aq.no|skip
 refine Aq.and ?_;rename_i b _ j;cases b.data.toList[j.toNat]? with
 | none=>exact Aq.no
 | some c=>exact Aq.one _
def kA (x:V):Aq (Ap x):=by
 unfold Ap;cases x<;>first|exact Aq.no|exact Aq.one _|exact(Aq.one _).and
def dU (Z:AD) (x:V):Aq (OI Z x):=by
 unfold OI;cases x<;>first|exact Aq.no|exact Aq.one _|skip
 case m n=>
  simp only;cases Z n with
  | none=>exact Aq.no
  | some o=>cases o<;>first|exact Aq.no|exact(Aq.one _).and
def cq {Z Z':AD} (hs:Sub Z Z') {x:V} {k:V->Prop} (h:OI Z x k):OI Z' x k:=by
 unfold OI at *;cases x<;>first|exact h|skip
 case m n=>
  simp only at *;cases hn:Z n with
  | none=>rw[hn]at h;exact h.elim
  | some o=>rw[hs n o hn];rw[hn]at h;exact h
def KV {o:Option V} {d:Int} {k:Int->Prop} (h:OD o d k): ∃v,k v/\ ∀k':Int->Prop,k' v->OD o d k':=by
 unfold OD at *;split at h
 .exact⟨_,h,fun _ h=>h⟩
 .exact⟨_,h,fun _ h=>h⟩
 .exact h.elim
def Y7 {sz:Nat} {x:V} {a b:Option V} {k:V->AD->Prop} (h:AP Z sz x a b none k): ∃v,k v Z/\ ∀Z' (k':V->AD->Prop),k' v Z'->AP Z' sz x a b none k':=by
 unfold AP at *;cases x<;>first|exact h.elim|skip
 .simp only at *
  obtain⟨h0,h⟩:=h;obtain⟨hh,h,g1⟩:=KV h;obtain⟨l,h,g2⟩:=KV h;exact⟨_,h.2.2.2,fun Z' k' hk=>⟨h0,g1 _ (g2 _ ⟨h.1,h.2.1,h.2.2.1,hk⟩)⟩⟩
 .simp only at *
  obtain⟨hh,h,g1⟩:=KV h;obtain⟨l,h,g2⟩:=KV h;exact⟨_,h.2.2.2,fun Z' k' hk=>g1 _ (g2 _ ⟨h.1,h.2.1,h.2.2.1,hk⟩)⟩
 .simp only at *
  obtain⟨hh,h,g1⟩:=KV h;obtain⟨l,h,g2⟩:=KV h;exact⟨_,h.2.2.2.2.2,fun Z' k' hk=>g1 _ (g2 _ ⟨h.1,h.2.1,h.2.2.1,h.2.2.2.1,trivial,hk⟩)⟩
def Qx {sz:Nat} {y:V} {k:List (List V)->Prop} (h:rowsOf Z sz y k): ∃ys,k ys/\ ∀Z' (k':List (List V)->Prop),Sub Z Z'->k' ys->rowsOf Z' sz y k':=by
 unfold rowsOf at *;cases y<;>first|exact h.elim|skip
 .exact⟨_,h.2,fun _ _ _ hk=>⟨h.1,hk⟩⟩
 .rename_i m len cap
  simp only at *;cases hm:Z m with
  | none=>rw[hm]at h;exact h.elim
  | some o=>
    rw[hm]at h;cases o<;>first|exact h.elim|skip
    exact⟨_,h.2.2,fun Z' k' hs hk=>by rw[hs m _ hm];exact⟨h.1,h.2.1,hk⟩⟩
 .rename_i m s off len
  simp only at *;cases hm:Z m with
  | none=>rw[hm]at h;exact h.elim
  | some o=>
    rw[hm]at h;cases o<;>first|exact h.elim|skip
    exact⟨_,h.2.2.2,fun Z' k' hs hk=>by rw[hs m _ hm];exact⟨h.1,h.2.1,h.2.2.1,hk⟩⟩
def js {x:V} {k:V->Prop} (h:lh Z x k): ∃v,k v/\ ∀Z' (k':V->Prop),Sub Z Z'->k' v->lh Z' x k':=by
 obtain⟨ys,h1,h2⟩:=Qx h;cases hn:Ju ys with
 | none=>rw[hn]at h1;exact h1.elim
 | some ns=>
   rw[hn]at h1;exact⟨_,h1,fun Z' k' hs hk=>h2 Z' _ hs (by rw[hn];exact hk)⟩
def dV {b sz:Nat} {x y:V} {k:V->Prop} (h:AU b Z sz x y k): ∃v,k v/\ ∀Z' (k':V->Prop),Sub Z Z'->k' v->AU b Z' sz x y k':=by
 unfold AU at *;obtain⟨ys,⟨h1,h2⟩,h3⟩:=Qx h;cases x<;>first|exact h2.elim|skip
 exact⟨_,h2.2.2.2,fun Z' k' hs hk=>h3 Z' _ hs ⟨h1,h2.1,h2.2.1,h2.2.2.1,hk⟩⟩
def Xa {ks:KS} {z:V} {ok:Bool} {vm vk:V} {k:V->Prop} (h:AM Z ks z ok vm vk k): ∃v,k v/\ ∀Z' (k':V->Prop),Sub Z Z'->k' v->AM Z' ks z ok vm vk k':=by
 unfold AM at *;obtain⟨h0,h⟩:=h;cases vm<;>first|exact h.elim|skip
 .rename_i n
  simp only at *;cases hn:Z n with
  | none=>rw[hn]at h;exact h.elim
  | some o=>
    rw[hn]at h;cases o<;>first|exact h.elim|skip
    exact⟨_,h.2,fun Z' k' hs hk=>⟨h0,by rw[hs n _ hn];exact⟨h.1,hk⟩⟩⟩
 .exact⟨_,h,fun Z' k' hs hk=>⟨h0,hk⟩⟩
inductive Kd where
 | P|N|A|AA|H
 deriving DecidableEq,Repr
def kd:Ht->Kd
 | .load _ _=> .N
 | .bZ _=> .N
 | .str _=> .N
 | .Xy _ _ _ _=> .N
 | .box _=> .A
 | .append _ _ x _=>match x with| .c (.l [] true)=> .A|_=> .H
 | .alloc _=> .AA
 | .slice _ _ _ _ mx=>match mx with|none=> .N|some _=> .H
 | .store _ _ _| .copy _ _ _| .Hg _ _ _ _| .panic _| .call _ _| .Pv _ _| .gw _ _| .inv _ _ _| .Vd| .KO _ _ _ _ _| .qW _ _ _| .xS _=> .H
 | .lookup _ _ _ _ _=> .N
 | _=> .P
def yl {o:Ht} (hk:kd o= .P): ∃AB:(V->Prop)->Prop,Aq AB/\ ∀Z (k kp:V->AD->Prop),F6 P o env Z k kp=AB (fun v=>k v Z):=by
 cases o<;>first|(simp[kd]at hk;done)|skip
 case mv x=>exact⟨fun k=>wv (ev env x) k,Aq.wv fun v=>Aq.one v,fun _ _ _=>rfl⟩
 case pick c a b=>
  refine⟨fun k=>wv (ev env c) fun vc=>wv (ev env a) fun va=>wv (ev env b) fun vb=>match vc with| .b t=>(match va,vb with| .b x,.b y=>k (.b (bif t then x else y))|_,_=>k (bif t then va else vb))|_=>False,?_,fun _ _ _=>rfl⟩;refine Aq.wv fun vc=>Aq.wv fun va=>Aq.wv fun vb=>?_
  cases vc<;>first|exact Aq.no|skip
  cases va<;>first|exact Aq.one _|skip
  cases vb<;>exact Aq.one _
 case bin op x y=>exact⟨fun k=>wv (ev env x) fun vx=>wv (ev env y) fun vy=>bc op vx vy k,Aq.wv fun _=>Aq.wv fun _=>kB _ _ _,fun _ _ _=>rfl⟩
 case xW n x y=>
  refine⟨fun k=>wv (ev env x) fun vx=>wv (ev env y) fun vy=>match vx,vy with| .b p,.b q=>k (.b (bif n then p != q else p==q))|_,_=>False,?_,fun _ _ _=>rfl⟩;refine Aq.wv fun vx=>Aq.wv fun vy=>?_
  cases vx<;>cases vy<;>first|exact Aq.no|exact Aq.one _
 case xV q n x y=>
  refine⟨fun k=>wv (ev env x) fun vx=>wv (ev env y) fun vy=>Xs q n vx vy k,Aq.wv fun vx=>Aq.wv fun vy=>?_,fun _ _ _=>rfl⟩;unfold Xs;cases vx<;>first|exact Aq.no|skip
  cases vy<;>first|exact Aq.no|skip
  simp only;split<;>first|exact Aq.no|exact Aq.one _
 case not x=>
  refine⟨fun k=>wv (ev env x) fun vx=>match vx with| .b p=>k (.b (!p))|_=>False,Aq.wv fun vx=>?_,fun _ _ _=>rfl⟩;cases vx<;>first|exact Aq.no|exact Aq.one _
 case neg xor x=>
  refine⟨fun k=>wv (ev env x) fun vx=>match vx with| .i ka a=>k (.i ka (bif xor then bits .xor ka (bif ka.signed then -1 else ka.max) a else ka.wrap (0 - a)))|_=>False,Aq.wv fun vx=>?_,fun _ _ _=>rfl⟩;cases vx<;>first|exact Aq.no|exact Aq.one _
 case conv ka x=>
  refine⟨fun k=>wv (ev env x) fun vx=>match vx with| .i _ a=>k (.i ka (ka.wrap a))|_=>False,Aq.wv fun vx=>?_,fun _ _ _=>rfl⟩;cases vx<;>first|exact Aq.no|exact Aq.one _
 case To x=>
  refine⟨fun k=>wv (ev env x) fun vx=>match cellsOf vx with|some cs=>k (.rp cs)|none=>False,Aq.wv fun vx=>?_,fun _ _ _=>rfl⟩;cases cellsOf vx<;>first|exact Aq.no|exact Aq.one _
 case build z ps=>exact⟨fun k=>ws (ON env z ps) fun cs=>k (.a cs),Aq.ws fun _=>Aq.one _,fun _ _ _=>rfl⟩
 case Nh sz len z ps=>exact⟨fun k=>wr (L9 env z.length (List.replicate len z) ps) fun es=>k (.l es true),Aq.wr fun _=>Aq.one _,fun _ _ _=>rfl⟩
 case MA off x=>exact⟨fun k=>wv (ev env x) fun vx=>Na off vx k,Aq.wv fun _=>ZA _ _,fun _ _ _=>rfl⟩
 case field agg off x=>
  refine⟨fun k=>wv (ev env x) fun vx=>match vx with| .a cs=>cut agg cs off k|_=>False,Aq.wv fun vx=>?_,fun _ _ _=>rfl⟩;cases vx<;>first|exact Aq.no|exact MS _ _ _
 case SQ sz arr x i=>exact⟨fun k=>wv (ev env x) fun vx=>wv (ev env i) fun vi=>AQ sz arr vx vi k,Aq.wv fun _=>Aq.wv fun _=>Y9 _ _ _ _,fun _ _ _=>rfl⟩
 case eO x i=>exact⟨fun k=>wv (ev env x) fun vx=>wv (ev env i) fun vi=>SO vx vi k,Aq.wv fun _=>Aq.wv fun _=>dS _ _,fun _ _ _=>rfl⟩
 case index len sz agg x i=>exact⟨fun k=>wv (ev env x) fun vx=>wv (ev env i) fun vi=>NZ len sz agg vx vi k,Aq.wv fun _=>Aq.wv fun _=>Y8 _ _ _ _ _,fun _ _ _=>rfl⟩
 case len x=>exact⟨fun k=>wv (ev env x) fun vx=>Ap vx k,Aq.wv fun _=>kA _,fun _ _ _=>rfl⟩
 case eV x y=>
  refine⟨fun k=>wv (ev env x) fun vx=>wv (ev env y) fun vy=>match vx,vy with| .i ka a,.i kb b=>ka=kb/\k (.i ka (if b > a then b else a))|_,_=>False,?_,fun _ _ _=>rfl⟩;refine Aq.wv fun vx=>Aq.wv fun vy=>?_
  cases vx<;>cases vy<;>first|exact Aq.no|exact(Aq.one _).and
 case eT x y=>
  refine⟨fun k=>wv (ev env x) fun vx=>wv (ev env y) fun vy=>match vx,vy with| .i ka a,.i kb b=>ka=kb/\k (.i ka (if b<a then b else a))|_,_=>False,?_,fun _ _ _=>rfl⟩;refine Aq.wv fun vx=>Aq.wv fun vy=>?_
  cases vx<;>cases vy<;>first|exact Aq.no|exact(Aq.one _).and
 case extract i x=>
  refine⟨fun k=>wv (ev env x) fun vx=>match vx with| .t vs=>(match vs[i]? with|some v=>k v|none=>False)|_=>False,Aq.wv fun vx=>?_,fun _ _ _=>rfl⟩;cases vx<;>first|exact Aq.no|skip
  rename_i vs;simp only;cases vs[i]? <;>first|exact Aq.no|exact Aq.one _
 case Po x=>
  refine⟨fun k=>wv (ev env x) fun vx=>match vx with
   | .p n off=>k (.p n off)
   | .rp cs=>k (.rp cs)
   | .pe n sz i off=>k (.pe n sz i off)
   | .f (.func f) first cap=>k (.f (.func f) first cap)
   | .f (.yield l) first cap=>k (.f (.yield l) first cap)
   | _=>False,Aq.wv fun vx=>?_,fun _ _ _=>rfl⟩
  cases vx<;>first|exact Aq.no|exact Aq.one _|skip
  rename_i f a b;cases f<;>first|exact Aq.no|exact Aq.one _
 case qP f a b=>exact⟨fun k=>ws (Xk env a) fun vf=>ws (Xk env b) fun vc=>k (.f f vf vc),Aq.ws fun _=>Aq.ws fun _=>Aq.one _,fun _ _ _=>rfl⟩
 case Ve t x=>exact⟨fun k=>wv (ev env x) fun vx=>k (.Lx t vx),Aq.wv fun _=>Aq.one _,fun _ _ _=>rfl⟩
 case qL t z ok x=>
  refine⟨fun k=>wv (ev env x) fun vx=>match vx with
   | .Lx t' v=>(t'=t->k (bif ok then .t [v,.b true]else v))/\(t'≠t->ok=true/\k (.t [z,.b false]))
   | .K0=>ok=true/\k (.t [z,.b false])
   | _=>False,Aq.wv fun vx=>?_,fun _ _ _=>rfl⟩
  cases vx<;>first|exact Aq.no|exact(Aq.one _).and|skip
  rename_i t' v;simp only;by_cases ht:t'=t
  .simpa[ht]using Aq.one _
  .simpa[ht]using(Aq.one (.t [z,.b false])).and
 case SR f as=>
  refine⟨fun k=>ws (Xk env as) fun vs=> ∃v,As P f vs (fun _=>none) (fun r Z'=>r= .ret v/\Z'=fun _=>none)/\k v,Aq.ws fun vs=>?_,fun _ _ _=>rfl⟩;intro k ⟨v,h1,h2⟩;exact⟨v,h2,fun k' hk=>⟨v,h1,hk⟩⟩
 case slice s x a b c=>
  exfalso;simp only[kd]at hk;split at hk<;>cases hk
 case append a b x y=>
  exfalso;simp only[kd]at hk;split at hk<;>cases hk
 all_goals exact⟨fun _=>False,Aq.no,fun _ _ _=>rfl⟩
def still (o:Ht):Bool:=match kd o with| .P=>true| .N=>true|_=>false
def IV {o : Ht} (hs:still o=true) {k kp:V->AD->Prop} (h:F6 P o env Z k kp) :
    ∃v,k v Z/\ ∀Z' (k' kp':V->AD->Prop),(kd o= .P\/Sub Z Z')->k' v Z'->F6 P o env Z' k' kp':=by
 unfold still at hs;cases hk:kd o<;>rw[hk]at hs<;>first|(cases hs;done)|skip
 .obtain⟨AB,h1,h2⟩:=yl (P:=P) (env:=env) hk
  rw[h2]at h;obtain⟨v,h3,h4⟩:=h1 _ h;exact⟨v,h3,fun Z' k' kp' _ hv=>by rw[h2];exact h4 _ hv⟩
 .cases o <;>first|(simp[kd]at hk;done)|skip
  case load agg x=>
   simp only[F6]at *;cases hx:ev env x with
   | none=>rw[hx]at h;exact h.elim
   | some vx=>
     rw[hx]at h;obtain⟨v,h3,h4⟩:=dT Z agg vx _ h;refine⟨v,h3,fun Z' k' kp' hs hv=>cn (hs.resolve_left (by simp)) (h4 _ hv)⟩
  case bZ x=>
   simp only[F6]at *;cases hx:ev env x with
   | none=>rw[hx]at h;exact h.elim
   | some vx=>
     rw[hx]at h
     try simp only[HD]at h ⊢
     obtain⟨v,h3,h4⟩:=dU Z vx _ h;refine⟨v,h3,fun Z' k' kp' hs hv=>cq (hs.resolve_left (by simp)) (h4 _ hv)⟩
  case str x=>
   simp only[F6]at *;cases hx:ev env x with
   | none=>rw[hx]at h;exact h.elim
   | some vx=>
     rw[hx]at h
     try simp only[HD]at h ⊢
     obtain⟨v,h3,h4⟩:=js h;exact⟨v,h3,fun Z' k' kp' hs hv=>h4 _ _ (hs.resolve_left (by simp)) hv⟩
  case lookup ks z ok x y=>
   simp only[F6]at *;cases hx:ev env x with
   | none=>rw[hx]at h;exact h.elim
   | some vx=>
     rw[hx]at h
     try simp only[HD]at h ⊢
     cases hy:ev env y with
     | none=>rw[hy]at h;exact h.elim
     | some vy=>
       rw[hy]at h
       try simp only[HD]at h ⊢
       obtain⟨v,h1,h2⟩:=Xa h;exact⟨v,h1,fun Z' k' kp' hs hk'=>h2 Z' _ (hs.resolve_left (by simp)) hk'⟩
  case Xy a b x y=>
   simp only[F6]at *;cases hx:ev env x with
   | none=>rw[hx]at h;exact h.elim
   | some vx=>
     rw[hx]at h
     try simp only[HD]at h ⊢
     cases hy:ev env y with
     | none=>rw[hy]at h;exact h.elim
     | some vy=>
       rw[hy]at h
       try simp only[HD]at h ⊢
       obtain⟨v,h1,h2⟩:=dV h;exact⟨v,h1,fun Z' k' kp' hs hk'=>h2 Z' _ (hs.resolve_left (by simp)) hk'⟩
  case slice s x a b c=>
   cases c with
   | some c=>simp[kd]at hk
   | none=>
     simp only[F6]at *;cases hx:ev env x with
     | none=>rw[hx]at h;exact h.elim
     | some vx=>
       rw[hx]at h
       try simp only[HD]at h ⊢
       cases ha:Jo env a with
       | none=>rw[ha]at h;exact h.elim
       | some va=>
         rw[ha]at h
         try simp only[Zh]at h ⊢
         cases hb:Jo env b with
         | none=>rw[hb]at h;exact h.elim
         | some vb=>
           rw[hb]at h;simp only[Zh,Jo]at h ⊢;obtain⟨v,h1,h2⟩:=Y7 h;exact⟨v,h1,fun Z' k' kp' _ hk'=>h2 Z' k' hk'⟩
  case append a b x y=>
   exfalso;simp only[kd]at hk;split at hk<;>cases hk
end Go.Gl
namespace Go.Gl
variable {P:Program} {F:Nat->Prop} {Z:AD}
def G8 (Z:AD) (D:Nat->Prop):AD:=fun n=>open Classical in if D n then Z n else none
def DZ {D:Nat->Prop} {n:Nat} (h:D n):G8 Z D n=Z n:=by unfold G8;rw[if_pos h]
def De {D:Nat->Prop} {n:Nat} (h: ¬D n):G8 Z D n=none:=by unfold G8;rw[if_neg h]
def join (Z τ:AD):AD:=fun n=>match Z n with|some o=>some o|none=>τ n
def As.frame {f:FuncId} {args:List V} {Q:R->AD->Prop} (D:Nat->Prop) (h:As P f args (G8 Z D) Q) :
    As P f args Z fun r Z'=> ∃Z1,Q r Z1/\(∀n,¬D n->Z n≠none->Z1 n=none)/\Z'=join Z1 (G8 Z fun n=> ¬D n):=by
 refine⟨h.1,fun F w cs hR hv=>?_⟩
 have hH:(Hh (fun n=>F n\/(¬D n/\Z n≠none)) (G8 Z D) w)=Hh F Z w:=by
  funext b o;unfold Hh;by_cases hb:F b\/(Z b).isSome=true
  .rw[if_pos hb,if_pos]
   rcases hb with hb|hb
   .exact .inl (.inl hb)
   .by_cases hd:D b
    .exact .inr (by rw[DZ hd];exact hb)
    .exact .inl (.inr ⟨hd,by intro e;rw[e]at hb;cases hb⟩)
  .rw[if_neg hb,if_neg]
   rintro((h|h)|h)
   .exact hb (.inl h)
   .exact hb (.inr (by cases hs:Z b with|none=>exact absurd hs h.2|some o=>rfl))
   .by_cases hd:D b
    .rw[DZ hd]at h;exact hb (.inr h)
    .rw[De hd]at h;cases h
 have hR1:Rel (fun n=>F n\/(¬D n/\Z n≠none)) (G8 Z D) w:=by
  refine⟨fun n o ho=>?_,fun n hn=>?_⟩
  .by_cases hd:D n
   .rw[DZ hd]at ho
    obtain⟨h1,ob,h2,h3⟩:=hR.own n o ho;refine⟨?_,ob,h2,by rw[hH];exact h3⟩;rintro(h|h)
    .exact h1 h
    .exact h.1 hd
   .rw[De hd]at ho;cases ho
  .rcases hn with hn|hn
   .exact hR.lock n hn
   .cases hs:Z n with
    | none=>exact absurd hs hn.2
    | some o=>exact hR.lt hs
 refine Calls.mono (h.2 _ w cs hR1 (by rw[hH];exact hv)) fun e w' ⟨r,Z1,hq,h1,h2,h3⟩=>?_
 have hfr: ∀n,¬D n->Z n≠none->Z1 n=none:=fun n hd hn=>by
  cases hs:Z1 n with
  | none=>rfl
  | some o=>exact absurd (.inr ⟨hd,hn⟩) (h2.own n o hs).1
 have hle:ZO (Hh (fun n=>F n\/(¬D n/\Z n≠none)) Z1 w') (Hh F (join Z1 (G8 Z fun n=> ¬D n)) w'):=by
  intro b o c hc;obtain⟨k1,k2,k3⟩:=GP hc;rw[OP (fun h=>k1 (.inl h)) ?_]
  .exact k3
  .simp only[join,k2]
   by_cases hd:D b
   .exact De (fun h=>h hd)
   .rw[DZ hd]
    cases hs:Z b with
    | none=>rfl
    | some o=>exact absurd (.inr ⟨hd,by rw[hs];simp⟩) k1
 have hA:B3 F Z w (join Z1 (G8 Z fun n=> ¬D n)) w':=by
  refine⟨fun n hn h0=>h3.frame n hn ?_,h3.size,h3.os,h3.tape,h3.output,fun n h0 hn=>?_⟩
  .by_cases hd:D n
   .rw[DZ hd];exact h0
   .exact De hd
  .have:Z1 n=none:=h3.names n (by
    by_cases hd:D n
    .rw[DZ hd];exact h0
    .exact De hd) hn
   simp only[join,this];by_cases hd:D n
   .exact De (fun h=>h hd)
   .rw[DZ hd];exact h0
 refine⟨r,_,⟨Z1,hq,hfr,rfl⟩,?_,⟨fun n o ho=>?_,fun n hn=>h2.lock n (.inl hn)⟩,hA⟩
 .cases r with
  | ret v=>obtain⟨c,rfl,hv⟩:=h1;exact⟨c,rfl,hv.mono hle⟩
  | Cu v=>obtain⟨c,rfl,hv⟩:=h1;exact⟨c,rfl,hv.mono hle⟩
 .simp only[join]at ho
  cases hs:Z1 n with
  | some o1=>
    rw[hs]at ho;simp only[Hp]at ho;subst ho;obtain⟨k1,ob,k2,k3⟩:=h2.own n _ hs;exact⟨fun h=>k1 (.inl h),ob,k2,k3.mono hle⟩
  | none=>
    rw[hs]at ho;simp only at ho;by_cases hd:D n
    .rw[De (fun h=>h hd)]at ho;cases ho
    .rw[DZ hd]at ho
     obtain⟨k1,ob,k2,k3⟩:=hR.own n o ho;refine⟨k1,ob,(h3.frame n (hR.lt ho) (De hd)).trans k2,k3.mono ?_⟩;exact hA.hle
end Go.Gl
namespace Go.Gl
variable {P:Program} {F:Nat->Prop} {env env':Env} {Z:AD}
def Bn {o:Option V} {k k':V->Prop} (h:wv o k) (hm: ∀v,k v->k' v):wv o k':=by
 cases o with
 | none=>exact h
 | some v=>exact hm v h
def MF {o:Option (List V)} {k k':List V->Prop} (h:ws o k) (hm: ∀v,k v->k' v):ws o k':=by
 cases o with
 | none=>exact h
 | some v=>exact hm v h
def UG {o:Option (Option V)} {k k':Option V->Prop} (h:wo o k) (hm: ∀v,k v->k' v):wo o k':=by
 cases o with
 | none=>exact h
 | some v=>exact hm v h
def XO {sz:Nat} {a x:V} {k k':AD->Prop} (h:AR Z sz a x k) (hm: ∀Z',k Z'->k' Z'):AR Z sz a x k':=by
 unfold AR at *;split at h
 .rename_i vc hc
  obtain⟨h1,h2,h3⟩:=h;refine⟨h1,h2,?_⟩;cases a<;>first|exact h3.elim|skip
  .simp only at *
   split at h3
   .exact⟨h3.1,hm _ h3.2⟩
   .exact h3.elim
  .simp only at *
   split at h3
   .refine⟨h3.1,?_⟩
    have h4:=h3.2;split at h4
    .exact⟨h4.1,hm _ h4.2⟩
    .exact h4.elim
   .exact h3.elim
 .exact h.elim
def E6 {sz:Nat} {y:V} {k k':List (List V)->Prop} (h:rowsOf Z sz y k) (hm: ∀v,k v->k' v):rowsOf Z sz y k':=by
 unfold rowsOf at *;cases y<;>first|exact h.elim|skip
 .exact⟨h.1,hm _ h.2⟩
 .simp only at *
  split at h
  .exact⟨h.1,h.2.1,hm _ h.2.2⟩
  .exact h.elim
 .simp only at *
  split at h
  .exact⟨h.1,h.2.1,h.2.2.1,hm _ h.2.2.2⟩
  .exact h.elim
def U0 {b sz:Nat} {x y:V} {k k':V->AD->Prop} (h:AI b Z sz x y k) (hm: ∀v Z',k v Z'->k' v Z'):AI b Z sz x y k':=by
 unfold AI at *;refine E6 h fun ys ⟨h1,h2⟩=>⟨h1,?_⟩
 cases x<;>first|exact h2.elim|skip
 .simp only at *
  exact⟨h2.1,h2.2.1,fun e=>hm _ _ (h2.2.2.1 e),fun e=>⟨(h2.2.2.2 e).1,fun n cap h3 h4=>hm _ _ ((h2.2.2.2 e).2 n cap h3 h4)⟩⟩
 .simp only at *
  split at h2
  .exact⟨h2.1,h2.2.1,h2.2.2.1,h2.2.2.2.1,fun n cap h3 h4=>hm _ _ (h2.2.2.2.2 n cap h3 h4)⟩
  .exact h2.elim
def IK {o:Option V} {d:Int} {k k':Int->Prop} (h:OD o d k) (hm: ∀v,k v->k' v):OD o d k':=by
 unfold OD at *;split at h
 .exact hm _ h
 .exact hm _ h
 .exact h.elim
def XQ {sz:Nat} {x:V} {a b c:Option V} {k k':V->AD->Prop} (h:AP Z sz x a b c k) (hm: ∀v Z',k v Z'->k' v Z'):AP Z sz x a b c k':=by
 unfold AP at *;cases x<;>first|exact h.elim|skip
 .simp only at *
  refine⟨h.1,IK h.2 fun hh h2=>IK h2 fun l h3=>⟨h3.1,h3.2.1,h3.2.2.1,?_⟩⟩;have h4:=h3.2.2.2;split at h4
  .exact hm _ _ h4
  .exact⟨h4.1,hm _ _ h4.2⟩
  .exact h4.elim
 .simp only at *
  refine IK h fun hh h2=>IK h2 fun l h3=>⟨h3.1,h3.2.1,h3.2.2.1,?_⟩
  have h4:=h3.2.2.2;split at h4
  .exact hm _ _ h4
  .refine⟨h4.1,h4.2.1,h4.2.2.1,?_⟩
   have h5:=h4.2.2.2;split at h5
   .exact⟨h5.1,h5.2.1,h5.2.2.1,h5.2.2.2.elim (fun h=> .inl (hm _ _ h)) fun h=> .inr (hm _ _ h)⟩
   .exact h5.elim
  .exact h4.elim
 .simp only at *
  exact IK h fun hh h2=>IK h2 fun l h3=>⟨h3.1,h3.2.1,h3.2.2.1,h3.2.2.2.1,h3.2.2.2.2.1,hm _ _ h3.2.2.2.2.2⟩
def S1 {sz:Nat} {ys:List (List V)} {n off len:Nat} {k k':V->AD->Prop} (h:Tm Z sz ys n off len k) (hm: ∀v Z',k v Z'->k' v Z'):Tm Z sz ys n off len k':=by
 unfold Tm at *;split at h
 .exact⟨h.1,h.2.1,hm _ _ h.2.2⟩
 .exact h.elim
def Yp {sz:Nat} {x y:V} {k k':V->AD->Prop} (h:AT Z sz x y k) (hm: ∀v Z',k v Z'->k' v Z'):AT Z sz x y k':=by
 refine E6 h fun ys h=>⟨h.1,?_⟩
 have h:=h.2;split at h
 .exact S1 h hm
 .exact⟨h.1,S1 h.2 hm⟩
 .exact h.elim
def Qm {o:Ht} {k k' kp kp':V->AD->Prop} (h:F6 P o env Z k kp) (hm: ∀v Z',k v Z'->k' v Z') (hp: ∀v Z',kp v Z'->kp' v Z'):F6 P o env Z k' kp':=by
 by_cases hs:still o=true
 .obtain⟨v,h1,h2⟩:=IV hs h
  exact h2 Z k' kp' (.inr fun _ _ h=>h) (hm _ _ h1)
 .cases o<;>first|(exact absurd rfl hs)|skip
  all_goals simp only[F6]at *
  case box x=>
   refine Bn h fun v h=>?_
   split at h
   .exact fun n hn=>hm _ _ (h n hn)
   .exact h.elim
  case alloc z=>exact fun n hn=>hm _ _ (h n hn)
  case xS x=>exact Bn h fun v ⟨vf,Z2,h1,h2,h3⟩=>⟨vf,Z2,h1,h2,hm _ _ h3⟩
  case Vd=>exact fun n hn=>hm _ _ (h n hn)
  case Hg ks x y z=>
   refine Bn h fun vm h=>Bn h fun vk h=>Bn h fun vx h=>?_
   unfold AN at *;obtain⟨h0,h⟩:=h;cases vm<;>first|exact h.elim|skip
   simp only at *;split at h
   .exact⟨h0,h.1,hm _ _ h.2⟩
   .exact h.elim
  case qW q n x=>
   refine Bn h fun vx h=>?_
   unfold VJ at *;split at h<;>first|exact h.elim|exact hm _ _ h|exact⟨fun e t=>hm _ _ (h.1 e t),fun e=>hm _ _ (h.2 e)⟩
  case KO a b c x y=>
   refine Bn h fun vx h=>Bn h fun vy h=>?_
   unfold AJ at *;split at h
   .exact⟨h.1,h.2.1,h.2.2.1,fun id hn=>hm _ _ (h.2.2.2 id hn)⟩
   .exact h.elim
  case store sz a x=>exact Bn h fun va h=>Bn h fun vx h=>XO h fun Z' h=>hm _ _ h
  case slice sz x a b c=>exact Bn h fun vx h=>UG h fun l h=>UG h fun hh h=>UG h fun m h=>XQ h hm
  case append sz b x y=>exact Bn h fun vx h=>Bn h fun vy h=>U0 h hm
  case copy sz x y=>exact Bn h fun vx h=>Bn h fun vy h=>Yp h hm
  case inv tab x as=>exact Bn h fun vx h=>MF h fun vs h=>h.mono fun r Z' h=>by cases r<;>first|exact hm _ _ h|exact hp _ _ h
  case panic x=>
   refine Bn h fun vx h=>?_
   split at h
   .exact hp _ _ h
   .exact h.elim
  case call f as=>exact MF h fun vs h=>h.mono fun r Z' h=>by cases r<;>first|exact hm _ _ h|exact hp _ _ h
  case Pv x as=>
   exact Bn h fun vx h=>MF h fun vs h=>h.mono fun r Z' h=>by cases r<;>first|exact hm _ _ h|exact hp _ _ h
def HG {n:Nat} {o:O} (hn:Z n=none):Sub Z (Bz Z n o):=fun m p hp=>by
 unfold Bz;split
 .rename_i e
  subst e;rw[hn]at hp;cases hp
 .exact hp
def calm (o:Ht):Bool:=match kd o with| .H=>false|_=>true
def Oa {b sz:Nat} {y:V} {k:V->AD->Prop}:AI b Z sz (.l [] true) y k=rowsOf Z sz y fun ys=>(∀e∈ys,∀v∈e,DL v=true)/\(ys.length<=AZ/\ys.length*b<=140737488355328)/\(ys= []->k (.l [] true) Z)/\
 (ys≠[]-> ∀n cap,Z n=none->ys.length<=cap->k (.sl n ys.length cap) (Bz Z n (.arr sz ys cap))):=by
 simp[AI]
def OT {s:Nat} {x:CG} {a b c:Option CG} (h:calm (.slice s x a b c)=true):still (.slice s x a b c)=true:=by
 cases c with
 | none=>rfl
 | some c=>cases h
def S0 {a b:Nat} {x y:CG} (h:kd (.append a b x y)≠ .H):x= .c (.l [] true):=by
 simp only[kd]at h;split at h
 .rfl
 .exact absurd rfl h
def bN {o:Ht} (hc:calm o=true) {k kp:V->AD->Prop} (h:F6 P o env Z k kp):F6 P o env Z (fun v Z'=>k v Z'/\Sub Z Z') kp:=by
 by_cases hs:still o=true
 .obtain⟨v,h1,h2⟩:=IV hs h
  exact h2 Z _ kp (.inr fun _ _ h=>h) ⟨h1,fun _ _ h=>h⟩
 .cases o<;>first|(exact absurd rfl hs)|(cases hc;done)|skip
  all_goals simp only[F6]at *
  case slice s x a b c=>exact absurd (OT hc) hs
  case box x=>
   refine Bn h fun v h=>?_
   split at h
   .exact fun n hn=>⟨h n hn,HG hn⟩
   .exact h.elim
  case alloc z=>exact fun n hn=>⟨h n hn,HG hn⟩
  case append sz b x y=>
   have hx:x= .c (.l [] true):=S0 (b:=b) (a:=sz) (y:=y) (by intro e;simp[calm,e]at hc);subst hx;change wv (ev env y) _ at h;change wv (ev env y) _;refine Bn h fun vy h=>?_
   rw[Oa]at *;exact E6 h fun ys h=>⟨h.1,h.2.1,fun e=>⟨h.2.2.1 e,fun _ _ h=>h⟩,fun e n cap h3 h4=>⟨h.2.2.2 e n cap h3 h4,HG h3⟩⟩
def QA {n m:Nat} (h:n≠m) (a b:O):Bz (Bz Z n a) m b=Bz (Bz Z m b) n a:=by
 funext k;unfold Bz;by_cases h1:k=m
 .have h2:k≠n:=fun e=>h (e.symm.trans h1)
  rw[if_pos h1,if_neg h2,if_pos h1]
 .rw[if_neg h1,if_neg h1]
def LR {n m:Nat} (h:n≠m) {a:O}:Bz Z n a m=Z m:=by
 unfold Bz;rw[if_neg (fun e=>h e.symm)]
def NU {n:Nat} {a:O}:Bz Z n a n=some a:=by simp[Bz]
def YY {Z':AD} (hs:Sub Z Z') {sz:Nat} {y:V} {k:List (List V)->Prop} (h:rowsOf Z sz y k):rowsOf Z' sz y k:=by
 unfold rowsOf at *;cases y<;>first|exact h.elim|exact h|skip
 .rename_i m len cap
  simp only at *;cases hm:Z m with
  | none=>rw[hm]at h;exact h.elim
  | some o=>rw[hm]at h;rw[hs m o hm];exact h
 .rename_i m s off len
  simp only at *;cases hm:Z m with
  | none=>rw[hm]at h;exact h.elim
  | some o=>rw[hm]at h;rw[hs m o hm];exact h
def Wx {o:Ht} (hc:calm o=true) {k kp:V->AD->Prop} (h:F6 P o env Z k kp) {m:Nat} {z:O} (hm:Z m=none) :
    F6 P o env (Bz Z m z) (fun v Z2=> ∃Z1,k v Z1/\Z1 m=none/\Z2=Bz Z1 m z) kp:=by
 by_cases hs:still o=true
 .obtain⟨v,h1,h2⟩:=IV hs h
  exact h2 _ _ kp (.inr (HG hm)) ⟨Z,h1,hm,rfl⟩
 .have hne: ∀n,Bz Z m z n=none->Z n=none/\n≠m:=fun n hn=>by
   have:n≠m:=fun e=>by rw[e,NU]at hn;cases hn
   exact⟨by rwa [LR this.symm]at hn,this⟩
  cases o<;>first|(exact absurd rfl hs)|(cases hc;done)|skip
  all_goals simp only[F6]at *
  case slice s x a b c=>exact absurd (OT hc) hs
  case box x=>
   refine Bn h fun v h=>?_
   split at h
   .exact fun n hn=>⟨_,h n (hne n hn).1,by rw[LR (hne n hn).2];exact hm,QA (hne n hn).2.symm _ _⟩
   .exact h.elim
  case alloc z'=>exact fun n hn=>⟨_,h n (hne n hn).1,by rw[LR (hne n hn).2];exact hm,QA (hne n hn).2.symm _ _⟩
  case append sz b x y=>
   have hx:x= .c (.l [] true):=S0 (b:=b) (a:=sz) (y:=y) (by intro e;simp[calm,e]at hc);subst hx;change wv (ev env y) _ at h;change wv (ev env y) _;refine Bn h fun vy h=>?_
   rw[Oa]at *;refine E6 (YY (HG hm) h) fun ys h=>⟨h.1,h.2.1,fun e=>⟨Z,h.2.2.1 e,hm,rfl⟩,fun e n cap h3 h4=>?_⟩
   exact⟨_,h.2.2.2 e n cap (hne n h3).1 h4,by rw[LR (hne n h3).2];exact hm,QA (hne n h3).2.symm _ _⟩
def YC:Ht->Bool| .call _ _=>true|_=>false
def Wy {o:Ht} (hc:YC o=true) {k kp:V->AD->Prop} (hU: ∀v Z m z,Z m=none->kp v Z->kp v (Bz Z m z)) (h:F6 P o env Z k kp) {m:Nat} {z:O} (hm:Z m=none) :
    F6 P o env (Bz Z m z) (fun v Z2=> ∃Z1,k v Z1/\Z1 m=none/\Z2=Bz Z1 m z) kp:=by
 cases o<;>first|(cases hc;done)|skip
 rename_i f args;simp only[F6]at *;refine MF h fun vs h=>?_
 have hr:G8 (Bz Z m z) (fun n=>n≠m)=Z:=by
  funext n;by_cases hn:n=m
  .subst hn;rw[De (fun h=>h rfl),hm]
  .rw[DZ hn];simp[Bz,hn]
 have h':As P f vs (G8 (Bz Z m z) fun n=>n≠m) (qk k kp):=by rw[hr];exact h
 refine As.mono (As.frame (fun n=>n≠m) h') fun r Z' ⟨Z1,hq,hfr,he⟩=>?_
 have h1:Z1 m=none:=hfr m (fun h=>h rfl) (by rw[NU];simp)
 have h2:Z'=Bz Z1 m z:=by
  rw[he];funext n;simp only[join];by_cases hn:n=m
  .subst hn
   rw[h1];simp only;rw[DZ (fun h=>h rfl),NU,NU]
  .rw[De (fun h=>h hn)]
   cases hs:Z1 n with
   | none=>simp[Bz,hn,hs]
   | some o=>simp[Bz,hn,hs]
 cases r with
 | ret v=>exact⟨Z1,hq,h1,h2⟩
 | Cu v=>rw[h2];exact hU _ _ _ _ h1 hq
structure A8 where
 dst:Option Nat
 op:Ht
 guard:Option (Nat×Bool)
 deriving Inhabited
def put (d:Option Nat) (v:V) (env:Env):Env:=match d with|some d=>(d,v)::env|none=>env
def JW (P:Program) (o:A8) (env:Env) (Z:AD) (k kp:V->AD->Prop):Prop:=
 match o.guard with
 | none=>F6 P o.op env Z k kp
 | some (g,b)=>match get g env with
   | some (.b t)=>(t=b->F6 P o.op env Z k kp)/\(t= !b->k (.t []) Z)
   | some (.t [])=>k (.t []) Z
   | _=>False
def looks (o:A8):List Nat:=reads o.op++(match o.guard with|some (g,_)=>[g]|none=>[])
def GW {o:A8} {k kp:V->AD->Prop} (h: ∀s∈looks o,get s env'=get s env):JW P o env' Z k kp=JW P o env Z k kp:=by
 unfold JW;unfold looks at h;cases hg:o.guard with
 | none=>exact TX fun s hs=>h s (NK _ hs)
 | some p=>
   obtain⟨g,b⟩:=p;simp only;rw[h g (by rw[hg];simp),TX fun s hs=>h s (NK _ hs)]
def CE {o:A8} {k k' kp kp':V->AD->Prop} (h:JW P o env Z k kp) (hm: ∀v Z',k v Z'->k' v Z') (hp: ∀v Z',kp v Z'->kp' v Z'):JW P o env Z k' kp':=by
 unfold JW at *;split at h
 .exact Qm h hm hp
 .split at h
  .exact⟨fun e=>Qm (h.1 e) hm hp,fun e=>hm _ _ (h.2 e)⟩
  .exact hm _ _ h
  .exact h.elim
def TY {o:A8} (hs:still o.op=true) {k kp:V->AD->Prop} (h:JW P o env Z k kp) :
    ∃v,k v Z/\ ∀Z' (k' kp':V->AD->Prop),(kd o.op= .P\/Sub Z Z')->k' v Z'->JW P o env Z' k' kp':=by
 unfold JW at *;split at h
 .obtain⟨v,h1,h2⟩:=IV hs h
  exact⟨v,h1,fun Z' k' kp' hσ hk=>h2 Z' k' kp' hσ hk⟩
 .rename_i g b hg
  split at h
  .rename_i t ht
   skip
   by_cases htb:t=b
   .obtain⟨v,h1,h2⟩:=IV hs (h.1 htb)
    refine⟨v,h1,fun Z' k' kp' hσ hk=>?_⟩;exact⟨fun _=>h2 Z' k' kp' hσ hk,fun e=>absurd (htb.symm.trans e) (by cases b<;>simp)⟩
   .refine⟨.t [],h.2 (by cases t<;>cases b<;>simp_all),fun Z' k' kp' hσ hk=>?_⟩
    exact⟨fun e=>absurd e htb,fun _=>hk⟩
  .exact⟨.t [],h,fun Z' k' kp' hσ hk=>hk⟩
  .exact h.elim
def bO {o:A8} (hc:calm o.op=true) {k kp:V->AD->Prop} (h:JW P o env Z k kp):JW P o env Z (fun v Z'=>k v Z'/\Sub Z Z') kp:=by
 unfold JW at *;split at h
 .exact bN hc h
 .split at h
  .exact⟨fun e=>bN hc (h.1 e),fun e=>⟨h.2 e,fun _ _ h=>h⟩⟩
  .exact⟨h,fun _ _ h=>h⟩
  .exact h.elim
def ky {o:A8} (hc:calm o.op=true) {k kp:V->AD->Prop} (h:JW P o env Z k kp) {m:Nat} {z:O} (hm:Z m=none) :
    JW P o env (Bz Z m z) (fun v Z2=> ∃Z1,k v Z1/\Z1 m=none/\Z2=Bz Z1 m z) kp:=by
 unfold JW at *;split at h
 .exact Wx hc h hm
 .split at h
  .exact⟨fun e=>Wx hc (h.1 e) hm,fun e=>⟨Z,h.2 e,hm,rfl⟩⟩
  .exact⟨Z,h,hm,rfl⟩
  .exact h.elim
def ZS (o:Ht):Bool:=calm o||YC o
def dh {o:A8} (hc:ZS o.op=true) {k kp:V->AD->Prop} (hU: ∀v Z m z,Z m=none->kp v Z->kp v (Bz Z m z)) (h:JW P o env Z k kp) {m:Nat} {z:O} (hm:Z m=none) :
    JW P o env (Bz Z m z) (fun v Z2=> ∃Z1,k v Z1/\Z1 m=none/\Z2=Bz Z1 m z) kp:=by
 cases hc':calm o.op with
 | true=>exact ky hc' h hm
 | false=>
   have hc2:YC o.op=true:=by simpa[ZS,hc']using hc
   unfold JW at *;split at h
   .exact Wy hc2 hU h hm
   .split at h
    .exact⟨fun e=>Wy hc2 hU (h.1 e) hm,fun e=>⟨Z,h.2 e,hm,rfl⟩⟩
    .exact⟨Z,h,hm,rfl⟩
    .exact h.elim
end Go.Gl
