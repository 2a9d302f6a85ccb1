import Derived.Test.YtnidfcmdimehdaaGreatW6
set_option linter.all false
set_option linter.defProp false
set_option maxHeartbeats 8000000
noncomputable section
namespace Go.Gl
variable {P:Program} {F:Nat->Prop} {env env':Env} {Z:AE}
def Aj (AD:(V->Prop)->Prop):Prop:= ∀k,AD k-> ∃v,k v/\ ∀k':V->Prop,k' v->AD k'
def Aj.one (v:V):Aj fun k=>k v:=fun _ h=>⟨v,h,fun _ h=>h⟩
def Aj.no:Aj fun _=>False:=fun _ h=>h.elim
def Aj.and {p:Prop} {AD:(V->Prop)->Prop} (h:Aj AD):Aj fun k=>p/\AD k:=fun k ⟨hp,hF⟩=>let⟨v,h1,h2⟩:=h k hF;⟨v,h1,fun k' hk=>⟨hp,h2 k' hk⟩⟩
def Aj.wv {o:Option V} {AD:V->(V->Prop)->Prop} (h: ∀v,Aj (AD v)):Aj fun k=>wv o fun v=>AD v k:=by
 cases o with
 | none=>exact Aj.no
 | some v=>exact h v
def Aj.ws {o:Option (List V)} {AD:List V->(V->Prop)->Prop} (h: ∀v,Aj (AD v)):Aj fun k=>ws o fun v=>AD v k:=by
 cases o with
 | none=>exact Aj.no
 | some v=>exact h v
def Aj.wr {o:Option (List (List V))} {AD:List (List V)->(V->Prop)->Prop} (h: ∀v,Aj (AD v)):Aj fun k=>wr o fun v=>AD v k:=by
 cases o with
 | none=>exact Aj.no
 | some v=>exact h v
def Aj.wo {o:Option (Option V)} {AD:Option V->(V->Prop)->Prop} (h: ∀v,Aj (AD v)):Aj fun k=>wo o fun v=>AD v k:=by
 cases o with
 | none=>exact Aj.no
 | some v=>exact h v
def ja (op:BinOp) (x y:V):Aj (Uc op x y):=by
 unfold Uc;cases x<;>cases y<;>first|exact Aj.no|skip
 cases op<;>simp only<;>first|exact(Aj.one _).and|exact(Aj.one _).and.and
def LR (agg:Option Nat) (cs:List V) (off:Nat):Aj (cut agg cs off):=by
 unfold cut;cases agg with
 | none=>cases cs[off]? with
   | none=>exact Aj.no
   | some v=>exact Aj.one _
 | some n=>exact(Aj.one _).and
def cU (Z:AE) (agg:Option Nat) (x:V):Aj (AT Z agg x):=by
 unfold AT Oz O0;cases x<;>first|exact Aj.no|skip
 case p n off=>
  simp only;cases Z n with
  | none=>exact Aj.no
  | some o=>cases o<;>first|exact Aj.no|exact LR _ _ _
 case rp cs=>exact LR _ _ _
 case pe n sz i off=>
  simp only;cases Z n with
  | none=>exact Aj.no
  | some o=>
    cases o<;>first|exact Aj.no|skip
    simp only;refine Aj.and ?_;rename_i es _;cases es[i]? with
    | none=>exact Aj.no
    | some e=>exact LR _ _ _
def bj {Z Z':AE} (hs:Sub Z Z') {agg:Option Nat} {x:V} {k:V->Prop} (h:AT Z agg x k):AT Z' agg x k:=by
 unfold AT Oz O0 at *;cases x<;>first|exact h|skip
 case p n off=>
  simp only at *;cases hn:Z n with
  | none=>rw[hn]at h;exact h.elim
  | some o=>rw[hs n o hn];rw[hn]at h;exact h
 case pe n sz i off=>
  simp only at *;cases hn:Z n with
  | none=>rw[hn]at h;exact h.elim
  | some o=>rw[hs n o hn];rw[hn]at h;exact h
def Yb (off:Nat) (x:V):Aj (KE off x):=by
 unfold KE;cases x<;>first|exact Aj.no|exact Aj.one _
def Ya (sz:Nat) (arr:Option Nat) (x i:V):Aj (AO sz arr x i):=by
 unfold AO;cases i<;>first|exact Aj.no|skip
 cases arr<;>cases x<;>first|exact Aj.no|exact(Aj.one _).and.and|exact(Aj.one _).and.and.and|skip
 intro k ⟨h0,e,h1,h2,h3⟩;exact⟨_,h3,fun k' hk=>⟨h0,e,h1,h2,hk⟩⟩
def YZ (len sz:Nat) (agg:Option Nat) (x i:V):Aj (KD len sz agg x i):=by
 unfold KD;cases x<;>first|exact Aj.no|skip
 cases i<;>first|exact Aj.no|skip
 exact(LR _ _ _).and.and
def cT (x i:V):Aj (O4 x i):=by
 unfold O4;cases x<;>first|exact Aj.no|skip
 cases i<;>first|exact Aj.no|skip
 refine Aj.and ?_;rename_i b _ j;cases b.data.toList[j.toNat]? with
 | none=>exact Aj.no
 | some c=>exact Aj.one _
def jZ (x:V):Aj (Ar x):=by
 unfold Ar;cases x<;>first|exact Aj.no|exact Aj.one _|exact(Aj.one _).and
def cV (Z:AE) (x:V):Aj (Jt Z x):=by
 unfold Jt;cases x<;>first|exact Aj.no|exact Aj.one _|skip
 case m n=>
  simp only;cases Z n with
  | none=>exact Aj.no
  | some o=>cases o<;>first|exact Aj.no|exact(Aj.one _).and
def bk {Z Z':AE} (hs:Sub Z Z') {x:V} {k:V->Prop} (h:Jt Z x k):Jt Z' x k:=by
 unfold Jt at *;cases x<;>first|exact h|skip
 case m n=>
  simp only at *;cases hn:Z n with
  | none=>rw[hn]at h;exact h.elim
  | some o=>rw[hs n o hn];rw[hn]at h;exact h
def I9 {o:Option V} {d:Int} {k:Int->Prop} (h:Nt o d k): ∃v,k v/\ ∀k':Int->Prop,k' v->Nt o d k':=by
 unfold Nt at *;split at h
 .exact⟨_,h,fun _ h=>h⟩
 .exact⟨_,h,fun _ h=>h⟩
 .exact h.elim
def YY {sz:Nat} {x:V} {a b:Option V} {k:V->AE->Prop} (h:AN Z sz x a b none k): ∃v,k v Z/\ ∀Z' (k':V->AE->Prop),k' v Z'->AN Z' sz x a b none k':=by
 unfold AN at *;cases x<;>first|exact h.elim|skip
 .simp only at *
  obtain⟨h0,h⟩:=h;obtain⟨hh,h,g1⟩:=I9 h;obtain⟨l,h,g2⟩:=I9 h;exact⟨_,h.2.2.2,fun Z' k' hk=>⟨h0,g1 _ (g2 _ ⟨h.1,h.2.1,h.2.2.1,hk⟩)⟩⟩
 .simp only at *
  obtain⟨hh,h,g1⟩:=I9 h;obtain⟨l,h,g2⟩:=I9 h;exact⟨_,h.2.2.2,fun Z' k' hk=>g1 _ (g2 _ ⟨h.1,h.2.1,h.2.2.1,hk⟩)⟩
 .simp only at *
  obtain⟨hh,h,g1⟩:=I9 h;obtain⟨l,h,g2⟩:=I9 h;exact⟨_,h.2.2.2.2.2,fun Z' k' hk=>g1 _ (g2 _ ⟨h.1,h.2.1,h.2.2.1,h.2.2.2.1,trivial,hk⟩)⟩
def P7 {sz:Nat} {y:V} {k:List (List V)->Prop} (h:rowsOf Z sz y k): ∃ys,k ys/\ ∀Z' (k':List (List V)->Prop),Sub Z Z'->k' ys->rowsOf Z' sz y k':=by
 unfold rowsOf at *;cases y<;>first|exact h.elim|skip
 .exact⟨_,h.2,fun _ _ _ hk=>⟨h.1,hk⟩⟩
 .rename_i m len cap
  simp only at *;cases hm:Z m with
  | none=>rw[hm]at h;exact h.elim
  | some o=>
    rw[hm]at h;cases o<;>first|exact h.elim|skip
    exact⟨_,h.2.2,fun Z' k' hs hk=>by rw[hs m _ hm];exact⟨h.1,h.2.1,hk⟩⟩
 .rename_i m s off len
  simp only at *;cases hm:Z m with
  | none=>rw[hm]at h;exact h.elim
  | some o=>
    rw[hm]at h;cases o<;>first|exact h.elim|skip
    exact⟨_,h.2.2.2,fun Z' k' hs hk=>by rw[hs m _ hm];exact⟨h.1,h.2.1,h.2.2.1,hk⟩⟩
def jG {x:V} {k:V->Prop} (h:di Z x k): ∃v,k v/\ ∀Z' (k':V->Prop),Sub Z Z'->k' v->di Z' x k':=by
 obtain⟨ys,h1,h2⟩:=P7 h;cases hn:Ep ys with
 | none=>rw[hn]at h1;exact h1.elim
 | some ns=>
   rw[hn]at h1;exact⟨_,h1,fun Z' k' hs hk=>h2 Z' _ hs (by rw[hn];exact hk)⟩
def cW {b sz:Nat} {x y:V} {k:V->Prop} (h:AX b Z sz x y k): ∃v,k v/\ ∀Z' (k':V->Prop),Sub Z Z'->k' v->AX b Z' sz x y k':=by
 unfold AX at *;obtain⟨ys,⟨h1,h2⟩,h3⟩:=P7 h;cases x<;>first|exact h2.elim|skip
 exact⟨_,h2.2.2.2,fun Z' k' hs hk=>h3 Z' _ hs ⟨h1,h2.1,h2.2.1,h2.2.2.1,hk⟩⟩
def Wx {ks:KS} {z:V} {ok:Bool} {vm vk:V} {k:V->Prop} (h:AK Z ks z ok vm vk k): ∃v,k v/\ ∀Z' (k':V->Prop),Sub Z Z'->k' v->AK Z' ks z ok vm vk k':=by
 unfold AK at *;obtain⟨h0,h⟩:=h;cases vm<;>first|exact h.elim|skip
 .rename_i n
  simp only at *;cases hn:Z n with
  | none=>rw[hn]at h;exact h.elim
  | some o=>
    rw[hn]at h;cases o<;>first|exact h.elim|skip
    exact⟨_,h.2,fun Z' k' hs hk=>⟨h0,by rw[hs n _ hn];exact⟨h.1,hk⟩⟩⟩
 .exact⟨_,h,fun Z' k' hs hk=>⟨h0,hk⟩⟩
inductive Kd where
 | P|N|A|AA|H
 deriving DecidableEq,Repr
def kd:FU->Kd
 | .load _ _=> .N
 | .Sx _=> .N
 | .str _=> .N
 | .Q3 _ _ _ _=> .N
 | .box _=> .A
 | .append _ _ x _=>match x with| .c (.l [] true)=> .A|_=> .H
 | .alloc _=> .AA
 | .slice _ _ _ _ mx=>match mx with|none=> .N|some _=> .H
 | .store _ _ _| .copy _ _ _| .D0 _ _ _ _| .panic _| .call _ _| .Ii _ _| .Xm _ _| .inv _ _ _| .NQ| .Fb _ _ _ _ _| .dI _ _ _| .kL _=> .H
 | .lookup _ _ _ _ _=> .N
 | _=> .P
def wz {o:FU} (hk:kd o= .P): ∃AD:(V->Prop)->Prop,Aj AD/\ ∀Z (k kp:V->AE->Prop),Ez P o env Z k kp=AD (fun v=>k v Z):=by
 cases o<;>first|(simp[kd]at hk;done)|skip
 case mv x=>exact⟨fun k=>wv (ev env x) k,Aj.wv fun v=>Aj.one v,fun _ _ _=>rfl⟩
 case pick c a b=>
  refine⟨fun k=>wv (ev env c) fun vc=>wv (ev env a) fun va=>wv (ev env b) fun vb=>match vc with| .b t=>(match va,vb with| .b x,.b y=>k (.b (bif t then x else y))|_,_=>k (bif t then va else vb))|_=>False,?_,fun _ _ _=>rfl⟩;refine Aj.wv fun vc=>Aj.wv fun va=>Aj.wv fun vb=>?_
  cases vc<;>first|exact Aj.no|skip
  cases va<;>first|exact Aj.one _|skip
  cases vb<;>exact Aj.one _
 case bin op x y=>exact⟨fun k=>wv (ev env x) fun vx=>wv (ev env y) fun vy=>Uc op vx vy k,Aj.wv fun _=>Aj.wv fun _=>ja _ _ _,fun _ _ _=>rfl⟩
 case kR n x y=>
  refine⟨fun k=>wv (ev env x) fun vx=>wv (ev env y) fun vy=>match vx,vy with| .b p,.b q=>k (.b (bif n then p != q else p==q))|_,_=>False,?_,fun _ _ _=>rfl⟩;refine Aj.wv fun vx=>Aj.wv fun vy=>?_
  cases vx<;>cases vy<;>first|exact Aj.no|exact Aj.one _
 case kQ q n x y=>
  refine⟨fun k=>wv (ev env x) fun vx=>wv (ev env y) fun vy=>Sz q n vx vy k,Aj.wv fun vx=>Aj.wv fun vy=>?_,fun _ _ _=>rfl⟩;unfold Sz;cases vx<;>first|exact Aj.no|skip
  cases vy<;>first|exact Aj.no|skip
  simp only;split<;>first|exact Aj.no|exact Aj.one _
 case not x=>
  refine⟨fun k=>wv (ev env x) fun vx=>match vx with| .b p=>k (.b (!p))|_=>False,Aj.wv fun vx=>?_,fun _ _ _=>rfl⟩;cases vx<;>first|exact Aj.no|exact Aj.one _
 case neg xor x=>
  refine⟨fun k=>wv (ev env x) fun vx=>match vx with| .i ka a=>k (.i ka (bif xor then bits .xor ka (bif ka.signed then -1 else ka.max) a else ka.wrap (0 - a)))|_=>False,Aj.wv fun vx=>?_,fun _ _ _=>rfl⟩;cases vx<;>first|exact Aj.no|exact Aj.one _
 case conv ka x=>
  refine⟨fun k=>wv (ev env x) fun vx=>match vx with| .i _ a=>k (.i ka (ka.wrap a))|_=>False,Aj.wv fun vx=>?_,fun _ _ _=>rfl⟩;cases vx<;>first|exact Aj.no|exact Aj.one _
 case N3 x=>
  refine⟨fun k=>wv (ev env x) fun vx=>match cellsOf vx with|some cs=>k (.rp cs)|none=>False,Aj.wv fun vx=>?_,fun _ _ _=>rfl⟩;cases cellsOf vx<;>first|exact Aj.no|exact Aj.one _
 case build z ps=>exact⟨fun k=>ws (Jw env z ps) fun cs=>k (.a cs),Aj.ws fun _=>Aj.one _,fun _ _ _=>rfl⟩
 case Gj sz len z ps=>exact⟨fun k=>wr (Ig env z.length (List.replicate len z) ps) fun es=>k (.l es true),Aj.wr fun _=>Aj.one _,fun _ _ _=>rfl⟩
 case FW off x=>exact⟨fun k=>wv (ev env x) fun vx=>KE off vx k,Aj.wv fun _=>Yb _ _,fun _ _ _=>rfl⟩
 case field agg off x=>
  refine⟨fun k=>wv (ev env x) fun vx=>match vx with| .a cs=>cut agg cs off k|_=>False,Aj.wv fun vx=>?_,fun _ _ _=>rfl⟩;cases vx<;>first|exact Aj.no|exact LR _ _ _
 case K4 sz arr x i=>exact⟨fun k=>wv (ev env x) fun vx=>wv (ev env i) fun vi=>AO sz arr vx vi k,Aj.wv fun _=>Aj.wv fun _=>Ya _ _ _ _,fun _ _ _=>rfl⟩
 case UT x i=>exact⟨fun k=>wv (ev env x) fun vx=>wv (ev env i) fun vi=>O4 vx vi k,Aj.wv fun _=>Aj.wv fun _=>cT _ _,fun _ _ _=>rfl⟩
 case index len sz agg x i=>exact⟨fun k=>wv (ev env x) fun vx=>wv (ev env i) fun vi=>KD len sz agg vx vi k,Aj.wv fun _=>Aj.wv fun _=>YZ _ _ _ _ _,fun _ _ _=>rfl⟩
 case len x=>exact⟨fun k=>wv (ev env x) fun vx=>Ar vx k,Aj.wv fun _=>jZ _,fun _ _ _=>rfl⟩
 case UY x y=>
  refine⟨fun k=>wv (ev env x) fun vx=>wv (ev env y) fun vy=>match vx,vy with| .i ka a,.i kb b=>ka=kb/\k (.i ka (if b > a then b else a))|_,_=>False,?_,fun _ _ _=>rfl⟩;refine Aj.wv fun vx=>Aj.wv fun vy=>?_
  cases vx<;>cases vy<;>first|exact Aj.no|exact(Aj.one _).and
 case UX x y=>
  refine⟨fun k=>wv (ev env x) fun vx=>wv (ev env y) fun vy=>match vx,vy with| .i ka a,.i kb b=>ka=kb/\k (.i ka (if b<a then b else a))|_,_=>False,?_,fun _ _ _=>rfl⟩;refine Aj.wv fun vx=>Aj.wv fun vy=>?_
  cases vx<;>cases vy<;>first|exact Aj.no|exact(Aj.one _).and
 case extract i x=>
  refine⟨fun k=>wv (ev env x) fun vx=>match vx with| .t vs=>(match vs[i]? with|some v=>k v|none=>False)|_=>False,Aj.wv fun vx=>?_,fun _ _ _=>rfl⟩;cases vx<;>first|exact Aj.no|skip
  rename_i vs;simp only;cases vs[i]? <;>first|exact Aj.no|exact Aj.one _
 case IB x=>
  refine⟨fun k=>wv (ev env x) fun vx=>match vx with
   | .p n off=>k (.p n off)
   | .rp cs=>k (.rp cs)
   | .pe n sz i off=>k (.pe n sz i off)
   | .f (.func f) first cap=>k (.f (.func f) first cap)
   | .f (.yield l) first cap=>k (.f (.yield l) first cap)
   | _=>False,Aj.wv fun vx=>?_,fun _ _ _=>rfl⟩
  cases vx<;>first|exact Aj.no|exact Aj.one _|skip
  rename_i f a b;cases f<;>first|exact Aj.no|exact Aj.one _
 case dF f a b=>exact⟨fun k=>ws (UN env a) fun vf=>ws (UN env b) fun vc=>k (.f f vf vc),Aj.ws fun _=>Aj.ws fun _=>Aj.one _,fun _ _ _=>rfl⟩
 case NR t x=>exact⟨fun k=>wv (ev env x) fun vx=>k (.Ee t vx),Aj.wv fun _=>Aj.one _,fun _ _ _=>rfl⟩
 case dD t z ok x=>
  refine⟨fun k=>wv (ev env x) fun vx=>match vx with
   | .Ee t' v=>(t'=t->k (bif ok then .t [v,.b true]else v))/\(t'≠t->ok=true/\k (.t [z,.b false]))
   | .DT=>ok=true/\k (.t [z,.b false])
   | _=>False,Aj.wv fun vx=>?_,fun _ _ _=>rfl⟩
  cases vx<;>first|exact Aj.no|exact(Aj.one _).and|skip
  rename_i t' v;simp only;by_cases ht:t'=t
  .simpa[ht]using Aj.one _
  .simpa[ht]using(Aj.one (.t [z,.b false])).and
 case K7 f as=>
  refine⟨fun k=>ws (UN env as) fun vs=> ∃v,Ao P f vs (fun _=>none) (fun r Z'=>r= .ret v/\Z'=fun _=>none)/\k v,Aj.ws fun vs=>?_,fun _ _ _=>rfl⟩;intro k ⟨v,h1,h2⟩;exact⟨v,h2,fun k' hk=>⟨v,h1,hk⟩⟩
 case slice s x a b c=>
  exfalso;simp only[kd]at hk;split at hk<;>cases hk
 case append a b x y=>
  exfalso;simp only[kd]at hk;split at hk<;>cases hk
 all_goals exact⟨fun _=>False,Aj.no,fun _ _ _=>rfl⟩
def still (o:FU):Bool:=match kd o with| .P=>true| .N=>true|_=>false
def HY {o : FU} (hs:still o=true) {k kp:V->AE->Prop} (h:Ez P o env Z k kp) :
    ∃v,k v Z/\ ∀Z' (k' kp':V->AE->Prop),(kd o= .P\/Sub Z Z')->k' v Z'->Ez P o env Z' k' kp':=by
 unfold still at hs;cases hk:kd o<;>rw[hk]at hs<;>first|(cases hs;done)|skip
 .obtain⟨AD,h1,h2⟩:=wz (P:=P) (env:=env) hk
  rw[h2]at h;obtain⟨v,h3,h4⟩:=h1 _ h;exact⟨v,h3,fun Z' k' kp' _ hv=>by rw[h2];exact h4 _ hv⟩
 .cases o <;>first|(simp[kd]at hk;done)|skip
  case load agg x=>
   simp only[Ez]at *;cases hx:ev env x with
   | none=>rw[hx]at h;exact h.elim
   | some vx=>
     rw[hx]at h;obtain⟨v,h3,h4⟩:=cU Z agg vx _ h;refine⟨v,h3,fun Z' k' kp' hs hv=>bj (hs.resolve_left (by simp)) (h4 _ hv)⟩
  case Sx x=>
   simp only[Ez]at *;cases hx:ev env x with
   | none=>rw[hx]at h;exact h.elim
   | some vx=>
     rw[hx]at h
     try simp only[EU]at h ⊢
     obtain⟨v,h3,h4⟩:=cV Z vx _ h;refine⟨v,h3,fun Z' k' kp' hs hv=>bk (hs.resolve_left (by simp)) (h4 _ hv)⟩
  case str x=>
   simp only[Ez]at *;cases hx:ev env x with
   | none=>rw[hx]at h;exact h.elim
   | some vx=>
     rw[hx]at h
     try simp only[EU]at h ⊢
     obtain⟨v,h3,h4⟩:=jG h;exact⟨v,h3,fun Z' k' kp' hs hv=>h4 _ _ (hs.resolve_left (by simp)) hv⟩
  case lookup ks z ok x y=>
   simp only[Ez]at *;cases hx:ev env x with
   | none=>rw[hx]at h;exact h.elim
   | some vx=>
     rw[hx]at h
     try simp only[EU]at h ⊢
     cases hy:ev env y with
     | none=>rw[hy]at h;exact h.elim
     | some vy=>
       rw[hy]at h
       try simp only[EU]at h ⊢
       obtain⟨v,h1,h2⟩:=Wx h;exact⟨v,h1,fun Z' k' kp' hs hk'=>h2 Z' _ (hs.resolve_left (by simp)) hk'⟩
  case Q3 a b x y=>
   simp only[Ez]at *;cases hx:ev env x with
   | none=>rw[hx]at h;exact h.elim
   | some vx=>
     rw[hx]at h
     try simp only[EU]at h ⊢
     cases hy:ev env y with
     | none=>rw[hy]at h;exact h.elim
     | some vy=>
       rw[hy]at h
       try simp only[EU]at h ⊢
       obtain⟨v,h1,h2⟩:=cW h;exact⟨v,h1,fun Z' k' kp' hs hk'=>h2 Z' _ (hs.resolve_left (by simp)) hk'⟩
  case slice s x a b c=>
   cases c with
   | some c=>simp[kd]at hk
   | none=>
     simp only[Ez]at *;cases hx:ev env x with
     | none=>rw[hx]at h;exact h.elim
     | some vx=>
       rw[hx]at h
       try simp only[EU]at h ⊢
       cases ha:G4 env a with
       | none=>rw[ha]at h;exact h.elim
       | some va=>
         rw[ha]at h
         try simp only[Y3]at h ⊢
         cases hb:G4 env b with
         | none=>rw[hb]at h;exact h.elim
         | some vb=>
           rw[hb]at h;simp only[Y3,G4]at h ⊢;obtain⟨v,h1,h2⟩:=YY h;exact⟨v,h1,fun Z' k' kp' _ hk'=>h2 Z' k' hk'⟩
  case append a b x y=>
   exfalso;simp only[kd]at hk;split at hk<;>cases hk
end Go.Gl
namespace Go.Gl
variable {P:Program} {F:Nat->Prop} {Z:AE}
def GH (Z:AE) (D:Nat->Prop):AE:=fun n=>open Classical in if D n then Z n else none
def DB {D:Nat->Prop} {n:Nat} (h:D n):GH Z D n=Z n:=by unfold GH;rw[if_pos h]
def DH {D:Nat->Prop} {n:Nat} (h: ¬D n):GH Z D n=none:=by unfold GH;rw[if_neg h]
def join (Z τ:AE):AE:=fun n=>match Z n with|some o=>some o|none=>τ n
def Ao.frame {f:FuncId} {args:List V} {Q:R->AE->Prop} (D:Nat->Prop) (h:Ao P f args (GH Z D) Q) :
    Ao P f args Z fun r Z'=> ∃Z1,Q r Z1/\(∀n,¬D n->Z n≠none->Z1 n=none)/\Z'=join Z1 (GH Z fun n=> ¬D n):=by
 refine⟨h.1,fun F w cs hR hv=>?_⟩
 have hH:(Hh (fun n=>F n\/(¬D n/\Z n≠none)) (GH Z D) w)=Hh F Z w:=by
  funext b o;unfold Hh;by_cases hb:F b\/(Z b).isSome=true
  .rw[if_pos hb,if_pos]
   rcases hb with hb|hb
   .exact .inl (.inl hb)
   .by_cases hd:D b
    .exact .inr (by rw[DB hd];exact hb)
    .exact .inl (.inr ⟨hd,by intro e;rw[e]at hb;cases hb⟩)
  .rw[if_neg hb,if_neg]
   rintro((h|h)|h)
   .exact hb (.inl h)
   .exact hb (.inr (by cases hs:Z b with|none=>exact absurd hs h.2|some o=>rfl))
   .by_cases hd:D b
    .rw[DB hd]at h;exact hb (.inr h)
    .rw[DH hd]at h;cases h
 have hR1:Rel (fun n=>F n\/(¬D n/\Z n≠none)) (GH Z D) w:=by
  refine⟨fun n o ho=>?_,fun n hn=>?_⟩
  .by_cases hd:D n
   .rw[DB hd]at ho
    obtain⟨h1,ob,h2,h3⟩:=hR.own n o ho;refine⟨?_,ob,h2,by rw[hH];exact h3⟩;rintro(h|h)
    .exact h1 h
    .exact h.1 hd
   .rw[DH hd]at ho;cases ho
  .rcases hn with hn|hn
   .exact hR.lock n hn
   .cases hs:Z n with
    | none=>exact absurd hs hn.2
    | some o=>exact hR.lt hs
 refine Calls.mono (h.2 _ w cs hR1 (by rw[hH];exact hv)) fun e w' ⟨r,Z1,hq,h1,h2,h3⟩=>?_
 have hfr: ∀n,¬D n->Z n≠none->Z1 n=none:=fun n hd hn=>by
  cases hs:Z1 n with
  | none=>rfl
  | some o=>exact absurd (.inr ⟨hd,hn⟩) (h2.own n o hs).1
 have hle:Yk (Hh (fun n=>F n\/(¬D n/\Z n≠none)) Z1 w') (Hh F (join Z1 (GH Z fun n=> ¬D n)) w'):=by
  intro b o c hc;obtain⟨k1,k2,k3⟩:=Fe hc;rw[NW (fun h=>k1 (.inl h)) ?_]
  .exact k3
  .simp only[join,k2]
   by_cases hd:D b
   .exact DH (fun h=>h hd)
   .rw[DB hd]
    cases hs:Z b with
    | none=>rfl
    | some o=>exact absurd (.inr ⟨hd,by rw[hs];simp⟩) k1
 have hA:Bw F Z w (join Z1 (GH Z fun n=> ¬D n)) w':=by
  refine⟨fun n hn h0=>h3.frame n hn ?_,h3.size,h3.os,h3.tape,h3.output,fun n h0 hn=>?_⟩
  .by_cases hd:D n
   .rw[DB hd];exact h0
   .exact DH hd
  .have:Z1 n=none:=h3.names n (by
    by_cases hd:D n
    .rw[DB hd];exact h0
    .exact DH hd) hn
   simp only[join,this];by_cases hd:D n
   .exact DH (fun h=>h hd)
   .rw[DB hd];exact h0
 refine⟨r,_,⟨Z1,hq,hfr,rfl⟩,?_,⟨fun n o ho=>?_,fun n hn=>h2.lock n (.inl hn)⟩,hA⟩
 .cases r with
  | ret v=>obtain⟨c,rfl,hv⟩:=h1;exact⟨c,rfl,hv.mono hle⟩
  | BV v=>obtain⟨c,rfl,hv⟩:=h1;exact⟨c,rfl,hv.mono hle⟩
 .simp only[join]at ho
  cases hs:Z1 n with
  | some o1=>
    rw[hs]at ho;simp only[GU]at ho;subst ho;obtain⟨k1,ob,k2,k3⟩:=h2.own n _ hs;exact⟨fun h=>k1 (.inl h),ob,k2,k3.mono hle⟩
  | none=>
    rw[hs]at ho;simp only at ho;by_cases hd:D n
    .rw[DH (fun h=>h hd)]at ho;cases ho
    .rw[DB hd]at ho
     obtain⟨k1,ob,k2,k3⟩:=hR.own n o ho;refine⟨k1,ob,(h3.frame n (hR.lt ho) (DH hd)).trans k2,k3.mono ?_⟩;exact hA.hle
end Go.Gl
namespace Go.Gl
variable {P:Program} {F:Nat->Prop} {env env':Env} {Z:AE}
def Be {o:Option V} {k k':V->Prop} (h:wv o k) (hm: ∀v,k v->k' v):wv o k':=by
 cases o with
 | none=>exact h
 | some v=>exact hm v h
def LB {o:Option (List V)} {k k':List V->Prop} (h:ws o k) (hm: ∀v,k v->k' v):ws o k':=by
 cases o with
 | none=>exact h
 | some v=>exact hm v h
def TS {o:Option (Option V)} {k k':Option V->Prop} (h:wo o k) (hm: ∀v,k v->k' v):wo o k':=by
 cases o with
 | none=>exact h
 | some v=>exact hm v h
def Wl {sz:Nat} {a x:V} {k k':AE->Prop} (h:AP Z sz a x k) (hm: ∀Z',k Z'->k' Z'):AP Z sz a x k':=by
 unfold AP at *;split at h
 .rename_i vc hc
  obtain⟨h1,h2,h3⟩:=h;refine⟨h1,h2,?_⟩;cases a<;>first|exact h3.elim|skip
  .simp only at *
   split at h3
   .exact⟨h3.1,hm _ h3.2⟩
   .exact h3.elim
  .simp only at *
   split at h3
   .refine⟨h3.1,?_⟩
    have h4:=h3.2;split at h4
    .exact⟨h4.1,hm _ h4.2⟩
    .exact h4.elim
   .exact h3.elim
 .exact h.elim
def FM {sz:Nat} {y:V} {k k':List (List V)->Prop} (h:rowsOf Z sz y k) (hm: ∀v,k v->k' v):rowsOf Z sz y k':=by
 unfold rowsOf at *;cases y<;>first|exact h.elim|skip
 .exact⟨h.1,hm _ h.2⟩
 .simp only at *
  split at h
  .exact⟨h.1,h.2.1,hm _ h.2.2⟩
  .exact h.elim
 .simp only at *
  split at h
  .exact⟨h.1,h.2.1,h.2.2.1,hm _ h.2.2.2⟩
  .exact h.elim
def L7 {b sz:Nat} {x y:V} {k k':V->AE->Prop} (h:AJ b Z sz x y k) (hm: ∀v Z',k v Z'->k' v Z'):AJ b Z sz x y k':=by
 unfold AJ at *;refine FM h fun ys ⟨h1,h2⟩=>⟨h1,?_⟩
 cases x<;>first|exact h2.elim|skip
 .simp only at *
  exact⟨h2.1,h2.2.1,fun e=>hm _ _ (h2.2.2.1 e),fun e=>⟨(h2.2.2.2 e).1,fun n cap h3 h4=>hm _ _ ((h2.2.2.2 e).2 n cap h3 h4)⟩⟩
 .simp only at *
  split at h2
  .exact⟨h2.1,h2.2.1,h2.2.2.1,h2.2.2.2.1,fun n cap h3 h4=>hm _ _ (h2.2.2.2.2 n cap h3 h4)⟩
  .exact h2.elim
def HO {o:Option V} {d:Int} {k k':Int->Prop} (h:Nt o d k) (hm: ∀v,k v->k' v):Nt o d k':=by
 unfold Nt at *;split at h
 .exact hm _ h
 .exact hm _ h
 .exact h.elim
def Wn {sz:Nat} {x:V} {a b c:Option V} {k k':V->AE->Prop} (h:AN Z sz x a b c k) (hm: ∀v Z',k v Z'->k' v Z'):AN Z sz x a b c k':=by
 unfold AN at *;cases x<;>first|exact h.elim|skip
 .simp only at *
  refine⟨h.1,HO h.2 fun hh h2=>HO h2 fun l h3=>⟨h3.1,h3.2.1,h3.2.2.1,?_⟩⟩;have h4:=h3.2.2.2;split at h4
  .exact hm _ _ h4
  .exact⟨h4.1,hm _ _ h4.2⟩
  .exact h4.elim
 .simp only at *
  refine HO h fun hh h2=>HO h2 fun l h3=>⟨h3.1,h3.2.1,h3.2.2.1,?_⟩
  have h4:=h3.2.2.2;split at h4
  .exact hm _ _ h4
  .refine⟨h4.1,h4.2.1,h4.2.2.1,?_⟩
   have h5:=h4.2.2.2;split at h5
   .exact⟨h5.1,h5.2.1,h5.2.2.1,h5.2.2.2.elim (fun h=> .inl (hm _ _ h)) fun h=> .inr (hm _ _ h)⟩
   .exact h5.elim
  .exact h4.elim
 .simp only at *
  exact HO h fun hh h2=>HO h2 fun l h3=>⟨h3.1,h3.2.1,h3.2.2.1,h3.2.2.2.1,h3.2.2.2.2.1,hm _ _ h3.2.2.2.2.2⟩
def R7 {sz:Nat} {ys:List (List V)} {n off len:Nat} {k k':V->AE->Prop} (h:Oi Z sz ys n off len k) (hm: ∀v Z',k v Z'->k' v Z'):Oi Z sz ys n off len k':=by
 unfold Oi at *;split at h
 .exact⟨h.1,h.2.1,hm _ _ h.2.2⟩
 .exact h.elim
def YF {sz:Nat} {x y:V} {k k':V->AE->Prop} (h:AW Z sz x y k) (hm: ∀v Z',k v Z'->k' v Z'):AW Z sz x y k':=by
 refine FM h fun ys h=>⟨h.1,?_⟩
 have h:=h.2;split at h
 .exact R7 h hm
 .exact⟨h.1,R7 h.2 hm⟩
 .exact h.elim
def Pz {o:FU} {k k' kp kp':V->AE->Prop} (h:Ez P o env Z k kp) (hm: ∀v Z',k v Z'->k' v Z') (hp: ∀v Z',kp v Z'->kp' v Z'):Ez P o env Z k' kp':=by
 by_cases hs:still o=true
 .obtain⟨v,h1,h2⟩:=HY hs h
  exact h2 Z k' kp' (.inr fun _ _ h=>h) (hm _ _ h1)
 .cases o<;>first|(exact absurd rfl hs)|skip
  all_goals simp only[Ez]at *
  case box x=>
   refine Be h fun v h=>?_
   split at h
   .exact fun n hn=>hm _ _ (h n hn)
   .exact h.elim
  case alloc z=>exact fun n hn=>hm _ _ (h n hn)
  case kL x=>exact Be h fun v ⟨vf,Z2,h1,h2,h3⟩=>⟨vf,Z2,h1,h2,hm _ _ h3⟩
  case NQ=>exact fun n hn=>hm _ _ (h n hn)
  case D0 ks x y z=>
   refine Be h fun vm h=>Be h fun vk h=>Be h fun vx h=>?_
   unfold AL at *;obtain⟨h0,h⟩:=h;cases vm<;>first|exact h.elim|skip
   simp only at *;split at h
   .exact⟨h0,h.1,hm _ _ h.2⟩
   .exact h.elim
  case dI q n x=>
   refine Be h fun vx h=>?_
   unfold IY at *;split at h<;>first|exact h.elim|exact hm _ _ h|exact⟨fun e t=>hm _ _ (h.1 e t),fun e=>hm _ _ (h.2 e)⟩
  case Fb a b c x y=>
   refine Be h fun vx h=>Be h fun vy h=>?_
   unfold AI at *;split at h
   .exact⟨h.1,h.2.1,h.2.2.1,fun id hn=>hm _ _ (h.2.2.2 id hn)⟩
   .exact h.elim
  case store sz a x=>exact Be h fun va h=>Be h fun vx h=>Wl h fun Z' h=>hm _ _ h
  case slice sz x a b c=>exact Be h fun vx h=>TS h fun l h=>TS h fun hh h=>TS h fun m h=>Wn h hm
  case append sz b x y=>exact Be h fun vx h=>Be h fun vy h=>L7 h hm
  case copy sz x y=>exact Be h fun vx h=>Be h fun vy h=>YF h hm
  case inv tab x as=>exact Be h fun vx h=>LB h fun vs h=>h.mono fun r Z' h=>by cases r<;>first|exact hm _ _ h|exact hp _ _ h
  case panic x=>
   refine Be h fun vx h=>?_
   split at h
   .exact hp _ _ h
   .exact h.elim
  case call f as=>exact LB h fun vs h=>h.mono fun r Z' h=>by cases r<;>first|exact hm _ _ h|exact hp _ _ h
  case Ii x as=>
   exact Be h fun vx h=>LB h fun vs h=>h.mono fun r Z' h=>by cases r<;>first|exact hm _ _ h|exact hp _ _ h
def GL {n:Nat} {o:O} (hn:Z n=none):Sub Z (Bo Z n o):=fun m p hp=>by
 unfold Bo;split
 .rename_i e
  subst e;rw[hn]at hp;cases hp
 .exact hp
def calm (o:FU):Bool:=match kd o with| .H=>false|_=>true
def Ng {b sz:Nat} {y:V} {k:V->AE->Prop}:AJ b Z sz (.l [] true) y k=rowsOf Z sz y fun ys=>(∀e∈ys,∀v∈e,B6 v=true)/\(ys.length<=As/\ys.length*b<=140737488355328)/\(ys= []->k (.l [] true) Z)/\
 (ys≠[]-> ∀n cap,Z n=none->ys.length<=cap->k (.sl n ys.length cap) (Bo Z n (.arr sz ys cap))):=by
 simp[AJ]
def NY {s:Nat} {x:Bb} {a b c:Option Bb} (h:calm (.slice s x a b c)=true):still (.slice s x a b c)=true:=by
 cases c with
 | none=>rfl
 | some c=>cases h
def R6 {a b:Nat} {x y:Bb} (h:kd (.append a b x y)≠ .H):x= .c (.l [] true):=by
 simp only[kd]at h;split at h
 .rfl
 .exact absurd rfl h
def aB {o:FU} (hc:calm o=true) {k kp:V->AE->Prop} (h:Ez P o env Z k kp):Ez P o env Z (fun v Z'=>k v Z'/\Sub Z Z') kp:=by
 by_cases hs:still o=true
 .obtain⟨v,h1,h2⟩:=HY hs h
  exact h2 Z _ kp (.inr fun _ _ h=>h) ⟨h1,fun _ _ h=>h⟩
 .cases o<;>first|(exact absurd rfl hs)|(cases hc;done)|skip
  all_goals simp only[Ez]at *
  case slice s x a b c=>exact absurd (NY hc) hs
  case box x=>
   refine Be h fun v h=>?_
   split at h
   .exact fun n hn=>⟨h n hn,GL hn⟩
   .exact h.elim
  case alloc z=>exact fun n hn=>⟨h n hn,GL hn⟩
  case append sz b x y=>
   have hx:x= .c (.l [] true):=R6 (b:=b) (a:=sz) (y:=y) (by intro e;simp[calm,e]at hc);subst hx;change wv (ev env y) _ at h;change wv (ev env y) _;refine Be h fun vy h=>?_
   rw[Ng]at *;exact FM h fun ys h=>⟨h.1,h.2.1,fun e=>⟨h.2.2.1 e,fun _ _ h=>h⟩,fun e n cap h3 h4=>⟨h.2.2.2 e n cap h3 h4,GL h3⟩⟩
def PX {n m:Nat} (h:n≠m) (a b:O):Bo (Bo Z n a) m b=Bo (Bo Z m b) n a:=by
 funext k;unfold Bo;by_cases h1:k=m
 .have h2:k≠n:=fun e=>h (e.symm.trans h1)
  rw[if_pos h1,if_neg h2,if_pos h1]
 .rw[if_neg h1,if_neg h1]
def J9 {n m:Nat} (h:n≠m) {a:O}:Bo Z n a m=Z m:=by
 unfold Bo;rw[if_neg (fun e=>h e.symm)]
def MS {n:Nat} {a:O}:Bo Z n a n=some a:=by simp[Bo]
def Xz {Z':AE} (hs:Sub Z Z') {sz:Nat} {y:V} {k:List (List V)->Prop} (h:rowsOf Z sz y k):rowsOf Z' sz y k:=by
 unfold rowsOf at *;cases y<;>first|exact h.elim|exact h|skip
 .rename_i m len cap
  simp only at *;cases hm:Z m with
  | none=>rw[hm]at h;exact h.elim
  | some o=>rw[hm]at h;rw[hs m o hm];exact h
 .rename_i m s off len
  simp only at *;cases hm:Z m with
  | none=>rw[hm]at h;exact h.elim
  | some o=>rw[hm]at h;rw[hs m o hm];exact h
def WO {o:FU} (hc:calm o=true) {k kp:V->AE->Prop} (h:Ez P o env Z k kp) {m:Nat} {z:O} (hm:Z m=none) :
    Ez P o env (Bo Z m z) (fun v Z2=> ∃Z1,k v Z1/\Z1 m=none/\Z2=Bo Z1 m z) kp:=by
 by_cases hs:still o=true
 .obtain⟨v,h1,h2⟩:=HY hs h
  exact h2 _ _ kp (.inr (GL hm)) ⟨Z,h1,hm,rfl⟩
 .have hne: ∀n,Bo Z m z n=none->Z n=none/\n≠m:=fun n hn=>by
   have:n≠m:=fun e=>by rw[e,MS]at hn;cases hn
   exact⟨by rwa [J9 this.symm]at hn,this⟩
  cases o<;>first|(exact absurd rfl hs)|(cases hc;done)|skip
  all_goals simp only[Ez]at *
  case slice s x a b c=>exact absurd (NY hc) hs
  case box x=>
   refine Be h fun v h=>?_
   split at h
   .exact fun n hn=>⟨_,h n (hne n hn).1,by rw[J9 (hne n hn).2];exact hm,PX (hne n hn).2.symm _ _⟩
   .exact h.elim
  case alloc z'=>exact fun n hn=>⟨_,h n (hne n hn).1,by rw[J9 (hne n hn).2];exact hm,PX (hne n hn).2.symm _ _⟩
  case append sz b x y=>
   have hx:x= .c (.l [] true):=R6 (b:=b) (a:=sz) (y:=y) (by intro e;simp[calm,e]at hc);subst hx;change wv (ev env y) _ at h;change wv (ev env y) _;refine Be h fun vy h=>?_
   rw[Ng]at *;refine FM (Xz (GL hm) h) fun ys h=>⟨h.1,h.2.1,fun e=>⟨Z,h.2.2.1 e,hm,rfl⟩,fun e n cap h3 h4=>?_⟩
   exact⟨_,h.2.2.2 e n cap (hne n h3).1 h4,by rw[J9 (hne n h3).2];exact hm,PX (hne n h3).2.symm _ _⟩
def Xc:FU->Bool| .call _ _=>true|_=>false
def WQ {o:FU} (hc:Xc o=true) {k kp:V->AE->Prop} (hU: ∀v Z m z,Z m=none->kp v Z->kp v (Bo Z m z)) (h:Ez P o env Z k kp) {m:Nat} {z:O} (hm:Z m=none) :
    Ez P o env (Bo Z m z) (fun v Z2=> ∃Z1,k v Z1/\Z1 m=none/\Z2=Bo Z1 m z) kp:=by
 cases o<;>first|(cases hc;done)|skip
 rename_i f args;simp only[Ez]at *;refine LB h fun vs h=>?_
 have hr:GH (Bo Z m z) (fun n=>n≠m)=Z:=by
  funext n;by_cases hn:n=m
  .subst hn;rw[DH (fun h=>h rfl),hm]
  .rw[DB hn];simp[Bo,hn]
 have h':Ao P f vs (GH (Bo Z m z) fun n=>n≠m) (qk k kp):=by rw[hr];exact h
 refine Ao.mono (Ao.frame (fun n=>n≠m) h') fun r Z' ⟨Z1,hq,hfr,he⟩=>?_
 have h1:Z1 m=none:=hfr m (fun h=>h rfl) (by rw[MS];simp)
 have h2:Z'=Bo Z1 m z:=by
  rw[he];funext n;simp only[join];by_cases hn:n=m
  .subst hn
   rw[h1];simp only;rw[DB (fun h=>h rfl),MS,MS]
  .rw[DH (fun h=>h hn)]
   cases hs:Z1 n with
   | none=>simp[Bo,hn,hs]
   | some o=>simp[Bo,hn,hs]
 cases r with
 | ret v=>exact⟨Z1,hq,h1,h2⟩
 | BV v=>rw[h2];exact hU _ _ _ _ h1 hq
structure Am where
 dst:Option Nat
 op:FU
 guard:Option (Nat×Bool)
 deriving Inhabited
def put (d:Option Nat) (v:V) (env:Env):Env:=match d with|some d=>(d,v)::env|none=>env
def Hf (P:Program) (o:Am) (env:Env) (Z:AE) (k kp:V->AE->Prop):Prop:=
 match o.guard with
 | none=>Ez P o.op env Z k kp
 | some (g,b)=>match get g env with
   | some (.b t)=>(t=b->Ez P o.op env Z k kp)/\(t= !b->k (.t []) Z)
   | some (.t [])=>k (.t []) Z
   | _=>False
def looks (o:Am):List Nat:=reads o.op++(match o.guard with|some (g,_)=>[g]|none=>[])
def Fo {o:Am} {k kp:V->AE->Prop} (h: ∀s∈looks o,get s env'=get s env):Hf P o env' Z k kp=Hf P o env Z k kp:=by
 unfold Hf;unfold looks at h;cases hg:o.guard with
 | none=>exact Se fun s hs=>h s (NL _ hs)
 | some p=>
   obtain⟨g,b⟩:=p;simp only;rw[h g (by rw[hg];simp),Se fun s hs=>h s (NL _ hs)]
def B5 {o:Am} {k k' kp kp':V->AE->Prop} (h:Hf P o env Z k kp) (hm: ∀v Z',k v Z'->k' v Z') (hp: ∀v Z',kp v Z'->kp' v Z'):Hf P o env Z k' kp':=by
 unfold Hf at *;split at h
 .exact Pz h hm hp
 .split at h
  .exact⟨fun e=>Pz (h.1 e) hm hp,fun e=>hm _ _ (h.2 e)⟩
  .exact hm _ _ h
  .exact h.elim
def Sf {o:Am} (hs:still o.op=true) {k kp:V->AE->Prop} (h:Hf P o env Z k kp) :
    ∃v,k v Z/\ ∀Z' (k' kp':V->AE->Prop),(kd o.op= .P\/Sub Z Z')->k' v Z'->Hf P o env Z' k' kp':=by
 unfold Hf at *;split at h
 .obtain⟨v,h1,h2⟩:=HY hs h
  exact⟨v,h1,fun Z' k' kp' hσ hk=>h2 Z' k' kp' hσ hk⟩
 .rename_i g b hg
  split at h
  .rename_i t ht
   skip
   by_cases htb:t=b
   .obtain⟨v,h1,h2⟩:=HY hs (h.1 htb)
    refine⟨v,h1,fun Z' k' kp' hσ hk=>?_⟩;exact⟨fun _=>h2 Z' k' kp' hσ hk,fun e=>absurd (htb.symm.trans e) (by cases b<;>simp)⟩
   .refine⟨.t [],h.2 (by cases t<;>cases b<;>simp_all),fun Z' k' kp' hσ hk=>?_⟩
    exact⟨fun e=>absurd e htb,fun _=>hk⟩
  .exact⟨.t [],h,fun Z' k' kp' hσ hk=>hk⟩
  .exact h.elim
def aD {o:Am} (hc:calm o.op=true) {k kp:V->AE->Prop} (h:Hf P o env Z k kp):Hf P o env Z (fun v Z'=>k v Z'/\Sub Z Z') kp:=by
 unfold Hf at *;split at h
 .exact aB hc h
 .split at h
  .exact⟨fun e=>aB hc (h.1 e),fun e=>⟨h.2 e,fun _ _ h=>h⟩⟩
  .exact⟨h,fun _ _ h=>h⟩
  .exact h.elim
def kB {o:Am} (hc:calm o.op=true) {k kp:V->AE->Prop} (h:Hf P o env Z k kp) {m:Nat} {z:O} (hm:Z m=none) :
    Hf P o env (Bo Z m z) (fun v Z2=> ∃Z1,k v Z1/\Z1 m=none/\Z2=Bo Z1 m z) kp:=by
 unfold Hf at *;split at h
 .exact WO hc h hm
 .split at h
  .exact⟨fun e=>WO hc (h.1 e) hm,fun e=>⟨Z,h.2 e,hm,rfl⟩⟩
  .exact⟨Z,h,hm,rfl⟩
  .exact h.elim
def Yq (o:FU):Bool:=calm o||Xc o
def c7 {o:Am} (hc:Yq o.op=true) {k kp:V->AE->Prop} (hU: ∀v Z m z,Z m=none->kp v Z->kp v (Bo Z m z)) (h:Hf P o env Z k kp) {m:Nat} {z:O} (hm:Z m=none) :
    Hf P o env (Bo Z m z) (fun v Z2=> ∃Z1,k v Z1/\Z1 m=none/\Z2=Bo Z1 m z) kp:=by
 cases hc':calm o.op with
 | true=>exact kB hc' h hm
 | false=>
   have hc2:Xc o.op=true:=by simpa[Yq,hc']using hc
   unfold Hf at *;split at h
   .exact WQ hc2 hU h hm
   .split at h
    .exact⟨fun e=>WQ hc2 hU (h.1 e) hm,fun e=>⟨Z,h.2 e,hm,rfl⟩⟩
    .exact⟨Z,h,hm,rfl⟩
    .exact h.elim
end Go.Gl
