import Derived.Test.YtnidfcmdimehdaaGreatV6
set_option linter.all false
set_option linter.defProp false
set_option maxHeartbeats 8000000
noncomputable section
namespace Go.Gl
variable {P:Program} {F:Nat->Prop} {env env':Env} {Z:AE}
def Al (AD:(V->Prop)->Prop):Prop:= ∀k,AD k-> ∃v,k v/\ ∀k':V->Prop,k' v->AD k'
def Al.one (v:V):Al fun k=>k v:=fun _ h=>⟨v,h,fun _ h=>h⟩
def Al.no:Al fun _=>False:=fun _ h=>h.elim
def Al.and {p:Prop} {AD:(V->Prop)->Prop} (h:Al AD):Al fun k=>p/\AD k:=fun k ⟨hp,hF⟩=>let⟨v,h1,h2⟩:=h k hF;⟨v,h1,fun k' hk=>⟨hp,h2 k' hk⟩⟩
def Al.wv {o:Option V} {AD:V->(V->Prop)->Prop} (h: ∀v,Al (AD v)):Al fun k=>wv o fun v=>AD v k:=by
 cases o with
 | none=>exact Al.no
 | some v=>exact h v
def Al.ws {o:Option (List V)} {AD:List V->(V->Prop)->Prop} (h: ∀v,Al (AD v)):Al fun k=>ws o fun v=>AD v k:=by
 cases o with
 | none=>exact Al.no
 | some v=>exact h v
def Al.wr {o:Option (List (List V))} {AD:List (List V)->(V->Prop)->Prop} (h: ∀v,Al (AD v)):Al fun k=>wr o fun v=>AD v k:=by
 cases o with
 | none=>exact Al.no
 | some v=>exact h v
def Al.wo {o:Option (Option V)} {AD:Option V->(V->Prop)->Prop} (h: ∀v,Al (AD v)):Al fun k=>wo o fun v=>AD v k:=by
 cases o with
 | none=>exact Al.no
 | some v=>exact h v
def lI (op:BinOp) (x y:V):Al (VO op x y):=by
 unfold VO;cases x<;>cases y<;>first|exact Al.no|skip
 cases op<;>simp only<;>first|exact(Al.one _).and|exact(Al.one _).and.and
def MT (agg:Option Nat) (cs:List V) (off:Nat):Al (cut agg cs off):=by
 unfold cut;cases agg with
 | none=>cases cs[off]? with
   | none=>exact Al.no
   | some v=>exact Al.one _
 | some n=>exact(Al.one _).and
def du (Z:AE) (agg:Option Nat) (x:V):Al (AV Z agg x):=by
 unfold AV Py Pz;cases x<;>first|exact Al.no|skip
 case p n off=>
  simp only;cases Z n with
  | none=>exact Al.no
  | some o=>cases o<;>first|exact Al.no|exact MT _ _ _
 case rp cs=>exact MT _ _ _
 case pe n sz i off=>
  simp only;cases Z n with
  | none=>exact Al.no
  | some o=>
    cases o<;>first|exact Al.no|skip
    simp only;refine Al.and ?_;rename_i es _;cases es[i]? with
    | none=>exact Al.no
    | some e=>exact MT _ _ _
def dK {Z Z':AE} (hs:Sub Z Z') {agg:Option Nat} {x:V} {k:V->Prop} (h:AV Z agg x k):AV Z' agg x k:=by
 unfold AV Py Pz at *;cases x<;>first|exact h|skip
 case p n off=>
  simp only at *;cases hn:Z n with
  | none=>rw[hn]at h;exact h.elim
  | some o=>rw[hs n o hn];rw[hn]at h;exact h
 case pe n sz i off=>
  simp only at *;cases hn:Z n with
  | none=>rw[hn]at h;exact h.elim
  | some o=>rw[hs n o hn];rw[hn]at h;exact h
def ZO (off:Nat) (x:V):Al (LL off x):=by
 unfold LL;cases x<;>first|exact Al.no|exact Al.one _
def ZN (sz:Nat) (arr:Option Nat) (x i:V):Al (AQ sz arr x i):=by
 unfold AQ;cases i<;>first|exact Al.no|skip
 cases arr<;>cases x<;>first|exact Al.no|exact(Al.one _).and.and|exact(Al.one _).and.and.and|skip
 intro k ⟨h0,e,h1,h2,h3⟩;exact⟨_,h3,fun k' hk=>⟨h0,e,h1,h2,hk⟩⟩
def ZM (len sz:Nat) (agg:Option Nat) (x i:V):Al (LK len sz agg x i):=by
 unfold LK;cases x<;>first|exact Al.no|skip
 cases i<;>first|exact Al.no|skip
 exact(MT _ _ _).and.and
def dt (x i:V):Al (P1 x i):=by
 unfold P1;cases x<;>first|exact Al.no|skip
 cases i<;>first|exact Al.no|skip
 refine Al.and ?_;rename_i b _ j;cases b.data.toList[j.toNat]? with
 | none=>exact Al.no
 | some c=>exact Al.one _
def lH (x:V):Al (A0 x):=by
 unfold A0;cases x<;>first|exact Al.no|exact Al.one _|exact(Al.one _).and
def dv (Z:AE) (x:V):Al (Kw Z x):=by
 unfold Kw;cases x<;>first|exact Al.no|exact Al.one _|skip
 case m n=>
  simp only;cases Z n with
  | none=>exact Al.no
  | some o=>cases o<;>first|exact Al.no|exact(Al.one _).and
def dL {Z Z':AE} (hs:Sub Z Z') {x:V} {k:V->Prop} (h:Kw Z x k):Kw Z' x k:=by
 unfold Kw at *;cases x<;>first|exact h|skip
 case m n=>
  simp only at *;cases hn:Z n with
  | none=>rw[hn]at h;exact h.elim
  | some o=>rw[hs n o hn];rw[hn]at h;exact h
def KB {o:Option V} {d:Int} {k:Int->Prop} (h:O2 o d k): ∃v,k v/\ ∀k':Int->Prop,k' v->O2 o d k':=by
 unfold O2 at *;split at h
 .exact⟨_,h,fun _ h=>h⟩
 .exact⟨_,h,fun _ h=>h⟩
 .exact h.elim
def ZL {sz:Nat} {x:V} {a b:Option V} {k:V->AE->Prop} (h:AP Z sz x a b none k): ∃v,k v Z/\ ∀Z' (k':V->AE->Prop),k' v Z'->AP Z' sz x a b none k':=by
 unfold AP at *;cases x<;>first|exact h.elim|skip
 .simp only at *
  obtain⟨h0,h⟩:=h;obtain⟨hh,h,g1⟩:=KB h;obtain⟨l,h,g2⟩:=KB h;exact⟨_,h.2.2.2,fun Z' k' hk=>⟨h0,g1 _ (g2 _ ⟨h.1,h.2.1,h.2.2.1,hk⟩)⟩⟩
 .simp only at *
  obtain⟨hh,h,g1⟩:=KB h;obtain⟨l,h,g2⟩:=KB h;exact⟨_,h.2.2.2,fun Z' k' hk=>g1 _ (g2 _ ⟨h.1,h.2.1,h.2.2.1,hk⟩)⟩
 .simp only at *
  obtain⟨hh,h,g1⟩:=KB h;obtain⟨l,h,g2⟩:=KB h;exact⟨_,h.2.2.2.2.2,fun Z' k' hk=>g1 _ (g2 _ ⟨h.1,h.2.1,h.2.2.1,h.2.2.2.1,trivial,hk⟩)⟩
def Qt {sz:Nat} {y:V} {k:List (List V)->Prop} (h:rowsOf Z sz y k): ∃ys,k ys/\ ∀Z' (k':List (List V)->Prop),Sub Z Z'->k' ys->rowsOf Z' sz y k':=by
 unfold rowsOf at *;cases y<;>first|exact h.elim|skip
 .exact⟨_,h.2,fun _ _ _ hk=>⟨h.1,hk⟩⟩
 .rename_i m len cap
  simp only at *;cases hm:Z m with
  | none=>rw[hm]at h;exact h.elim
  | some o=>
    rw[hm]at h;cases o<;>first|exact h.elim|skip
    exact⟨_,h.2.2,fun Z' k' hs hk=>by rw[hs m _ hm];exact⟨h.1,h.2.1,hk⟩⟩
 .rename_i m s off len
  simp only at *;cases hm:Z m with
  | none=>rw[hm]at h;exact h.elim
  | some o=>
    rw[hm]at h;cases o<;>first|exact h.elim|skip
    exact⟨_,h.2.2.2,fun Z' k' hs hk=>by rw[hs m _ hm];exact⟨h.1,h.2.1,h.2.2.1,hk⟩⟩
def kY {x:V} {k:V->Prop} (h:fe Z x k): ∃v,k v/\ ∀Z' (k':V->Prop),Sub Z Z'->k' v->fe Z' x k':=by
 obtain⟨ys,h1,h2⟩:=Qt h;cases hn:FN ys with
 | none=>rw[hn]at h1;exact h1.elim
 | some ns=>
   rw[hn]at h1;exact⟨_,h1,fun Z' k' hs hk=>h2 Z' _ hs (by rw[hn];exact hk)⟩
def dw {b sz:Nat} {x y:V} {k:V->Prop} (h:Ac b Z sz x y k): ∃v,k v/\ ∀Z' (k':V->Prop),Sub Z Z'->k' v->Ac b Z' sz x y k':=by
 unfold Ac at *;obtain⟨ys,⟨h1,h2⟩,h3⟩:=Qt h;cases x<;>first|exact h2.elim|skip
 exact⟨_,h2.2.2.2,fun Z' k' hs hk=>h3 Z' _ hs ⟨h1,h2.1,h2.2.1,h2.2.2.1,hk⟩⟩
def Xq {ks:KS} {z:V} {ok:Bool} {vm vk:V} {k:V->Prop} (h:AN Z ks z ok vm vk k): ∃v,k v/\ ∀Z' (k':V->Prop),Sub Z Z'->k' v->AN Z' ks z ok vm vk k':=by
 unfold AN at *;obtain⟨h0,h⟩:=h;cases vm<;>first|exact h.elim|skip
 .rename_i n
  simp only at *;cases hn:Z n with
  | none=>rw[hn]at h;exact h.elim
  | some o=>
    rw[hn]at h;cases o<;>first|exact h.elim|skip
    exact⟨_,h.2,fun Z' k' hs hk=>⟨h0,by rw[hs n _ hn];exact⟨h.1,hk⟩⟩⟩
 .exact⟨_,h,fun Z' k' hs hk=>⟨h0,hk⟩⟩
inductive Kd where
 | P|N|A|AA|H
 deriving DecidableEq,Repr
def kd:F4->Kd
 | .load _ _=> .N
 | .Tg _=> .N
 | .str _=> .N
 | .Rz _ _ _ _=> .N
 | .box _=> .A
 | .append _ _ x _=>match x with| .c (.l [] true)=> .A|_=> .H
 | .alloc _=> .AA
 | .slice _ _ _ _ mx=>match mx with|none=> .N|some _=> .H
 | .store _ _ _| .copy _ _ _| .Ed _ _ _ _| .panic _| .call _ _| .Je _ _| .YY _ _| .inv _ _ _| .OY| .GC _ _ _ _ _| .ew _ _ _| .mC _=> .H
 | .lookup _ _ _ _ _=> .N
 | _=> .P
def y3 {o:F4} (hk:kd o= .P): ∃AD:(V->Prop)->Prop,Al AD/\ ∀Z (k kp:V->AE->Prop),FX P o env Z k kp=AD (fun v=>k v Z):=by
 cases o<;>first|(simp[kd]at hk;done)|skip
 case mv x=>exact⟨fun k=>wv (ev env x) k,Al.wv fun v=>Al.one v,fun _ _ _=>rfl⟩
 case pick c a b=>
  refine⟨fun k=>wv (ev env c) fun vc=>wv (ev env a) fun va=>wv (ev env b) fun vb=>match vc with| .b t=>(match va,vb with| .b x,.b y=>k (.b (bif t then x else y))|_,_=>k (bif t then va else vb))|_=>False,?_,fun _ _ _=>rfl⟩;refine Al.wv fun vc=>Al.wv fun va=>Al.wv fun vb=>?_
  cases vc<;>first|exact Al.no|skip
  cases va<;>first|exact Al.one _|skip
  cases vb<;>exact Al.one _
 case bin op x y=>exact⟨fun k=>wv (ev env x) fun vx=>wv (ev env y) fun vy=>VO op vx vy k,Al.wv fun _=>Al.wv fun _=>lI _ _ _,fun _ _ _=>rfl⟩
 case mI n x y=>
  refine⟨fun k=>wv (ev env x) fun vx=>wv (ev env y) fun vy=>match vx,vy with| .b p,.b q=>k (.b (bif n then p != q else p==q))|_,_=>False,?_,fun _ _ _=>rfl⟩;refine Al.wv fun vx=>Al.wv fun vy=>?_
  cases vx<;>cases vy<;>first|exact Al.no|exact Al.one _
 case mH q n x y=>
  refine⟨fun k=>wv (ev env x) fun vx=>wv (ev env y) fun vy=>Ti q n vx vy k,Al.wv fun vx=>Al.wv fun vy=>?_,fun _ _ _=>rfl⟩;unfold Ti;cases vx<;>first|exact Al.no|skip
  cases vy<;>first|exact Al.no|skip
  simp only;split<;>first|exact Al.no|exact Al.one _
 case not x=>
  refine⟨fun k=>wv (ev env x) fun vx=>match vx with| .b p=>k (.b (!p))|_=>False,Al.wv fun vx=>?_,fun _ _ _=>rfl⟩;cases vx<;>first|exact Al.no|exact Al.one _
 case neg xor x=>
  refine⟨fun k=>wv (ev env x) fun vx=>match vx with| .i ka a=>k (.i ka (bif xor then bits .xor ka (bif ka.signed then -1 else ka.max) a else ka.wrap (0 - a)))|_=>False,Al.wv fun vx=>?_,fun _ _ _=>rfl⟩;cases vx<;>first|exact Al.no|exact Al.one _
 case conv ka x=>
  refine⟨fun k=>wv (ev env x) fun vx=>match vx with| .i _ a=>k (.i ka (ka.wrap a))|_=>False,Al.wv fun vx=>?_,fun _ _ _=>rfl⟩;cases vx<;>first|exact Al.no|exact Al.one _
 case PA x=>
  refine⟨fun k=>wv (ev env x) fun vx=>match cellsOf vx with|some cs=>k (.rp cs)|none=>False,Al.wv fun vx=>?_,fun _ _ _=>rfl⟩;cases cellsOf vx<;>first|exact Al.no|exact Al.one _
 case build z ps=>exact⟨fun k=>ws (K1 env z ps) fun cs=>k (.a cs),Al.ws fun _=>Al.one _,fun _ _ _=>rfl⟩
 case HT sz len z ps=>exact⟨fun k=>wr (Jc env z.length (List.replicate len z) ps) fun es=>k (.l es true),Al.wr fun _=>Al.one _,fun _ _ _=>rfl⟩
 case F7 off x=>exact⟨fun k=>wv (ev env x) fun vx=>LL off vx k,Al.wv fun _=>ZO _ _,fun _ _ _=>rfl⟩
 case field agg off x=>
  refine⟨fun k=>wv (ev env x) fun vx=>match vx with| .a cs=>cut agg cs off k|_=>False,Al.wv fun vx=>?_,fun _ _ _=>rfl⟩;cases vx<;>first|exact Al.no|exact MT _ _ _
 case L5 sz arr x i=>exact⟨fun k=>wv (ev env x) fun vx=>wv (ev env i) fun vi=>AQ sz arr vx vi k,Al.wv fun _=>Al.wv fun _=>ZN _ _ _ _,fun _ _ _=>rfl⟩
 case VG x i=>exact⟨fun k=>wv (ev env x) fun vx=>wv (ev env i) fun vi=>P1 vx vi k,Al.wv fun _=>Al.wv fun _=>dt _ _,fun _ _ _=>rfl⟩
 case index len sz agg x i=>exact⟨fun k=>wv (ev env x) fun vx=>wv (ev env i) fun vi=>LK len sz agg vx vi k,Al.wv fun _=>Al.wv fun _=>ZM _ _ _ _ _,fun _ _ _=>rfl⟩
 case len x=>exact⟨fun k=>wv (ev env x) fun vx=>A0 vx k,Al.wv fun _=>lH _,fun _ _ _=>rfl⟩
 case VK x y=>
  refine⟨fun k=>wv (ev env x) fun vx=>wv (ev env y) fun vy=>match vx,vy with| .i ka a,.i kb b=>ka=kb/\k (.i ka (if b > a then b else a))|_,_=>False,?_,fun _ _ _=>rfl⟩;refine Al.wv fun vx=>Al.wv fun vy=>?_
  cases vx<;>cases vy<;>first|exact Al.no|exact(Al.one _).and
 case VJ x y=>
  refine⟨fun k=>wv (ev env x) fun vx=>wv (ev env y) fun vy=>match vx,vy with| .i ka a,.i kb b=>ka=kb/\k (.i ka (if b<a then b else a))|_,_=>False,?_,fun _ _ _=>rfl⟩;refine Al.wv fun vx=>Al.wv fun vy=>?_
  cases vx<;>cases vy<;>first|exact Al.no|exact(Al.one _).and
 case extract i x=>
  refine⟨fun k=>wv (ev env x) fun vx=>match vx with| .t vs=>(match vs[i]? with|some v=>k v|none=>False)|_=>False,Al.wv fun vx=>?_,fun _ _ _=>rfl⟩;cases vx<;>first|exact Al.no|skip
  rename_i vs;simp only;cases vs[i]? <;>first|exact Al.no|exact Al.one _
 case I3 x=>
  refine⟨fun k=>wv (ev env x) fun vx=>match vx with
   | .p n off=>k (.p n off)
   | .rp cs=>k (.rp cs)
   | .pe n sz i off=>k (.pe n sz i off)
   | .f (.func f) first cap=>k (.f (.func f) first cap)
   | .f (.yield l) first cap=>k (.f (.yield l) first cap)
   | _=>False,Al.wv fun vx=>?_,fun _ _ _=>rfl⟩
  cases vx<;>first|exact Al.no|exact Al.one _|skip
  rename_i f a b;cases f<;>first|exact Al.no|exact Al.one _
 case ep f a b=>exact⟨fun k=>ws (VA env a) fun vf=>ws (VA env b) fun vc=>k (.f f vf vc),Al.ws fun _=>Al.ws fun _=>Al.one _,fun _ _ _=>rfl⟩
 case OZ t x=>exact⟨fun k=>wv (ev env x) fun vx=>k (.FD t vx),Al.wv fun _=>Al.one _,fun _ _ _=>rfl⟩
 case ee t z ok x=>
  refine⟨fun k=>wv (ev env x) fun vx=>match vx with
   | .FD t' v=>(t'=t->k (bif ok then .t [v,.b true]else v))/\(t'≠t->ok=true/\k (.t [z,.b false]))
   | .Dv=>ok=true/\k (.t [z,.b false])
   | _=>False,Al.wv fun vx=>?_,fun _ _ _=>rfl⟩
  cases vx<;>first|exact Al.no|exact(Al.one _).and|skip
  rename_i t' v;simp only;by_cases ht:t'=t
  .simpa[ht]using Al.one _
  .simpa[ht]using(Al.one (.t [z,.b false])).and
 case L8 f as=>
  refine⟨fun k=>ws (VA env as) fun vs=> ∃v,Av P f vs (fun _=>none) (fun r Z'=>r= .ret v/\Z'=fun _=>none)/\k v,Al.ws fun vs=>?_,fun _ _ _=>rfl⟩;intro k ⟨v,h1,h2⟩;exact⟨v,h2,fun k' hk=>⟨v,h1,hk⟩⟩
 case slice s x a b c=>
  exfalso;simp only[kd]at hk;split at hk<;>cases hk
 case append a b x y=>
  exfalso;simp only[kd]at hk;split at hk<;>cases hk
 all_goals exact⟨fun _=>False,Al.no,fun _ _ _=>rfl⟩
def still (o:F4):Bool:=match kd o with| .P=>true| .N=>true|_=>false
def IK {o : F4} (hs:still o=true) {k kp:V->AE->Prop} (h:FX P o env Z k kp) :
    ∃v,k v Z/\ ∀Z' (k' kp':V->AE->Prop),(kd o= .P\/Sub Z Z')->k' v Z'->FX P o env Z' k' kp':=by
 unfold still at hs;cases hk:kd o<;>rw[hk]at hs<;>first|(cases hs;done)|skip
 .obtain⟨AD,h1,h2⟩:=y3 (P:=P) (env:=env) hk
  rw[h2]at h;obtain⟨v,h3,h4⟩:=h1 _ h;exact⟨v,h3,fun Z' k' kp' _ hv=>by rw[h2];exact h4 _ hv⟩
 .cases o <;>first|(simp[kd]at hk;done)|skip
  case load agg x=>
   simp only[FX]at *;cases hx:ev env x with
   | none=>rw[hx]at h;exact h.elim
   | some vx=>
     rw[hx]at h;obtain⟨v,h3,h4⟩:=du Z agg vx _ h;refine⟨v,h3,fun Z' k' kp' hs hv=>dK (hs.resolve_left (by simp)) (h4 _ hv)⟩
  case Tg x=>
   simp only[FX]at *;cases hx:ev env x with
   | none=>rw[hx]at h;exact h.elim
   | some vx=>
     rw[hx]at h
     try simp only[E3]at h ⊢
     obtain⟨v,h3,h4⟩:=dv Z vx _ h;refine⟨v,h3,fun Z' k' kp' hs hv=>dL (hs.resolve_left (by simp)) (h4 _ hv)⟩
  case str x=>
   simp only[FX]at *;cases hx:ev env x with
   | none=>rw[hx]at h;exact h.elim
   | some vx=>
     rw[hx]at h
     try simp only[E3]at h ⊢
     obtain⟨v,h3,h4⟩:=kY h;exact⟨v,h3,fun Z' k' kp' hs hv=>h4 _ _ (hs.resolve_left (by simp)) hv⟩
  case lookup ks z ok x y=>
   simp only[FX]at *;cases hx:ev env x with
   | none=>rw[hx]at h;exact h.elim
   | some vx=>
     rw[hx]at h
     try simp only[E3]at h ⊢
     cases hy:ev env y with
     | none=>rw[hy]at h;exact h.elim
     | some vy=>
       rw[hy]at h
       try simp only[E3]at h ⊢
       obtain⟨v,h1,h2⟩:=Xq h;exact⟨v,h1,fun Z' k' kp' hs hk'=>h2 Z' _ (hs.resolve_left (by simp)) hk'⟩
  case Rz a b x y=>
   simp only[FX]at *;cases hx:ev env x with
   | none=>rw[hx]at h;exact h.elim
   | some vx=>
     rw[hx]at h
     try simp only[E3]at h ⊢
     cases hy:ev env y with
     | none=>rw[hy]at h;exact h.elim
     | some vy=>
       rw[hy]at h
       try simp only[E3]at h ⊢
       obtain⟨v,h1,h2⟩:=dw h;exact⟨v,h1,fun Z' k' kp' hs hk'=>h2 Z' _ (hs.resolve_left (by simp)) hk'⟩
  case slice s x a b c=>
   cases c with
   | some c=>simp[kd]at hk
   | none=>
     simp only[FX]at *;cases hx:ev env x with
     | none=>rw[hx]at h;exact h.elim
     | some vx=>
       rw[hx]at h
       try simp only[E3]at h ⊢
       cases ha:Hs env a with
       | none=>rw[ha]at h;exact h.elim
       | some va=>
         rw[ha]at h
         try simp only[Zr]at h ⊢
         cases hb:Hs env b with
         | none=>rw[hb]at h;exact h.elim
         | some vb=>
           rw[hb]at h;simp only[Zr,Hs]at h ⊢;obtain⟨v,h1,h2⟩:=ZL h;exact⟨v,h1,fun Z' k' kp' _ hk'=>h2 Z' k' hk'⟩
  case append a b x y=>
   exfalso;simp only[kd]at hk;split at hk<;>cases hk
end Go.Gl
namespace Go.Gl
variable {P:Program} {F:Nat->Prop} {Z:AE}
def Gy (Z:AE) (D:Nat->Prop):AE:=fun n=>open Classical in if D n then Z n else none
def DX {D:Nat->Prop} {n:Nat} (h:D n):Gy Z D n=Z n:=by unfold Gy;rw[if_pos h]
def Dd {D:Nat->Prop} {n:Nat} (h: ¬D n):Gy Z D n=none:=by unfold Gy;rw[if_neg h]
def join (Z τ:AE):AE:=fun n=>match Z n with|some o=>some o|none=>τ n
def Av.frame {f:FuncId} {args:List V} {Q:R->AE->Prop} (D:Nat->Prop) (h:Av P f args (Gy Z D) Q) :
    Av P f args Z fun r Z'=> ∃Z1,Q r Z1/\(∀n,¬D n->Z n≠none->Z1 n=none)/\Z'=join Z1 (Gy Z fun n=> ¬D n):=by
 refine⟨h.1,fun F w cs hR hv=>?_⟩
 have hH:(Hh (fun n=>F n\/(¬D n/\Z n≠none)) (Gy Z D) w)=Hh F Z w:=by
  funext b o;unfold Hh;by_cases hb:F b\/(Z b).isSome=true
  .rw[if_pos hb,if_pos]
   rcases hb with hb|hb
   .exact .inl (.inl hb)
   .by_cases hd:D b
    .exact .inr (by rw[DX hd];exact hb)
    .exact .inl (.inr ⟨hd,by intro e;rw[e]at hb;cases hb⟩)
  .rw[if_neg hb,if_neg]
   rintro((h|h)|h)
   .exact hb (.inl h)
   .exact hb (.inr (by cases hs:Z b with|none=>exact absurd hs h.2|some o=>rfl))
   .by_cases hd:D b
    .rw[DX hd]at h;exact hb (.inr h)
    .rw[Dd hd]at h;cases h
 have hR1:Rel (fun n=>F n\/(¬D n/\Z n≠none)) (Gy Z D) w:=by
  refine⟨fun n o ho=>?_,fun n hn=>?_⟩
  .by_cases hd:D n
   .rw[DX hd]at ho
    obtain⟨h1,ob,h2,h3⟩:=hR.own n o ho;refine⟨?_,ob,h2,by rw[hH];exact h3⟩;rintro(h|h)
    .exact h1 h
    .exact h.1 hd
   .rw[Dd hd]at ho;cases ho
  .rcases hn with hn|hn
   .exact hR.lock n hn
   .cases hs:Z n with
    | none=>exact absurd hs hn.2
    | some o=>exact hR.lt hs
 refine Calls.mono (h.2 _ w cs hR1 (by rw[hH];exact hv)) fun e w' ⟨r,Z1,hq,h1,h2,h3⟩=>?_
 have hfr: ∀n,¬D n->Z n≠none->Z1 n=none:=fun n hd hn=>by
  cases hs:Z1 n with
  | none=>rfl
  | some o=>exact absurd (.inr ⟨hd,hn⟩) (h2.own n o hs).1
 have hle:ZW (Hh (fun n=>F n\/(¬D n/\Z n≠none)) Z1 w') (Hh F (join Z1 (Gy Z fun n=> ¬D n)) w'):=by
  intro b o c hc;obtain⟨k1,k2,k3⟩:=GG hc;rw[Og (fun h=>k1 (.inl h)) ?_]
  .exact k3
  .simp only[join,k2]
   by_cases hd:D b
   .exact Dd (fun h=>h hd)
   .rw[DX hd]
    cases hs:Z b with
    | none=>rfl
    | some o=>exact absurd (.inr ⟨hd,by rw[hs];simp⟩) k1
 have hA:B7 F Z w (join Z1 (Gy Z fun n=> ¬D n)) w':=by
  refine⟨fun n hn h0=>h3.frame n hn ?_,h3.size,h3.os,h3.tape,h3.output,fun n h0 hn=>?_⟩
  .by_cases hd:D n
   .rw[DX hd];exact h0
   .exact Dd hd
  .have:Z1 n=none:=h3.names n (by
    by_cases hd:D n
    .rw[DX hd];exact h0
    .exact Dd hd) hn
   simp only[join,this];by_cases hd:D n
   .exact Dd (fun h=>h hd)
   .rw[DX hd];exact h0
 refine⟨r,_,⟨Z1,hq,hfr,rfl⟩,?_,⟨fun n o ho=>?_,fun n hn=>h2.lock n (.inl hn)⟩,hA⟩
 .cases r with
  | ret v=>obtain⟨c,rfl,hv⟩:=h1;exact⟨c,rfl,hv.mono hle⟩
  | Bf v=>obtain⟨c,rfl,hv⟩:=h1;exact⟨c,rfl,hv.mono hle⟩
 .simp only[join]at ho
  cases hs:Z1 n with
  | some o1=>
    rw[hs]at ho;simp only[Iy]at ho;subst ho;obtain⟨k1,ob,k2,k3⟩:=h2.own n _ hs;exact⟨fun h=>k1 (.inl h),ob,k2,k3.mono hle⟩
  | none=>
    rw[hs]at ho;simp only at ho;by_cases hd:D n
    .rw[Dd (fun h=>h hd)]at ho;cases ho
    .rw[DX hd]at ho
     obtain⟨k1,ob,k2,k3⟩:=hR.own n o ho;refine⟨k1,ob,(h3.frame n (hR.lt ho) (Dd hd)).trans k2,k3.mono ?_⟩;exact hA.hle
end Go.Gl
namespace Go.Gl
variable {P:Program} {F:Nat->Prop} {env env':Env} {Z:AE}
def Bq {o:Option V} {k k':V->Prop} (h:wv o k) (hm: ∀v,k v->k' v):wv o k':=by
 cases o with
 | none=>exact h
 | some v=>exact hm v h
def MD {o:Option (List V)} {k k':List V->Prop} (h:ws o k) (hm: ∀v,k v->k' v):ws o k':=by
 cases o with
 | none=>exact h
 | some v=>exact hm v h
def UI {o:Option (Option V)} {k k':Option V->Prop} (h:wo o k) (hm: ∀v,k v->k' v):wo o k':=by
 cases o with
 | none=>exact h
 | some v=>exact hm v h
def Xd {sz:Nat} {a x:V} {k k':AE->Prop} (h:AS Z sz a x k) (hm: ∀Z',k Z'->k' Z'):AS Z sz a x k':=by
 unfold AS at *;split at h
 .rename_i vc hc
  obtain⟨h1,h2,h3⟩:=h;refine⟨h1,h2,?_⟩;cases a<;>first|exact h3.elim|skip
  .simp only at *
   split at h3
   .exact⟨h3.1,hm _ h3.2⟩
   .exact h3.elim
  .simp only at *
   split at h3
   .refine⟨h3.1,?_⟩
    have h4:=h3.2;split at h4
    .exact⟨h4.1,hm _ h4.2⟩
    .exact h4.elim
   .exact h3.elim
 .exact h.elim
def Fu {sz:Nat} {y:V} {k k':List (List V)->Prop} (h:rowsOf Z sz y k) (hm: ∀v,k v->k' v):rowsOf Z sz y k':=by
 unfold rowsOf at *;cases y<;>first|exact h.elim|skip
 .exact⟨h.1,hm _ h.2⟩
 .simp only at *
  split at h
  .exact⟨h.1,h.2.1,hm _ h.2.2⟩
  .exact h.elim
 .simp only at *
  split at h
  .exact⟨h.1,h.2.1,h.2.2.1,hm _ h.2.2.2⟩
  .exact h.elim
def NB {b sz:Nat} {x y:V} {k k':V->AE->Prop} (h:AL b Z sz x y k) (hm: ∀v Z',k v Z'->k' v Z'):AL b Z sz x y k':=by
 unfold AL at *;refine Fu h fun ys ⟨h1,h2⟩=>⟨h1,?_⟩
 cases x<;>first|exact h2.elim|skip
 .simp only at *
  exact⟨h2.1,h2.2.1,fun e=>hm _ _ (h2.2.2.1 e),fun e=>⟨(h2.2.2.2 e).1,fun n cap h3 h4=>hm _ _ ((h2.2.2.2 e).2 n cap h3 h4)⟩⟩
 .simp only at *
  split at h2
  .exact⟨h2.1,h2.2.1,h2.2.2.1,h2.2.2.2.1,fun n cap h3 h4=>hm _ _ (h2.2.2.2.2 n cap h3 h4)⟩
  .exact h2.elim
def H8 {o:Option V} {d:Int} {k k':Int->Prop} (h:O2 o d k) (hm: ∀v,k v->k' v):O2 o d k':=by
 unfold O2 at *;split at h
 .exact hm _ h
 .exact hm _ h
 .exact h.elim
def Xf {sz:Nat} {x:V} {a b c:Option V} {k k':V->AE->Prop} (h:AP Z sz x a b c k) (hm: ∀v Z',k v Z'->k' v Z'):AP Z sz x a b c k':=by
 unfold AP at *;cases x<;>first|exact h.elim|skip
 .simp only at *
  refine⟨h.1,H8 h.2 fun hh h2=>H8 h2 fun l h3=>⟨h3.1,h3.2.1,h3.2.2.1,?_⟩⟩;have h4:=h3.2.2.2;split at h4
  .exact hm _ _ h4
  .exact⟨h4.1,hm _ _ h4.2⟩
  .exact h4.elim
 .simp only at *
  refine H8 h fun hh h2=>H8 h2 fun l h3=>⟨h3.1,h3.2.1,h3.2.2.1,?_⟩
  have h4:=h3.2.2.2;split at h4
  .exact hm _ _ h4
  .refine⟨h4.1,h4.2.1,h4.2.2.1,?_⟩
   have h5:=h4.2.2.2;split at h5
   .exact⟨h5.1,h5.2.1,h5.2.2.1,h5.2.2.2.elim (fun h=> .inl (hm _ _ h)) fun h=> .inr (hm _ _ h)⟩
   .exact h5.elim
  .exact h4.elim
 .simp only at *
  exact H8 h fun hh h2=>H8 h2 fun l h3=>⟨h3.1,h3.2.1,h3.2.2.1,h3.2.2.2.1,h3.2.2.2.2.1,hm _ _ h3.2.2.2.2.2⟩
def Sv {sz:Nat} {ys:List (List V)} {n off len:Nat} {k k':V->AE->Prop} (h:Ps Z sz ys n off len k) (hm: ∀v Z',k v Z'->k' v Z'):Ps Z sz ys n off len k':=by
 unfold Ps at *;split at h
 .exact⟨h.1,h.2.1,hm _ _ h.2.2⟩
 .exact h.elim
def Y3 {sz:Nat} {x y:V} {k k':V->AE->Prop} (h:Ab Z sz x y k) (hm: ∀v Z',k v Z'->k' v Z'):Ab Z sz x y k':=by
 refine Fu h fun ys h=>⟨h.1,?_⟩
 have h:=h.2;split at h
 .exact Sv h hm
 .exact⟨h.1,Sv h.2 hm⟩
 .exact h.elim
def Qk {o:F4} {k k' kp kp':V->AE->Prop} (h:FX P o env Z k kp) (hm: ∀v Z',k v Z'->k' v Z') (hp: ∀v Z',kp v Z'->kp' v Z'):FX P o env Z k' kp':=by
 by_cases hs:still o=true
 .obtain⟨v,h1,h2⟩:=IK hs h
  exact h2 Z k' kp' (.inr fun _ _ h=>h) (hm _ _ h1)
 .cases o<;>first|(exact absurd rfl hs)|skip
  all_goals simp only[FX]at *
  case box x=>
   refine Bq h fun v h=>?_
   split at h
   .exact fun n hn=>hm _ _ (h n hn)
   .exact h.elim
  case alloc z=>exact fun n hn=>hm _ _ (h n hn)
  case mC x=>exact Bq h fun v ⟨vf,Z2,h1,h2,h3⟩=>⟨vf,Z2,h1,h2,hm _ _ h3⟩
  case OY=>exact fun n hn=>hm _ _ (h n hn)
  case Ed ks x y z=>
   refine Bq h fun vm h=>Bq h fun vk h=>Bq h fun vx h=>?_
   unfold AO at *;obtain⟨h0,h⟩:=h;cases vm<;>first|exact h.elim|skip
   simp only at *;split at h
   .exact⟨h0,h.1,hm _ _ h.2⟩
   .exact h.elim
  case ew q n x=>
   refine Bq h fun vx h=>?_
   unfold JS at *;split at h<;>first|exact h.elim|exact hm _ _ h|exact⟨fun e t=>hm _ _ (h.1 e t),fun e=>hm _ _ (h.2 e)⟩
  case GC a b c x y=>
   refine Bq h fun vx h=>Bq h fun vy h=>?_
   unfold AK at *;split at h
   .exact⟨h.1,h.2.1,h.2.2.1,fun id hn=>hm _ _ (h.2.2.2 id hn)⟩
   .exact h.elim
  case store sz a x=>exact Bq h fun va h=>Bq h fun vx h=>Xd h fun Z' h=>hm _ _ h
  case slice sz x a b c=>exact Bq h fun vx h=>UI h fun l h=>UI h fun hh h=>UI h fun m h=>Xf h hm
  case append sz b x y=>exact Bq h fun vx h=>Bq h fun vy h=>NB h hm
  case copy sz x y=>exact Bq h fun vx h=>Bq h fun vy h=>Y3 h hm
  case inv tab x as=>exact Bq h fun vx h=>MD h fun vs h=>h.mono fun r Z' h=>by cases r<;>first|exact hm _ _ h|exact hp _ _ h
  case panic x=>
   refine Bq h fun vx h=>?_
   split at h
   .exact hp _ _ h
   .exact h.elim
  case call f as=>exact MD h fun vs h=>h.mono fun r Z' h=>by cases r<;>first|exact hm _ _ h|exact hp _ _ h
  case Je x as=>
   exact Bq h fun vx h=>MD h fun vs h=>h.mono fun r Z' h=>by cases r<;>first|exact hm _ _ h|exact hp _ _ h
def G3 {n:Nat} {o:O} (hn:Z n=none):Sub Z (Bu Z n o):=fun m p hp=>by
 unfold Bu;split
 .rename_i e
  subst e;rw[hn]at hp;cases hp
 .exact hp
def calm (o:F4):Bool:=match kd o with| .H=>false|_=>true
def Ot {b sz:Nat} {y:V} {k:V->AE->Prop}:AL b Z sz (.l [] true) y k=rowsOf Z sz y fun ys=>(∀e∈ys,∀v∈e,CJ v=true)/\(ys.length<=Ad/\ys.length*b<=140737488355328)/\(ys= []->k (.l [] true) Z)/\
 (ys≠[]-> ∀n cap,Z n=none->ys.length<=cap->k (.sl n ys.length cap) (Bu Z n (.arr sz ys cap))):=by
 simp[AL]
def Oi {s:Nat} {x:Bk} {a b c:Option Bk} (h:calm (.slice s x a b c)=true):still (.slice s x a b c)=true:=by
 cases c with
 | none=>rfl
 | some c=>cases h
def Su {a b:Nat} {x y:Bk} (h:kd (.append a b x y)≠ .H):x= .c (.l [] true):=by
 simp only[kd]at h;split at h
 .rfl
 .exact absurd rfl h
def bV {o:F4} (hc:calm o=true) {k kp:V->AE->Prop} (h:FX P o env Z k kp):FX P o env Z (fun v Z'=>k v Z'/\Sub Z Z') kp:=by
 by_cases hs:still o=true
 .obtain⟨v,h1,h2⟩:=IK hs h
  exact h2 Z _ kp (.inr fun _ _ h=>h) ⟨h1,fun _ _ h=>h⟩
 .cases o<;>first|(exact absurd rfl hs)|(cases hc;done)|skip
  all_goals simp only[FX]at *
  case slice s x a b c=>exact absurd (Oi hc) hs
  case box x=>
   refine Bq h fun v h=>?_
   split at h
   .exact fun n hn=>⟨h n hn,G3 hn⟩
   .exact h.elim
  case alloc z=>exact fun n hn=>⟨h n hn,G3 hn⟩
  case append sz b x y=>
   have hx:x= .c (.l [] true):=Su (b:=b) (a:=sz) (y:=y) (by intro e;simp[calm,e]at hc);subst hx;change wv (ev env y) _ at h;change wv (ev env y) _;refine Bq h fun vy h=>?_
   rw[Ot]at *;exact Fu h fun ys h=>⟨h.1,h.2.1,fun e=>⟨h.2.2.1 e,fun _ _ h=>h⟩,fun e n cap h3 h4=>⟨h.2.2.2 e n cap h3 h4,G3 h3⟩⟩
def QK {n m:Nat} (h:n≠m) (a b:O):Bu (Bu Z n a) m b=Bu (Bu Z m b) n a:=by
 funext k;unfold Bu;by_cases h1:k=m
 .have h2:k≠n:=fun e=>h (e.symm.trans h1)
  rw[if_pos h1,if_neg h2,if_pos h1]
 .rw[if_neg h1,if_neg h1]
def LG {n m:Nat} (h:n≠m) {a:O}:Bu Z n a m=Z m:=by
 unfold Bu;rw[if_neg (fun e=>h e.symm)]
def Ng {n:Nat} {a:O}:Bu Z n a n=some a:=by simp[Bu]
def Yl {Z':AE} (hs:Sub Z Z') {sz:Nat} {y:V} {k:List (List V)->Prop} (h:rowsOf Z sz y k):rowsOf Z' sz y k:=by
 unfold rowsOf at *;cases y<;>first|exact h.elim|exact h|skip
 .rename_i m len cap
  simp only at *;cases hm:Z m with
  | none=>rw[hm]at h;exact h.elim
  | some o=>rw[hm]at h;rw[hs m o hm];exact h
 .rename_i m s off len
  simp only at *;cases hm:Z m with
  | none=>rw[hm]at h;exact h.elim
  | some o=>rw[hm]at h;rw[hs m o hm];exact h
def XG {o:F4} (hc:calm o=true) {k kp:V->AE->Prop} (h:FX P o env Z k kp) {m:Nat} {z:O} (hm:Z m=none) :
    FX P o env (Bu Z m z) (fun v Z2=> ∃Z1,k v Z1/\Z1 m=none/\Z2=Bu Z1 m z) kp:=by
 by_cases hs:still o=true
 .obtain⟨v,h1,h2⟩:=IK hs h
  exact h2 _ _ kp (.inr (G3 hm)) ⟨Z,h1,hm,rfl⟩
 .have hne: ∀n,Bu Z m z n=none->Z n=none/\n≠m:=fun n hn=>by
   have:n≠m:=fun e=>by rw[e,Ng]at hn;cases hn
   exact⟨by rwa [LG this.symm]at hn,this⟩
  cases o<;>first|(exact absurd rfl hs)|(cases hc;done)|skip
  all_goals simp only[FX]at *
  case slice s x a b c=>exact absurd (Oi hc) hs
  case box x=>
   refine Bq h fun v h=>?_
   split at h
   .exact fun n hn=>⟨_,h n (hne n hn).1,by rw[LG (hne n hn).2];exact hm,QK (hne n hn).2.symm _ _⟩
   .exact h.elim
  case alloc z'=>exact fun n hn=>⟨_,h n (hne n hn).1,by rw[LG (hne n hn).2];exact hm,QK (hne n hn).2.symm _ _⟩
  case append sz b x y=>
   have hx:x= .c (.l [] true):=Su (b:=b) (a:=sz) (y:=y) (by intro e;simp[calm,e]at hc);subst hx;change wv (ev env y) _ at h;change wv (ev env y) _;refine Bq h fun vy h=>?_
   rw[Ot]at *;refine Fu (Yl (G3 hm) h) fun ys h=>⟨h.1,h.2.1,fun e=>⟨Z,h.2.2.1 e,hm,rfl⟩,fun e n cap h3 h4=>?_⟩
   exact⟨_,h.2.2.2 e n cap (hne n h3).1 h4,by rw[LG (hne n h3).2];exact hm,QK (hne n h3).2.symm _ _⟩
def YO:F4->Bool| .call _ _=>true|_=>false
def XH {o:F4} (hc:YO o=true) {k kp:V->AE->Prop} (hU: ∀v Z m z,Z m=none->kp v Z->kp v (Bu Z m z)) (h:FX P o env Z k kp) {m:Nat} {z:O} (hm:Z m=none) :
    FX P o env (Bu Z m z) (fun v Z2=> ∃Z1,k v Z1/\Z1 m=none/\Z2=Bu Z1 m z) kp:=by
 cases o<;>first|(cases hc;done)|skip
 rename_i f args;simp only[FX]at *;refine MD h fun vs h=>?_
 have hr:Gy (Bu Z m z) (fun n=>n≠m)=Z:=by
  funext n;by_cases hn:n=m
  .subst hn;rw[Dd (fun h=>h rfl),hm]
  .rw[DX hn];simp[Bu,hn]
 have h':Av P f vs (Gy (Bu Z m z) fun n=>n≠m) (qk k kp):=by rw[hr];exact h
 refine Av.mono (Av.frame (fun n=>n≠m) h') fun r Z' ⟨Z1,hq,hfr,he⟩=>?_
 have h1:Z1 m=none:=hfr m (fun h=>h rfl) (by rw[Ng];simp)
 have h2:Z'=Bu Z1 m z:=by
  rw[he];funext n;simp only[join];by_cases hn:n=m
  .subst hn
   rw[h1];simp only;rw[DX (fun h=>h rfl),Ng,Ng]
  .rw[Dd (fun h=>h hn)]
   cases hs:Z1 n with
   | none=>simp[Bu,hn,hs]
   | some o=>simp[Bu,hn,hs]
 cases r with
 | ret v=>exact⟨Z1,hq,h1,h2⟩
 | Bf v=>rw[h2];exact hU _ _ _ _ h1 hq
structure Ao where
 dst:Option Nat
 op:F4
 guard:Option (Nat×Bool)
 deriving Inhabited
def put (d:Option Nat) (v:V) (env:Env):Env:=match d with|some d=>(d,v)::env|none=>env
def IT (P:Program) (o:Ao) (env:Env) (Z:AE) (k kp:V->AE->Prop):Prop:=
 match o.guard with
 | none=>FX P o.op env Z k kp
 | some (g,b)=>match get g env with
   | some (.b t)=>(t=b->FX P o.op env Z k kp)/\(t= !b->k (.t []) Z)
   | some (.t [])=>k (.t []) Z
   | _=>False
def looks (o:Ao):List Nat:=reads o.op++(match o.guard with|some (g,_)=>[g]|none=>[])
def GO {o:Ao} {k kp:V->AE->Prop} (h: ∀s∈looks o,get s env'=get s env):IT P o env' Z k kp=IT P o env Z k kp:=by
 unfold IT;unfold looks at h;cases hg:o.guard with
 | none=>exact TQ fun s hs=>h s (OT _ hs)
 | some p=>
   obtain⟨g,b⟩:=p;simp only;rw[h g (by rw[hg];simp),TQ fun s hs=>h s (OT _ hs)]
def CI {o:Ao} {k k' kp kp':V->AE->Prop} (h:IT P o env Z k kp) (hm: ∀v Z',k v Z'->k' v Z') (hp: ∀v Z',kp v Z'->kp' v Z'):IT P o env Z k' kp':=by
 unfold IT at *;split at h
 .exact Qk h hm hp
 .split at h
  .exact⟨fun e=>Qk (h.1 e) hm hp,fun e=>hm _ _ (h.2 e)⟩
  .exact hm _ _ h
  .exact h.elim
def TR {o:Ao} (hs:still o.op=true) {k kp:V->AE->Prop} (h:IT P o env Z k kp) :
    ∃v,k v Z/\ ∀Z' (k' kp':V->AE->Prop),(kd o.op= .P\/Sub Z Z')->k' v Z'->IT P o env Z' k' kp':=by
 unfold IT at *;split at h
 .obtain⟨v,h1,h2⟩:=IK hs h
  exact⟨v,h1,fun Z' k' kp' hσ hk=>h2 Z' k' kp' hσ hk⟩
 .rename_i g b hg
  split at h
  .rename_i t ht
   skip
   by_cases htb:t=b
   .obtain⟨v,h1,h2⟩:=IK hs (h.1 htb)
    refine⟨v,h1,fun Z' k' kp' hσ hk=>?_⟩;exact⟨fun _=>h2 Z' k' kp' hσ hk,fun e=>absurd (htb.symm.trans e) (by cases b<;>simp)⟩
   .refine⟨.t [],h.2 (by cases t<;>cases b<;>simp_all),fun Z' k' kp' hσ hk=>?_⟩
    exact⟨fun e=>absurd e htb,fun _=>hk⟩
  .exact⟨.t [],h,fun Z' k' kp' hσ hk=>hk⟩
  .exact h.elim
def bW {o:Ao} (hc:calm o.op=true) {k kp:V->AE->Prop} (h:IT P o env Z k kp):IT P o env Z (fun v Z'=>k v Z'/\Sub Z Z') kp:=by
 unfold IT at *;split at h
 .exact bV hc h
 .split at h
  .exact⟨fun e=>bV hc (h.1 e),fun e=>⟨h.2 e,fun _ _ h=>h⟩⟩
  .exact⟨h,fun _ _ h=>h⟩
  .exact h.elim
def lz {o:Ao} (hc:calm o.op=true) {k kp:V->AE->Prop} (h:IT P o env Z k kp) {m:Nat} {z:O} (hm:Z m=none) :
    IT P o env (Bu Z m z) (fun v Z2=> ∃Z1,k v Z1/\Z1 m=none/\Z2=Bu Z1 m z) kp:=by
 unfold IT at *;split at h
 .exact XG hc h hm
 .split at h
  .exact⟨fun e=>XG hc (h.1 e) hm,fun e=>⟨Z,h.2 e,hm,rfl⟩⟩
  .exact⟨Z,h,hm,rfl⟩
  .exact h.elim
def Zb (o:F4):Bool:=calm o||YO o
def eR {o:Ao} (hc:Zb o.op=true) {k kp:V->AE->Prop} (hU: ∀v Z m z,Z m=none->kp v Z->kp v (Bu Z m z)) (h:IT P o env Z k kp) {m:Nat} {z:O} (hm:Z m=none) :
    IT P o env (Bu Z m z) (fun v Z2=> ∃Z1,k v Z1/\Z1 m=none/\Z2=Bu Z1 m z) kp:=by
 cases hc':calm o.op with
 | true=>exact lz hc' h hm
 | false=>
   have hc2:YO o.op=true:=by simpa[Zb,hc']using hc
   unfold IT at *;split at h
   .exact XH hc2 hU h hm
   .split at h
    .exact⟨fun e=>XH hc2 hU (h.1 e) hm,fun e=>⟨Z,h.2 e,hm,rfl⟩⟩
    .exact⟨Z,h,hm,rfl⟩
    .exact h.elim
end Go.Gl
