import Derived.Test.YtcfkfhaedllcpaaGreatW6
set_option linter.all false
set_option linter.defProp false
set_option maxHeartbeats 8000000
noncomputable section
namespace Go.Gl
variable {P:Program} {F:Nat->Prop} {env env':Env} {Z:AE}
def Al (AD:(V->Prop)->Prop):Prop:= ∀k,AD k-> ∃v,k v/\ ∀k':V->Prop,k' v->AD k'
def Al.one (v:V):Al fun k=>k v:=fun _ h=>⟨v,h,fun _ h=>h⟩
def Al.no:Al fun _=>False:=fun _ h=>h.elim
def Al.and {p:Prop} {AD:(V->Prop)->Prop} (h:Al AD):Al fun k=>p/\AD k:=fun k ⟨hp,hF⟩=>let⟨v,h1,h2⟩:=h k hF;⟨v,h1,fun k' hk=>⟨hp,h2 k' hk⟩⟩
def Al.wv {o:Option V} {AD:V->(V->Prop)->Prop} (h: ∀v,Al (AD v)):Al fun k=>wv o fun v=>AD v k:=by
 cases o with
 | none=>exact Al.no
 | some v=>exact h v
def Al.ws {o:Option (List V)} {AD:List V->(V->Prop)->Prop} (h: ∀v,Al (AD v)):Al fun k=>ws o fun v=>AD v k:=by
 cases o with
 | none=>exact Al.no
 | some v=>exact h v
def Al.wr {o:Option (List (List V))} {AD:List (List V)->(V->Prop)->Prop} (h: ∀v,Al (AD v)):Al fun k=>wr o fun v=>AD v k:=by
 cases o with
 | none=>exact Al.no
 | some v=>exact h v
def Al.wo {o:Option (Option V)} {AD:Option V->(V->Prop)->Prop} (h: ∀v,Al (AD v)):Al fun k=>wo o fun v=>AD v k:=by
 cases o with
 | none=>exact Al.no
 | some v=>exact h v
def jP (op:BinOp) (x y:V):Al (Up op x y):=by
 unfold Up;cases x<;>cases y<;>first|exact Al.no|skip
 cases op<;>simp only<;>first|exact(Al.one _).and|exact(Al.one _).and.and
def Lp (agg:Option Nat) (cs:List V) (off:Nat):Al (cut agg cs off):=by
 unfold cut;cases agg with
 | none=>cases cs[off]? with
   | none=>exact Al.no
   | some v=>exact Al.one _
 | some n=>exact(Al.one _).and
def cw (Z:AE) (agg:Option Nat) (x:V):Al (AX Z agg x):=by
 unfold AX PA PB;cases x<;>first|exact Al.no|skip
 case p n off=>
  simp only;cases Z n with
  | none=>exact Al.no
  | some o=>cases o<;>first|exact Al.no|exact Lp _ _ _
 case rp cs=>exact Lp _ _ _
 case pe n sz i off=>
  simp only;cases Z n with
  | none=>exact Al.no
  | some o=>
    cases o<;>first|exact Al.no|skip
    simp only;refine Al.and ?_;rename_i es _;cases es[i]? with
    | none=>exact Al.no
    | some e=>exact Lp _ _ _
def cD {Z Z':AE} (hs:Sub Z Z') {agg:Option Nat} {x:V} {k:V->Prop} (h:AX Z agg x k):AX Z' agg x k:=by
 unfold AX PA PB at *;cases x<;>first|exact h|skip
 case p n off=>
  simp only at *;cases hn:Z n with
  | none=>rw[hn]at h;exact h.elim
  | some o=>rw[hs n o hn];rw[hn]at h;exact h
 case pe n sz i off=>
  simp only at *;cases hn:Z n with
  | none=>rw[hn]at h;exact h.elim
  | some o=>rw[hs n o hn];rw[hn]at h;exact h
def YW (off:Nat) (x:V):Al (Kb off x):=by
 unfold Kb;cases x<;>first|exact Al.no|exact Al.one _
def YV (sz:Nat) (arr:Option Nat) (x i:V):Al (AR sz arr x i):=by
 unfold AR;cases i<;>first|exact Al.no|skip
 cases arr<;>cases x<;>first|exact Al.no|exact(Al.one _).and.and|exact(Al.one _).and.and.and|skip
 intro k ⟨h0,e,h1,h2,h3⟩;exact⟨_,h3,fun k' hk=>⟨h0,e,h1,h2,hk⟩⟩
def YU (len sz:Nat) (agg:Option Nat) (x i:V):Al (Ka len sz agg x i):=by
 unfold Ka;cases x<;>first|exact Al.no|skip
 cases i<;>first|exact Al.no|skip
 exact(Lp _ _ _).and.and
def cu (x i:V):Al (PE x i):=by
 unfold PE;cases x<;>first|exact Al.no|skip
 cases i<;>first|exact Al.no|skip
 refine Al.and ?_;rename_i b _ j;cases b.data.toList[j.toNat]? with
 | none=>exact Al.no
 | some c=>exact Al.one _
def jO (x:V):Al (A4 x):=by
 unfold A4;cases x<;>first|exact Al.no|exact Al.one _|exact(Al.one _).and
def cz (Z:AE) (x:V):Al (J7 Z x):=by
 unfold J7;cases x<;>first|exact Al.no|exact Al.one _|skip
 case m n=>
  simp only;cases Z n with
  | none=>exact Al.no
  | some o=>cases o<;>first|exact Al.no|exact(Al.one _).and
def cE {Z Z':AE} (hs:Sub Z Z') {x:V} {k:V->Prop} (h:J7 Z x k):J7 Z' x k:=by
 unfold J7 at *;cases x<;>first|exact h|skip
 case m n=>
  simp only at *;cases hn:Z n with
  | none=>rw[hn]at h;exact h.elim
  | some o=>rw[hs n o hn];rw[hn]at h;exact h
def Jf {o:Option V} {d:Int} {k:Int->Prop} (h:OL o d k): ∃v,k v/\ ∀k':Int->Prop,k' v->OL o d k':=by
 unfold OL at *;split at h
 .exact⟨_,h,fun _ h=>h⟩
 .exact⟨_,h,fun _ h=>h⟩
 .exact h.elim
def YT {sz:Nat} {x:V} {a b:Option V} {k:V->AE->Prop} (h:AQ Z sz x a b none k): ∃v,k v Z/\ ∀Z' (k':V->AE->Prop),k' v Z'->AQ Z' sz x a b none k':=by
 unfold AQ at *;cases x<;>first|exact h.elim|skip
 .simp only at *
  obtain⟨h0,h⟩:=h;obtain⟨hh,h,g1⟩:=Jf h;obtain⟨l,h,g2⟩:=Jf h;exact⟨_,h.2.2.2,fun Z' k' hk=>⟨h0,g1 _ (g2 _ ⟨h.1,h.2.1,h.2.2.1,hk⟩)⟩⟩
 .simp only at *
  obtain⟨hh,h,g1⟩:=Jf h;obtain⟨l,h,g2⟩:=Jf h;exact⟨_,h.2.2.2,fun Z' k' hk=>g1 _ (g2 _ ⟨h.1,h.2.1,h.2.2.1,hk⟩)⟩
 .simp only at *
  obtain⟨hh,h,g1⟩:=Jf h;obtain⟨l,h,g2⟩:=Jf h;exact⟨_,h.2.2.2.2.2,fun Z' k' hk=>g1 _ (g2 _ ⟨h.1,h.2.1,h.2.2.1,h.2.2.2.1,trivial,hk⟩)⟩
def QC {sz:Nat} {y:V} {k:List (List V)->Prop} (h:rowsOf Z sz y k): ∃ys,k ys/\ ∀Z' (k':List (List V)->Prop),Sub Z Z'->k' ys->rowsOf Z' sz y k':=by
 unfold rowsOf at *;cases y<;>first|exact h.elim|skip
 .exact⟨_,h.2,fun _ _ _ hk=>⟨h.1,hk⟩⟩
 .rename_i m len cap
  simp only at *;cases hm:Z m with
  | none=>rw[hm]at h;exact h.elim
  | some o=>
    rw[hm]at h;cases o<;>first|exact h.elim|skip
    exact⟨_,h.2.2,fun Z' k' hs hk=>by rw[hs m _ hm];exact⟨h.1,h.2.1,hk⟩⟩
 .rename_i m s off len
  simp only at *;cases hm:Z m with
  | none=>rw[hm]at h;exact h.elim
  | some o=>
    rw[hm]at h;cases o<;>first|exact h.elim|skip
    exact⟨_,h.2.2.2,fun Z' k' hs hk=>by rw[hs m _ hm];exact⟨h.1,h.2.1,h.2.2.1,hk⟩⟩
def ij {x:V} {k:V->Prop} (h:dv Z x k): ∃v,k v/\ ∀Z' (k':V->Prop),Sub Z Z'->k' v->dv Z' x k':=by
 obtain⟨ys,h1,h2⟩:=QC h;cases hn:FF ys with
 | none=>rw[hn]at h1;exact h1.elim
 | some ns=>
   rw[hn]at h1;exact⟨_,h1,fun Z' k' hs hk=>h2 Z' _ hs (by rw[hn];exact hk)⟩
def c8 {b sz:Nat} {x y:V} {k:V->Prop} (h:Ad b Z sz x y k): ∃v,k v/\ ∀Z' (k':V->Prop),Sub Z Z'->k' v->Ad b Z' sz x y k':=by
 unfold Ad at *;obtain⟨ys,⟨h1,h2⟩,h3⟩:=QC h;cases x<;>first|exact h2.elim|skip
 exact⟨_,h2.2.2.2,fun Z' k' hs hk=>h3 Z' _ hs ⟨h1,h2.1,h2.2.1,h2.2.2.1,hk⟩⟩
def Ws {ks:KS} {z:V} {ok:Bool} {vm vk:V} {k:V->Prop} (h:AM Z ks z ok vm vk k): ∃v,k v/\ ∀Z' (k':V->Prop),Sub Z Z'->k' v->AM Z' ks z ok vm vk k':=by
 unfold AM at *;obtain⟨h0,h⟩:=h;cases vm<;>first|exact h.elim|skip
 .rename_i n
  simp only at *;cases hn:Z n with
  | none=>rw[hn]at h;exact h.elim
  | some o=>
    rw[hn]at h;cases o<;>first|exact h.elim|skip
    exact⟨_,h.2,fun Z' k' hs hk=>⟨h0,by rw[hs n _ hn];exact⟨h.1,hk⟩⟩⟩
 .exact⟨_,h,fun Z' k' hs hk=>⟨h0,hk⟩⟩
inductive Kd where
 | P|N|A|AA|H
 deriving DecidableEq,Repr
def kd:Fh->Kd
 | .load _ _=> .N
 | .TC _=> .N
 | .str _=> .N
 | .Q9 _ _ _ _=> .N
 | .box _=> .A
 | .append _ _ x _=>match x with| .c (.l [] true)=> .A|_=> .H
 | .alloc _=> .AA
 | .slice _ _ _ _ mx=>match mx with|none=> .N|some _=> .H
 | .store _ _ _| .copy _ _ _| .FG _ _ _ _| .panic _| .call _ _| .Ih _ _| .Xg _ _| .inv _ _ _| .Np| .Fp _ _ _ _ _| .aX _ _ _| .jy _=> .H
 | .lookup _ _ _ _ _=> .N
 | _=> .P
def xN {o:Fh} (hk:kd o= .P): ∃AD:(V->Prop)->Prop,Al AD/\ ∀Z (k kp:V->AE->Prop),FQ P o env Z k kp=AD (fun v=>k v Z):=by
 cases o<;>first|(simp[kd]at hk;done)|skip
 case mv x=>exact⟨fun k=>wv (ev env x) k,Al.wv fun v=>Al.one v,fun _ _ _=>rfl⟩
 case pick c a b=>
  refine⟨fun k=>wv (ev env c) fun vc=>wv (ev env a) fun va=>wv (ev env b) fun vb=>match vc with| .b t=>(match va,vb with| .b x,.b y=>k (.b (bif t then x else y))|_,_=>k (bif t then va else vb))|_=>False,?_,fun _ _ _=>rfl⟩;refine Al.wv fun vc=>Al.wv fun va=>Al.wv fun vb=>?_
  cases vc<;>first|exact Al.no|skip
  cases va<;>first|exact Al.one _|skip
  cases vb<;>exact Al.one _
 case bin op x y=>exact⟨fun k=>wv (ev env x) fun vx=>wv (ev env y) fun vy=>Up op vx vy k,Al.wv fun _=>Al.wv fun _=>jP _ _ _,fun _ _ _=>rfl⟩
 case kD n x y=>
  refine⟨fun k=>wv (ev env x) fun vx=>wv (ev env y) fun vy=>match vx,vy with| .b p,.b q=>k (.b (bif n then p != q else p==q))|_,_=>False,?_,fun _ _ _=>rfl⟩;refine Al.wv fun vx=>Al.wv fun vy=>?_
  cases vx<;>cases vy<;>first|exact Al.no|exact Al.one _
 case W9 q n x y=>
  refine⟨fun k=>wv (ev env x) fun vx=>wv (ev env y) fun vy=>TD q n vx vy k,Al.wv fun vx=>Al.wv fun vy=>?_,fun _ _ _=>rfl⟩;unfold TD;cases vx<;>first|exact Al.no|skip
  cases vy<;>first|exact Al.no|skip
  simp only;split<;>first|exact Al.no|exact Al.one _
 case not x=>
  refine⟨fun k=>wv (ev env x) fun vx=>match vx with| .b p=>k (.b (!p))|_=>False,Al.wv fun vx=>?_,fun _ _ _=>rfl⟩;cases vx<;>first|exact Al.no|exact Al.one _
 case neg xor x=>
  refine⟨fun k=>wv (ev env x) fun vx=>match vx with| .i ka a=>k (.i ka (bif xor then bits .xor ka (bif ka.signed then -1 else ka.max) a else ka.wrap (0 - a)))|_=>False,Al.wv fun vx=>?_,fun _ _ _=>rfl⟩;cases vx<;>first|exact Al.no|exact Al.one _
 case conv ka x=>
  refine⟨fun k=>wv (ev env x) fun vx=>match vx with| .i _ a=>k (.i ka (ka.wrap a))|_=>False,Al.wv fun vx=>?_,fun _ _ _=>rfl⟩;cases vx<;>first|exact Al.no|exact Al.one _
 case Q8 x=>
  refine⟨fun k=>wv (ev env x) fun vx=>match cellsOf vx with|some cs=>k (.rp cs)|none=>False,Al.wv fun vx=>?_,fun _ _ _=>rfl⟩;cases cellsOf vx<;>first|exact Al.no|exact Al.one _
 case build z ps=>exact⟨fun k=>ws (J9 env z ps) fun cs=>k (.a cs),Al.ws fun _=>Al.one _,fun _ _ _=>rfl⟩
 case Di sz len z ps=>exact⟨fun k=>wr (I8 env z.length (List.replicate len z) ps) fun es=>k (.l es true),Al.wr fun _=>Al.one _,fun _ _ _=>rfl⟩
 case Bs off x=>exact⟨fun k=>wv (ev env x) fun vx=>Kb off vx k,Al.wv fun _=>YW _ _,fun _ _ _=>rfl⟩
 case field agg off x=>
  refine⟨fun k=>wv (ev env x) fun vx=>match vx with| .a cs=>cut agg cs off k|_=>False,Al.wv fun vx=>?_,fun _ _ _=>rfl⟩;cases vx<;>first|exact Al.no|exact Lp _ _ _
 case I7 sz arr x i=>exact⟨fun k=>wv (ev env x) fun vx=>wv (ev env i) fun vi=>AR sz arr vx vi k,Al.wv fun _=>Al.wv fun _=>YV _ _ _ _,fun _ _ _=>rfl⟩
 case Uk x i=>exact⟨fun k=>wv (ev env x) fun vx=>wv (ev env i) fun vi=>PE vx vi k,Al.wv fun _=>Al.wv fun _=>cu _ _,fun _ _ _=>rfl⟩
 case index len sz agg x i=>exact⟨fun k=>wv (ev env x) fun vx=>wv (ev env i) fun vi=>Ka len sz agg vx vi k,Al.wv fun _=>Al.wv fun _=>YU _ _ _ _ _,fun _ _ _=>rfl⟩
 case len x=>exact⟨fun k=>wv (ev env x) fun vx=>A4 vx k,Al.wv fun _=>jO _,fun _ _ _=>rfl⟩
 case Um x y=>
  refine⟨fun k=>wv (ev env x) fun vx=>wv (ev env y) fun vy=>match vx,vy with| .i ka a,.i kb b=>ka=kb/\k (.i ka (if b > a then b else a))|_,_=>False,?_,fun _ _ _=>rfl⟩;refine Al.wv fun vx=>Al.wv fun vy=>?_
  cases vx<;>cases vy<;>first|exact Al.no|exact(Al.one _).and
 case Ul x y=>
  refine⟨fun k=>wv (ev env x) fun vx=>wv (ev env y) fun vy=>match vx,vy with| .i ka a,.i kb b=>ka=kb/\k (.i ka (if b<a then b else a))|_,_=>False,?_,fun _ _ _=>rfl⟩;refine Al.wv fun vx=>Al.wv fun vy=>?_
  cases vx<;>cases vy<;>first|exact Al.no|exact(Al.one _).and
 case extract i x=>
  refine⟨fun k=>wv (ev env x) fun vx=>match vx with| .t vs=>(match vs[i]? with|some v=>k v|none=>False)|_=>False,Al.wv fun vx=>?_,fun _ _ _=>rfl⟩;cases vx<;>first|exact Al.no|skip
  rename_i vs;simp only;cases vs[i]? <;>first|exact Al.no|exact Al.one _
 case EX x=>
  refine⟨fun k=>wv (ev env x) fun vx=>match vx with
   | .p n off=>k (.p n off)
   | .rp cs=>k (.rp cs)
   | .pe n sz i off=>k (.pe n sz i off)
   | .f (.func f) first cap=>k (.f (.func f) first cap)
   | .f (.yield l) first cap=>k (.f (.yield l) first cap)
   | _=>False,Al.wv fun vx=>?_,fun _ _ _=>rfl⟩
  cases vx<;>first|exact Al.no|exact Al.one _|skip
  rename_i f a b;cases f<;>first|exact Al.no|exact Al.one _
 case Yi f a b=>exact⟨fun k=>ws (Ud env a) fun vf=>ws (Ud env b) fun vc=>k (.f f vf vc),Al.ws fun _=>Al.ws fun _=>Al.one _,fun _ _ _=>rfl⟩
 case Nq t x=>exact⟨fun k=>wv (ev env x) fun vx=>k (.Ey t vx),Al.wv fun _=>Al.one _,fun _ _ _=>rfl⟩
 case aT t z ok x=>
  refine⟨fun k=>wv (ev env x) fun vx=>match vx with
   | .Ey t' v=>(t'=t->k (bif ok then .t [v,.b true]else v))/\(t'≠t->ok=true/\k (.t [z,.b false]))
   | .DZ=>ok=true/\k (.t [z,.b false])
   | _=>False,Al.wv fun vx=>?_,fun _ _ _=>rfl⟩
  cases vx<;>first|exact Al.no|exact(Al.one _).and|skip
  rename_i t' v;simp only;by_cases ht:t'=t
  .simpa[ht]using Al.one _
  .simpa[ht]using(Al.one (.t [z,.b false])).and
 case HK f as=>
  refine⟨fun k=>ws (Ud env as) fun vs=> ∃v,A3 P f vs (fun _=>none) (fun r Z'=>r= .ret v/\Z'=fun _=>none)/\k v,Al.ws fun vs=>?_,fun _ _ _=>rfl⟩;intro k ⟨v,h1,h2⟩;exact⟨v,h2,fun k' hk=>⟨v,h1,hk⟩⟩
 case slice s x a b c=>
  exfalso;simp only[kd]at hk;split at hk<;>cases hk
 case append a b x y=>
  exfalso;simp only[kd]at hk;split at hk<;>cases hk
 all_goals exact⟨fun _=>False,Al.no,fun _ _ _=>rfl⟩
def still (o:Fh):Bool:=match kd o with| .P=>true| .N=>true|_=>false
def Hf {o : Fh} (hs:still o=true) {k kp:V->AE->Prop} (h:FQ P o env Z k kp) :
    ∃v,k v Z/\ ∀Z' (k' kp':V->AE->Prop),(kd o= .P\/Sub Z Z')->k' v Z'->FQ P o env Z' k' kp':=by
 unfold still at hs;cases hk:kd o<;>rw[hk]at hs<;>first|(cases hs;done)|skip
 .obtain⟨AD,h1,h2⟩:=xN (P:=P) (env:=env) hk
  rw[h2]at h;obtain⟨v,h3,h4⟩:=h1 _ h;exact⟨v,h3,fun Z' k' kp' _ hv=>by rw[h2];exact h4 _ hv⟩
 .cases o <;>first|(simp[kd]at hk;done)|skip
  case load agg x=>
   simp only[FQ]at *;cases hx:ev env x with
   | none=>rw[hx]at h;exact h.elim
   | some vx=>
     rw[hx]at h;obtain⟨v,h3,h4⟩:=cw Z agg vx _ h;refine⟨v,h3,fun Z' k' kp' hs hv=>cD (hs.resolve_left (by simp)) (h4 _ hv)⟩
  case TC x=>
   simp only[FQ]at *;cases hx:ev env x with
   | none=>rw[hx]at h;exact h.elim
   | some vx=>
     rw[hx]at h
     try simp only[Eo]at h ⊢
     obtain⟨v,h3,h4⟩:=cz Z vx _ h;refine⟨v,h3,fun Z' k' kp' hs hv=>cE (hs.resolve_left (by simp)) (h4 _ hv)⟩
  case str x=>
   simp only[FQ]at *;cases hx:ev env x with
   | none=>rw[hx]at h;exact h.elim
   | some vx=>
     rw[hx]at h
     try simp only[Eo]at h ⊢
     obtain⟨v,h3,h4⟩:=ij h;exact⟨v,h3,fun Z' k' kp' hs hv=>h4 _ _ (hs.resolve_left (by simp)) hv⟩
  case lookup ks z ok x y=>
   simp only[FQ]at *;cases hx:ev env x with
   | none=>rw[hx]at h;exact h.elim
   | some vx=>
     rw[hx]at h
     try simp only[Eo]at h ⊢
     cases hy:ev env y with
     | none=>rw[hy]at h;exact h.elim
     | some vy=>
       rw[hy]at h
       try simp only[Eo]at h ⊢
       obtain⟨v,h1,h2⟩:=Ws h;exact⟨v,h1,fun Z' k' kp' hs hk'=>h2 Z' _ (hs.resolve_left (by simp)) hk'⟩
  case Q9 a b x y=>
   simp only[FQ]at *;cases hx:ev env x with
   | none=>rw[hx]at h;exact h.elim
   | some vx=>
     rw[hx]at h
     try simp only[Eo]at h ⊢
     cases hy:ev env y with
     | none=>rw[hy]at h;exact h.elim
     | some vy=>
       rw[hy]at h
       try simp only[Eo]at h ⊢
       obtain⟨v,h1,h2⟩:=c8 h;exact⟨v,h1,fun Z' k' kp' hs hk'=>h2 Z' _ (hs.resolve_left (by simp)) hk'⟩
  case slice s x a b c=>
   cases c with
   | some c=>simp[kd]at hk
   | none=>
     simp only[FQ]at *;cases hx:ev env x with
     | none=>rw[hx]at h;exact h.elim
     | some vx=>
       rw[hx]at h
       try simp only[Eo]at h ⊢
       cases ha:HG env a with
       | none=>rw[ha]at h;exact h.elim
       | some va=>
         rw[ha]at h
         try simp only[Y6]at h ⊢
         cases hb:HG env b with
         | none=>rw[hb]at h;exact h.elim
         | some vb=>
           rw[hb]at h;simp only[Y6,HG]at h ⊢;obtain⟨v,h1,h2⟩:=YT h;exact⟨v,h1,fun Z' k' kp' _ hk'=>h2 Z' k' hk'⟩
  case append a b x y=>
   exfalso;simp only[kd]at hk;split at hk<;>cases hk
end Go.Gl
namespace Go.Gl
variable {P:Program} {F:Nat->Prop} {Z:AE}
def GX (Z:AE) (D:Nat->Prop):AE:=fun n=>open Classical in if D n then Z n else none
def DK {D:Nat->Prop} {n:Nat} (h:D n):GX Z D n=Z n:=by unfold GX;rw[if_pos h]
def DP {D:Nat->Prop} {n:Nat} (h: ¬D n):GX Z D n=none:=by unfold GX;rw[if_neg h]
def join (Z τ:AE):AE:=fun n=>match Z n with|some o=>some o|none=>τ n
def A3.frame {f:FuncId} {args:List V} {Q:R->AE->Prop} (D:Nat->Prop) (h:A3 P f args (GX Z D) Q) :
    A3 P f args Z fun r Z'=> ∃Z1,Q r Z1/\(∀n,¬D n->Z n≠none->Z1 n=none)/\Z'=join Z1 (GX Z fun n=> ¬D n):=by
 refine⟨h.1,fun F w cs hR hv=>?_⟩
 have hH:(Hh (fun n=>F n\/(¬D n/\Z n≠none)) (GX Z D) w)=Hh F Z w:=by
  funext b o;unfold Hh;by_cases hb:F b\/(Z b).isSome=true
  .rw[if_pos hb,if_pos]
   rcases hb with hb|hb
   .exact .inl (.inl hb)
   .by_cases hd:D b
    .exact .inr (by rw[DK hd];exact hb)
    .exact .inl (.inr ⟨hd,by intro e;rw[e]at hb;cases hb⟩)
  .rw[if_neg hb,if_neg]
   rintro((h|h)|h)
   .exact hb (.inl h)
   .exact hb (.inr (by cases hs:Z b with|none=>exact absurd hs h.2|some o=>rfl))
   .by_cases hd:D b
    .rw[DK hd]at h;exact hb (.inr h)
    .rw[DP hd]at h;cases h
 have hR1:Rel (fun n=>F n\/(¬D n/\Z n≠none)) (GX Z D) w:=by
  refine⟨fun n o ho=>?_,fun n hn=>?_⟩
  .by_cases hd:D n
   .rw[DK hd]at ho
    obtain⟨h1,ob,h2,h3⟩:=hR.own n o ho;refine⟨?_,ob,h2,by rw[hH];exact h3⟩;rintro(h|h)
    .exact h1 h
    .exact h.1 hd
   .rw[DP hd]at ho;cases ho
  .rcases hn with hn|hn
   .exact hR.lock n hn
   .cases hs:Z n with
    | none=>exact absurd hs hn.2
    | some o=>exact hR.lt hs
 refine Calls.mono (h.2 _ w cs hR1 (by rw[hH];exact hv)) fun e w' ⟨r,Z1,hq,h1,h2,h3⟩=>?_
 have hfr: ∀n,¬D n->Z n≠none->Z1 n=none:=fun n hd hn=>by
  cases hs:Z1 n with
  | none=>rfl
  | some o=>exact absurd (.inr ⟨hd,hn⟩) (h2.own n o hs).1
 have hle:Ym (Hh (fun n=>F n\/(¬D n/\Z n≠none)) Z1 w') (Hh F (join Z1 (GX Z fun n=> ¬D n)) w'):=by
  intro b o c hc;obtain⟨k1,k2,k3⟩:=Fu hc;rw[N0 (fun h=>k1 (.inl h)) ?_]
  .exact k3
  .simp only[join,k2]
   by_cases hd:D b
   .exact DP (fun h=>h hd)
   .rw[DK hd]
    cases hs:Z b with
    | none=>rfl
    | some o=>exact absurd (.inr ⟨hd,by rw[hs];simp⟩) k1
 have hA:Bu F Z w (join Z1 (GX Z fun n=> ¬D n)) w':=by
  refine⟨fun n hn h0=>h3.frame n hn ?_,h3.size,h3.os,h3.tape,h3.output,fun n h0 hn=>?_⟩
  .by_cases hd:D n
   .rw[DK hd];exact h0
   .exact DP hd
  .have:Z1 n=none:=h3.names n (by
    by_cases hd:D n
    .rw[DK hd];exact h0
    .exact DP hd) hn
   simp only[join,this];by_cases hd:D n
   .exact DP (fun h=>h hd)
   .rw[DK hd];exact h0
 refine⟨r,_,⟨Z1,hq,hfr,rfl⟩,?_,⟨fun n o ho=>?_,fun n hn=>h2.lock n (.inl hn)⟩,hA⟩
 .cases r with
  | ret v=>obtain⟨c,rfl,hv⟩:=h1;exact⟨c,rfl,hv.mono hle⟩
  | Bb v=>obtain⟨c,rfl,hv⟩:=h1;exact⟨c,rfl,hv.mono hle⟩
 .simp only[join]at ho
  cases hs:Z1 n with
  | some o1=>
    rw[hs]at ho;simp only[Hl]at ho;subst ho;obtain⟨k1,ob,k2,k3⟩:=h2.own n _ hs;exact⟨fun h=>k1 (.inl h),ob,k2,k3.mono hle⟩
  | none=>
    rw[hs]at ho;simp only at ho;by_cases hd:D n
    .rw[DP (fun h=>h hd)]at ho;cases ho
    .rw[DK hd]at ho
     obtain⟨k1,ob,k2,k3⟩:=hR.own n o ho;refine⟨k1,ob,(h3.frame n (hR.lt ho) (DP hd)).trans k2,k3.mono ?_⟩;exact hA.hle
end Go.Gl
namespace Go.Gl
variable {P:Program} {F:Nat->Prop} {env env':Env} {Z:AE}
def Bl {o:Option V} {k k':V->Prop} (h:wv o k) (hm: ∀v,k v->k' v):wv o k':=by
 cases o with
 | none=>exact h
 | some v=>exact hm v h
def Lc {o:Option (List V)} {k k':List V->Prop} (h:ws o k) (hm: ∀v,k v->k' v):ws o k':=by
 cases o with
 | none=>exact h
 | some v=>exact hm v h
def Tk {o:Option (Option V)} {k k':Option V->Prop} (h:wo o k) (hm: ∀v,k v->k' v):wo o k':=by
 cases o with
 | none=>exact h
 | some v=>exact hm v h
def Wg {sz:Nat} {a x:V} {k k':AE->Prop} (h:AT Z sz a x k) (hm: ∀Z',k Z'->k' Z'):AT Z sz a x k':=by
 unfold AT at *;split at h
 .rename_i vc hc
  obtain⟨h1,h2,h3⟩:=h;refine⟨h1,h2,?_⟩;cases a<;>first|exact h3.elim|skip
  .simp only at *
   split at h3
   .exact⟨h3.1,hm _ h3.2⟩
   .exact h3.elim
  .simp only at *
   split at h3
   .refine⟨h3.1,?_⟩
    have h4:=h3.2;split at h4
    .exact⟨h4.1,hm _ h4.2⟩
    .exact h4.elim
   .exact h3.elim
 .exact h.elim
def Eb {sz:Nat} {y:V} {k k':List (List V)->Prop} (h:rowsOf Z sz y k) (hm: ∀v,k v->k' v):rowsOf Z sz y k':=by
 unfold rowsOf at *;cases y<;>first|exact h.elim|skip
 .exact⟨h.1,hm _ h.2⟩
 .simp only at *
  split at h
  .exact⟨h.1,h.2.1,hm _ h.2.2⟩
  .exact h.elim
 .simp only at *
  split at h
  .exact⟨h.1,h.2.1,h.2.2.1,hm _ h.2.2.2⟩
  .exact h.elim
def MS {b sz:Nat} {x y:V} {k k':V->AE->Prop} (h:AJ b Z sz x y k) (hm: ∀v Z',k v Z'->k' v Z'):AJ b Z sz x y k':=by
 unfold AJ at *;refine Eb h fun ys ⟨h1,h2⟩=>⟨h1,?_⟩
 cases x<;>first|exact h2.elim|skip
 .simp only at *
  exact⟨h2.1,h2.2.1,fun e=>hm _ _ (h2.2.2.1 e),fun e=>⟨(h2.2.2.2 e).1,fun n cap h3 h4=>hm _ _ ((h2.2.2.2 e).2 n cap h3 h4)⟩⟩
 .simp only at *
  split at h2
  .exact⟨h2.1,h2.2.1,h2.2.2.1,h2.2.2.2.1,fun n cap h3 h4=>hm _ _ (h2.2.2.2.2 n cap h3 h4)⟩
  .exact h2.elim
def HV {o:Option V} {d:Int} {k k':Int->Prop} (h:OL o d k) (hm: ∀v,k v->k' v):OL o d k':=by
 unfold OL at *;split at h
 .exact hm _ h
 .exact hm _ h
 .exact h.elim
def Wi {sz:Nat} {x:V} {a b c:Option V} {k k':V->AE->Prop} (h:AQ Z sz x a b c k) (hm: ∀v Z',k v Z'->k' v Z'):AQ Z sz x a b c k':=by
 unfold AQ at *;cases x<;>first|exact h.elim|skip
 .simp only at *
  refine⟨h.1,HV h.2 fun hh h2=>HV h2 fun l h3=>⟨h3.1,h3.2.1,h3.2.2.1,?_⟩⟩;have h4:=h3.2.2.2;split at h4
  .exact hm _ _ h4
  .exact⟨h4.1,hm _ _ h4.2⟩
  .exact h4.elim
 .simp only at *
  refine HV h fun hh h2=>HV h2 fun l h3=>⟨h3.1,h3.2.1,h3.2.2.1,?_⟩
  have h4:=h3.2.2.2;split at h4
  .exact hm _ _ h4
  .refine⟨h4.1,h4.2.1,h4.2.2.1,?_⟩
   have h5:=h4.2.2.2;split at h5
   .exact⟨h5.1,h5.2.1,h5.2.2.1,h5.2.2.2.elim (fun h=> .inl (hm _ _ h)) fun h=> .inr (hm _ _ h)⟩
   .exact h5.elim
  .exact h4.elim
 .simp only at *
  exact HV h fun hh h2=>HV h2 fun l h3=>⟨h3.1,h3.2.1,h3.2.2.1,h3.2.2.2.1,h3.2.2.2.2.1,hm _ _ h3.2.2.2.2.2⟩
def SO {sz:Nat} {ys:List (List V)} {n off len:Nat} {k k':V->AE->Prop} (h:O3 Z sz ys n off len k) (hm: ∀v Z',k v Z'->k' v Z'):O3 Z sz ys n off len k':=by
 unfold O3 at *;split at h
 .exact⟨h.1,h.2.1,hm _ _ h.2.2⟩
 .exact h.elim
def X9 {sz:Nat} {x y:V} {k k':V->AE->Prop} (h:Ac Z sz x y k) (hm: ∀v Z',k v Z'->k' v Z'):Ac Z sz x y k':=by
 refine Eb h fun ys h=>⟨h.1,?_⟩
 have h:=h.2;split at h
 .exact SO h hm
 .exact⟨h.1,SO h.2 hm⟩
 .exact h.elim
def P2 {o:Fh} {k k' kp kp':V->AE->Prop} (h:FQ P o env Z k kp) (hm: ∀v Z',k v Z'->k' v Z') (hp: ∀v Z',kp v Z'->kp' v Z'):FQ P o env Z k' kp':=by
 by_cases hs:still o=true
 .obtain⟨v,h1,h2⟩:=Hf hs h
  exact h2 Z k' kp' (.inr fun _ _ h=>h) (hm _ _ h1)
 .cases o<;>first|(exact absurd rfl hs)|skip
  all_goals simp only[FQ]at *
  case box x=>
   refine Bl h fun v h=>?_
   split at h
   .exact fun n hn=>hm _ _ (h n hn)
   .exact h.elim
  case alloc z=>exact fun n hn=>hm _ _ (h n hn)
  case jy x=>exact Bl h fun v ⟨vf,Z2,h1,h2,h3⟩=>⟨vf,Z2,h1,h2,hm _ _ h3⟩
  case Np=>exact fun n hn=>hm _ _ (h n hn)
  case FG ks x y z=>
   refine Bl h fun vm h=>Bl h fun vk h=>Bl h fun vx h=>?_
   unfold AN at *;obtain⟨h0,h⟩:=h;cases vm<;>first|exact h.elim|skip
   simp only at *;split at h
   .exact⟨h0,h.1,hm _ _ h.2⟩
   .exact h.elim
  case aX q n x=>
   refine Bl h fun vx h=>?_
   unfold Iz at *;split at h<;>first|exact h.elim|exact hm _ _ h|exact⟨fun e t=>hm _ _ (h.1 e t),fun e=>hm _ _ (h.2 e)⟩
  case Fp a b c x y=>
   refine Bl h fun vx h=>Bl h fun vy h=>?_
   unfold AK at *;split at h
   .exact⟨h.1,h.2.1,h.2.2.1,fun id hn=>hm _ _ (h.2.2.2 id hn)⟩
   .exact h.elim
  case store sz a x=>exact Bl h fun va h=>Bl h fun vx h=>Wg h fun Z' h=>hm _ _ h
  case slice sz x a b c=>exact Bl h fun vx h=>Tk h fun l h=>Tk h fun hh h=>Tk h fun m h=>Wi h hm
  case append sz b x y=>exact Bl h fun vx h=>Bl h fun vy h=>MS h hm
  case copy sz x y=>exact Bl h fun vx h=>Bl h fun vy h=>X9 h hm
  case inv tab x as=>exact Bl h fun vx h=>Lc h fun vs h=>h.mono fun r Z' h=>by cases r<;>first|exact hm _ _ h|exact hp _ _ h
  case panic x=>
   refine Bl h fun vx h=>?_
   split at h
   .exact hp _ _ h
   .exact h.elim
  case call f as=>exact Lc h fun vs h=>h.mono fun r Z' h=>by cases r<;>first|exact hm _ _ h|exact hp _ _ h
  case Ih x as=>
   exact Bl h fun vx h=>Lc h fun vs h=>h.mono fun r Z' h=>by cases r<;>first|exact hm _ _ h|exact hp _ _ h
def Gb {n:Nat} {o:O} (hn:Z n=none):Sub Z (Bd Z n o):=fun m p hp=>by
 unfold Bd;split
 .rename_i e
  subst e;rw[hn]at hp;cases hp
 .exact hp
def calm (o:Fh):Bool:=match kd o with| .H=>false|_=>true
def OA {b sz:Nat} {y:V} {k:V->AE->Prop}:AJ b Z sz (.l [] true) y k=rowsOf Z sz y fun ys=>(∀e∈ys,∀v∈e,CC v=true)/\(ys.length<=AY/\ys.length*b<=140737488355328)/\(ys= []->k (.l [] true) Z)/\
 (ys≠[]-> ∀n cap,Z n=none->ys.length<=cap->k (.sl n ys.length cap) (Bd Z n (.arr sz ys cap))):=by
 simp[AJ]
def N2 {s:Nat} {x:Bf} {a b c:Option Bf} (h:calm (.slice s x a b c)=true):still (.slice s x a b c)=true:=by
 cases c with
 | none=>rfl
 | some c=>cases h
def SN {a b:Nat} {x y:Bf} (h:kd (.append a b x y)≠ .H):x= .c (.l [] true):=by
 simp only[kd]at h;split at h
 .rfl
 .exact absurd rfl h
def aR {o:Fh} (hc:calm o=true) {k kp:V->AE->Prop} (h:FQ P o env Z k kp):FQ P o env Z (fun v Z'=>k v Z'/\Sub Z Z') kp:=by
 by_cases hs:still o=true
 .obtain⟨v,h1,h2⟩:=Hf hs h
  exact h2 Z _ kp (.inr fun _ _ h=>h) ⟨h1,fun _ _ h=>h⟩
 .cases o<;>first|(exact absurd rfl hs)|(cases hc;done)|skip
  all_goals simp only[FQ]at *
  case slice s x a b c=>exact absurd (N2 hc) hs
  case box x=>
   refine Bl h fun v h=>?_
   split at h
   .exact fun n hn=>⟨h n hn,Gb hn⟩
   .exact h.elim
  case alloc z=>exact fun n hn=>⟨h n hn,Gb hn⟩
  case append sz b x y=>
   have hx:x= .c (.l [] true):=SN (b:=b) (a:=sz) (y:=y) (by intro e;simp[calm,e]at hc);subst hx;change wv (ev env y) _ at h;change wv (ev env y) _;refine Bl h fun vy h=>?_
   rw[OA]at *;exact Eb h fun ys h=>⟨h.1,h.2.1,fun e=>⟨h.2.2.1 e,fun _ _ h=>h⟩,fun e n cap h3 h4=>⟨h.2.2.2 e n cap h3 h4,Gb h3⟩⟩
def PX {n m:Nat} (h:n≠m) (a b:O):Bd (Bd Z n a) m b=Bd (Bd Z m b) n a:=by
 funext k;unfold Bd;by_cases h1:k=m
 .have h2:k≠n:=fun e=>h (e.symm.trans h1)
  rw[if_pos h1,if_neg h2,if_pos h1]
 .rw[if_neg h1,if_neg h1]
def KV {n m:Nat} (h:n≠m) {a:O}:Bd Z n a m=Z m:=by
 unfold Bd;rw[if_neg (fun e=>h e.symm)]
def Mt {n:Nat} {a:O}:Bd Z n a n=some a:=by simp[Bd]
def Xt {Z':AE} (hs:Sub Z Z') {sz:Nat} {y:V} {k:List (List V)->Prop} (h:rowsOf Z sz y k):rowsOf Z' sz y k:=by
 unfold rowsOf at *;cases y<;>first|exact h.elim|exact h|skip
 .rename_i m len cap
  simp only at *;cases hm:Z m with
  | none=>rw[hm]at h;exact h.elim
  | some o=>rw[hm]at h;rw[hs m o hm];exact h
 .rename_i m s off len
  simp only at *;cases hm:Z m with
  | none=>rw[hm]at h;exact h.elim
  | some o=>rw[hm]at h;rw[hs m o hm];exact h
def WJ {o:Fh} (hc:calm o=true) {k kp:V->AE->Prop} (h:FQ P o env Z k kp) {m:Nat} {z:O} (hm:Z m=none) :
    FQ P o env (Bd Z m z) (fun v Z2=> ∃Z1,k v Z1/\Z1 m=none/\Z2=Bd Z1 m z) kp:=by
 by_cases hs:still o=true
 .obtain⟨v,h1,h2⟩:=Hf hs h
  exact h2 _ _ kp (.inr (Gb hm)) ⟨Z,h1,hm,rfl⟩
 .have hne: ∀n,Bd Z m z n=none->Z n=none/\n≠m:=fun n hn=>by
   have:n≠m:=fun e=>by rw[e,Mt]at hn;cases hn
   exact⟨by rwa [KV this.symm]at hn,this⟩
  cases o<;>first|(exact absurd rfl hs)|(cases hc;done)|skip
  all_goals simp only[FQ]at *
  case slice s x a b c=>exact absurd (N2 hc) hs
  case box x=>
   refine Bl h fun v h=>?_
   split at h
   .exact fun n hn=>⟨_,h n (hne n hn).1,by rw[KV (hne n hn).2];exact hm,PX (hne n hn).2.symm _ _⟩
   .exact h.elim
  case alloc z'=>exact fun n hn=>⟨_,h n (hne n hn).1,by rw[KV (hne n hn).2];exact hm,PX (hne n hn).2.symm _ _⟩
  case append sz b x y=>
   have hx:x= .c (.l [] true):=SN (b:=b) (a:=sz) (y:=y) (by intro e;simp[calm,e]at hc);subst hx;change wv (ev env y) _ at h;change wv (ev env y) _;refine Bl h fun vy h=>?_
   rw[OA]at *;refine Eb (Xt (Gb hm) h) fun ys h=>⟨h.1,h.2.1,fun e=>⟨Z,h.2.2.1 e,hm,rfl⟩,fun e n cap h3 h4=>?_⟩
   exact⟨_,h.2.2.2 e n cap (hne n h3).1 h4,by rw[KV (hne n h3).2];exact hm,PX (hne n h3).2.symm _ _⟩
def XW:Fh->Bool| .call _ _=>true|_=>false
def WK {o:Fh} (hc:XW o=true) {k kp:V->AE->Prop} (hU: ∀v Z m z,Z m=none->kp v Z->kp v (Bd Z m z)) (h:FQ P o env Z k kp) {m:Nat} {z:O} (hm:Z m=none) :
    FQ P o env (Bd Z m z) (fun v Z2=> ∃Z1,k v Z1/\Z1 m=none/\Z2=Bd Z1 m z) kp:=by
 cases o<;>first|(cases hc;done)|skip
 rename_i f args;simp only[FQ]at *;refine Lc h fun vs h=>?_
 have hr:GX (Bd Z m z) (fun n=>n≠m)=Z:=by
  funext n;by_cases hn:n=m
  .subst hn;rw[DP (fun h=>h rfl),hm]
  .rw[DK hn];simp[Bd,hn]
 have h':A3 P f vs (GX (Bd Z m z) fun n=>n≠m) (qk k kp):=by rw[hr];exact h
 refine A3.mono (A3.frame (fun n=>n≠m) h') fun r Z' ⟨Z1,hq,hfr,he⟩=>?_
 have h1:Z1 m=none:=hfr m (fun h=>h rfl) (by rw[Mt];simp)
 have h2:Z'=Bd Z1 m z:=by
  rw[he];funext n;simp only[join];by_cases hn:n=m
  .subst hn
   rw[h1];simp only;rw[DK (fun h=>h rfl),Mt,Mt]
  .rw[DP (fun h=>h hn)]
   cases hs:Z1 n with
   | none=>simp[Bd,hn,hs]
   | some o=>simp[Bd,hn,hs]
 cases r with
 | ret v=>exact⟨Z1,hq,h1,h2⟩
 | Bb v=>rw[h2];exact hU _ _ _ _ h1 hq
structure Am where
 dst:Option Nat
 op:Fh
 guard:Option (Nat×Bool)
 deriving Inhabited
def put (d:Option Nat) (v:V) (env:Env):Env:=match d with|some d=>(d,v)::env|none=>env
def Hm (P:Program) (o:Am) (env:Env) (Z:AE) (k kp:V->AE->Prop):Prop:=
 match o.guard with
 | none=>FQ P o.op env Z k kp
 | some (g,b)=>match get g env with
   | some (.b t)=>(t=b->FQ P o.op env Z k kp)/\(t= !b->k (.t []) Z)
   | some (.t [])=>k (.t []) Z
   | _=>False
def looks (o:Am):List Nat:=reads o.op++(match o.guard with|some (g,_)=>[g]|none=>[])
def F4 {o:Am} {k kp:V->AE->Prop} (h: ∀s∈looks o,get s env'=get s env):Hm P o env' Z k kp=Hm P o env Z k kp:=by
 unfold Hm;unfold looks at h;cases hg:o.guard with
 | none=>exact S0 fun s hs=>h s (RU _ hs)
 | some p=>
   obtain⟨g,b⟩:=p;simp only;rw[h g (by rw[hg];simp),S0 fun s hs=>h s (RU _ hs)]
def CA {o:Am} {k k' kp kp':V->AE->Prop} (h:Hm P o env Z k kp) (hm: ∀v Z',k v Z'->k' v Z') (hp: ∀v Z',kp v Z'->kp' v Z'):Hm P o env Z k' kp':=by
 unfold Hm at *;split at h
 .exact P2 h hm hp
 .split at h
  .exact⟨fun e=>P2 (h.1 e) hm hp,fun e=>hm _ _ (h.2 e)⟩
  .exact hm _ _ h
  .exact h.elim
def S1 {o:Am} (hs:still o.op=true) {k kp:V->AE->Prop} (h:Hm P o env Z k kp) :
    ∃v,k v Z/\ ∀Z' (k' kp':V->AE->Prop),(kd o.op= .P\/Sub Z Z')->k' v Z'->Hm P o env Z' k' kp':=by
 unfold Hm at *;split at h
 .obtain⟨v,h1,h2⟩:=Hf hs h
  exact⟨v,h1,fun Z' k' kp' hσ hk=>h2 Z' k' kp' hσ hk⟩
 .rename_i g b hg
  split at h
  .rename_i t ht
   skip
   by_cases htb:t=b
   .obtain⟨v,h1,h2⟩:=Hf hs (h.1 htb)
    refine⟨v,h1,fun Z' k' kp' hσ hk=>?_⟩;exact⟨fun _=>h2 Z' k' kp' hσ hk,fun e=>absurd (htb.symm.trans e) (by cases b<;>simp)⟩
   .refine⟨.t [],h.2 (by cases t<;>cases b<;>simp_all),fun Z' k' kp' hσ hk=>?_⟩
    exact⟨fun e=>absurd e htb,fun _=>hk⟩
  .exact⟨.t [],h,fun Z' k' kp' hσ hk=>hk⟩
  .exact h.elim
def aS {o:Am} (hc:calm o.op=true) {k kp:V->AE->Prop} (h:Hm P o env Z k kp):Hm P o env Z (fun v Z'=>k v Z'/\Sub Z Z') kp:=by
 unfold Hm at *;split at h
 .exact aR hc h
 .split at h
  .exact⟨fun e=>aR hc (h.1 e),fun e=>⟨h.2 e,fun _ _ h=>h⟩⟩
  .exact⟨h,fun _ _ h=>h⟩
  .exact h.elim
def jn {o:Am} (hc:calm o.op=true) {k kp:V->AE->Prop} (h:Hm P o env Z k kp) {m:Nat} {z:O} (hm:Z m=none) :
    Hm P o env (Bd Z m z) (fun v Z2=> ∃Z1,k v Z1/\Z1 m=none/\Z2=Bd Z1 m z) kp:=by
 unfold Hm at *;split at h
 .exact WJ hc h hm
 .split at h
  .exact⟨fun e=>WJ hc (h.1 e) hm,fun e=>⟨Z,h.2 e,hm,rfl⟩⟩
  .exact⟨Z,h,hm,rfl⟩
  .exact h.elim
def Yt (o:Fh):Bool:=calm o||XW o
def dQ {o:Am} (hc:Yt o.op=true) {k kp:V->AE->Prop} (hU: ∀v Z m z,Z m=none->kp v Z->kp v (Bd Z m z)) (h:Hm P o env Z k kp) {m:Nat} {z:O} (hm:Z m=none) :
    Hm P o env (Bd Z m z) (fun v Z2=> ∃Z1,k v Z1/\Z1 m=none/\Z2=Bd Z1 m z) kp:=by
 cases hc':calm o.op with
 | true=>exact jn hc' h hm
 | false=>
   have hc2:XW o.op=true:=by simpa[Yt,hc']using hc
   unfold Hm at *;split at h
   .exact WK hc2 hU h hm
   .split at h
    .exact⟨fun e=>WK hc2 hU (h.1 e) hm,fun e=>⟨Z,h.2 e,hm,rfl⟩⟩
    .exact⟨Z,h,hm,rfl⟩
    .exact h.elim
end Go.Gl
