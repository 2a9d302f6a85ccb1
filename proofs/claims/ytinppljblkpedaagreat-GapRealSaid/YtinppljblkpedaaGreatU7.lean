import Derived.Test.YtinppljblkpedaaGreatU6
set_option linter.all false
set_option linter.defProp false
set_option maxHeartbeats 8000000
noncomputable section
namespace Go.Gl
variable {P:Program} {F:Nat->Prop} {env env':Env} {Z:AE}
def Ar (AD:(V->Prop)->Prop):Prop:= ∀k,AD k-> ∃v,k v/\ ∀k':V->Prop,k' v->AD k'
def Ar.one (v:V):Ar fun k=>k v:=fun _ h=>⟨v,h,fun _ h=>h⟩
def Ar.no:Ar fun _=>False:=fun _ h=>h.elim
def Ar.and {p:Prop} {AD:(V->Prop)->Prop} (h:Ar AD):Ar fun k=>p/\AD k:=fun k ⟨hp,hF⟩=>let⟨v,h1,h2⟩:=h k hF;⟨v,h1,fun k' hk=>⟨hp,h2 k' hk⟩⟩
def Ar.wv {o:Option V} {AD:V->(V->Prop)->Prop} (h: ∀v,Ar (AD v)):Ar fun k=>wv o fun v=>AD v k:=by
 cases o with
 | none=>exact Ar.no
 | some v=>exact h v
def Ar.ws {o:Option (List V)} {AD:List V->(V->Prop)->Prop} (h: ∀v,Ar (AD v)):Ar fun k=>ws o fun v=>AD v k:=by
 cases o with
 | none=>exact Ar.no
 | some v=>exact h v
def Ar.wr {o:Option (List (List V))} {AD:List (List V)->(V->Prop)->Prop} (h: ∀v,Ar (AD v)):Ar fun k=>wr o fun v=>AD v k:=by
 cases o with
 | none=>exact Ar.no
 | some v=>exact h v
def Ar.wo {o:Option (Option V)} {AD:Option V->(V->Prop)->Prop} (h: ∀v,Ar (AD v)):Ar fun k=>wo o fun v=>AD v k:=by
 cases o with
 | none=>exact Ar.no
 | some v=>exact h v
def lr (op:BinOp) (x y:V):Ar (cR op x y):=by
 unfold cR;cases x<;>cases y<;>first|exact Ar.no|skip
 cases op<;>simp only<;>first|exact(Ar.one _).and|exact(Ar.one _).and.and
def Me (agg:Option Nat) (cs:List V) (off:Nat):Ar (cut agg cs off):=by
 unfold cut;cases agg with
 | none=>cases cs[off]? with
   | none=>exact Ar.no
   | some v=>exact Ar.one _
 | some n=>exact(Ar.one _).and
def eT (Z:AE) (agg:Option Nat) (x:V):Ar (AT Z agg x):=by
 unfold AT SL SM;cases x<;>first|exact Ar.no|skip
 case p n off=>
  simp only;cases Z n with
  | none=>exact Ar.no
  | some o=>cases o<;>first|exact Ar.no|exact Me _ _ _
 case rp cs=>exact Me _ _ _
 case pe n sz i off=>
  simp only;cases Z n with
  | none=>exact Ar.no
  | some o=>
    cases o<;>first|exact Ar.no|skip
    simp only;refine Ar.and ?_;rename_i es _;cases es[i]? with
    | none=>exact Ar.no
    | some e=>exact Me _ _ _
def dk {Z Z':AE} (hs:Sub Z Z') {agg:Option Nat} {x:V} {k:V->Prop} (h:AT Z agg x k):AT Z' agg x k:=by
 unfold AT SL SM at *;cases x<;>first|exact h|skip
 case p n off=>
  simp only at *;cases hn:Z n with
  | none=>rw[hn]at h;exact h.elim
  | some o=>rw[hs n o hn];rw[hn]at h;exact h
 case pe n sz i off=>
  simp only at *;cases hn:Z n with
  | none=>rw[hn]at h;exact h.elim
  | some o=>rw[hs n o hn];rw[hn]at h;exact h
def ZP (off:Nat) (x:V):Ar (Nh off x):=by
 unfold Nh;cases x<;>first|exact Ar.no|exact Ar.one _
def ZO (sz:Nat) (arr:Option Nat) (x i:V):Ar (AQ sz arr x i):=by
 unfold AQ;cases i<;>first|exact Ar.no|skip
 cases arr<;>cases x<;>first|exact Ar.no|exact(Ar.one _).and.and|exact(Ar.one _).and.and.and|skip
 intro k ⟨h0,e,h1,h2,h3⟩;exact⟨_,h3,fun k' hk=>⟨h0,e,h1,h2,hk⟩⟩
def ZN (len sz:Nat) (agg:Option Nat) (x i:V):Ar (Ng len sz agg x i):=by
 unfold Ng;cases x<;>first|exact Ar.no|skip
 cases i<;>first|exact Ar.no|skip
 exact(Me _ _ _).and.and
def eS (x i:V):Ar (SQ x i):=by
 unfold SQ;cases x<;>first|exact Ar.no|skip
 cases i<;>first|exact Ar.no|skip
 refine Ar.and ?_;rename_i b _ j;cases b.data.toList[j.toNat]? with
 | none=>exact Ar.no
 | some c=>exact Ar.one _
def lq (x:V):Ar (An x):=by
 unfold An;cases x<;>first|exact Ar.no|exact Ar.one _|exact(Ar.one _).and
def eV (Z:AE) (x:V):Ar (OP Z x):=by
 unfold OP;cases x<;>first|exact Ar.no|exact Ar.one _|skip
 case m n=>
  simp only;cases Z n with
  | none=>exact Ar.no
  | some o=>cases o<;>first|exact Ar.no|exact(Ar.one _).and
def dm {Z Z':AE} (hs:Sub Z Z') {x:V} {k:V->Prop} (h:OP Z x k):OP Z' x k:=by
 unfold OP at *;cases x<;>first|exact h|skip
 case m n=>
  simp only at *;cases hn:Z n with
  | none=>rw[hn]at h;exact h.elim
  | some o=>rw[hs n o hn];rw[hn]at h;exact h
def Kk {o:Option V} {d:Int} {k:Int->Prop} (h:Ou o d k): ∃v,k v/\ ∀k':Int->Prop,k' v->Ou o d k':=by
 unfold Ou at *;split at h
 .exact⟨_,h,fun _ h=>h⟩
 .exact⟨_,h,fun _ h=>h⟩
 .exact h.elim
def ZM {sz:Nat} {x:V} {a b:Option V} {k:V->AE->Prop} (h:AP Z sz x a b none k): ∃v,k v Z/\ ∀Z' (k':V->AE->Prop),k' v Z'->AP Z' sz x a b none k':=by
 unfold AP at *;cases x<;>first|exact h.elim|skip
 .simp only at *
  obtain⟨h0,h⟩:=h;obtain⟨hh,h,g1⟩:=Kk h;obtain⟨l,h,g2⟩:=Kk h;exact⟨_,h.2.2.2,fun Z' k' hk=>⟨h0,g1 _ (g2 _ ⟨h.1,h.2.1,h.2.2.1,hk⟩)⟩⟩
 .simp only at *
  obtain⟨hh,h,g1⟩:=Kk h;obtain⟨l,h,g2⟩:=Kk h;exact⟨_,h.2.2.2,fun Z' k' hk=>g1 _ (g2 _ ⟨h.1,h.2.1,h.2.2.1,hk⟩)⟩
 .simp only at *
  obtain⟨hh,h,g1⟩:=Kk h;obtain⟨l,h,g2⟩:=Kk h;exact⟨_,h.2.2.2.2.2,fun Z' k' hk=>g1 _ (g2 _ ⟨h.1,h.2.1,h.2.2.1,h.2.2.2.1,trivial,hk⟩)⟩
def Q3 {sz:Nat} {y:V} {k:List (List V)->Prop} (h:rowsOf Z sz y k): ∃ys,k ys/\ ∀Z' (k':List (List V)->Prop),Sub Z Z'->k' ys->rowsOf Z' sz y k':=by
 unfold rowsOf at *;cases y<;>first|exact h.elim|skip
 .exact⟨_,h.2,fun _ _ _ hk=>⟨h.1,hk⟩⟩
 .rename_i m len cap
  simp only at *;cases hm:Z m with
  | none=>rw[hm]at h;exact h.elim
  | some o=>
    rw[hm]at h;cases o<;>first|exact h.elim|skip
    exact⟨_,h.2.2,fun Z' k' hs hk=>by rw[hs m _ hm];exact⟨h.1,h.2.1,hk⟩⟩
 .rename_i m s off len
  simp only at *;cases hm:Z m with
  | none=>rw[hm]at h;exact h.elim
  | some o=>
    rw[hm]at h;cases o<;>first|exact h.elim|skip
    exact⟨_,h.2.2.2,fun Z' k' hs hk=>by rw[hs m _ hm];exact⟨h.1,h.2.1,h.2.2.1,hk⟩⟩
def lN {x:V} {k:V->Prop} (h:nH Z x k): ∃v,k v/\ ∀Z' (k':V->Prop),Sub Z Z'->k' v->nH Z' x k':=by
 obtain⟨ys,h1,h2⟩:=Q3 h;cases hn:Jy ys with
 | none=>rw[hn]at h1;exact h1.elim
 | some ns=>
   rw[hn]at h1;exact⟨_,h1,fun Z' k' hs hk=>h2 Z' _ hs (by rw[hn];exact hk)⟩
def eW {b sz:Nat} {x y:V} {k:V->Prop} (h:AX b Z sz x y k): ∃v,k v/\ ∀Z' (k':V->Prop),Sub Z Z'->k' v->AX b Z' sz x y k':=by
 unfold AX at *;obtain⟨ys,⟨h1,h2⟩,h3⟩:=Q3 h;cases x<;>first|exact h2.elim|skip
 exact⟨_,h2.2.2.2,fun Z' k' hs hk=>h3 Z' _ hs ⟨h1,h2.1,h2.2.1,h2.2.2.1,hk⟩⟩
def Xn {ks:KS} {z:V} {ok:Bool} {vm vk:V} {k:V->Prop} (h:AM Z ks z ok vm vk k): ∃v,k v/\ ∀Z' (k':V->Prop),Sub Z Z'->k' v->AM Z' ks z ok vm vk k':=by
 unfold AM at *;obtain⟨h0,h⟩:=h;cases vm<;>first|exact h.elim|skip
 .rename_i n
  simp only at *;cases hn:Z n with
  | none=>rw[hn]at h;exact h.elim
  | some o=>
    rw[hn]at h;cases o<;>first|exact h.elim|skip
    exact⟨_,h.2,fun Z' k' hs hk=>⟨h0,by rw[hs n _ hn];exact⟨h.1,hk⟩⟩⟩
 .exact⟨_,h,fun Z' k' hs hk=>⟨h0,hk⟩⟩
inductive Kd where
 | P|N|A|AB|H
 deriving DecidableEq,Repr
def kd:H4->Kd
 | .load _ _=> .N
 | .cQ _=> .N
 | .str _=> .N
 | .YE _ _ _ _=> .N
 | .box _=> .A
 | .append _ _ x _=>match x with| .c (.l [] true)=> .A|_=> .H
 | .alloc _=> .AB
 | .slice _ _ _ _ mx=>match mx with|none=> .N|some _=> .H
 | .store _ _ _| .copy _ _ _| .Ht _ _ _ _| .panic _| .call _ _| .Py _ _| .jM _ _| .inv _ _ _| .Vh| .Kf _ _ _ _ _| .rj _ _ _| .yR _=> .H
 | .lookup _ _ _ _ _=> .N
 | _=> .P
def AAG {o:H4} (hk:kd o= .P): ∃AD:(V->Prop)->Prop,Ar AD/\ ∀Z (k kp:V->AE->Prop),GC P o env Z k kp=AD (fun v=>k v Z):=by
 cases o<;>first|(simp[kd]at hk;done)|skip
 case mv x=>exact⟨fun k=>wv (ev env x) k,Ar.wv fun v=>Ar.one v,fun _ _ _=>rfl⟩
 case pick c a b=>
  refine⟨fun k=>wv (ev env c) fun vc=>wv (ev env a) fun va=>wv (ev env b) fun vb=>match vc with| .b t=>(match va,vb with| .b x,.b y=>k (.b (bif t then x else y))|_,_=>k (bif t then va else vb))|_=>False,?_,fun _ _ _=>rfl⟩;refine Ar.wv fun vc=>Ar.wv fun va=>Ar.wv fun vb=>?_
  cases vc<;>first|exact Ar.no|skip
  cases va<;>first|exact Ar.one _|skip
  cases vb<;>exact Ar.one _
 case bin op x y=>exact⟨fun k=>wv (ev env x) fun vx=>wv (ev env y) fun vy=>cR op vx vy k,Ar.wv fun _=>Ar.wv fun _=>lr _ _ _,fun _ _ _=>rfl⟩
 case yW n x y=>
  refine⟨fun k=>wv (ev env x) fun vx=>wv (ev env y) fun vy=>match vx,vy with| .b p,.b q=>k (.b (bif n then p != q else p==q))|_,_=>False,?_,fun _ _ _=>rfl⟩;refine Ar.wv fun vx=>Ar.wv fun vy=>?_
  cases vx<;>cases vy<;>first|exact Ar.no|exact Ar.one _
 case yV q n x y=>
  refine⟨fun k=>wv (ev env x) fun vx=>wv (ev env y) fun vy=>X9 q n vx vy k,Ar.wv fun vx=>Ar.wv fun vy=>?_,fun _ _ _=>rfl⟩;unfold X9;cases vx<;>first|exact Ar.no|skip
  cases vy<;>first|exact Ar.no|skip
  simp only;split<;>first|exact Ar.no|exact Ar.one _
 case not x=>
  refine⟨fun k=>wv (ev env x) fun vx=>match vx with| .b p=>k (.b (!p))|_=>False,Ar.wv fun vx=>?_,fun _ _ _=>rfl⟩;cases vx<;>first|exact Ar.no|exact Ar.one _
 case neg xor x=>
  refine⟨fun k=>wv (ev env x) fun vx=>match vx with| .i ka a=>k (.i ka (bif xor then bits .xor ka (bif ka.signed then -1 else ka.max) a else ka.wrap (0 - a)))|_=>False,Ar.wv fun vx=>?_,fun _ _ _=>rfl⟩;cases vx<;>first|exact Ar.no|exact Ar.one _
 case conv ka x=>
  refine⟨fun k=>wv (ev env x) fun vx=>match vx with| .i _ a=>k (.i ka (ka.wrap a))|_=>False,Ar.wv fun vx=>?_,fun _ _ _=>rfl⟩;cases vx<;>first|exact Ar.no|exact Ar.one _
 case Tp x=>
  refine⟨fun k=>wv (ev env x) fun vx=>match cellsOf vx with|some cs=>k (.rp cs)|none=>False,Ar.wv fun vx=>?_,fun _ _ _=>rfl⟩;cases cellsOf vx<;>first|exact Ar.no|exact Ar.one _
 case build z ps=>exact⟨fun k=>ws (OT env z ps) fun cs=>k (.a cs),Ar.ws fun _=>Ar.one _,fun _ _ _=>rfl⟩
 case Nk sz len z ps=>exact⟨fun k=>wr (MO env z.length (List.replicate len z) ps) fun es=>k (.l es true),Ar.wr fun _=>Ar.one _,fun _ _ _=>rfl⟩
 case MP off x=>exact⟨fun k=>wv (ev env x) fun vx=>Nh off vx k,Ar.wv fun _=>ZP _ _,fun _ _ _=>rfl⟩
 case field agg off x=>
  refine⟨fun k=>wv (ev env x) fun vx=>match vx with| .a cs=>cut agg cs off k|_=>False,Ar.wv fun vx=>?_,fun _ _ _=>rfl⟩;cases vx<;>first|exact Ar.no|exact Me _ _ _
 case SS sz arr x i=>exact⟨fun k=>wv (ev env x) fun vx=>wv (ev env i) fun vi=>AQ sz arr vx vi k,Ar.wv fun _=>Ar.wv fun _=>ZO _ _ _ _,fun _ _ _=>rfl⟩
 case fU x i=>exact⟨fun k=>wv (ev env x) fun vx=>wv (ev env i) fun vi=>SQ vx vi k,Ar.wv fun _=>Ar.wv fun _=>eS _ _,fun _ _ _=>rfl⟩
 case index len sz agg x i=>exact⟨fun k=>wv (ev env x) fun vx=>wv (ev env i) fun vi=>Ng len sz agg vx vi k,Ar.wv fun _=>Ar.wv fun _=>ZN _ _ _ _ _,fun _ _ _=>rfl⟩
 case len x=>exact⟨fun k=>wv (ev env x) fun vx=>An vx k,Ar.wv fun _=>lq _,fun _ _ _=>rfl⟩
 case fe x y=>
  refine⟨fun k=>wv (ev env x) fun vx=>wv (ev env y) fun vy=>match vx,vy with| .i ka a,.i kb b=>ka=kb/\k (.i ka (if b > a then b else a))|_,_=>False,?_,fun _ _ _=>rfl⟩;refine Ar.wv fun vx=>Ar.wv fun vy=>?_
  cases vx<;>cases vy<;>first|exact Ar.no|exact(Ar.one _).and
 case fb x y=>
  refine⟨fun k=>wv (ev env x) fun vx=>wv (ev env y) fun vy=>match vx,vy with| .i ka a,.i kb b=>ka=kb/\k (.i ka (if b<a then b else a))|_,_=>False,?_,fun _ _ _=>rfl⟩;refine Ar.wv fun vx=>Ar.wv fun vy=>?_
  cases vx<;>cases vy<;>first|exact Ar.no|exact(Ar.one _).and
 case extract i x=>
  refine⟨fun k=>wv (ev env x) fun vx=>match vx with| .t vs=>(match vs[i]? with|some v=>k v|none=>False)|_=>False,Ar.wv fun vx=>?_,fun _ _ _=>rfl⟩;cases vx<;>first|exact Ar.no|skip
  rename_i vs;simp only;cases vs[i]? <;>first|exact Ar.no|exact Ar.one _
 case Pu x=>
  refine⟨fun k=>wv (ev env x) fun vx=>match vx with
   | .p n off=>k (.p n off)
   | .rp cs=>k (.rp cs)
   | .pe n sz i off=>k (.pe n sz i off)
   | .f (.func f) first cap=>k (.f (.func f) first cap)
   | .f (.yield l) first cap=>k (.f (.yield l) first cap)
   | _=>False,Ar.wv fun vx=>?_,fun _ _ _=>rfl⟩
  cases vx<;>first|exact Ar.no|exact Ar.one _|skip
  rename_i f a b;cases f<;>first|exact Ar.no|exact Ar.one _
 case ra f a b=>exact⟨fun k=>ws (Xy env a) fun vf=>ws (Xy env b) fun vc=>k (.f f vf vc),Ar.ws fun _=>Ar.ws fun _=>Ar.one _,fun _ _ _=>rfl⟩
 case Vi t x=>exact⟨fun k=>wv (ev env x) fun vx=>k (.ME t vx),Ar.wv fun _=>Ar.one _,fun _ _ _=>rfl⟩
 case rY t z ok x=>
  refine⟨fun k=>wv (ev env x) fun vx=>match vx with
   | .ME t' v=>(t'=t->k (bif ok then .t [v,.b true]else v))/\(t'≠t->ok=true/\k (.t [z,.b false]))
   | .K7=>ok=true/\k (.t [z,.b false])
   | _=>False,Ar.wv fun vx=>?_,fun _ _ _=>rfl⟩
  cases vx<;>first|exact Ar.no|exact(Ar.one _).and|skip
  rename_i t' v;simp only;by_cases ht:t'=t
  .simpa[ht]using Ar.one _
  .simpa[ht]using(Ar.one (.t [z,.b false])).and
 case SW f as=>
  refine⟨fun k=>ws (Xy env as) fun vs=> ∃v,As P f vs (fun _=>none) (fun r Z'=>r= .ret v/\Z'=fun _=>none)/\k v,Ar.ws fun vs=>?_,fun _ _ _=>rfl⟩;intro k ⟨v,h1,h2⟩;exact⟨v,h2,fun k' hk=>⟨v,h1,hk⟩⟩
 case slice s x a b c=>
  exfalso;simp only[kd]at hk;split at hk<;>cases hk
 case append a b x y=>
  exfalso;simp only[kd]at hk;split at hk<;>cases hk
 all_goals exact⟨fun _=>False,Ar.no,fun _ _ _=>rfl⟩
def still (o:H4):Bool:=match kd o with| .P=>true| .N=>true|_=>false
def Il {o : H4} (hs:still o=true) {k kp:V->AE->Prop} (h:GC P o env Z k kp) :
    ∃v,k v Z/\ ∀Z' (k' kp':V->AE->Prop),(kd o= .P\/Sub Z Z')->k' v Z'->GC P o env Z' k' kp':=by
 unfold still at hs;cases hk:kd o<;>rw[hk]at hs<;>first|(cases hs;done)|skip
 .obtain⟨AD,h1,h2⟩:=AAG (P:=P) (env:=env) hk
  rw[h2]at h;obtain⟨v,h3,h4⟩:=h1 _ h;exact⟨v,h3,fun Z' k' kp' _ hv=>by rw[h2];exact h4 _ hv⟩
 .cases o <;>first|(simp[kd]at hk;done)|skip
  case load agg x=>
   simp only[GC]at *;cases hx:ev env x with
   | none=>rw[hx]at h;exact h.elim
   | some vx=>
     rw[hx]at h;obtain⟨v,h3,h4⟩:=eT Z agg vx _ h;refine⟨v,h3,fun Z' k' kp' hs hv=>dk (hs.resolve_left (by simp)) (h4 _ hv)⟩
  case cQ x=>
   simp only[GC]at *;cases hx:ev env x with
   | none=>rw[hx]at h;exact h.elim
   | some vx=>
     rw[hx]at h
     try simp only[HX]at h ⊢
     obtain⟨v,h3,h4⟩:=eV Z vx _ h;refine⟨v,h3,fun Z' k' kp' hs hv=>dm (hs.resolve_left (by simp)) (h4 _ hv)⟩
  case str x=>
   simp only[GC]at *;cases hx:ev env x with
   | none=>rw[hx]at h;exact h.elim
   | some vx=>
     rw[hx]at h
     try simp only[HX]at h ⊢
     obtain⟨v,h3,h4⟩:=lN h;exact⟨v,h3,fun Z' k' kp' hs hv=>h4 _ _ (hs.resolve_left (by simp)) hv⟩
  case lookup ks z ok x y=>
   simp only[GC]at *;cases hx:ev env x with
   | none=>rw[hx]at h;exact h.elim
   | some vx=>
     rw[hx]at h
     try simp only[HX]at h ⊢
     cases hy:ev env y with
     | none=>rw[hy]at h;exact h.elim
     | some vy=>
       rw[hy]at h
       try simp only[HX]at h ⊢
       obtain⟨v,h1,h2⟩:=Xn h;exact⟨v,h1,fun Z' k' kp' hs hk'=>h2 Z' _ (hs.resolve_left (by simp)) hk'⟩
  case YE a b x y=>
   simp only[GC]at *;cases hx:ev env x with
   | none=>rw[hx]at h;exact h.elim
   | some vx=>
     rw[hx]at h
     try simp only[HX]at h ⊢
     cases hy:ev env y with
     | none=>rw[hy]at h;exact h.elim
     | some vy=>
       rw[hy]at h
       try simp only[HX]at h ⊢
       obtain⟨v,h1,h2⟩:=eW h;exact⟨v,h1,fun Z' k' kp' hs hk'=>h2 Z' _ (hs.resolve_left (by simp)) hk'⟩
  case slice s x a b c=>
   cases c with
   | some c=>simp[kd]at hk
   | none=>
     simp only[GC]at *;cases hx:ev env x with
     | none=>rw[hx]at h;exact h.elim
     | some vx=>
       rw[hx]at h
       try simp only[HX]at h ⊢
       cases ha:Jp env a with
       | none=>rw[ha]at h;exact h.elim
       | some va=>
         rw[ha]at h
         try simp only[Zz]at h ⊢
         cases hb:Jp env b with
         | none=>rw[hb]at h;exact h.elim
         | some vb=>
           rw[hb]at h;simp only[Zz,Jp]at h ⊢;obtain⟨v,h1,h2⟩:=ZM h;exact⟨v,h1,fun Z' k' kp' _ hk'=>h2 Z' k' hk'⟩
  case append a b x y=>
   exfalso;simp only[kd]at hk;split at hk<;>cases hk
end Go.Gl
namespace Go.Gl
variable {P:Program} {F:Nat->Prop} {Z:AE}
def HR (Z:AE) (D:Nat->Prop):AE:=fun n=>open Classical in if D n then Z n else none
def Da {D:Nat->Prop} {n:Nat} (h:D n):HR Z D n=Z n:=by unfold HR;rw[if_pos h]
def Dd {D:Nat->Prop} {n:Nat} (h: ¬D n):HR Z D n=none:=by unfold HR;rw[if_neg h]
def join (Z τ:AE):AE:=fun n=>match Z n with|some o=>some o|none=>τ n
def As.frame {f:FuncId} {args:List V} {Q:R->AE->Prop} (D:Nat->Prop) (h:As P f args (HR Z D) Q) :
    As P f args Z fun r Z'=> ∃Z1,Q r Z1/\(∀n,¬D n->Z n≠none->Z1 n=none)/\Z'=join Z1 (HR Z fun n=> ¬D n):=by
 refine⟨h.1,fun F w cs hR hv=>?_⟩
 have hH:(Hh (fun n=>F n\/(¬D n/\Z n≠none)) (HR Z D) w)=Hh F Z w:=by
  funext b o;unfold Hh;by_cases hb:F b\/(Z b).isSome=true
  .rw[if_pos hb,if_pos]
   rcases hb with hb|hb
   .exact .inl (.inl hb)
   .by_cases hd:D b
    .exact .inr (by rw[Da hd];exact hb)
    .exact .inl (.inr ⟨hd,by intro e;rw[e]at hb;cases hb⟩)
  .rw[if_neg hb,if_neg]
   rintro((h|h)|h)
   .exact hb (.inl h)
   .exact hb (.inr (by cases hs:Z b with|none=>exact absurd hs h.2|some o=>rfl))
   .by_cases hd:D b
    .rw[Da hd]at h;exact hb (.inr h)
    .rw[Dd hd]at h;cases h
 have hR1:Rel (fun n=>F n\/(¬D n/\Z n≠none)) (HR Z D) w:=by
  refine⟨fun n o ho=>?_,fun n hn=>?_⟩
  .by_cases hd:D n
   .rw[Da hd]at ho
    obtain⟨h1,ob,h2,h3⟩:=hR.own n o ho;refine⟨?_,ob,h2,by rw[hH];exact h3⟩;rintro(h|h)
    .exact h1 h
    .exact h.1 hd
   .rw[Dd hd]at ho;cases ho
  .rcases hn with hn|hn
   .exact hR.lock n hn
   .cases hs:Z n with
    | none=>exact absurd hs hn.2
    | some o=>exact hR.lt hs
 refine Calls.mono (h.2 _ w cs hR1 (by rw[hH];exact hv)) fun e w' ⟨r,Z1,hq,h1,h2,h3⟩=>?_
 have hfr: ∀n,¬D n->Z n≠none->Z1 n=none:=fun n hd hn=>by
  cases hs:Z1 n with
  | none=>rfl
  | some o=>exact absurd (.inr ⟨hd,hn⟩) (h2.own n o hs).1
 have hle:Zh (Hh (fun n=>F n\/(¬D n/\Z n≠none)) Z1 w') (Hh F (join Z1 (HR Z fun n=> ¬D n)) w'):=by
  intro b o c hc;obtain⟨k1,k2,k3⟩:=GU hc;rw[OW (fun h=>k1 (.inl h)) ?_]
  .exact k3
  .simp only[join,k2]
   by_cases hd:D b
   .exact Dd (fun h=>h hd)
   .rw[Da hd]
    cases hs:Z b with
    | none=>rfl
    | some o=>exact absurd (.inr ⟨hd,by rw[hs];simp⟩) k1
 have hA:B8 F Z w (join Z1 (HR Z fun n=> ¬D n)) w':=by
  refine⟨fun n hn h0=>h3.frame n hn ?_,h3.size,h3.os,h3.tape,h3.output,fun n h0 hn=>?_⟩
  .by_cases hd:D n
   .rw[Da hd];exact h0
   .exact Dd hd
  .have:Z1 n=none:=h3.names n (by
    by_cases hd:D n
    .rw[Da hd];exact h0
    .exact Dd hd) hn
   simp only[join,this];by_cases hd:D n
   .exact Dd (fun h=>h hd)
   .rw[Da hd];exact h0
 refine⟨r,_,⟨Z1,hq,hfr,rfl⟩,?_,⟨fun n o ho=>?_,fun n hn=>h2.lock n (.inl hn)⟩,hA⟩
 .cases r with
  | ret v=>obtain⟨c,rfl,hv⟩:=h1;exact⟨c,rfl,hv.mono hle⟩
  | C3 v=>obtain⟨c,rfl,hv⟩:=h1;exact⟨c,rfl,hv.mono hle⟩
 .simp only[join]at ho
  cases hs:Z1 n with
  | some o1=>
    rw[hs]at ho;simp only[Gh]at ho;subst ho;obtain⟨k1,ob,k2,k3⟩:=h2.own n _ hs;exact⟨fun h=>k1 (.inl h),ob,k2,k3.mono hle⟩
  | none=>
    rw[hs]at ho;simp only at ho;by_cases hd:D n
    .rw[Dd (fun h=>h hd)]at ho;cases ho
    .rw[Da hd]at ho
     obtain⟨k1,ob,k2,k3⟩:=hR.own n o ho;refine⟨k1,ob,(h3.frame n (hR.lt ho) (Dd hd)).trans k2,k3.mono ?_⟩;exact hA.hle
end Go.Gl
namespace Go.Gl
variable {P:Program} {F:Nat->Prop} {env env':Env} {Z:AE}
def Bt {o:Option V} {k k':V->Prop} (h:wv o k) (hm: ∀v,k v->k' v):wv o k':=by
 cases o with
 | none=>exact h
 | some v=>exact hm v h
def MT {o:Option (List V)} {k k':List V->Prop} (h:ws o k) (hm: ∀v,k v->k' v):ws o k':=by
 cases o with
 | none=>exact h
 | some v=>exact hm v h
def UH {o:Option (Option V)} {k k':Option V->Prop} (h:wo o k) (hm: ∀v,k v->k' v):wo o k':=by
 cases o with
 | none=>exact h
 | some v=>exact hm v h
def Xb {sz:Nat} {a x:V} {k k':AE->Prop} (h:AR Z sz a x k) (hm: ∀Z',k Z'->k' Z'):AR Z sz a x k':=by
 unfold AR at *;split at h
 .rename_i vc hc
  obtain⟨h1,h2,h3⟩:=h;refine⟨h1,h2,?_⟩;cases a<;>first|exact h3.elim|skip
  .simp only at *
   split at h3
   .exact⟨h3.1,hm _ h3.2⟩
   .exact h3.elim
  .simp only at *
   split at h3
   .refine⟨h3.1,?_⟩
    have h4:=h3.2;split at h4
    .exact⟨h4.1,hm _ h4.2⟩
    .exact h4.elim
   .exact h3.elim
 .exact h.elim
def Ez {sz:Nat} {y:V} {k k':List (List V)->Prop} (h:rowsOf Z sz y k) (hm: ∀v,k v->k' v):rowsOf Z sz y k':=by
 unfold rowsOf at *;cases y<;>first|exact h.elim|skip
 .exact⟨h.1,hm _ h.2⟩
 .simp only at *
  split at h
  .exact⟨h.1,h.2.1,hm _ h.2.2⟩
  .exact h.elim
 .simp only at *
  split at h
  .exact⟨h.1,h.2.1,h.2.2.1,hm _ h.2.2.2⟩
  .exact h.elim
def U1 {b sz:Nat} {x y:V} {k k':V->AE->Prop} (h:AL b Z sz x y k) (hm: ∀v Z',k v Z'->k' v Z'):AL b Z sz x y k':=by
 unfold AL at *;refine Ez h fun ys ⟨h1,h2⟩=>⟨h1,?_⟩
 cases x<;>first|exact h2.elim|skip
 .simp only at *
  exact⟨h2.1,h2.2.1,fun e=>hm _ _ (h2.2.2.1 e),fun e=>⟨(h2.2.2.2 e).1,fun n cap h3 h4=>hm _ _ ((h2.2.2.2 e).2 n cap h3 h4)⟩⟩
 .simp only at *
  split at h2
  .exact⟨h2.1,h2.2.1,h2.2.2.1,h2.2.2.2.1,fun n cap h3 h4=>hm _ _ (h2.2.2.2.2 n cap h3 h4)⟩
  .exact h2.elim
def IT {o:Option V} {d:Int} {k k':Int->Prop} (h:Ou o d k) (hm: ∀v,k v->k' v):Ou o d k':=by
 unfold Ou at *;split at h
 .exact hm _ h
 .exact hm _ h
 .exact h.elim
def Xd {sz:Nat} {x:V} {a b c:Option V} {k k':V->AE->Prop} (h:AP Z sz x a b c k) (hm: ∀v Z',k v Z'->k' v Z'):AP Z sz x a b c k':=by
 unfold AP at *;cases x<;>first|exact h.elim|skip
 .simp only at *
  refine⟨h.1,IT h.2 fun hh h2=>IT h2 fun l h3=>⟨h3.1,h3.2.1,h3.2.2.1,?_⟩⟩;have h4:=h3.2.2.2;split at h4
  .exact hm _ _ h4
  .exact⟨h4.1,hm _ _ h4.2⟩
  .exact h4.elim
 .simp only at *
  refine IT h fun hh h2=>IT h2 fun l h3=>⟨h3.1,h3.2.1,h3.2.2.1,?_⟩
  have h4:=h3.2.2.2;split at h4
  .exact hm _ _ h4
  .refine⟨h4.1,h4.2.1,h4.2.2.1,?_⟩
   have h5:=h4.2.2.2;split at h5
   .exact⟨h5.1,h5.2.1,h5.2.2.1,h5.2.2.2.elim (fun h=> .inl (hm _ _ h)) fun h=> .inr (hm _ _ h)⟩
   .exact h5.elim
  .exact h4.elim
 .simp only at *
  exact IT h fun hh h2=>IT h2 fun l h3=>⟨h3.1,h3.2.1,h3.2.2.1,h3.2.2.2.1,h3.2.2.2.2.1,hm _ _ h3.2.2.2.2.2⟩
def S2 {sz:Nat} {ys:List (List V)} {n off len:Nat} {k k':V->AE->Prop} (h:Tn Z sz ys n off len k) (hm: ∀v Z',k v Z'->k' v Z'):Tn Z sz ys n off len k':=by
 unfold Tn at *;split at h
 .exact⟨h.1,h.2.1,hm _ _ h.2.2⟩
 .exact h.elim
def Y8 {sz:Nat} {x y:V} {k k':V->AE->Prop} (h:AW Z sz x y k) (hm: ∀v Z',k v Z'->k' v Z'):AW Z sz x y k':=by
 refine Ez h fun ys h=>⟨h.1,?_⟩
 have h:=h.2;split at h
 .exact S2 h hm
 .exact⟨h.1,S2 h.2 hm⟩
 .exact h.elim
def Qq {o:H4} {k k' kp kp':V->AE->Prop} (h:GC P o env Z k kp) (hm: ∀v Z',k v Z'->k' v Z') (hp: ∀v Z',kp v Z'->kp' v Z'):GC P o env Z k' kp':=by
 by_cases hs:still o=true
 .obtain⟨v,h1,h2⟩:=Il hs h
  exact h2 Z k' kp' (.inr fun _ _ h=>h) (hm _ _ h1)
 .cases o<;>first|(exact absurd rfl hs)|skip
  all_goals simp only[GC]at *
  case box x=>
   refine Bt h fun v h=>?_
   split at h
   .exact fun n hn=>hm _ _ (h n hn)
   .exact h.elim
  case alloc z=>exact fun n hn=>hm _ _ (h n hn)
  case yR x=>exact Bt h fun v ⟨vf,Z2,h1,h2,h3⟩=>⟨vf,Z2,h1,h2,hm _ _ h3⟩
  case Vh=>exact fun n hn=>hm _ _ (h n hn)
  case Ht ks x y z=>
   refine Bt h fun vm h=>Bt h fun vk h=>Bt h fun vx h=>?_
   unfold AN at *;obtain⟨h0,h⟩:=h;cases vm<;>first|exact h.elim|skip
   simp only at *;split at h
   .exact⟨h0,h.1,hm _ _ h.2⟩
   .exact h.elim
  case rj q n x=>
   refine Bt h fun vx h=>?_
   unfold VL at *;split at h<;>first|exact h.elim|exact hm _ _ h|exact⟨fun e t=>hm _ _ (h.1 e t),fun e=>hm _ _ (h.2 e)⟩
  case Kf a b c x y=>
   refine Bt h fun vx h=>Bt h fun vy h=>?_
   unfold AK at *;split at h
   .exact⟨h.1,h.2.1,h.2.2.1,fun id hn=>hm _ _ (h.2.2.2 id hn)⟩
   .exact h.elim
  case store sz a x=>exact Bt h fun va h=>Bt h fun vx h=>Xb h fun Z' h=>hm _ _ h
  case slice sz x a b c=>exact Bt h fun vx h=>UH h fun l h=>UH h fun hh h=>UH h fun m h=>Xd h hm
  case append sz b x y=>exact Bt h fun vx h=>Bt h fun vy h=>U1 h hm
  case copy sz x y=>exact Bt h fun vx h=>Bt h fun vy h=>Y8 h hm
  case inv tab x as=>exact Bt h fun vx h=>MT h fun vs h=>h.mono fun r Z' h=>by cases r<;>first|exact hm _ _ h|exact hp _ _ h
  case panic x=>
   refine Bt h fun vx h=>?_
   split at h
   .exact hp _ _ h
   .exact h.elim
  case call f as=>exact MT h fun vs h=>h.mono fun r Z' h=>by cases r<;>first|exact hm _ _ h|exact hp _ _ h
  case Py x as=>
   exact Bt h fun vx h=>MT h fun vs h=>h.mono fun r Z' h=>by cases r<;>first|exact hm _ _ h|exact hp _ _ h
def HZ {n:Nat} {o:O} (hn:Z n=none):Sub Z (BZ Z n o):=fun m p hp=>by
 unfold BZ;split
 .rename_i e
  subst e;rw[hn]at hp;cases hp
 .exact hp
def calm (o:H4):Bool:=match kd o with| .H=>false|_=>true
def Og {b sz:Nat} {y:V} {k:V->AE->Prop}:AL b Z sz (.l [] true) y k=rowsOf Z sz y fun ys=>(∀e∈ys,∀v∈e,Dg v=true)/\(ys.length<=Ab/\ys.length*b<=140737488355328)/\(ys= []->k (.l [] true) Z)/\
 (ys≠[]-> ∀n cap,Z n=none->ys.length<=cap->k (.sl n ys.length cap) (BZ Z n (.arr sz ys cap))):=by
 simp[AL]
def OZ {s:Nat} {x:CG} {a b c:Option CG} (h:calm (.slice s x a b c)=true):still (.slice s x a b c)=true:=by
 cases c with
 | none=>rfl
 | some c=>cases h
def S1 {a b:Nat} {x y:CG} (h:kd (.append a b x y)≠ .H):x= .c (.l [] true):=by
 simp only[kd]at h;split at h
 .rfl
 .exact absurd rfl h
def b6 {o:H4} (hc:calm o=true) {k kp:V->AE->Prop} (h:GC P o env Z k kp):GC P o env Z (fun v Z'=>k v Z'/\Sub Z Z') kp:=by
 by_cases hs:still o=true
 .obtain⟨v,h1,h2⟩:=Il hs h
  exact h2 Z _ kp (.inr fun _ _ h=>h) ⟨h1,fun _ _ h=>h⟩
 .cases o<;>first|(exact absurd rfl hs)|(cases hc;done)|skip
  all_goals simp only[GC]at *
  case slice s x a b c=>exact absurd (OZ hc) hs
  case box x=>
   refine Bt h fun v h=>?_
   split at h
   .exact fun n hn=>⟨h n hn,HZ hn⟩
   .exact h.elim
  case alloc z=>exact fun n hn=>⟨h n hn,HZ hn⟩
  case append sz b x y=>
   have hx:x= .c (.l [] true):=S1 (b:=b) (a:=sz) (y:=y) (by intro e;simp[calm,e]at hc);subst hx;change wv (ev env y) _ at h;change wv (ev env y) _;refine Bt h fun vy h=>?_
   rw[Og]at *;exact Ez h fun ys h=>⟨h.1,h.2.1,fun e=>⟨h.2.2.1 e,fun _ _ h=>h⟩,fun e n cap h3 h4=>⟨h.2.2.2 e n cap h3 h4,HZ h3⟩⟩
def QH {n m:Nat} (h:n≠m) (a b:O):BZ (BZ Z n a) m b=BZ (BZ Z m b) n a:=by
 funext k;unfold BZ;by_cases h1:k=m
 .have h2:k≠n:=fun e=>h (e.symm.trans h1)
  rw[if_pos h1,if_neg h2,if_pos h1]
 .rw[if_neg h1,if_neg h1]
def Lc {n m:Nat} (h:n≠m) {a:O}:BZ Z n a m=Z m:=by
 unfold BZ;rw[if_neg (fun e=>h e.symm)]
def Nb {n:Nat} {a:O}:BZ Z n a n=some a:=by simp[BZ]
def Yr {Z':AE} (hs:Sub Z Z') {sz:Nat} {y:V} {k:List (List V)->Prop} (h:rowsOf Z sz y k):rowsOf Z' sz y k:=by
 unfold rowsOf at *;cases y<;>first|exact h.elim|exact h|skip
 .rename_i m len cap
  simp only at *;cases hm:Z m with
  | none=>rw[hm]at h;exact h.elim
  | some o=>rw[hm]at h;rw[hs m o hm];exact h
 .rename_i m s off len
  simp only at *;cases hm:Z m with
  | none=>rw[hm]at h;exact h.elim
  | some o=>rw[hm]at h;rw[hs m o hm];exact h
def XI {o:H4} (hc:calm o=true) {k kp:V->AE->Prop} (h:GC P o env Z k kp) {m:Nat} {z:O} (hm:Z m=none) :
    GC P o env (BZ Z m z) (fun v Z2=> ∃Z1,k v Z1/\Z1 m=none/\Z2=BZ Z1 m z) kp:=by
 by_cases hs:still o=true
 .obtain⟨v,h1,h2⟩:=Il hs h
  exact h2 _ _ kp (.inr (HZ hm)) ⟨Z,h1,hm,rfl⟩
 .have hne: ∀n,BZ Z m z n=none->Z n=none/\n≠m:=fun n hn=>by
   have:n≠m:=fun e=>by rw[e,Nb]at hn;cases hn
   exact⟨by rwa [Lc this.symm]at hn,this⟩
  cases o<;>first|(exact absurd rfl hs)|(cases hc;done)|skip
  all_goals simp only[GC]at *
  case slice s x a b c=>exact absurd (OZ hc) hs
  case box x=>
   refine Bt h fun v h=>?_
   split at h
   .exact fun n hn=>⟨_,h n (hne n hn).1,by rw[Lc (hne n hn).2];exact hm,QH (hne n hn).2.symm _ _⟩
   .exact h.elim
  case alloc z'=>exact fun n hn=>⟨_,h n (hne n hn).1,by rw[Lc (hne n hn).2];exact hm,QH (hne n hn).2.symm _ _⟩
  case append sz b x y=>
   have hx:x= .c (.l [] true):=S1 (b:=b) (a:=sz) (y:=y) (by intro e;simp[calm,e]at hc);subst hx;change wv (ev env y) _ at h;change wv (ev env y) _;refine Bt h fun vy h=>?_
   rw[Og]at *;refine Ez (Yr (HZ hm) h) fun ys h=>⟨h.1,h.2.1,fun e=>⟨Z,h.2.2.1 e,hm,rfl⟩,fun e n cap h3 h4=>?_⟩
   exact⟨_,h.2.2.2 e n cap (hne n h3).1 h4,by rw[Lc (hne n h3).2];exact hm,QH (hne n h3).2.symm _ _⟩
def YW:H4->Bool| .call _ _=>true|_=>false
def XJ {o:H4} (hc:YW o=true) {k kp:V->AE->Prop} (hU: ∀v Z m z,Z m=none->kp v Z->kp v (BZ Z m z)) (h:GC P o env Z k kp) {m:Nat} {z:O} (hm:Z m=none) :
    GC P o env (BZ Z m z) (fun v Z2=> ∃Z1,k v Z1/\Z1 m=none/\Z2=BZ Z1 m z) kp:=by
 cases o<;>first|(cases hc;done)|skip
 rename_i f args;simp only[GC]at *;refine MT h fun vs h=>?_
 have hr:HR (BZ Z m z) (fun n=>n≠m)=Z:=by
  funext n;by_cases hn:n=m
  .subst hn;rw[Dd (fun h=>h rfl),hm]
  .rw[Da hn];simp[BZ,hn]
 have h':As P f vs (HR (BZ Z m z) fun n=>n≠m) (qk k kp):=by rw[hr];exact h
 refine As.mono (As.frame (fun n=>n≠m) h') fun r Z' ⟨Z1,hq,hfr,he⟩=>?_
 have h1:Z1 m=none:=hfr m (fun h=>h rfl) (by rw[Nb];simp)
 have h2:Z'=BZ Z1 m z:=by
  rw[he];funext n;simp only[join];by_cases hn:n=m
  .subst hn
   rw[h1];simp only;rw[Da (fun h=>h rfl),Nb,Nb]
  .rw[Dd (fun h=>h hn)]
   cases hs:Z1 n with
   | none=>simp[BZ,hn,hs]
   | some o=>simp[BZ,hn,hs]
 cases r with
 | ret v=>exact⟨Z1,hq,h1,h2⟩
 | C3 v=>rw[h2];exact hU _ _ _ _ h1 hq
structure BD where
 dst:Option Nat
 op:H4
 guard:Option (Nat×Bool)
 deriving Inhabited
def put (d:Option Nat) (v:V) (env:Env):Env:=match d with|some d=>(d,v)::env|none=>env
def JY (P:Program) (o:BD) (env:Env) (Z:AE) (k kp:V->AE->Prop):Prop:=
 match o.guard with
 | none=>GC P o.op env Z k kp
 | some (g,b)=>match get g env with
   | some (.b t)=>(t=b->GC P o.op env Z k kp)/\(t= !b->k (.t []) Z)
   | some (.t [])=>k (.t []) Z
   | _=>False
def looks (o:BD):List Nat:=reads o.op++(match o.guard with|some (g,_)=>[g]|none=>[])
def Gf {o:BD} {k kp:V->AE->Prop} (h: ∀s∈looks o,get s env'=get s env):JY P o env' Z k kp=JY P o env Z k kp:=by
 unfold JY;unfold looks at h;cases hg:o.guard with
 | none=>exact TW fun s hs=>h s (NS _ hs)
 | some p=>
   obtain⟨g,b⟩:=p;simp only;rw[h g (by rw[hg];simp),TW fun s hs=>h s (NS _ hs)]
def CD {o:BD} {k k' kp kp':V->AE->Prop} (h:JY P o env Z k kp) (hm: ∀v Z',k v Z'->k' v Z') (hp: ∀v Z',kp v Z'->kp' v Z'):JY P o env Z k' kp':=by
 unfold JY at *;split at h
 .exact Qq h hm hp
 .split at h
  .exact⟨fun e=>Qq (h.1 e) hm hp,fun e=>hm _ _ (h.2 e)⟩
  .exact hm _ _ h
  .exact h.elim
def TX {o:BD} (hs:still o.op=true) {k kp:V->AE->Prop} (h:JY P o env Z k kp) :
    ∃v,k v Z/\ ∀Z' (k' kp':V->AE->Prop),(kd o.op= .P\/Sub Z Z')->k' v Z'->JY P o env Z' k' kp':=by
 unfold JY at *;split at h
 .obtain⟨v,h1,h2⟩:=Il hs h
  exact⟨v,h1,fun Z' k' kp' hσ hk=>h2 Z' k' kp' hσ hk⟩
 .rename_i g b hg
  split at h
  .rename_i t ht
   skip
   by_cases htb:t=b
   .obtain⟨v,h1,h2⟩:=Il hs (h.1 htb)
    refine⟨v,h1,fun Z' k' kp' hσ hk=>?_⟩;exact⟨fun _=>h2 Z' k' kp' hσ hk,fun e=>absurd (htb.symm.trans e) (by cases b<;>simp)⟩
   .refine⟨.t [],h.2 (by cases t<;>cases b<;>simp_all),fun Z' k' kp' hσ hk=>?_⟩
    exact⟨fun e=>absurd e htb,fun _=>hk⟩
  .exact⟨.t [],h,fun Z' k' kp' hσ hk=>hk⟩
  .exact h.elim
def b7 {o:BD} (hc:calm o.op=true) {k kp:V->AE->Prop} (h:JY P o env Z k kp):JY P o env Z (fun v Z'=>k v Z'/\Sub Z Z') kp:=by
 unfold JY at *;split at h
 .exact b6 hc h
 .split at h
  .exact⟨fun e=>b6 hc (h.1 e),fun e=>⟨h.2 e,fun _ _ h=>h⟩⟩
  .exact⟨h,fun _ _ h=>h⟩
  .exact h.elim
def mV {o:BD} (hc:calm o.op=true) {k kp:V->AE->Prop} (h:JY P o env Z k kp) {m:Nat} {z:O} (hm:Z m=none) :
    JY P o env (BZ Z m z) (fun v Z2=> ∃Z1,k v Z1/\Z1 m=none/\Z2=BZ Z1 m z) kp:=by
 unfold JY at *;split at h
 .exact XI hc h hm
 .split at h
  .exact⟨fun e=>XI hc (h.1 e) hm,fun e=>⟨Z,h.2 e,hm,rfl⟩⟩
  .exact⟨Z,h,hm,rfl⟩
  .exact h.elim
def Zj (o:H4):Bool:=calm o||YW o
def e8 {o:BD} (hc:Zj o.op=true) {k kp:V->AE->Prop} (hU: ∀v Z m z,Z m=none->kp v Z->kp v (BZ Z m z)) (h:JY P o env Z k kp) {m:Nat} {z:O} (hm:Z m=none) :
    JY P o env (BZ Z m z) (fun v Z2=> ∃Z1,k v Z1/\Z1 m=none/\Z2=BZ Z1 m z) kp:=by
 cases hc':calm o.op with
 | true=>exact mV hc' h hm
 | false=>
   have hc2:YW o.op=true:=by simpa[Zj,hc']using hc
   unfold JY at *;split at h
   .exact XJ hc2 hU h hm
   .split at h
    .exact⟨fun e=>XJ hc2 hU (h.1 e) hm,fun e=>⟨Z,h.2 e,hm,rfl⟩⟩
    .exact⟨Z,h,hm,rfl⟩
    .exact h.elim
end Go.Gl
