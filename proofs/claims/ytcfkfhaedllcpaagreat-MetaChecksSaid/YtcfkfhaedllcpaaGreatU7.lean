import Derived.Test.YtcfkfhaedllcpaaGreatU6
set_option linter.all false
set_option linter.defProp false
set_option maxHeartbeats 8000000
noncomputable section
namespace Go.Gl
variable {P:Program} {F:Nat->Prop} {env env':Env} {Z:AE}
def Ac (AD:(V->Prop)->Prop):Prop:= ∀k,AD k-> ∃v,k v/\ ∀k':V->Prop,k' v->AD k'
def Ac.one (v:V):Ac fun k=>k v:=fun _ h=>⟨v,h,fun _ h=>h⟩
def Ac.no:Ac fun _=>False:=fun _ h=>h.elim
def Ac.and {p:Prop} {AD:(V->Prop)->Prop} (h:Ac AD):Ac fun k=>p/\AD k:=fun k ⟨hp,hF⟩=>let⟨v,h1,h2⟩:=h k hF;⟨v,h1,fun k' hk=>⟨hp,h2 k' hk⟩⟩
def Ac.wv {o:Option V} {AD:V->(V->Prop)->Prop} (h: ∀v,Ac (AD v)):Ac fun k=>wv o fun v=>AD v k:=by
 cases o with
 | none=>exact Ac.no
 | some v=>exact h v
def Ac.ws {o:Option (List V)} {AD:List V->(V->Prop)->Prop} (h: ∀v,Ac (AD v)):Ac fun k=>ws o fun v=>AD v k:=by
 cases o with
 | none=>exact Ac.no
 | some v=>exact h v
def Ac.wr {o:Option (List (List V))} {AD:List (List V)->(V->Prop)->Prop} (h: ∀v,Ac (AD v)):Ac fun k=>wr o fun v=>AD v k:=by
 cases o with
 | none=>exact Ac.no
 | some v=>exact h v
def Ac.wo {o:Option (Option V)} {AD:Option V->(V->Prop)->Prop} (h: ∀v,Ac (AD v)):Ac fun k=>wo o fun v=>AD v k:=by
 cases o with
 | none=>exact Ac.no
 | some v=>exact h v
def XG (op:BinOp) (x y:V):Ac (Ox op x y):=by
 unfold Ox;cases x<;>cases y<;>first|exact Ac.no|skip
 cases op<;>simp only<;>first|exact(Ac.one _).and|exact(Ac.one _).and.and
def Ij (agg:Option Nat) (cs:List V) (off:Nat):Ac (cut agg cs off):=by
 unfold cut;cases agg with
 | none=>cases cs[off]? with
   | none=>exact Ac.no
   | some v=>exact Ac.one _
 | some n=>exact(Ac.one _).and
def UZ (Z:AE) (agg:Option Nat) (x:V):Ac (Af Z agg x):=by
 unfold Af K4 K5;cases x<;>first|exact Ac.no|skip
 case p n off=>
  simp only;cases Z n with
  | none=>exact Ac.no
  | some o=>cases o<;>first|exact Ac.no|exact Ij _ _ _
 case rp cs=>exact Ij _ _ _
 case pe n sz i off=>
  simp only;cases Z n with
  | none=>exact Ac.no
  | some o=>
    cases o<;>first|exact Ac.no|skip
    simp only;refine Ac.and ?_;rename_i es _;cases es[i]? with
    | none=>exact Ac.no
    | some e=>exact Ij _ _ _
def T9 {Z Z':AE} (hs:Sub Z Z') {agg:Option Nat} {x:V} {k:V->Prop} (h:Af Z agg x k):Af Z' agg x k:=by
 unfold Af K4 K5 at *;cases x<;>first|exact h|skip
 case p n off=>
  simp only at *;cases hn:Z n with
  | none=>rw[hn]at h;exact h.elim
  | some o=>rw[hs n o hn];rw[hn]at h;exact h
 case pe n sz i off=>
  simp only at *;cases hn:Z n with
  | none=>rw[hn]at h;exact h.elim
  | some o=>rw[hs n o hn];rw[hn]at h;exact h
def R2 (off:Nat) (x:V):Ac (Hs off x):=by
 unfold Hs;cases x<;>first|exact Ac.no|exact Ac.one _
def R1 (sz:Nat) (arr:Option Nat) (x i:V):Ac (AS sz arr x i):=by
 unfold AS;cases i<;>first|exact Ac.no|skip
 cases arr<;>cases x<;>first|exact Ac.no|exact(Ac.one _).and.and|exact(Ac.one _).and.and.and|skip
 intro k ⟨h0,e,h1,h2,h3⟩;exact⟨_,h3,fun k' hk=>⟨h0,e,h1,h2,hk⟩⟩
def R0 (len sz:Nat) (agg:Option Nat) (x i:V):Ac (Hr len sz agg x i):=by
 unfold Hr;cases x<;>first|exact Ac.no|skip
 cases i<;>first|exact Ac.no|skip
 exact(Ij _ _ _).and.and
def UY (x i:V):Ac (K6 x i):=by
 unfold K6;cases x<;>first|exact Ac.no|skip
 cases i<;>first|exact Ac.no|skip
 refine Ac.and ?_;rename_i b _ j;cases b.data.toList[j.toNat]? with
 | none=>exact Ac.no
 | some c=>exact Ac.one _
def XF (x:V):Ac (BK x):=by
 unfold BK;cases x<;>first|exact Ac.no|exact Ac.one _|exact(Ac.one _).and
def Ua (Z:AE) (x:V):Ac (Hc Z x):=by
 unfold Hc;cases x<;>first|exact Ac.no|exact Ac.one _|skip
 case m n=>
  simp only;cases Z n with
  | none=>exact Ac.no
  | some o=>cases o<;>first|exact Ac.no|exact(Ac.one _).and
def UA {Z Z':AE} (hs:Sub Z Z') {x:V} {k:V->Prop} (h:Hc Z x k):Hc Z' x k:=by
 unfold Hc at *;cases x<;>first|exact h|skip
 case m n=>
  simp only at *;cases hn:Z n with
  | none=>rw[hn]at h;exact h.elim
  | some o=>rw[hs n o hn];rw[hn]at h;exact h
def G9 {o:Option V} {d:Int} {k:Int->Prop} (h:MC o d k): ∃v,k v/\ ∀k':Int->Prop,k' v->MC o d k':=by
 unfold MC at *;split at h
 .exact⟨_,h,fun _ h=>h⟩
 .exact⟨_,h,fun _ h=>h⟩
 .exact h.elim
def Rz {sz:Nat} {x:V} {a b:Option V} {k:V->AE->Prop} (h:AU Z sz x a b none k): ∃v,k v Z/\ ∀Z' (k':V->AE->Prop),k' v Z'->AU Z' sz x a b none k':=by
 unfold AU at *;cases x<;>first|exact h.elim|skip
 .simp only at *
  obtain⟨h0,h⟩:=h;obtain⟨hh,h,g1⟩:=G9 h;obtain⟨l,h,g2⟩:=G9 h;exact⟨_,h.2.2.2,fun Z' k' hk=>⟨h0,g1 _ (g2 _ ⟨h.1,h.2.1,h.2.2.1,hk⟩)⟩⟩
 .simp only at *
  obtain⟨hh,h,g1⟩:=G9 h;obtain⟨l,h,g2⟩:=G9 h;exact⟨_,h.2.2.2,fun Z' k' hk=>g1 _ (g2 _ ⟨h.1,h.2.1,h.2.2.1,hk⟩)⟩
 .simp only at *
  obtain⟨hh,h,g1⟩:=G9 h;obtain⟨l,h,g2⟩:=G9 h;exact⟨_,h.2.2.2.2.2,fun Z' k' hk=>g1 _ (g2 _ ⟨h.1,h.2.1,h.2.2.1,h.2.2.2.1,trivial,hk⟩)⟩
def Lm {sz:Nat} {y:V} {k:List (List V)->Prop} (h:rowsOf Z sz y k): ∃ys,k ys/\ ∀Z' (k':List (List V)->Prop),Sub Z Z'->k' ys->rowsOf Z' sz y k':=by
 unfold rowsOf at *;cases y<;>first|exact h.elim|skip
 .exact⟨_,h.2,fun _ _ _ hk=>⟨h.1,hk⟩⟩
 .rename_i m len cap
  simp only at *;cases hm:Z m with
  | none=>rw[hm]at h;exact h.elim
  | some o=>
    rw[hm]at h;cases o<;>first|exact h.elim|skip
    exact⟨_,h.2.2,fun Z' k' hs hk=>by rw[hs m _ hm];exact⟨h.1,h.2.1,hk⟩⟩
 .rename_i m s off len
  simp only at *;cases hm:Z m with
  | none=>rw[hm]at h;exact h.elim
  | some o=>
    rw[hm]at h;cases o<;>first|exact h.elim|skip
    exact⟨_,h.2.2.2,fun Z' k' hs hk=>by rw[hs m _ hm];exact⟨h.1,h.2.1,h.2.2.1,hk⟩⟩
def Wz {x:V} {k:V->Prop} (h:VA Z x k): ∃v,k v/\ ∀Z' (k':V->Prop),Sub Z Z'->k' v->VA Z' x k':=by
 obtain⟨ys,h1,h2⟩:=Lm h;cases hn:Dp ys with
 | none=>rw[hn]at h1;exact h1.elim
 | some ns=>
   rw[hn]at h1;exact⟨_,h1,fun Z' k' hs hk=>h2 Z' _ hs (by rw[hn];exact hk)⟩
def Ub {b sz:Nat} {x y:V} {k:V->Prop} (h:Ao b Z sz x y k): ∃v,k v/\ ∀Z' (k':V->Prop),Sub Z Z'->k' v->Ao b Z' sz x y k':=by
 unfold Ao at *;obtain⟨ys,⟨h1,h2⟩,h3⟩:=Lm h;cases x<;>first|exact h2.elim|skip
 exact⟨_,h2.2.2.2,fun Z' k' hs hk=>h3 Z' _ hs ⟨h1,h2.1,h2.2.1,h2.2.2.1,hk⟩⟩
def Qb {ks:KS} {z:V} {ok:Bool} {vm vk:V} {k:V->Prop} (h:AP Z ks z ok vm vk k): ∃v,k v/\ ∀Z' (k':V->Prop),Sub Z Z'->k' v->AP Z' ks z ok vm vk k':=by
 unfold AP at *;obtain⟨h0,h⟩:=h;cases vm<;>first|exact h.elim|skip
 .rename_i n
  simp only at *;cases hn:Z n with
  | none=>rw[hn]at h;exact h.elim
  | some o=>
    rw[hn]at h;cases o<;>first|exact h.elim|skip
    exact⟨_,h.2,fun Z' k' hs hk=>⟨h0,by rw[hs n _ hn];exact⟨h.1,hk⟩⟩⟩
 .exact⟨_,h,fun Z' k' hs hk=>⟨h0,hk⟩⟩
inductive Kd where
 | P|N|A|AA|H
 deriving DecidableEq,Repr
def kd:EM->Kd
 | .load _ _=> .N
 | .Nf _=> .N
 | .str _=> .N
 | .MR _ _ _ _=> .N
 | .box _=> .A
 | .append _ _ x _=>match x with| .c (.l [] true)=> .A|_=> .H
 | .alloc _=> .AA
 | .slice _ _ _ _ mx=>match mx with|none=> .N|some _=> .H
 | .store _ _ _| .copy _ _ _| .EI _ _ _ _| .panic _| .call _ _| .GS _ _| .RB _ _| .inv _ _ _| .J2| .EU _ _ _ _ _| .TU _ _ _| .Xi _=> .H
 | .lookup _ _ _ _ _=> .N
 | _=> .P
def iF {o:EM} (hk:kd o= .P): ∃AD:(V->Prop)->Prop,Ac AD/\ ∀Z (k kp:V->AE->Prop),Dy P o env Z k kp=AD (fun v=>k v Z):=by
 cases o<;>first|(simp[kd]at hk;done)|skip
 case mv x=>exact⟨fun k=>wv (ev env x) k,Ac.wv fun v=>Ac.one v,fun _ _ _=>rfl⟩
 case pick c a b=>
  refine⟨fun k=>wv (ev env c) fun vc=>wv (ev env a) fun va=>wv (ev env b) fun vb=>match vc with| .b t=>(match va,vb with| .b x,.b y=>k (.b (bif t then x else y))|_,_=>k (bif t then va else vb))|_=>False,?_,fun _ _ _=>rfl⟩;refine Ac.wv fun vc=>Ac.wv fun va=>Ac.wv fun vb=>?_
  cases vc<;>first|exact Ac.no|skip
  cases va<;>first|exact Ac.one _|skip
  cases vb<;>exact Ac.one _
 case bin op x y=>exact⟨fun k=>wv (ev env x) fun vx=>wv (ev env y) fun vy=>Ox op vx vy k,Ac.wv fun _=>Ac.wv fun _=>XG _ _ _,fun _ _ _=>rfl⟩
 case Xm n x y=>
  refine⟨fun k=>wv (ev env x) fun vx=>wv (ev env y) fun vy=>match vx,vy with| .b p,.b q=>k (.b (bif n then p != q else p==q))|_,_=>False,?_,fun _ _ _=>rfl⟩;refine Ac.wv fun vx=>Ac.wv fun vy=>?_
  cases vx<;>cases vy<;>first|exact Ac.no|exact Ac.one _
 case Oo q n x y=>
  refine⟨fun k=>wv (ev env x) fun vx=>wv (ev env y) fun vy=>Ng q n vx vy k,Ac.wv fun vx=>Ac.wv fun vy=>?_,fun _ _ _=>rfl⟩;unfold Ng;cases vx<;>first|exact Ac.no|skip
  cases vy<;>first|exact Ac.no|skip
  simp only;split<;>first|exact Ac.no|exact Ac.one _
 case not x=>
  refine⟨fun k=>wv (ev env x) fun vx=>match vx with| .b p=>k (.b (!p))|_=>False,Ac.wv fun vx=>?_,fun _ _ _=>rfl⟩;cases vx<;>first|exact Ac.no|exact Ac.one _
 case neg xor x=>
  refine⟨fun k=>wv (ev env x) fun vx=>match vx with| .i ka a=>k (.i ka (bif xor then bits .xor ka (bif ka.signed then -1 else ka.max) a else ka.wrap (0 - a)))|_=>False,Ac.wv fun vx=>?_,fun _ _ _=>rfl⟩;cases vx<;>first|exact Ac.no|exact Ac.one _
 case conv ka x=>
  refine⟨fun k=>wv (ev env x) fun vx=>match vx with| .i _ a=>k (.i ka (ka.wrap a))|_=>False,Ac.wv fun vx=>?_,fun _ _ _=>rfl⟩;cases vx<;>first|exact Ac.no|exact Ac.one _
 case K2 x=>
  refine⟨fun k=>wv (ev env x) fun vx=>match cellsOf vx with|some cs=>k (.rp cs)|none=>False,Ac.wv fun vx=>?_,fun _ _ _=>rfl⟩;cases cellsOf vx<;>first|exact Ac.no|exact Ac.one _
 case build z ps=>exact⟨fun k=>ws (He env z ps) fun cs=>k (.a cs),Ac.ws fun _=>Ac.one _,fun _ _ _=>rfl⟩
 case Cr sz len z ps=>exact⟨fun k=>wr (Gn env z.length (List.replicate len z) ps) fun es=>k (.l es true),Ac.wr fun _=>Ac.one _,fun _ _ _=>rfl⟩
 case BE off x=>exact⟨fun k=>wv (ev env x) fun vx=>Hs off vx k,Ac.wv fun _=>R2 _ _,fun _ _ _=>rfl⟩
 case field agg off x=>
  refine⟨fun k=>wv (ev env x) fun vx=>match vx with| .a cs=>cut agg cs off k|_=>False,Ac.wv fun vx=>?_,fun _ _ _=>rfl⟩;cases vx<;>first|exact Ac.no|exact Ij _ _ _
 case Eg sz arr x i=>exact⟨fun k=>wv (ev env x) fun vx=>wv (ev env i) fun vi=>AS sz arr vx vi k,Ac.wv fun _=>Ac.wv fun _=>R1 _ _ _ _,fun _ _ _=>rfl⟩
 case Oq x i=>exact⟨fun k=>wv (ev env x) fun vx=>wv (ev env i) fun vi=>K6 vx vi k,Ac.wv fun _=>Ac.wv fun _=>UY _ _,fun _ _ _=>rfl⟩
 case index len sz agg x i=>exact⟨fun k=>wv (ev env x) fun vx=>wv (ev env i) fun vi=>Hr len sz agg vx vi k,Ac.wv fun _=>Ac.wv fun _=>R0 _ _ _ _ _,fun _ _ _=>rfl⟩
 case len x=>exact⟨fun k=>wv (ev env x) fun vx=>BK vx k,Ac.wv fun _=>XF _,fun _ _ _=>rfl⟩
 case Ou x y=>
  refine⟨fun k=>wv (ev env x) fun vx=>wv (ev env y) fun vy=>match vx,vy with| .i ka a,.i kb b=>ka=kb/\k (.i ka (if b > a then b else a))|_,_=>False,?_,fun _ _ _=>rfl⟩;refine Ac.wv fun vx=>Ac.wv fun vy=>?_
  cases vx<;>cases vy<;>first|exact Ac.no|exact(Ac.one _).and
 case Ot x y=>
  refine⟨fun k=>wv (ev env x) fun vx=>wv (ev env y) fun vy=>match vx,vy with| .i ka a,.i kb b=>ka=kb/\k (.i ka (if b<a then b else a))|_,_=>False,?_,fun _ _ _=>rfl⟩;refine Ac.wv fun vx=>Ac.wv fun vy=>?_
  cases vx<;>cases vy<;>first|exact Ac.no|exact(Ac.one _).and
 case extract i x=>
  refine⟨fun k=>wv (ev env x) fun vx=>match vx with| .t vs=>(match vs[i]? with|some v=>k v|none=>False)|_=>False,Ac.wv fun vx=>?_,fun _ _ _=>rfl⟩;cases vx<;>first|exact Ac.no|skip
  rename_i vs;simp only;cases vs[i]? <;>first|exact Ac.no|exact Ac.one _
 case Di x=>
  refine⟨fun k=>wv (ev env x) fun vx=>match vx with
   | .p n off=>k (.p n off)
   | .rp cs=>k (.rp cs)
   | .pe n sz i off=>k (.pe n sz i off)
   | .f (.func f) first cap=>k (.f (.func f) first cap)
   | .f (.yield l) first cap=>k (.f (.yield l) first cap)
   | _=>False,Ac.wv fun vx=>?_,fun _ _ _=>rfl⟩
  cases vx<;>first|exact Ac.no|exact Ac.one _|skip
  rename_i f a b;cases f<;>first|exact Ac.no|exact Ac.one _
 case TR f a b=>exact⟨fun k=>ws (Oh env a) fun vf=>ws (Oh env b) fun vc=>k (.f f vf vc),Ac.ws fun _=>Ac.ws fun _=>Ac.one _,fun _ _ _=>rfl⟩
 case J3 t x=>exact⟨fun k=>wv (ev env x) fun vx=>k (.De t vx),Ac.wv fun _=>Ac.one _,fun _ _ _=>rfl⟩
 case Un t z ok x=>
  refine⟨fun k=>wv (ev env x) fun vx=>match vx with
   | .De t' v=>(t'=t->k (bif ok then .t [v,.b true]else v))/\(t'≠t->ok=true/\k (.t [z,.b false]))
   | .C0=>ok=true/\k (.t [z,.b false])
   | _=>False,Ac.wv fun vx=>?_,fun _ _ _=>rfl⟩
  cases vx<;>first|exact Ac.no|exact(Ac.one _).and|skip
  rename_i t' v;simp only;by_cases ht:t'=t
  .simpa[ht]using Ac.one _
  .simpa[ht]using(Ac.one (.t [z,.b false])).and
 case Fa f as=>
  refine⟨fun k=>ws (Oh env as) fun vs=> ∃v,BD P f vs (fun _=>none) (fun r Z'=>r= .ret v/\Z'=fun _=>none)/\k v,Ac.ws fun vs=>?_,fun _ _ _=>rfl⟩;intro k ⟨v,h1,h2⟩;exact⟨v,h2,fun k' hk=>⟨v,h1,hk⟩⟩
 case slice s x a b c=>
  exfalso;simp only[kd]at hk;split at hk<;>cases hk
 case append a b x y=>
  exfalso;simp only[kd]at hk;split at hk<;>cases hk
 all_goals exact⟨fun _=>False,Ac.no,fun _ _ _=>rfl⟩
def still (o:EM):Bool:=match kd o with| .P=>true| .N=>true|_=>false
def Fs {o : EM} (hs:still o=true) {k kp:V->AE->Prop} (h:Dy P o env Z k kp) :
    ∃v,k v Z/\ ∀Z' (k' kp':V->AE->Prop),(kd o= .P\/Sub Z Z')->k' v Z'->Dy P o env Z' k' kp':=by
 unfold still at hs;cases hk:kd o<;>rw[hk]at hs<;>first|(cases hs;done)|skip
 .obtain⟨AD,h1,h2⟩:=iF (P:=P) (env:=env) hk
  rw[h2]at h;obtain⟨v,h3,h4⟩:=h1 _ h;exact⟨v,h3,fun Z' k' kp' _ hv=>by rw[h2];exact h4 _ hv⟩
 .cases o <;>first|(simp[kd]at hk;done)|skip
  case load agg x=>
   simp only[Dy]at *;cases hx:ev env x with
   | none=>rw[hx]at h;exact h.elim
   | some vx=>
     rw[hx]at h;obtain⟨v,h3,h4⟩:=UZ Z agg vx _ h;refine⟨v,h3,fun Z' k' kp' hs hv=>T9 (hs.resolve_left (by simp)) (h4 _ hv)⟩
  case Nf x=>
   simp only[Dy]at *;cases hx:ev env x with
   | none=>rw[hx]at h;exact h.elim
   | some vx=>
     rw[hx]at h
     try simp only[DW]at h ⊢
     obtain⟨v,h3,h4⟩:=Ua Z vx _ h;refine⟨v,h3,fun Z' k' kp' hs hv=>UA (hs.resolve_left (by simp)) (h4 _ hv)⟩
  case str x=>
   simp only[Dy]at *;cases hx:ev env x with
   | none=>rw[hx]at h;exact h.elim
   | some vx=>
     rw[hx]at h
     try simp only[DW]at h ⊢
     obtain⟨v,h3,h4⟩:=Wz h;exact⟨v,h3,fun Z' k' kp' hs hv=>h4 _ _ (hs.resolve_left (by simp)) hv⟩
  case lookup ks z ok x y=>
   simp only[Dy]at *;cases hx:ev env x with
   | none=>rw[hx]at h;exact h.elim
   | some vx=>
     rw[hx]at h
     try simp only[DW]at h ⊢
     cases hy:ev env y with
     | none=>rw[hy]at h;exact h.elim
     | some vy=>
       rw[hy]at h
       try simp only[DW]at h ⊢
       obtain⟨v,h1,h2⟩:=Qb h;exact⟨v,h1,fun Z' k' kp' hs hk'=>h2 Z' _ (hs.resolve_left (by simp)) hk'⟩
  case MR a b x y=>
   simp only[Dy]at *;cases hx:ev env x with
   | none=>rw[hx]at h;exact h.elim
   | some vx=>
     rw[hx]at h
     try simp only[DW]at h ⊢
     cases hy:ev env y with
     | none=>rw[hy]at h;exact h.elim
     | some vy=>
       rw[hy]at h
       try simp only[DW]at h ⊢
       obtain⟨v,h1,h2⟩:=Ub h;exact⟨v,h1,fun Z' k' kp' hs hk'=>h2 Z' _ (hs.resolve_left (by simp)) hk'⟩
  case slice s x a b c=>
   cases c with
   | some c=>simp[kd]at hk
   | none=>
     simp only[Dy]at *;cases hx:ev env x with
     | none=>rw[hx]at h;exact h.elim
     | some vx=>
       rw[hx]at h
       try simp only[DW]at h ⊢
       cases ha:FX env a with
       | none=>rw[ha]at h;exact h.elim
       | some va=>
         rw[ha]at h
         try simp only[SV]at h ⊢
         cases hb:FX env b with
         | none=>rw[hb]at h;exact h.elim
         | some vb=>
           rw[hb]at h;simp only[SV,FX]at h ⊢;obtain⟨v,h1,h2⟩:=Rz h;exact⟨v,h1,fun Z' k' kp' _ hk'=>h2 Z' k' hk'⟩
  case append a b x y=>
   exfalso;simp only[kd]at hk;split at hk<;>cases hk
end Go.Gl
namespace Go.Gl
variable {P:Program} {F:Nat->Prop} {Z:AE}
def Ey (Z:AE) (D:Nat->Prop):AE:=fun n=>open Classical in if D n then Z n else none
def CZ {D:Nat->Prop} {n:Nat} (h:D n):Ey Z D n=Z n:=by unfold Ey;rw[if_pos h]
def Cf {D:Nat->Prop} {n:Nat} (h: ¬D n):Ey Z D n=none:=by unfold Ey;rw[if_neg h]
def join (Z τ:AE):AE:=fun n=>match Z n with|some o=>some o|none=>τ n
def BD.frame {f:FuncId} {args:List V} {Q:R->AE->Prop} (D:Nat->Prop) (h:BD P f args (Ey Z D) Q) :
    BD P f args Z fun r Z'=> ∃Z1,Q r Z1/\(∀n,¬D n->Z n≠none->Z1 n=none)/\Z'=join Z1 (Ey Z fun n=> ¬D n):=by
 refine⟨h.1,fun F w cs hR hv=>?_⟩
 have hH:(Hh (fun n=>F n\/(¬D n/\Z n≠none)) (Ey Z D) w)=Hh F Z w:=by
  funext b o;unfold Hh;by_cases hb:F b\/(Z b).isSome=true
  .rw[if_pos hb,if_pos]
   rcases hb with hb|hb
   .exact .inl (.inl hb)
   .by_cases hd:D b
    .exact .inr (by rw[CZ hd];exact hb)
    .exact .inl (.inr ⟨hd,by intro e;rw[e]at hb;cases hb⟩)
  .rw[if_neg hb,if_neg]
   rintro((h|h)|h)
   .exact hb (.inl h)
   .exact hb (.inr (by cases hs:Z b with|none=>exact absurd hs h.2|some o=>rfl))
   .by_cases hd:D b
    .rw[CZ hd]at h;exact hb (.inr h)
    .rw[Cf hd]at h;cases h
 have hR1:Rel (fun n=>F n\/(¬D n/\Z n≠none)) (Ey Z D) w:=by
  refine⟨fun n o ho=>?_,fun n hn=>?_⟩
  .by_cases hd:D n
   .rw[CZ hd]at ho
    obtain⟨h1,ob,h2,h3⟩:=hR.own n o ho;refine⟨?_,ob,h2,by rw[hH];exact h3⟩;rintro(h|h)
    .exact h1 h
    .exact h.1 hd
   .rw[Cf hd]at ho;cases ho
  .rcases hn with hn|hn
   .exact hR.lock n hn
   .cases hs:Z n with
    | none=>exact absurd hs hn.2
    | some o=>exact hR.lt hs
 refine Calls.mono (h.2 _ w cs hR1 (by rw[hH];exact hv)) fun e w' ⟨r,Z1,hq,h1,h2,h3⟩=>?_
 have hfr: ∀n,¬D n->Z n≠none->Z1 n=none:=fun n hd hn=>by
  cases hs:Z1 n with
  | none=>rfl
  | some o=>exact absurd (.inr ⟨hd,hn⟩) (h2.own n o hs).1
 have hle:SB (Hh (fun n=>F n\/(¬D n/\Z n≠none)) Z1 w') (Hh F (join Z1 (Ey Z fun n=> ¬D n)) w'):=by
  intro b o c hc;obtain⟨k1,k2,k3⟩:=EY hc;rw[J7 (fun h=>k1 (.inl h)) ?_]
  .exact k3
  .simp only[join,k2]
   by_cases hd:D b
   .exact Cf (fun h=>h hd)
   .rw[CZ hd]
    cases hs:Z b with
    | none=>rfl
    | some o=>exact absurd (.inr ⟨hd,by rw[hs];simp⟩) k1
 have hA:Bb F Z w (join Z1 (Ey Z fun n=> ¬D n)) w':=by
  refine⟨fun n hn h0=>h3.frame n hn ?_,h3.size,h3.os,h3.tape,h3.output,fun n h0 hn=>?_⟩
  .by_cases hd:D n
   .rw[CZ hd];exact h0
   .exact Cf hd
  .have:Z1 n=none:=h3.names n (by
    by_cases hd:D n
    .rw[CZ hd];exact h0
    .exact Cf hd) hn
   simp only[join,this];by_cases hd:D n
   .exact Cf (fun h=>h hd)
   .rw[CZ hd];exact h0
 refine⟨r,_,⟨Z1,hq,hfr,rfl⟩,?_,⟨fun n o ho=>?_,fun n hn=>h2.lock n (.inl hn)⟩,hA⟩
 .cases r with
  | ret v=>obtain⟨c,rfl,hv⟩:=h1;exact⟨c,rfl,hv.mono hle⟩
  | BL v=>obtain⟨c,rfl,hv⟩:=h1;exact⟨c,rfl,hv.mono hle⟩
 .simp only[join]at ho
  cases hs:Z1 n with
  | some o1=>
    rw[hs]at ho;simp only[HQ]at ho;subst ho;obtain⟨k1,ob,k2,k3⟩:=h2.own n _ hs;exact⟨fun h=>k1 (.inl h),ob,k2,k3.mono hle⟩
  | none=>
    rw[hs]at ho;simp only at ho;by_cases hd:D n
    .rw[Cf (fun h=>h hd)]at ho;cases ho
    .rw[CZ hd]at ho
     obtain⟨k1,ob,k2,k3⟩:=hR.own n o ho;refine⟨k1,ob,(h3.frame n (hR.lt ho) (Cf hd)).trans k2,k3.mono ?_⟩;exact hA.hle
end Go.Gl
namespace Go.Gl
variable {P:Program} {F:Nat->Prop} {env env':Env} {Z:AE}
def BR {o:Option V} {k k':V->Prop} (h:wv o k) (hm: ∀v,k v->k' v):wv o k':=by
 cases o with
 | none=>exact h
 | some v=>exact hm v h
def IV {o:Option (List V)} {k k':List V->Prop} (h:ws o k) (hm: ∀v,k v->k' v):ws o k':=by
 cases o with
 | none=>exact h
 | some v=>exact hm v h
def N6 {o:Option (Option V)} {k k':Option V->Prop} (h:wo o k) (hm: ∀v,k v->k' v):wo o k':=by
 cases o with
 | none=>exact h
 | some v=>exact hm v h
def QP {sz:Nat} {a x:V} {k k':AE->Prop} (h:AV Z sz a x k) (hm: ∀Z',k Z'->k' Z'):AV Z sz a x k':=by
 unfold AV at *;split at h
 .rename_i vc hc
  obtain⟨h1,h2,h3⟩:=h;refine⟨h1,h2,?_⟩;cases a<;>first|exact h3.elim|skip
  .simp only at *
   split at h3
   .exact⟨h3.1,hm _ h3.2⟩
   .exact h3.elim
  .simp only at *
   split at h3
   .refine⟨h3.1,?_⟩
    have h4:=h3.2;split at h4
    .exact⟨h4.1,hm _ h4.2⟩
    .exact h4.elim
   .exact h3.elim
 .exact h.elim
def EF {sz:Nat} {y:V} {k k':List (List V)->Prop} (h:rowsOf Z sz y k) (hm: ∀v,k v->k' v):rowsOf Z sz y k':=by
 unfold rowsOf at *;cases y<;>first|exact h.elim|skip
 .exact⟨h.1,hm _ h.2⟩
 .simp only at *
  split at h
  .exact⟨h.1,h.2.1,hm _ h.2.2⟩
  .exact h.elim
 .simp only at *
  split at h
  .exact⟨h.1,h.2.1,h.2.2.1,hm _ h.2.2.2⟩
  .exact h.elim
def I5 {b sz:Nat} {x y:V} {k k':V->AE->Prop} (h:AL b Z sz x y k) (hm: ∀v Z',k v Z'->k' v Z'):AL b Z sz x y k':=by
 unfold AL at *;refine EF h fun ys ⟨h1,h2⟩=>⟨h1,?_⟩
 cases x<;>first|exact h2.elim|skip
 .simp only at *
  exact⟨h2.1,h2.2.1,fun e=>hm _ _ (h2.2.2.1 e),fun e=>⟨(h2.2.2.2 e).1,fun n cap h3 h4=>hm _ _ ((h2.2.2.2 e).2 n cap h3 h4)⟩⟩
 .simp only at *
  split at h2
  .exact⟨h2.1,h2.2.1,h2.2.2.1,h2.2.2.2.1,fun n cap h3 h4=>hm _ _ (h2.2.2.2.2 n cap h3 h4)⟩
  .exact h2.elim
def Fg {o:Option V} {d:Int} {k k':Int->Prop} (h:MC o d k) (hm: ∀v,k v->k' v):MC o d k':=by
 unfold MC at *;split at h
 .exact hm _ h
 .exact hm _ h
 .exact h.elim
def QR {sz:Nat} {x:V} {a b c:Option V} {k k':V->AE->Prop} (h:AU Z sz x a b c k) (hm: ∀v Z',k v Z'->k' v Z'):AU Z sz x a b c k':=by
 unfold AU at *;cases x<;>first|exact h.elim|skip
 .simp only at *
  refine⟨h.1,Fg h.2 fun hh h2=>Fg h2 fun l h3=>⟨h3.1,h3.2.1,h3.2.2.1,?_⟩⟩;have h4:=h3.2.2.2;split at h4
  .exact hm _ _ h4
  .exact⟨h4.1,hm _ _ h4.2⟩
  .exact h4.elim
 .simp only at *
  refine Fg h fun hh h2=>Fg h2 fun l h3=>⟨h3.1,h3.2.1,h3.2.2.1,?_⟩
  have h4:=h3.2.2.2;split at h4
  .exact hm _ _ h4
  .refine⟨h4.1,h4.2.1,h4.2.2.1,?_⟩
   have h5:=h4.2.2.2;split at h5
   .exact⟨h5.1,h5.2.1,h5.2.2.1,h5.2.2.2.elim (fun h=> .inl (hm _ _ h)) fun h=> .inr (hm _ _ h)⟩
   .exact h5.elim
  .exact h4.elim
 .simp only at *
  exact Fg h fun hh h2=>Fg h2 fun l h3=>⟨h3.1,h3.2.1,h3.2.2.1,h3.2.2.2.1,h3.2.2.2.2.1,hm _ _ h3.2.2.2.2.2⟩
def NA {sz:Nat} {ys:List (List V)} {n off len:Nat} {k k':V->AE->Prop} (h:Kx Z sz ys n off len k) (hm: ∀v Z',k v Z'->k' v Z'):Kx Z sz ys n off len k':=by
 unfold Kx at *;split at h
 .exact⟨h.1,h.2.1,hm _ _ h.2.2⟩
 .exact h.elim
def Ri {sz:Nat} {x y:V} {k k':V->AE->Prop} (h:An Z sz x y k) (hm: ∀v Z',k v Z'->k' v Z'):An Z sz x y k':=by
 refine EF h fun ys h=>⟨h.1,?_⟩
 have h:=h.2;split at h
 .exact NA h hm
 .exact⟨h.1,NA h.2 hm⟩
 .exact h.elim
def Lf {o:EM} {k k' kp kp':V->AE->Prop} (h:Dy P o env Z k kp) (hm: ∀v Z',k v Z'->k' v Z') (hp: ∀v Z',kp v Z'->kp' v Z'):Dy P o env Z k' kp':=by
 by_cases hs:still o=true
 .obtain⟨v,h1,h2⟩:=Fs hs h
  exact h2 Z k' kp' (.inr fun _ _ h=>h) (hm _ _ h1)
 .cases o<;>first|(exact absurd rfl hs)|skip
  all_goals simp only[Dy]at *
  case box x=>
   refine BR h fun v h=>?_
   split at h
   .exact fun n hn=>hm _ _ (h n hn)
   .exact h.elim
  case alloc z=>exact fun n hn=>hm _ _ (h n hn)
  case Xi x=>exact BR h fun v ⟨vf,Z2,h1,h2,h3⟩=>⟨vf,Z2,h1,h2,hm _ _ h3⟩
  case J2=>exact fun n hn=>hm _ _ (h n hn)
  case EI ks x y z=>
   refine BR h fun vm h=>BR h fun vk h=>BR h fun vx h=>?_
   unfold AT at *;obtain⟨h0,h⟩:=h;cases vm<;>first|exact h.elim|skip
   simp only at *;split at h
   .exact⟨h0,h.1,hm _ _ h.2⟩
   .exact h.elim
  case TU q n x=>
   refine BR h fun vx h=>?_
   unfold Gf at *;split at h<;>first|exact h.elim|exact hm _ _ h|exact⟨fun e t=>hm _ _ (h.1 e t),fun e=>hm _ _ (h.2 e)⟩
  case EU a b c x y=>
   refine BR h fun vx h=>BR h fun vy h=>?_
   unfold AM at *;split at h
   .exact⟨h.1,h.2.1,h.2.2.1,fun id hn=>hm _ _ (h.2.2.2 id hn)⟩
   .exact h.elim
  case store sz a x=>exact BR h fun va h=>BR h fun vx h=>QP h fun Z' h=>hm _ _ h
  case slice sz x a b c=>exact BR h fun vx h=>N6 h fun l h=>N6 h fun hh h=>N6 h fun m h=>QR h hm
  case append sz b x y=>exact BR h fun vx h=>BR h fun vy h=>I5 h hm
  case copy sz x y=>exact BR h fun vx h=>BR h fun vy h=>Ri h hm
  case inv tab x as=>exact BR h fun vx h=>IV h fun vs h=>h.mono fun r Z' h=>by cases r<;>first|exact hm _ _ h|exact hp _ _ h
  case panic x=>
   refine BR h fun vx h=>?_
   split at h
   .exact hp _ _ h
   .exact h.elim
  case call f as=>exact IV h fun vs h=>h.mono fun r Z' h=>by cases r<;>first|exact hm _ _ h|exact hp _ _ h
  case GS x as=>
   exact BR h fun vx h=>IV h fun vs h=>h.mono fun r Z' h=>by cases r<;>first|exact hm _ _ h|exact hp _ _ h
def E4 {n:Nat} {o:O} (hn:Z n=none):Sub Z (BO Z n o):=fun m p hp=>by
 unfold BO;split
 .rename_i e
  subst e;rw[hn]at hp;cases hp
 .exact hp
def calm (o:EM):Bool:=match kd o with| .H=>false|_=>true
def KF {b sz:Nat} {y:V} {k:V->AE->Prop}:AL b Z sz (.l [] true) y k=rowsOf Z sz y fun ys=>(∀e∈ys,∀v∈e,Bm v=true)/\(ys.length<=AX/\ys.length*b<=140737488355328)/\(ys= []->k (.l [] true) Z)/\
 (ys≠[]-> ∀n cap,Z n=none->ys.length<=cap->k (.sl n ys.length cap) (BO Z n (.arr sz ys cap))):=by
 simp[AL]
def J9 {s:Nat} {x:BQ} {a b c:Option BQ} (h:calm (.slice s x a b c)=true):still (.slice s x a b c)=true:=by
 cases c with
 | none=>rfl
 | some c=>cases h
def M9 {a b:Nat} {x y:BQ} (h:kd (.append a b x y)≠ .H):x= .c (.l [] true):=by
 simp only[kd]at h;split at h
 .rfl
 .exact absurd rfl h
def TM {o:EM} (hc:calm o=true) {k kp:V->AE->Prop} (h:Dy P o env Z k kp):Dy P o env Z (fun v Z'=>k v Z'/\Sub Z Z') kp:=by
 by_cases hs:still o=true
 .obtain⟨v,h1,h2⟩:=Fs hs h
  exact h2 Z _ kp (.inr fun _ _ h=>h) ⟨h1,fun _ _ h=>h⟩
 .cases o<;>first|(exact absurd rfl hs)|(cases hc;done)|skip
  all_goals simp only[Dy]at *
  case slice s x a b c=>exact absurd (J9 hc) hs
  case box x=>
   refine BR h fun v h=>?_
   split at h
   .exact fun n hn=>⟨h n hn,E4 hn⟩
   .exact h.elim
  case alloc z=>exact fun n hn=>⟨h n hn,E4 hn⟩
  case append sz b x y=>
   have hx:x= .c (.l [] true):=M9 (b:=b) (a:=sz) (y:=y) (by intro e;simp[calm,e]at hc);subst hx;change wv (ev env y) _ at h;change wv (ev env y) _;refine BR h fun vy h=>?_
   rw[KF]at *;exact EF h fun ys h=>⟨h.1,h.2.1,fun e=>⟨h.2.2.1 e,fun _ _ h=>h⟩,fun e n cap h3 h4=>⟨h.2.2.2 e n cap h3 h4,E4 h3⟩⟩
def LR {n m:Nat} (h:n≠m) (a b:O):BO (BO Z n a) m b=BO (BO Z m b) n a:=by
 funext k;unfold BO;by_cases h1:k=m
 .have h2:k≠n:=fun e=>h (e.symm.trans h1)
  rw[if_pos h1,if_neg h2,if_pos h1]
 .rw[if_neg h1,if_neg h1]
def Ho {n m:Nat} (h:n≠m) {a:O}:BO Z n a m=Z m:=by
 unfold BO;rw[if_neg (fun e=>h e.symm)]
def JO {n:Nat} {a:O}:BO Z n a n=some a:=by simp[BO]
def RW {Z':AE} (hs:Sub Z Z') {sz:Nat} {y:V} {k:List (List V)->Prop} (h:rowsOf Z sz y k):rowsOf Z' sz y k:=by
 unfold rowsOf at *;cases y<;>first|exact h.elim|exact h|skip
 .rename_i m len cap
  simp only at *;cases hm:Z m with
  | none=>rw[hm]at h;exact h.elim
  | some o=>rw[hm]at h;rw[hs m o hm];exact h
 .rename_i m s off len
  simp only at *;cases hm:Z m with
  | none=>rw[hm]at h;exact h.elim
  | some o=>rw[hm]at h;rw[hs m o hm];exact h
def P7 {o:EM} (hc:calm o=true) {k kp:V->AE->Prop} (h:Dy P o env Z k kp) {m:Nat} {z:O} (hm:Z m=none) :
    Dy P o env (BO Z m z) (fun v Z2=> ∃Z1,k v Z1/\Z1 m=none/\Z2=BO Z1 m z) kp:=by
 by_cases hs:still o=true
 .obtain⟨v,h1,h2⟩:=Fs hs h
  exact h2 _ _ kp (.inr (E4 hm)) ⟨Z,h1,hm,rfl⟩
 .have hne: ∀n,BO Z m z n=none->Z n=none/\n≠m:=fun n hn=>by
   have:n≠m:=fun e=>by rw[e,JO]at hn;cases hn
   exact⟨by rwa [Ho this.symm]at hn,this⟩
  cases o<;>first|(exact absurd rfl hs)|(cases hc;done)|skip
  all_goals simp only[Dy]at *
  case slice s x a b c=>exact absurd (J9 hc) hs
  case box x=>
   refine BR h fun v h=>?_
   split at h
   .exact fun n hn=>⟨_,h n (hne n hn).1,by rw[Ho (hne n hn).2];exact hm,LR (hne n hn).2.symm _ _⟩
   .exact h.elim
  case alloc z'=>exact fun n hn=>⟨_,h n (hne n hn).1,by rw[Ho (hne n hn).2];exact hm,LR (hne n hn).2.symm _ _⟩
  case append sz b x y=>
   have hx:x= .c (.l [] true):=M9 (b:=b) (a:=sz) (y:=y) (by intro e;simp[calm,e]at hc);subst hx;change wv (ev env y) _ at h;change wv (ev env y) _;refine BR h fun vy h=>?_
   rw[KF]at *;refine EF (RW (E4 hm) h) fun ys h=>⟨h.1,h.2.1,fun e=>⟨Z,h.2.2.1 e,hm,rfl⟩,fun e n cap h3 h4=>?_⟩
   exact⟨_,h.2.2.2 e n cap (hne n h3).1 h4,by rw[Ho (hne n h3).2];exact hm,LR (hne n h3).2.symm _ _⟩
def Q1:EM->Bool| .call _ _=>true|_=>false
def P8 {o:EM} (hc:Q1 o=true) {k kp:V->AE->Prop} (hU: ∀v Z m z,Z m=none->kp v Z->kp v (BO Z m z)) (h:Dy P o env Z k kp) {m:Nat} {z:O} (hm:Z m=none) :
    Dy P o env (BO Z m z) (fun v Z2=> ∃Z1,k v Z1/\Z1 m=none/\Z2=BO Z1 m z) kp:=by
 cases o<;>first|(cases hc;done)|skip
 rename_i f args;simp only[Dy]at *;refine IV h fun vs h=>?_
 have hr:Ey (BO Z m z) (fun n=>n≠m)=Z:=by
  funext n;by_cases hn:n=m
  .subst hn;rw[Cf (fun h=>h rfl),hm]
  .rw[CZ hn];simp[BO,hn]
 have h':BD P f vs (Ey (BO Z m z) fun n=>n≠m) (qk k kp):=by rw[hr];exact h
 refine BD.mono (BD.frame (fun n=>n≠m) h') fun r Z' ⟨Z1,hq,hfr,he⟩=>?_
 have h1:Z1 m=none:=hfr m (fun h=>h rfl) (by rw[JO];simp)
 have h2:Z'=BO Z1 m z:=by
  rw[he];funext n;simp only[join];by_cases hn:n=m
  .subst hn
   rw[h1];simp only;rw[CZ (fun h=>h rfl),JO,JO]
  .rw[Cf (fun h=>h hn)]
   cases hs:Z1 n with
   | none=>simp[BO,hn,hs]
   | some o=>simp[BO,hn,hs]
 cases r with
 | ret v=>exact⟨Z1,hq,h1,h2⟩
 | BL v=>rw[h2];exact hU _ _ _ _ h1 hq
structure Ad where
 dst:Option Nat
 op:EM
 guard:Option (Nat×Bool)
 deriving Inhabited
def put (d:Option Nat) (v:V) (env:Env):Env:=match d with|some d=>(d,v)::env|none=>env
def Fx (P:Program) (o:Ad) (env:Env) (Z:AE) (k kp:V->AE->Prop):Prop:=
 match o.guard with
 | none=>Dy P o.op env Z k kp
 | some (g,b)=>match get g env with
   | some (.b t)=>(t=b->Dy P o.op env Z k kp)/\(t= !b->k (.t []) Z)
   | some (.t [])=>k (.t []) Z
   | _=>False
def looks (o:Ad):List Nat:=reads o.op++(match o.guard with|some (g,_)=>[g]|none=>[])
def Ee {o:Ad} {k kp:V->AE->Prop} (h: ∀s∈looks o,get s env'=get s env):Fx P o env' Z k kp=Fx P o env Z k kp:=by
 unfold Fx;unfold looks at h;cases hg:o.guard with
 | none=>exact NR fun s hs=>h s (On _ hs)
 | some p=>
   obtain⟨g,b⟩:=p;simp only;rw[h g (by rw[hg];simp),NR fun s hs=>h s (On _ hs)]
def Bj {o:Ad} {k k' kp kp':V->AE->Prop} (h:Fx P o env Z k kp) (hm: ∀v Z',k v Z'->k' v Z') (hp: ∀v Z',kp v Z'->kp' v Z'):Fx P o env Z k' kp':=by
 unfold Fx at *;split at h
 .exact Lf h hm hp
 .split at h
  .exact⟨fun e=>Lf (h.1 e) hm hp,fun e=>hm _ _ (h.2 e)⟩
  .exact hm _ _ h
  .exact h.elim
def NS {o:Ad} (hs:still o.op=true) {k kp:V->AE->Prop} (h:Fx P o env Z k kp) :
    ∃v,k v Z/\ ∀Z' (k' kp':V->AE->Prop),(kd o.op= .P\/Sub Z Z')->k' v Z'->Fx P o env Z' k' kp':=by
 unfold Fx at *;split at h
 .obtain⟨v,h1,h2⟩:=Fs hs h
  exact⟨v,h1,fun Z' k' kp' hσ hk=>h2 Z' k' kp' hσ hk⟩
 .rename_i g b hg
  split at h
  .rename_i t ht
   skip
   by_cases htb:t=b
   .obtain⟨v,h1,h2⟩:=Fs hs (h.1 htb)
    refine⟨v,h1,fun Z' k' kp' hσ hk=>?_⟩;exact⟨fun _=>h2 Z' k' kp' hσ hk,fun e=>absurd (htb.symm.trans e) (by cases b<;>simp)⟩
   .refine⟨.t [],h.2 (by cases t<;>cases b<;>simp_all),fun Z' k' kp' hσ hk=>?_⟩
    exact⟨fun e=>absurd e htb,fun _=>hk⟩
  .exact⟨.t [],h,fun Z' k' kp' hσ hk=>hk⟩
  .exact h.elim
def TN {o:Ad} (hc:calm o.op=true) {k kp:V->AE->Prop} (h:Fx P o env Z k kp):Fx P o env Z (fun v Z'=>k v Z'/\Sub Z Z') kp:=by
 unfold Fx at *;split at h
 .exact TM hc h
 .split at h
  .exact⟨fun e=>TM hc (h.1 e),fun e=>⟨h.2 e,fun _ _ h=>h⟩⟩
  .exact⟨h,fun _ _ h=>h⟩
  .exact h.elim
def XX {o:Ad} (hc:calm o.op=true) {k kp:V->AE->Prop} (h:Fx P o env Z k kp) {m:Nat} {z:O} (hm:Z m=none) :
    Fx P o env (BO Z m z) (fun v Z2=> ∃Z1,k v Z1/\Z1 m=none/\Z2=BO Z1 m z) kp:=by
 unfold Fx at *;split at h
 .exact P7 hc h hm
 .split at h
  .exact⟨fun e=>P7 hc (h.1 e) hm,fun e=>⟨Z,h.2 e,hm,rfl⟩⟩
  .exact⟨Z,h,hm,rfl⟩
  .exact h.elim
def SF (o:EM):Bool:=calm o||Q1 o
def Uk {o:Ad} (hc:SF o.op=true) {k kp:V->AE->Prop} (hU: ∀v Z m z,Z m=none->kp v Z->kp v (BO Z m z)) (h:Fx P o env Z k kp) {m:Nat} {z:O} (hm:Z m=none) :
    Fx P o env (BO Z m z) (fun v Z2=> ∃Z1,k v Z1/\Z1 m=none/\Z2=BO Z1 m z) kp:=by
 cases hc':calm o.op with
 | true=>exact XX hc' h hm
 | false=>
   have hc2:Q1 o.op=true:=by simpa[SF,hc']using hc
   unfold Fx at *;split at h
   .exact P8 hc2 hU h hm
   .split at h
    .exact⟨fun e=>P8 hc2 hU (h.1 e) hm,fun e=>⟨Z,h.2 e,hm,rfl⟩⟩
    .exact⟨Z,h,hm,rfl⟩
    .exact h.elim
end Go.Gl
