import Derived.Test.YtcfkfhaedllcpaaGreatV6
set_option linter.all false
set_option linter.defProp false
set_option maxHeartbeats 8000000
noncomputable section
namespace Go.Gl
variable {P:Program} {F:Nat->Prop} {env env':Env} {Z:AE}
def An (AD:(V->Prop)->Prop):Prop:= ∀k,AD k-> ∃v,k v/\ ∀k':V->Prop,k' v->AD k'
def An.one (v:V):An fun k=>k v:=fun _ h=>⟨v,h,fun _ h=>h⟩
def An.no:An fun _=>False:=fun _ h=>h.elim
def An.and {p:Prop} {AD:(V->Prop)->Prop} (h:An AD):An fun k=>p/\AD k:=fun k ⟨hp,hF⟩=>let⟨v,h1,h2⟩:=h k hF;⟨v,h1,fun k' hk=>⟨hp,h2 k' hk⟩⟩
def An.wv {o:Option V} {AD:V->(V->Prop)->Prop} (h: ∀v,An (AD v)):An fun k=>wv o fun v=>AD v k:=by
 cases o with
 | none=>exact An.no
 | some v=>exact h v
def An.ws {o:Option (List V)} {AD:List V->(V->Prop)->Prop} (h: ∀v,An (AD v)):An fun k=>ws o fun v=>AD v k:=by
 cases o with
 | none=>exact An.no
 | some v=>exact h v
def An.wr {o:Option (List (List V))} {AD:List (List V)->(V->Prop)->Prop} (h: ∀v,An (AD v)):An fun k=>wr o fun v=>AD v k:=by
 cases o with
 | none=>exact An.no
 | some v=>exact h v
def An.wo {o:Option (Option V)} {AD:Option V->(V->Prop)->Prop} (h: ∀v,An (AD v)):An fun k=>wo o fun v=>AD v k:=by
 cases o with
 | none=>exact An.no
 | some v=>exact h v
def kD (op:BinOp) (x y:V):An (U6 op x y):=by
 unfold U6;cases x<;>cases y<;>first|exact An.no|skip
 cases op<;>simp only<;>first|exact(An.one _).and|exact(An.one _).and.and
def L7 (agg:Option Nat) (cs:List V) (off:Nat):An (cut agg cs off):=by
 unfold cut;cases agg with
 | none=>cases cs[off]? with
   | none=>exact An.no
   | some v=>exact An.one _
 | some n=>exact(An.one _).and
def de (Z:AE) (agg:Option Nat) (x:V):An (AY Z agg x):=by
 unfold AY PM PN;cases x<;>first|exact An.no|skip
 case p n off=>
  simp only;cases Z n with
  | none=>exact An.no
  | some o=>cases o<;>first|exact An.no|exact L7 _ _ _
 case rp cs=>exact L7 _ _ _
 case pe n sz i off=>
  simp only;cases Z n with
  | none=>exact An.no
  | some o=>
    cases o<;>first|exact An.no|skip
    simp only;refine An.and ?_;rename_i es _;cases es[i]? with
    | none=>exact An.no
    | some e=>exact L7 _ _ _
def cw {Z Z':AE} (hs:Sub Z Z') {agg:Option Nat} {x:V} {k:V->Prop} (h:AY Z agg x k):AY Z' agg x k:=by
 unfold AY PM PN at *;cases x<;>first|exact h|skip
 case p n off=>
  simp only at *;cases hn:Z n with
  | none=>rw[hn]at h;exact h.elim
  | some o=>rw[hs n o hn];rw[hn]at h;exact h
 case pe n sz i off=>
  simp only at *;cases hn:Z n with
  | none=>rw[hn]at h;exact h.elim
  | some o=>rw[hs n o hn];rw[hn]at h;exact h
def Yv (off:Nat) (x:V):An (Kx off x):=by
 unfold Kx;cases x<;>first|exact An.no|exact An.one _
def Yu (sz:Nat) (arr:Option Nat) (x i:V):An (AR sz arr x i):=by
 unfold AR;cases i<;>first|exact An.no|skip
 cases arr<;>cases x<;>first|exact An.no|exact(An.one _).and.and|exact(An.one _).and.and.and|skip
 intro k ⟨h0,e,h1,h2,h3⟩;exact⟨_,h3,fun k' hk=>⟨h0,e,h1,h2,hk⟩⟩
def Yt (len sz:Nat) (agg:Option Nat) (x i:V):An (Kw len sz agg x i):=by
 unfold Kw;cases x<;>first|exact An.no|skip
 cases i<;>first|exact An.no|skip
 exact(L7 _ _ _).and.and
def dd (x i:V):An (PS x i):=by
 unfold PS;cases x<;>first|exact An.no|skip
 cases i<;>first|exact An.no|skip
 refine An.and ?_;rename_i b _ j;cases b.data.toList[j.toNat]? with
 | none=>exact An.no
 | some c=>exact An.one _
def kC (x:V):An (A5 x):=by
 unfold A5;cases x<;>first|exact An.no|exact An.one _|exact(An.one _).and
def df (Z:AE) (x:V):An (KY Z x):=by
 unfold KY;cases x<;>first|exact An.no|exact An.one _|skip
 case m n=>
  simp only;cases Z n with
  | none=>exact An.no
  | some o=>cases o<;>first|exact An.no|exact(An.one _).and
def cz {Z Z':AE} (hs:Sub Z Z') {x:V} {k:V->Prop} (h:KY Z x k):KY Z' x k:=by
 unfold KY at *;cases x<;>first|exact h|skip
 case m n=>
  simp only at *;cases hn:Z n with
  | none=>rw[hn]at h;exact h.elim
  | some o=>rw[hs n o hn];rw[hn]at h;exact h
def Jw {o:Option V} {d:Int} {k:Int->Prop} (h:N2 o d k): ∃v,k v/\ ∀k':Int->Prop,k' v->N2 o d k':=by
 unfold N2 at *;split at h
 .exact⟨_,h,fun _ h=>h⟩
 .exact⟨_,h,fun _ h=>h⟩
 .exact h.elim
def Ys {sz:Nat} {x:V} {a b:Option V} {k:V->AE->Prop} (h:AQ Z sz x a b none k): ∃v,k v Z/\ ∀Z' (k':V->AE->Prop),k' v Z'->AQ Z' sz x a b none k':=by
 unfold AQ at *;cases x<;>first|exact h.elim|skip
 .simp only at *
  obtain⟨h0,h⟩:=h;obtain⟨hh,h,g1⟩:=Jw h;obtain⟨l,h,g2⟩:=Jw h;exact⟨_,h.2.2.2,fun Z' k' hk=>⟨h0,g1 _ (g2 _ ⟨h.1,h.2.1,h.2.2.1,hk⟩)⟩⟩
 .simp only at *
  obtain⟨hh,h,g1⟩:=Jw h;obtain⟨l,h,g2⟩:=Jw h;exact⟨_,h.2.2.2,fun Z' k' hk=>g1 _ (g2 _ ⟨h.1,h.2.1,h.2.2.1,hk⟩)⟩
 .simp only at *
  obtain⟨hh,h,g1⟩:=Jw h;obtain⟨l,h,g2⟩:=Jw h;exact⟨_,h.2.2.2.2.2,fun Z' k' hk=>g1 _ (g2 _ ⟨h.1,h.2.1,h.2.2.1,h.2.2.2.1,trivial,hk⟩)⟩
def QS {sz:Nat} {y:V} {k:List (List V)->Prop} (h:rowsOf Z sz y k): ∃ys,k ys/\ ∀Z' (k':List (List V)->Prop),Sub Z Z'->k' ys->rowsOf Z' sz y k':=by
 unfold rowsOf at *;cases y<;>first|exact h.elim|skip
 .exact⟨_,h.2,fun _ _ _ hk=>⟨h.1,hk⟩⟩
 .rename_i m len cap
  simp only at *;cases hm:Z m with
  | none=>rw[hm]at h;exact h.elim
  | some o=>
    rw[hm]at h;cases o<;>first|exact h.elim|skip
    exact⟨_,h.2.2,fun Z' k' hs hk=>by rw[hs m _ hm];exact⟨h.1,h.2.1,hk⟩⟩
 .rename_i m s off len
  simp only at *;cases hm:Z m with
  | none=>rw[hm]at h;exact h.elim
  | some o=>
    rw[hm]at h;cases o<;>first|exact h.elim|skip
    exact⟨_,h.2.2.2,fun Z' k' hs hk=>by rw[hs m _ hm];exact⟨h.1,h.2.1,h.2.2.1,hk⟩⟩
def jg {x:V} {k:V->Prop} (h:fA Z x k): ∃v,k v/\ ∀Z' (k':V->Prop),Sub Z Z'->k' v->fA Z' x k':=by
 obtain⟨ys,h1,h2⟩:=QS h;cases hn:FP ys with
 | none=>rw[hn]at h1;exact h1.elim
 | some ns=>
   rw[hn]at h1;exact⟨_,h1,fun Z' k' hs hk=>h2 Z' _ hs (by rw[hn];exact hk)⟩
def dg {b sz:Nat} {x y:V} {k:V->Prop} (h:Ae b Z sz x y k): ∃v,k v/\ ∀Z' (k':V->Prop),Sub Z Z'->k' v->Ae b Z' sz x y k':=by
 unfold Ae at *;obtain⟨ys,⟨h1,h2⟩,h3⟩:=QS h;cases x<;>first|exact h2.elim|skip
 exact⟨_,h2.2.2.2,fun Z' k' hs hk=>h3 Z' _ hs ⟨h1,h2.1,h2.2.1,h2.2.2.1,hk⟩⟩
def XI {ks:KS} {z:V} {ok:Bool} {vm vk:V} {k:V->Prop} (h:AN Z ks z ok vm vk k): ∃v,k v/\ ∀Z' (k':V->Prop),Sub Z Z'->k' v->AN Z' ks z ok vm vk k':=by
 unfold AN at *;obtain⟨h0,h⟩:=h;cases vm<;>first|exact h.elim|skip
 .rename_i n
  simp only at *;cases hn:Z n with
  | none=>rw[hn]at h;exact h.elim
  | some o=>
    rw[hn]at h;cases o<;>first|exact h.elim|skip
    exact⟨_,h.2,fun Z' k' hs hk=>⟨h0,by rw[hs n _ hn];exact⟨h.1,hk⟩⟩⟩
 .exact⟨_,h,fun Z' k' hs hk=>⟨h0,hk⟩⟩
inductive Kd where
 | P|N|A|AA|H
 deriving DecidableEq,Repr
def kd:Fx->Kd
 | .load _ _=> .N
 | .TU _=> .N
 | .str _=> .N
 | .Ra _ _ _ _=> .N
 | .box _=> .A
 | .append _ _ x _=>match x with| .c (.l [] true)=> .A|_=> .H
 | .alloc _=> .AA
 | .slice _ _ _ _ mx=>match mx with|none=> .N|some _=> .H
 | .store _ _ _| .copy _ _ _| .FQ _ _ _ _| .panic _| .call _ _| .Ix _ _| .X4 _ _| .inv _ _ _| .N5| .F4 _ _ _ _ _| .bQ _ _ _| .lJ _=> .H
 | .lookup _ _ _ _ _=> .N
 | _=> .P
def yb {o:Fx} (hk:kd o= .P): ∃AD:(V->Prop)->Prop,An AD/\ ∀Z (k kp:V->AE->Prop),Fb P o env Z k kp=AD (fun v=>k v Z):=by
 cases o<;>first|(simp[kd]at hk;done)|skip
 case mv x=>exact⟨fun k=>wv (ev env x) k,An.wv fun v=>An.one v,fun _ _ _=>rfl⟩
 case pick c a b=>
  refine⟨fun k=>wv (ev env c) fun vc=>wv (ev env a) fun va=>wv (ev env b) fun vb=>match vc with| .b t=>(match va,vb with| .b x,.b y=>k (.b (bif t then x else y))|_,_=>k (bif t then va else vb))|_=>False,?_,fun _ _ _=>rfl⟩;refine An.wv fun vc=>An.wv fun va=>An.wv fun vb=>?_
  cases vc<;>first|exact An.no|skip
  cases va<;>first|exact An.one _|skip
  cases vb<;>exact An.one _
 case bin op x y=>exact⟨fun k=>wv (ev env x) fun vx=>wv (ev env y) fun vy=>U6 op vx vy k,An.wv fun _=>An.wv fun _=>kD _ _ _,fun _ _ _=>rfl⟩
 case lC n x y=>
  refine⟨fun k=>wv (ev env x) fun vx=>wv (ev env y) fun vy=>match vx,vy with| .b p,.b q=>k (.b (bif n then p != q else p==q))|_,_=>False,?_,fun _ _ _=>rfl⟩;refine An.wv fun vx=>An.wv fun vy=>?_
  cases vx<;>cases vy<;>first|exact An.no|exact An.one _
 case XR q n x y=>
  refine⟨fun k=>wv (ev env x) fun vx=>wv (ev env y) fun vy=>TV q n vx vy k,An.wv fun vx=>An.wv fun vy=>?_,fun _ _ _=>rfl⟩;unfold TV;cases vx<;>first|exact An.no|skip
  cases vy<;>first|exact An.no|skip
  simp only;split<;>first|exact An.no|exact An.one _
 case not x=>
  refine⟨fun k=>wv (ev env x) fun vx=>match vx with| .b p=>k (.b (!p))|_=>False,An.wv fun vx=>?_,fun _ _ _=>rfl⟩;cases vx<;>first|exact An.no|exact An.one _
 case neg xor x=>
  refine⟨fun k=>wv (ev env x) fun vx=>match vx with| .i ka a=>k (.i ka (bif xor then bits .xor ka (bif ka.signed then -1 else ka.max) a else ka.wrap (0 - a)))|_=>False,An.wv fun vx=>?_,fun _ _ _=>rfl⟩;cases vx<;>first|exact An.no|exact An.one _
 case conv ka x=>
  refine⟨fun k=>wv (ev env x) fun vx=>match vx with| .i _ a=>k (.i ka (ka.wrap a))|_=>False,An.wv fun vx=>?_,fun _ _ _=>rfl⟩;cases vx<;>first|exact An.no|exact An.one _
 case M6 x=>
  refine⟨fun k=>wv (ev env x) fun vx=>match cellsOf vx with|some cs=>k (.rp cs)|none=>False,An.wv fun vx=>?_,fun _ _ _=>rfl⟩;cases cellsOf vx<;>first|exact An.no|exact An.one _
 case build z ps=>exact⟨fun k=>ws (Ka env z ps) fun cs=>k (.a cs),An.ws fun _=>An.one _,fun _ _ _=>rfl⟩
 case Dm sz len z ps=>exact⟨fun k=>wr (JV env z.length (List.replicate len z) ps) fun es=>k (.l es true),An.wr fun _=>An.one _,fun _ _ _=>rfl⟩
 case Ba off x=>exact⟨fun k=>wv (ev env x) fun vx=>Kx off vx k,An.wv fun _=>Yv _ _,fun _ _ _=>rfl⟩
 case field agg off x=>
  refine⟨fun k=>wv (ev env x) fun vx=>match vx with| .a cs=>cut agg cs off k|_=>False,An.wv fun vx=>?_,fun _ _ _=>rfl⟩;cases vx<;>first|exact An.no|exact L7 _ _ _
 case JU sz arr x i=>exact⟨fun k=>wv (ev env x) fun vx=>wv (ev env i) fun vi=>AR sz arr vx vi k,An.wv fun _=>An.wv fun _=>Yu _ _ _ _,fun _ _ _=>rfl⟩
 case U1 x i=>exact⟨fun k=>wv (ev env x) fun vx=>wv (ev env i) fun vi=>PS vx vi k,An.wv fun _=>An.wv fun _=>dd _ _,fun _ _ _=>rfl⟩
 case index len sz agg x i=>exact⟨fun k=>wv (ev env x) fun vx=>wv (ev env i) fun vi=>Kw len sz agg vx vi k,An.wv fun _=>An.wv fun _=>Yt _ _ _ _ _,fun _ _ _=>rfl⟩
 case len x=>exact⟨fun k=>wv (ev env x) fun vx=>A5 vx k,An.wv fun _=>kC _,fun _ _ _=>rfl⟩
 case U3 x y=>
  refine⟨fun k=>wv (ev env x) fun vx=>wv (ev env y) fun vy=>match vx,vy with| .i ka a,.i kb b=>ka=kb/\k (.i ka (if b > a then b else a))|_,_=>False,?_,fun _ _ _=>rfl⟩;refine An.wv fun vx=>An.wv fun vy=>?_
  cases vx<;>cases vy<;>first|exact An.no|exact(An.one _).and
 case U2 x y=>
  refine⟨fun k=>wv (ev env x) fun vx=>wv (ev env y) fun vy=>match vx,vy with| .i ka a,.i kb b=>ka=kb/\k (.i ka (if b<a then b else a))|_,_=>False,?_,fun _ _ _=>rfl⟩;refine An.wv fun vx=>An.wv fun vy=>?_
  cases vx<;>cases vy<;>first|exact An.no|exact(An.one _).and
 case extract i x=>
  refine⟨fun k=>wv (ev env x) fun vx=>match vx with| .t vs=>(match vs[i]? with|some v=>k v|none=>False)|_=>False,An.wv fun vx=>?_,fun _ _ _=>rfl⟩;cases vx<;>first|exact An.no|skip
  rename_i vs;simp only;cases vs[i]? <;>first|exact An.no|exact An.one _
 case Ec x=>
  refine⟨fun k=>wv (ev env x) fun vx=>match vx with
   | .p n off=>k (.p n off)
   | .rp cs=>k (.rp cs)
   | .pe n sz i off=>k (.pe n sz i off)
   | .f (.func f) first cap=>k (.f (.func f) first cap)
   | .f (.yield l) first cap=>k (.f (.yield l) first cap)
   | _=>False,An.wv fun vx=>?_,fun _ _ _=>rfl⟩
  cases vx<;>first|exact An.no|exact An.one _|skip
  rename_i f a b;cases f<;>first|exact An.no|exact An.one _
 case Y6 f a b=>exact⟨fun k=>ws (Uu env a) fun vf=>ws (Uu env b) fun vc=>k (.f f vf vc),An.ws fun _=>An.ws fun _=>An.one _,fun _ _ _=>rfl⟩
 case N6 t x=>exact⟨fun k=>wv (ev env x) fun vx=>k (.E9 t vx),An.wv fun _=>An.one _,fun _ _ _=>rfl⟩
 case bM t z ok x=>
  refine⟨fun k=>wv (ev env x) fun vx=>match vx with
   | .E9 t' v=>(t'=t->k (bif ok then .t [v,.b true]else v))/\(t'≠t->ok=true/\k (.t [z,.b false]))
   | .De=>ok=true/\k (.t [z,.b false])
   | _=>False,An.wv fun vx=>?_,fun _ _ _=>rfl⟩
  cases vx<;>first|exact An.no|exact(An.one _).and|skip
  rename_i t' v;simp only;by_cases ht:t'=t
  .simpa[ht]using An.one _
  .simpa[ht]using(An.one (.t [z,.b false])).and
 case Hb f as=>
  refine⟨fun k=>ws (Uu env as) fun vs=> ∃v,A6 P f vs (fun _=>none) (fun r Z'=>r= .ret v/\Z'=fun _=>none)/\k v,An.ws fun vs=>?_,fun _ _ _=>rfl⟩;intro k ⟨v,h1,h2⟩;exact⟨v,h2,fun k' hk=>⟨v,h1,hk⟩⟩
 case slice s x a b c=>
  exfalso;simp only[kd]at hk;split at hk<;>cases hk
 case append a b x y=>
  exfalso;simp only[kd]at hk;split at hk<;>cases hk
 all_goals exact⟨fun _=>False,An.no,fun _ _ _=>rfl⟩
def still (o:Fx):Bool:=match kd o with| .P=>true| .N=>true|_=>false
def Hy {o : Fx} (hs:still o=true) {k kp:V->AE->Prop} (h:Fb P o env Z k kp) :
    ∃v,k v Z/\ ∀Z' (k' kp':V->AE->Prop),(kd o= .P\/Sub Z Z')->k' v Z'->Fb P o env Z' k' kp':=by
 unfold still at hs;cases hk:kd o<;>rw[hk]at hs<;>first|(cases hs;done)|skip
 .obtain⟨AD,h1,h2⟩:=yb (P:=P) (env:=env) hk
  rw[h2]at h;obtain⟨v,h3,h4⟩:=h1 _ h;exact⟨v,h3,fun Z' k' kp' _ hv=>by rw[h2];exact h4 _ hv⟩
 .cases o <;>first|(simp[kd]at hk;done)|skip
  case load agg x=>
   simp only[Fb]at *;cases hx:ev env x with
   | none=>rw[hx]at h;exact h.elim
   | some vx=>
     rw[hx]at h;obtain⟨v,h3,h4⟩:=de Z agg vx _ h;refine⟨v,h3,fun Z' k' kp' hs hv=>cw (hs.resolve_left (by simp)) (h4 _ hv)⟩
  case TU x=>
   simp only[Fb]at *;cases hx:ev env x with
   | none=>rw[hx]at h;exact h.elim
   | some vx=>
     rw[hx]at h
     try simp only[Ez]at h ⊢
     obtain⟨v,h3,h4⟩:=df Z vx _ h;refine⟨v,h3,fun Z' k' kp' hs hv=>cz (hs.resolve_left (by simp)) (h4 _ hv)⟩
  case str x=>
   simp only[Fb]at *;cases hx:ev env x with
   | none=>rw[hx]at h;exact h.elim
   | some vx=>
     rw[hx]at h
     try simp only[Ez]at h ⊢
     obtain⟨v,h3,h4⟩:=jg h;exact⟨v,h3,fun Z' k' kp' hs hv=>h4 _ _ (hs.resolve_left (by simp)) hv⟩
  case lookup ks z ok x y=>
   simp only[Fb]at *;cases hx:ev env x with
   | none=>rw[hx]at h;exact h.elim
   | some vx=>
     rw[hx]at h
     try simp only[Ez]at h ⊢
     cases hy:ev env y with
     | none=>rw[hy]at h;exact h.elim
     | some vy=>
       rw[hy]at h
       try simp only[Ez]at h ⊢
       obtain⟨v,h1,h2⟩:=XI h;exact⟨v,h1,fun Z' k' kp' hs hk'=>h2 Z' _ (hs.resolve_left (by simp)) hk'⟩
  case Ra a b x y=>
   simp only[Fb]at *;cases hx:ev env x with
   | none=>rw[hx]at h;exact h.elim
   | some vx=>
     rw[hx]at h
     try simp only[Ez]at h ⊢
     cases hy:ev env y with
     | none=>rw[hy]at h;exact h.elim
     | some vy=>
       rw[hy]at h
       try simp only[Ez]at h ⊢
       obtain⟨v,h1,h2⟩:=dg h;exact⟨v,h1,fun Z' k' kp' hs hk'=>h2 Z' _ (hs.resolve_left (by simp)) hk'⟩
  case slice s x a b c=>
   cases c with
   | some c=>simp[kd]at hk
   | none=>
     simp only[Fb]at *;cases hx:ev env x with
     | none=>rw[hx]at h;exact h.elim
     | some vx=>
       rw[hx]at h
       try simp only[Ez]at h ⊢
       cases ha:HX env a with
       | none=>rw[ha]at h;exact h.elim
       | some va=>
         rw[ha]at h
         try simp only[ZX]at h ⊢
         cases hb:HX env b with
         | none=>rw[hb]at h;exact h.elim
         | some vb=>
           rw[hb]at h;simp only[ZX,HX]at h ⊢;obtain⟨v,h1,h2⟩:=Ys h;exact⟨v,h1,fun Z' k' kp' _ hk'=>h2 Z' k' hk'⟩
  case append a b x y=>
   exfalso;simp only[kd]at hk;split at hk<;>cases hk
end Go.Gl
namespace Go.Gl
variable {P:Program} {F:Nat->Prop} {Z:AE}
def Gr (Z:AE) (D:Nat->Prop):AE:=fun n=>open Classical in if D n then Z n else none
def DP {D:Nat->Prop} {n:Nat} (h:D n):Gr Z D n=Z n:=by unfold Gr;rw[if_pos h]
def DU {D:Nat->Prop} {n:Nat} (h: ¬D n):Gr Z D n=none:=by unfold Gr;rw[if_neg h]
def join (Z τ:AE):AE:=fun n=>match Z n with|some o=>some o|none=>τ n
def A6.frame {f:FuncId} {args:List V} {Q:R->AE->Prop} (D:Nat->Prop) (h:A6 P f args (Gr Z D) Q) :
    A6 P f args Z fun r Z'=> ∃Z1,Q r Z1/\(∀n,¬D n->Z n≠none->Z1 n=none)/\Z'=join Z1 (Gr Z fun n=> ¬D n):=by
 refine⟨h.1,fun F w cs hR hv=>?_⟩
 have hH:(Hh (fun n=>F n\/(¬D n/\Z n≠none)) (Gr Z D) w)=Hh F Z w:=by
  funext b o;unfold Hh;by_cases hb:F b\/(Z b).isSome=true
  .rw[if_pos hb,if_pos]
   rcases hb with hb|hb
   .exact .inl (.inl hb)
   .by_cases hd:D b
    .exact .inr (by rw[DP hd];exact hb)
    .exact .inl (.inr ⟨hd,by intro e;rw[e]at hb;cases hb⟩)
  .rw[if_neg hb,if_neg]
   rintro((h|h)|h)
   .exact hb (.inl h)
   .exact hb (.inr (by cases hs:Z b with|none=>exact absurd hs h.2|some o=>rfl))
   .by_cases hd:D b
    .rw[DP hd]at h;exact hb (.inr h)
    .rw[DU hd]at h;cases h
 have hR1:Rel (fun n=>F n\/(¬D n/\Z n≠none)) (Gr Z D) w:=by
  refine⟨fun n o ho=>?_,fun n hn=>?_⟩
  .by_cases hd:D n
   .rw[DP hd]at ho
    obtain⟨h1,ob,h2,h3⟩:=hR.own n o ho;refine⟨?_,ob,h2,by rw[hH];exact h3⟩;rintro(h|h)
    .exact h1 h
    .exact h.1 hd
   .rw[DU hd]at ho;cases ho
  .rcases hn with hn|hn
   .exact hR.lock n hn
   .cases hs:Z n with
    | none=>exact absurd hs hn.2
    | some o=>exact hR.lt hs
 refine Calls.mono (h.2 _ w cs hR1 (by rw[hH];exact hv)) fun e w' ⟨r,Z1,hq,h1,h2,h3⟩=>?_
 have hfr: ∀n,¬D n->Z n≠none->Z1 n=none:=fun n hd hn=>by
  cases hs:Z1 n with
  | none=>rfl
  | some o=>exact absurd (.inr ⟨hd,hn⟩) (h2.own n o hs).1
 have hle:ZB (Hh (fun n=>F n\/(¬D n/\Z n≠none)) Z1 w') (Hh F (join Z1 (Gr Z fun n=> ¬D n)) w'):=by
  intro b o c hc;obtain⟨k1,k2,k3⟩:=F8 hc;rw[OD (fun h=>k1 (.inl h)) ?_]
  .exact k3
  .simp only[join,k2]
   by_cases hd:D b
   .exact DU (fun h=>h hd)
   .rw[DP hd]
    cases hs:Z b with
    | none=>rfl
    | some o=>exact absurd (.inr ⟨hd,by rw[hs];simp⟩) k1
 have hA:Bw F Z w (join Z1 (Gr Z fun n=> ¬D n)) w':=by
  refine⟨fun n hn h0=>h3.frame n hn ?_,h3.size,h3.os,h3.tape,h3.output,fun n h0 hn=>?_⟩
  .by_cases hd:D n
   .rw[DP hd];exact h0
   .exact DU hd
  .have:Z1 n=none:=h3.names n (by
    by_cases hd:D n
    .rw[DP hd];exact h0
    .exact DU hd) hn
   simp only[join,this];by_cases hd:D n
   .exact DU (fun h=>h hd)
   .rw[DP hd];exact h0
 refine⟨r,_,⟨Z1,hq,hfr,rfl⟩,?_,⟨fun n o ho=>?_,fun n hn=>h2.lock n (.inl hn)⟩,hA⟩
 .cases r with
  | ret v=>obtain⟨c,rfl,hv⟩:=h1;exact⟨c,rfl,hv.mono hle⟩
  | Bd v=>obtain⟨c,rfl,hv⟩:=h1;exact⟨c,rfl,hv.mono hle⟩
 .simp only[join]at ho
  cases hs:Z1 n with
  | some o1=>
    rw[hs]at ho;simp only[HR]at ho;subst ho;obtain⟨k1,ob,k2,k3⟩:=h2.own n _ hs;exact⟨fun h=>k1 (.inl h),ob,k2,k3.mono hle⟩
  | none=>
    rw[hs]at ho;simp only at ho;by_cases hd:D n
    .rw[DU (fun h=>h hd)]at ho;cases ho
    .rw[DP hd]at ho
     obtain⟨k1,ob,k2,k3⟩:=hR.own n o ho;refine⟨k1,ob,(h3.frame n (hR.lt ho) (DU hd)).trans k2,k3.mono ?_⟩;exact hA.hle
end Go.Gl
namespace Go.Gl
variable {P:Program} {F:Nat->Prop} {env env':Env} {Z:AE}
def Bn {o:Option V} {k k':V->Prop} (h:wv o k) (hm: ∀v,k v->k' v):wv o k':=by
 cases o with
 | none=>exact h
 | some v=>exact hm v h
def Lt {o:Option (List V)} {k k':List V->Prop} (h:ws o k) (hm: ∀v,k v->k' v):ws o k':=by
 cases o with
 | none=>exact h
 | some v=>exact hm v h
def T3 {o:Option (Option V)} {k k':Option V->Prop} (h:wo o k) (hm: ∀v,k v->k' v):wo o k':=by
 cases o with
 | none=>exact h
 | some v=>exact hm v h
def W6 {sz:Nat} {a x:V} {k k':AE->Prop} (h:AT Z sz a x k) (hm: ∀Z',k Z'->k' Z'):AT Z sz a x k':=by
 unfold AT at *;split at h
 .rename_i vc hc
  obtain⟨h1,h2,h3⟩:=h;refine⟨h1,h2,?_⟩;cases a<;>first|exact h3.elim|skip
  .simp only at *
   split at h3
   .exact⟨h3.1,hm _ h3.2⟩
   .exact h3.elim
  .simp only at *
   split at h3
   .refine⟨h3.1,?_⟩
    have h4:=h3.2;split at h4
    .exact⟨h4.1,hm _ h4.2⟩
    .exact h4.elim
   .exact h3.elim
 .exact h.elim
def Eh {sz:Nat} {y:V} {k k':List (List V)->Prop} (h:rowsOf Z sz y k) (hm: ∀v,k v->k' v):rowsOf Z sz y k':=by
 unfold rowsOf at *;cases y<;>first|exact h.elim|skip
 .exact⟨h.1,hm _ h.2⟩
 .simp only at *
  split at h
  .exact⟨h.1,h.2.1,hm _ h.2.2⟩
  .exact h.elim
 .simp only at *
  split at h
  .exact⟨h.1,h.2.1,h.2.2.1,hm _ h.2.2.2⟩
  .exact h.elim
def Mj {b sz:Nat} {x y:V} {k k':V->AE->Prop} (h:AI b Z sz x y k) (hm: ∀v Z',k v Z'->k' v Z'):AI b Z sz x y k':=by
 unfold AI at *;refine Eh h fun ys ⟨h1,h2⟩=>⟨h1,?_⟩
 cases x<;>first|exact h2.elim|skip
 .simp only at *
  exact⟨h2.1,h2.2.1,fun e=>hm _ _ (h2.2.2.1 e),fun e=>⟨(h2.2.2.2 e).1,fun n cap h3 h4=>hm _ _ ((h2.2.2.2 e).2 n cap h3 h4)⟩⟩
 .simp only at *
  split at h2
  .exact⟨h2.1,h2.2.1,h2.2.2.1,h2.2.2.2.1,fun n cap h3 h4=>hm _ _ (h2.2.2.2.2 n cap h3 h4)⟩
  .exact h2.elim
def Ho {o:Option V} {d:Int} {k k':Int->Prop} (h:N2 o d k) (hm: ∀v,k v->k' v):N2 o d k':=by
 unfold N2 at *;split at h
 .exact hm _ h
 .exact hm _ h
 .exact h.elim
def W8 {sz:Nat} {x:V} {a b c:Option V} {k k':V->AE->Prop} (h:AQ Z sz x a b c k) (hm: ∀v Z',k v Z'->k' v Z'):AQ Z sz x a b c k':=by
 unfold AQ at *;cases x<;>first|exact h.elim|skip
 .simp only at *
  refine⟨h.1,Ho h.2 fun hh h2=>Ho h2 fun l h3=>⟨h3.1,h3.2.1,h3.2.2.1,?_⟩⟩;have h4:=h3.2.2.2;split at h4
  .exact hm _ _ h4
  .exact⟨h4.1,hm _ _ h4.2⟩
  .exact h4.elim
 .simp only at *
  refine Ho h fun hh h2=>Ho h2 fun l h3=>⟨h3.1,h3.2.1,h3.2.2.1,?_⟩
  have h4:=h3.2.2.2;split at h4
  .exact hm _ _ h4
  .refine⟨h4.1,h4.2.1,h4.2.2.1,?_⟩
   have h5:=h4.2.2.2;split at h5
   .exact⟨h5.1,h5.2.1,h5.2.2.1,h5.2.2.2.elim (fun h=> .inl (hm _ _ h)) fun h=> .inr (hm _ _ h)⟩
   .exact h5.elim
  .exact h4.elim
 .simp only at *
  exact Ho h fun hh h2=>Ho h2 fun l h3=>⟨h3.1,h3.2.1,h3.2.2.1,h3.2.2.2.1,h3.2.2.2.2.1,hm _ _ h3.2.2.2.2.2⟩
def Sg {sz:Nat} {ys:List (List V)} {n off len:Nat} {k k':V->AE->Prop} (h:PD Z sz ys n off len k) (hm: ∀v Z',k v Z'->k' v Z'):PD Z sz ys n off len k':=by
 unfold PD at *;split at h
 .exact⟨h.1,h.2.1,hm _ _ h.2.2⟩
 .exact h.elim
def YX {sz:Nat} {x y:V} {k k':V->AE->Prop} (h:Ad Z sz x y k) (hm: ∀v Z',k v Z'->k' v Z'):Ad Z sz x y k':=by
 refine Eh h fun ys h=>⟨h.1,?_⟩
 have h:=h.2;split at h
 .exact Sg h hm
 .exact⟨h.1,Sg h.2 hm⟩
 .exact h.elim
def QI {o:Fx} {k k' kp kp':V->AE->Prop} (h:Fb P o env Z k kp) (hm: ∀v Z',k v Z'->k' v Z') (hp: ∀v Z',kp v Z'->kp' v Z'):Fb P o env Z k' kp':=by
 by_cases hs:still o=true
 .obtain⟨v,h1,h2⟩:=Hy hs h
  exact h2 Z k' kp' (.inr fun _ _ h=>h) (hm _ _ h1)
 .cases o<;>first|(exact absurd rfl hs)|skip
  all_goals simp only[Fb]at *
  case box x=>
   refine Bn h fun v h=>?_
   split at h
   .exact fun n hn=>hm _ _ (h n hn)
   .exact h.elim
  case alloc z=>exact fun n hn=>hm _ _ (h n hn)
  case lJ x=>exact Bn h fun v ⟨vf,Z2,h1,h2,h3⟩=>⟨vf,Z2,h1,h2,hm _ _ h3⟩
  case N5=>exact fun n hn=>hm _ _ (h n hn)
  case FQ ks x y z=>
   refine Bn h fun vm h=>Bn h fun vk h=>Bn h fun vx h=>?_
   unfold AO at *;obtain⟨h0,h⟩:=h;cases vm<;>first|exact h.elim|skip
   simp only at *;split at h
   .exact⟨h0,h.1,hm _ _ h.2⟩
   .exact h.elim
  case bQ q n x=>
   refine Bn h fun vx h=>?_
   unfold JJ at *;split at h<;>first|exact h.elim|exact hm _ _ h|exact⟨fun e t=>hm _ _ (h.1 e t),fun e=>hm _ _ (h.2 e)⟩
  case F4 a b c x y=>
   refine Bn h fun vx h=>Bn h fun vy h=>?_
   unfold AK at *;split at h
   .exact⟨h.1,h.2.1,h.2.2.1,fun id hn=>hm _ _ (h.2.2.2 id hn)⟩
   .exact h.elim
  case store sz a x=>exact Bn h fun va h=>Bn h fun vx h=>W6 h fun Z' h=>hm _ _ h
  case slice sz x a b c=>exact Bn h fun vx h=>T3 h fun l h=>T3 h fun hh h=>T3 h fun m h=>W8 h hm
  case append sz b x y=>exact Bn h fun vx h=>Bn h fun vy h=>Mj h hm
  case copy sz x y=>exact Bn h fun vx h=>Bn h fun vy h=>YX h hm
  case inv tab x as=>exact Bn h fun vx h=>Lt h fun vs h=>h.mono fun r Z' h=>by cases r<;>first|exact hm _ _ h|exact hp _ _ h
  case panic x=>
   refine Bn h fun vx h=>?_
   split at h
   .exact hp _ _ h
   .exact h.elim
  case call f as=>exact Lt h fun vs h=>h.mono fun r Z' h=>by cases r<;>first|exact hm _ _ h|exact hp _ _ h
  case Ix x as=>
   exact Bn h fun vx h=>Lt h fun vs h=>h.mono fun r Z' h=>by cases r<;>first|exact hm _ _ h|exact hp _ _ h
def Gv {n:Nat} {o:O} (hn:Z n=none):Sub Z (BV Z n o):=fun m p hp=>by
 unfold BV;split
 .rename_i e
  subst e;rw[hn]at hp;cases hp
 .exact hp
def calm (o:Fx):Bool:=match kd o with| .H=>false|_=>true
def OO {b sz:Nat} {y:V} {k:V->AE->Prop}:AI b Z sz (.l [] true) y k=rowsOf Z sz y fun ys=>(∀e∈ys,∀v∈e,CE v=true)/\(ys.length<=AX/\ys.length*b<=140737488355328)/\(ys= []->k (.l [] true) Z)/\
 (ys≠[]-> ∀n cap,Z n=none->ys.length<=cap->k (.sl n ys.length cap) (BV Z n (.arr sz ys cap))):=by
 simp[AI]
def OF {s:Nat} {x:Bi} {a b c:Option Bi} (h:calm (.slice s x a b c)=true):still (.slice s x a b c)=true:=by
 cases c with
 | none=>rfl
 | some c=>cases h
def Sf {a b:Nat} {x y:Bi} (h:kd (.append a b x y)≠ .H):x= .c (.l [] true):=by
 simp only[kd]at h;split at h
 .rfl
 .exact absurd rfl h
def bJ {o:Fx} (hc:calm o=true) {k kp:V->AE->Prop} (h:Fb P o env Z k kp):Fb P o env Z (fun v Z'=>k v Z'/\Sub Z Z') kp:=by
 by_cases hs:still o=true
 .obtain⟨v,h1,h2⟩:=Hy hs h
  exact h2 Z _ kp (.inr fun _ _ h=>h) ⟨h1,fun _ _ h=>h⟩
 .cases o<;>first|(exact absurd rfl hs)|(cases hc;done)|skip
  all_goals simp only[Fb]at *
  case slice s x a b c=>exact absurd (OF hc) hs
  case box x=>
   refine Bn h fun v h=>?_
   split at h
   .exact fun n hn=>⟨h n hn,Gv hn⟩
   .exact h.elim
  case alloc z=>exact fun n hn=>⟨h n hn,Gv hn⟩
  case append sz b x y=>
   have hx:x= .c (.l [] true):=Sf (b:=b) (a:=sz) (y:=y) (by intro e;simp[calm,e]at hc);subst hx;change wv (ev env y) _ at h;change wv (ev env y) _;refine Bn h fun vy h=>?_
   rw[OO]at *;exact Eh h fun ys h=>⟨h.1,h.2.1,fun e=>⟨h.2.2.1 e,fun _ _ h=>h⟩,fun e n cap h3 h4=>⟨h.2.2.2 e n cap h3 h4,Gv h3⟩⟩
def Po {n m:Nat} (h:n≠m) (a b:O):BV (BV Z n a) m b=BV (BV Z m b) n a:=by
 funext k;unfold BV;by_cases h1:k=m
 .have h2:k≠n:=fun e=>h (e.symm.trans h1)
  rw[if_pos h1,if_neg h2,if_pos h1]
 .rw[if_neg h1,if_neg h1]
def Kq {n m:Nat} (h:n≠m) {a:O}:BV Z n a m=Z m:=by
 unfold BV;rw[if_neg (fun e=>h e.symm)]
def M9 {n:Nat} {a:O}:BV Z n a n=some a:=by simp[BV]
def YH {Z':AE} (hs:Sub Z Z') {sz:Nat} {y:V} {k:List (List V)->Prop} (h:rowsOf Z sz y k):rowsOf Z' sz y k:=by
 unfold rowsOf at *;cases y<;>first|exact h.elim|exact h|skip
 .rename_i m len cap
  simp only at *;cases hm:Z m with
  | none=>rw[hm]at h;exact h.elim
  | some o=>rw[hm]at h;rw[hs m o hm];exact h
 .rename_i m s off len
  simp only at *;cases hm:Z m with
  | none=>rw[hm]at h;exact h.elim
  | some o=>rw[hm]at h;rw[hs m o hm];exact h
def Wi {o:Fx} (hc:calm o=true) {k kp:V->AE->Prop} (h:Fb P o env Z k kp) {m:Nat} {z:O} (hm:Z m=none) :
    Fb P o env (BV Z m z) (fun v Z2=> ∃Z1,k v Z1/\Z1 m=none/\Z2=BV Z1 m z) kp:=by
 by_cases hs:still o=true
 .obtain⟨v,h1,h2⟩:=Hy hs h
  exact h2 _ _ kp (.inr (Gv hm)) ⟨Z,h1,hm,rfl⟩
 .have hne: ∀n,BV Z m z n=none->Z n=none/\n≠m:=fun n hn=>by
   have:n≠m:=fun e=>by rw[e,M9]at hn;cases hn
   exact⟨by rwa [Kq this.symm]at hn,this⟩
  cases o<;>first|(exact absurd rfl hs)|(cases hc;done)|skip
  all_goals simp only[Fb]at *
  case slice s x a b c=>exact absurd (OF hc) hs
  case box x=>
   refine Bn h fun v h=>?_
   split at h
   .exact fun n hn=>⟨_,h n (hne n hn).1,by rw[Kq (hne n hn).2];exact hm,Po (hne n hn).2.symm _ _⟩
   .exact h.elim
  case alloc z'=>exact fun n hn=>⟨_,h n (hne n hn).1,by rw[Kq (hne n hn).2];exact hm,Po (hne n hn).2.symm _ _⟩
  case append sz b x y=>
   have hx:x= .c (.l [] true):=Sf (b:=b) (a:=sz) (y:=y) (by intro e;simp[calm,e]at hc);subst hx;change wv (ev env y) _ at h;change wv (ev env y) _;refine Bn h fun vy h=>?_
   rw[OO]at *;refine Eh (YH (Gv hm) h) fun ys h=>⟨h.1,h.2.1,fun e=>⟨Z,h.2.2.1 e,hm,rfl⟩,fun e n cap h3 h4=>?_⟩
   exact⟨_,h.2.2.2 e n cap (hne n h3).1 h4,by rw[Kq (hne n h3).2];exact hm,Po (hne n h3).2.symm _ _⟩
def Xs:Fx->Bool| .call _ _=>true|_=>false
def Wj {o:Fx} (hc:Xs o=true) {k kp:V->AE->Prop} (hU: ∀v Z m z,Z m=none->kp v Z->kp v (BV Z m z)) (h:Fb P o env Z k kp) {m:Nat} {z:O} (hm:Z m=none) :
    Fb P o env (BV Z m z) (fun v Z2=> ∃Z1,k v Z1/\Z1 m=none/\Z2=BV Z1 m z) kp:=by
 cases o<;>first|(cases hc;done)|skip
 rename_i f args;simp only[Fb]at *;refine Lt h fun vs h=>?_
 have hr:Gr (BV Z m z) (fun n=>n≠m)=Z:=by
  funext n;by_cases hn:n=m
  .subst hn;rw[DU (fun h=>h rfl),hm]
  .rw[DP hn];simp[BV,hn]
 have h':A6 P f vs (Gr (BV Z m z) fun n=>n≠m) (qk k kp):=by rw[hr];exact h
 refine A6.mono (A6.frame (fun n=>n≠m) h') fun r Z' ⟨Z1,hq,hfr,he⟩=>?_
 have h1:Z1 m=none:=hfr m (fun h=>h rfl) (by rw[M9];simp)
 have h2:Z'=BV Z1 m z:=by
  rw[he];funext n;simp only[join];by_cases hn:n=m
  .subst hn
   rw[h1];simp only;rw[DP (fun h=>h rfl),M9,M9]
  .rw[DU (fun h=>h hn)]
   cases hs:Z1 n with
   | none=>simp[BV,hn,hs]
   | some o=>simp[BV,hn,hs]
 cases r with
 | ret v=>exact⟨Z1,hq,h1,h2⟩
 | Bd v=>rw[h2];exact hU _ _ _ _ h1 hq
structure Ao where
 dst:Option Nat
 op:Fx
 guard:Option (Nat×Bool)
 deriving Inhabited
def put (d:Option Nat) (v:V) (env:Env):Env:=match d with|some d=>(d,v)::env|none=>env
def H4 (P:Program) (o:Ao) (env:Env) (Z:AE) (k kp:V->AE->Prop):Prop:=
 match o.guard with
 | none=>Fb P o.op env Z k kp
 | some (g,b)=>match get g env with
   | some (.b t)=>(t=b->Fb P o.op env Z k kp)/\(t= !b->k (.t []) Z)
   | some (.t [])=>k (.t []) Z
   | _=>False
def looks (o:Ao):List Nat:=reads o.op++(match o.guard with|some (g,_)=>[g]|none=>[])
def GI {o:Ao} {k kp:V->AE->Prop} (h: ∀s∈looks o,get s env'=get s env):H4 P o env' Z k kp=H4 P o env Z k kp:=by
 unfold H4;unfold looks at h;cases hg:o.guard with
 | none=>exact TF fun s hs=>h s (Q9 _ hs)
 | some p=>
   obtain⟨g,b⟩:=p;simp only;rw[h g (by rw[hg];simp),TF fun s hs=>h s (Q9 _ hs)]
def CC {o:Ao} {k k' kp kp':V->AE->Prop} (h:H4 P o env Z k kp) (hm: ∀v Z',k v Z'->k' v Z') (hp: ∀v Z',kp v Z'->kp' v Z'):H4 P o env Z k' kp':=by
 unfold H4 at *;split at h
 .exact QI h hm hp
 .split at h
  .exact⟨fun e=>QI (h.1 e) hm hp,fun e=>hm _ _ (h.2 e)⟩
  .exact hm _ _ h
  .exact h.elim
def TG {o:Ao} (hs:still o.op=true) {k kp:V->AE->Prop} (h:H4 P o env Z k kp) :
    ∃v,k v Z/\ ∀Z' (k' kp':V->AE->Prop),(kd o.op= .P\/Sub Z Z')->k' v Z'->H4 P o env Z' k' kp':=by
 unfold H4 at *;split at h
 .obtain⟨v,h1,h2⟩:=Hy hs h
  exact⟨v,h1,fun Z' k' kp' hσ hk=>h2 Z' k' kp' hσ hk⟩
 .rename_i g b hg
  split at h
  .rename_i t ht
   skip
   by_cases htb:t=b
   .obtain⟨v,h1,h2⟩:=Hy hs (h.1 htb)
    refine⟨v,h1,fun Z' k' kp' hσ hk=>?_⟩;exact⟨fun _=>h2 Z' k' kp' hσ hk,fun e=>absurd (htb.symm.trans e) (by cases b<;>simp)⟩
   .refine⟨.t [],h.2 (by cases t<;>cases b<;>simp_all),fun Z' k' kp' hσ hk=>?_⟩
    exact⟨fun e=>absurd e htb,fun _=>hk⟩
  .exact⟨.t [],h,fun Z' k' kp' hσ hk=>hk⟩
  .exact h.elim
def bK {o:Ao} (hc:calm o.op=true) {k kp:V->AE->Prop} (h:H4 P o env Z k kp):H4 P o env Z (fun v Z'=>k v Z'/\Sub Z Z') kp:=by
 unfold H4 at *;split at h
 .exact bJ hc h
 .split at h
  .exact⟨fun e=>bJ hc (h.1 e),fun e=>⟨h.2 e,fun _ _ h=>h⟩⟩
  .exact⟨h,fun _ _ h=>h⟩
  .exact h.elim
def kx {o:Ao} (hc:calm o.op=true) {k kp:V->AE->Prop} (h:H4 P o env Z k kp) {m:Nat} {z:O} (hm:Z m=none) :
    H4 P o env (BV Z m z) (fun v Z2=> ∃Z1,k v Z1/\Z1 m=none/\Z2=BV Z1 m z) kp:=by
 unfold H4 at *;split at h
 .exact Wi hc h hm
 .split at h
  .exact⟨fun e=>Wi hc (h.1 e) hm,fun e=>⟨Z,h.2 e,hm,rfl⟩⟩
  .exact⟨Z,h,hm,rfl⟩
  .exact h.elim
def ZH (o:Fx):Bool:=calm o||Xs o
def eF {o:Ao} (hc:ZH o.op=true) {k kp:V->AE->Prop} (hU: ∀v Z m z,Z m=none->kp v Z->kp v (BV Z m z)) (h:H4 P o env Z k kp) {m:Nat} {z:O} (hm:Z m=none) :
    H4 P o env (BV Z m z) (fun v Z2=> ∃Z1,k v Z1/\Z1 m=none/\Z2=BV Z1 m z) kp:=by
 cases hc':calm o.op with
 | true=>exact kx hc' h hm
 | false=>
   have hc2:Xs o.op=true:=by simpa[ZH,hc']using hc
   unfold H4 at *;split at h
   .exact Wj hc2 hU h hm
   .split at h
    .exact⟨fun e=>Wj hc2 hU (h.1 e) hm,fun e=>⟨Z,h.2 e,hm,rfl⟩⟩
    .exact⟨Z,h,hm,rfl⟩
    .exact h.elim
end Go.Gl
