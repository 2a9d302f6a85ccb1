import Derived.Test.YtcfkfhaedllcpaaGreatW37
set_option linter.all false
set_option linter.defProp false
set_option maxHeartbeats 8000000
noncomputable section
namespace Go.Gl
variable {P:Program} {Y Y':Ren} {Z:AE} {env env₀:Env}
def ob {α β:Type} (o:Option α) (k:α->Option β):Option β:=match o with|some v=>k v|none=>none
def AP {α β:Type} {o:Option α} {k:α->Option β} {r:β} (h:ob o k=some r): ∃v,o=some v/\k v=some r:=by
 cases o with
 | none=>cases h
 | some v=>exact⟨v,rfl,h⟩
def x6 (Y:Ren):Aa->Aa->Prop
 | .Bb v,x=> ∃v',RV Y v v'/\x= .Bb v'
 | .normal,x=>x= .normal
 | .ret,x=>x= .ret
 | .exit id,x=>x= .exit id
def oE (Y:Ren):R->R->Prop
 | .ret v,r=> ∃v',RV Y v v'/\r= .ret v'
 | .Bb v,r=> ∃v',RV Y v v'/\r= .Bb v'
abbrev CF:=FuncId->List V->St->Option (R×St)
abbrev CV:=V->List V->St->Option (R×St)
abbrev CP:=FuncId->List V->Option V
def Kp (P:Program) (c:CF):Prop:= ∀f vs s r s',c f vs s=some (r,s')-> ∀Y vs' Z,LK Y vs vs'->SR P Y s Z-> ∀Q:R->AE->Prop,(∀Y' r' Z',Y.le Y'->oE Y' r r'->SR P Y' s' Z'->Q r' Z')->A3 P f vs' Z Q
def Jj (P:Program) (c:CV):Prop:= ∀x vs s r s',c x vs s=some (r,s')-> ∀Y x' vs' Z,RV Y x x'->LK Y vs vs'->SR P Y s Z-> ∀Q:R->AE->Prop,(∀Y' r' Z',Y.le Y'->oE Y' r r'->SR P Y' s' Z'->Q r' Z')->Ax P x' vs' Z Q
def NA (P:Program) (c:CP):Prop:= ∀f vs v,c f vs=some v->B6 vs=true/\BJ v=true/\Pure P f vs v
def ov (o:Option V) (s:St):Option (R×St):=match o with|some v=>some (.ret v,s)|none=>none
def CM {o:Option V} {s s':St} {r:R} (h:ov o s=some (r,s')): ∃v,o=some v/\r= .ret v/\s'=s:=by
 cases o with
 | none=>cases h
 | some v=>cases h;exact⟨v,rfl,rfl,rfl⟩
def os (o:Option St):Option (R×St):=match o with|some s=>some (.ret (.t []),s)|none=>none
def lV {o:Option St} {s':St} {r:R} (h:os o=some (r,s')):o=some s'/\r= .ret (.t []):=by
 cases o with
 | none=>cases h
 | some v=>cases h;exact⟨rfl,rfl⟩
def aV (o:Option (V×St)):Option (R×St):=match o with|some (v,s)=>some (.ret v,s)|none=>none
def L2 {o:Option (V×St)} {s':St} {r:R} (h:aV o=some (r,s')): ∃v,o=some (v,s')/\r= .ret v:=by
 cases o with
 | none=>cases h
 | some v=>cases h;exact⟨_,rfl,rfl⟩
def KY (env:Env):Option Bf->Option (Option V)
 | none=>some none
 | some x=>match DN env x with|some v=>some (some v)|none=>none
def NM (he:RE Y env env₀) {x:Option Bf} {v:Option V} (h:KY env x=some v): ∃v',HG env₀ x=some v'/\oD Y v v':=by
 cases x with
 | none=>cases h;exact⟨none,rfl,rfl⟩
 | some x=>
   simp only[KY]at h;split at h
   .rename_i u hu
    cases h;obtain⟨v',h1,h2⟩:=Ar he hu;exact⟨some v',by simp only[HG,h1],v',h2,rfl⟩
   .cases h
def dz (t:TypeId) (z:V) (ok:Bool) (x:V):Option V:=
 match x with
 | .Ey t' v=>bif Nat.beq t' t then some (bif ok then .t [v,.b true]else v)else(bif ok&&BJ z then some (.t [z,.b false])else none)
 | .DZ=>bif ok&&BJ z then some (.t [z,.b false])else none
 | _=>none
def M3 (x:V):Option V:=
 match x with
 | .p n off=>some (.p n off)
 | .rp cs=>some (.rp cs)
 | .pe n sz i off=>some (.pe n sz i off)
 | .f (.func f) a b=>some (.f (.func f) a b)
 | .f (.yield f) a b=>some (.f (.yield f) a b)
 | _=>none
def Fg (cf:CF) (cv:CV) (cp:CP) (o:Fh) (env:Env) (s:St):Option (R×St):=
 match o with
 | .mv x=>ov (DN env x) s
 | .jy x=>ov (DN env x) s
 | .pick c a b=>ob (DN env c) fun vc=>ob (DN env a) fun va=>ob (DN env b) fun vb=>match vc with| .b t=>some (.ret (bif t then va else vb),s)|_=>none
 | .bin op x y=>ob (DN env x) fun vx=>ob (DN env y) fun vy=>ov (Uw op vx vy) s
 | .kD neg x y=>ob (DN env x) fun vx=>ob (DN env y) fun vy=>match vx,vy with| .b p,.b q=>some (.ret (.b (bif neg then p != q else p==q)),s)|_,_=>none
 | .not x=>ob (DN env x) fun vx=>match vx with| .b p=>some (.ret (.b (!p)),s)|_=>none
 | .neg xor x=>ob (DN env x) fun vx=>match vx with| .i ka a=>some (.ret (.i ka (bif xor then bits .xor ka (bif ka.signed then -1 else ka.max) a else ka.wrap (0 - a))),s)|_=>none
 | .conv ka x=>ob (DN env x) fun vx=>match vx with| .i _ a=>some (.ret (.i ka (IP ka a)),s)|_=>none
 | .box x=>ob (DN env x) fun vx=>ob (cellsOf vx) fun cs=>s.new (.cs cs) fun i s'=>some (.ret (.p i 0),s')
 | .Q8 x=>ob (DN env x) fun vx=>ob (cellsOf vx) fun cs=>some (.ret (.rp cs),s)
 | .Q9 sz b x y=>ob (DN env x) fun vx=>ob (DN env y) fun vy=>ov (VE b s sz vx vy) s
 | .alloc z=>bif B6 z then s.new (.cs z) fun i s'=>some (.ret (.p i 0),s')else none
 | .build z parts=>bif B6 z then ob (M5 env z parts) fun cs=>some (.ret (.a cs),s)else none
 | .Di _ len z parts=>bif B6 z then ob (M6 env z.length (List.replicate len z) parts) fun es=>some (.ret (.l es true),s)else none
 | .load agg x=>ob (DN env x) fun vx=>ov (Ny s agg vx) s
 | .store sz a x=>ob (DN env a) fun va=>ob (DN env x) fun vx=>os (PO s sz va vx)
 | .Bs off x=>ob (DN env x) fun vx=>ov (Te off vx) s
 | .field agg off x=>ob (DN env x) fun vx=>match vx with| .a cs=>ov (Uu agg cs off) s|_=>none
 | .I7 sz arr x i=>ob (DN env x) fun vx=>ob (DN env i) fun vi=>ov (M4 sz arr vx vi) s
 | .index len sz agg x i=>ob (DN env x) fun vx=>ob (DN env i) fun vi=>ov (PR len sz agg vx vi) s
 | .slice sz x lo hi mx=>ob (DN env x) fun vx=>ob (KY env lo) fun l=>ob (KY env hi) fun h=>ob (KY env mx) fun m=>aV (PQ s sz vx l h m)
 | .len x=>ob (DN env x) fun vx=>ov (az vx) s
 | .TC x=>ob (DN env x) fun vx=>ov (VC s vx) s
 | .Uk x i=>ob (DN env x) fun vx=>ob (DN env i) fun vi=>ov (VB vx vi) s
 | .str x=>ob (DN env x) fun vx=>ov (eE s vx) s
 | .append sz b x y=>ob (DN env x) fun vx=>ob (DN env y) fun vy=>aV (Lo b s sz vx vy)
 | .copy sz x y=>ob (DN env x) fun vx=>ob (DN env y) fun vy=>aV (VD s sz vx vy)
 | .Um x y=>ob (DN env x) fun vx=>ob (DN env y) fun vy=>match vx,vy with| .i ka a,.i kb b=>bif decide (ka=kb)then some (.ret (.i ka (bif Mh a b then b else a)),s)else none|_,_=>none
 | .Ul x y=>ob (DN env x) fun vx=>ob (DN env y) fun vy=>match vx,vy with| .i ka a,.i kb b=>bif decide (ka=kb)then some (.ret (.i ka (bif Mh b a then b else a)),s)else none|_,_=>none
 | .extract i x=>ob (DN env x) fun vx=>match vx with| .t vs=>ov (vs[i]?) s|_=>none
 | .EX x=>ob (DN env x) fun vx=>ov (M3 vx) s
 | .Yi f first cap=>ob (OP env first) fun vf=>ob (OP env cap) fun vc=>bif Mu f then some (.ret (.f f vf vc),s)else none
 | .Nq t x=>ob (DN env x) fun vx=>some (.ret (.Ey t vx),s)
 | .aT t z ok x=>ob (DN env x) fun vx=>ov (dz t z ok vx) s
 | .panic x=>ob (DN env x) fun vx=>match vx with| .Ey t v=>some (.Bb (.Ey t v),s)|_=>none
 | .call f args=>ob (OP env args) fun vs=>cf f vs s
 | .W9 len neg x y=>ob (DN env x) fun vx=>ob (DN env y) fun vy=>ov (eG len neg vx vy) s
 | .aX kind neg x=>ob (DN env x) fun vx=>ov (eF kind neg vx) s
 | .Fp sz _ z x y=>ob (DN env x) fun vx=>ob (DN env y) fun vy=>aV (JI s sz z vx vy)
 | .Np=>s.new (.map []) fun i s'=>some (.ret (.m i),s')
 | .lookup ks z ok m key=>ob (DN env m) fun vm=>ob (DN env key) fun vk=>ov (Lm s ks z ok vm vk) s
 | .FG ks m key x=>ob (DN env m) fun vm=>ob (DN env key) fun vk=>ob (DN env x) fun vx=>os (Ll s ks vm vk vx)
 | .HK f args=>ob (OP env args) fun vs=>ov (cp f vs) s
 | .Ih x args=>ob (DN env x) fun vx=>ob (OP env args) fun vs=>cv vx vs s
 | .inv tab x args=>ob (DN env x) fun vx=>ob (OP env args) fun vs=>match vx with| .Ey t v=>ob (look t tab) fun f=>cf f (v::vs) s|_=>none
 | _=>none
def m6 {t:TypeId} {z:V} {ok:Bool} {x x' v:V} (h:dz t z ok x=some v) (hx:RV Y x x') {K:V->Prop} (U: ∀v',RV Y v v'->K v') :
    match(generalizing:=false) x' with
     | .Ey t' v=>(t'=t->K (bif ok then .t [v,.b true]else v))/\(t'≠t->ok=true/\K (.t [z,.b false]))
     | .DZ=>ok=true/\K (.t [z,.b false])
     | _=>False:=by
 have zz: ∀ {v},BJ z=true->some (V.t [z,.b false])=some v->K (.t [z,.b false])->K v:=fun _ e k=>by cases e;exact k
 unfold dz at h;split at h
 .rename_i t' u
  obtain⟨u',h1,rfl⟩:=hx;refine⟨fun e=>?_,fun e=>?_⟩
  .subst e
   rw[Nat.beq_refl]at h;cases h;cases ok with
   | true=>exact U _ (by simp only[cond_true,RV];exact⟨_,BY.2 (F2.cons h1 (F2.cons (RV.pure _ rfl) F2.nil)),rfl⟩)
   | false=>exact U _ h1
  .have hb:Nat.beq t' t=false:=by
    cases hb:Nat.beq t' t with
    | false=>rfl
    | true=>exact absurd (Ct hb) e
   rw[hb]at h;obtain⟨h2,h3⟩:=AW h;simp only[BD]at h2;cases h3;exact⟨h2.1,U _ (by simp only[RV];exact⟨_,BY.2 (F2.cons (RV.pure _ h2.2) (F2.cons (RV.pure _ rfl) F2.nil)),rfl⟩)⟩
 .simp only[RV]at hx
  subst hx;obtain⟨h2,h3⟩:=AW h;simp only[BD]at h2;cases h3;exact⟨h2.1,U _ (by simp only[RV];exact⟨_,BY.2 (F2.cons (RV.pure _ h2.2) (F2.cons (RV.pure _ rfl) F2.nil)),rfl⟩)⟩
 .cases h
def cn {x x' v:V} (h:M3 x=some v) (hx:RV Y x x') {K:V->Prop} (U: ∀v',RV Y v v'->K v') :
    match(generalizing:=false) x' with
     | .p n off=>K (.p n off)
     | .rp cs=>K (.rp cs)
     | .pe n sz i off=>K (.pe n sz i off)
     | .f (.func f) first cap=>K (.f (.func f) first cap)
     | .f (.yield l) first cap=>K (.f (.yield l) first cap)
     | _=>False:=by
 have hv:v=x:=by unfold M3 at h;split at h<;>cases h<;>rfl
 subst hv;have hk:=U _ hx;unfold M3 at h;split at h
 .obtain⟨_,_,rfl⟩:=hx;exact hk
 .obtain⟨_,_,rfl⟩:=hx;exact hk
 .obtain⟨_,_,rfl⟩:=hx;exact hk
 .obtain⟨fn,a,b,h1,_,_,rfl⟩:=hx
  simp only[ae]at h1;subst h1;exact hk
 .obtain⟨fn,a,b,h1,_,_,rfl⟩:=hx
  obtain⟨m,_,rfl⟩:=h1;exact hk
 .cases h
def fk {cf:CF} {cv:CV} {cp:CP} (hcf:Kp P cf) (hcv:Jj P cv) (hcp:NA P cp) {o:Fh} {s s':St} {r:R} (h:Fg cf cv cp o env s=some (r,s')) (he:RE Y env env₀) (hs:SR P Y s Z) {k kp:V->AE->Prop}
    (hk: ∀Y' r' Z',Y.le Y'->oE Y' r r'->SR P Y' s' Z'->qk k kp r' Z'):FQ P o env₀ Z k kp:=by
 have hv: ∀ {v:V},r= .ret v->s'=s-> ∀v',RV Y v v'->k v' Z:=fun e1 e2 v' g=>by
  subst e1;subst e2;exact hk Y (.ret v') Z (.refl _) ⟨v',g,rfl⟩ hs
 have hvs: ∀ {v:V},r= .ret v-> ∀v' Z',RV Y v v'->SR P Y s' Z'->k v' Z':=fun e1 v' Z' g g2=>by
  subst e1;exact hk Y (.ret v') Z' (.refl _) ⟨v',g,rfl⟩ g2
 have hvr: ∀ {v:V},r= .ret v-> ∀Y' v' Z',Y.le Y'->RV Y' v v'->SR P Y' s' Z'->k v' Z':=fun e1 Y' v' Z' g0 g g2=>by
  subst e1;exact hk Y' (.ret v') Z' g0 ⟨v',g,rfl⟩ g2
 have hu: ∀ {o1:Option St},os o1=some (r,s')->o1=some s'/\ ∀Z',SR P Y s' Z'->k (.t []) Z':=fun h=>by
  obtain⟨h1,h2⟩:=lV h;subst h2;exact⟨h1,fun Z' h3=>hk Y (.ret (.t [])) Z' (.refl _) ⟨_,RV.pure _ rfl,rfl⟩ h3⟩
 cases o<;>simp only[Fg]at h<;>simp only[FQ]
 case mv x=>
  obtain⟨v,h1,h2,h3⟩:=CM h;obtain⟨v',e1,e2⟩:=Ar he h1;rw[e1];exact hv h2 h3 _ e2
 case jy x=>
  obtain⟨v,h1,h2,h3⟩:=CM h;obtain⟨v',e1,e2⟩:=Ar he h1;rw[e1];exact⟨v',Z,Sub.refl _,.refl _,hv h2 h3 _ e2⟩
 case pick c a b=>
  replace h:=AP h;obtain⟨vc,h1,h⟩:=h;replace h:=AP h;obtain⟨va,h2,h⟩:=h;replace h:=AP h;obtain⟨vb,h3,h⟩:=h;obtain⟨vc',e1,r1⟩:=Ar he h1;obtain⟨va',e2,r2⟩:=Ar he h2;obtain⟨vb',e3,r3⟩:=Ar he h3;rw[e1,e2,e3];simp only[wv];split at h
  .rename_i t
   simp only[RV]at r1;subst r1;cases h;have hh:=hv rfl rfl (bif t then va' else vb') (by cases t;exact r3;exact r2);cases t<;>cases va'<;>first|exact hh|(cases vb'<;>exact hh)
  .cases h
 case bin op x y=>
  replace h:=AP h;obtain⟨vx,h1,h⟩:=h;replace h:=AP h;obtain⟨vy,h2,h⟩:=h;obtain⟨v,h3,h4,h5⟩:=CM h;obtain⟨vx',e1,r1⟩:=Ar he h1;obtain⟨vy',e2,r2⟩:=Ar he h2;obtain⟨p1,p2,p3,p4⟩:=nD h3;rw[e1,e2,RV.kC r1 p1,RV.kC r2 p2];exact p4 (fun v=>k v Z) (hv h4 h5 _ (RV.pure _ p3))
 case kD neg x y=>
  replace h:=AP h;obtain⟨vx,h1,h⟩:=h;replace h:=AP h;obtain⟨vy,h2,h⟩:=h;obtain⟨vx',e1,r1⟩:=Ar he h1;obtain⟨vy',e2,r2⟩:=Ar he h2;rw[e1,e2];split at h
  .simp only[RV]at r1 r2
   subst r1;subst r2;cases h;exact hv rfl rfl _ (RV.pure _ rfl)
  .cases h
 case not x=>
  replace h:=AP h;obtain⟨vx,h1,h⟩:=h;obtain⟨vx',e1,r1⟩:=Ar he h1;rw[e1];split at h
  .simp only[RV]at r1
   subst r1;cases h;exact hv rfl rfl _ (RV.pure _ rfl)
  .cases h
 case neg xor x=>
  replace h:=AP h;obtain⟨vx,h1,h⟩:=h;obtain⟨vx',e1,r1⟩:=Ar he h1;rw[e1];split at h
  .simp only[RV]at r1
   subst r1;cases h;exact hv rfl rfl _ (RV.pure _ rfl)
  .cases h
 case conv ka x=>
  replace h:=AP h;obtain⟨vx,h1,h⟩:=h;obtain⟨vx',e1,r1⟩:=Ar he h1;rw[e1];split at h
  .simp only[RV]at r1
   subst r1;cases h;have:=hv rfl rfl _ (RV.pure _ rfl);rw[JD]at this;exact this
  .cases h
 case box x=>
  replace h:=AP h;obtain⟨vx,h1,h⟩:=h;replace h:=AP h;obtain⟨cs,h2,h⟩:=h;obtain⟨vx',e1,r1⟩:=Ar he h1;obtain⟨cs',e2,r2⟩:=GN h2 r1;obtain⟨h3,h4⟩:=St.Hu h;cases h4;rw[e1];simp only[wv,e2];intro n hn;obtain⟨Y',q1,q2,q3⟩:=hs.new h3 hn 0 (o:= .cs cs) (o':= .cs cs') ⟨_,r2,rfl⟩;exact hvr rfl Y' _ _ q1 (by simp only[RV];exact⟨_,q2,rfl⟩) q3
 case Q8 x=>
  replace h:=AP h;obtain⟨vx,h1,h⟩:=h;replace h:=AP h;obtain⟨cs,h2,h⟩:=h;obtain⟨vx',e1,r1⟩:=Ar he h1;obtain⟨cs',e2,r2⟩:=GN h2 r1;cases h;rw[e1];simp only[wv,e2];exact hv rfl rfl _ (by simp only[RV];exact⟨_,BY.2 r2,rfl⟩)
 case Q9 sz b x y=>
  replace h:=AP h;obtain⟨vx,h1,h⟩:=h;replace h:=AP h;obtain⟨vy,h2,h⟩:=h;obtain⟨v,h3,h4,h5⟩:=CM h;obtain⟨vx',e1,r1⟩:=Ar he h1;obtain⟨vy',e2,r2⟩:=Ar he h2;rw[e1,e2];exact jK hs h3 r1 r2 (hv h4 h5)
 case alloc z=>
  replace h:=AW h;obtain⟨h0,h⟩:=h;obtain⟨h3,h4⟩:=St.Hu h;cases h4;intro n hn;obtain⟨Y',q1,q2,q3⟩:=hs.new h3 hn 0 (o:= .cs z) (o':= .cs z) ⟨_,BY.1 (RL.pure z h0),rfl⟩;exact hvr rfl Y' _ _ q1 (by simp only[RV];exact⟨_,q2,rfl⟩) q3
 case build z parts=>
  replace h:=AW h;obtain⟨h0,h⟩:=h;replace h:=AP h;obtain⟨cs,h1,h⟩:=h;cases h;obtain⟨cs',e1,r1⟩:=Sk he h1 (BY.1 (RL.pure z h0));rw[e1];exact hv rfl rfl _ (by simp only[RV];exact⟨_,BY.2 r1,rfl⟩)
 case Di b len z parts=>
  replace h:=AW h;obtain⟨h0,h⟩:=h;replace h:=AP h;obtain⟨cs,h1,h⟩:=h;cases h;obtain⟨cs',e1,r1⟩:=Sl he h1 (F2.rep (BY.1 (RL.pure z h0)) len);rw[e1];exact hv rfl rfl _ (by simp only[RV];exact⟨_,Fa.2 r1,rfl⟩)
 case load agg x=>
  replace h:=AP h;obtain⟨vx,h1,h⟩:=h;obtain⟨v,h3,h4,h5⟩:=CM h;obtain⟨vx',e1,r1⟩:=Ar he h1;rw[e1];exact V4 hs h3 r1 (hv h4 h5)
 case store sz a x=>
  replace h:=AP h;obtain⟨vx,h1,h⟩:=h;replace h:=AP h;obtain⟨vy,h2,h⟩:=h;obtain⟨vx',e1,r1⟩:=Ar he h1;obtain⟨vy',e2,r2⟩:=Ar he h2;obtain⟨h3,h4⟩:=hu h;rw[e1,e2];exact cg hs h3 r1 r2 h4
 case Bs off x=>
  replace h:=AP h;obtain⟨vx,h1,h⟩:=h;obtain⟨v,h3,h4,h5⟩:=CM h;obtain⟨vx',e1,r1⟩:=Ar he h1;rw[e1];exact ct h3 r1 (hv h4 h5)
 case field agg off x=>
  replace h:=AP h;obtain⟨vx,h1,h⟩:=h;obtain⟨vx',e1,r1⟩:=Ar he h1;rw[e1];split at h
  .obtain⟨v,h3,h4,h5⟩:=CM h
   obtain⟨c,g1,rfl⟩:=r1;exact Ln h3 (BY.1 g1) (hv h4 h5)
  .cases h
 case I7 sz arr x i=>
  replace h:=AP h;obtain⟨vx,h1,h⟩:=h;replace h:=AP h;obtain⟨vy,h2,h⟩:=h;obtain⟨v,h3,h4,h5⟩:=CM h;obtain⟨vx',e1,r1⟩:=Ar he h1;obtain⟨vy',e2,r2⟩:=Ar he h2;rw[e1,e2];exact cr h3 r1 r2 (hv h4 h5)
 case index len sz agg x i=>
  replace h:=AP h;obtain⟨vx,h1,h⟩:=h;replace h:=AP h;obtain⟨vy,h2,h⟩:=h;obtain⟨v,h3,h4,h5⟩:=CM h;obtain⟨vx',e1,r1⟩:=Ar he h1;obtain⟨vy',e2,r2⟩:=Ar he h2;rw[e1,e2];exact cq h3 r1 r2 (hv h4 h5)
 case slice sz x lo hi mx=>
  replace h:=AP h;obtain⟨vx,h1,h⟩:=h;replace h:=AP h;obtain⟨l,h2,h⟩:=h;replace h:=AP h;obtain⟨hh,h3,h⟩:=h;replace h:=AP h;obtain⟨m,h4,h⟩:=h;obtain⟨v,h5,h6⟩:=L2 h;obtain⟨vx',e1,r1⟩:=Ar he h1;obtain⟨l',e2,r2⟩:=NM he h2;obtain⟨hh',e3,r3⟩:=NM he h3;obtain⟨m',e4,r4⟩:=NM he h4;rw[e1,e2,e3,e4];exact cj hs h5 r1 r2 r3 r4 (hvr h6)
 case len x=>
  replace h:=AP h;obtain⟨vx,h1,h⟩:=h;obtain⟨v,h3,h4,h5⟩:=CM h;obtain⟨vx',e1,r1⟩:=Ar he h1;rw[e1];exact m8 h3 r1 (hv h4 h5)
 case TC x=>
  replace h:=AP h;obtain⟨vx,h1,h⟩:=h;obtain⟨v,h3,h4,h5⟩:=CM h;obtain⟨vx',e1,r1⟩:=Ar he h1;rw[e1];exact jH hs h3 r1 (hv h4 h5)
 case Uk x i=>
  replace h:=AP h;obtain⟨vx,h1,h⟩:=h;replace h:=AP h;obtain⟨vi,h2,h⟩:=h;obtain⟨v,h3,h4,h5⟩:=CM h;obtain⟨vx',e1,r1⟩:=Ar he h1;obtain⟨vi',e2,r2⟩:=Ar he h2;rw[e1,e2];exact jG h3 r1 r2 (hv h4 h5)
 case str x=>
  replace h:=AP h;obtain⟨vx,h1,h⟩:=h;obtain⟨v,h3,h4,h5⟩:=CM h;obtain⟨vx',e1,r1⟩:=Ar he h1;rw[e1];exact m7 hs h3 r1 (hv h4 h5)
 case append sz b x y=>
  replace h:=AP h;obtain⟨vx,h1,h⟩:=h;replace h:=AP h;obtain⟨vy,h2,h⟩:=h;obtain⟨v,h3,h4⟩:=L2 h;obtain⟨vx',e1,r1⟩:=Ar he h1;obtain⟨vy',e2,r2⟩:=Ar he h2;rw[e1,e2];exact YR hs h3 r1 r2 (hvr h4)
 case copy sz x y=>
  replace h:=AP h;obtain⟨vx,h1,h⟩:=h;replace h:=AP h;obtain⟨vy,h2,h⟩:=h;obtain⟨v,h3,h4⟩:=L2 h;obtain⟨vx',e1,r1⟩:=Ar he h1;obtain⟨vy',e2,r2⟩:=Ar he h2;rw[e1,e2];exact jJ hs h3 r1 r2 (hvs h4)
 case Um x y=>
  replace h:=AP h;obtain⟨vx,h1,h⟩:=h;replace h:=AP h;obtain⟨vy,h2,h⟩:=h;obtain⟨vx',e1,r1⟩:=Ar he h1;obtain⟨vy',e2,r2⟩:=Ar he h2;rw[e1,e2];split at h
  .rename_i ka a kb b
   simp only[RV]at r1 r2;subst r1;subst r2;obtain⟨h3,h4⟩:=AW h;cases h4;refine⟨of_decide_eq_true h3,?_⟩;have:=hv rfl rfl _ (RV.pure _ rfl);rw[PL]at this;by_cases e:a<b
   .rw[if_pos e];rw[decide_eq_true e]at this;exact this
   .rw[if_neg e];rw[decide_eq_false e]at this;exact this
  .cases h
 case Ul x y=>
  replace h:=AP h;obtain⟨vx,h1,h⟩:=h;replace h:=AP h;obtain⟨vy,h2,h⟩:=h;obtain⟨vx',e1,r1⟩:=Ar he h1;obtain⟨vy',e2,r2⟩:=Ar he h2;rw[e1,e2];split at h
  .rename_i ka a kb b
   simp only[RV]at r1 r2;subst r1;subst r2;obtain⟨h3,h4⟩:=AW h;cases h4;refine⟨of_decide_eq_true h3,?_⟩;have:=hv rfl rfl _ (RV.pure _ rfl);rw[PL]at this;by_cases e:b<a
   .rw[if_pos e];rw[decide_eq_true e]at this;exact this
   .rw[if_neg e];rw[decide_eq_false e]at this;exact this
  .cases h
 case extract i x=>
  replace h:=AP h;obtain⟨vx,h1,h⟩:=h;obtain⟨vx',e1,r1⟩:=Ar he h1;rw[e1];split at h
  .obtain⟨v,h3,h4,h5⟩:=CM h
   obtain⟨c,g1,rfl⟩:=r1;obtain⟨y,g2,g3⟩:=(BY.1 g1).get h3;simp only[wv,g2];exact hv h4 h5 _ g3
  .cases h
 case EX x=>
  replace h:=AP h;obtain⟨vx,h1,h⟩:=h;obtain⟨v,h3,h4,h5⟩:=CM h;obtain⟨vx',e1,r1⟩:=Ar he h1;rw[e1];exact cn (K:=fun v=>k v Z) h3 r1 (hv h4 h5)
 case Yi f first cap=>
  replace h:=AP h;obtain⟨vf,h1,h⟩:=h;replace h:=AP h;obtain⟨vc,h2,h⟩:=h;obtain⟨h3,h4⟩:=AW h;cases h4;obtain⟨vf',e1,r1⟩:=H3 he h1;obtain⟨vc',e2,r2⟩:=H3 he h2;rw[e1,e2];refine hv rfl rfl _ ?_;simp only[RV];exact⟨f,vf',vc',by cases f<;>first|rfl|(simp[Mu]at h3),BY.2 r1,BY.2 r2,rfl⟩
 case Nq t x=>
  replace h:=AP h;obtain⟨vx,h1,h⟩:=h;cases h;obtain⟨vx',e1,r1⟩:=Ar he h1;rw[e1];exact hv rfl rfl _ (by simp only[RV];exact⟨_,r1,rfl⟩)
 case aT t z ok x=>
  replace h:=AP h;obtain⟨vx,h1,h⟩:=h;obtain⟨v,h3,h4,h5⟩:=CM h;obtain⟨vx',e1,r1⟩:=Ar he h1;rw[e1];exact m6 (K:=fun v=>k v Z) h3 r1 (hv h4 h5)
 case panic x=>
  replace h:=AP h;obtain⟨vx,h1,h⟩:=h;obtain⟨vx',e1,r1⟩:=Ar he h1;rw[e1];split at h
  .rename_i t v
   obtain⟨v',g1,rfl⟩:=r1;cases h;exact hk Y (.Bb (.Ey t v')) Z (.refl _) ⟨_,by simp only[RV];exact⟨v',g1,rfl⟩,rfl⟩ hs
  .cases h
 case call f args=>
  replace h:=AP h;obtain⟨vs,h1,h⟩:=h;obtain⟨vs',e1,r1⟩:=H3 he h1;rw[e1];exact hcf f vs s r s' h Y vs' Z r1 hs _ hk
 case W9 len neg x y=>
  replace h:=AP h;obtain⟨vx,h1,h⟩:=h;replace h:=AP h;obtain⟨vy,h2,h⟩:=h;obtain⟨v,h3,h4,h5⟩:=CM h;obtain⟨vx',e1,r1⟩:=Ar he h1;obtain⟨vy',e2,r2⟩:=Ar he h2;rw[e1,e2];exact nC h3 r1 r2 (hv h4 h5)
 case aX kind neg x=>
  replace h:=AP h;obtain⟨vx,h1,h⟩:=h;obtain⟨v,h3,h4,h5⟩:=CM h;obtain⟨vx',e1,r1⟩:=Ar he h1;rw[e1];exact m9 h3 r1 (hv h4 h5)
 case Fp sz b z x y=>
  replace h:=AP h;obtain⟨vx,h1,h⟩:=h;replace h:=AP h;obtain⟨vy,h2,h⟩:=h;obtain⟨v,h3,h4⟩:=L2 h;obtain⟨vx',e1,r1⟩:=Ar he h1;obtain⟨vy',e2,r2⟩:=Ar he h2;rw[e1,e2];exact Wr hs h3 r1 r2 (hvr h4)
 case Np=>
  obtain⟨h3,h4⟩:=St.Hu h;cases h4;intro n hn;obtain⟨Y',q1,q2,q3⟩:=hs.new h3 hn 0 (o:= .map []) (o':= .map []) ⟨[],F2.nil,rfl⟩;exact hvr rfl Y' _ _ q1 (by simp only[RV];exact⟨_,q2,rfl⟩) q3
 case lookup ks z ok m key=>
  replace h:=AP h;obtain⟨vx,h1,h⟩:=h;replace h:=AP h;obtain⟨vy,h2,h⟩:=h;obtain⟨v,h3,h4,h5⟩:=CM h;obtain⟨vx',e1,r1⟩:=Ar he h1;obtain⟨vy',e2,r2⟩:=Ar he h2;rw[e1,e2];exact YQ hs h3 r1 r2 (hv h4 h5)
 case FG ks m key x=>
  replace h:=AP h;obtain⟨vx,h1,h⟩:=h;replace h:=AP h;obtain⟨vy,h2,h⟩:=h;replace h:=AP h;obtain⟨vz,h3,h⟩:=h;obtain⟨vx',e1,r1⟩:=Ar he h1;obtain⟨vy',e2,r2⟩:=Ar he h2;obtain⟨vz',e3,r3⟩:=Ar he h3;obtain⟨h4,h5⟩:=hu h;rw[e1,e2,e3];exact YP hs h4 r1 r2 r3 h5
 case HK f args=>
  replace h:=AP h;obtain⟨vs,h1,h⟩:=h;obtain⟨v,h3,h4,h5⟩:=CM h;obtain⟨vs',e1,r1⟩:=H3 he h1;obtain⟨p1,p2,p3⟩:=hcp f vs v h3;rw[e1,kR r1 p1];exact⟨v,p3,hv h4 h5 _ (RV.pure _ p2)⟩
 case Ih x args=>
  replace h:=AP h;obtain⟨vx,h1,h⟩:=h;replace h:=AP h;obtain⟨vs,h2,h⟩:=h;obtain⟨vx',e1,r1⟩:=Ar he h1;obtain⟨vs',e2,r2⟩:=H3 he h2;rw[e1,e2];exact hcv vx vs s r s' h Y vx' vs' Z r1 r2 hs _ hk
 case inv tab x args=>
  replace h:=AP h;obtain⟨vx,h1,h⟩:=h;replace h:=AP h;obtain⟨vs,h2,h⟩:=h;obtain⟨vx',e1,r1⟩:=Ar he h1;obtain⟨vs',e2,r2⟩:=H3 he h2;rw[e1,e2];split at h
  .rename_i t v
   obtain⟨v',g1,rfl⟩:=r1;obtain⟨f,h3,h4⟩:=AP h;simp only[wv,ws,A5,h3];exact hcf f (v::vs) s r s' h4 Y (v'::vs') Z (F2.cons g1 r2) hs _ hk
  .cases h
 all_goals cases h
end Go.Gl
