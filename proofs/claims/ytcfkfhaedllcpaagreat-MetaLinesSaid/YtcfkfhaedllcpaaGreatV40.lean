import Derived.Test.YtcfkfhaedllcpaaGreatV39
set_option linter.all false
set_option linter.defProp false
set_option maxHeartbeats 8000000
noncomputable section
namespace Go.Gl
variable {P:Program} {Y Y':Ren} {Z:AE} {env env₀:Env}
def ob {α β:Type} (o:Option α) (k:α->Option β):Option β:=match o with|some v=>k v|none=>none
def AP {α β:Type} {o:Option α} {k:α->Option β} {r:β} (h:ob o k=some r): ∃v,o=some v/\k v=some r:=by
 cases o with
 | none=>cases h
 | some v=>exact⟨v,rfl,h⟩
def zS (Y:Ren):Ac->Ac->Prop
 | .Bd v,x=> ∃v',RV Y v v'/\x= .Bd v'
 | .normal,x=>x= .normal
 | .ret,x=>x= .ret
 | .exit id,x=>x= .exit id
def o7 (Y:Ren):R->R->Prop
 | .ret v,r=> ∃v',RV Y v v'/\r= .ret v'
 | .Bd v,r=> ∃v',RV Y v v'/\r= .Bd v'
abbrev CF:=FuncId->List V->St->Option (R×St)
abbrev CV:=V->List V->St->Option (R×St)
abbrev CP:=FuncId->List V->Option V
def K9 (P:Program) (c:CF):Prop:= ∀f vs s r s',c f vs s=some (r,s')-> ∀Y vs' Z,Lc Y vs vs'->SR P Y s Z-> ∀Q:R->AE->Prop,(∀Y' r' Z',Y.le Y'->o7 Y' r r'->SR P Y' s' Z'->Q r' Z')->A6 P f vs' Z Q
def J0 (P:Program) (c:CV):Prop:= ∀x vs s r s',c x vs s=some (r,s')-> ∀Y x' vs' Z,RV Y x x'->Lc Y vs vs'->SR P Y s Z-> ∀Q:R->AE->Prop,(∀Y' r' Z',Y.le Y'->o7 Y' r r'->SR P Y' s' Z'->Q r' Z')->Ay P x' vs' Z Q
def NP (P:Program) (c:CP):Prop:= ∀f vs v,c f vs=some v->B7 vs=true/\BJ v=true/\Pure P f vs v
def ov (o:Option V) (s:St):Option (R×St):=match o with|some v=>some (.ret v,s)|none=>none
def CN {o:Option V} {s s':St} {r:R} (h:ov o s=some (r,s')): ∃v,o=some v/\r= .ret v/\s'=s:=by
 cases o with
 | none=>cases h
 | some v=>cases h;exact⟨v,rfl,rfl,rfl⟩
def os (o:Option St):Option (R×St):=match o with|some s=>some (.ret (.t []),s)|none=>none
def mc {o:Option St} {s':St} {r:R} (h:os o=some (r,s')):o=some s'/\r= .ret (.t []):=by
 cases o with
 | none=>cases h
 | some v=>cases h;exact⟨rfl,rfl⟩
def bO (o:Option (V×St)):Option (R×St):=match o with|some (v,s)=>some (.ret v,s)|none=>none
def MK {o:Option (V×St)} {s':St} {r:R} (h:bO o=some (r,s')): ∃v,o=some (v,s')/\r= .ret v:=by
 cases o with
 | none=>cases h
 | some v=>cases h;exact⟨_,rfl,rfl⟩
def Ku (env:Env):Option Bi->Option (Option V)
 | none=>some none
 | some x=>match DS env x with|some v=>some (some v)|none=>none
def NZ (he:RE Y env env₀) {x:Option Bi} {v:Option V} (h:Ku env x=some v): ∃v',HX env₀ x=some v'/\o6 Y v v':=by
 cases x with
 | none=>cases h;exact⟨none,rfl,rfl⟩
 | some x=>
   simp only[Ku]at h;split at h
   .rename_i u hu
    cases h;obtain⟨v',h1,h2⟩:=As he hu;exact⟨some v',by simp only[HX,h1],v',h2,rfl⟩
   .cases h
def fD (t:TypeId) (z:V) (ok:Bool) (x:V):Option V:=
 match x with
 | .E9 t' v=>bif Nat.beq t' t then some (bif ok then .t [v,.b true]else v)else(bif ok&&BJ z then some (.t [z,.b false])else none)
 | .De=>bif ok&&BJ z then some (.t [z,.b false])else none
 | _=>none
def NI (x:V):Option V:=
 match x with
 | .p n off=>some (.p n off)
 | .rp cs=>some (.rp cs)
 | .pe n sz i off=>some (.pe n sz i off)
 | .f (.func f) a b=>some (.f (.func f) a b)
 | .f (.yield f) a b=>some (.f (.yield f) a b)
 | _=>none
def Fw (cf:CF) (cv:CV) (cp:CP) (o:Fx) (env:Env) (s:St):Option (R×St):=
 match o with
 | .mv x=>ov (DS env x) s
 | .lJ x=>ov (DS env x) s
 | .pick c a b=>ob (DS env c) fun vc=>ob (DS env a) fun va=>ob (DS env b) fun vb=>match vc with| .b t=>some (.ret (bif t then va else vb),s)|_=>none
 | .bin op x y=>ob (DS env x) fun vx=>ob (DS env y) fun vy=>ov (VE op vx vy) s
 | .lC neg x y=>ob (DS env x) fun vx=>ob (DS env y) fun vy=>match vx,vy with| .b p,.b q=>some (.ret (.b (bif neg then p != q else p==q)),s)|_,_=>none
 | .not x=>ob (DS env x) fun vx=>match vx with| .b p=>some (.ret (.b (!p)),s)|_=>none
 | .neg xor x=>ob (DS env x) fun vx=>match vx with| .i ka a=>some (.ret (.i ka (bif xor then bits .xor ka (bif ka.signed then -1 else ka.max) a else ka.wrap (0 - a))),s)|_=>none
 | .conv ka x=>ob (DS env x) fun vx=>match vx with| .i _ a=>some (.ret (.i ka (Ij ka a)),s)|_=>none
 | .box x=>ob (DS env x) fun vx=>ob (cellsOf vx) fun cs=>s.new (.cs cs) fun i s'=>some (.ret (.p i 0),s')
 | .M6 x=>ob (DS env x) fun vx=>ob (cellsOf vx) fun cs=>some (.ret (.rp cs),s)
 | .Ra sz b x y=>ob (DS env x) fun vx=>ob (DS env y) fun vy=>ov (VX b s sz vx vy) s
 | .alloc z=>bif B7 z then s.new (.cs z) fun i s'=>some (.ret (.p i 0),s')else none
 | .build z parts=>bif B7 z then ob (NK env z parts) fun cs=>some (.ret (.a cs),s)else none
 | .Dm _ len z parts=>bif B7 z then ob (NL env z.length (List.replicate len z) parts) fun es=>some (.ret (.l es true),s)else none
 | .load agg x=>ob (DS env x) fun vx=>ov (OB s agg vx) s
 | .store sz a x=>ob (DS env a) fun va=>ob (DS env x) fun vx=>os (Pe s sz va vx)
 | .Ba off x=>ob (DS env x) fun vx=>ov (Tx off vx) s
 | .field agg off x=>ob (DS env x) fun vx=>match vx with| .a cs=>ov (VC agg cs off) s|_=>none
 | .JU sz arr x i=>ob (DS env x) fun vx=>ob (DS env i) fun vi=>ov (NJ sz arr vx vi) s
 | .index len sz agg x i=>ob (DS env x) fun vx=>ob (DS env i) fun vi=>ov (Pg len sz agg vx vi) s
 | .slice sz x lo hi mx=>ob (DS env x) fun vx=>ob (Ku env lo) fun l=>ob (Ku env hi) fun h=>ob (Ku env mx) fun m=>bO (Pf s sz vx l h m)
 | .len x=>ob (DS env x) fun vx=>ov (bj vx) s
 | .TU x=>ob (DS env x) fun vx=>ov (VV s vx) s
 | .U1 x i=>ob (DS env x) fun vx=>ob (DS env i) fun vi=>ov (VU vx vi) s
 | .str x=>ob (DS env x) fun vx=>ov (fE s vx) s
 | .append sz b x y=>ob (DS env x) fun vx=>ob (DS env y) fun vy=>bO (L6 b s sz vx vy)
 | .copy sz x y=>ob (DS env x) fun vx=>ob (DS env y) fun vy=>bO (VW s sz vx vy)
 | .U3 x y=>ob (DS env x) fun vx=>ob (DS env y) fun vy=>match vx,vy with| .i ka a,.i kb b=>bif decide (ka=kb)then some (.ret (.i ka (bif Mw a b then b else a)),s)else none|_,_=>none
 | .U2 x y=>ob (DS env x) fun vx=>ob (DS env y) fun vy=>match vx,vy with| .i ka a,.i kb b=>bif decide (ka=kb)then some (.ret (.i ka (bif Mw b a then b else a)),s)else none|_,_=>none
 | .extract i x=>ob (DS env x) fun vx=>match vx with| .t vs=>ov (vs[i]?) s|_=>none
 | .Ec x=>ob (DS env x) fun vx=>ov (NI vx) s
 | .Y6 f first cap=>ob (Oa env first) fun vf=>ob (Oa env cap) fun vc=>bif NA f then some (.ret (.f f vf vc),s)else none
 | .N6 t x=>ob (DS env x) fun vx=>some (.ret (.E9 t vx),s)
 | .bM t z ok x=>ob (DS env x) fun vx=>ov (fD t z ok vx) s
 | .panic x=>ob (DS env x) fun vx=>match vx with| .E9 t v=>some (.Bd (.E9 t v),s)|_=>none
 | .call f args=>ob (Oa env args) fun vs=>cf f vs s
 | .XR len neg x y=>ob (DS env x) fun vx=>ob (DS env y) fun vy=>ov (fG len neg vx vy) s
 | .bQ kind neg x=>ob (DS env x) fun vx=>ov (fF kind neg vx) s
 | .F4 sz _ z x y=>ob (DS env x) fun vx=>ob (DS env y) fun vy=>bO (Jg s sz z vx vy)
 | .N5=>s.new (.map []) fun i s'=>some (.ret (.m i),s')
 | .lookup ks z ok m key=>ob (DS env m) fun vm=>ob (DS env key) fun vk=>ov (L4 s ks z ok vm vk) s
 | .FQ ks m key x=>ob (DS env m) fun vm=>ob (DS env key) fun vk=>ob (DS env x) fun vx=>os (L3 s ks vm vk vx)
 | .Hb f args=>ob (Oa env args) fun vs=>ov (cp f vs) s
 | .Ix x args=>ob (DS env x) fun vx=>ob (Oa env args) fun vs=>cv vx vs s
 | .inv tab x args=>ob (DS env x) fun vx=>ob (Oa env args) fun vs=>match vx with| .E9 t v=>ob (look t tab) fun f=>cf f (v::vs) s|_=>none
 | _=>none
def oE {t:TypeId} {z:V} {ok:Bool} {x x' v:V} (h:fD t z ok x=some v) (hx:RV Y x x') {K:V->Prop} (U: ∀v',RV Y v v'->K v') :
    match(generalizing:=false) x' with
     | .E9 t' v=>(t'=t->K (bif ok then .t [v,.b true]else v))/\(t'≠t->ok=true/\K (.t [z,.b false]))
     | .De=>ok=true/\K (.t [z,.b false])
     | _=>False:=by
 have zz: ∀ {v},BJ z=true->some (V.t [z,.b false])=some v->K (.t [z,.b false])->K v:=fun _ e k=>by cases e;exact k
 unfold fD at h;split at h
 .rename_i t' u
  obtain⟨u',h1,rfl⟩:=hx;refine⟨fun e=>?_,fun e=>?_⟩
  .subst e
   rw[Nat.beq_refl]at h;cases h;cases ok with
   | true=>exact U _ (by simp only[cond_true,RV];exact⟨_,Bb.2 (F2.cons h1 (F2.cons (RV.pure _ rfl) F2.nil)),rfl⟩)
   | false=>exact U _ h1
  .have hb:Nat.beq t' t=false:=by
    cases hb:Nat.beq t' t with
    | false=>rfl
    | true=>exact absurd (Cx hb) e
   rw[hb]at h;obtain⟨h2,h3⟩:=AW h;simp only[BD]at h2;cases h3;exact⟨h2.1,U _ (by simp only[RV];exact⟨_,Bb.2 (F2.cons (RV.pure _ h2.2) (F2.cons (RV.pure _ rfl) F2.nil)),rfl⟩)⟩
 .simp only[RV]at hx
  subst hx;obtain⟨h2,h3⟩:=AW h;simp only[BD]at h2;cases h3;exact⟨h2.1,U _ (by simp only[RV];exact⟨_,Bb.2 (F2.cons (RV.pure _ h2.2) (F2.cons (RV.pure _ rfl) F2.nil)),rfl⟩)⟩
 .cases h
def dZ {x x' v:V} (h:NI x=some v) (hx:RV Y x x') {K:V->Prop} (U: ∀v',RV Y v v'->K v') :
    match(generalizing:=false) x' with
     | .p n off=>K (.p n off)
     | .rp cs=>K (.rp cs)
     | .pe n sz i off=>K (.pe n sz i off)
     | .f (.func f) first cap=>K (.f (.func f) first cap)
     | .f (.yield l) first cap=>K (.f (.yield l) first cap)
     | _=>False:=by
 have hv:v=x:=by unfold NI at h;split at h<;>cases h<;>rfl
 subst hv;have hk:=U _ hx;unfold NI at h;split at h
 .obtain⟨_,_,rfl⟩:=hx;exact hk
 .obtain⟨_,_,rfl⟩:=hx;exact hk
 .obtain⟨_,_,rfl⟩:=hx;exact hk
 .obtain⟨fn,a,b,h1,_,_,rfl⟩:=hx
  simp only[bU]at h1;subst h1;exact hk
 .obtain⟨fn,a,b,h1,_,_,rfl⟩:=hx
  obtain⟨m,_,rfl⟩:=h1;exact hk
 .cases h
def gb {cf:CF} {cv:CV} {cp:CP} (hcf:K9 P cf) (hcv:J0 P cv) (hcp:NP P cp) {o:Fx} {s s':St} {r:R} (h:Fw cf cv cp o env s=some (r,s')) (he:RE Y env env₀) (hs:SR P Y s Z) {k kp:V->AE->Prop}
    (hk: ∀Y' r' Z',Y.le Y'->o7 Y' r r'->SR P Y' s' Z'->qk k kp r' Z'):Fb P o env₀ Z k kp:=by
 have hv: ∀ {v:V},r= .ret v->s'=s-> ∀v',RV Y v v'->k v' Z:=fun e1 e2 v' g=>by
  subst e1;subst e2;exact hk Y (.ret v') Z (.refl _) ⟨v',g,rfl⟩ hs
 have hvs: ∀ {v:V},r= .ret v-> ∀v' Z',RV Y v v'->SR P Y s' Z'->k v' Z':=fun e1 v' Z' g g2=>by
  subst e1;exact hk Y (.ret v') Z' (.refl _) ⟨v',g,rfl⟩ g2
 have hvr: ∀ {v:V},r= .ret v-> ∀Y' v' Z',Y.le Y'->RV Y' v v'->SR P Y' s' Z'->k v' Z':=fun e1 Y' v' Z' g0 g g2=>by
  subst e1;exact hk Y' (.ret v') Z' g0 ⟨v',g,rfl⟩ g2
 have hu: ∀ {o1:Option St},os o1=some (r,s')->o1=some s'/\ ∀Z',SR P Y s' Z'->k (.t []) Z':=fun h=>by
  obtain⟨h1,h2⟩:=mc h;subst h2;exact⟨h1,fun Z' h3=>hk Y (.ret (.t [])) Z' (.refl _) ⟨_,RV.pure _ rfl,rfl⟩ h3⟩
 cases o<;>simp only[Fw]at h<;>simp only[Fb]
 case mv x=>
  obtain⟨v,h1,h2,h3⟩:=CN h;obtain⟨v',e1,e2⟩:=As he h1;rw[e1];exact hv h2 h3 _ e2
 case lJ x=>
  obtain⟨v,h1,h2,h3⟩:=CN h;obtain⟨v',e1,e2⟩:=As he h1;rw[e1];exact⟨v',Z,Sub.refl _,.refl _,hv h2 h3 _ e2⟩
 case pick c a b=>
  replace h:=AP h;obtain⟨vc,h1,h⟩:=h;replace h:=AP h;obtain⟨va,h2,h⟩:=h;replace h:=AP h;obtain⟨vb,h3,h⟩:=h;obtain⟨vc',e1,r1⟩:=As he h1;obtain⟨va',e2,r2⟩:=As he h2;obtain⟨vb',e3,r3⟩:=As he h3;rw[e1,e2,e3];simp only[wv];split at h
  .rename_i t
   simp only[RV]at r1;subst r1;cases h;have hh:=hv rfl rfl (bif t then va' else vb') (by cases t;exact r3;exact r2);cases t<;>cases va'<;>first|exact hh|(cases vb'<;>exact hh)
  .cases h
 case bin op x y=>
  replace h:=AP h;obtain⟨vx,h1,h⟩:=h;replace h:=AP h;obtain⟨vy,h2,h⟩:=h;obtain⟨v,h3,h4,h5⟩:=CN h;obtain⟨vx',e1,r1⟩:=As he h1;obtain⟨vy',e2,r2⟩:=As he h2;obtain⟨p1,p2,p3,p4⟩:=oJ h3;rw[e1,e2,RV.lN r1 p1,RV.lN r2 p2];exact p4 (fun v=>k v Z) (hv h4 h5 _ (RV.pure _ p3))
 case lC neg x y=>
  replace h:=AP h;obtain⟨vx,h1,h⟩:=h;replace h:=AP h;obtain⟨vy,h2,h⟩:=h;obtain⟨vx',e1,r1⟩:=As he h1;obtain⟨vy',e2,r2⟩:=As he h2;rw[e1,e2];split at h
  .simp only[RV]at r1 r2
   subst r1;subst r2;cases h;exact hv rfl rfl _ (RV.pure _ rfl)
  .cases h
 case not x=>
  replace h:=AP h;obtain⟨vx,h1,h⟩:=h;obtain⟨vx',e1,r1⟩:=As he h1;rw[e1];split at h
  .simp only[RV]at r1
   subst r1;cases h;exact hv rfl rfl _ (RV.pure _ rfl)
  .cases h
 case neg xor x=>
  replace h:=AP h;obtain⟨vx,h1,h⟩:=h;obtain⟨vx',e1,r1⟩:=As he h1;rw[e1];split at h
  .simp only[RV]at r1
   subst r1;cases h;exact hv rfl rfl _ (RV.pure _ rfl)
  .cases h
 case conv ka x=>
  replace h:=AP h;obtain⟨vx,h1,h⟩:=h;obtain⟨vx',e1,r1⟩:=As he h1;rw[e1];split at h
  .simp only[RV]at r1
   subst r1;cases h;have:=hv rfl rfl _ (RV.pure _ rfl);rw[Jc]at this;exact this
  .cases h
 case box x=>
  replace h:=AP h;obtain⟨vx,h1,h⟩:=h;replace h:=AP h;obtain⟨cs,h2,h⟩:=h;obtain⟨vx',e1,r1⟩:=As he h1;obtain⟨cs',e2,r2⟩:=Gf h2 r1;obtain⟨h3,h4⟩:=St.IC h;cases h4;rw[e1];simp only[wv,e2];intro n hn;obtain⟨Y',q1,q2,q3⟩:=hs.new h3 hn 0 (o:= .cs cs) (o':= .cs cs') ⟨_,r2,rfl⟩;exact hvr rfl Y' _ _ q1 (by simp only[RV];exact⟨_,q2,rfl⟩) q3
 case M6 x=>
  replace h:=AP h;obtain⟨vx,h1,h⟩:=h;replace h:=AP h;obtain⟨cs,h2,h⟩:=h;obtain⟨vx',e1,r1⟩:=As he h1;obtain⟨cs',e2,r2⟩:=Gf h2 r1;cases h;rw[e1];simp only[wv,e2];exact hv rfl rfl _ (by simp only[RV];exact⟨_,Bb.2 r2,rfl⟩)
 case Ra sz b x y=>
  replace h:=AP h;obtain⟨vx,h1,h⟩:=h;replace h:=AP h;obtain⟨vy,h2,h⟩:=h;obtain⟨v,h3,h4,h5⟩:=CN h;obtain⟨vx',e1,r1⟩:=As he h1;obtain⟨vy',e2,r2⟩:=As he h2;rw[e1,e2];exact kA hs h3 r1 r2 (hv h4 h5)
 case alloc z=>
  replace h:=AW h;obtain⟨h0,h⟩:=h;obtain⟨h3,h4⟩:=St.IC h;cases h4;intro n hn;obtain⟨Y',q1,q2,q3⟩:=hs.new h3 hn 0 (o:= .cs z) (o':= .cs z) ⟨_,Bb.1 (RL.pure z h0),rfl⟩;exact hvr rfl Y' _ _ q1 (by simp only[RV];exact⟨_,q2,rfl⟩) q3
 case build z parts=>
  replace h:=AW h;obtain⟨h0,h⟩:=h;replace h:=AP h;obtain⟨cs,h1,h⟩:=h;cases h;obtain⟨cs',e1,r1⟩:=S3 he h1 (Bb.1 (RL.pure z h0));rw[e1];exact hv rfl rfl _ (by simp only[RV];exact⟨_,Bb.2 r1,rfl⟩)
 case Dm b len z parts=>
  replace h:=AW h;obtain⟨h0,h⟩:=h;replace h:=AP h;obtain⟨cs,h1,h⟩:=h;cases h;obtain⟨cs',e1,r1⟩:=S4 he h1 (F2.rep (Bb.1 (RL.pure z h0)) len);rw[e1];exact hv rfl rfl _ (by simp only[RV];exact⟨_,Fo.2 r1,rfl⟩)
 case load agg x=>
  replace h:=AP h;obtain⟨vx,h1,h⟩:=h;obtain⟨v,h3,h4,h5⟩:=CN h;obtain⟨vx',e1,r1⟩:=As he h1;rw[e1];exact WV hs h3 r1 (hv h4 h5)
 case store sz a x=>
  replace h:=AP h;obtain⟨vx,h1,h⟩:=h;replace h:=AP h;obtain⟨vy,h2,h⟩:=h;obtain⟨vx',e1,r1⟩:=As he h1;obtain⟨vy',e2,r2⟩:=As he h2;obtain⟨h3,h4⟩:=hu h;rw[e1,e2];exact dX hs h3 r1 r2 h4
 case Ba off x=>
  replace h:=AP h;obtain⟨vx,h1,h⟩:=h;obtain⟨v,h3,h4,h5⟩:=CN h;obtain⟨vx',e1,r1⟩:=As he h1;rw[e1];exact dc h3 r1 (hv h4 h5)
 case field agg off x=>
  replace h:=AP h;obtain⟨vx,h1,h⟩:=h;obtain⟨vx',e1,r1⟩:=As he h1;rw[e1];split at h
  .obtain⟨v,h3,h4,h5⟩:=CN h
   obtain⟨c,g1,rfl⟩:=r1;exact L5 h3 (Bb.1 g1) (hv h4 h5)
  .cases h
 case JU sz arr x i=>
  replace h:=AP h;obtain⟨vx,h1,h⟩:=h;replace h:=AP h;obtain⟨vy,h2,h⟩:=h;obtain⟨v,h3,h4,h5⟩:=CN h;obtain⟨vx',e1,r1⟩:=As he h1;obtain⟨vy',e2,r2⟩:=As he h2;rw[e1,e2];exact db h3 r1 r2 (hv h4 h5)
 case index len sz agg x i=>
  replace h:=AP h;obtain⟨vx,h1,h⟩:=h;replace h:=AP h;obtain⟨vy,h2,h⟩:=h;obtain⟨v,h3,h4,h5⟩:=CN h;obtain⟨vx',e1,r1⟩:=As he h1;obtain⟨vy',e2,r2⟩:=As he h2;rw[e1,e2];exact da h3 r1 r2 (hv h4 h5)
 case slice sz x lo hi mx=>
  replace h:=AP h;obtain⟨vx,h1,h⟩:=h;replace h:=AP h;obtain⟨l,h2,h⟩:=h;replace h:=AP h;obtain⟨hh,h3,h⟩:=h;replace h:=AP h;obtain⟨m,h4,h⟩:=h;obtain⟨v,h5,h6⟩:=MK h;obtain⟨vx',e1,r1⟩:=As he h1;obtain⟨l',e2,r2⟩:=NZ he h2;obtain⟨hh',e3,r3⟩:=NZ he h3;obtain⟨m',e4,r4⟩:=NZ he h4;rw[e1,e2,e3,e4];exact dY hs h5 r1 r2 r3 r4 (hvr h6)
 case len x=>
  replace h:=AP h;obtain⟨vx,h1,h⟩:=h;obtain⟨v,h3,h4,h5⟩:=CN h;obtain⟨vx',e1,r1⟩:=As he h1;rw[e1];exact oG h3 r1 (hv h4 h5)
 case TU x=>
  replace h:=AP h;obtain⟨vx,h1,h⟩:=h;obtain⟨v,h3,h4,h5⟩:=CN h;obtain⟨vx',e1,r1⟩:=As he h1;rw[e1];exact jy hs h3 r1 (hv h4 h5)
 case U1 x i=>
  replace h:=AP h;obtain⟨vx,h1,h⟩:=h;replace h:=AP h;obtain⟨vi,h2,h⟩:=h;obtain⟨v,h3,h4,h5⟩:=CN h;obtain⟨vx',e1,r1⟩:=As he h1;obtain⟨vi',e2,r2⟩:=As he h2;rw[e1,e2];exact jx h3 r1 r2 (hv h4 h5)
 case str x=>
  replace h:=AP h;obtain⟨vx,h1,h⟩:=h;obtain⟨v,h3,h4,h5⟩:=CN h;obtain⟨vx',e1,r1⟩:=As he h1;rw[e1];exact oF hs h3 r1 (hv h4 h5)
 case append sz b x y=>
  replace h:=AP h;obtain⟨vx,h1,h⟩:=h;replace h:=AP h;obtain⟨vy,h2,h⟩:=h;obtain⟨v,h3,h4⟩:=MK h;obtain⟨vx',e1,r1⟩:=As he h1;obtain⟨vy',e2,r2⟩:=As he h2;rw[e1,e2];exact Yq hs h3 r1 r2 (hvr h4)
 case copy sz x y=>
  replace h:=AP h;obtain⟨vx,h1,h⟩:=h;replace h:=AP h;obtain⟨vy,h2,h⟩:=h;obtain⟨v,h3,h4⟩:=MK h;obtain⟨vx',e1,r1⟩:=As he h1;obtain⟨vy',e2,r2⟩:=As he h2;rw[e1,e2];exact jz hs h3 r1 r2 (hvs h4)
 case U3 x y=>
  replace h:=AP h;obtain⟨vx,h1,h⟩:=h;replace h:=AP h;obtain⟨vy,h2,h⟩:=h;obtain⟨vx',e1,r1⟩:=As he h1;obtain⟨vy',e2,r2⟩:=As he h2;rw[e1,e2];split at h
  .rename_i ka a kb b
   simp only[RV]at r1 r2;subst r1;subst r2;obtain⟨h3,h4⟩:=AW h;cases h4;refine⟨of_decide_eq_true h3,?_⟩;have:=hv rfl rfl _ (RV.pure _ rfl);rw[Pb]at this;by_cases e:a<b
   .rw[if_pos e];rw[decide_eq_true e]at this;exact this
   .rw[if_neg e];rw[decide_eq_false e]at this;exact this
  .cases h
 case U2 x y=>
  replace h:=AP h;obtain⟨vx,h1,h⟩:=h;replace h:=AP h;obtain⟨vy,h2,h⟩:=h;obtain⟨vx',e1,r1⟩:=As he h1;obtain⟨vy',e2,r2⟩:=As he h2;rw[e1,e2];split at h
  .rename_i ka a kb b
   simp only[RV]at r1 r2;subst r1;subst r2;obtain⟨h3,h4⟩:=AW h;cases h4;refine⟨of_decide_eq_true h3,?_⟩;have:=hv rfl rfl _ (RV.pure _ rfl);rw[Pb]at this;by_cases e:b<a
   .rw[if_pos e];rw[decide_eq_true e]at this;exact this
   .rw[if_neg e];rw[decide_eq_false e]at this;exact this
  .cases h
 case extract i x=>
  replace h:=AP h;obtain⟨vx,h1,h⟩:=h;obtain⟨vx',e1,r1⟩:=As he h1;rw[e1];split at h
  .obtain⟨v,h3,h4,h5⟩:=CN h
   obtain⟨c,g1,rfl⟩:=r1;obtain⟨y,g2,g3⟩:=(Bb.1 g1).get h3;simp only[wv,g2];exact hv h4 h5 _ g3
  .cases h
 case Ec x=>
  replace h:=AP h;obtain⟨vx,h1,h⟩:=h;obtain⟨v,h3,h4,h5⟩:=CN h;obtain⟨vx',e1,r1⟩:=As he h1;rw[e1];exact dZ (K:=fun v=>k v Z) h3 r1 (hv h4 h5)
 case Y6 f first cap=>
  replace h:=AP h;obtain⟨vf,h1,h⟩:=h;replace h:=AP h;obtain⟨vc,h2,h⟩:=h;obtain⟨h3,h4⟩:=AW h;cases h4;obtain⟨vf',e1,r1⟩:=IJ he h1;obtain⟨vc',e2,r2⟩:=IJ he h2;rw[e1,e2];refine hv rfl rfl _ ?_;simp only[RV];exact⟨f,vf',vc',by cases f<;>first|rfl|(simp[NA]at h3),Bb.2 r1,Bb.2 r2,rfl⟩
 case N6 t x=>
  replace h:=AP h;obtain⟨vx,h1,h⟩:=h;cases h;obtain⟨vx',e1,r1⟩:=As he h1;rw[e1];exact hv rfl rfl _ (by simp only[RV];exact⟨_,r1,rfl⟩)
 case bM t z ok x=>
  replace h:=AP h;obtain⟨vx,h1,h⟩:=h;obtain⟨v,h3,h4,h5⟩:=CN h;obtain⟨vx',e1,r1⟩:=As he h1;rw[e1];exact oE (K:=fun v=>k v Z) h3 r1 (hv h4 h5)
 case panic x=>
  replace h:=AP h;obtain⟨vx,h1,h⟩:=h;obtain⟨vx',e1,r1⟩:=As he h1;rw[e1];split at h
  .rename_i t v
   obtain⟨v',g1,rfl⟩:=r1;cases h;exact hk Y (.Bd (.E9 t v')) Z (.refl _) ⟨_,by simp only[RV];exact⟨v',g1,rfl⟩,rfl⟩ hs
  .cases h
 case call f args=>
  replace h:=AP h;obtain⟨vs,h1,h⟩:=h;obtain⟨vs',e1,r1⟩:=IJ he h1;rw[e1];exact hcf f vs s r s' h Y vs' Z r1 hs _ hk
 case XR len neg x y=>
  replace h:=AP h;obtain⟨vx,h1,h⟩:=h;replace h:=AP h;obtain⟨vy,h2,h⟩:=h;obtain⟨v,h3,h4,h5⟩:=CN h;obtain⟨vx',e1,r1⟩:=As he h1;obtain⟨vy',e2,r2⟩:=As he h2;rw[e1,e2];exact oI h3 r1 r2 (hv h4 h5)
 case bQ kind neg x=>
  replace h:=AP h;obtain⟨vx,h1,h⟩:=h;obtain⟨v,h3,h4,h5⟩:=CN h;obtain⟨vx',e1,r1⟩:=As he h1;rw[e1];exact oH h3 r1 (hv h4 h5)
 case F4 sz b z x y=>
  replace h:=AP h;obtain⟨vx,h1,h⟩:=h;replace h:=AP h;obtain⟨vy,h2,h⟩:=h;obtain⟨v,h3,h4⟩:=MK h;obtain⟨vx',e1,r1⟩:=As he h1;obtain⟨vy',e2,r2⟩:=As he h2;rw[e1,e2];exact XH hs h3 r1 r2 (hvr h4)
 case N5=>
  obtain⟨h3,h4⟩:=St.IC h;cases h4;intro n hn;obtain⟨Y',q1,q2,q3⟩:=hs.new h3 hn 0 (o:= .map []) (o':= .map []) ⟨[],F2.nil,rfl⟩;exact hvr rfl Y' _ _ q1 (by simp only[RV];exact⟨_,q2,rfl⟩) q3
 case lookup ks z ok m key=>
  replace h:=AP h;obtain⟨vx,h1,h⟩:=h;replace h:=AP h;obtain⟨vy,h2,h⟩:=h;obtain⟨v,h3,h4,h5⟩:=CN h;obtain⟨vx',e1,r1⟩:=As he h1;obtain⟨vy',e2,r2⟩:=As he h2;rw[e1,e2];exact Yp hs h3 r1 r2 (hv h4 h5)
 case FQ ks m key x=>
  replace h:=AP h;obtain⟨vx,h1,h⟩:=h;replace h:=AP h;obtain⟨vy,h2,h⟩:=h;replace h:=AP h;obtain⟨vz,h3,h⟩:=h;obtain⟨vx',e1,r1⟩:=As he h1;obtain⟨vy',e2,r2⟩:=As he h2;obtain⟨vz',e3,r3⟩:=As he h3;obtain⟨h4,h5⟩:=hu h;rw[e1,e2,e3];exact Yo hs h4 r1 r2 r3 h5
 case Hb f args=>
  replace h:=AP h;obtain⟨vs,h1,h⟩:=h;obtain⟨v,h3,h4,h5⟩:=CN h;obtain⟨vs',e1,r1⟩:=IJ he h1;obtain⟨p1,p2,p3⟩:=hcp f vs v h3;rw[e1,lg r1 p1];exact⟨v,p3,hv h4 h5 _ (RV.pure _ p2)⟩
 case Ix x args=>
  replace h:=AP h;obtain⟨vx,h1,h⟩:=h;replace h:=AP h;obtain⟨vs,h2,h⟩:=h;obtain⟨vx',e1,r1⟩:=As he h1;obtain⟨vs',e2,r2⟩:=IJ he h2;rw[e1,e2];exact hcv vx vs s r s' h Y vx' vs' Z r1 r2 hs _ hk
 case inv tab x args=>
  replace h:=AP h;obtain⟨vx,h1,h⟩:=h;replace h:=AP h;obtain⟨vs,h2,h⟩:=h;obtain⟨vx',e1,r1⟩:=As he h1;obtain⟨vs',e2,r2⟩:=IJ he h2;rw[e1,e2];split at h
  .rename_i t v
   obtain⟨v',g1,rfl⟩:=r1;obtain⟨f,h3,h4⟩:=AP h;simp only[wv,ws,A7,h3];exact hcf f (v::vs) s r s' h4 Y (v'::vs') Z (F2.cons g1 r2) hs _ hk
  .cases h
 all_goals cases h
end Go.Gl
