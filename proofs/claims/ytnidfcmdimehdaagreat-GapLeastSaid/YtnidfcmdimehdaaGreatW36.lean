import Derived.Test.YtnidfcmdimehdaaGreatW35
set_option linter.all false
set_option linter.defProp false
set_option maxHeartbeats 8000000
noncomputable section
namespace Go.Gl
variable {P:Program} {Y Y':Ren} {Z:AE} {env env₀:Env}
def ob {α β:Type} (o:Option α) (k:α->Option β):Option β:=match o with|some v=>k v|none=>none
def AR {α β:Type} {o:Option α} {k:α->Option β} {r:β} (h:ob o k=some r): ∃v,o=some v/\k v=some r:=by
 cases o with
 | none=>cases h
 | some v=>exact⟨v,rfl,h⟩
def xw (Y:Ren):Ab->Ab->Prop
 | .BV v,x=> ∃v',RV Y v v'/\x= .BV v'
 | .normal,x=>x= .normal
 | .ret,x=>x= .ret
 | .exit id,x=>x= .exit id
def oS (Y:Ren):R->R->Prop
 | .ret v,r=> ∃v',RV Y v v'/\r= .ret v'
 | .BV v,r=> ∃v',RV Y v v'/\r= .BV v'
abbrev CF:=FuncId->List V->St->Option (R×St)
abbrev CV:=V->List V->St->Option (R×St)
abbrev CP:=FuncId->List V->Option V
def KT (P:Program) (c:CF):Prop:= ∀f vs s r s',c f vs s=some (r,s')-> ∀Y vs' Z,Kw Y vs vs'->SR P Y s Z-> ∀Q:R->AE->Prop,(∀Y' r' Z',Y.le Y'->oS Y' r r'->SR P Y' s' Z'->Q r' Z')->Ao P f vs' Z Q
def JJ (P:Program) (c:CV):Prop:= ∀x vs s r s',c x vs s=some (r,s')-> ∀Y x' vs' Z,RV Y x x'->Kw Y vs vs'->SR P Y s Z-> ∀Q:R->AE->Prop,(∀Y' r' Z',Y.le Y'->oS Y' r r'->SR P Y' s' Z'->Q r' Z')->Ak P x' vs' Z Q
def Mo (P:Program) (c:CP):Prop:= ∀f vs v,c f vs=some v->B3 vs=true/\BC v=true/\Pure P f vs v
def ov (o:Option V) (s:St):Option (R×St):=match o with|some v=>some (.ret v,s)|none=>none
def CJ {o:Option V} {s s':St} {r:R} (h:ov o s=some (r,s')): ∃v,o=some v/\r= .ret v/\s'=s:=by
 cases o with
 | none=>cases h
 | some v=>cases h;exact⟨v,rfl,rfl,rfl⟩
def os (o:Option St):Option (R×St):=match o with|some s=>some (.ret (.t []),s)|none=>none
def ly {o:Option St} {s':St} {r:R} (h:os o=some (r,s')):o=some s'/\r= .ret (.t []):=by
 cases o with
 | none=>cases h
 | some v=>cases h;exact⟨rfl,rfl⟩
def aG (o:Option (V×St)):Option (R×St):=match o with|some (v,s)=>some (.ret v,s)|none=>none
def Le {o:Option (V×St)} {s':St} {r:R} (h:aG o=some (r,s')): ∃v,o=some (v,s')/\r= .ret v:=by
 cases o with
 | none=>cases h
 | some v=>cases h;exact⟨_,rfl,rfl⟩
def KB (env:Env):Option Bb->Option (Option V)
 | none=>some none
 | some x=>match DG env x with|some v=>some (some v)|none=>none
def Mz (he:RE Y env env₀) {x:Option Bb} {v:Option V} (h:KB env x=some v): ∃v',G4 env₀ x=some v'/\oR Y v v':=by
 cases x with
 | none=>cases h;exact⟨none,rfl,rfl⟩
 | some x=>
   simp only[KB]at h;split at h
   .rename_i u hu
    cases h;obtain⟨v',h1,h2⟩:=Ap he hu;exact⟨some v',by simp only[G4,h1],v',h2,rfl⟩
   .cases h
def dm (t:TypeId) (z:V) (ok:Bool) (x:V):Option V:=
 match x with
 | .Ee t' v=>bif Nat.beq t' t then some (bif ok then .t [v,.b true]else v)else(bif ok&&BC z then some (.t [z,.b false])else none)
 | .DT=>bif ok&&BC z then some (.t [z,.b false])else none
 | _=>none
def Mc (x:V):Option V:=
 match x with
 | .p n off=>some (.p n off)
 | .rp cs=>some (.rp cs)
 | .pe n sz i off=>some (.pe n sz i off)
 | .f (.func f) a b=>some (.f (.func f) a b)
 | .f (.yield f) a b=>some (.f (.yield f) a b)
 | _=>none
def FT (cf:CF) (cv:CV) (cp:CP) (o:FU) (env:Env) (s:St):Option (R×St):=
 match o with
 | .mv x=>ov (DG env x) s
 | .kL x=>ov (DG env x) s
 | .pick c a b=>ob (DG env c) fun vc=>ob (DG env a) fun va=>ob (DG env b) fun vb=>match vc with| .b t=>some (.ret (bif t then va else vb),s)|_=>none
 | .bin op x y=>ob (DG env x) fun vx=>ob (DG env y) fun vy=>ov (Uk op vx vy) s
 | .kR neg x y=>ob (DG env x) fun vx=>ob (DG env y) fun vy=>match vx,vy with| .b p,.b q=>some (.ret (.b (bif neg then p != q else p==q)),s)|_,_=>none
 | .not x=>ob (DG env x) fun vx=>match vx with| .b p=>some (.ret (.b (!p)),s)|_=>none
 | .neg xor x=>ob (DG env x) fun vx=>match vx with| .i ka a=>some (.ret (.i ka (bif xor then bits .xor ka (bif ka.signed then -1 else ka.max) a else ka.wrap (0 - a))),s)|_=>none
 | .conv ka x=>ob (DG env x) fun vx=>match vx with| .i _ a=>some (.ret (.i ka (H9 ka a)),s)|_=>none
 | .box x=>ob (DG env x) fun vx=>ob (cellsOf vx) fun cs=>s.new (.cs cs) fun i s'=>some (.ret (.p i 0),s')
 | .N3 x=>ob (DG env x) fun vx=>ob (cellsOf vx) fun cs=>some (.ret (.rp cs),s)
 | .Q3 sz b x y=>ob (DG env x) fun vx=>ob (DG env y) fun vy=>ov (VC b s sz vx vy) s
 | .alloc z=>bif B3 z then s.new (.cs z) fun i s'=>some (.ret (.p i 0),s')else none
 | .build z parts=>bif B3 z then ob (Me env z parts) fun cs=>some (.ret (.a cs),s)else none
 | .Gj _ len z parts=>bif B3 z then ob (Mf env z.length (List.replicate len z) parts) fun es=>some (.ret (.l es true),s)else none
 | .load agg x=>ob (DG env x) fun vx=>ov (NU s agg vx) s
 | .store sz a x=>ob (DG env a) fun va=>ob (DG env x) fun vx=>os (PL s sz va vx)
 | .FW off x=>ob (DG env x) fun vx=>ov (TO off vx) s
 | .field agg off x=>ob (DG env x) fun vx=>match vx with| .a cs=>ov (Ui agg cs off) s|_=>none
 | .K4 sz arr x i=>ob (DG env x) fun vx=>ob (DG env i) fun vi=>ov (Md sz arr vx vi) s
 | .index len sz agg x i=>ob (DG env x) fun vx=>ob (DG env i) fun vi=>ov (PN len sz agg vx vi) s
 | .slice sz x lo hi mx=>ob (DG env x) fun vx=>ob (KB env lo) fun l=>ob (KB env hi) fun h=>ob (KB env mx) fun m=>aG (PM s sz vx l h m)
 | .len x=>ob (DG env x) fun vx=>ov (aZ vx) s
 | .Sx x=>ob (DG env x) fun vx=>ov (VA s vx) s
 | .UT x i=>ob (DG env x) fun vx=>ob (DG env i) fun vi=>ov (U9 vx vi) s
 | .str x=>ob (DG env x) fun vx=>ov (dn s vx) s
 | .append sz b x y=>ob (DG env x) fun vx=>ob (DG env y) fun vy=>aG (LQ b s sz vx vy)
 | .copy sz x y=>ob (DG env x) fun vx=>ob (DG env y) fun vy=>aG (VB s sz vx vy)
 | .UY x y=>ob (DG env x) fun vx=>ob (DG env y) fun vy=>match vx,vy with| .i ka a,.i kb b=>bif decide (ka=kb)then some (.ret (.i ka (bif MI a b then b else a)),s)else none|_,_=>none
 | .UX x y=>ob (DG env x) fun vx=>ob (DG env y) fun vy=>match vx,vy with| .i ka a,.i kb b=>bif decide (ka=kb)then some (.ret (.i ka (bif MI b a then b else a)),s)else none|_,_=>none
 | .extract i x=>ob (DG env x) fun vx=>match vx with| .t vs=>ov (vs[i]?) s|_=>none
 | .IB x=>ob (DG env x) fun vx=>ov (Mc vx) s
 | .dF f first cap=>ob (N1 env first) fun vf=>ob (N1 env cap) fun vc=>bif MT f then some (.ret (.f f vf vc),s)else none
 | .NR t x=>ob (DG env x) fun vx=>some (.ret (.Ee t vx),s)
 | .dD t z ok x=>ob (DG env x) fun vx=>ov (dm t z ok vx) s
 | .panic x=>ob (DG env x) fun vx=>match vx with| .Ee t v=>some (.BV (.Ee t v),s)|_=>none
 | .call f args=>ob (N1 env args) fun vs=>cf f vs s
 | .kQ len neg x y=>ob (DG env x) fun vx=>ob (DG env y) fun vy=>ov (dt len neg vx vy) s
 | .dI kind neg x=>ob (DG env x) fun vx=>ov (dq kind neg vx) s
 | .Fb sz _ z x y=>ob (DG env x) fun vx=>ob (DG env y) fun vy=>aG (Iw s sz z vx vy)
 | .NQ=>s.new (.map []) fun i s'=>some (.ret (.m i),s')
 | .lookup ks z ok m key=>ob (DG env m) fun vm=>ob (DG env key) fun vk=>ov (LO s ks z ok vm vk) s
 | .D0 ks m key x=>ob (DG env m) fun vm=>ob (DG env key) fun vk=>ob (DG env x) fun vx=>os (LN s ks vm vk vx)
 | .K7 f args=>ob (N1 env args) fun vs=>ov (cp f vs) s
 | .Ii x args=>ob (DG env x) fun vx=>ob (N1 env args) fun vs=>cv vx vs s
 | .inv tab x args=>ob (DG env x) fun vx=>ob (N1 env args) fun vs=>match vx with| .Ee t v=>ob (look t tab) fun f=>cf f (v::vs) s|_=>none
 | _=>none
def nT {t:TypeId} {z:V} {ok:Bool} {x x' v:V} (h:dm t z ok x=some v) (hx:RV Y x x') {K:V->Prop} (U: ∀v',RV Y v v'->K v') :
    match(generalizing:=false) x' with
     | .Ee t' v=>(t'=t->K (bif ok then .t [v,.b true]else v))/\(t'≠t->ok=true/\K (.t [z,.b false]))
     | .DT=>ok=true/\K (.t [z,.b false])
     | _=>False:=by
 have zz: ∀ {v},BC z=true->some (V.t [z,.b false])=some v->K (.t [z,.b false])->K v:=fun _ e k=>by cases e;exact k
 unfold dm at h;split at h
 .rename_i t' u
  obtain⟨u',h1,rfl⟩:=hx;refine⟨fun e=>?_,fun e=>?_⟩
  .subst e
   rw[Nat.beq_refl]at h;cases h;cases ok with
   | true=>exact U _ (by simp only[cond_true,RV];exact⟨_,BQ.2 (F2.cons h1 (F2.cons (RV.pure _ rfl) F2.nil)),rfl⟩)
   | false=>exact U _ h1
  .have hb:Nat.beq t' t=false:=by
    cases hb:Nat.beq t' t with
    | false=>rfl
    | true=>exact absurd (Cg hb) e
   rw[hb]at h;obtain⟨h2,h3⟩:=AV h;simp only[A4]at h2;cases h3;exact⟨h2.1,U _ (by simp only[RV];exact⟨_,BQ.2 (F2.cons (RV.pure _ h2.2) (F2.cons (RV.pure _ rfl) F2.nil)),rfl⟩)⟩
 .simp only[RV]at hx
  subst hx;obtain⟨h2,h3⟩:=AV h;simp only[A4]at h2;cases h3;exact⟨h2.1,U _ (by simp only[RV];exact⟨_,BQ.2 (F2.cons (RV.pure _ h2.2) (F2.cons (RV.pure _ rfl) F2.nil)),rfl⟩)⟩
 .cases h
def cO {x x' v:V} (h:Mc x=some v) (hx:RV Y x x') {K:V->Prop} (U: ∀v',RV Y v v'->K v') :
    match(generalizing:=false) x' with
     | .p n off=>K (.p n off)
     | .rp cs=>K (.rp cs)
     | .pe n sz i off=>K (.pe n sz i off)
     | .f (.func f) first cap=>K (.f (.func f) first cap)
     | .f (.yield l) first cap=>K (.f (.yield l) first cap)
     | _=>False:=by
 have hv:v=x:=by unfold Mc at h;split at h<;>cases h<;>rfl
 subst hv;have hk:=U _ hx;unfold Mc at h;split at h
 .obtain⟨_,_,rfl⟩:=hx;exact hk
 .obtain⟨_,_,rfl⟩:=hx;exact hk
 .obtain⟨_,_,rfl⟩:=hx;exact hk
 .obtain⟨fn,a,b,h1,_,_,rfl⟩:=hx
  simp only[aN]at h1;subst h1;exact hk
 .obtain⟨fn,a,b,h1,_,_,rfl⟩:=hx
  obtain⟨m,_,rfl⟩:=h1;exact hk
 .cases h
def fh {cf:CF} {cv:CV} {cp:CP} (hcf:KT P cf) (hcv:JJ P cv) (hcp:Mo P cp) {o:FU} {s s':St} {r:R} (h:FT cf cv cp o env s=some (r,s')) (he:RE Y env env₀) (hs:SR P Y s Z) {k kp:V->AE->Prop}
    (hk: ∀Y' r' Z',Y.le Y'->oS Y' r r'->SR P Y' s' Z'->qk k kp r' Z'):Ez P o env₀ Z k kp:=by
 have hv: ∀ {v:V},r= .ret v->s'=s-> ∀v',RV Y v v'->k v' Z:=fun e1 e2 v' g=>by
  subst e1;subst e2;exact hk Y (.ret v') Z (.refl _) ⟨v',g,rfl⟩ hs
 have hvs: ∀ {v:V},r= .ret v-> ∀v' Z',RV Y v v'->SR P Y s' Z'->k v' Z':=fun e1 v' Z' g g2=>by
  subst e1;exact hk Y (.ret v') Z' (.refl _) ⟨v',g,rfl⟩ g2
 have hvr: ∀ {v:V},r= .ret v-> ∀Y' v' Z',Y.le Y'->RV Y' v v'->SR P Y' s' Z'->k v' Z':=fun e1 Y' v' Z' g0 g g2=>by
  subst e1;exact hk Y' (.ret v') Z' g0 ⟨v',g,rfl⟩ g2
 have hu: ∀ {o1:Option St},os o1=some (r,s')->o1=some s'/\ ∀Z',SR P Y s' Z'->k (.t []) Z':=fun h=>by
  obtain⟨h1,h2⟩:=ly h;subst h2;exact⟨h1,fun Z' h3=>hk Y (.ret (.t [])) Z' (.refl _) ⟨_,RV.pure _ rfl,rfl⟩ h3⟩
 cases o<;>simp only[FT]at h<;>simp only[Ez]
 case mv x=>
  obtain⟨v,h1,h2,h3⟩:=CJ h;obtain⟨v',e1,e2⟩:=Ap he h1;rw[e1];exact hv h2 h3 _ e2
 case kL x=>
  obtain⟨v,h1,h2,h3⟩:=CJ h;obtain⟨v',e1,e2⟩:=Ap he h1;rw[e1];exact⟨v',Z,Sub.refl _,.refl _,hv h2 h3 _ e2⟩
 case pick c a b=>
  replace h:=AR h;obtain⟨vc,h1,h⟩:=h;replace h:=AR h;obtain⟨va,h2,h⟩:=h;replace h:=AR h;obtain⟨vb,h3,h⟩:=h;obtain⟨vc',e1,r1⟩:=Ap he h1;obtain⟨va',e2,r2⟩:=Ap he h2;obtain⟨vb',e3,r3⟩:=Ap he h3;rw[e1,e2,e3];simp only[wv];split at h
  .rename_i t
   simp only[RV]at r1;subst r1;cases h;have hh:=hv rfl rfl (bif t then va' else vb') (by cases t;exact r3;exact r2);cases t<;>cases va'<;>first|exact hh|(cases vb'<;>exact hh)
  .cases h
 case bin op x y=>
  replace h:=AR h;obtain⟨vx,h1,h⟩:=h;replace h:=AR h;obtain⟨vy,h2,h⟩:=h;obtain⟨v,h3,h4,h5⟩:=CJ h;obtain⟨vx',e1,r1⟩:=Ap he h1;obtain⟨vy',e2,r2⟩:=Ap he h2;obtain⟨p1,p2,p3,p4⟩:=nZ h3;rw[e1,e2,RV.kP r1 p1,RV.kP r2 p2];exact p4 (fun v=>k v Z) (hv h4 h5 _ (RV.pure _ p3))
 case kR neg x y=>
  replace h:=AR h;obtain⟨vx,h1,h⟩:=h;replace h:=AR h;obtain⟨vy,h2,h⟩:=h;obtain⟨vx',e1,r1⟩:=Ap he h1;obtain⟨vy',e2,r2⟩:=Ap he h2;rw[e1,e2];split at h
  .simp only[RV]at r1 r2
   subst r1;subst r2;cases h;exact hv rfl rfl _ (RV.pure _ rfl)
  .cases h
 case not x=>
  replace h:=AR h;obtain⟨vx,h1,h⟩:=h;obtain⟨vx',e1,r1⟩:=Ap he h1;rw[e1];split at h
  .simp only[RV]at r1
   subst r1;cases h;exact hv rfl rfl _ (RV.pure _ rfl)
  .cases h
 case neg xor x=>
  replace h:=AR h;obtain⟨vx,h1,h⟩:=h;obtain⟨vx',e1,r1⟩:=Ap he h1;rw[e1];split at h
  .simp only[RV]at r1
   subst r1;cases h;exact hv rfl rfl _ (RV.pure _ rfl)
  .cases h
 case conv ka x=>
  replace h:=AR h;obtain⟨vx,h1,h⟩:=h;obtain⟨vx',e1,r1⟩:=Ap he h1;rw[e1];split at h
  .simp only[RV]at r1
   subst r1;cases h;have:=hv rfl rfl _ (RV.pure _ rfl);rw[Iq]at this;exact this
  .cases h
 case box x=>
  replace h:=AR h;obtain⟨vx,h1,h⟩:=h;replace h:=AR h;obtain⟨cs,h2,h⟩:=h;obtain⟨vx',e1,r1⟩:=Ap he h1;obtain⟨cs',e2,r2⟩:=F4 h2 r1;obtain⟨h3,h4⟩:=St.Hl h;cases h4;rw[e1];simp only[wv,e2];intro n hn;obtain⟨Y',q1,q2,q3⟩:=hs.new h3 hn 0 (o:= .cs cs) (o':= .cs cs') ⟨_,r2,rfl⟩;exact hvr rfl Y' _ _ q1 (by simp only[RV];exact⟨_,q2,rfl⟩) q3
 case N3 x=>
  replace h:=AR h;obtain⟨vx,h1,h⟩:=h;replace h:=AR h;obtain⟨cs,h2,h⟩:=h;obtain⟨vx',e1,r1⟩:=Ap he h1;obtain⟨cs',e2,r2⟩:=F4 h2 r1;cases h;rw[e1];simp only[wv,e2];exact hv rfl rfl _ (by simp only[RV];exact⟨_,BQ.2 r2,rfl⟩)
 case Q3 sz b x y=>
  replace h:=AR h;obtain⟨vx,h1,h⟩:=h;replace h:=AR h;obtain⟨vy,h2,h⟩:=h;obtain⟨v,h3,h4,h5⟩:=CJ h;obtain⟨vx',e1,r1⟩:=Ap he h1;obtain⟨vy',e2,r2⟩:=Ap he h2;rw[e1,e2];exact jY hs h3 r1 r2 (hv h4 h5)
 case alloc z=>
  replace h:=AV h;obtain⟨h0,h⟩:=h;obtain⟨h3,h4⟩:=St.Hl h;cases h4;intro n hn;obtain⟨Y',q1,q2,q3⟩:=hs.new h3 hn 0 (o:= .cs z) (o':= .cs z) ⟨_,BQ.1 (RL.pure z h0),rfl⟩;exact hvr rfl Y' _ _ q1 (by simp only[RV];exact⟨_,q2,rfl⟩) q3
 case build z parts=>
  replace h:=AV h;obtain⟨h0,h⟩:=h;replace h:=AR h;obtain⟨cs,h1,h⟩:=h;cases h;obtain⟨cs',e1,r1⟩:=SS he h1 (BQ.1 (RL.pure z h0));rw[e1];exact hv rfl rfl _ (by simp only[RV];exact⟨_,BQ.2 r1,rfl⟩)
 case Gj b len z parts=>
  replace h:=AV h;obtain⟨h0,h⟩:=h;replace h:=AR h;obtain⟨cs,h1,h⟩:=h;cases h;obtain⟨cs',e1,r1⟩:=SU he h1 (F2.rep (BQ.1 (RL.pure z h0)) len);rw[e1];exact hv rfl rfl _ (by simp only[RV];exact⟨_,FF.2 r1,rfl⟩)
 case load agg x=>
  replace h:=AR h;obtain⟨vx,h1,h⟩:=h;obtain⟨v,h3,h4,h5⟩:=CJ h;obtain⟨vx',e1,r1⟩:=Ap he h1;rw[e1];exact V6 hs h3 r1 (hv h4 h5)
 case store sz a x=>
  replace h:=AR h;obtain⟨vx,h1,h⟩:=h;replace h:=AR h;obtain⟨vy,h2,h⟩:=h;obtain⟨vx',e1,r1⟩:=Ap he h1;obtain⟨vy',e2,r2⟩:=Ap he h2;obtain⟨h3,h4⟩:=hu h;rw[e1,e2];exact cM hs h3 r1 r2 h4
 case FW off x=>
  replace h:=AR h;obtain⟨vx,h1,h⟩:=h;obtain⟨v,h3,h4,h5⟩:=CJ h;obtain⟨vx',e1,r1⟩:=Ap he h1;rw[e1];exact cS h3 r1 (hv h4 h5)
 case field agg off x=>
  replace h:=AR h;obtain⟨vx,h1,h⟩:=h;obtain⟨vx',e1,r1⟩:=Ap he h1;rw[e1];split at h
  .obtain⟨v,h3,h4,h5⟩:=CJ h
   obtain⟨c,g1,rfl⟩:=r1;exact LP h3 (BQ.1 g1) (hv h4 h5)
  .cases h
 case K4 sz arr x i=>
  replace h:=AR h;obtain⟨vx,h1,h⟩:=h;replace h:=AR h;obtain⟨vy,h2,h⟩:=h;obtain⟨v,h3,h4,h5⟩:=CJ h;obtain⟨vx',e1,r1⟩:=Ap he h1;obtain⟨vy',e2,r2⟩:=Ap he h2;rw[e1,e2];exact cR h3 r1 r2 (hv h4 h5)
 case index len sz agg x i=>
  replace h:=AR h;obtain⟨vx,h1,h⟩:=h;replace h:=AR h;obtain⟨vy,h2,h⟩:=h;obtain⟨v,h3,h4,h5⟩:=CJ h;obtain⟨vx',e1,r1⟩:=Ap he h1;obtain⟨vy',e2,r2⟩:=Ap he h2;rw[e1,e2];exact cQ h3 r1 r2 (hv h4 h5)
 case slice sz x lo hi mx=>
  replace h:=AR h;obtain⟨vx,h1,h⟩:=h;replace h:=AR h;obtain⟨l,h2,h⟩:=h;replace h:=AR h;obtain⟨hh,h3,h⟩:=h;replace h:=AR h;obtain⟨m,h4,h⟩:=h;obtain⟨v,h5,h6⟩:=Le h;obtain⟨vx',e1,r1⟩:=Ap he h1;obtain⟨l',e2,r2⟩:=Mz he h2;obtain⟨hh',e3,r3⟩:=Mz he h3;obtain⟨m',e4,r4⟩:=Mz he h4;rw[e1,e2,e3,e4];exact cN hs h5 r1 r2 r3 r4 (hvr h6)
 case len x=>
  replace h:=AR h;obtain⟨vx,h1,h⟩:=h;obtain⟨v,h3,h4,h5⟩:=CJ h;obtain⟨vx',e1,r1⟩:=Ap he h1;rw[e1];exact nV h3 r1 (hv h4 h5)
 case Sx x=>
  replace h:=AR h;obtain⟨vx,h1,h⟩:=h;obtain⟨v,h3,h4,h5⟩:=CJ h;obtain⟨vx',e1,r1⟩:=Ap he h1;rw[e1];exact jW hs h3 r1 (hv h4 h5)
 case UT x i=>
  replace h:=AR h;obtain⟨vx,h1,h⟩:=h;replace h:=AR h;obtain⟨vi,h2,h⟩:=h;obtain⟨v,h3,h4,h5⟩:=CJ h;obtain⟨vx',e1,r1⟩:=Ap he h1;obtain⟨vi',e2,r2⟩:=Ap he h2;rw[e1,e2];exact jV h3 r1 r2 (hv h4 h5)
 case str x=>
  replace h:=AR h;obtain⟨vx,h1,h⟩:=h;obtain⟨v,h3,h4,h5⟩:=CJ h;obtain⟨vx',e1,r1⟩:=Ap he h1;rw[e1];exact nU hs h3 r1 (hv h4 h5)
 case append sz b x y=>
  replace h:=AR h;obtain⟨vx,h1,h⟩:=h;replace h:=AR h;obtain⟨vy,h2,h⟩:=h;obtain⟨v,h3,h4⟩:=Le h;obtain⟨vx',e1,r1⟩:=Ap he h1;obtain⟨vy',e2,r2⟩:=Ap he h2;rw[e1,e2];exact YW hs h3 r1 r2 (hvr h4)
 case copy sz x y=>
  replace h:=AR h;obtain⟨vx,h1,h⟩:=h;replace h:=AR h;obtain⟨vy,h2,h⟩:=h;obtain⟨v,h3,h4⟩:=Le h;obtain⟨vx',e1,r1⟩:=Ap he h1;obtain⟨vy',e2,r2⟩:=Ap he h2;rw[e1,e2];exact jX hs h3 r1 r2 (hvs h4)
 case UY x y=>
  replace h:=AR h;obtain⟨vx,h1,h⟩:=h;replace h:=AR h;obtain⟨vy,h2,h⟩:=h;obtain⟨vx',e1,r1⟩:=Ap he h1;obtain⟨vy',e2,r2⟩:=Ap he h2;rw[e1,e2];split at h
  .rename_i ka a kb b
   simp only[RV]at r1 r2;subst r1;subst r2;obtain⟨h3,h4⟩:=AV h;cases h4;refine⟨of_decide_eq_true h3,?_⟩;have:=hv rfl rfl _ (RV.pure _ rfl);rw[PG]at this;by_cases e:a<b
   .rw[if_pos e];rw[decide_eq_true e]at this;exact this
   .rw[if_neg e];rw[decide_eq_false e]at this;exact this
  .cases h
 case UX x y=>
  replace h:=AR h;obtain⟨vx,h1,h⟩:=h;replace h:=AR h;obtain⟨vy,h2,h⟩:=h;obtain⟨vx',e1,r1⟩:=Ap he h1;obtain⟨vy',e2,r2⟩:=Ap he h2;rw[e1,e2];split at h
  .rename_i ka a kb b
   simp only[RV]at r1 r2;subst r1;subst r2;obtain⟨h3,h4⟩:=AV h;cases h4;refine⟨of_decide_eq_true h3,?_⟩;have:=hv rfl rfl _ (RV.pure _ rfl);rw[PG]at this;by_cases e:b<a
   .rw[if_pos e];rw[decide_eq_true e]at this;exact this
   .rw[if_neg e];rw[decide_eq_false e]at this;exact this
  .cases h
 case extract i x=>
  replace h:=AR h;obtain⟨vx,h1,h⟩:=h;obtain⟨vx',e1,r1⟩:=Ap he h1;rw[e1];split at h
  .obtain⟨v,h3,h4,h5⟩:=CJ h
   obtain⟨c,g1,rfl⟩:=r1;obtain⟨y,g2,g3⟩:=(BQ.1 g1).get h3;simp only[wv,g2];exact hv h4 h5 _ g3
  .cases h
 case IB x=>
  replace h:=AR h;obtain⟨vx,h1,h⟩:=h;obtain⟨v,h3,h4,h5⟩:=CJ h;obtain⟨vx',e1,r1⟩:=Ap he h1;rw[e1];exact cO (K:=fun v=>k v Z) h3 r1 (hv h4 h5)
 case dF f first cap=>
  replace h:=AR h;obtain⟨vf,h1,h⟩:=h;replace h:=AR h;obtain⟨vc,h2,h⟩:=h;obtain⟨h3,h4⟩:=AV h;cases h4;obtain⟨vf',e1,r1⟩:=Ht he h1;obtain⟨vc',e2,r2⟩:=Ht he h2;rw[e1,e2];refine hv rfl rfl _ ?_;simp only[RV];exact⟨f,vf',vc',by cases f<;>first|rfl|(simp[MT]at h3),BQ.2 r1,BQ.2 r2,rfl⟩
 case NR t x=>
  replace h:=AR h;obtain⟨vx,h1,h⟩:=h;cases h;obtain⟨vx',e1,r1⟩:=Ap he h1;rw[e1];exact hv rfl rfl _ (by simp only[RV];exact⟨_,r1,rfl⟩)
 case dD t z ok x=>
  replace h:=AR h;obtain⟨vx,h1,h⟩:=h;obtain⟨v,h3,h4,h5⟩:=CJ h;obtain⟨vx',e1,r1⟩:=Ap he h1;rw[e1];exact nT (K:=fun v=>k v Z) h3 r1 (hv h4 h5)
 case panic x=>
  replace h:=AR h;obtain⟨vx,h1,h⟩:=h;obtain⟨vx',e1,r1⟩:=Ap he h1;rw[e1];split at h
  .rename_i t v
   obtain⟨v',g1,rfl⟩:=r1;cases h;exact hk Y (.BV (.Ee t v')) Z (.refl _) ⟨_,by simp only[RV];exact⟨v',g1,rfl⟩,rfl⟩ hs
  .cases h
 case call f args=>
  replace h:=AR h;obtain⟨vs,h1,h⟩:=h;obtain⟨vs',e1,r1⟩:=Ht he h1;rw[e1];exact hcf f vs s r s' h Y vs' Z r1 hs _ hk
 case kQ len neg x y=>
  replace h:=AR h;obtain⟨vx,h1,h⟩:=h;replace h:=AR h;obtain⟨vy,h2,h⟩:=h;obtain⟨v,h3,h4,h5⟩:=CJ h;obtain⟨vx',e1,r1⟩:=Ap he h1;obtain⟨vy',e2,r2⟩:=Ap he h2;rw[e1,e2];exact nY h3 r1 r2 (hv h4 h5)
 case dI kind neg x=>
  replace h:=AR h;obtain⟨vx,h1,h⟩:=h;obtain⟨v,h3,h4,h5⟩:=CJ h;obtain⟨vx',e1,r1⟩:=Ap he h1;rw[e1];exact nX h3 r1 (hv h4 h5)
 case Fb sz b z x y=>
  replace h:=AR h;obtain⟨vx,h1,h⟩:=h;replace h:=AR h;obtain⟨vy,h2,h⟩:=h;obtain⟨v,h3,h4⟩:=Le h;obtain⟨vx',e1,r1⟩:=Ap he h1;obtain⟨vy',e2,r2⟩:=Ap he h2;rw[e1,e2];exact Ww hs h3 r1 r2 (hvr h4)
 case NQ=>
  obtain⟨h3,h4⟩:=St.Hl h;cases h4;intro n hn;obtain⟨Y',q1,q2,q3⟩:=hs.new h3 hn 0 (o:= .map []) (o':= .map []) ⟨[],F2.nil,rfl⟩;exact hvr rfl Y' _ _ q1 (by simp only[RV];exact⟨_,q2,rfl⟩) q3
 case lookup ks z ok m key=>
  replace h:=AR h;obtain⟨vx,h1,h⟩:=h;replace h:=AR h;obtain⟨vy,h2,h⟩:=h;obtain⟨v,h3,h4,h5⟩:=CJ h;obtain⟨vx',e1,r1⟩:=Ap he h1;obtain⟨vy',e2,r2⟩:=Ap he h2;rw[e1,e2];exact YV hs h3 r1 r2 (hv h4 h5)
 case D0 ks m key x=>
  replace h:=AR h;obtain⟨vx,h1,h⟩:=h;replace h:=AR h;obtain⟨vy,h2,h⟩:=h;replace h:=AR h;obtain⟨vz,h3,h⟩:=h;obtain⟨vx',e1,r1⟩:=Ap he h1;obtain⟨vy',e2,r2⟩:=Ap he h2;obtain⟨vz',e3,r3⟩:=Ap he h3;obtain⟨h4,h5⟩:=hu h;rw[e1,e2,e3];exact YU hs h4 r1 r2 r3 h5
 case K7 f args=>
  replace h:=AR h;obtain⟨vs,h1,h⟩:=h;obtain⟨v,h3,h4,h5⟩:=CJ h;obtain⟨vs',e1,r1⟩:=Ht he h1;obtain⟨p1,p2,p3⟩:=hcp f vs v h3;rw[e1,kz r1 p1];exact⟨v,p3,hv h4 h5 _ (RV.pure _ p2)⟩
 case Ii x args=>
  replace h:=AR h;obtain⟨vx,h1,h⟩:=h;replace h:=AR h;obtain⟨vs,h2,h⟩:=h;obtain⟨vx',e1,r1⟩:=Ap he h1;obtain⟨vs',e2,r2⟩:=Ht he h2;rw[e1,e2];exact hcv vx vs s r s' h Y vx' vs' Z r1 r2 hs _ hk
 case inv tab x args=>
  replace h:=AR h;obtain⟨vx,h1,h⟩:=h;replace h:=AR h;obtain⟨vs,h2,h⟩:=h;obtain⟨vx',e1,r1⟩:=Ap he h1;obtain⟨vs',e2,r2⟩:=Ht he h2;rw[e1,e2];split at h
  .rename_i t v
   obtain⟨v',g1,rfl⟩:=r1;obtain⟨f,h3,h4⟩:=AR h;simp only[wv,ws,Au,h3];exact hcf f (v::vs) s r s' h4 Y (v'::vs') Z (F2.cons g1 r2) hs _ hk
  .cases h
 all_goals cases h
end Go.Gl
