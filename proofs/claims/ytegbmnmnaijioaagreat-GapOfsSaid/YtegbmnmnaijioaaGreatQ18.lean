import Derived.Test.YtegbmnmnaijioaaGreatQ17
set_option linter.all false
set_option linter.defProp false
set_option maxHeartbeats 8000000
noncomputable section
namespace Go.Gl
variable {P:Program} {Y Y':Ren} {Z:AE} {env env₀:Env}
def ob {α β:Type} (o:Option α) (k:α->Option β):Option β:=match o with|some v=>k v|none=>none
def AT {α β:Type} {o:Option α} {k:α->Option β} {r:β} (h:ob o k=some r): ∃v,o=some v/\k v=some r:=by
 cases o with
 | none=>cases h
 | some v=>exact⟨v,rfl,h⟩
def REx (Y:Ren):Ac->Ac->Prop
 | .Bj v,x=> ∃v',RV Y v v'/\x= .Bj v'
 | .normal,x=>x= .normal
 | .ret,x=>x= .ret
 | .exit id,x=>x= .exit id
def rH (Y:Ren):R->R->Prop
 | .ret v,r=> ∃v',RV Y v v'/\r= .ret v'
 | .Bj v,r=> ∃v',RV Y v v'/\r= .Bj v'
abbrev CF:=FuncId->List V->St->Option (R×St)
abbrev CV:=V->List V->St->Option (R×St)
abbrev CP:=FuncId->List V->Option V
def Lf (P:Program) (c:CF):Prop:= ∀f vs s r s',c f vs s=some (r,s')-> ∀Y vs' Z,L4 Y vs vs'->SR P Y s Z-> ∀Q:R->AE->Prop,(∀Y' r' Z',Y.le Y'->rH Y' r r'->SR P Y' s' Z'->Q r' Z')->Au P f vs' Z Q
def Ka (P:Program) (c:CV):Prop:= ∀x vs s r s',c x vs s=some (r,s')-> ∀Y x' vs' Z,RV Y x x'->L4 Y vs vs'->SR P Y s Z-> ∀Q:R->AE->Prop,(∀Y' r' Z',Y.le Y'->rH Y' r r'->SR P Y' s' Z'->Q r' Z')->Ao P x' vs' Z Q
def N3 (P:Program) (c:CP):Prop:= ∀f vs v,c f vs=some v->CK vs=true/\BL v=true/\Pure P f vs v
def ov (o:Option V) (s:St):Option (R×St):=match o with|some v=>some (.ret v,s)|none=>none
def Ce {o:Option V} {s s':St} {r:R} (h:ov o s=some (r,s')): ∃v,o=some v/\r= .ret v/\s'=s:=by
 cases o with
 | none=>cases h
 | some v=>cases h;exact⟨v,rfl,rfl,rfl⟩
def os (o:Option St):Option (R×St):=match o with|some s=>some (.ret (.t []),s)|none=>none
def og {o:Option St} {s':St} {r:R} (h:os o=some (r,s')):o=some s'/\r= .ret (.t []):=by
 cases o with
 | none=>cases h
 | some v=>cases h;exact⟨rfl,rfl⟩
def cS (o:Option (V×St)):Option (R×St):=match o with|some (v,s)=>some (.ret v,s)|none=>none
def Mr {o:Option (V×St)} {s':St} {r:R} (h:cS o=some (r,s')): ∃v,o=some (v,s')/\r= .ret v:=by
 cases o with
 | none=>cases h
 | some v=>cases h;exact⟨_,rfl,rfl⟩
def LW (env:Env):Option Bn->Option (Option V)
 | none=>some none
 | some x=>match De env x with|some v=>some (some v)|none=>none
def OE (he:RE Y env env₀) {x:Option Bn} {v:Option V} (h:LW env x=some v): ∃v',Hz env₀ x=some v'/\rG Y v v':=by
 cases x with
 | none=>cases h;exact⟨none,rfl,rfl⟩
 | some x=>
   simp only[LW]at h;split at h
   .rename_i u hu
    cases h;obtain⟨v',h1,h2⟩:=Av he hu;exact⟨some v',by simp only[Hz,h1],v',h2,rfl⟩
   .cases h
def gS (t:TypeId) (z:V) (ok:Bool) (x:V):Option V:=
 match x with
 | .FO t' v=>bif Nat.beq t' t then some (bif ok then .t [v,.b true]else v)else(bif ok&&BL z then some (.t [z,.b false])else none)
 | .Dv=>bif ok&&BL z then some (.t [z,.b false])else none
 | _=>none
def Nu (x:V):Option V:=
 match x with
 | .p n off=>some (.p n off)
 | .rp cs=>some (.rp cs)
 | .pe n sz i off=>some (.pe n sz i off)
 | .f (.func f) a b=>some (.f (.func f) a b)
 | .f (.yield f) a b=>some (.f (.yield f) a b)
 | _=>none
def GI (cf:CF) (cv:CV) (cp:CP) (o:GJ) (env:Env) (s:St):Option (R×St):=
 match o with
 | .mv x=>ov (De env x) s
 | .m8 x=>ov (De env x) s
 | .pick c a b=>ob (De env c) fun vc=>ob (De env a) fun va=>ob (De env b) fun vb=>match vc with| .b t=>some (.ret (bif t then va else vb),s)|_=>none
 | .bin op x y=>ob (De env x) fun vx=>ob (De env y) fun vy=>ov (V4 op vx vy) s
 | .nD neg x y=>ob (De env x) fun vx=>ob (De env y) fun vy=>match vx,vy with| .b p,.b q=>some (.ret (.b (bif neg then p != q else p==q)),s)|_,_=>none
 | .not x=>ob (De env x) fun vx=>match vx with| .b p=>some (.ret (.b (!p)),s)|_=>none
 | .neg xor x=>ob (De env x) fun vx=>match vx with| .i ka a=>some (.ret (.i ka (bif xor then bits .xor ka (bif ka.signed then -1 else ka.max) a else ka.wrap (0 - a))),s)|_=>none
 | .conv ka x=>ob (De env x) fun vx=>match vx with| .i _ a=>some (.ret (.i ka (JE ka a)),s)|_=>none
 | .box x=>ob (De env x) fun vx=>ob (cellsOf vx) fun cs=>s.new (.cs cs) fun i s'=>some (.ret (.p i 0),s')
 | .PM x=>ob (De env x) fun vx=>ob (cellsOf vx) fun cs=>some (.ret (.rp cs),s)
 | .Sh sz b x y=>ob (De env x) fun vx=>ob (De env y) fun vy=>ov (WV b s sz vx vy) s
 | .alloc z=>bif CK z then s.new (.cs z) fun i s'=>some (.ret (.p i 0),s')else none
 | .build z parts=>bif CK z then ob (Nw env z parts) fun cs=>some (.ret (.a cs),s)else none
 | .Hi _ len z parts=>bif CK z then ob (Nx env z.length (List.replicate len z) parts) fun es=>some (.ret (.l es true),s)else none
 | .load agg x=>ob (De env x) fun vx=>ov (Oo s agg vx) s
 | .store sz a x=>ob (De env a) fun va=>ob (De env x) fun vx=>os (Qd s sz va vx)
 | .GO off x=>ob (De env x) fun vx=>ov (Uq off vx) s
 | .field agg off x=>ob (De env x) fun vx=>match vx with| .a cs=>ov (V2 agg cs off) s|_=>none
 | .MF sz arr x i=>ob (De env x) fun vx=>ob (De env i) fun vi=>ov (Nv sz arr vx vi) s
 | .index len sz agg x i=>ob (De env x) fun vx=>ob (De env i) fun vi=>ov (Qf len sz agg vx vi) s
 | .slice sz x lo hi mx=>ob (De env x) fun vx=>ob (LW env lo) fun l=>ob (LW env hi) fun h=>ob (LW env mx) fun m=>cS (Qe s sz vx l h m)
 | .len x=>ob (De env x) fun vx=>ov (cw vx) s
 | .UN x=>ob (De env x) fun vx=>ov (WS s vx) s
 | .Vp x i=>ob (De env x) fun vx=>ob (De env i) fun vi=>ov (WR vx vi) s
 | .str x=>ob (De env x) fun vx=>ov (gT s vx) s
 | .append sz b x y=>ob (De env x) fun vx=>ob (De env y) fun vy=>cS (Mc b s sz vx vy)
 | .copy sz x y=>ob (De env x) fun vx=>ob (De env y) fun vy=>cS (WU s sz vx vy)
 | .Vs x y=>ob (De env x) fun vx=>ob (De env y) fun vy=>match vx,vy with| .i ka a,.i kb b=>bif decide (ka=kb)then some (.ret (.i ka (bif NX a b then b else a)),s)else none|_,_=>none
 | .Vr x y=>ob (De env x) fun vx=>ob (De env y) fun vy=>match vx,vy with| .i ka a,.i kb b=>bif decide (ka=kb)then some (.ret (.i ka (bif NX b a then b else a)),s)else none|_,_=>none
 | .extract i x=>ob (De env x) fun vx=>match vx with| .t vs=>ov (vs[i]?) s|_=>none
 | .JK x=>ob (De env x) fun vx=>ov (Nu vx) s
 | .fk f first cap=>ob (PH env first) fun vf=>ob (PH env cap) fun vc=>bif Nn f then some (.ret (.f f vf vc),s)else none
 | .Oj t x=>ob (De env x) fun vx=>some (.ret (.FO t vx),s)
 | .fh t z ok x=>ob (De env x) fun vx=>ov (gS t z ok vx) s
 | .panic x=>ob (De env x) fun vx=>match vx with| .FO t v=>some (.Bj (.FO t v),s)|_=>none
 | .call f args=>ob (PH env args) fun vs=>cf f vs s
 | .nC len neg x y=>ob (De env x) fun vx=>ob (De env y) fun vy=>ov (gV len neg vx vy) s
 | .fm kind neg x=>ob (De env x) fun vx=>ov (gU kind neg vx) s
 | .GW sz _ z x y=>ob (De env x) fun vx=>ob (De env y) fun vy=>cS (J6 s sz z vx vy)
 | .Oi=>s.new (.map []) fun i s'=>some (.ret (.m i),s')
 | .lookup ks z ok m key=>ob (De env m) fun vm=>ob (De env key) fun vk=>ov (Ma s ks z ok vm vk) s
 | .Ef ks m key x=>ob (De env m) fun vm=>ob (De env key) fun vk=>ob (De env x) fun vx=>os (MZ s ks vm vk vx)
 | .MK f args=>ob (PH env args) fun vs=>ov (cp f vs) s
 | .Jy x args=>ob (De env x) fun vx=>ob (PH env args) fun vs=>cv vx vs s
 | .inv tab x args=>ob (De env x) fun vx=>ob (PH env args) fun vs=>match vx with| .FO t v=>ob (look t tab) fun f=>cf f (v::vs) s|_=>none
 | _=>none
def qN {t:TypeId} {z:V} {ok:Bool} {x x' v:V} (h:gS t z ok x=some v) (hx:RV Y x x') {K:V->Prop} (U: ∀v',RV Y v v'->K v') :
    match(generalizing:=false) x' with
     | .FO t' v=>(t'=t->K (bif ok then .t [v,.b true]else v))/\(t'≠t->ok=true/\K (.t [z,.b false]))
     | .Dv=>ok=true/\K (.t [z,.b false])
     | _=>False:=by
 have zz: ∀ {v},BL z=true->some (V.t [z,.b false])=some v->K (.t [z,.b false])->K v:=fun _ e k=>by cases e;exact k
 unfold gS at h;split at h
 .rename_i t' u
  obtain⟨u',h1,rfl⟩:=hx;refine⟨fun e=>?_,fun e=>?_⟩
  .subst e
   rw[Nat.beq_refl]at h;cases h;cases ok with
   | true=>exact U _ (by simp only[cond_true,RV];exact⟨_,Bh.2 (F2.cons h1 (F2.cons (RV.pure _ rfl) F2.nil)),rfl⟩)
   | false=>exact U _ h1
  .have hb:Nat.beq t' t=false:=by
    cases hb:Nat.beq t' t with
    | false=>rfl
    | true=>exact absurd (C5 hb) e
   rw[hb]at h;obtain⟨h2,h3⟩:=AW h;simp only[A9]at h2;cases h3;exact⟨h2.1,U _ (by simp only[RV];exact⟨_,Bh.2 (F2.cons (RV.pure _ h2.2) (F2.cons (RV.pure _ rfl) F2.nil)),rfl⟩)⟩
 .simp only[RV]at hx
  subst hx;obtain⟨h2,h3⟩:=AW h;simp only[A9]at h2;cases h3;exact⟨h2.1,U _ (by simp only[RV];exact⟨_,Bh.2 (F2.cons (RV.pure _ h2.2) (F2.cons (RV.pure _ rfl) F2.nil)),rfl⟩)⟩
 .cases h
def ez {x x' v:V} (h:Nu x=some v) (hx:RV Y x x') {K:V->Prop} (U: ∀v',RV Y v v'->K v') :
    match(generalizing:=false) x' with
     | .p n off=>K (.p n off)
     | .rp cs=>K (.rp cs)
     | .pe n sz i off=>K (.pe n sz i off)
     | .f (.func f) first cap=>K (.f (.func f) first cap)
     | .f (.yield l) first cap=>K (.f (.yield l) first cap)
     | _=>False:=by
 have hv:v=x:=by unfold Nu at h;split at h<;>cases h<;>rfl
 subst hv;have hk:=U _ hx;unfold Nu at h;split at h
 .obtain⟨_,_,rfl⟩:=hx;exact hk
 .obtain⟨_,_,rfl⟩:=hx;exact hk
 .obtain⟨_,_,rfl⟩:=hx;exact hk
 .obtain⟨fn,a,b,h1,_,_,rfl⟩:=hx
  simp only[cY]at h1;subst h1;exact hk
 .obtain⟨fn,a,b,h1,_,_,rfl⟩:=hx
  obtain⟨m,_,rfl⟩:=h1;exact hk
 .cases h
def jG {cf:CF} {cv:CV} {cp:CP} (hcf:Lf P cf) (hcv:Ka P cv) (hcp:N3 P cp) {o:GJ} {s s':St} {r:R} (h:GI cf cv cp o env s=some (r,s')) (he:RE Y env env₀) (hs:SR P Y s Z) {k kp:V->AE->Prop}
    (hk: ∀Y' r' Z',Y.le Y'->rH Y' r r'->SR P Y' s' Z'->qk k kp r' Z'):Fp P o env₀ Z k kp:=by
 have hv: ∀ {v:V},r= .ret v->s'=s-> ∀v',RV Y v v'->k v' Z:=fun e1 e2 v' g=>by
  subst e1;subst e2;exact hk Y (.ret v') Z (.refl _) ⟨v',g,rfl⟩ hs
 have hvs: ∀ {v:V},r= .ret v-> ∀v' Z',RV Y v v'->SR P Y s' Z'->k v' Z':=fun e1 v' Z' g g2=>by
  subst e1;exact hk Y (.ret v') Z' (.refl _) ⟨v',g,rfl⟩ g2
 have hvr: ∀ {v:V},r= .ret v-> ∀Y' v' Z',Y.le Y'->RV Y' v v'->SR P Y' s' Z'->k v' Z':=fun e1 Y' v' Z' g0 g g2=>by
  subst e1;exact hk Y' (.ret v') Z' g0 ⟨v',g,rfl⟩ g2
 have hu: ∀ {o1:Option St},os o1=some (r,s')->o1=some s'/\ ∀Z',SR P Y s' Z'->k (.t []) Z':=fun h=>by
  obtain⟨h1,h2⟩:=og h;subst h2;exact⟨h1,fun Z' h3=>hk Y (.ret (.t [])) Z' (.refl _) ⟨_,RV.pure _ rfl,rfl⟩ h3⟩
 cases o<;>simp only[GI]at h<;>simp only[Fp]
 case mv x=>
  obtain⟨v,h1,h2,h3⟩:=Ce h;obtain⟨v',e1,e2⟩:=Av he h1;rw[e1];exact hv h2 h3 _ e2
 case m8 x=>
  obtain⟨v,h1,h2,h3⟩:=Ce h;obtain⟨v',e1,e2⟩:=Av he h1;rw[e1];exact⟨v',Z,Sub.refl _,.refl _,hv h2 h3 _ e2⟩
 case pick c a b=>
  replace h:=AT h;obtain⟨vc,h1,h⟩:=h;replace h:=AT h;obtain⟨va,h2,h⟩:=h;replace h:=AT h;obtain⟨vb,h3,h⟩:=h;obtain⟨vc',e1,r1⟩:=Av he h1;obtain⟨va',e2,r2⟩:=Av he h2;obtain⟨vb',e3,r3⟩:=Av he h3;rw[e1,e2,e3];simp only[wv];split at h
  .rename_i t
   simp only[RV]at r1;subst r1;cases h;have hh:=hv rfl rfl (bif t then va' else vb') (by cases t;exact r3;exact r2);cases t<;>cases va'<;>first|exact hh|(cases vb'<;>exact hh)
  .cases h
 case bin op x y=>
  replace h:=AT h;obtain⟨vx,h1,h⟩:=h;replace h:=AT h;obtain⟨vy,h2,h⟩:=h;obtain⟨v,h3,h4,h5⟩:=Ce h;obtain⟨vx',e1,r1⟩:=Av he h1;obtain⟨vy',e2,r2⟩:=Av he h2;obtain⟨p1,p2,p3,p4⟩:=qS h3;rw[e1,e2,RV.nB r1 p1,RV.nB r2 p2];exact p4 (fun v=>k v Z) (hv h4 h5 _ (RV.pure _ p3))
 case nD neg x y=>
  replace h:=AT h;obtain⟨vx,h1,h⟩:=h;replace h:=AT h;obtain⟨vy,h2,h⟩:=h;obtain⟨vx',e1,r1⟩:=Av he h1;obtain⟨vy',e2,r2⟩:=Av he h2;rw[e1,e2];split at h
  .simp only[RV]at r1 r2
   subst r1;subst r2;cases h;exact hv rfl rfl _ (RV.pure _ rfl)
  .cases h
 case not x=>
  replace h:=AT h;obtain⟨vx,h1,h⟩:=h;obtain⟨vx',e1,r1⟩:=Av he h1;rw[e1];split at h
  .simp only[RV]at r1
   subst r1;cases h;exact hv rfl rfl _ (RV.pure _ rfl)
  .cases h
 case neg xor x=>
  replace h:=AT h;obtain⟨vx,h1,h⟩:=h;obtain⟨vx',e1,r1⟩:=Av he h1;rw[e1];split at h
  .simp only[RV]at r1
   subst r1;cases h;exact hv rfl rfl _ (RV.pure _ rfl)
  .cases h
 case conv ka x=>
  replace h:=AT h;obtain⟨vx,h1,h⟩:=h;obtain⟨vx',e1,r1⟩:=Av he h1;rw[e1];split at h
  .simp only[RV]at r1
   subst r1;cases h;have:=hv rfl rfl _ (RV.pure _ rfl);rw[J0]at this;exact this
  .cases h
 case box x=>
  replace h:=AT h;obtain⟨vx,h1,h⟩:=h;replace h:=AT h;obtain⟨cs,h2,h⟩:=h;obtain⟨vx',e1,r1⟩:=Av he h1;obtain⟨cs',e2,r2⟩:=Gy h2 r1;obtain⟨h3,h4⟩:=St.Ig h;cases h4;rw[e1];simp only[wv,e2];intro n hn;obtain⟨Y',q1,q2,q3⟩:=hs.new h3 hn 0 (o:= .cs cs) (o':= .cs cs') ⟨_,r2,rfl⟩;exact hvr rfl Y' _ _ q1 (by simp only[RV];exact⟨_,q2,rfl⟩) q3
 case PM x=>
  replace h:=AT h;obtain⟨vx,h1,h⟩:=h;replace h:=AT h;obtain⟨cs,h2,h⟩:=h;obtain⟨vx',e1,r1⟩:=Av he h1;obtain⟨cs',e2,r2⟩:=Gy h2 r1;cases h;rw[e1];simp only[wv,e2];exact hv rfl rfl _ (by simp only[RV];exact⟨_,Bh.2 r2,rfl⟩)
 case Sh sz b x y=>
  replace h:=AT h;obtain⟨vx,h1,h⟩:=h;replace h:=AT h;obtain⟨vy,h2,h⟩:=h;obtain⟨v,h3,h4,h5⟩:=Ce h;obtain⟨vx',e1,r1⟩:=Av he h1;obtain⟨vy',e2,r2⟩:=Av he h2;rw[e1,e2];exact mA hs h3 r1 r2 (hv h4 h5)
 case alloc z=>
  replace h:=AW h;obtain⟨h0,h⟩:=h;obtain⟨h3,h4⟩:=St.Ig h;cases h4;intro n hn;obtain⟨Y',q1,q2,q3⟩:=hs.new h3 hn 0 (o:= .cs z) (o':= .cs z) ⟨_,Bh.1 (RL.pure z h0),rfl⟩;exact hvr rfl Y' _ _ q1 (by simp only[RV];exact⟨_,q2,rfl⟩) q3
 case build z parts=>
  replace h:=AW h;obtain⟨h0,h⟩:=h;replace h:=AT h;obtain⟨cs,h1,h⟩:=h;cases h;obtain⟨cs',e1,r1⟩:=Tw he h1 (Bh.1 (RL.pure z h0));rw[e1];exact hv rfl rfl _ (by simp only[RV];exact⟨_,Bh.2 r1,rfl⟩)
 case Hi b len z parts=>
  replace h:=AW h;obtain⟨h0,h⟩:=h;replace h:=AT h;obtain⟨cs,h1,h⟩:=h;cases h;obtain⟨cs',e1,r1⟩:=Tx he h1 (F2.rep (Bh.1 (RL.pure z h0)) len);rw[e1];exact hv rfl rfl _ (by simp only[RV];exact⟨_,F1.2 r1,rfl⟩)
 case load agg x=>
  replace h:=AT h;obtain⟨vx,h1,h⟩:=h;obtain⟨v,h3,h4,h5⟩:=Ce h;obtain⟨vx',e1,r1⟩:=Av he h1;rw[e1];exact XM hs h3 r1 (hv h4 h5)
 case store sz a x=>
  replace h:=AT h;obtain⟨vx,h1,h⟩:=h;replace h:=AT h;obtain⟨vy,h2,h⟩:=h;obtain⟨vx',e1,r1⟩:=Av he h1;obtain⟨vy',e2,r2⟩:=Av he h2;obtain⟨h3,h4⟩:=hu h;rw[e1,e2];exact er hs h3 r1 r2 h4
 case GO off x=>
  replace h:=AT h;obtain⟨vx,h1,h⟩:=h;obtain⟨v,h3,h4,h5⟩:=Ce h;obtain⟨vx',e1,r1⟩:=Av he h1;rw[e1];exact fC h3 r1 (hv h4 h5)
 case field agg off x=>
  replace h:=AT h;obtain⟨vx,h1,h⟩:=h;obtain⟨vx',e1,r1⟩:=Av he h1;rw[e1];split at h
  .obtain⟨v,h3,h4,h5⟩:=Ce h
   obtain⟨c,g1,rfl⟩:=r1;exact Mb h3 (Bh.1 g1) (hv h4 h5)
  .cases h
 case MF sz arr x i=>
  replace h:=AT h;obtain⟨vx,h1,h⟩:=h;replace h:=AT h;obtain⟨vy,h2,h⟩:=h;obtain⟨v,h3,h4,h5⟩:=Ce h;obtain⟨vx',e1,r1⟩:=Av he h1;obtain⟨vy',e2,r2⟩:=Av he h2;rw[e1,e2];exact fB h3 r1 r2 (hv h4 h5)
 case index len sz agg x i=>
  replace h:=AT h;obtain⟨vx,h1,h⟩:=h;replace h:=AT h;obtain⟨vy,h2,h⟩:=h;obtain⟨v,h3,h4,h5⟩:=Ce h;obtain⟨vx',e1,r1⟩:=Av he h1;obtain⟨vy',e2,r2⟩:=Av he h2;rw[e1,e2];exact fA h3 r1 r2 (hv h4 h5)
 case slice sz x lo hi mx=>
  replace h:=AT h;obtain⟨vx,h1,h⟩:=h;replace h:=AT h;obtain⟨l,h2,h⟩:=h;replace h:=AT h;obtain⟨hh,h3,h⟩:=h;replace h:=AT h;obtain⟨m,h4,h⟩:=h;obtain⟨v,h5,h6⟩:=Mr h;obtain⟨vx',e1,r1⟩:=Av he h1;obtain⟨l',e2,r2⟩:=OE he h2;obtain⟨hh',e3,r3⟩:=OE he h3;obtain⟨m',e4,r4⟩:=OE he h4;rw[e1,e2,e3,e4];exact ew hs h5 r1 r2 r3 r4 (hvr h6)
 case len x=>
  replace h:=AT h;obtain⟨vx,h1,h⟩:=h;obtain⟨v,h3,h4,h5⟩:=Ce h;obtain⟨vx',e1,r1⟩:=Av he h1;rw[e1];exact qP h3 r1 (hv h4 h5)
 case UN x=>
  replace h:=AT h;obtain⟨vx,h1,h⟩:=h;obtain⟨v,h3,h4,h5⟩:=Ce h;obtain⟨vx',e1,r1⟩:=Av he h1;rw[e1];exact l8 hs h3 r1 (hv h4 h5)
 case Vp x i=>
  replace h:=AT h;obtain⟨vx,h1,h⟩:=h;replace h:=AT h;obtain⟨vi,h2,h⟩:=h;obtain⟨v,h3,h4,h5⟩:=Ce h;obtain⟨vx',e1,r1⟩:=Av he h1;obtain⟨vi',e2,r2⟩:=Av he h2;rw[e1,e2];exact l7 h3 r1 r2 (hv h4 h5)
 case str x=>
  replace h:=AT h;obtain⟨vx,h1,h⟩:=h;obtain⟨v,h3,h4,h5⟩:=Ce h;obtain⟨vx',e1,r1⟩:=Av he h1;rw[e1];exact qO hs h3 r1 (hv h4 h5)
 case append sz b x y=>
  replace h:=AT h;obtain⟨vx,h1,h⟩:=h;replace h:=AT h;obtain⟨vy,h2,h⟩:=h;obtain⟨v,h3,h4⟩:=Mr h;obtain⟨vx',e1,r1⟩:=Av he h1;obtain⟨vy',e2,r2⟩:=Av he h2;rw[e1,e2];exact Zg hs h3 r1 r2 (hvr h4)
 case copy sz x y=>
  replace h:=AT h;obtain⟨vx,h1,h⟩:=h;replace h:=AT h;obtain⟨vy,h2,h⟩:=h;obtain⟨v,h3,h4⟩:=Mr h;obtain⟨vx',e1,r1⟩:=Av he h1;obtain⟨vy',e2,r2⟩:=Av he h2;rw[e1,e2];exact l9 hs h3 r1 r2 (hvs h4)
 case Vs x y=>
  replace h:=AT h;obtain⟨vx,h1,h⟩:=h;replace h:=AT h;obtain⟨vy,h2,h⟩:=h;obtain⟨vx',e1,r1⟩:=Av he h1;obtain⟨vy',e2,r2⟩:=Av he h2;rw[e1,e2];split at h
  .rename_i ka a kb b
   simp only[RV]at r1 r2;subst r1;subst r2;obtain⟨h3,h4⟩:=AW h;cases h4;refine⟨of_decide_eq_true h3,?_⟩;have:=hv rfl rfl _ (RV.pure _ rfl);rw[Qb]at this;by_cases e:a<b
   .rw[if_pos e];rw[decide_eq_true e]at this;exact this
   .rw[if_neg e];rw[decide_eq_false e]at this;exact this
  .cases h
 case Vr x y=>
  replace h:=AT h;obtain⟨vx,h1,h⟩:=h;replace h:=AT h;obtain⟨vy,h2,h⟩:=h;obtain⟨vx',e1,r1⟩:=Av he h1;obtain⟨vy',e2,r2⟩:=Av he h2;rw[e1,e2];split at h
  .rename_i ka a kb b
   simp only[RV]at r1 r2;subst r1;subst r2;obtain⟨h3,h4⟩:=AW h;cases h4;refine⟨of_decide_eq_true h3,?_⟩;have:=hv rfl rfl _ (RV.pure _ rfl);rw[Qb]at this;by_cases e:b<a
   .rw[if_pos e];rw[decide_eq_true e]at this;exact this
   .rw[if_neg e];rw[decide_eq_false e]at this;exact this
  .cases h
 case extract i x=>
  replace h:=AT h;obtain⟨vx,h1,h⟩:=h;obtain⟨vx',e1,r1⟩:=Av he h1;rw[e1];split at h
  .obtain⟨v,h3,h4,h5⟩:=Ce h
   obtain⟨c,g1,rfl⟩:=r1;obtain⟨y,g2,g3⟩:=(Bh.1 g1).get h3;simp only[wv,g2];exact hv h4 h5 _ g3
  .cases h
 case JK x=>
  replace h:=AT h;obtain⟨vx,h1,h⟩:=h;obtain⟨v,h3,h4,h5⟩:=Ce h;obtain⟨vx',e1,r1⟩:=Av he h1;rw[e1];exact ez (K:=fun v=>k v Z) h3 r1 (hv h4 h5)
 case fk f first cap=>
  replace h:=AT h;obtain⟨vf,h1,h⟩:=h;replace h:=AT h;obtain⟨vc,h2,h⟩:=h;obtain⟨h3,h4⟩:=AW h;cases h4;obtain⟨vf',e1,r1⟩:=Is he h1;obtain⟨vc',e2,r2⟩:=Is he h2;rw[e1,e2];refine hv rfl rfl _ ?_;simp only[RV];exact⟨f,vf',vc',by cases f<;>first|rfl|(simp[Nn]at h3),Bh.2 r1,Bh.2 r2,rfl⟩
 case Oj t x=>
  replace h:=AT h;obtain⟨vx,h1,h⟩:=h;cases h;obtain⟨vx',e1,r1⟩:=Av he h1;rw[e1];exact hv rfl rfl _ (by simp only[RV];exact⟨_,r1,rfl⟩)
 case fh t z ok x=>
  replace h:=AT h;obtain⟨vx,h1,h⟩:=h;obtain⟨v,h3,h4,h5⟩:=Ce h;obtain⟨vx',e1,r1⟩:=Av he h1;rw[e1];exact qN (K:=fun v=>k v Z) h3 r1 (hv h4 h5)
 case panic x=>
  replace h:=AT h;obtain⟨vx,h1,h⟩:=h;obtain⟨vx',e1,r1⟩:=Av he h1;rw[e1];split at h
  .rename_i t v
   obtain⟨v',g1,rfl⟩:=r1;cases h;exact hk Y (.Bj (.FO t v')) Z (.refl _) ⟨_,by simp only[RV];exact⟨v',g1,rfl⟩,rfl⟩ hs
  .cases h
 case call f args=>
  replace h:=AT h;obtain⟨vs,h1,h⟩:=h;obtain⟨vs',e1,r1⟩:=Is he h1;rw[e1];exact hcf f vs s r s' h Y vs' Z r1 hs _ hk
 case nC len neg x y=>
  replace h:=AT h;obtain⟨vx,h1,h⟩:=h;replace h:=AT h;obtain⟨vy,h2,h⟩:=h;obtain⟨v,h3,h4,h5⟩:=Ce h;obtain⟨vx',e1,r1⟩:=Av he h1;obtain⟨vy',e2,r2⟩:=Av he h2;rw[e1,e2];exact qR h3 r1 r2 (hv h4 h5)
 case fm kind neg x=>
  replace h:=AT h;obtain⟨vx,h1,h⟩:=h;obtain⟨v,h3,h4,h5⟩:=Ce h;obtain⟨vx',e1,r1⟩:=Av he h1;rw[e1];exact qQ h3 r1 (hv h4 h5)
 case GW sz b z x y=>
  replace h:=AT h;obtain⟨vx,h1,h⟩:=h;replace h:=AT h;obtain⟨vy,h2,h⟩:=h;obtain⟨v,h3,h4⟩:=Mr h;obtain⟨vx',e1,r1⟩:=Av he h1;obtain⟨vy',e2,r2⟩:=Av he h2;rw[e1,e2];exact X8 hs h3 r1 r2 (hvr h4)
 case Oi=>
  obtain⟨h3,h4⟩:=St.Ig h;cases h4;intro n hn;obtain⟨Y',q1,q2,q3⟩:=hs.new h3 hn 0 (o:= .map []) (o':= .map []) ⟨[],F2.nil,rfl⟩;exact hvr rfl Y' _ _ q1 (by simp only[RV];exact⟨_,q2,rfl⟩) q3
 case lookup ks z ok m key=>
  replace h:=AT h;obtain⟨vx,h1,h⟩:=h;replace h:=AT h;obtain⟨vy,h2,h⟩:=h;obtain⟨v,h3,h4,h5⟩:=Ce h;obtain⟨vx',e1,r1⟩:=Av he h1;obtain⟨vy',e2,r2⟩:=Av he h2;rw[e1,e2];exact Zf hs h3 r1 r2 (hv h4 h5)
 case Ef ks m key x=>
  replace h:=AT h;obtain⟨vx,h1,h⟩:=h;replace h:=AT h;obtain⟨vy,h2,h⟩:=h;replace h:=AT h;obtain⟨vz,h3,h⟩:=h;obtain⟨vx',e1,r1⟩:=Av he h1;obtain⟨vy',e2,r2⟩:=Av he h2;obtain⟨vz',e3,r3⟩:=Av he h3;obtain⟨h4,h5⟩:=hu h;rw[e1,e2,e3];exact Ze hs h4 r1 r2 r3 h5
 case MK f args=>
  replace h:=AT h;obtain⟨vs,h1,h⟩:=h;obtain⟨v,h3,h4,h5⟩:=Ce h;obtain⟨vs',e1,r1⟩:=Is he h1;obtain⟨p1,p2,p3⟩:=hcp f vs v h3;rw[e1,na r1 p1];exact⟨v,p3,hv h4 h5 _ (RV.pure _ p2)⟩
 case Jy x args=>
  replace h:=AT h;obtain⟨vx,h1,h⟩:=h;replace h:=AT h;obtain⟨vs,h2,h⟩:=h;obtain⟨vx',e1,r1⟩:=Av he h1;obtain⟨vs',e2,r2⟩:=Is he h2;rw[e1,e2];exact hcv vx vs s r s' h Y vx' vs' Z r1 r2 hs _ hk
 case inv tab x args=>
  replace h:=AT h;obtain⟨vx,h1,h⟩:=h;replace h:=AT h;obtain⟨vs,h2,h⟩:=h;obtain⟨vx',e1,r1⟩:=Av he h1;obtain⟨vs',e2,r2⟩:=Is he h2;rw[e1,e2];split at h
  .rename_i t v
   obtain⟨v',g1,rfl⟩:=r1;obtain⟨f,h3,h4⟩:=AT h;simp only[wv,ws,Az,h3];exact hcf f (v::vs) s r s' h4 Y (v'::vs') Z (F2.cons g1 r2) hs _ hk
  .cases h
 all_goals cases h
end Go.Gl
namespace Go.Gl
variable {P:Program} {Y Y':Ren} {Z:AE} {env env₀:Env}
def Jc (cf:CF) (cv:CV) (cp:CP) (o:Ar) (env:Env) (s:St):Option (R×St):=
 match o.guard with
 | none=>GI cf cv cp o.op env s
 | some (g,b)=>match get g env with
   | some (.b t)=>bif t==b then GI cf cv cp o.op env s else some (.ret (.t []),s)
   | some (.t [])=>some (.ret (.t []),s)
   | _=>none
def MX {cf:CF} {cv:CV} {cp:CP} (hcf:Lf P cf) (hcv:Ka P cv) (hcp:N3 P cp) {o:Ar} {s s':St} {r:R} (h:Jc cf cv cp o env s=some (r,s')) (he:RE Y env env₀) (hs:SR P Y s Z) {k kp:V->AE->Prop}
    (hk: ∀Y' r' Z',Y.le Y'->rH Y' r r'->SR P Y' s' Z'->qk k kp r' Z'):Ia P o env₀ Z k kp:=by
 unfold Jc at h;unfold Ia
 have skip:some (R.ret (.t []),s)=some (r,s')->k (.t []) Z:=fun e=>by
  cases e;exact hk Y (.ret (.t [])) Z (.refl _) ⟨_,RV.pure _ rfl,rfl⟩ hs
 split at h
 .rename_i hg
  rw[hg];exact jG hcf hcv hcp h he hs hk
 .rename_i g b hg
  rw[hg];split at h
  .rename_i t ht
   obtain⟨v',h1,h2⟩:=he.get ht;simp only[RV]at h2;subst h2;simp only[h1];refine⟨fun e=>?_,fun e=>?_⟩
   .subst e
    rw[beq_self_eq_true]at h;exact jG hcf hcv hcp h he hs hk
   .subst e
    have:((!b)==b)=false:=by cases b<;>rfl
    rw[this]at h;exact skip h
  .rename_i ht
   obtain⟨v',h1,h2⟩:=he.get ht;have e:=RV.nB h2 rfl;subst e;simp only[h1];exact skip h
  .cases h
def Ij {β:Type} (v:V) (K:V->β):β:=
 match v with
 | .i k (.ofNat 0)=>K (.i k (.ofNat 0))
 | .i k (.ofNat (m+1))=>K (.i k (.ofNat (m+1)))
 | .i k (.negSucc 0)=>K (.i k (.negSucc 0))
 | .i k (.negSucc (m+1))=>K (.i k (.negSucc (m+1)))
 | .b true=>K (.b true)
 | .b false=>K (.b false)
 | v=>K v
def IN {β:Type} (v:V) (K:V->β):Ij v K=K v:=by
 unfold Ij;split<;>rfl
abbrev Rs:=Option (Ac×Env×St)
def V1 (cf:CF) (cv:CV) (cp:CP):List Ar->Env->St->Rs
 | [],env,s=>some (.normal,env,s)
 | o::r,env,s=>match Jc cf cv cp o env s with
   | some (.ret v,s')=>Ij v fun v=>V1 cf cv cp r (put o.dst v env) s'
   | some (.Bj v,s')=>some (.Bj v,env,s')
   | none=>none
def RE.put (h:RE Y env env₀) {v v':V} (hv:RV Y v v') (d:Option Nat):RE Y (Gl.put d v env) (Gl.put d v' env₀):=by
 cases d with
 | none=>exact h
 | some d=>exact F2.cons ⟨rfl,hv⟩ h
def RE.prune (h:RE Y env env₀): ∀l:List Nat,RE Y (Gl.prune l env) (Gl.prune l env₀)
 | []=>F2.nil
 | k ::r=>by
   simp only[Gl.prune];cases hg:Gl.get k env with
   | none=>rw[h.AAA hg];exact RE.prune h r
   | some v=>
     obtain⟨v',h1,h2⟩:=h.get hg;rw[h1];exact F2.cons ⟨rfl,h2⟩ (RE.prune h r)
def RE.args: ∀ {vs vs':List V} {i:Nat},L4 Y vs vs'->RE Y (BA i vs) (BA i vs')
 | [],_,_,h=>by cases h;exact F2.nil
 | _::_,_,i,⟨y,ys,h1,h2,e⟩=>by subst e;exact F2.cons ⟨rfl,h1⟩ (RE.args h2)
def RE.binds: ∀ {ps:List Nat} {vs vs':List V} {env env₀:Env},L4 Y vs vs'->RE Y env env₀->RE Y (El ps vs env) (El ps vs' env₀)
 | [],vs,vs',_,_,_,he=>by cases vs<;>cases vs'<;>exact he
 | p::ps,[],_,_,_,h,he=>by cases h;exact he
 | p::ps,_::_,_,_,_,⟨y,ys,h1,h2,e⟩,he=>by subst e;simp only[El];exact RE.binds h2 (RE.put he h1 (some p))
def bk {cf:CF} {cv:CV} {cp:CP} (hcf:Lf P cf) (hcv:Ka P cv) (hcp:N3 P cp): ∀ {ops:List Ar} {env env₀:Env} {Y:Ren} {Z:AE} {s s':St} {ex:Ac} {env':Env},V1 cf cv cp ops env s=some (ex,env',s')->RE Y env env₀->SR P Y s Z->
    ∀ {K:Env->AE->Prop} {kp:Env->V->AE->Prop},(∀Y' env₁ Z',Y.le Y'->ex= .normal->RE Y' env' env₁->SR P Y' s' Z'->K env₁ Z')->(∀Y' v v' env₁ Z',Y.le Y'->ex= .Bj v->RV Y' v v'->RE Y' env' env₁->SR P Y' s' Z'->kp env₁ v' Z')->
    (∀id,ex≠ .exit id)/\ex≠ .ret/\Jo P ops K kp env₀ Z
 | [],env,env₀,Y,Z,s,s',ex,env',h,he,hs,K,kp,U,hp=>by cases h;exact⟨fun _ e=>(by cases e),fun e=>(by cases e),U Y _ _ (.refl _) rfl he hs⟩
 | o :: r, env,env₀,Y,Z,s,s',ex,env',h,he,hs,K,kp,U,hp=>by
   simp only[Jo]
   have h':(match Jc cf cv cp o env s with
    | some (.ret v,s')=>Ij v fun v=>V1 cf cv cp r (put o.dst v env) s'
    | some (.Bj v,s')=>some (.Bj v,env,s')
    | none=>none)=some (ex,env',s'):=h
   split at h'
   .rename_i v s1 h1
    rw[IN]at h'
    have base: ∀Y1 v' Z1,Y.le Y1->RV Y1 v v'->SR P Y1 s1 Z1->(∀id,ex≠ .exit id)/\ex≠ .ret/\Jo P r K kp (put o.dst v' env₀) Z1:=fun Y1 v' Z1 q1 q2 q3=>
     bk hcf hcv hcp h' ((he.mono q1).put q2 o.dst) q3 (fun Y' e₁ Z' p1 p2 p3 p4=>U Y' e₁ Z' (q1.trans p1) p2 p3 p4) (fun Y' v v' e₁ Z' p1 p2 p3 p4 p5=>hp Y' v v' e₁ Z' (q1.trans p1) p2 p3 p4 p5)
    have hx : (∀id,ex≠ .exit id)/\ex≠ .ret:=by
     clear base U hp
     have gen: ∀(ops:List Ar) (env:Env) (s:St),V1 cf cv cp ops env s=some (ex,env',s')->(∀id,ex≠ .exit id)/\ex≠ .ret:=by
      intro ops
      induction ops with
      | nil=>intro env s h;cases h;exact⟨fun _ e=>(by cases e),fun e=>(by cases e)⟩
      | cons o r ih=>
        intro env s h
        have h':(match Jc cf cv cp o env s with
         | some (.ret v,s')=>Ij v fun v=>V1 cf cv cp r (put o.dst v env) s'
         | some (.Bj v,s')=>some (.Bj v,env,s')
         | none=>none)=some (ex,env',s'):=h
        split at h'
        .rw[IN]at h';exact ih _ _ h'
        .cases h';exact⟨fun _ e=>(by cases e),fun e=>(by cases e)⟩
        .cases h'
     exact gen _ _ _ h'
    refine⟨hx.1,hx.2,MX hcf hcv hcp h1 he hs fun Y1 r1 Z1 q1 q2 q3=>?_⟩;obtain⟨v',q4,rfl⟩:=q2;exact(base Y1 v' Z1 q1 q4 q3).2.2
   .rename_i v s1 h1
    cases h';refine⟨fun _ e=>(by cases e),fun e=>(by cases e),MX hcf hcv hcp h1 he hs fun Y1 r1 Z1 q1 q2 q3=>?_⟩;obtain⟨v',q4,rfl⟩:=q2;exact hp Y1 v v' _ Z1 q1 rfl q4 (he.mono q1) q3
   .cases h'
def mz (cf:CF) (cv:CV) (cp:CP) (re:List Ar) (env:Env) (s:St):Bool:=
 re.all fun x=>match Jc cf cv cp x env s with
  | some (.ret u,_)=>match x.dst with
    | none=>true
    | some d=>match get d env with|some w=>E6 u w|none=>false
  | _=>false
def S0 (cf:CF) (cv:CV) (cp:CP):List Cq->Env->St->Rs
 | [],env,s=>some (.normal,env,s)
 | d::r,env,s=>match Jc cf cv cp d.o env s with
   | some (.ret v,s')=>Ij v fun v=>bif mz cf cv cp d.re (put d.o.dst v env) s' then S0 cf cv cp r (put d.o.dst v env) s' else none
   | some (.Bj v,s')=>some (.Bj v,[],s')
   | none=>none
def jF {cf:CF} {cv:CV} {cp:CP} (hcf:Lf P cf) (hcv:Ka P cv) (hcp:N3 P cp) {s:St} (he:RE Y env env₀) (hs:SR P Y s Z): ∀ {re:List Ar},mz cf cv cp re env s=true->ET P re env₀ Z
 | [],_=>trivial
 | x ::r,h=>by
   have h':((match Jc cf cv cp x env s with
    | some (.ret u,_)=>match x.dst with
      | none=>true
      | some d=>match get d env with|some w=>E6 u w|none=>false
    | _=>false)&&mz cf cv cp r env s)=true:=h
   simp only[A9]at h';refine⟨?_,jF hcf hcv hcp he hs h'.2⟩;have h1:=h'.1;split at h1
   .rename_i u s1 hu
    refine MX hcf hcv hcp hu he hs fun Y1 r1 Z1 q1 q2 q3=>?_
    obtain⟨u',q4,rfl⟩:=q2;intro d hd;rw[hd]at h1;simp only at h1;split at h1
    .rename_i w hw
     obtain⟨w',g1,g2⟩:=he.get hw;have e:=Pw _ _ h1;subst e;rw[g1,RV.fn u w' u' (RV.mono q1 _ _ g2) q4]
    .cases h1
   .cases h1
def Q9 {cf:CF} {cv:CV} {cp:CP} (hcf:Lf P cf) (hcv:Ka P cv) (hcp:N3 P cp): ∀ {ops:List Cq} {env env₀:Env} {Y:Ren} {Z:AE} {s s':St} {ex:Ac} {env':Env},S0 cf cv cp ops env s=some (ex,env',s')->RE Y env env₀->SR P Y s Z->
    ∀ {K:Env->AE->Prop} {kp:V->AE->Prop},(∀Y' env₁ Z',Y.le Y'->ex= .normal->RE Y' env' env₁->SR P Y' s' Z'->K env₁ Z')->(∀Y' v v' Z',Y.le Y'->ex= .Bj v->env'= []->RV Y' v v'->SR P Y' s' Z'->kp v' Z')->
    Da P ops K kp env₀ Z
 | [],env,env₀,Y,Z,s,s',ex,env',h,he,hs,K,kp,U,hp=>by cases h;exact U Y _ _ (.refl _) rfl he hs
 | d ::r,env,env₀,Y,Z,s,s',ex,env',h,he,hs,K,kp,U,hp=>by
   simp only[Da]
   have h':(match Jc cf cv cp d.o env s with
    | some (.ret v,s')=>Ij v fun v=>bif mz cf cv cp d.re (put d.o.dst v env) s' then S0 cf cv cp r (put d.o.dst v env) s' else none
    | some (.Bj v,s')=>some (.Bj v,[],s')
    | none=>none)=some (ex,env',s'):=h
   split at h'
   .rename_i v s1 h1
    rw[IN]at h';obtain⟨h2,h3⟩:=AW h';refine MX hcf hcv hcp h1 he hs fun Y1 r1 Z1 q1 q2 q3=>?_
    obtain⟨v',q4,rfl⟩:=q2;have he':=(he.mono q1).put q4 d.o.dst;exact⟨jF hcf hcv hcp he' q3 h2,Q9 hcf hcv hcp h3 he' q3 (fun Y' e₁ Z' p1 p2 p3 p4=>U Y' e₁ Z' (q1.trans p1) p2 p3 p4) (fun Y' v v' Z' p1 p2 p3 p4 p5=>hp Y' v v' Z' (q1.trans p1) p2 p3 p4 p5)⟩
   .rename_i v s1 h1
    cases h';refine MX hcf hcv hcp h1 he hs fun Y1 r1 Z1 q1 q2 q3=>?_
    obtain⟨v',q4,rfl⟩:=q2;exact hp Y1 v v' Z1 q1 rfl rfl q4 q3
   .cases h'
def LQ {α β:Type} (f:α->Option β):List α->Option (List β)
 | []=>some []
 | x::r=>ob (f x) fun y=>ob (LQ f r) fun ys=>some (y::ys)
def GC (s:St):Nat->V->Option V
 | 0,_=>none
 | d + 1,v=>bif BL v then some v else
   match v with
   | .p n 0=>match s.t.get n with
     | some (.cs vs)=>ob (LQ (GC s d) vs) fun us=>some (.rp us)
     | _=>none
   | .sl n len _=>match s.t.get n with
     | some (.arr _ es)=>bif Nat.beq len es.length then ob (LQ (LQ (GC s d)) es) fun us=>some (.l us false)else none
     | _=>none
   | .a cs=>ob (LQ (GC s d) cs) fun us=>some (.a us)
   | .t cs=>ob (LQ (GC s d) cs) fun us=>some (.t us)
   | .rp cs=>ob (LQ (GC s d) cs) fun us=>some (.rp us)
   | .l es f=>ob (LQ (LQ (GC s d)) es) fun us=>some (.l us f)
   | .FO t x=>ob (GC s d x) fun u=>some (.FO t u)
   | _=>none
def QB (s:St):Nat->V->List Nat
 | 0,_=>[]
 | d + 1,v=>bif BL v then []else
   match v with
   | .p n 0=>match s.t.get n with
     | some (.cs vs)=>n::vs.flatMap (QB s d)
     | _=>[]
   | .sl n _ _=>match s.t.get n with
     | some (.arr _ es)=>n::es.flatMap fun e=>e.flatMap (QB s d)
     | _=>[]
   | .a cs=>cs.flatMap (QB s d)
   | .t cs=>cs.flatMap (QB s d)
   | .rp cs=>cs.flatMap (QB s d)
   | .l es _=>es.flatMap fun e=>e.flatMap (QB s d)
   | .FO _ x=>QB s d x
   | _=>[]
def Qg (s:St):List Nat->St
 | []=>s
 | i::r=>match s.t.get i with
   | some _=>Tr.put none BD s.t i fun t=>Qg ⟨s.nx,t⟩ r
   | none=>Qg s r
def OT: ∀ {l:List Nat} {s:St} {Z:AE},SR P Y s Z-> ∃Z',SR P Y (Qg s l) Z'/\Sub Z' Z/\ ∀i∈l,∀m,Y i=some m->(s.t.get i).isSome=true->Z' m.1=none
 | [],s,Z,h=>⟨Z,h,Sub.refl _,fun _ h=>by cases h⟩
 | i ::r,s,Z,h=>by
   simp only[Qg];split
   .rename_i o hg
    rw[Tr.put_eq];obtain⟨m,hm,_⟩:=h.get i o hg;obtain⟨Z',h1,h2,h3⟩:=OT (l:=r) (h.del hg hm);have hsub:Sub (del Z m.1) Z:=GV Z m.1;refine⟨Z',h1,h2.trans hsub,fun j hj m' hm' hl=>?_⟩;by_cases e:j=i
    .subst e
     rw[hm]at hm';cases hm';exact h2.none (Dc Z m.1)
    .rcases GR.1 hj with e'|hj
     .exact absurd e' e
     .refine h3 j hj m' hm' ?_
      show((Tr.set none BD s.t i).get j).isSome=true;rw[Tr.EE _ _ _ (cq (h.lt hm)),if_neg e];exact hl
   .rename_i hg
    obtain⟨Z',h1,h2,h3⟩:=OT (l:=r) h;refine⟨Z',h1,h2,fun j hj m' hm' hl=>?_⟩;rcases GR.1 hj with e'|hj
    .subst e';rw[hg]at hl;cases hl
    .exact h3 j hj m' hm' hl
def H9 {f:V->Option V} {g:V->List Nat} {s:St} {Z Z':AE} (hf: ∀v v' u,f v=some u->RV Y v v'->(∀i∈g v,∀m,Y i=some m->(s.t.get i).isSome=true->Z' m.1=none)->Fw Z Z' v' u): ∀ {vs vs' us:List V},LQ f vs=some us->L4 Y vs vs'->
    (∀i∈vs.flatMap g,∀m,Y i=some m->(s.t.get i).isSome=true->Z' m.1=none)->DV Z Z' vs' us
 | [],_,_,h,h',_=>by cases h;cases h';exact .nil
 | x::r,_,us,h,⟨y,ys,h1,h2,e⟩,hd=>by
   subst e;replace h:=AT h;obtain⟨u,h3,h⟩:=h;replace h:=AT h;obtain⟨us,h4,h⟩:=h;cases h;exact .cons (hf _ _ _ h3 h1 fun i hi=>hd i (by simp only[List.flatMap_cons,Du];exact .inl hi)) (H9 hf h4 h2 fun i hi=>hd i (by simp only[List.flatMap_cons,Du];exact .inr hi))
def OJ {f:V->Option V} {g:V->List Nat} {s:St} {Z Z':AE} (hf: ∀v v' u,f v=some u->RV Y v v'->(∀i∈g v,∀m,Y i=some m->(s.t.get i).isSome=true->Z' m.1=none)->Fw Z Z' v' u): ∀ {vs vs' us:List (List V)},LQ (LQ f) vs=some us->fp Y vs vs'->
    (∀i∈vs.flatMap (fun e=>e.flatMap g),∀m,Y i=some m->(s.t.get i).isSome=true->Z' m.1=none)->FR Z Z' vs' us
 | [],_,_,h,h',_=>by cases h;cases h';exact .nil
 | x::r,_,us,h,⟨y,ys,h1,h2,e⟩,hd=>by
   subst e;replace h:=AT h;obtain⟨u,h3,h⟩:=h;replace h:=AT h;obtain⟨us,h4,h⟩:=h;cases h;exact .cons (H9 hf h3 h1 fun i hi=>hd i (by simp only[List.flatMap_cons,Du];exact .inl hi)) (OJ hf h4 h2 fun i hi=>hd i (by simp only[List.flatMap_cons,Du];exact .inr hi))
def Q5 {s : St} (hs:SR P Y s Z) {Z':AE}: ∀(d:Nat) (v v' u:V),GC s d v=some u->RV Y v v'->(∀i∈QB s d v,∀m,Y i=some m->(s.t.get i).isSome=true->Z' m.1=none)->Fw Z Z' v' u
 | 0,_,_,_,h,_,_=>by cases h
 | d + 1,v,v',u,h,hv,hd=>by
   have ih:=Q5 hs (Z':=Z') d;simp only[GC]at h;simp only[QB]at hd;cases hp:BL v with
   | true=>
     rw[hp]at h;cases h;rw[RV.nB hv hp];exact .refl _
   | false=>
     rw[hp]at h hd;simp only[cond_false]at h hd;split at h
     .obtain⟨m,g1,rfl⟩:=hv
      split at h
      .rename_i vs hg
       replace h:=AT h;obtain⟨us,h1,h⟩:=h;cases h;simp only[hg]at hd;obtain⟨o',g2,vs',g3,rfl⟩:=hs.at hg g1;exact .cs g2 (hd _ (.head _) m g1 (by rw[hg];rfl)) (H9 ih h1 g3 fun i hi=>hd i (.tail _ hi))
      .cases h
     .obtain⟨m,g1,rfl⟩:=hv
      split at h
      .rename_i es hg
       replace h:=AW h;obtain⟨h0,h⟩:=h;replace h:=AT h;obtain⟨us,h1,h⟩:=h;cases h;simp only[hg]at hd;obtain⟨o',g2,es',g3,rfl⟩:=hs.at hg g1;exact .arr g2 (hd _ (.head _) m g1 (by rw[hg];rfl)) (by rw[g3.len];exact C5 h0) (OJ ih h1 g3 fun i hi=>hd i (.tail _ hi))
      .cases h
     .replace h:=AT h;obtain⟨us,h1,h⟩:=h
      cases h;obtain⟨c,g1,rfl⟩:=hv;exact .a (H9 ih h1 (Bh.1 g1) hd)
     .replace h:=AT h;obtain⟨us,h1,h⟩:=h
      cases h;obtain⟨c,g1,rfl⟩:=hv;exact .t (H9 ih h1 (Bh.1 g1) hd)
     .replace h:=AT h;obtain⟨us,h1,h⟩:=h
      cases h;obtain⟨c,g1,rfl⟩:=hv;exact .rp (H9 ih h1 (Bh.1 g1) hd)
     .replace h:=AT h;obtain⟨us,h1,h⟩:=h
      cases h;obtain⟨c,g1,rfl⟩:=hv;exact .l (fun e=>e) (OJ ih h1 (F1.1 g1) hd)
     .replace h:=AT h;obtain⟨us,h1,h⟩:=h
      cases h;obtain⟨c,g1,rfl⟩:=hv;exact .FO (ih _ _ _ h1 g1 hd)
     .cases h
def ug {s:St} (hs:SR P Y s Z) (d:Nat) (v v' u:V) (h:GC s d v=some u) (hv:RV Y v v'):Fw Z emp v' u:=Q5 hs d v v' u h hv fun _ _ _ _ _=>rfl
def Gc {f:V->Option V} (hf: ∀v u,f v=some u->BL u=true): ∀ {vs us:List V},LQ f vs=some us->CK us=true
 | [],_,h=>by cases h;rfl
 | x::r,us,h=>by
   replace h:=AT h;obtain⟨u,h3,h⟩:=h;replace h:=AT h;obtain⟨us,h4,h⟩:=h;cases h;simp only[CK,hf _ _ h3,Gc hf h4,Bool.and_self]
def Lq {f:V->Option V} (hf: ∀v u,f v=some u->BL u=true): ∀ {vs us:List (List V)},LQ (LQ f) vs=some us->Sw us=true
 | [],_,h=>by cases h;rfl
 | x::r,us,h=>by
   replace h:=AT h;obtain⟨u,h3,h⟩:=h;replace h:=AT h;obtain⟨us,h4,h⟩:=h;cases h;simp only[Sw,Gc hf h3,Lq hf h4,Bool.and_self]
def XF (s : St): ∀(d:Nat) (v u:V),GC s d v=some u->BL u=true
 | 0,_,_,h=>by cases h
 | d + 1,v,u,h=>by
   have ih:=XF s d;simp only[GC]at h;cases hp:BL v with
   | true=>rw[hp]at h;cases h;exact hp
   | false=>
     rw[hp]at h;simp only[cond_false]at h;split at h
     .split at h
      .replace h:=AT h;obtain⟨us,h1,h⟩:=h
       cases h;simp only[BL];exact Gc ih h1
      .cases h
     .split at h
      .replace h:=AW h;obtain⟨h0,h⟩:=h
       replace h:=AT h;obtain⟨us,h1,h⟩:=h;cases h;simp only[BL];exact Lq ih h1
      .cases h
     .replace h:=AT h;obtain⟨us,h1,h⟩:=h
      cases h;simp only[BL];exact Gc ih h1
     .replace h:=AT h;obtain⟨us,h1,h⟩:=h
      cases h;simp only[BL];exact Gc ih h1
     .replace h:=AT h;obtain⟨us,h1,h⟩:=h
      cases h;simp only[BL];exact Gc ih h1
     .replace h:=AT h;obtain⟨us,h1,h⟩:=h
      cases h;simp only[BL];exact Lq ih h1
     .replace h:=AT h;obtain⟨us,h1,h⟩:=h
      cases h;simp only[BL];exact ih _ _ h1
     .cases h
def Vx:Nat:=60
def s8:Option (R×St)->Option (R×St)
 | some (.ret v,s)=>ob (GC s Vx v) fun u=>some (.ret u,Qg s (QB s Vx v))
 | r=>r
def Au.GC {f:FuncId} {args:List V} {Z:AE} {Q Q':R->AE->Prop} (h:Au P f args Z Q) (hq: ∀r Z',Q r Z'->(∃v vf Z'',r= .ret v/\Sub Z'' Z'/\Fw Z' Z'' v vf/\Q' (.ret vf) Z'')\/Q' r Z'):Au P f args Z Q':=
 ⟨h.1,fun F w cs h1 h2=>Calls.mono (h.2 F w cs h1 h2) fun e w' ⟨r,Z',q1,q2,q3,q4⟩=>by
  rcases hq r Z' q1 with⟨v,vf,Z'',rfl,p1,p2,p3⟩|h
  .obtain⟨c,rfl,q5⟩:=q2
   exact⟨.ret vf,Z'',p3,⟨c,rfl,p2.rel q3 p1 q5⟩,q3.drop p1,q4.trans (B8.drop w' p1)⟩
  .exact⟨r,Z',h,q2,q3,q4⟩⟩
inductive cZ where
 | fn (n:Nat) (ac:AV) (AG:List RS)
 | zK (n:Nat) (aA:AV) (ops:List Ar) (x:Bn) (aC:AV) (AG:List RS) (l1 l2:List Nat)
 | y9 (n:Nat) (k:Nat) (ops:List Ar) (ac:AV) (l:List Nat)
 | zU (n:Nat) (ac:AV) (AG:List RS)
 | cj (c:List V->St->Option (R×St))
 | pld (n:Nat) (ac:AV)
def PQ (P:Program) (f:FuncId):cZ->Prop
 | .fn n ac AG=> ∀(args:List V) (Z:AE) (Q:R->AE->Prop),args.length<=n->T P ac (V8 AG Q) (BA 0 args) Z->Au P f args Z Q
 | .zU n ac AG=> ∀(args:List V) (Z:AE) (Q:R->AE->Prop),args.length<=n->T P ac (V8 AG Q) (BA 0 args) Z->Au P f args Z Q
 | .zK n aA ops x aC AG l1 l2=> ∀(args:List V) (Z:AE) (Q:R->AE->Prop),args.length<=n->T P (.seq l1 aA (.C9 ops)) (Cb (QD P x l2 aC AG Q)) (BA 0 args) Z->Au P f args Z Q
 | .y9 n k ops ac l=> ∀(args:List V) (m:Option V) (Z:AE) (Q:AE->Prop),args.length<=n->T P (.seq l (.C9 ops) ac) (PR Q) (put (some k) (m.getD .Dv) (BA 0 args)) Z->Hv P f args m Z Q
 | .cj c=> ∀vs s r s',c vs s=some (r,s')-> ∀Y vs' Z,L4 Y vs vs'->SR P Y s Z-> ∀Q:R->AE->Prop,(∀Y' r' Z',Y.le Y'->rH Y' r r'->SR P Y' s' Z'->Q r' Z')->Au P f vs' Z Q
 | .pld n ac=> ∀(args:List V) (Z:AE) (Q:AE->Prop),args.length<=n->T P ac (PR Q) (BA 0 args) Z->Hv P f args none Z Q
abbrev Kw:=FuncId->Option cZ
def MN (P:Program) (tab:Kw):Prop:= ∀f fs,tab f=some fs->PQ P f fs
abbrev FQ:=FuncId->List (List V×V)
def Hj (P:Program) (memo:FQ):Prop:= ∀f,∀m∈memo f,CK m.1=true/\BL m.2=true/\Pure P f m.1 m.2
def Zw (s:St) (env:Env):List RS->Option (List V)
 | []=>some []
 | .t n::r=>ob (get n env) fun v=>ob (Zw s env r) fun vs=>some (v::vs)
 | .c n g::r=>ob (get n env) fun a=>ob (Oo s g a) fun v=>ob (Zw s env r) fun vs=>some (v::vs)
def Nt {s:St} (he:RE Y env env₀) (hs:SR P Y s Z): ∀ {l:List RS} {vs:List V},Zw s env l=some vs-> ∀ {K:List V->Prop},(∀vs',L4 Y vs vs'->K vs')->Vk Z env₀ l K
 | [],vs,h,K,U=>by cases h;exact U _ F2.nil
 | .t n::r,vs,h,K,U=>by
   replace h:=AT h;obtain⟨v,h1,h⟩:=h;replace h:=AT h;obtain⟨us,h2,h⟩:=h;cases h;obtain⟨v',e1,e2⟩:=he.get h1;simp only[Vk,e1,FD];exact Nt he hs h2 fun us' hu=>U _ (F2.cons e2 hu)
 | .c n g::r,vs,h,K,U=>by
   replace h:=AT h;obtain⟨a,h1,h⟩:=h;replace h:=AT h;obtain⟨v,h3,h⟩:=h;replace h:=AT h;obtain⟨us,h2,h⟩:=h;cases h;obtain⟨v',e1,e2⟩:=he.get h1;simp only[Vk,e1,FD];exact XM hs h3 e2 fun w hw=>Nt he hs h2 fun us' hu=>U _ (F2.cons hw hu)
def Pb {vs vs':List V} (h:L4 Y vs vs'):RV Y (E5 vs) (E5 vs'):=by
 match vs,vs',h with
 | [],_,h=>cases h;simp only[E5,RV];exact⟨[],Bh.2 F2.nil,rfl⟩
 | [v],_,⟨y,ys,h1,h2,e⟩=>cases h2;subst e;exact h1
 | v::u::r,_,⟨y,ys,h1,⟨z,zs,h2,h3,e⟩,e'⟩=>
   subst e;subst e';show RV Y (.t (v::u::r)) (.t (y::z::zs));simp only[RV];exact⟨_,Bh.2 (F2.cons h1 (F2.cons h2 h3)),rfl⟩
def cu (AG:List RS) (r:Rs):Option (R×St):=
 match r with
 | some (.normal,env,s)=>ob (Zw s env AG) fun vs=>some (.ret (E5 vs),s)
 | some (.ret,env,s)=>ob (Zw s env AG) fun vs=>some (.ret (E5 vs),s)
 | some (.Bj v,_,s)=>some (.Bj v,s)
 | _=>none
def YT (tab:Kw) (ih:AV->Env->St->Rs) (g:FuncId) (cap:List V) (m:Option V) (AG:List RS) (env:Env) (s:St):Option (R×St):=
 match tab g with
 | some (.y9 n k ops ac l)=>bif Nat.ble cap.length n then
  match ih (.seq l (.C9 ops) ac) (put (some k) (m.getD .Dv) (BA 0 cap)) s with
  | some (.normal,_,s')=>ob (Zw s' env AG) fun vs=>some (.ret (E5 vs),s')
  | some (.ret,_,s')=>ob (Zw s' env AG) fun vs=>some (.ret (E5 vs),s')
  | _=>none
   else none
 | some (.pld n ac)=>match m with
   | some _=>none
   | none=>bif Nat.ble cap.length n then
     match ih ac (BA 0 cap) s with
     | some (.normal,_,s')=>ob (Zw s' env AG) fun vs=>some (.ret (E5 vs),s')
     | some (.ret,_,s')=>ob (Zw s' env AG) fun vs=>some (.ret (E5 vs),s')
     | _=>none
   else none
 | _=>none
def S1 (tab:Kw) (ih:AV->Env->St->Rs) (f:FuncId) (vs:List V) (s:St):Option (R×St):=
 match tab f with
 | some (.fn n ac AG)=>bif Nat.ble vs.length n then cu AG (ih ac (BA 0 vs) s)else none
 | some (.zK n aA ops x aC AG l1 l2)=>bif Nat.ble vs.length n then
  match ih (.seq l1 aA (.C9 ops)) (BA 0 vs) s with
  | some (.normal,env,s1)=>match De env x with
    | some (.f (.func g) [] cap)=>match ih aC (prune l2 env) s1 with
      | some (.normal,env2,s2)=>YT tab ih g cap none AG env2 s2
      | some (.ret,env2,s2)=>YT tab ih g cap none AG env2 s2
      | some (.Bj v,env2,s2)=>YT tab ih g cap (some v) AG env2 s2
      | _=>none
    | _=>none
  | _=>none
   else none
 | some (.zU n ac AG)=>bif Nat.ble vs.length n then s8 (cu AG (ih ac (BA 0 vs) s))else none
 | some (.cj c)=>c vs s
 | _=>none
def WL (vs:List V):List (List V×V)->Option V
 | []=>none
 | m::r=>bif Nh m.1 vs then some m.2 else WL vs r
def Hg (tab:Kw) (memo:FQ) (ih:AV->Env->St->Rs):CF:=fun f vs s=>
 match memo f with
 | []=>S1 tab ih f vs s
 | m::r=>match WL vs (m::r)with
   | some v=>some (.ret v,s)
   | none=>S1 tab ih f vs s
def Nz (tab:Kw) (memo:FQ) (ih:AV->Env->St->Rs):CV:=fun x vs s=>
 match x with
 | .f (.func f) first cap=>Hg tab memo ih f (first++vs++cap) s
 | .f (.yield L) [] []=>match s.t.get L with
   | some (.loop .ready env ps a b)=>bif Nat.beq vs.length ps.length then
    Tr.put none BD s.t L fun t=>match ih a (El ps vs env) ⟨s.nx,t⟩with
    | some (.normal,env1,s1)=>match ih b env1 s1 with
      | some (.normal,_,s2)=>Tr.put (some (.loop .ready env ps a b)) BD s2.t L fun t=>some (.ret (.b true),⟨s2.nx,t⟩)
      | some (.ret,_,s2)=>Tr.put (some (.loop .ret env ps a b)) BD s2.t L fun t=>some (.ret (.b false),⟨s2.nx,t⟩)
      | some (.exit id,_,s2)=>Tr.put (some (.loop (.exit id) env ps a b)) BD s2.t L fun t=>some (.ret (.b false),⟨s2.nx,t⟩)
      | some (.Bj v,_,s2)=>some (.Bj v,s2)
      | none=>none
    | _=>none
     else none
   | _=>none
 | _=>none
def QR (tab:Kw) (memo:FQ) (ih:AV->Env->St->Rs):CP:=fun f vs=>
 bif CK vs then match Hg tab memo ih f vs ⟨0,.leaf⟩with
  | some (.ret v,s)=>match GC s Vx v with
    | some u=>bif BL u then some u else none
    | none=>none
  | _=>none
 else none
def JO (tab:Kw) (memo:FQ) (ih:AV->Env->St->Rs) (c:AV) (env:Env) (s:St):Rs:=
 match c with
 | .skip=>some (.normal,env,s)
 | .ret=>some (.ret,env,s)
 | .exit id=>some (.exit id,env,s)
 | .C9 ops=>V1 (Hg tab memo ih) (Nz tab memo ih) (QR tab memo ih) ops env s
 | .HU l ops=>match S0 (Hg tab memo ih) (Nz tab memo ih) (QR tab memo ih) ops env s with
   | some (.normal,env',s')=>some (.normal,prune l env',s')
   | r=>r
 | .seq l a b=>match ih a env s with
   | some (.normal,env',s')=>ih b (prune l env') s'
   | r=>r
 | .cond c a b=>match De env c with
   | some (.b true)=>ih a env s
   | some (.b false)=>ih b env s
   | _=>none
 | .block id a=>match ih a env s with
   | some (.exit id',env',s')=>bif Nat.beq id' id then some (.normal,env',s')else some (.exit id',env',s')
   | r=>r
 | .scope a=>ih a env s
 | .loop l a=>match ih a (prune l env) s with
   | some (.normal,env',s')=>ih (.loop l a) env' s'
   | r=>r
 | .D2 l g ps a b=>match De env g with
   | some (.f (.func gf) [] cap)=>s.new (.loop .ready (prune l env) ps a b) fun i s1=>
    match Hg tab memo ih gf (.f (.yield i) [] []::cap) s1 with
    | some (.ret _,s2)=>match s2.t.get i with
      | some (.loop st _ _ _ _)=>Tr.put none BD s2.t i fun t=>some ((match st with| .ready=> .normal| .ret=> .ret| .exit id=> .exit id),env,⟨s2.nx,t⟩)
      | _=>none
    | some (.Bj v,s2)=>match s2.t.get i with
      | some _=>Tr.put none BD s2.t i fun t=>some (.Bj v,env,⟨s2.nx,t⟩)
      | none=>none
    | none=>none
   | _=>none
def run (tab:Kw) (memo:FQ):Nat->AV->Env->St->Rs
 | 0,_,_,_=>none
 | n+1,c,env,s=>JO tab memo (run tab memo n) c env s
def S4 (P:Program) (ih:AV->Env->St->Rs):Prop:= ∀c env s ex env' s',ih c env s=some (ex,env',s')-> ∀Y env₀ Z,RE Y env env₀->SR P Y s Z->
 ∀Q:Ac->Env->AE->Prop,(∀Y' ex₀ env₁ Z',Y.le Y'->REx Y' ex ex₀->RE Y' env' env₁->SR P Y' s' Z'->Q ex₀ env₁ Z')->T P c Q env₀ Z
def REx.normal {ex:Ac} (h:REx Y .normal ex):ex= .normal:=h
def bj {AG:List RS} {ex:Ac} {env':Env} {s1 s':St} {r:R} (h:cu AG (some (ex,env',s1))=some (r,s')) {Q:R->AE->Prop}
    (hQ: ∀Y' r' Z',Y.le Y'->rH Y' r r'->SR P Y' s' Z'->Q r' Z') {Y':Ren} {ex₀:Ac} {env₁:Env} {Z':AE} (q1:Y.le Y') (q2:REx Y' ex ex₀) (q3:RE Y' env' env₁) (q4:SR P Y' s1 Z'):V8 AG Q ex₀ env₁ Z':=by
 cases ex with
 | normal=>
   cases q2;replace h:=AT h;obtain⟨vs,h1,h⟩:=h;cases h;exact Nt q3 q4 h1 fun vs' hv=>⟨_,Z',Sub.refl _,.refl _,hQ Y' _ Z' q1 ⟨_,Pb hv,rfl⟩ q4⟩
 | ret=>
   cases q2;replace h:=AT h;obtain⟨vs,h1,h⟩:=h;cases h;exact Nt q3 q4 h1 fun vs' hv=>⟨_,Z',Sub.refl _,.refl _,hQ Y' _ Z' q1 ⟨_,Pb hv,rfl⟩ q4⟩
 | exit id=>cases h
 | Bj v=>
   cases h;obtain⟨v',h1,rfl⟩:=q2;exact⟨v',Z',Sub.refl _,.refl _,hQ Y' (.Bj v') Z' q1 ⟨v',h1,rfl⟩ q4⟩
def Hv.mono {f:FuncId} {args:List V} {m:Option V} {Z:AE} {Q Q':AE->Prop} (h:Hv P f args m Z Q) (hq: ∀Z',Q Z'->Q' Z'):Hv P f args m Z Q':=
 ⟨h.1,fun F w cs u h1 h2 h3=>CallsDIn.mono (h.2 F w cs u h1 h2 h3) fun e u' w' ⟨a,b,Z',c,d⟩=>⟨a,b,Z',hq _ c,d⟩⟩
def VM {tab:Kw} (ht:MN P tab) {ih:AV->Env->St->Rs} (hi:S4 P ih) {g:FuncId} {cap cap':List V} {m m':Option V} {AG:List RS} {s s':St} {r:R} (h:YT tab ih g cap m AG env s=some (r,s'))
    (he:RE Y env env₀) (hs:SR P Y s Z) (hc:L4 Y cap cap') (hm:rG Y m m') {Q:R->AE->Prop} (hQ: ∀Y' r' Z',Y.le Y'->rH Y' r r'->SR P Y' s' Z'->Q r' Z') :
    Hv P g cap' m' Z fun Z'=>Vk Z' env₀ AG fun vs=>Am Z' (E5 vs) Q:=by
 unfold YT at h;split at h
 .rename_i n k ops ac l htab
  obtain⟨h1,h2⟩:=AW h
  have hg:RV Y (m.getD .Dv) (m'.getD .Dv):=by
   cases m with
   | none=>cases hm;exact RV.pure _ rfl
   | some v=>obtain⟨v',h3,rfl⟩:=hm;exact h3
  have fin: ∀ {ex:Ac} {e2:Env} {s2:St},ih (.seq l (.C9 ops) ac) (put (some k) (m.getD .Dv) (BA 0 cap)) s=some (ex,e2,s2)->(ex= .normal\/ex= .ret)->(ob (Zw s2 env AG) fun vs=>some (R.ret (E5 vs),s2))=some (r,s')->
   Hv P g cap' m' Z fun Z'=>Vk Z' env₀ AG fun vs=>Am Z' (E5 vs) Q:=fun {ex e2 s2} q1 q2 q3=>by
   obtain⟨vs,q4,q5⟩:=AT q3;cases q5;refine ht g _ htab cap' m' Z _ (by rw[hc.len];exact Nat.le_of_ble_eq_true h1) ?_;refine hi _ _ _ _ _ _ q1 Y _ Z ((RE.args hc).put hg (some k)) hs _ fun Y' ex₀ e₁ Z' p1 p2 p3 p4=>?_
   have base:Vk Z' env₀ AG fun vs=>Am Z' (E5 vs) Q:=Nt (he.mono p1) p4 q4 fun vs' hv=>⟨_,Z',Sub.refl _,.refl _,hQ Y' _ Z' p1 ⟨_,Pb hv,rfl⟩ p4⟩
   rcases q2 with e|e
   .subst e;cases p2;exact base
   .subst e;cases p2;exact base
  split at h2
  .rename_i hr;exact fin hr (.inl rfl) h2
  .rename_i hr;exact fin hr (.inr rfl) h2
  .cases h2
 .rename_i n ac htab
  cases m with
  | some v=>cases h
  | none=>
    cases hm;obtain⟨h1,h2⟩:=AW h
    have fin: ∀ {ex:Ac} {e2:Env} {s2:St},ih ac (BA 0 cap) s=some (ex,e2,s2)->(ex= .normal\/ex= .ret)->(ob (Zw s2 env AG) fun vs=>some (R.ret (E5 vs),s2))=some (r,s')->
     Hv P g cap' none Z fun Z'=>Vk Z' env₀ AG fun vs=>Am Z' (E5 vs) Q:=fun {ex e2 s2} q1 q2 q3=>by
     obtain⟨vs,q4,q5⟩:=AT q3;cases q5;refine ht g _ htab cap' Z _ (by rw[hc.len];exact Nat.le_of_ble_eq_true h1) ?_;refine hi _ _ _ _ _ _ q1 Y _ Z (RE.args hc) hs _ fun Y' ex₀ e₁ Z' p1 p2 p3 p4=>?_
     have base:Vk Z' env₀ AG fun vs=>Am Z' (E5 vs) Q:=Nt (he.mono p1) p4 q4 fun vs' hv=>⟨_,Z',Sub.refl _,.refl _,hQ Y' _ Z' p1 ⟨_,Pb hv,rfl⟩ p4⟩
     rcases q2 with e|e
     .subst e;cases p2;exact base
     .subst e;cases p2;exact base
    split at h2
    .rename_i hr;exact fin hr (.inl rfl) h2
    .rename_i hr;exact fin hr (.inr rfl) h2
    .cases h2
 .cases h
def XT {tab:Kw} (ht:MN P tab) {ih:AV->Env->St->Rs} (hi:S4 P ih):Lf P (S1 tab ih):=by
 intro f vs s r s' h Y vs' Z hv hs Q hQ;unfold S1 at h;split at h
 .rename_i n ac AG htab
  obtain⟨h1,h2⟩:=AW h;cases hr:ih ac (BA 0 vs) s with
  | none=>rw[hr]at h2;cases h2
  | some x=>
    obtain⟨ex,env',s1⟩:=x;rw[hr]at h2;refine ht f _ htab vs' Z Q (by rw[hv.len];exact Nat.le_of_ble_eq_true h1) ?_;exact hi _ _ _ _ _ _ hr Y _ Z (RE.args hv) hs _ fun Y' ex₀ e₁ Z' p1 p2 p3 p4=>bj h2 hQ p1 p2 p3 p4
 .rename_i n aA ops x aC AG l1 l2 htab
  obtain⟨h1,h2⟩:=AW h;split at h2
  .rename_i env1 s1 hr1
   split at h2
   .rename_i g cap hx
    refine ht f _ htab vs' Z Q (by rw[hv.len];exact Nat.le_of_ble_eq_true h1) ?_;refine hi _ _ _ _ _ _ hr1 Y _ Z (RE.args hv) hs _ fun Y1 ex₀ e₁ Z1 p1 p2 p3 p4=>?_
    cases p2;obtain⟨x',q1,fn',a',b',q2,q3,q4,rfl⟩:=Av p3 hx;simp only[cY]at q2;subst q2;have q3:=Bh.1 q3;cases q3;show QD P x l2 aC AG Q e₁ Z1;simp only[QD,q1,FD];split at h2
    .rename_i env2 s2 hr2
     refine hi _ _ _ _ _ _ hr2 Y1 _ Z1 (p3.prune l2) p4 _ fun Y2 ex₀ e₂ Z2 u1 u2 u3 u4=>?_
     cases u2;exact VM ht hi h2 u3 u4 (L4.mono u1 (Bh.1 q4)) rfl fun Y3 r' Z3 w1 w2 w3=>hQ Y3 r' Z3 ((p1.trans u1).trans w1) w2 w3
    .rename_i env2 s2 hr2
     refine hi _ _ _ _ _ _ hr2 Y1 _ Z1 (p3.prune l2) p4 _ fun Y2 ex₀ e₂ Z2 u1 u2 u3 u4=>?_
     cases u2;exact VM ht hi h2 u3 u4 (L4.mono u1 (Bh.1 q4)) rfl fun Y3 r' Z3 w1 w2 w3=>hQ Y3 r' Z3 ((p1.trans u1).trans w1) w2 w3
    .rename_i v env2 s2 hr2
     refine hi _ _ _ _ _ _ hr2 Y1 _ Z1 (p3.prune l2) p4 _ fun Y2 ex₀ e₂ Z2 u1 u2 u3 u4=>?_
     obtain⟨v',u5,rfl⟩:=u2;exact VM ht hi h2 u3 u4 (L4.mono u1 (Bh.1 q4)) ⟨v',u5,rfl⟩ fun Y3 r' Z3 w1 w2 w3=>hQ Y3 r' Z3 ((p1.trans u1).trans w1) w2 w3
    .cases h2
   .cases h2
  .cases h2
 .rename_i n ac AG htab
  replace h:=AW h;obtain⟨h1,h2⟩:=h;cases hr:ih ac (BA 0 vs) s with
  | none=>rw[hr]at h2;cases h2
  | some x=>
    obtain⟨ex,env',s1⟩:=x;rw[hr]at h2;cases he:cu AG (some (ex,env',s1))with
    | none=>rw[he]at h2;cases h2
    | some y=>
      obtain⟨r1,s2⟩:=y;rw[he]at h2
      have hc:Au P f vs' Z fun r' Z'=> ∃Y',Y.le Y'/\rH Y' r1 r'/\SR P Y' s2 Z':=by
       refine ht f _ htab vs' Z _ (by rw[hv.len];exact Nat.le_of_ble_eq_true h1) ?_;exact hi _ _ _ _ _ _ hr Y _ Z (RE.args hv) hs _ fun Y' ex₀ e₁ Z' p1 p2 p3 p4=>bj he (fun Y' r' Z' a b c=>⟨Y',a,b,c⟩) p1 p2 p3 p4
      refine hc.GC fun r' Z' ⟨Y',q1,q2,q3⟩=>?_
      cases r1 with
      | Bj v=>
        cases h2;exact .inr (hQ Y' _ _ q1 q2 q3)
      | ret v=>
        obtain⟨v',q4,rfl⟩:=q2;obtain⟨u,h3,h4⟩:=AT h2;cases h4;obtain⟨Z'',g1,g2,g3⟩:=OT (l:=QB s2 Vx v) q3;by_cases hp:BL u=true
        .exact .inl ⟨v',u,Z'',rfl,g2,Q5 q3 Vx v v' u h3 q4 g3,hQ Y' _ _ q1 ⟨u,RV.pure u hp,rfl⟩ g1⟩
        .exact absurd (XF s2 Vx v u h3) hp
 .rename_i c htab
  exact ht f _ htab vs s r s' h Y vs' Z hv hs Q hQ
 .cases h
def XI {vs:List V}: ∀ {l:List (List V×V)} {v:V},WL vs l=some v->(vs,v)∈l
 | [],_,h=>by cases h
 | m ::r,v,h=>by
   simp only[WL]at h;cases hb:Nh m.1 vs with
   | true=>
     rw[hb]at h;cases h;have:=HK _ _ hb;obtain⟨a,b⟩:=m;subst this;exact .head _
   | false=>rw[hb]at h;exact .tail _ (XI h)
def OW {tab:Kw} (ht:MN P tab) {memo:FQ} (hm:Hj P memo) {ih:AV->Env->St->Rs} (hi:S4 P ih):Lf P (Hg tab memo ih):=by
 intro f vs s r s' h Y vs' Z hv hs Q hQ;unfold Hg at h;split at h
 .exact XT ht hi f vs s r s' h Y vs' Z hv hs Q hQ
 .rename_i m l hml
  split at h
  .rename_i v hf
   cases h;have hmem:=XI hf;rw[<-hml]at hmem;obtain⟨h1,h2,h3⟩:=hm f _ hmem;rw[na hv h1];refine(h3.use (Z:=Z) (k:=fun v Z'=>Q (.ret v) Z') (kp:=fun v Z'=>Q (.Bj v) Z') ?_).mono fun r Z' h=>?_
   .exact hQ Y _ Z (.refl _) ⟨v,RV.pure v h2,rfl⟩ hs
   .cases r<;>exact h
  .exact XT ht hi f vs s r s' h Y vs' Z hv hs Q hQ
def SR.back {s:St} (hs:SR P Y s Z) {i:Nat} {m:Nat×Nat} (hm:Y i=some m) (hn:Z m.1=none) {o1:EO} {o1':O} (ho:RO P Y m.2 o1 o1') :
    SR P Y ⟨s.nx,Tr.set (some o1) BD s.t i⟩ (Gl.B3 Z m.1 o1'):=by
 have hl:=cq (hs.lt hm)
 have hno:s.t.get i=none:=by
  cases hg:s.t.get i with
  | none=>rfl
  | some o=>
    obtain⟨o',h1,_⟩:=hs.at hg hm;rw[hn]at h1;cases h1
 have nm: ∀ {j q m1},s.t.get j=some q->Y j=some m1->m1.1≠m.1:=fun {j q m1} h1 h2 e=>by
  obtain⟨o',h3,_⟩:=hs.at h1 h2;rw[e,hn]at h3;cases h3
 refine⟨fun j o2 h1=>?_,fun j j' o2 o3 m1 m2 h1 h2 h3 h4 h5=>?_,hs.sU,hs.lim⟩
 .rw[Tr.EE _ _ _ hl]at h1
  by_cases e:j=i
  .subst e
   rw[if_pos rfl]at h1;cases h1;exact⟨m,hm,o1',DJ _ _ _,ho⟩
  .rw[if_neg e]at h1
   obtain⟨m1,h2,o3,h3,h4⟩:=hs.get j o2 h1;exact⟨m1,h2,o3,by rw[Cm _ _ (nm h1 h2)];exact h3,h4⟩
 .rw[Tr.EE _ _ _ hl]at h1 h2
  by_cases e:j=i<;>by_cases e':j'=i
  .omega
  .exfalso
   subst e;rw[if_neg e']at h2;rw[hm]at h3;cases h3;exact nm h2 h4 h5.symm
  .exfalso
   subst e';rw[if_neg e]at h1;rw[hm]at h4;cases h4;exact nm h1 h3 h5
  .rw[if_neg e]at h1
   rw[if_neg e']at h2;exact hs.inj j j' o2 o3 m1 m2 h1 h2 h3 h4 h5
def fR {tab:Kw} (ht:MN P tab) {memo:FQ} (hm:Hj P memo) {ih:AV->Env->St->Rs} (hi:S4 P ih):Ka P (Nz tab memo ih):=by
 intro x vs s r s' h Y x' vs' Z hx hv hs Q hQ;unfold Nz at h;split at h
 .rename_i f first cap
  obtain⟨fn',a',b',h1,h2,h3,rfl⟩:=hx;simp only[cY]at h1;subst h1;exact OW ht hm hi f _ s r s' h Y _ Z (((Bh.1 h2).app hv).app (Bh.1 h3)) hs Q hQ
 .rename_i L
  obtain⟨fn',a',b',⟨m,h1,rfl⟩,h2,h3,rfl⟩:=hx;have h2:=Bh.1 h2;have h3:=Bh.1 h3;cases h2;cases h3;split at h
  .rename_i env1 ps a b hg
   obtain⟨o',g1,env1',g2,rfl⟩:=hs.at hg h1;obtain⟨h4,h5⟩:=AW h;rw[Tr.put_eq]at h5;show Nj P m.1 vs' Z Q;refine R5 g1 (by rw[hv.len];exact C5 h4) ?_;split at h5
   .rename_i e2 s1 hr1
    refine hi _ _ _ _ _ _ hr1 Y _ _ (RE.binds hv g2) (hs.del hg h1) _ fun Y1 ex₀ e₁ Z1 p1 p2 p3 p4=>?_
    cases p2;show T P b _ e₁ Z1;have hm1:=p1 _ _ h1;split at h5
    .rename_i e3 s2 hr2
     refine hi _ _ _ _ _ _ hr2 Y1 _ _ p3 p4 _ fun Y2 ex₀ e₂ Z2 u1 u2 u3 u4 hno=>?_
     cases u2;rw[Tr.put_eq]at h5;cases h5;exact hQ Y2 _ _ (p1.trans u1) ⟨_,RV.pure _ rfl,rfl⟩ (u4.back (u1 _ _ hm1) hno ⟨_,g2.mono (p1.trans u1),rfl⟩)
    .rename_i e3 s2 hr2
     refine hi _ _ _ _ _ _ hr2 Y1 _ _ p3 p4 _ fun Y2 ex₀ e₂ Z2 u1 u2 u3 u4 hno=>?_
     cases u2;rw[Tr.put_eq]at h5;cases h5;exact hQ Y2 _ _ (p1.trans u1) ⟨_,RV.pure _ rfl,rfl⟩ (u4.back (u1 _ _ hm1) hno ⟨_,g2.mono (p1.trans u1),rfl⟩)
    .rename_i id e3 s2 hr2
     refine hi _ _ _ _ _ _ hr2 Y1 _ _ p3 p4 _ fun Y2 ex₀ e₂ Z2 u1 u2 u3 u4 hno=>?_
     cases u2;rw[Tr.put_eq]at h5;cases h5;exact hQ Y2 _ _ (p1.trans u1) ⟨_,RV.pure _ rfl,rfl⟩ (u4.back (u1 _ _ hm1) hno ⟨_,g2.mono (p1.trans u1),rfl⟩)
    .rename_i v e3 s2 hr2
     refine hi _ _ _ _ _ _ hr2 Y1 _ _ p3 p4 _ fun Y2 ex₀ e₂ Z2 u1 u2 u3 u4 hno=>?_
     obtain⟨v',u5,rfl⟩:=u2;cases h5;exact hQ Y2 _ _ (p1.trans u1) ⟨v',u5,rfl⟩ u4
    .cases h5
   .cases h5
  .cases h
 .cases h
def SR.emp:SR P (fun _=>none) ⟨0,.leaf⟩ Gl.emp:=⟨fun _ _ h=>(by cases h),fun _ _ _ _ _ _ h=>(by cases h),fun _ _=>rfl,by show 0<=Nd+1;omega⟩
def XU {tab:Kw} (ht:MN P tab) {memo:FQ} (hm:Hj P memo) {ih:AV->Env->St->Rs} (hi:S4 P ih):N3 P (QR tab memo ih):=by
 intro f vs v h;unfold QR at h;obtain⟨h1,h2⟩:=AW h;split at h2
 .rename_i u s hr
  split at h2
  .rename_i w hw
   obtain⟨h3,h4⟩:=AW h2;cases h4;refine⟨h1,h3,?_⟩;refine(OW ht hm hi f vs _ _ _ hr (fun _=>none) vs Gl.emp (Bh.1 (RL.pure vs h1)) SR.emp (fun r Z'=> ∃Y' u',RV Y' u u'/\SR P Y' s Z'/\r= .ret u') fun Y' r' Z' _ q2 q3=>?_).GC fun r Z' ⟨Y',u',q1,q2,e⟩=>?_
   .obtain⟨u',q4,rfl⟩:=q2
    exact⟨Y',u',q4,q3,rfl⟩
   .subst e
    exact .inl ⟨u',v,Gl.emp,rfl,fun n o ho=>(by cases ho),ug q2 Vx u u' v hw q1,rfl,rfl⟩
  .cases h2
 .cases h2
def tP {tab : Kw} (ht:MN P tab) {memo:FQ} (hm:Hj P memo): ∀n,S4 P (run tab memo n):=by
 intro n
 induction n using Nat.strongRecOn with
 | ind n IH=>
   cases n with
   | zero=>intro c env s ex env' s' h;cases h
   | succ n=>
     have hi:=IH n (Nat.lt_succ_self n);have hcf:=OW ht hm hi;have hcv:=fR ht hm hi;have hcp:=XU ht hm hi;intro c env s ex env' s' h Y env₀ Z he hs Q hQ;have h:JO tab memo (run tab memo n) c env s=some (ex,env',s'):=h;cases c with
     | skip=>cases h;exact hQ Y _ _ _ (.refl _) rfl he hs
     | ret=>cases h;exact hQ Y _ _ _ (.refl _) rfl he hs
     | exit id=>cases h;exact hQ Y _ _ _ (.refl _) rfl he hs
     | C9 ops=>
       simp only[JO]at h;refine(bk hcf hcv hcp h he hs (K:=fun env Z=>Q .normal env Z) (kp:=fun env v Z=>Q (.Bj v) env Z) (fun Y' e₁ Z' q1 q2 q3 q4=>?_) (fun Y' v v' e₁ Z' q1 q2 q3 q4 q5=>?_)).2.2
       .subst q2;exact hQ Y' _ _ _ q1 rfl q3 q4
       .subst q2;exact hQ Y' _ _ _ q1 ⟨v',q3,rfl⟩ q4 q5
     | HU l ops=>
       simp only[JO]at h;show Da P ops (fun env Z=>Q .normal (prune l env) Z) (fun v Z=> ∀Z',Sub Z Z'->Q (.Bj v) [] Z') env₀ Z;split at h
       .rename_i e1 s1 hr
        cases h;exact Q9 hcf hcv hcp hr he hs (fun Y' e₁ Z' q1 q2 q3 q4=>hQ Y' _ _ _ q1 rfl (q3.prune l) q4) (fun Y' v v' Z' q1 q2 q3 q4 q5=>by cases q2)
       .rename_i hne
        refine Q9 hcf hcv hcp h he hs (fun Y' e₁ Z' q1 q2 q3 q4=>?_) (fun Y' v v' Z' q1 q2 q3 q4 q5=>?_)
        .subst q2;exact absurd h (hne _ _)
        .subst q2;subst q3;exact fun Z2 hs2=>hQ Y' _ _ _ q1 ⟨v',q4,rfl⟩ F2.nil ⟨fun i o hi=>let⟨m,a1,o',a2,a3⟩:=q5.get i o hi;⟨m,a1,o',hs2 _ _ a2,a3⟩,q5.inj,q5.sU,q5.lim⟩
     | seq l a b=>
       simp only[JO]at h;show T P a (Ac.andThen (fun env Z=>Fz (prune l env) Z (T P b Q)) Q) env₀ Z;split at h
       .rename_i e1 s1 hr
        refine hi _ _ _ _ _ _ hr Y _ Z he hs _ fun Y1 ex₀ e₁ Z1 p1 p2 p3 p4=>?_
        cases p2;exact .inl <| hi _ _ _ _ _ _ h Y1 _ Z1 (p3.prune l) p4 _ fun Y2 ex₀ e₂ Z2 u1 u2 u3 u4=>hQ Y2 _ _ _ (p1.trans u1) u2 u3 u4
       .rename_i hne
        refine hi _ _ _ _ _ _ h Y _ Z he hs _ fun Y1 ex₀ e₁ Z1 p1 p2 p3 p4=>?_
        have hf:=hQ Y1 _ _ _ p1 p2 p3 p4;cases ex with
        | normal=>exact absurd h (hne _ _)
        | ret=>cases p2;exact hf
        | exit id=>cases p2;exact hf
        | Bj v=>obtain⟨v',u1,rfl⟩:=p2;exact hf
     | cond c a b=>
       simp only[JO]at h;simp only[T];split at h
       .rename_i hc
        obtain⟨v',q1,q2⟩:=Av he hc;simp only[RV]at q2;subst q2;rw[q1];exact⟨fun _=>hi _ _ _ _ _ _ h Y _ Z he hs _ hQ,fun e=>by cases e⟩
       .rename_i hc
        obtain⟨v',q1,q2⟩:=Av he hc;simp only[RV]at q2;subst q2;rw[q1];exact⟨fun e=>(by cases e),fun _=>hi _ _ _ _ _ _ h Y _ Z he hs _ hQ⟩
       .cases h
     | block id a=>
       simp only[JO]at h;show T P a (Ac.inBlock id Q) env₀ Z;split at h
       .rename_i id' e1 s1 hr
        refine hi _ _ _ _ _ _ hr Y _ Z he hs _ fun Y1 ex₀ e₁ Z1 p1 p2 p3 p4=>?_
        cases p2;simp only[Ac.inBlock];cases hb:Nat.beq id' id with
        | true=>rw[hb]at h;cases h;exact hQ Y1 _ _ _ p1 rfl p3 p4
        | false=>rw[hb]at h;cases h;exact hQ Y1 _ _ _ p1 rfl p3 p4
       .rename_i hne
        refine hi _ _ _ _ _ _ h Y _ Z he hs _ fun Y1 ex₀ e₁ Z1 p1 p2 p3 p4=>?_
        have hf:=hQ Y1 _ _ _ p1 p2 p3 p4;cases ex with
        | normal=>cases p2;exact hf
        | ret=>cases p2;exact hf
        | exit id=>exact absurd h (hne _ _ _)
        | Bj v=>obtain⟨v',u1,rfl⟩:=p2;exact hf
     | scope a=>
       simp only[JO]at h;exact hi _ _ _ _ _ _ h Y _ Z he hs _ hQ
     | loop l a=>
       refine⟨fun m E τ=>m<=n+1/\ ∃e s1 Y1,Y.le Y1/\RE Y1 (prune l e) E/\SR P Y1 s1 τ/\run tab memo m (.loop l a) e s1=some (ex,env',s'),⟨n+1,IW _,env,s,Y,.refl _,he.prune l,hs,h⟩,?_⟩;rintro m E τ ⟨hm1,e,s1,Y1,q1,q2,q3,q4⟩;cases m with
       | zero=>cases q4
       | succ m=>
         have hi1:=IH m (by omega)
         have q4:(match run tab memo m a (prune l e) s1 with
          | some (.normal,env',s')=>run tab memo m (.loop l a) env' s'
          | r=>r)=some (ex,env',s'):=q4
         split at q4
         .rename_i e2 s2 hr
          refine hi1 _ _ _ _ _ _ hr Y1 _ τ q2 q3 _ fun Y2 ex₀ e₁ Z1 p1 p2 p3 p4=>?_
          cases p2;exact⟨m,Nat.lt_succ_self m,by omega,e2,s2,Y2,q1.trans p1,p3.prune l,p4,q4⟩
         .rename_i hne
          refine hi1 _ _ _ _ _ _ q4 Y1 _ τ q2 q3 _ fun Y2 ex₀ e₁ Z1 p1 p2 p3 p4=>?_
          have hf:=hQ Y2 _ _ _ (q1.trans p1) p2 p3 p4;cases ex with
          | normal=>exact absurd q4 (hne _ _)
          | ret=>cases p2;exact hf
          | exit id=>cases p2;exact hf
          | Bj v=>obtain⟨v',u1,rfl⟩:=p2;exact hf
     | D2 l g ps a b=>
       simp only[JO]at h;simp only[T];split at h
       .rename_i gf cap hg
        obtain⟨x',q1,fn',a',b',q2,q3,q4,rfl⟩:=Av he hg;simp only[cY]at q2;subst q2;have q3:=Bh.1 q3;have q4:=Bh.1 q4;cases q3;rw[q1];intro L hL;obtain⟨h1,h2⟩:=St.Ig h;obtain⟨Y1,p1,p2,p3⟩:=hs.new h1 hL 0 (o:= .loop .ready (prune l env) ps a b) (o':= .loop .ready (prune l env₀) (Bk P ps a b)) ⟨_,he.prune l,rfl⟩
        have hfy:RV Y1 (.f (.yield s.nx) [] []) (.f (.yield L) [] []):=by
         simp only[RV];exact⟨.yield L,[],[],⟨_,p2,rfl⟩,Bh.2 F2.nil,Bh.2 F2.nil,rfl⟩
        split at h2
        .rename_i v s2 hr
         refine hcf gf _ _ _ _ hr Y1 _ _ (F2.cons hfy (L4.mono p1 q4)) p3 _ fun Y2 r' Z2 u1 u2 u3=>?_
         obtain⟨v',_,rfl⟩:=u2;split at h2
         .rename_i st e9 ps9 a9 b9 hg2
          rw[Tr.put_eq]at h2;have hm2:=u1 _ _ p2;obtain⟨o',w1,e8,w2,rfl⟩:=u3.at hg2 hm2;refine⟨st,e8,_,w1,?_⟩;have hd:=u3.del hg2 hm2;cases st<;>(simp only[id]at h2;cases h2;exact hQ Y2 _ _ _ (p1.trans u1) rfl (he.mono (p1.trans u1)) hd)
         .cases h2
        .rename_i v s2 hr
         refine hcf gf _ _ _ _ hr Y1 _ _ (F2.cons hfy (L4.mono p1 q4)) p3 _ fun Y2 r' Z2 u1 u2 u3=>?_
         obtain⟨v',u4,rfl⟩:=u2;split at h2
         .rename_i o9 hg2
          rw[Tr.put_eq]at h2;have hm2:=u1 _ _ p2;have hd:=u3.del hg2 hm2;cases h2;exact hQ Y2 _ _ _ (p1.trans u1) ⟨v',u4,rfl⟩ (he.mono (p1.trans u1)) hd
         .cases h2
        .cases h2
       .cases h
def iN (tab:Kw) (memo:FQ) (n:Nat) (f:FuncId) (vs:List V) (v:V):Bool:=
 match QR tab memo (run tab memo n) f vs with
 | some u=>E6 u v
 | none=>false
def Xp {tab:Kw} (ht:MN P tab) {memo:FQ} (hm:Hj P memo) {n:Nat} {f:FuncId} {vs:List V} {v:V} (h:iN tab memo n f vs v=true):CK vs=true/\BL v=true/\Pure P f vs v:=by
 unfold iN at h;split at h
 .rename_i u hu
  have:=Pw _ _ h;subst this;exact XU ht hm (tP ht hm n) f vs u hu
 .cases h
end Go.Gl
namespace Go.Gl
variable {P:Program} {Y Y':Ren} {Z:AE}
def Ys (sz:Nat) (vs:List V) (s:St):Option (R×St):=
 match vs with
 | [.l es f]=>match JP s sz (.l es f)with
   | some []=>some (.ret (.l [] true),s)
   | some (y::ys)=>bif (y::ys).all (fun e=>e.all CO)&&Nat.ble (y::ys).length 1073741824 then s.new (.arr sz (y::ys)) fun i s'=>some (.ret (.sl i (y::ys).length 0),s')else none
   | none=>none
 | [.sl n len c]=>match JP s sz (.sl n len c)with
   | some []=>some (.ret (.l [] true),s)
   | some (y::ys)=>bif (y::ys).all (fun e=>e.all CO)&&Nat.ble (y::ys).length 1073741824 then s.new (.arr sz (y::ys)) fun i s'=>some (.ret (.sl i (y::ys).length 0),s')else none
   | none=>none
 | _=>none
def aG {α:Type} (p:Nat->α->Prop) (f:Nat->Nat) (t:Tr α):Prop:= ∀j a,t.get j=some a->p (f j) a
def qt {α:Type} {p:Nat->α->Prop} {f:Nat->Nat}:aG p f .leaf:=fun _ _ h=>by cases h
def lP:Hj P (fun _=>[]):=fun _ _ h=>by cases h
end Go.Gl
