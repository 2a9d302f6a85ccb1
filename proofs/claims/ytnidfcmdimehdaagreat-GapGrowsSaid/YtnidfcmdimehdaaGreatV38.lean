import Derived.Test.YtnidfcmdimehdaaGreatV37
set_option linter.all false
set_option linter.defProp false
set_option maxHeartbeats 8000000
noncomputable section
namespace Go.Gl
variable {P:Program} {Y Y':Ren} {Z:AE} {env env₀:Env}
def ob {α β:Type} (o:Option α) (k:α->Option β):Option β:=match o with|some v=>k v|none=>none
def AR {α β:Type} {o:Option α} {k:α->Option β} {r:β} (h:ob o k=some r): ∃v,o=some v/\k v=some r:=by
 cases o with
 | none=>cases h
 | some v=>exact⟨v,rfl,h⟩
def REx (Y:Ren):Aa->Aa->Prop
 | .Bf v,x=> ∃v',RV Y v v'/\x= .Bf v'
 | .normal,x=>x= .normal
 | .ret,x=>x= .ret
 | .exit id,x=>x= .exit id
def qJ (Y:Ren):R->R->Prop
 | .ret v,r=> ∃v',RV Y v v'/\r= .ret v'
 | .Bf v,r=> ∃v',RV Y v v'/\r= .Bf v'
abbrev CF:=FuncId->List V->St->Option (R×St)
abbrev CV:=V->List V->St->Option (R×St)
abbrev CP:=FuncId->List V->Option V
def LW (P:Program) (c:CF):Prop:= ∀f vs s r s',c f vs s=some (r,s')-> ∀Y vs' Z,Lw Y vs vs'->SR P Y s Z-> ∀Q:R->AE->Prop,(∀Y' r' Z',Y.le Y'->qJ Y' r r'->SR P Y' s' Z'->Q r' Z')->Av P f vs' Z Q
def KG (P:Program) (c:CV):Prop:= ∀x vs s r s',c x vs s=some (r,s')-> ∀Y x' vs' Z,RV Y x x'->Lw Y vs vs'->SR P Y s Z-> ∀Q:R->AE->Prop,(∀Y' r' Z',Y.le Y'->qJ Y' r r'->SR P Y' s' Z'->Q r' Z')->As P x' vs' Z Q
def Nw (P:Program) (c:CP):Prop:= ∀f vs v,c f vs=some v->CG vs=true/\BG v=true/\Pure P f vs v
def ov (o:Option V) (s:St):Option (R×St):=match o with|some v=>some (.ret v,s)|none=>none
def CX {o:Option V} {s s':St} {r:R} (h:ov o s=some (r,s')): ∃v,o=some v/\r= .ret v/\s'=s:=by
 cases o with
 | none=>cases h
 | some v=>cases h;exact⟨v,rfl,rfl,rfl⟩
def os (o:Option St):Option (R×St):=match o with|some s=>some (.ret (.t []),s)|none=>none
def na {o:Option St} {s':St} {r:R} (h:os o=some (r,s')):o=some s'/\r= .ret (.t []):=by
 cases o with
 | none=>cases h
 | some v=>cases h;exact⟨rfl,rfl⟩
def bZ (o:Option (V×St)):Option (R×St):=match o with|some (v,s)=>some (.ret v,s)|none=>none
def Mi {o:Option (V×St)} {s':St} {r:R} (h:bZ o=some (r,s')): ∃v,o=some (v,s')/\r= .ret v:=by
 cases o with
 | none=>cases h
 | some v=>cases h;exact⟨_,rfl,rfl⟩
def LJ (env:Env):Option Bk->Option (Option V)
 | none=>some none
 | some x=>match Da env x with|some v=>some (some v)|none=>none
def N8 (he:RE Y env env₀) {x:Option Bk} {v:Option V} (h:LJ env x=some v): ∃v',Hs env₀ x=some v'/\qI Y v v':=by
 cases x with
 | none=>cases h;exact⟨none,rfl,rfl⟩
 | some x=>
   simp only[LJ]at h;split at h
   .rename_i u hu
    cases h;obtain⟨v',h1,h2⟩:=Aq he hu;exact⟨some v',by simp only[Hs,h1],v',h2,rfl⟩
   .cases h
def fj (t:TypeId) (z:V) (ok:Bool) (x:V):Option V:=
 match x with
 | .FD t' v=>bif Nat.beq t' t then some (bif ok then .t [v,.b true]else v)else(bif ok&&BG z then some (.t [z,.b false])else none)
 | .Dv=>bif ok&&BG z then some (.t [z,.b false])else none
 | _=>none
def No (x:V):Option V:=
 match x with
 | .p n off=>some (.p n off)
 | .rp cs=>some (.rp cs)
 | .pe n sz i off=>some (.pe n sz i off)
 | .f (.func f) a b=>some (.f (.func f) a b)
 | .f (.yield f) a b=>some (.f (.yield f) a b)
 | _=>none
def F1 (cf:CF) (cv:CV) (cp:CP) (o:F4) (env:Env) (s:St):Option (R×St):=
 match o with
 | .mv x=>ov (Da env x) s
 | .mC x=>ov (Da env x) s
 | .pick c a b=>ob (Da env c) fun vc=>ob (Da env a) fun va=>ob (Da env b) fun vb=>match vc with| .b t=>some (.ret (bif t then va else vb),s)|_=>none
 | .bin op x y=>ob (Da env x) fun vx=>ob (Da env y) fun vy=>ov (VV op vx vy) s
 | .mI neg x y=>ob (Da env x) fun vx=>ob (Da env y) fun vy=>match vx,vy with| .b p,.b q=>some (.ret (.b (bif neg then p != q else p==q)),s)|_,_=>none
 | .not x=>ob (Da env x) fun vx=>match vx with| .b p=>some (.ret (.b (!p)),s)|_=>none
 | .neg xor x=>ob (Da env x) fun vx=>match vx with| .i ka a=>some (.ret (.i ka (bif xor then bits .xor ka (bif ka.signed then -1 else ka.max) a else ka.wrap (0 - a))),s)|_=>none
 | .conv ka x=>ob (Da env x) fun vx=>match vx with| .i _ a=>some (.ret (.i ka (Iz ka a)),s)|_=>none
 | .box x=>ob (Da env x) fun vx=>ob (cellsOf vx) fun cs=>s.new (.cs cs) fun i s'=>some (.ret (.p i 0),s')
 | .PA x=>ob (Da env x) fun vx=>ob (cellsOf vx) fun cs=>some (.ret (.rp cs),s)
 | .Rz sz b x y=>ob (Da env x) fun vx=>ob (Da env y) fun vy=>ov (Vx b s sz vx vy) s
 | .alloc z=>bif CG z then s.new (.cs z) fun i s'=>some (.ret (.p i 0),s')else none
 | .build z parts=>bif CG z then ob (Nq env z parts) fun cs=>some (.ret (.a cs),s)else none
 | .HT _ len z parts=>bif CG z then ob (Nr env z.length (List.replicate len z) parts) fun es=>some (.ret (.l es true),s)else none
 | .load agg x=>ob (Da env x) fun vx=>ov (Oe s agg vx) s
 | .store sz a x=>ob (Da env a) fun va=>ob (Da env x) fun vx=>os (QB s sz va vx)
 | .F7 off x=>ob (Da env x) fun vx=>ov (UD off vx) s
 | .field agg off x=>ob (Da env x) fun vx=>match vx with| .a cs=>ov (VT agg cs off) s|_=>none
 | .L5 sz arr x i=>ob (Da env x) fun vx=>ob (Da env i) fun vi=>ov (Np sz arr vx vi) s
 | .index len sz agg x i=>ob (Da env x) fun vx=>ob (Da env i) fun vi=>ov (QD len sz agg vx vi) s
 | .slice sz x lo hi mx=>ob (Da env x) fun vx=>ob (LJ env lo) fun l=>ob (LJ env hi) fun h=>ob (LJ env mx) fun m=>bZ (QC s sz vx l h m)
 | .len x=>ob (Da env x) fun vx=>ov (b6 vx) s
 | .Tg x=>ob (Da env x) fun vx=>ov (Vv s vx) s
 | .VG x i=>ob (Da env x) fun vx=>ob (Da env i) fun vi=>ov (Vu vx vi) s
 | .str x=>ob (Da env x) fun vx=>ov (fk s vx) s
 | .append sz b x y=>ob (Da env x) fun vx=>ob (Da env y) fun vy=>bZ (MS b s sz vx vy)
 | .copy sz x y=>ob (Da env x) fun vx=>ob (Da env y) fun vy=>bZ (Vw s sz vx vy)
 | .VK x y=>ob (Da env x) fun vx=>ob (Da env y) fun vy=>match vx,vy with| .i ka a,.i kb b=>bif decide (ka=kb)then some (.ret (.i ka (bif NR a b then b else a)),s)else none|_,_=>none
 | .VJ x y=>ob (Da env x) fun vx=>ob (Da env y) fun vy=>match vx,vy with| .i ka a,.i kb b=>bif decide (ka=kb)then some (.ret (.i ka (bif NR b a then b else a)),s)else none|_,_=>none
 | .extract i x=>ob (Da env x) fun vx=>match vx with| .t vs=>ov (vs[i]?) s|_=>none
 | .I3 x=>ob (Da env x) fun vx=>ov (No vx) s
 | .ep f first cap=>ob (O7 env first) fun vf=>ob (O7 env cap) fun vc=>bif Nh f then some (.ret (.f f vf vc),s)else none
 | .OZ t x=>ob (Da env x) fun vx=>some (.ret (.FD t vx),s)
 | .ee t z ok x=>ob (Da env x) fun vx=>ov (fj t z ok vx) s
 | .panic x=>ob (Da env x) fun vx=>match vx with| .FD t v=>some (.Bf (.FD t v),s)|_=>none
 | .call f args=>ob (O7 env args) fun vs=>cf f vs s
 | .mH len neg x y=>ob (Da env x) fun vx=>ob (Da env y) fun vy=>ov (fm len neg vx vy) s
 | .ew kind neg x=>ob (Da env x) fun vx=>ov (fl kind neg vx) s
 | .GC sz _ z x y=>ob (Da env x) fun vx=>ob (Da env y) fun vy=>bZ (Js s sz z vx vy)
 | .OY=>s.new (.map []) fun i s'=>some (.ret (.m i),s')
 | .lookup ks z ok m key=>ob (Da env m) fun vm=>ob (Da env key) fun vk=>ov (MQ s ks z ok vm vk) s
 | .Ed ks m key x=>ob (Da env m) fun vm=>ob (Da env key) fun vk=>ob (Da env x) fun vx=>os (MP s ks vm vk vx)
 | .L8 f args=>ob (O7 env args) fun vs=>ov (cp f vs) s
 | .Je x args=>ob (Da env x) fun vx=>ob (O7 env args) fun vs=>cv vx vs s
 | .inv tab x args=>ob (Da env x) fun vx=>ob (O7 env args) fun vs=>match vx with| .FD t v=>ob (look t tab) fun f=>cf f (v::vs) s|_=>none
 | _=>none
def pJ {t:TypeId} {z:V} {ok:Bool} {x x' v:V} (h:fj t z ok x=some v) (hx:RV Y x x') {K:V->Prop} (U: ∀v',RV Y v v'->K v') :
    match(generalizing:=false) x' with
     | .FD t' v=>(t'=t->K (bif ok then .t [v,.b true]else v))/\(t'≠t->ok=true/\K (.t [z,.b false]))
     | .Dv=>ok=true/\K (.t [z,.b false])
     | _=>False:=by
 have zz: ∀ {v},BG z=true->some (V.t [z,.b false])=some v->K (.t [z,.b false])->K v:=fun _ e k=>by cases e;exact k
 unfold fj at h;split at h
 .rename_i t' u
  obtain⟨u',h1,rfl⟩:=hx;refine⟨fun e=>?_,fun e=>?_⟩
  .subst e
   rw[Nat.beq_refl]at h;cases h;cases ok with
   | true=>exact U _ (by simp only[cond_true,RV];exact⟨_,Bc.2 (F2.cons h1 (F2.cons (RV.pure _ rfl) F2.nil)),rfl⟩)
   | false=>exact U _ h1
  .have hb:Nat.beq t' t=false:=by
    cases hb:Nat.beq t' t with
    | false=>rfl
    | true=>exact absurd (C6 hb) e
   rw[hb]at h;obtain⟨h2,h3⟩:=AW h;simp only[A4]at h2;cases h3;exact⟨h2.1,U _ (by simp only[RV];exact⟨_,Bc.2 (F2.cons (RV.pure _ h2.2) (F2.cons (RV.pure _ rfl) F2.nil)),rfl⟩)⟩
 .simp only[RV]at hx
  subst hx;obtain⟨h2,h3⟩:=AW h;simp only[A4]at h2;cases h3;exact⟨h2.1,U _ (by simp only[RV];exact⟨_,Bc.2 (F2.cons (RV.pure _ h2.2) (F2.cons (RV.pure _ rfl) F2.nil)),rfl⟩)⟩
 .cases h
def dk {x x' v:V} (h:No x=some v) (hx:RV Y x x') {K:V->Prop} (U: ∀v',RV Y v v'->K v') :
    match(generalizing:=false) x' with
     | .p n off=>K (.p n off)
     | .rp cs=>K (.rp cs)
     | .pe n sz i off=>K (.pe n sz i off)
     | .f (.func f) first cap=>K (.f (.func f) first cap)
     | .f (.yield l) first cap=>K (.f (.yield l) first cap)
     | _=>False:=by
 have hv:v=x:=by unfold No at h;split at h<;>cases h<;>rfl
 subst hv;have hk:=U _ hx;unfold No at h;split at h
 .obtain⟨_,_,rfl⟩:=hx;exact hk
 .obtain⟨_,_,rfl⟩:=hx;exact hk
 .obtain⟨_,_,rfl⟩:=hx;exact hk
 .obtain⟨fn,a,b,h1,_,_,rfl⟩:=hx
  simp only[bj]at h1;subst h1;exact hk
 .obtain⟨fn,a,b,h1,_,_,rfl⟩:=hx
  obtain⟨m,_,rfl⟩:=h1;exact hk
 .cases h
def iQ {cf:CF} {cv:CV} {cp:CP} (hcf:LW P cf) (hcv:KG P cv) (hcp:Nw P cp) {o:F4} {s s':St} {r:R} (h:F1 cf cv cp o env s=some (r,s')) (he:RE Y env env₀) (hs:SR P Y s Z) {k kp:V->AE->Prop}
    (hk: ∀Y' r' Z',Y.le Y'->qJ Y' r r'->SR P Y' s' Z'->qk k kp r' Z'):FX P o env₀ Z k kp:=by
 have hv: ∀ {v:V},r= .ret v->s'=s-> ∀v',RV Y v v'->k v' Z:=fun e1 e2 v' g=>by
  subst e1;subst e2;exact hk Y (.ret v') Z (.refl _) ⟨v',g,rfl⟩ hs
 have hvs: ∀ {v:V},r= .ret v-> ∀v' Z',RV Y v v'->SR P Y s' Z'->k v' Z':=fun e1 v' Z' g g2=>by
  subst e1;exact hk Y (.ret v') Z' (.refl _) ⟨v',g,rfl⟩ g2
 have hvr: ∀ {v:V},r= .ret v-> ∀Y' v' Z',Y.le Y'->RV Y' v v'->SR P Y' s' Z'->k v' Z':=fun e1 Y' v' Z' g0 g g2=>by
  subst e1;exact hk Y' (.ret v') Z' g0 ⟨v',g,rfl⟩ g2
 have hu: ∀ {o1:Option St},os o1=some (r,s')->o1=some s'/\ ∀Z',SR P Y s' Z'->k (.t []) Z':=fun h=>by
  obtain⟨h1,h2⟩:=na h;subst h2;exact⟨h1,fun Z' h3=>hk Y (.ret (.t [])) Z' (.refl _) ⟨_,RV.pure _ rfl,rfl⟩ h3⟩
 cases o<;>simp only[F1]at h<;>simp only[FX]
 case mv x=>
  obtain⟨v,h1,h2,h3⟩:=CX h;obtain⟨v',e1,e2⟩:=Aq he h1;rw[e1];exact hv h2 h3 _ e2
 case mC x=>
  obtain⟨v,h1,h2,h3⟩:=CX h;obtain⟨v',e1,e2⟩:=Aq he h1;rw[e1];exact⟨v',Z,Sub.refl _,.refl _,hv h2 h3 _ e2⟩
 case pick c a b=>
  replace h:=AR h;obtain⟨vc,h1,h⟩:=h;replace h:=AR h;obtain⟨va,h2,h⟩:=h;replace h:=AR h;obtain⟨vb,h3,h⟩:=h;obtain⟨vc',e1,r1⟩:=Aq he h1;obtain⟨va',e2,r2⟩:=Aq he h2;obtain⟨vb',e3,r3⟩:=Aq he h3;rw[e1,e2,e3];simp only[wv];split at h
  .rename_i t
   simp only[RV]at r1;subst r1;cases h;have hh:=hv rfl rfl (bif t then va' else vb') (by cases t;exact r3;exact r2);cases t<;>cases va'<;>first|exact hh|(cases vb'<;>exact hh)
  .cases h
 case bin op x y=>
  replace h:=AR h;obtain⟨vx,h1,h⟩:=h;replace h:=AR h;obtain⟨vy,h2,h⟩:=h;obtain⟨v,h3,h4,h5⟩:=CX h;obtain⟨vx',e1,r1⟩:=Aq he h1;obtain⟨vy',e2,r2⟩:=Aq he h2;obtain⟨p1,p2,p3,p4⟩:=pQ h3;rw[e1,e2,RV.mG r1 p1,RV.mG r2 p2];exact p4 (fun v=>k v Z) (hv h4 h5 _ (RV.pure _ p3))
 case mI neg x y=>
  replace h:=AR h;obtain⟨vx,h1,h⟩:=h;replace h:=AR h;obtain⟨vy,h2,h⟩:=h;obtain⟨vx',e1,r1⟩:=Aq he h1;obtain⟨vy',e2,r2⟩:=Aq he h2;rw[e1,e2];split at h
  .simp only[RV]at r1 r2
   subst r1;subst r2;cases h;exact hv rfl rfl _ (RV.pure _ rfl)
  .cases h
 case not x=>
  replace h:=AR h;obtain⟨vx,h1,h⟩:=h;obtain⟨vx',e1,r1⟩:=Aq he h1;rw[e1];split at h
  .simp only[RV]at r1
   subst r1;cases h;exact hv rfl rfl _ (RV.pure _ rfl)
  .cases h
 case neg xor x=>
  replace h:=AR h;obtain⟨vx,h1,h⟩:=h;obtain⟨vx',e1,r1⟩:=Aq he h1;rw[e1];split at h
  .simp only[RV]at r1
   subst r1;cases h;exact hv rfl rfl _ (RV.pure _ rfl)
  .cases h
 case conv ka x=>
  replace h:=AR h;obtain⟨vx,h1,h⟩:=h;obtain⟨vx',e1,r1⟩:=Aq he h1;rw[e1];split at h
  .simp only[RV]at r1
   subst r1;cases h;have:=hv rfl rfl _ (RV.pure _ rfl);rw[Jl]at this;exact this
  .cases h
 case box x=>
  replace h:=AR h;obtain⟨vx,h1,h⟩:=h;replace h:=AR h;obtain⟨cs,h2,h⟩:=h;obtain⟨vx',e1,r1⟩:=Aq he h1;obtain⟨cs',e2,r2⟩:=Gj h2 r1;obtain⟨h3,h4⟩:=St.IX h;cases h4;rw[e1];simp only[wv,e2];intro n hn;obtain⟨Y',q1,q2,q3⟩:=hs.new h3 hn 0 (o:= .cs cs) (o':= .cs cs') ⟨_,r2,rfl⟩;exact hvr rfl Y' _ _ q1 (by simp only[RV];exact⟨_,q2,rfl⟩) q3
 case PA x=>
  replace h:=AR h;obtain⟨vx,h1,h⟩:=h;replace h:=AR h;obtain⟨cs,h2,h⟩:=h;obtain⟨vx',e1,r1⟩:=Aq he h1;obtain⟨cs',e2,r2⟩:=Gj h2 r1;cases h;rw[e1];simp only[wv,e2];exact hv rfl rfl _ (by simp only[RV];exact⟨_,Bc.2 r2,rfl⟩)
 case Rz sz b x y=>
  replace h:=AR h;obtain⟨vx,h1,h⟩:=h;replace h:=AR h;obtain⟨vy,h2,h⟩:=h;obtain⟨v,h3,h4,h5⟩:=CX h;obtain⟨vx',e1,r1⟩:=Aq he h1;obtain⟨vy',e2,r2⟩:=Aq he h2;rw[e1,e2];exact lG hs h3 r1 r2 (hv h4 h5)
 case alloc z=>
  replace h:=AW h;obtain⟨h0,h⟩:=h;obtain⟨h3,h4⟩:=St.IX h;cases h4;intro n hn;obtain⟨Y',q1,q2,q3⟩:=hs.new h3 hn 0 (o:= .cs z) (o':= .cs z) ⟨_,Bc.1 (RL.pure z h0),rfl⟩;exact hvr rfl Y' _ _ q1 (by simp only[RV];exact⟨_,q2,rfl⟩) q3
 case build z parts=>
  replace h:=AW h;obtain⟨h0,h⟩:=h;replace h:=AR h;obtain⟨cs,h1,h⟩:=h;cases h;obtain⟨cs',e1,r1⟩:=TE he h1 (Bc.1 (RL.pure z h0));rw[e1];exact hv rfl rfl _ (by simp only[RV];exact⟨_,Bc.2 r1,rfl⟩)
 case HT b len z parts=>
  replace h:=AW h;obtain⟨h0,h⟩:=h;replace h:=AR h;obtain⟨cs,h1,h⟩:=h;cases h;obtain⟨cs',e1,r1⟩:=TF he h1 (F2.rep (Bc.1 (RL.pure z h0)) len);rw[e1];exact hv rfl rfl _ (by simp only[RV];exact⟨_,Fo.2 r1,rfl⟩)
 case load agg x=>
  replace h:=AR h;obtain⟨vx,h1,h⟩:=h;obtain⟨v,h3,h4,h5⟩:=CX h;obtain⟨vx',e1,r1⟩:=Aq he h1;rw[e1];exact Wy hs h3 r1 (hv h4 h5)
 case store sz a x=>
  replace h:=AR h;obtain⟨vx,h1,h⟩:=h;replace h:=AR h;obtain⟨vy,h2,h⟩:=h;obtain⟨vx',e1,r1⟩:=Aq he h1;obtain⟨vy',e2,r2⟩:=Aq he h2;obtain⟨h3,h4⟩:=hu h;rw[e1,e2];exact di hs h3 r1 r2 h4
 case F7 off x=>
  replace h:=AR h;obtain⟨vx,h1,h⟩:=h;obtain⟨v,h3,h4,h5⟩:=CX h;obtain⟨vx',e1,r1⟩:=Aq he h1;rw[e1];exact dq h3 r1 (hv h4 h5)
 case field agg off x=>
  replace h:=AR h;obtain⟨vx,h1,h⟩:=h;obtain⟨vx',e1,r1⟩:=Aq he h1;rw[e1];split at h
  .obtain⟨v,h3,h4,h5⟩:=CX h
   obtain⟨c,g1,rfl⟩:=r1;exact MR h3 (Bc.1 g1) (hv h4 h5)
  .cases h
 case L5 sz arr x i=>
  replace h:=AR h;obtain⟨vx,h1,h⟩:=h;replace h:=AR h;obtain⟨vy,h2,h⟩:=h;obtain⟨v,h3,h4,h5⟩:=CX h;obtain⟨vx',e1,r1⟩:=Aq he h1;obtain⟨vy',e2,r2⟩:=Aq he h2;rw[e1,e2];exact dn h3 r1 r2 (hv h4 h5)
 case index len sz agg x i=>
  replace h:=AR h;obtain⟨vx,h1,h⟩:=h;replace h:=AR h;obtain⟨vy,h2,h⟩:=h;obtain⟨v,h3,h4,h5⟩:=CX h;obtain⟨vx',e1,r1⟩:=Aq he h1;obtain⟨vy',e2,r2⟩:=Aq he h2;rw[e1,e2];exact dm h3 r1 r2 (hv h4 h5)
 case slice sz x lo hi mx=>
  replace h:=AR h;obtain⟨vx,h1,h⟩:=h;replace h:=AR h;obtain⟨l,h2,h⟩:=h;replace h:=AR h;obtain⟨hh,h3,h⟩:=h;replace h:=AR h;obtain⟨m,h4,h⟩:=h;obtain⟨v,h5,h6⟩:=Mi h;obtain⟨vx',e1,r1⟩:=Aq he h1;obtain⟨l',e2,r2⟩:=N8 he h2;obtain⟨hh',e3,r3⟩:=N8 he h3;obtain⟨m',e4,r4⟩:=N8 he h4;rw[e1,e2,e3,e4];exact dj hs h5 r1 r2 r3 r4 (hvr h6)
 case len x=>
  replace h:=AR h;obtain⟨vx,h1,h⟩:=h;obtain⟨v,h3,h4,h5⟩:=CX h;obtain⟨vx',e1,r1⟩:=Aq he h1;rw[e1];exact pM h3 r1 (hv h4 h5)
 case Tg x=>
  replace h:=AR h;obtain⟨vx,h1,h⟩:=h;obtain⟨v,h3,h4,h5⟩:=CX h;obtain⟨vx',e1,r1⟩:=Aq he h1;rw[e1];exact lE hs h3 r1 (hv h4 h5)
 case VG x i=>
  replace h:=AR h;obtain⟨vx,h1,h⟩:=h;replace h:=AR h;obtain⟨vi,h2,h⟩:=h;obtain⟨v,h3,h4,h5⟩:=CX h;obtain⟨vx',e1,r1⟩:=Aq he h1;obtain⟨vi',e2,r2⟩:=Aq he h2;rw[e1,e2];exact lD h3 r1 r2 (hv h4 h5)
 case str x=>
  replace h:=AR h;obtain⟨vx,h1,h⟩:=h;obtain⟨v,h3,h4,h5⟩:=CX h;obtain⟨vx',e1,r1⟩:=Aq he h1;rw[e1];exact pK hs h3 r1 (hv h4 h5)
 case append sz b x y=>
  replace h:=AR h;obtain⟨vx,h1,h⟩:=h;replace h:=AR h;obtain⟨vy,h2,h⟩:=h;obtain⟨v,h3,h4⟩:=Mi h;obtain⟨vx',e1,r1⟩:=Aq he h1;obtain⟨vy',e2,r2⟩:=Aq he h2;rw[e1,e2];exact ZI hs h3 r1 r2 (hvr h4)
 case copy sz x y=>
  replace h:=AR h;obtain⟨vx,h1,h⟩:=h;replace h:=AR h;obtain⟨vy,h2,h⟩:=h;obtain⟨v,h3,h4⟩:=Mi h;obtain⟨vx',e1,r1⟩:=Aq he h1;obtain⟨vy',e2,r2⟩:=Aq he h2;rw[e1,e2];exact lF hs h3 r1 r2 (hvs h4)
 case VK x y=>
  replace h:=AR h;obtain⟨vx,h1,h⟩:=h;replace h:=AR h;obtain⟨vy,h2,h⟩:=h;obtain⟨vx',e1,r1⟩:=Aq he h1;obtain⟨vy',e2,r2⟩:=Aq he h2;rw[e1,e2];split at h
  .rename_i ka a kb b
   simp only[RV]at r1 r2;subst r1;subst r2;obtain⟨h3,h4⟩:=AW h;cases h4;refine⟨of_decide_eq_true h3,?_⟩;have:=hv rfl rfl _ (RV.pure _ rfl);rw[P8]at this;by_cases e:a<b
   .rw[if_pos e];rw[decide_eq_true e]at this;exact this
   .rw[if_neg e];rw[decide_eq_false e]at this;exact this
  .cases h
 case VJ x y=>
  replace h:=AR h;obtain⟨vx,h1,h⟩:=h;replace h:=AR h;obtain⟨vy,h2,h⟩:=h;obtain⟨vx',e1,r1⟩:=Aq he h1;obtain⟨vy',e2,r2⟩:=Aq he h2;rw[e1,e2];split at h
  .rename_i ka a kb b
   simp only[RV]at r1 r2;subst r1;subst r2;obtain⟨h3,h4⟩:=AW h;cases h4;refine⟨of_decide_eq_true h3,?_⟩;have:=hv rfl rfl _ (RV.pure _ rfl);rw[P8]at this;by_cases e:b<a
   .rw[if_pos e];rw[decide_eq_true e]at this;exact this
   .rw[if_neg e];rw[decide_eq_false e]at this;exact this
  .cases h
 case extract i x=>
  replace h:=AR h;obtain⟨vx,h1,h⟩:=h;obtain⟨vx',e1,r1⟩:=Aq he h1;rw[e1];split at h
  .obtain⟨v,h3,h4,h5⟩:=CX h
   obtain⟨c,g1,rfl⟩:=r1;obtain⟨y,g2,g3⟩:=(Bc.1 g1).get h3;simp only[wv,g2];exact hv h4 h5 _ g3
  .cases h
 case I3 x=>
  replace h:=AR h;obtain⟨vx,h1,h⟩:=h;obtain⟨v,h3,h4,h5⟩:=CX h;obtain⟨vx',e1,r1⟩:=Aq he h1;rw[e1];exact dk (K:=fun v=>k v Z) h3 r1 (hv h4 h5)
 case ep f first cap=>
  replace h:=AR h;obtain⟨vf,h1,h⟩:=h;replace h:=AR h;obtain⟨vc,h2,h⟩:=h;obtain⟨h3,h4⟩:=AW h;cases h4;obtain⟨vf',e1,r1⟩:=Ig he h1;obtain⟨vc',e2,r2⟩:=Ig he h2;rw[e1,e2];refine hv rfl rfl _ ?_;simp only[RV];exact⟨f,vf',vc',by cases f<;>first|rfl|(simp[Nh]at h3),Bc.2 r1,Bc.2 r2,rfl⟩
 case OZ t x=>
  replace h:=AR h;obtain⟨vx,h1,h⟩:=h;cases h;obtain⟨vx',e1,r1⟩:=Aq he h1;rw[e1];exact hv rfl rfl _ (by simp only[RV];exact⟨_,r1,rfl⟩)
 case ee t z ok x=>
  replace h:=AR h;obtain⟨vx,h1,h⟩:=h;obtain⟨v,h3,h4,h5⟩:=CX h;obtain⟨vx',e1,r1⟩:=Aq he h1;rw[e1];exact pJ (K:=fun v=>k v Z) h3 r1 (hv h4 h5)
 case panic x=>
  replace h:=AR h;obtain⟨vx,h1,h⟩:=h;obtain⟨vx',e1,r1⟩:=Aq he h1;rw[e1];split at h
  .rename_i t v
   obtain⟨v',g1,rfl⟩:=r1;cases h;exact hk Y (.Bf (.FD t v')) Z (.refl _) ⟨_,by simp only[RV];exact⟨v',g1,rfl⟩,rfl⟩ hs
  .cases h
 case call f args=>
  replace h:=AR h;obtain⟨vs,h1,h⟩:=h;obtain⟨vs',e1,r1⟩:=Ig he h1;rw[e1];exact hcf f vs s r s' h Y vs' Z r1 hs _ hk
 case mH len neg x y=>
  replace h:=AR h;obtain⟨vx,h1,h⟩:=h;replace h:=AR h;obtain⟨vy,h2,h⟩:=h;obtain⟨v,h3,h4,h5⟩:=CX h;obtain⟨vx',e1,r1⟩:=Aq he h1;obtain⟨vy',e2,r2⟩:=Aq he h2;rw[e1,e2];exact pO h3 r1 r2 (hv h4 h5)
 case ew kind neg x=>
  replace h:=AR h;obtain⟨vx,h1,h⟩:=h;obtain⟨v,h3,h4,h5⟩:=CX h;obtain⟨vx',e1,r1⟩:=Aq he h1;rw[e1];exact pN h3 r1 (hv h4 h5)
 case GC sz b z x y=>
  replace h:=AR h;obtain⟨vx,h1,h⟩:=h;replace h:=AR h;obtain⟨vy,h2,h⟩:=h;obtain⟨v,h3,h4⟩:=Mi h;obtain⟨vx',e1,r1⟩:=Aq he h1;obtain⟨vy',e2,r2⟩:=Aq he h2;rw[e1,e2];exact Xp hs h3 r1 r2 (hvr h4)
 case OY=>
  obtain⟨h3,h4⟩:=St.IX h;cases h4;intro n hn;obtain⟨Y',q1,q2,q3⟩:=hs.new h3 hn 0 (o:= .map []) (o':= .map []) ⟨[],F2.nil,rfl⟩;exact hvr rfl Y' _ _ q1 (by simp only[RV];exact⟨_,q2,rfl⟩) q3
 case lookup ks z ok m key=>
  replace h:=AR h;obtain⟨vx,h1,h⟩:=h;replace h:=AR h;obtain⟨vy,h2,h⟩:=h;obtain⟨v,h3,h4,h5⟩:=CX h;obtain⟨vx',e1,r1⟩:=Aq he h1;obtain⟨vy',e2,r2⟩:=Aq he h2;rw[e1,e2];exact ZH hs h3 r1 r2 (hv h4 h5)
 case Ed ks m key x=>
  replace h:=AR h;obtain⟨vx,h1,h⟩:=h;replace h:=AR h;obtain⟨vy,h2,h⟩:=h;replace h:=AR h;obtain⟨vz,h3,h⟩:=h;obtain⟨vx',e1,r1⟩:=Aq he h1;obtain⟨vy',e2,r2⟩:=Aq he h2;obtain⟨vz',e3,r3⟩:=Aq he h3;obtain⟨h4,h5⟩:=hu h;rw[e1,e2,e3];exact ZG hs h4 r1 r2 r3 h5
 case L8 f args=>
  replace h:=AR h;obtain⟨vs,h1,h⟩:=h;obtain⟨v,h3,h4,h5⟩:=CX h;obtain⟨vs',e1,r1⟩:=Ig he h1;obtain⟨p1,p2,p3⟩:=hcp f vs v h3;rw[e1,mZ r1 p1];exact⟨v,p3,hv h4 h5 _ (RV.pure _ p2)⟩
 case Je x args=>
  replace h:=AR h;obtain⟨vx,h1,h⟩:=h;replace h:=AR h;obtain⟨vs,h2,h⟩:=h;obtain⟨vx',e1,r1⟩:=Aq he h1;obtain⟨vs',e2,r2⟩:=Ig he h2;rw[e1,e2];exact hcv vx vs s r s' h Y vx' vs' Z r1 r2 hs _ hk
 case inv tab x args=>
  replace h:=AR h;obtain⟨vx,h1,h⟩:=h;replace h:=AR h;obtain⟨vs,h2,h⟩:=h;obtain⟨vx',e1,r1⟩:=Aq he h1;obtain⟨vs',e2,r2⟩:=Ig he h2;rw[e1,e2];split at h
  .rename_i t v
   obtain⟨v',g1,rfl⟩:=r1;obtain⟨f,h3,h4⟩:=AR h;simp only[wv,ws,A3,h3];exact hcf f (v::vs) s r s' h4 Y (v'::vs') Z (F2.cons g1 r2) hs _ hk
  .cases h
 all_goals cases h
end Go.Gl
