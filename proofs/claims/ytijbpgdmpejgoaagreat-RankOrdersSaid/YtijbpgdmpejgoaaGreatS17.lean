import Derived.Test.YtijbpgdmpejgoaaGreatS16
set_option linter.all false
noncomputable section
namespace Go.Gl
variable {P:Program} {ρ ρ':Ren} {σ:AH} {env env₀:Env}
def ob {α β:Type} (o:Option α) (k:α→Option β):Option β:=match o with|some v=>k v|none=>none
theorem AN {α β:Type} {o:Option α} {k:α→Option β} {r:β} (h:ob o k=some r): ∃v,o=some v∧k v=some r:=by
 cases o with
 | none=>cases h
 | some v=>exact⟨v,rfl,h⟩
def REx (ρ:Ren):Ah→Ah→Prop
 | .By v,x=> ∃v',RV ρ v v'∧x= .By v'
 | .normal,x=>x= .normal
 | .ret,x=>x= .ret
 | .exit id,x=>x= .exit id
def mh (ρ:Ren):R→R→Prop
 | .ret v,r=> ∃v',RV ρ v v'∧r= .ret v'
 | .By v,r=> ∃v',RV ρ v v'∧r= .By v'
abbrev CF:=FuncId→List V→St→Option (R×St)
abbrev CV:=V→List V→St→Option (R×St)
abbrev CP:=FuncId→List V→Option V
def Kv (P:Program) (c:CF):Prop:= ∀f vs s r s',c f vs s=some (r,s')→ ∀ρ vs' σ,LI ρ vs vs'→SR P ρ s σ→ ∀Q:R→AH→Prop,(∀ρ' r' σ',ρ.le ρ'→mh ρ' r r'→SR P ρ' s' σ'→Q r' σ')→Be P f vs' σ Q
def Jp (P:Program) (c:CV):Prop:= ∀x vs s r s',c x vs s=some (r,s')→ ∀ρ x' vs' σ,RV ρ x x'→LI ρ vs vs'→SR P ρ s σ→ ∀Q:R→AH→Prop,(∀ρ' r' σ',ρ.le ρ'→mh ρ' r r'→SR P ρ' s' σ'→Q r' σ')→Bk P x' vs' σ Q
def Mp (P:Program) (c:CP):Prop:= ∀f vs v,c f vs=some v→BX vs=true∧Ax v=true∧Pure P f vs v
def ov (o:Option V) (s:St):Option (R×St):=match o with|some v=>some (.ret v,s)|none=>none
theorem Cf {o:Option V} {s s':St} {r:R} (h:ov o s=some (r,s')): ∃v,o=some v∧r= .ret v∧s'=s:=by
 cases o with
 | none=>cases h
 | some v=>cases h;exact⟨v,rfl,rfl,rfl⟩
def os (o:Option St):Option (R×St):=match o with|some s=>some (.ret (.t []),s)|none=>none
theorem gY {o:Option St} {s':St} {r:R} (h:os o=some (r,s')):o=some s'∧r= .ret (.t []):=by
 cases o with
 | none=>cases h
 | some v=>cases h;exact⟨rfl,rfl⟩
def Yn (o:Option (V×St)):Option (R×St):=match o with|some (v,s)=>some (.ret v,s)|none=>none
theorem Lw {o:Option (V×St)} {s':St} {r:R} (h:Yn o=some (r,s')): ∃v,o=some (v,s')∧r= .ret v:=by
 cases o with
 | none=>cases h
 | some v=>cases h;exact⟨_,rfl,rfl⟩
def Kk (env:Env):Option B1→Option (Option V)
 | none=>some none
 | some x=>match Dn env x with|some v=>some (some v)|none=>none
theorem Mw (he:RE ρ env env₀) {x:Option B1} {v:Option V} (h:Kk env x=some v): ∃v',Hg env₀ x=some v'∧mg ρ v v':=by
 cases x with
 | none=>cases h;exact⟨none,rfl,rfl⟩
 | some x=>
   simp only[Kk]at h;split at h
   ·rename_i u hu
    cases h;obtain⟨v',h1,h2⟩:=Av he hu;exact⟨some v',by simp only[Hg,h1],v',h2,rfl⟩
   ·cases h
def au (t:TypeId) (z:V) (ok:Bool) (x:V):Option V:=
 match x with
 | .FE t' v=>bif Nat.beq t' t then some (bif ok then .t [v,.b true]else v)else(bif ok&&Ax z then some (.t [z,.b false])else none)
 | .Du=>bif ok&&Ax z then some (.t [z,.b false])else none
 | _=>none
def Mi (x:V):Option V:=
 match x with
 | .p n off=>some (.p n off)
 | .rp cs=>some (.rp cs)
 | .pe n sz i off=>some (.pe n sz i off)
 | .f (.func f) a b=>some (.f (.func f) a b)
 | .f (.yield f) a b=>some (.f (.yield f) a b)
 | _=>none
def F9 (cf:CF) (cv:CV) (cp:CP) (o:FN) (env:Env) (s:St):Option (R×St):=
 match o with
 | .mv x=>ov (Dn env x) s
 | .Vl x=>ov (Dn env x) s
 | .pick c a b=>ob (Dn env c) fun vc=>ob (Dn env a) fun va=>ob (Dn env b) fun vb=>match vc with| .b t=>some (.ret (bif t then va else vb),s)|_=>none
 | .bin op x y=>ob (Dn env x) fun vx=>ob (Dn env y) fun vy=>ov (Tp op vx vy) s
 | .Tc neg x y=>ob (Dn env x) fun vx=>ob (Dn env y) fun vy=>match vx,vy with| .b p,.b q=>some (.ret (.b (bif neg then p != q else p==q)),s)|_,_=>none
 | .not x=>ob (Dn env x) fun vx=>match vx with| .b p=>some (.ret (.b (!p)),s)|_=>none
 | .neg xor x=>ob (Dn env x) fun vx=>match vx with| .i ka a=>some (.ret (.i ka (bif xor then bits .xor ka (bif ka.signed then -1 else ka.max) a else ka.wrap (0 - a))),s)|_=>none
 | .conv ka x=>ob (Dn env x) fun vx=>match vx with| .i _ a=>some (.ret (.i ka (Ip ka a)),s)|_=>none
 | .box x=>ob (Dn env x) fun vx=>ob (cellsOf vx) fun cs=>s.new (.cs cs) fun i s'=>some (.ret (.p i 0),s')
 | .N4 x=>ob (Dn env x) fun vx=>ob (cellsOf vx) fun cs=>some (.ret (.rp cs),s)
 | .Oo sz b x y=>ob (Dn env x) fun vx=>ob (Dn env y) fun vy=>ov (UB b s sz vx vy) s
 | .alloc z=>bif BX z then s.new (.cs z) fun i s'=>some (.ret (.p i 0),s')else none
 | .build z parts=>bif BX z then ob (Mk env z parts) fun cs=>some (.ret (.a cs),s)else none
 | .AY _ len z parts=>bif BX z then ob (Ml env z.length (List.replicate len z) parts) fun es=>some (.ret (.l es true),s)else none
 | .load agg x=>ob (Dn env x) fun vx=>ov (NU s agg vx) s
 | .store sz a x=>ob (Dn env a) fun va=>ob (Dn env x) fun vx=>os (O9 s sz va vx)
 | .Hj off x=>ob (Dn env x) fun vx=>ov (Sa off vx) s
 | .field agg off x=>ob (Dn env x) fun vx=>match vx with| .a cs=>ov (Tm agg cs off) s|_=>none
 | .Bi sz arr x i=>ob (Dn env x) fun vx=>ob (Dn env i) fun vi=>ov (Mj sz arr vx vi) s
 | .index len sz agg x i=>ob (Dn env x) fun vx=>ob (Dn env i) fun vi=>ov (PB len sz agg vx vi) s
 | .slice sz x lo hi mx=>ob (Dn env x) fun vx=>ob (Kk env lo) fun l=>ob (Kk env hi) fun h=>ob (Kk env mx) fun m=>Yn (PA s sz vx l h m)
 | .len x=>ob (Dn env x) fun vx=>ov (Yy vx) s
 | .R6 x=>ob (Dn env x) fun vx=>ov (T9 s vx) s
 | .QP x i=>ob (Dn env x) fun vx=>ob (Dn env i) fun vi=>ov (T8 vx vi) s
 | .str x=>ob (Dn env x) fun vx=>ov (av s vx) s
 | .append sz b x y=>ob (Dn env x) fun vx=>ob (Dn env y) fun vy=>Yn (Lm b s sz vx vy)
 | .copy sz x y=>ob (Dn env x) fun vx=>ob (Dn env y) fun vy=>Yn (UA s sz vx vy)
 | .J6 x y=>ob (Dn env x) fun vx=>ob (Dn env y) fun vy=>match vx,vy with| .i ka a,.i kb b=>bif decide (ka=kb)then some (.ret (.i ka (bif MR a b then b else a)),s)else none|_,_=>none
 | .Nz x y=>ob (Dn env x) fun vx=>ob (Dn env y) fun vy=>match vx,vy with| .i ka a,.i kb b=>bif decide (ka=kb)then some (.ret (.i ka (bif MR b a then b else a)),s)else none|_,_=>none
 | .extract i x=>ob (Dn env x) fun vx=>match vx with| .t vs=>ov (vs[i]?) s|_=>none
 | .Et x=>ob (Dn env x) fun vx=>ov (Mi vx) s
 | .HX f first cap=>ob (N1 env first) fun vf=>ob (N1 env cap) fun vc=>bif Mb f then some (.ret (.f f vf vc),s)else none
 | .Fo t x=>ob (Dn env x) fun vx=>some (.ret (.FE t vx),s)
 | .XM t z ok x=>ob (Dn env x) fun vx=>ov (au t z ok vx) s
 | .panic x=>ob (Dn env x) fun vx=>match vx with| .FE t v=>some (.By (.FE t v),s)|_=>none
 | .call f args=>ob (N1 env args) fun vs=>cf f vs s
 | .fB len neg x y=>ob (Dn env x) fun vx=>ob (Dn env y) fun vy=>ov (az len neg vx vy) s
 | .Vo kind neg x=>ob (Dn env x) fun vx=>ov (aw kind neg vx) s
 | .D3 sz _ z x y=>ob (Dn env x) fun vx=>ob (Dn env y) fun vy=>Yn (JY s sz z vx vy)
 | .Gw=>s.new (.map []) fun i s'=>some (.ret (.m i),s')
 | .lookup ks z ok m key=>ob (Dn env m) fun vm=>ob (Dn env key) fun vk=>ov (Lk s ks z ok vm vk) s
 | .DQ ks m key x=>ob (Dn env m) fun vm=>ob (Dn env key) fun vk=>ob (Dn env x) fun vx=>os (Lj s ks vm vk vx)
 | .KO f args=>ob (N1 env args) fun vs=>ov (cp f vs) s
 | .CA x args=>ob (Dn env x) fun vx=>ob (N1 env args) fun vs=>cv vx vs s
 | .inv tab x args=>ob (Dn env x) fun vx=>ob (N1 env args) fun vs=>match vx with| .FE t v=>ob (look t tab) fun f=>cf f (v::vs) s|_=>none
 | _=>none
theorem lz {t:TypeId} {z:V} {ok:Bool} {x x' v:V} (h:au t z ok x=some v) (hx:RV ρ x x') {K:V→Prop} (U: ∀v',RV ρ v v'→K v') :
 match(generalizing:=false) x' with
  | .FE t' v=>(t'=t→K (bif ok then .t [v,.b true]else v))∧(t'≠t→ok=true∧K (.t [z,.b false]))
  | .Du=>ok=true∧K (.t [z,.b false])
  | _=>False:=by
 have zz: ∀ {v},Ax z=true→some (V.t [z,.b false])=some v→K (.t [z,.b false])→K v:=fun _ e k=>by cases e;exact k
 unfold au at h;split at h
 ·rename_i t' u
  obtain⟨u',h1,rfl⟩:=hx;refine⟨fun e=>?_,fun e=>?_⟩
  ·subst e
   rw[Nat.beq_refl]at h;cases h;cases ok with
   | true=>exact U _ (by simp only[cond_true,RV];exact⟨_,Bt.2 (F2.cons h1 (F2.cons (RV.pure _ rfl) F2.nil)),rfl⟩)
   | false=>exact U _ h1
  ·have hb:Nat.beq t' t=false:=by
    cases hb:Nat.beq t' t with
    | false=>rfl
    | true=>exact absurd (C9 hb) e
   rw[hb]at h;obtain⟨h2,h3⟩:=AW h;simp only[Bj]at h2;cases h3;exact⟨h2.1,U _ (by simp only[RV];exact⟨_,Bt.2 (F2.cons (RV.pure _ h2.2) (F2.cons (RV.pure _ rfl) F2.nil)),rfl⟩)⟩
 ·simp only[RV]at hx
  subst hx;obtain⟨h2,h3⟩:=AW h;simp only[Bj]at h2;cases h3;exact⟨h2.1,U _ (by simp only[RV];exact⟨_,Bt.2 (F2.cons (RV.pure _ h2.2) (F2.cons (RV.pure _ rfl) F2.nil)),rfl⟩)⟩
 ·cases h
theorem Zu {x x' v:V} (h:Mi x=some v) (hx:RV ρ x x') {K:V→Prop} (U: ∀v',RV ρ v v'→K v') :
 match(generalizing:=false) x' with
  | .p n off=>K (.p n off)
  | .rp cs=>K (.rp cs)
  | .pe n sz i off=>K (.pe n sz i off)
  | .f (.func f) first cap=>K (.f (.func f) first cap)
  | .f (.yield l) first cap=>K (.f (.yield l) first cap)
  | _=>False:=by
 have hv:v=x:=by unfold Mi at h;split at h<;>cases h<;>rfl
 subst hv;have hk:=U _ hx;unfold Mi at h;split at h
 ·obtain⟨_,_,rfl⟩:=hx;exact hk
 ·obtain⟨_,_,rfl⟩:=hx;exact hk
 ·obtain⟨_,_,rfl⟩:=hx;exact hk
 ·obtain⟨fn,a,b,h1,_,_,rfl⟩:=hx
  simp only[Yp]at h1;subst h1;exact hk
 ·obtain⟨fn,a,b,h1,_,_,rfl⟩:=hx
  obtain⟨m,_,rfl⟩:=h1;exact hk
 ·cases h
theorem cI {cf:CF} {cv:CV} {cp:CP} (hcf:Kv P cf) (hcv:Jp P cv) (hcp:Mp P cp) {o:FN} {s s':St} {r:R} (h:F9 cf cv cp o env s=some (r,s')) (he:RE ρ env env₀) (hs:SR P ρ s σ) {k kp:V→AH→Prop}
 (hk: ∀ρ' r' σ',ρ.le ρ'→mh ρ' r r'→SR P ρ' s' σ'→qk k kp r' σ'):Fb P o env₀ σ k kp:=by
 have hv: ∀ {v:V},r= .ret v→s'=s→ ∀v',RV ρ v v'→k v' σ:=fun e1 e2 v' g=>by
  subst e1;subst e2;exact hk ρ (.ret v') σ (.refl _) ⟨v',g,rfl⟩ hs
 have hvs: ∀ {v:V},r= .ret v→ ∀v' σ',RV ρ v v'→SR P ρ s' σ'→k v' σ':=fun e1 v' σ' g g2=>by
  subst e1;exact hk ρ (.ret v') σ' (.refl _) ⟨v',g,rfl⟩ g2
 have hvr: ∀ {v:V},r= .ret v→ ∀ρ' v' σ',ρ.le ρ'→RV ρ' v v'→SR P ρ' s' σ'→k v' σ':=fun e1 ρ' v' σ' g0 g g2=>by
  subst e1;exact hk ρ' (.ret v') σ' g0 ⟨v',g,rfl⟩ g2
 have hu: ∀ {o1:Option St},os o1=some (r,s')→o1=some s'∧ ∀σ',SR P ρ s' σ'→k (.t []) σ':=fun h=>by
  obtain⟨h1,h2⟩:=gY h;subst h2;exact⟨h1,fun σ' h3=>hk ρ (.ret (.t [])) σ' (.refl _) ⟨_,RV.pure _ rfl,rfl⟩ h3⟩
 cases o<;>simp only[F9]at h<;>simp only[Fb]
 case mv x=>
  obtain⟨v,h1,h2,h3⟩:=Cf h;obtain⟨v',e1,e2⟩:=Av he h1;rw[e1];exact hv h2 h3 _ e2
 case Vl x=>
  obtain⟨v,h1,h2,h3⟩:=Cf h;obtain⟨v',e1,e2⟩:=Av he h1;rw[e1];exact⟨v',σ,Sub.refl _,.refl _,hv h2 h3 _ e2⟩
 case pick c a b=>
  replace h:=AN h;obtain⟨vc,h1,h⟩:=h;replace h:=AN h;obtain⟨va,h2,h⟩:=h;replace h:=AN h;obtain⟨vb,h3,h⟩:=h;obtain⟨vc',e1,r1⟩:=Av he h1;obtain⟨va',e2,r2⟩:=Av he h2;obtain⟨vb',e3,r3⟩:=Av he h3;rw[e1,e2,e3];simp only[wv];split at h
  ·rename_i t
   simp only[RV]at r1;subst r1;cases h;have hh:=hv rfl rfl (bif t then va' else vb') (by cases t;exact r3;exact r2);cases t<;>cases va'<;>first|exact hh|(cases vb'<;>exact hh)
  ·cases h
 case bin op x y=>
  replace h:=AN h;obtain⟨vx,h1,h⟩:=h;replace h:=AN h;obtain⟨vy,h2,h⟩:=h;obtain⟨v,h3,h4,h5⟩:=Cf h;obtain⟨vx',e1,r1⟩:=Av he h1;obtain⟨vy',e2,r2⟩:=Av he h2;obtain⟨p1,p2,p3,p4⟩:=l9 h3;rw[e1,e2,RV.fL r1 p1,RV.fL r2 p2];exact p4 (fun v=>k v σ) (hv h4 h5 _ (RV.pure _ p3))
 case Tc neg x y=>
  replace h:=AN h;obtain⟨vx,h1,h⟩:=h;replace h:=AN h;obtain⟨vy,h2,h⟩:=h;obtain⟨vx',e1,r1⟩:=Av he h1;obtain⟨vy',e2,r2⟩:=Av he h2;rw[e1,e2];split at h
  ·simp only[RV]at r1 r2
   subst r1;subst r2;cases h;exact hv rfl rfl _ (RV.pure _ rfl)
  ·cases h
 case not x=>
  replace h:=AN h;obtain⟨vx,h1,h⟩:=h;obtain⟨vx',e1,r1⟩:=Av he h1;rw[e1];split at h
  ·simp only[RV]at r1
   subst r1;cases h;exact hv rfl rfl _ (RV.pure _ rfl)
  ·cases h
 case neg xor x=>
  replace h:=AN h;obtain⟨vx,h1,h⟩:=h;obtain⟨vx',e1,r1⟩:=Av he h1;rw[e1];split at h
  ·simp only[RV]at r1
   subst r1;cases h;exact hv rfl rfl _ (RV.pure _ rfl)
  ·cases h
 case conv ka x=>
  replace h:=AN h;obtain⟨vx,h1,h⟩:=h;obtain⟨vx',e1,r1⟩:=Av he h1;rw[e1];split at h
  ·simp only[RV]at r1
   subst r1;cases h;have:=hv rfl rfl _ (RV.pure _ rfl);rw[JT]at this;exact this
  ·cases h
 case box x=>
  replace h:=AN h;obtain⟨vx,h1,h⟩:=h;replace h:=AN h;obtain⟨cs,h2,h⟩:=h;obtain⟨vx',e1,r1⟩:=Av he h1;obtain⟨cs',e2,r2⟩:=Gm h2 r1;obtain⟨h3,h4⟩:=St.IM h;cases h4;rw[e1];simp only[wv,e2];intro n hn;obtain⟨ρ',q1,q2,q3⟩:=hs.new h3 hn 0 (o:= .cs cs) (o':= .cs cs') ⟨_,r2,rfl⟩;exact hvr rfl ρ' _ _ q1 (by simp only[RV];exact⟨_,q2,rfl⟩) q3
 case N4 x=>
  replace h:=AN h;obtain⟨vx,h1,h⟩:=h;replace h:=AN h;obtain⟨cs,h2,h⟩:=h;obtain⟨vx',e1,r1⟩:=Av he h1;obtain⟨cs',e2,r2⟩:=Gm h2 r1;cases h;rw[e1];simp only[wv,e2];exact hv rfl rfl _ (by simp only[RV];exact⟨_,Bt.2 r2,rfl⟩)
 case Oo sz b x y=>
  replace h:=AN h;obtain⟨vx,h1,h⟩:=h;replace h:=AN h;obtain⟨vy,h2,h⟩:=h;obtain⟨v,h3,h4,h5⟩:=Cf h;obtain⟨vx',e1,r1⟩:=Av he h1;obtain⟨vy',e2,r2⟩:=Av he h2;rw[e1,e2];exact eF hs h3 r1 r2 (hv h4 h5)
 case alloc z=>
  replace h:=AW h;obtain⟨h0,h⟩:=h;obtain⟨h3,h4⟩:=St.IM h;cases h4;intro n hn;obtain⟨ρ',q1,q2,q3⟩:=hs.new h3 hn 0 (o:= .cs z) (o':= .cs z) ⟨_,Bt.1 (RL.pure z h0),rfl⟩;exact hvr rfl ρ' _ _ q1 (by simp only[RV];exact⟨_,q2,rfl⟩) q3
 case build z parts=>
  replace h:=AW h;obtain⟨h0,h⟩:=h;replace h:=AN h;obtain⟨cs,h1,h⟩:=h;cases h;obtain⟨cs',e1,r1⟩:=Re he h1 (Bt.1 (RL.pure z h0));rw[e1];exact hv rfl rfl _ (by simp only[RV];exact⟨_,Bt.2 r1,rfl⟩)
 case AY b len z parts=>
  replace h:=AW h;obtain⟨h0,h⟩:=h;replace h:=AN h;obtain⟨cs,h1,h⟩:=h;cases h;obtain⟨cs',e1,r1⟩:=Rf he h1 (F2.rep (Bt.1 (RL.pure z h0)) len);rw[e1];exact hv rfl rfl _ (by simp only[RV];exact⟨_,Fu.2 r1,rfl⟩)
 case load agg x=>
  replace h:=AN h;obtain⟨vx,h1,h⟩:=h;obtain⟨v,h3,h4,h5⟩:=Cf h;obtain⟨vx',e1,r1⟩:=Av he h1;rw[e1];exact Ux hs h3 r1 (hv h4 h5)
 case store sz a x=>
  replace h:=AN h;obtain⟨vx,h1,h⟩:=h;replace h:=AN h;obtain⟨vy,h2,h⟩:=h;obtain⟨vx',e1,r1⟩:=Av he h1;obtain⟨vy',e2,r2⟩:=Av he h2;obtain⟨h3,h4⟩:=hu h;rw[e1,e2];exact Zs hs h3 r1 r2 h4
 case Hj off x=>
  replace h:=AN h;obtain⟨vx,h1,h⟩:=h;obtain⟨v,h3,h4,h5⟩:=Cf h;obtain⟨vx',e1,r1⟩:=Av he h1;rw[e1];exact Zx h3 r1 (hv h4 h5)
 case field agg off x=>
  replace h:=AN h;obtain⟨vx,h1,h⟩:=h;obtain⟨vx',e1,r1⟩:=Av he h1;rw[e1];split at h
  ·obtain⟨v,h3,h4,h5⟩:=Cf h
   obtain⟨c,g1,rfl⟩:=r1;exact Ll h3 (Bt.1 g1) (hv h4 h5)
  ·cases h
 case Bi sz arr x i=>
  replace h:=AN h;obtain⟨vx,h1,h⟩:=h;replace h:=AN h;obtain⟨vy,h2,h⟩:=h;obtain⟨v,h3,h4,h5⟩:=Cf h;obtain⟨vx',e1,r1⟩:=Av he h1;obtain⟨vy',e2,r2⟩:=Av he h2;rw[e1,e2];exact Zw h3 r1 r2 (hv h4 h5)
 case index len sz agg x i=>
  replace h:=AN h;obtain⟨vx,h1,h⟩:=h;replace h:=AN h;obtain⟨vy,h2,h⟩:=h;obtain⟨v,h3,h4,h5⟩:=Cf h;obtain⟨vx',e1,r1⟩:=Av he h1;obtain⟨vy',e2,r2⟩:=Av he h2;rw[e1,e2];exact Zv h3 r1 r2 (hv h4 h5)
 case slice sz x lo hi mx=>
  replace h:=AN h;obtain⟨vx,h1,h⟩:=h;replace h:=AN h;obtain⟨l,h2,h⟩:=h;replace h:=AN h;obtain⟨hh,h3,h⟩:=h;replace h:=AN h;obtain⟨m,h4,h⟩:=h;obtain⟨v,h5,h6⟩:=Lw h;obtain⟨vx',e1,r1⟩:=Av he h1;obtain⟨l',e2,r2⟩:=Mw he h2;obtain⟨hh',e3,r3⟩:=Mw he h3;obtain⟨m',e4,r4⟩:=Mw he h4;rw[e1,e2,e3,e4];exact Zt hs h5 r1 r2 r3 r4 (hvr h6)
 case len x=>
  replace h:=AN h;obtain⟨vx,h1,h⟩:=h;obtain⟨v,h3,h4,h5⟩:=Cf h;obtain⟨vx',e1,r1⟩:=Av he h1;rw[e1];exact l6 h3 r1 (hv h4 h5)
 case R6 x=>
  replace h:=AN h;obtain⟨vx,h1,h⟩:=h;obtain⟨v,h3,h4,h5⟩:=Cf h;obtain⟨vx',e1,r1⟩:=Av he h1;rw[e1];exact eC hs h3 r1 (hv h4 h5)
 case QP x i=>
  replace h:=AN h;obtain⟨vx,h1,h⟩:=h;replace h:=AN h;obtain⟨vi,h2,h⟩:=h;obtain⟨v,h3,h4,h5⟩:=Cf h;obtain⟨vx',e1,r1⟩:=Av he h1;obtain⟨vi',e2,r2⟩:=Av he h2;rw[e1,e2];exact dz h3 r1 r2 (hv h4 h5)
 case str x=>
  replace h:=AN h;obtain⟨vx,h1,h⟩:=h;obtain⟨v,h3,h4,h5⟩:=Cf h;obtain⟨vx',e1,r1⟩:=Av he h1;rw[e1];exact l5 hs h3 r1 (hv h4 h5)
 case append sz b x y=>
  replace h:=AN h;obtain⟨vx,h1,h⟩:=h;replace h:=AN h;obtain⟨vy,h2,h⟩:=h;obtain⟨v,h3,h4⟩:=Lw h;obtain⟨vx',e1,r1⟩:=Av he h1;obtain⟨vy',e2,r2⟩:=Av he h2;rw[e1,e2];exact W9 hs h3 r1 r2 (hvr h4)
 case copy sz x y=>
  replace h:=AN h;obtain⟨vx,h1,h⟩:=h;replace h:=AN h;obtain⟨vy,h2,h⟩:=h;obtain⟨v,h3,h4⟩:=Lw h;obtain⟨vx',e1,r1⟩:=Av he h1;obtain⟨vy',e2,r2⟩:=Av he h2;rw[e1,e2];exact eE hs h3 r1 r2 (hvs h4)
 case J6 x y=>
  replace h:=AN h;obtain⟨vx,h1,h⟩:=h;replace h:=AN h;obtain⟨vy,h2,h⟩:=h;obtain⟨vx',e1,r1⟩:=Av he h1;obtain⟨vy',e2,r2⟩:=Av he h2;rw[e1,e2];split at h
  ·rename_i ka a kb b
   simp only[RV]at r1 r2;subst r1;subst r2;obtain⟨h3,h4⟩:=AW h;cases h4;refine⟨of_decide_eq_true h3,?_⟩;have:=hv rfl rfl _ (RV.pure _ rfl);rw[O5]at this;by_cases e:a<b
   ·rw[if_pos e];rw[decide_eq_true e]at this;exact this
   ·rw[if_neg e];rw[decide_eq_false e]at this;exact this
  ·cases h
 case Nz x y=>
  replace h:=AN h;obtain⟨vx,h1,h⟩:=h;replace h:=AN h;obtain⟨vy,h2,h⟩:=h;obtain⟨vx',e1,r1⟩:=Av he h1;obtain⟨vy',e2,r2⟩:=Av he h2;rw[e1,e2];split at h
  ·rename_i ka a kb b
   simp only[RV]at r1 r2;subst r1;subst r2;obtain⟨h3,h4⟩:=AW h;cases h4;refine⟨of_decide_eq_true h3,?_⟩;have:=hv rfl rfl _ (RV.pure _ rfl);rw[O5]at this;by_cases e:b<a
   ·rw[if_pos e];rw[decide_eq_true e]at this;exact this
   ·rw[if_neg e];rw[decide_eq_false e]at this;exact this
  ·cases h
 case extract i x=>
  replace h:=AN h;obtain⟨vx,h1,h⟩:=h;obtain⟨vx',e1,r1⟩:=Av he h1;rw[e1];split at h
  ·obtain⟨v,h3,h4,h5⟩:=Cf h
   obtain⟨c,g1,rfl⟩:=r1;obtain⟨y,g2,g3⟩:=(Bt.1 g1).get h3;simp only[wv,g2];exact hv h4 h5 _ g3
  ·cases h
 case Et x=>
  replace h:=AN h;obtain⟨vx,h1,h⟩:=h;obtain⟨v,h3,h4,h5⟩:=Cf h;obtain⟨vx',e1,r1⟩:=Av he h1;rw[e1];exact Zu (K:=fun v=>k v σ) h3 r1 (hv h4 h5)
 case HX f first cap=>
  replace h:=AN h;obtain⟨vf,h1,h⟩:=h;replace h:=AN h;obtain⟨vc,h2,h⟩:=h;obtain⟨h3,h4⟩:=AW h;cases h4;obtain⟨vf',e1,r1⟩:=IV he h1;obtain⟨vc',e2,r2⟩:=IV he h2;rw[e1,e2];refine hv rfl rfl _ ?_;simp only[RV];exact⟨f,vf',vc',by cases f<;>first|rfl|(simp[Mb]at h3),Bt.2 r1,Bt.2 r2,rfl⟩
 case Fo t x=>
  replace h:=AN h;obtain⟨vx,h1,h⟩:=h;cases h;obtain⟨vx',e1,r1⟩:=Av he h1;rw[e1];exact hv rfl rfl _ (by simp only[RV];exact⟨_,r1,rfl⟩)
 case XM t z ok x=>
  replace h:=AN h;obtain⟨vx,h1,h⟩:=h;obtain⟨v,h3,h4,h5⟩:=Cf h;obtain⟨vx',e1,r1⟩:=Av he h1;rw[e1];exact lz (K:=fun v=>k v σ) h3 r1 (hv h4 h5)
 case panic x=>
  replace h:=AN h;obtain⟨vx,h1,h⟩:=h;obtain⟨vx',e1,r1⟩:=Av he h1;rw[e1];split at h
  ·rename_i t v
   obtain⟨v',g1,rfl⟩:=r1;cases h;exact hk ρ (.By (.FE t v')) σ (.refl _) ⟨_,by simp only[RV];exact⟨v',g1,rfl⟩,rfl⟩ hs
  ·cases h
 case call f args=>
  replace h:=AN h;obtain⟨vs,h1,h⟩:=h;obtain⟨vs',e1,r1⟩:=IV he h1;rw[e1];exact hcf f vs s r s' h ρ vs' σ r1 hs _ hk
 case fB len neg x y=>
  replace h:=AN h;obtain⟨vx,h1,h⟩:=h;replace h:=AN h;obtain⟨vy,h2,h⟩:=h;obtain⟨v,h3,h4,h5⟩:=Cf h;obtain⟨vx',e1,r1⟩:=Av he h1;obtain⟨vy',e2,r2⟩:=Av he h2;rw[e1,e2];exact l8 h3 r1 r2 (hv h4 h5)
 case Vo kind neg x=>
  replace h:=AN h;obtain⟨vx,h1,h⟩:=h;obtain⟨v,h3,h4,h5⟩:=Cf h;obtain⟨vx',e1,r1⟩:=Av he h1;rw[e1];exact l7 h3 r1 (hv h4 h5)
 case D3 sz b z x y=>
  replace h:=AN h;obtain⟨vx,h1,h⟩:=h;replace h:=AN h;obtain⟨vy,h2,h⟩:=h;obtain⟨v,h3,h4⟩:=Lw h;obtain⟨vx',e1,r1⟩:=Av he h1;obtain⟨vy',e2,r2⟩:=Av he h2;rw[e1,e2];exact Vd hs h3 r1 r2 (hvr h4)
 case Gw=>
  obtain⟨h3,h4⟩:=St.IM h;cases h4;intro n hn;obtain⟨ρ',q1,q2,q3⟩:=hs.new h3 hn 0 (o:= .map []) (o':= .map []) ⟨[],F2.nil,rfl⟩;exact hvr rfl ρ' _ _ q1 (by simp only[RV];exact⟨_,q2,rfl⟩) q3
 case lookup ks z ok m key=>
  replace h:=AN h;obtain⟨vx,h1,h⟩:=h;replace h:=AN h;obtain⟨vy,h2,h⟩:=h;obtain⟨v,h3,h4,h5⟩:=Cf h;obtain⟨vx',e1,r1⟩:=Av he h1;obtain⟨vy',e2,r2⟩:=Av he h2;rw[e1,e2];exact W8 hs h3 r1 r2 (hv h4 h5)
 case DQ ks m key x=>
  replace h:=AN h;obtain⟨vx,h1,h⟩:=h;replace h:=AN h;obtain⟨vy,h2,h⟩:=h;replace h:=AN h;obtain⟨vz,h3,h⟩:=h;obtain⟨vx',e1,r1⟩:=Av he h1;obtain⟨vy',e2,r2⟩:=Av he h2;obtain⟨vz',e3,r3⟩:=Av he h3;obtain⟨h4,h5⟩:=hu h;rw[e1,e2,e3];exact W7 hs h4 r1 r2 r3 h5
 case KO f args=>
  replace h:=AN h;obtain⟨vs,h1,h⟩:=h;obtain⟨v,h3,h4,h5⟩:=Cf h;obtain⟨vs',e1,r1⟩:=IV he h1;obtain⟨p1,p2,p3⟩:=hcp f vs v h3;rw[e1,fW r1 p1];exact⟨v,p3,hv h4 h5 _ (RV.pure _ p2)⟩
 case CA x args=>
  replace h:=AN h;obtain⟨vx,h1,h⟩:=h;replace h:=AN h;obtain⟨vs,h2,h⟩:=h;obtain⟨vx',e1,r1⟩:=Av he h1;obtain⟨vs',e2,r2⟩:=IV he h2;rw[e1,e2];exact hcv vx vs s r s' h ρ vx' vs' σ r1 r2 hs _ hk
 case inv tab x args=>
  replace h:=AN h;obtain⟨vx,h1,h⟩:=h;replace h:=AN h;obtain⟨vs,h2,h⟩:=h;obtain⟨vx',e1,r1⟩:=Av he h1;obtain⟨vs',e2,r2⟩:=IV he h2;rw[e1,e2];split at h
  ·rename_i t v
   obtain⟨v',g1,rfl⟩:=r1;obtain⟨f,h3,h4⟩:=AN h;simp only[wv,ws,Bx,h3];exact hcf f (v::vs) s r s' h4 ρ (v'::vs') σ (F2.cons g1 r2) hs _ hk
  ·cases h
 all_goals cases h
end Go.Gl
namespace Go.Gl
variable {P:Program} {ρ ρ':Ren} {σ:AH} {env env₀:Env}
def I4 (cf:CF) (cv:CV) (cp:CP) (o:AU) (env:Env) (s:St):Option (R×St):=
 match o.guard with
 | none=>F9 cf cv cp o.op env s
 | some (g,b)=>match get g env with
   | some (.b t)=>bif t==b then F9 cf cv cp o.op env s else some (.ret (.t []),s)
   | some (.t [])=>some (.ret (.t []),s)
   | _=>none
theorem Lh {cf:CF} {cv:CV} {cp:CP} (hcf:Kv P cf) (hcv:Jp P cv) (hcp:Mp P cp) {o:AU} {s s':St} {r:R} (h:I4 cf cv cp o env s=some (r,s')) (he:RE ρ env env₀) (hs:SR P ρ s σ) {k kp:V→AH→Prop}
 (hk: ∀ρ' r' σ',ρ.le ρ'→mh ρ' r r'→SR P ρ' s' σ'→qk k kp r' σ'):IF P o env₀ σ k kp:=by
 unfold I4 at h;unfold IF
 have skip:some (R.ret (.t []),s)=some (r,s')→k (.t []) σ:=fun e=>by
  cases e;exact hk ρ (.ret (.t [])) σ (.refl _) ⟨_,RV.pure _ rfl,rfl⟩ hs
 split at h
 ·rename_i hg
  rw[hg];exact cI hcf hcv hcp h he hs hk
 ·rename_i g b hg
  rw[hg];split at h
  ·rename_i t ht
   obtain⟨v',h1,h2⟩:=he.get ht;simp only[RV]at h2;subst h2;simp only[h1];refine⟨fun e=>?_,fun e=>?_⟩
   ·subst e
    rw[beq_self_eq_true]at h;exact cI hcf hcv hcp h he hs hk
   ·subst e
    have:((!b)==b)=false:=by cases b<;>rfl
    rw[this]at h;exact skip h
  ·rename_i ht
   obtain⟨v',h1,h2⟩:=he.get ht;have e:=RV.fL h2 rfl;subst e;simp only[h1];exact skip h
  ·cases h
def IN {β:Type} (v:V) (K:V→β):β:=
 match v with
 | .i k (.ofNat 0)=>K (.i k (.ofNat 0))
 | .i k (.ofNat (m+1))=>K (.i k (.ofNat (m+1)))
 | .i k (.negSucc 0)=>K (.i k (.negSucc 0))
 | .i k (.negSucc (m+1))=>K (.i k (.negSucc (m+1)))
 | .b true=>K (.b true)
 | .b false=>K (.b false)
 | v=>K v
theorem H5 {β:Type} (v:V) (K:V→β):IN v K=K v:=by
 unfold IN;split<;>rfl
abbrev Rs:=Option (Ah×Env×St)
def Tl (cf:CF) (cv:CV) (cp:CP):List AU→Env→St→Rs
 | [],env,s=>some (.normal,env,s)
 | o::r,env,s=>match I4 cf cv cp o env s with
   | some (.ret v,s')=>IN v fun v=>Tl cf cv cp r (put o.dst v env) s'
   | some (.By v,s')=>some (.By v,env,s')
   | none=>none
theorem RE.put (h:RE ρ env env₀) {v v':V} (hv:RV ρ v v') (d:Option Nat):RE ρ (Gl.put d v env) (Gl.put d v' env₀):=by
 cases d with
 | none=>exact h
 | some d=>exact F2.cons ⟨rfl,hv⟩ h
theorem RE.prune (h:RE ρ env env₀): ∀l:List Nat,RE ρ (Gl.prune l env) (Gl.prune l env₀)
 | []=>F2.nil
 | k ::r=>by
   simp only[Gl.prune];cases hg:Gl.get k env with
   | none=>rw[h.zX hg];exact RE.prune h r
   | some v=>
     obtain⟨v',h1,h2⟩:=h.get hg;rw[h1];exact F2.cons ⟨rfl,h2⟩ (RE.prune h r)
theorem RE.args: ∀ {vs vs':List V} {i:Nat},LI ρ vs vs'→RE ρ (A8 i vs) (A8 i vs')
 | [],_,_,h=>by cases h;exact F2.nil
 | _::_,_,i,⟨y,ys,h1,h2,e⟩=>by subst e;exact F2.cons ⟨rfl,h1⟩ (RE.args h2)
theorem RE.binds: ∀ {ps:List Nat} {vs vs':List V} {env env₀:Env},LI ρ vs vs'→RE ρ env env₀→RE ρ (E7 ps vs env) (E7 ps vs' env₀)
 | [],vs,vs',_,_,_,he=>by cases vs<;>cases vs'<;>exact he
 | p::ps,[],_,_,_,h,he=>by cases h;exact he
 | p::ps,_::_,_,_,_,⟨y,ys,h1,h2,e⟩,he=>by subst e;simp only[E7];exact RE.binds h2 (RE.put he h1 (some p))
theorem YO {cf:CF} {cv:CV} {cp:CP} (hcf:Kv P cf) (hcv:Jp P cv) (hcp:Mp P cp): ∀ {ops:List AU} {env env₀:Env} {ρ:Ren} {σ:AH} {s s':St} {ex:Ah} {env':Env},Tl cf cv cp ops env s=some (ex,env',s')→RE ρ env env₀→SR P ρ s σ→
 ∀ {K:Env→AH→Prop} {kp:Env→V→AH→Prop},(∀ρ' env₁ σ',ρ.le ρ'→ex= .normal→RE ρ' env' env₁→SR P ρ' s' σ'→K env₁ σ')→(∀ρ' v v' env₁ σ',ρ.le ρ'→ex= .By v→RV ρ' v v'→RE ρ' env' env₁→SR P ρ' s' σ'→kp env₁ v' σ')→
 (∀id,ex≠ .exit id)∧ex≠ .ret∧J8 P ops K kp env₀ σ
 | [],env,env₀,ρ,σ,s,s',ex,env',h,he,hs,K,kp,U,hp=>by cases h;exact⟨fun _ e=>(by cases e),fun e=>(by cases e),U ρ _ _ (.refl _) rfl he hs⟩
 | o :: r, env,env₀,ρ,σ,s,s',ex,env',h,he,hs,K,kp,U,hp=>by
   simp only[J8]
   have h':(match I4 cf cv cp o env s with
    | some (.ret v,s')=>IN v fun v=>Tl cf cv cp r (put o.dst v env) s'
    | some (.By v,s')=>some (.By v,env,s')
    | none=>none)=some (ex,env',s'):=h
   split at h'
   ·rename_i v s1 h1
    rw[H5]at h'
    have base: ∀ρ1 v' σ1,ρ.le ρ1→RV ρ1 v v'→SR P ρ1 s1 σ1→(∀id,ex≠ .exit id)∧ex≠ .ret∧J8 P r K kp (put o.dst v' env₀) σ1:=fun ρ1 v' σ1 q1 q2 q3=>
     YO hcf hcv hcp h' ((he.mono q1).put q2 o.dst) q3 (fun ρ' e₁ σ' p1 p2 p3 p4=>U ρ' e₁ σ' (q1.trans p1) p2 p3 p4) (fun ρ' v v' e₁ σ' p1 p2 p3 p4 p5=>hp ρ' v v' e₁ σ' (q1.trans p1) p2 p3 p4 p5)
    have hx : (∀id,ex≠ .exit id)∧ex≠ .ret:=by
     clear base U hp
     have gen: ∀(ops:List AU) (env:Env) (s:St),Tl cf cv cp ops env s=some (ex,env',s')→(∀id,ex≠ .exit id)∧ex≠ .ret:=by
      intro ops
      induction ops with
      | nil=>intro env s h;cases h;exact⟨fun _ e=>(by cases e),fun e=>(by cases e)⟩
      | cons o r ih=>
        intro env s h
        have h':(match I4 cf cv cp o env s with
         | some (.ret v,s')=>IN v fun v=>Tl cf cv cp r (put o.dst v env) s'
         | some (.By v,s')=>some (.By v,env,s')
         | none=>none)=some (ex,env',s'):=h
        split at h'
        ·rw[H5]at h';exact ih _ _ h'
        ·cases h';exact⟨fun _ e=>(by cases e),fun e=>(by cases e)⟩
        ·cases h'
     exact gen _ _ _ h'
    refine⟨hx.1,hx.2,Lh hcf hcv hcp h1 he hs fun ρ1 r1 σ1 q1 q2 q3=>?_⟩;obtain⟨v',q4,rfl⟩:=q2;exact(base ρ1 v' σ1 q1 q4 q3).2.2
   ·rename_i v s1 h1
    cases h';refine⟨fun _ e=>(by cases e),fun e=>(by cases e),Lh hcf hcv hcp h1 he hs fun ρ1 r1 σ1 q1 q2 q3=>?_⟩;obtain⟨v',q4,rfl⟩:=q2;exact hp ρ1 v v' _ σ1 q1 rfl q4 (he.mono q1) q3
   ·cases h'
def fC (cf:CF) (cv:CV) (cp:CP) (re:List AU) (env:Env) (s:St):Bool:=
 re.all fun x=>match I4 cf cv cp x env s with
  | some (.ret u,_)=>match x.dst with
    | none=>true
    | some d=>match get d env with|some w=>Ey u w|none=>false
  | _=>false
def Qm (cf:CF) (cv:CV) (cp:CP):List Ce→Env→St→Rs
 | [],env,s=>some (.normal,env,s)
 | d::r,env,s=>match I4 cf cv cp d.o env s with
   | some (.ret v,s')=>IN v fun v=>bif fC cf cv cp d.re (put d.o.dst v env) s' then Qm cf cv cp r (put d.o.dst v env) s' else none
   | some (.By v,s')=>some (.By v,[],s')
   | none=>none
theorem cH {cf:CF} {cv:CV} {cp:CP} (hcf:Kv P cf) (hcv:Jp P cv) (hcp:Mp P cp) {s:St} (he:RE ρ env env₀) (hs:SR P ρ s σ): ∀ {re:List AU},fC cf cv cp re env s=true→Ek P re env₀ σ
 | [],_=>trivial
 | x ::r,h=>by
   have h':((match I4 cf cv cp x env s with
    | some (.ret u,_)=>match x.dst with
      | none=>true
      | some d=>match get d env with|some w=>Ey u w|none=>false
    | _=>false)&&fC cf cv cp r env s)=true:=h
   simp only[Bj]at h';refine⟨?_,cH hcf hcv hcp he hs h'.2⟩;have h1:=h'.1;split at h1
   ·rename_i u s1 hu
    refine Lh hcf hcv hcp hu he hs fun ρ1 r1 σ1 q1 q2 q3=>?_
    obtain⟨u',q4,rfl⟩:=q2;intro d hd;rw[hd]at h1;simp only at h1;split at h1
    ·rename_i w hw
     obtain⟨w',g1,g2⟩:=he.get hw;have e:=OX _ _ h1;subst e;rw[g1,RV.fn u w' u' (RV.mono q1 _ _ g2) q4]
    ·cases h1
   ·cases h1
theorem PU {cf:CF} {cv:CV} {cp:CP} (hcf:Kv P cf) (hcv:Jp P cv) (hcp:Mp P cp): ∀ {ops:List Ce} {env env₀:Env} {ρ:Ren} {σ:AH} {s s':St} {ex:Ah} {env':Env},Qm cf cv cp ops env s=some (ex,env',s')→RE ρ env env₀→SR P ρ s σ→
 ∀ {K:Env→AH→Prop} {kp:V→AH→Prop},(∀ρ' env₁ σ',ρ.le ρ'→ex= .normal→RE ρ' env' env₁→SR P ρ' s' σ'→K env₁ σ')→(∀ρ' v v' σ',ρ.le ρ'→ex= .By v→env'= []→RV ρ' v v'→SR P ρ' s' σ'→kp v' σ')→
 De P ops K kp env₀ σ
 | [],env,env₀,ρ,σ,s,s',ex,env',h,he,hs,K,kp,U,hp=>by cases h;exact U ρ _ _ (.refl _) rfl he hs
 | d ::r,env,env₀,ρ,σ,s,s',ex,env',h,he,hs,K,kp,U,hp=>by
   simp only[De]
   have h':(match I4 cf cv cp d.o env s with
    | some (.ret v,s')=>IN v fun v=>bif fC cf cv cp d.re (put d.o.dst v env) s' then Qm cf cv cp r (put d.o.dst v env) s' else none
    | some (.By v,s')=>some (.By v,[],s')
    | none=>none)=some (ex,env',s'):=h
   split at h'
   ·rename_i v s1 h1
    rw[H5]at h';obtain⟨h2,h3⟩:=AW h';refine Lh hcf hcv hcp h1 he hs fun ρ1 r1 σ1 q1 q2 q3=>?_
    obtain⟨v',q4,rfl⟩:=q2;have he':=(he.mono q1).put q4 d.o.dst;exact⟨cH hcf hcv hcp he' q3 h2,PU hcf hcv hcp h3 he' q3 (fun ρ' e₁ σ' p1 p2 p3 p4=>U ρ' e₁ σ' (q1.trans p1) p2 p3 p4) (fun ρ' v v' σ' p1 p2 p3 p4 p5=>hp ρ' v v' σ' (q1.trans p1) p2 p3 p4 p5)⟩
   ·rename_i v s1 h1
    cases h';refine Lh hcf hcv hcp h1 he hs fun ρ1 r1 σ1 q1 q2 q3=>?_
    obtain⟨v',q4,rfl⟩:=q2;exact hp ρ1 v v' σ1 q1 rfl rfl q4 q3
   ·cases h'
def Kb {α β:Type} (f:α→Option β):List α→Option (List β)
 | []=>some []
 | x::r=>ob (f x) fun y=>ob (Kb f r) fun ys=>some (y::ys)
def I6 (s:St):Nat→V→Option V
 | 0,_=>none
 | d + 1,v=>bif Ax v then some v else
   match v with
   | .p n 0=>match s.t.get n with
     | some (.cs vs)=>ob (Kb (I6 s d) vs) fun us=>some (.rp us)
     | _=>none
   | .sl n len _=>match s.t.get n with
     | some (.arr _ es)=>bif Nat.beq len es.length then ob (Kb (Kb (I6 s d)) es) fun us=>some (.l us false)else none
     | _=>none
   | .a cs=>ob (Kb (I6 s d) cs) fun us=>some (.a us)
   | .t cs=>ob (Kb (I6 s d) cs) fun us=>some (.t us)
   | .rp cs=>ob (Kb (I6 s d) cs) fun us=>some (.rp us)
   | .l es f=>ob (Kb (Kb (I6 s d)) es) fun us=>some (.l us f)
   | .FE t x=>ob (I6 s d x) fun u=>some (.FE t u)
   | _=>none
def Ol (s:St):Nat→V→List Nat
 | 0,_=>[]
 | d + 1,v=>bif Ax v then []else
   match v with
   | .p n 0=>match s.t.get n with
     | some (.cs vs)=>n::vs.flatMap (Ol s d)
     | _=>[]
   | .sl n _ _=>match s.t.get n with
     | some (.arr _ es)=>n::es.flatMap fun e=>e.flatMap (Ol s d)
     | _=>[]
   | .a cs=>cs.flatMap (Ol s d)
   | .t cs=>cs.flatMap (Ol s d)
   | .rp cs=>cs.flatMap (Ol s d)
   | .l es _=>es.flatMap fun e=>e.flatMap (Ol s d)
   | .FE _ x=>Ol s d x
   | _=>[]
def PC (s:St):List Nat→St
 | []=>s
 | i::r=>match s.t.get i with
   | some _=>Tr.put none BO s.t i fun t=>PC ⟨s.nx,t⟩ r
   | none=>PC s r
theorem NF: ∀ {l:List Nat} {s:St} {σ:AH},SR P ρ s σ→ ∃σ',SR P ρ (PC s l) σ'∧Sub σ' σ∧ ∀i∈l,∀m,ρ i=some m→(s.t.get i).isSome=true→σ' m.1=none
 | [],s,σ,h=>⟨σ,h,Sub.refl _,fun _ h=>by cases h⟩
 | i ::r,s,σ,h=>by
   simp only[PC];split
   ·rename_i o hg
    rw[Tr.put_eq];obtain⟨m,hm,_⟩:=h.get i o hg;obtain⟨σ',h1,h2,h3⟩:=NF (l:=r) (h.del hg hm);have hsub:Sub (del σ m.1) σ:=GI σ m.1;refine⟨σ',h1,h2.trans hsub,fun j hj m' hm' hl=>?_⟩;by_cases e:j=i
    ·subst e
     rw[hm]at hm';cases hm';exact h2.none (Dl σ m.1)
    ·rcases IC.1 hj with e'|hj
     ·exact absurd e' e
     ·refine h3 j hj m' hm' ?_
      show((Tr.set none BO s.t i).get j).isSome=true;rw[Tr.Ec _ _ _ (Ys (h.lt hm)),if_neg e];exact hl
   ·rename_i hg
    obtain⟨σ',h1,h2,h3⟩:=NF (l:=r) h;refine⟨σ',h1,h2,fun j hj m' hm' hl=>?_⟩;rcases IC.1 hj with e'|hj
    ·subst e';rw[hg]at hl;cases hl
    ·exact h3 j hj m' hm' hl
theorem Hs {f:V→Option V} {g:V→List Nat} {s:St} {σ σ':AH} (hf: ∀v v' u,f v=some u→RV ρ v v'→(∀i∈g v,∀m,ρ i=some m→(s.t.get i).isSome=true→σ' m.1=none)→HE σ σ' v' u): ∀ {vs vs' us:List V},Kb f vs=some us→LI ρ vs vs'→
 (∀i∈vs.flatMap g,∀m,ρ i=some m→(s.t.get i).isSome=true→σ' m.1=none)→E2 σ σ' vs' us
 | [],_,_,h,h',_=>by cases h;cases h';exact .nil
 | x::r,_,us,h,⟨y,ys,h1,h2,e⟩,hd=>by
   subst e;replace h:=AN h;obtain⟨u,h3,h⟩:=h;replace h:=AN h;obtain⟨us,h4,h⟩:=h;cases h;exact .cons (hf _ _ _ h3 h1 fun i hi=>hd i (by simp only[List.flatMap_cons,F8];exact .inl hi)) (Hs hf h4 h2 fun i hi=>hd i (by simp only[List.flatMap_cons,F8];exact .inr hi))
theorem M4 {f:V→Option V} {g:V→List Nat} {s:St} {σ σ':AH} (hf: ∀v v' u,f v=some u→RV ρ v v'→(∀i∈g v,∀m,ρ i=some m→(s.t.get i).isSome=true→σ' m.1=none)→HE σ σ' v' u): ∀ {vs vs' us:List (List V)},Kb (Kb f) vs=some us→aQ ρ vs vs'→
 (∀i∈vs.flatMap (fun e=>e.flatMap g),∀m,ρ i=some m→(s.t.get i).isSome=true→σ' m.1=none)→GS σ σ' vs' us
 | [],_,_,h,h',_=>by cases h;cases h';exact .nil
 | x::r,_,us,h,⟨y,ys,h1,h2,e⟩,hd=>by
   subst e;replace h:=AN h;obtain⟨u,h3,h⟩:=h;replace h:=AN h;obtain⟨us,h4,h⟩:=h;cases h;exact .cons (Hs hf h3 h1 fun i hi=>hd i (by simp only[List.flatMap_cons,F8];exact .inl hi)) (M4 hf h4 h2 fun i hi=>hd i (by simp only[List.flatMap_cons,F8];exact .inr hi))
theorem PR {s:St} (hs:SR P ρ s σ) {σ':AH}: ∀(d:Nat) (v v' u:V),I6 s d v=some u→RV ρ v v'→(∀i∈Ol s d v,∀m,ρ i=some m→(s.t.get i).isSome=true→σ' m.1=none)→HE σ σ' v' u
 | 0,_,_,_,h,_,_=>by cases h
 | d + 1,v,v',u,h,hv,hd=>by
   have ih:=PR hs (σ':=σ') d;simp only[I6]at h;simp only[Ol]at hd;cases hp:Ax v with
   | true=>
     rw[hp]at h;cases h;rw[RV.fL hv hp];exact .refl _
   | false=>
     rw[hp]at h hd;simp only[cond_false]at h hd;split at h
     ·obtain⟨m,g1,rfl⟩:=hv
      split at h
      ·rename_i vs hg
       replace h:=AN h;obtain⟨us,h1,h⟩:=h;cases h;simp only[hg]at hd;obtain⟨o',g2,vs',g3,rfl⟩:=hs.at hg g1;exact .cs g2 (hd _ (.head _) m g1 (by rw[hg];rfl)) (Hs ih h1 g3 fun i hi=>hd i (.tail _ hi))
      ·cases h
     ·obtain⟨m,g1,rfl⟩:=hv
      split at h
      ·rename_i es hg
       replace h:=AW h;obtain⟨h0,h⟩:=h;replace h:=AN h;obtain⟨us,h1,h⟩:=h;cases h;simp only[hg]at hd;obtain⟨o',g2,es',g3,rfl⟩:=hs.at hg g1;exact .arr g2 (hd _ (.head _) m g1 (by rw[hg];rfl)) (by rw[g3.len];exact C9 h0) (M4 ih h1 g3 fun i hi=>hd i (.tail _ hi))
      ·cases h
     ·replace h:=AN h;obtain⟨us,h1,h⟩:=h
      cases h;obtain⟨c,g1,rfl⟩:=hv;exact .a (Hs ih h1 (Bt.1 g1) hd)
     ·replace h:=AN h;obtain⟨us,h1,h⟩:=h
      cases h;obtain⟨c,g1,rfl⟩:=hv;exact .t (Hs ih h1 (Bt.1 g1) hd)
     ·replace h:=AN h;obtain⟨us,h1,h⟩:=h
      cases h;obtain⟨c,g1,rfl⟩:=hv;exact .rp (Hs ih h1 (Bt.1 g1) hd)
     ·replace h:=AN h;obtain⟨us,h1,h⟩:=h
      cases h;obtain⟨c,g1,rfl⟩:=hv;exact .l (fun e=>e) (M4 ih h1 (Fu.1 g1) hd)
     ·replace h:=AN h;obtain⟨us,h1,h⟩:=h
      cases h;obtain⟨c,g1,rfl⟩:=hv;exact .FE (ih _ _ _ h1 g1 hd)
     ·cases h
theorem v7 {s:St} (hs:SR P ρ s σ) (d:Nat) (v v' u:V) (h:I6 s d v=some u) (hv:RV ρ v v'):HE σ emp v' u:=PR hs d v v' u h hv fun _ _ _ _ _=>rfl
theorem GO {f:V→Option V} (hf: ∀v u,f v=some u→Ax u=true): ∀ {vs us:List V},Kb f vs=some us→BX us=true
 | [],_,h=>by cases h;rfl
 | x::r,us,h=>by
   replace h:=AN h;obtain⟨u,h3,h⟩:=h;replace h:=AN h;obtain⟨us,h4,h⟩:=h;cases h;simp only[BX,hf _ _ h3,GO hf h4,Bool.and_self]
theorem K7 {f:V→Option V} (hf: ∀v u,f v=some u→Ax u=true): ∀ {vs us:List (List V)},Kb (Kb f) vs=some us→Qi us=true
 | [],_,h=>by cases h;rfl
 | x::r,us,h=>by
   replace h:=AN h;obtain⟨u,h3,h⟩:=h;replace h:=AN h;obtain⟨us,h4,h⟩:=h;cases h;simp only[Qi,GO hf h3,K7 hf h4,Bool.and_self]
theorem Us (s:St): ∀(d:Nat) (v u:V),I6 s d v=some u→Ax u=true
 | 0,_,_,h=>by cases h
 | d + 1,v,u,h=>by
   have ih:=Us s d;simp only[I6]at h;cases hp:Ax v with
   | true=>rw[hp]at h;cases h;exact hp
   | false=>
     rw[hp]at h;simp only[cond_false]at h;split at h
     ·split at h
      ·replace h:=AN h;obtain⟨us,h1,h⟩:=h
       cases h;simp only[Ax];exact GO ih h1
      ·cases h
     ·split at h
      ·replace h:=AW h;obtain⟨h0,h⟩:=h
       replace h:=AN h;obtain⟨us,h1,h⟩:=h;cases h;simp only[Ax];exact K7 ih h1
      ·cases h
     ·replace h:=AN h;obtain⟨us,h1,h⟩:=h
      cases h;simp only[Ax];exact GO ih h1
     ·replace h:=AN h;obtain⟨us,h1,h⟩:=h
      cases h;simp only[Ax];exact GO ih h1
     ·replace h:=AN h;obtain⟨us,h1,h⟩:=h
      cases h;simp only[Ax];exact GO ih h1
     ·replace h:=AN h;obtain⟨us,h1,h⟩:=h
      cases h;simp only[Ax];exact K7 ih h1
     ·replace h:=AN h;obtain⟨us,h1,h⟩:=h
      cases h;simp only[Ax];exact ih _ _ h1
     ·cases h
def Tj:Nat:=60
def AAM:Option (R×St)→Option (R×St)
 | some (.ret v,s)=>ob (I6 s Tj v) fun u=>some (.ret u,PC s (Ol s Tj v))
 | r=>r
theorem Be.I6 {f:FuncId} {args:List V} {σ:AH} {Q Q':R→AH→Prop} (h:Be P f args σ Q) (hq: ∀r σ',Q r σ'→(∃v vf σ'',r= .ret v∧Sub σ'' σ'∧HE σ' σ'' v vf∧Q' (.ret vf) σ'')∨Q' r σ'):Be P f args σ Q':=
 ⟨h.1,fun Λ w cs h1 h2=>Calls.mono (h.2 Λ w cs h1 h2) fun e w' ⟨r,σ',q1,q2,q3,q4⟩=>by
  rcases hq r σ' q1 with⟨v,vf,σ'',rfl,p1,p2,p3⟩|h
  ·obtain⟨c,rfl,q5⟩:=q2
   exact⟨.ret vf,σ'',p3,⟨c,rfl,p2.rel q3 p1 q5⟩,q3.drop p1,q4.trans (CS.drop w' p1)⟩
  ·exact⟨r,σ',h,q2,q3,q4⟩⟩
inductive BF where
 | fn (n:Nat) (ac:AI) (AK:List RS)
 | y7 (n:Nat) (aA:AI) (ops:List AU) (x:B1) (aC:AI) (AK:List RS) (l1 l2:List Nat)
 | y3 (n:Nat) (k:Nat) (ops:List AU) (ac:AI) (l:List Nat)
 | fI (n:Nat) (ac:AI) (AK:List RS)
 | Vx (c:List V→St→Option (R×St))
 | pld (n:Nat) (ac:AI)
def AX (P:Program) (f:FuncId):BF→Prop
 | .fn n ac AK=> ∀(args:List V) (σ:AH) (Q:R→AH→Prop),args.length≤n→T P ac (Tw AK Q) (A8 0 args) σ→Be P f args σ Q
 | .fI n ac AK=> ∀(args:List V) (σ:AH) (Q:R→AH→Prop),args.length≤n→T P ac (Tw AK Q) (A8 0 args) σ→Be P f args σ Q
 | .y7 n aA ops x aC AK l1 l2=> ∀(args:List V) (σ:AH) (Q:R→AH→Prop),args.length≤n→T P (.seq l1 aA (.Ak ops)) (DE (SB P x l2 aC AK Q)) (A8 0 args) σ→Be P f args σ Q
 | .y3 n k ops ac l=> ∀(args:List V) (m:Option V) (σ:AH) (Q:AH→Prop),args.length≤n→T P (.seq l (.Ak ops) ac) (N5 Q) (put (some k) (m.getD .Du) (A8 0 args)) σ→He P f args m σ Q
 | .Vx c=> ∀vs s r s',c vs s=some (r,s')→ ∀ρ vs' σ,LI ρ vs vs'→SR P ρ s σ→ ∀Q:R→AH→Prop,(∀ρ' r' σ',ρ.le ρ'→mh ρ' r r'→SR P ρ' s' σ'→Q r' σ')→Be P f vs' σ Q
 | .pld n ac=> ∀(args:List V) (σ:AH) (Q:AH→Prop),args.length≤n→T P ac (N5 Q) (A8 0 args) σ→He P f args none σ Q
abbrev J3:=FuncId→Option BF
def LX (P:Program) (tab:J3):Prop:= ∀f fs,tab f=some fs→AX P f fs
abbrev DV:=FuncId→List (List V×V)
def DJ (P:Program) (memo:DV):Prop:= ∀f,∀m∈memo f,BX m.1=true∧Ax m.2=true∧Pure P f m.1 m.2
def XN (s:St) (env:Env):List RS→Option (List V)
 | []=>some []
 | .t n::r=>ob (get n env) fun v=>ob (XN s env r) fun vs=>some (v::vs)
 | .c n g::r=>ob (get n env) fun a=>ob (NU s g a) fun v=>ob (XN s env r) fun vs=>some (v::vs)
theorem Mh {s:St} (he:RE ρ env env₀) (hs:SR P ρ s σ): ∀ {l:List RS} {vs:List V},XN s env l=some vs→ ∀ {K:List V→Prop},(∀vs',LI ρ vs vs'→K vs')→TW σ env₀ l K
 | [],vs,h,K,U=>by cases h;exact U _ F2.nil
 | .t n::r,vs,h,K,U=>by
   replace h:=AN h;obtain⟨v,h1,h⟩:=h;replace h:=AN h;obtain⟨us,h2,h⟩:=h;cases h;obtain⟨v',e1,e2⟩:=he.get h1;simp only[TW,e1,E8];exact Mh he hs h2 fun us' hu=>U _ (F2.cons e2 hu)
 | .c n g::r,vs,h,K,U=>by
   replace h:=AN h;obtain⟨a,h1,h⟩:=h;replace h:=AN h;obtain⟨v,h3,h⟩:=h;replace h:=AN h;obtain⟨us,h2,h⟩:=h;cases h;obtain⟨v',e1,e2⟩:=he.get h1;simp only[TW,e1,E8];exact Ux hs h3 e2 fun w hw=>Mh he hs h2 fun us' hu=>U _ (F2.cons hw hu)
theorem OH {vs vs':List V} (h:LI ρ vs vs'):RV ρ (Ex vs) (Ex vs'):=by
 match vs,vs',h with
 | [],_,h=>cases h;simp only[Ex,RV];exact⟨[],Bt.2 F2.nil,rfl⟩
 | [v],_,⟨y,ys,h1,h2,e⟩=>cases h2;subst e;exact h1
 | v::u::r,_,⟨y,ys,h1,⟨z,zs,h2,h3,e⟩,e'⟩=>
   subst e;subst e';show RV ρ (.t (v::u::r)) (.t (y::z::zs));simp only[RV];exact⟨_,Bt.2 (F2.cons h1 (F2.cons h2 h3)),rfl⟩
def Yx (AK:List RS) (r:Rs):Option (R×St):=
 match r with
 | some (.normal,env,s)=>ob (XN s env AK) fun vs=>some (.ret (Ex vs),s)
 | some (.ret,env,s)=>ob (XN s env AK) fun vs=>some (.ret (Ex vs),s)
 | some (.By v,_,s)=>some (.By v,s)
 | _=>none
def V1 (tab:J3) (ih:AI→Env→St→Rs) (g:FuncId) (cap:List V) (m:Option V) (AK:List RS) (env:Env) (s:St):Option (R×St):=
 match tab g with
 | some (.y3 n k ops ac l)=>bif Nat.ble cap.length n then
  match ih (.seq l (.Ak ops) ac) (put (some k) (m.getD .Du) (A8 0 cap)) s with
  | some (.normal,_,s')=>ob (XN s' env AK) fun vs=>some (.ret (Ex vs),s')
  | some (.ret,_,s')=>ob (XN s' env AK) fun vs=>some (.ret (Ex vs),s')
  | _=>none
   else none
 | some (.pld n ac)=>match m with
   | some _=>none
   | none=>bif Nat.ble cap.length n then
     match ih ac (A8 0 cap) s with
     | some (.normal,_,s')=>ob (XN s' env AK) fun vs=>some (.ret (Ex vs),s')
     | some (.ret,_,s')=>ob (XN s' env AK) fun vs=>some (.ret (Ex vs),s')
     | _=>none
   else none
 | _=>none
def Qn (tab:J3) (ih:AI→Env→St→Rs) (f:FuncId) (vs:List V) (s:St):Option (R×St):=
 match tab f with
 | some (.fn n ac AK)=>bif Nat.ble vs.length n then Yx AK (ih ac (A8 0 vs) s)else none
 | some (.y7 n aA ops x aC AK l1 l2)=>bif Nat.ble vs.length n then
  match ih (.seq l1 aA (.Ak ops)) (A8 0 vs) s with
  | some (.normal,env,s1)=>match Dn env x with
    | some (.f (.func g) [] cap)=>match ih aC (prune l2 env) s1 with
      | some (.normal,env2,s2)=>V1 tab ih g cap none AK env2 s2
      | some (.ret,env2,s2)=>V1 tab ih g cap none AK env2 s2
      | some (.By v,env2,s2)=>V1 tab ih g cap (some v) AK env2 s2
      | _=>none
    | _=>none
  | _=>none
   else none
 | some (.fI n ac AK)=>bif Nat.ble vs.length n then AAM (Yx AK (ih ac (A8 0 vs) s))else none
 | some (.Vx c)=>c vs s
 | _=>none
def T5 (vs:List V):List (List V×V)→Option V
 | []=>none
 | m::r=>bif MX m.1 vs then some m.2 else T5 vs r
def HS (tab:J3) (memo:DV) (ih:AI→Env→St→Rs):CF:=fun f vs s=>
 match memo f with
 | []=>Qn tab ih f vs s
 | m::r=>match T5 vs (m::r)with
   | some v=>some (.ret v,s)
   | none=>Qn tab ih f vs s
def Mm (tab:J3) (memo:DV) (ih:AI→Env→St→Rs):CV:=fun x vs s=>
 match x with
 | .f (.func f) first cap=>HS tab memo ih f (first++vs++cap) s
 | .f (.yield L) [] []=>match s.t.get L with
   | some (.loop .ready env ps a b)=>bif Nat.beq vs.length ps.length then
    Tr.put none BO s.t L fun t=>match ih a (E7 ps vs env) ⟨s.nx,t⟩with
    | some (.normal,env1,s1)=>match ih b env1 s1 with
      | some (.normal,_,s2)=>Tr.put (some (.loop .ready env ps a b)) BO s2.t L fun t=>some (.ret (.b true),⟨s2.nx,t⟩)
      | some (.ret,_,s2)=>Tr.put (some (.loop .ret env ps a b)) BO s2.t L fun t=>some (.ret (.b false),⟨s2.nx,t⟩)
      | some (.exit id,_,s2)=>Tr.put (some (.loop (.exit id) env ps a b)) BO s2.t L fun t=>some (.ret (.b false),⟨s2.nx,t⟩)
      | some (.By v,_,s2)=>some (.By v,s2)
      | none=>none
    | _=>none
     else none
   | _=>none
 | _=>none
def O1 (tab:J3) (memo:DV) (ih:AI→Env→St→Rs):CP:=fun f vs=>
 bif BX vs then match HS tab memo ih f vs ⟨0,.leaf⟩with
  | some (.ret v,s)=>match I6 s Tj v with
    | some u=>bif Ax u then some u else none
    | none=>none
  | _=>none
 else none
def Iu (tab:J3) (memo:DV) (ih:AI→Env→St→Rs) (c:AI) (env:Env) (s:St):Rs:=
 match c with
 | .skip=>some (.normal,env,s)
 | .ret=>some (.ret,env,s)
 | .exit id=>some (.exit id,env,s)
 | .Ak ops=>Tl (HS tab memo ih) (Mm tab memo ih) (O1 tab memo ih) ops env s
 | .A5 l ops=>match Qm (HS tab memo ih) (Mm tab memo ih) (O1 tab memo ih) ops env s with
   | some (.normal,env',s')=>some (.normal,prune l env',s')
   | r=>r
 | .seq l a b=>match ih a env s with
   | some (.normal,env',s')=>ih b (prune l env') s'
   | r=>r
 | .cond c a b=>match Dn env c with
   | some (.b true)=>ih a env s
   | some (.b false)=>ih b env s
   | _=>none
 | .block id a=>match ih a env s with
   | some (.exit id',env',s')=>bif Nat.beq id' id then some (.normal,env',s')else some (.exit id',env',s')
   | r=>r
 | .scope a=>ih a env s
 | .loop l a=>match ih a (prune l env) s with
   | some (.normal,env',s')=>ih (.loop l a) env' s'
   | r=>r
 | .C7 l g ps a b=>match Dn env g with
   | some (.f (.func gf) [] cap)=>s.new (.loop .ready (prune l env) ps a b) fun i s1=>
    match HS tab memo ih gf (.f (.yield i) [] []::cap) s1 with
    | some (.ret _,s2)=>match s2.t.get i with
      | some (.loop st _ _ _ _)=>Tr.put none BO s2.t i fun t=>some ((match st with| .ready=> .normal| .ret=> .ret| .exit id=> .exit id),env,⟨s2.nx,t⟩)
      | _=>none
    | some (.By v,s2)=>match s2.t.get i with
      | some _=>Tr.put none BO s2.t i fun t=>some (.By v,env,⟨s2.nx,t⟩)
      | none=>none
    | none=>none
   | _=>none
def run (tab:J3) (memo:DV):Nat→AI→Env→St→Rs
 | 0,_,_,_=>none
 | n+1,c,env,s=>Iu tab memo (run tab memo n) c env s
def Qq (P:Program) (ih:AI→Env→St→Rs):Prop:= ∀c env s ex env' s',ih c env s=some (ex,env',s')→ ∀ρ env₀ σ,RE ρ env env₀→SR P ρ s σ→
 ∀Q:Ah→Env→AH→Prop,(∀ρ' ex₀ env₁ σ',ρ.le ρ'→REx ρ' ex ex₀→RE ρ' env' env₁→SR P ρ' s' σ'→Q ex₀ env₁ σ')→T P c Q env₀ σ
theorem REx.normal {ex:Ah} (h:REx ρ .normal ex):ex= .normal:=h
theorem YN {AK:List RS} {ex:Ah} {env':Env} {s1 s':St} {r:R} (h:Yx AK (some (ex,env',s1))=some (r,s')) {Q:R→AH→Prop}
 (hQ: ∀ρ' r' σ',ρ.le ρ'→mh ρ' r r'→SR P ρ' s' σ'→Q r' σ') {ρ':Ren} {ex₀:Ah} {env₁:Env} {σ':AH} (q1:ρ.le ρ') (q2:REx ρ' ex ex₀) (q3:RE ρ' env' env₁) (q4:SR P ρ' s1 σ'):Tw AK Q ex₀ env₁ σ':=by
 cases ex with
 | normal=>
   cases q2;replace h:=AN h;obtain⟨vs,h1,h⟩:=h;cases h;exact Mh q3 q4 h1 fun vs' hv=>⟨_,σ',Sub.refl _,.refl _,hQ ρ' _ σ' q1 ⟨_,OH hv,rfl⟩ q4⟩
 | ret=>
   cases q2;replace h:=AN h;obtain⟨vs,h1,h⟩:=h;cases h;exact Mh q3 q4 h1 fun vs' hv=>⟨_,σ',Sub.refl _,.refl _,hQ ρ' _ σ' q1 ⟨_,OH hv,rfl⟩ q4⟩
 | exit id=>cases h
 | By v=>
   cases h;obtain⟨v',h1,rfl⟩:=q2;exact⟨v',σ',Sub.refl _,.refl _,hQ ρ' (.By v') σ' q1 ⟨v',h1,rfl⟩ q4⟩
theorem He.mono {f:FuncId} {args:List V} {m:Option V} {σ:AH} {Q Q':AH→Prop} (h:He P f args m σ Q) (hq: ∀σ',Q σ'→Q' σ'):He P f args m σ Q':=
 ⟨h.1,fun Λ w cs u h1 h2 h3=>CallsDIn.mono (h.2 Λ w cs u h1 h2 h3) fun e u' w' ⟨a,b,σ',c,d⟩=>⟨a,b,σ',hq _ c,d⟩⟩
theorem S9 {tab:J3} (ht:LX P tab) {ih:AI→Env→St→Rs} (hi:Qq P ih) {g:FuncId} {cap cap':List V} {m m':Option V} {AK:List RS} {s s':St} {r:R} (h:V1 tab ih g cap m AK env s=some (r,s'))
 (he:RE ρ env env₀) (hs:SR P ρ s σ) (hc:LI ρ cap cap') (hm:mg ρ m m') {Q:R→AH→Prop} (hQ: ∀ρ' r' σ',ρ.le ρ'→mh ρ' r r'→SR P ρ' s' σ'→Q r' σ') :
 He P g cap' m' σ fun σ'=>TW σ' env₀ AK fun vs=>BQ σ' (Ex vs) Q:=by
 unfold V1 at h;split at h
 ·rename_i n k ops ac l htab
  obtain⟨h1,h2⟩:=AW h
  have hg:RV ρ (m.getD .Du) (m'.getD .Du):=by
   cases m with
   | none=>cases hm;exact RV.pure _ rfl
   | some v=>obtain⟨v',h3,rfl⟩:=hm;exact h3
  have fin: ∀ {ex:Ah} {e2:Env} {s2:St},ih (.seq l (.Ak ops) ac) (put (some k) (m.getD .Du) (A8 0 cap)) s=some (ex,e2,s2)→(ex= .normal∨ex= .ret)→(ob (XN s2 env AK) fun vs=>some (R.ret (Ex vs),s2))=some (r,s')→
   He P g cap' m' σ fun σ'=>TW σ' env₀ AK fun vs=>BQ σ' (Ex vs) Q:=fun {ex e2 s2} q1 q2 q3=>by
   obtain⟨vs,q4,q5⟩:=AN q3;cases q5;refine ht g _ htab cap' m' σ _ (by rw[hc.len];exact Nat.le_of_ble_eq_true h1) ?_;refine hi _ _ _ _ _ _ q1 ρ _ σ ((RE.args hc).put hg (some k)) hs _ fun ρ' ex₀ e₁ σ' p1 p2 p3 p4=>?_
   have base:TW σ' env₀ AK fun vs=>BQ σ' (Ex vs) Q:=Mh (he.mono p1) p4 q4 fun vs' hv=>⟨_,σ',Sub.refl _,.refl _,hQ ρ' _ σ' p1 ⟨_,OH hv,rfl⟩ p4⟩
   rcases q2 with e|e
   ·subst e;cases p2;exact base
   ·subst e;cases p2;exact base
  split at h2
  ·rename_i hr;exact fin hr (.inl rfl) h2
  ·rename_i hr;exact fin hr (.inr rfl) h2
  ·cases h2
 ·rename_i n ac htab
  cases m with
  | some v=>cases h
  | none=>
    cases hm;obtain⟨h1,h2⟩:=AW h
    have fin: ∀ {ex:Ah} {e2:Env} {s2:St},ih ac (A8 0 cap) s=some (ex,e2,s2)→(ex= .normal∨ex= .ret)→(ob (XN s2 env AK) fun vs=>some (R.ret (Ex vs),s2))=some (r,s')→
     He P g cap' none σ fun σ'=>TW σ' env₀ AK fun vs=>BQ σ' (Ex vs) Q:=fun {ex e2 s2} q1 q2 q3=>by
     obtain⟨vs,q4,q5⟩:=AN q3;cases q5;refine ht g _ htab cap' σ _ (by rw[hc.len];exact Nat.le_of_ble_eq_true h1) ?_;refine hi _ _ _ _ _ _ q1 ρ _ σ (RE.args hc) hs _ fun ρ' ex₀ e₁ σ' p1 p2 p3 p4=>?_
     have base:TW σ' env₀ AK fun vs=>BQ σ' (Ex vs) Q:=Mh (he.mono p1) p4 q4 fun vs' hv=>⟨_,σ',Sub.refl _,.refl _,hQ ρ' _ σ' p1 ⟨_,OH hv,rfl⟩ p4⟩
     rcases q2 with e|e
     ·subst e;cases p2;exact base
     ·subst e;cases p2;exact base
    split at h2
    ·rename_i hr;exact fin hr (.inl rfl) h2
    ·rename_i hr;exact fin hr (.inr rfl) h2
    ·cases h2
 ·cases h
theorem U3 {tab:J3} (ht:LX P tab) {ih:AI→Env→St→Rs} (hi:Qq P ih):Kv P (Qn tab ih):=by
 intro f vs s r s' h ρ vs' σ hv hs Q hQ;unfold Qn at h;split at h
 ·rename_i n ac AK htab
  obtain⟨h1,h2⟩:=AW h;cases hr:ih ac (A8 0 vs) s with
  | none=>rw[hr]at h2;cases h2
  | some x=>
    obtain⟨ex,env',s1⟩:=x;rw[hr]at h2;refine ht f _ htab vs' σ Q (by rw[hv.len];exact Nat.le_of_ble_eq_true h1) ?_;exact hi _ _ _ _ _ _ hr ρ _ σ (RE.args hv) hs _ fun ρ' ex₀ e₁ σ' p1 p2 p3 p4=>YN h2 hQ p1 p2 p3 p4
 ·rename_i n aA ops x aC AK l1 l2 htab
  obtain⟨h1,h2⟩:=AW h;split at h2
  ·rename_i env1 s1 hr1
   split at h2
   ·rename_i g cap hx
    refine ht f _ htab vs' σ Q (by rw[hv.len];exact Nat.le_of_ble_eq_true h1) ?_;refine hi _ _ _ _ _ _ hr1 ρ _ σ (RE.args hv) hs _ fun ρ1 ex₀ e₁ σ1 p1 p2 p3 p4=>?_
    cases p2;obtain⟨x',q1,fn',a',b',q2,q3,q4,rfl⟩:=Av p3 hx;simp only[Yp]at q2;subst q2;have q3:=Bt.1 q3;cases q3;show SB P x l2 aC AK Q e₁ σ1;simp only[SB,q1,E8];split at h2
    ·rename_i env2 s2 hr2
     refine hi _ _ _ _ _ _ hr2 ρ1 _ σ1 (p3.prune l2) p4 _ fun ρ2 ex₀ e₂ σ2 u1 u2 u3 u4=>?_
     cases u2;exact S9 ht hi h2 u3 u4 (LI.mono u1 (Bt.1 q4)) rfl fun ρ3 r' σ3 w1 w2 w3=>hQ ρ3 r' σ3 ((p1.trans u1).trans w1) w2 w3
    ·rename_i env2 s2 hr2
     refine hi _ _ _ _ _ _ hr2 ρ1 _ σ1 (p3.prune l2) p4 _ fun ρ2 ex₀ e₂ σ2 u1 u2 u3 u4=>?_
     cases u2;exact S9 ht hi h2 u3 u4 (LI.mono u1 (Bt.1 q4)) rfl fun ρ3 r' σ3 w1 w2 w3=>hQ ρ3 r' σ3 ((p1.trans u1).trans w1) w2 w3
    ·rename_i v env2 s2 hr2
     refine hi _ _ _ _ _ _ hr2 ρ1 _ σ1 (p3.prune l2) p4 _ fun ρ2 ex₀ e₂ σ2 u1 u2 u3 u4=>?_
     obtain⟨v',u5,rfl⟩:=u2;exact S9 ht hi h2 u3 u4 (LI.mono u1 (Bt.1 q4)) ⟨v',u5,rfl⟩ fun ρ3 r' σ3 w1 w2 w3=>hQ ρ3 r' σ3 ((p1.trans u1).trans w1) w2 w3
    ·cases h2
   ·cases h2
  ·cases h2
 ·rename_i n ac AK htab
  replace h:=AW h;obtain⟨h1,h2⟩:=h;cases hr:ih ac (A8 0 vs) s with
  | none=>rw[hr]at h2;cases h2
  | some x=>
    obtain⟨ex,env',s1⟩:=x;rw[hr]at h2;cases he:Yx AK (some (ex,env',s1))with
    | none=>rw[he]at h2;cases h2
    | some y=>
      obtain⟨r1,s2⟩:=y;rw[he]at h2
      have hc:Be P f vs' σ fun r' σ'=> ∃ρ',ρ.le ρ'∧mh ρ' r1 r'∧SR P ρ' s2 σ':=by
       refine ht f _ htab vs' σ _ (by rw[hv.len];exact Nat.le_of_ble_eq_true h1) ?_;exact hi _ _ _ _ _ _ hr ρ _ σ (RE.args hv) hs _ fun ρ' ex₀ e₁ σ' p1 p2 p3 p4=>YN he (fun ρ' r' σ' a b c=>⟨ρ',a,b,c⟩) p1 p2 p3 p4
      refine hc.I6 fun r' σ' ⟨ρ',q1,q2,q3⟩=>?_
      cases r1 with
      | By v=>
        cases h2;exact .inr (hQ ρ' _ _ q1 q2 q3)
      | ret v=>
        obtain⟨v',q4,rfl⟩:=q2;obtain⟨u,h3,h4⟩:=AN h2;cases h4;obtain⟨σ'',g1,g2,g3⟩:=NF (l:=Ol s2 Tj v) q3;by_cases hp:Ax u=true
        ·exact .inl ⟨v',u,σ'',rfl,g2,PR q3 Tj v v' u h3 q4 g3,hQ ρ' _ _ q1 ⟨u,RV.pure u hp,rfl⟩ g1⟩
        ·exact absurd (Us s2 Tj v u h3) hp
 ·rename_i c htab
  exact ht f _ htab vs s r s' h ρ vs' σ hv hs Q hQ
 ·cases h
theorem Uu {vs:List V}: ∀ {l:List (List V×V)} {v:V},T5 vs l=some v→(vs,v)∈l
 | [],_,h=>by cases h
 | m ::r,v,h=>by
   simp only[T5]at h;cases hb:MX m.1 vs with
   | true=>
     rw[hb]at h;cases h;have:=G7 _ _ hb;obtain⟨a,b⟩:=m;subst this;exact .head _
   | false=>rw[hb]at h;exact .tail _ (Uu h)
theorem NI {tab:J3} (ht:LX P tab) {memo:DV} (hm:DJ P memo) {ih:AI→Env→St→Rs} (hi:Qq P ih):Kv P (HS tab memo ih):=by
 intro f vs s r s' h ρ vs' σ hv hs Q hQ;unfold HS at h;split at h
 ·exact U3 ht hi f vs s r s' h ρ vs' σ hv hs Q hQ
 ·rename_i m l hml
  split at h
  ·rename_i v hf
   cases h;have hmem:=Uu hf;rw[←hml]at hmem;obtain⟨h1,h2,h3⟩:=hm f _ hmem;rw[fW hv h1];refine(h3.use (σ:=σ) (k:=fun v σ'=>Q (.ret v) σ') (kp:=fun v σ'=>Q (.By v) σ') ?_).mono fun r σ' h=>?_
   ·exact hQ ρ _ σ (.refl _) ⟨v,RV.pure v h2,rfl⟩ hs
   ·cases r<;>exact h
  ·exact U3 ht hi f vs s r s' h ρ vs' σ hv hs Q hQ
theorem SR.back {s:St} (hs:SR P ρ s σ) {i:Nat} {m:Nat×Nat} (hm:ρ i=some m) (hn:σ m.1=none) {o1:EO} {o1':O} (ho:RO P ρ m.2 o1 o1') :
 SR P ρ ⟨s.nx,Tr.set (some o1) BO s.t i⟩ (Gl.BE σ m.1 o1'):=by
 have hl:=Ys (hs.lt hm)
 have hno:s.t.get i=none:=by
  cases hg:s.t.get i with
  | none=>rfl
  | some o=>
    obtain⟨o',h1,_⟩:=hs.at hg hm;rw[hn]at h1;cases h1
 have nm: ∀ {j q m1},s.t.get j=some q→ρ j=some m1→m1.1≠m.1:=fun {j q m1} h1 h2 e=>by
  obtain⟨o',h3,_⟩:=hs.at h1 h2;rw[e,hn]at h3;cases h3
 refine⟨fun j o2 h1=>?_,fun j j' o2 o3 m1 m2 h1 h2 h3 h4 h5=>?_,hs.tG,hs.lim⟩
 ·rw[Tr.Ec _ _ _ hl]at h1
  by_cases e:j=i
  ·subst e
   rw[if_pos rfl]at h1;cases h1;exact⟨m,hm,o1',Dg _ _ _,ho⟩
  ·rw[if_neg e]at h1
   obtain⟨m1,h2,o3,h3,h4⟩:=hs.get j o2 h1;exact⟨m1,h2,o3,by rw[Cz _ _ (nm h1 h2)];exact h3,h4⟩
 ·rw[Tr.Ec _ _ _ hl]at h1 h2
  by_cases e:j=i<;>by_cases e':j'=i
  ·omega
  ·exfalso
   subst e;rw[if_neg e']at h2;rw[hm]at h3;cases h3;exact nm h2 h4 h5.symm
  ·exfalso
   subst e';rw[if_neg e]at h1;rw[hm]at h4;cases h4;exact nm h1 h3 h5
  ·rw[if_neg e]at h1
   rw[if_neg e']at h2;exact hs.inj j j' o2 o3 m1 m2 h1 h2 h3 h4 h5
theorem Z8 {tab:J3} (ht:LX P tab) {memo:DV} (hm:DJ P memo) {ih:AI→Env→St→Rs} (hi:Qq P ih):Jp P (Mm tab memo ih):=by
 intro x vs s r s' h ρ x' vs' σ hx hv hs Q hQ;unfold Mm at h;split at h
 ·rename_i f first cap
  obtain⟨fn',a',b',h1,h2,h3,rfl⟩:=hx;simp only[Yp]at h1;subst h1;exact NI ht hm hi f _ s r s' h ρ _ σ (((Bt.1 h2).app hv).app (Bt.1 h3)) hs Q hQ
 ·rename_i L
  obtain⟨fn',a',b',⟨m,h1,rfl⟩,h2,h3,rfl⟩:=hx;have h2:=Bt.1 h2;have h3:=Bt.1 h3;cases h2;cases h3;split at h
  ·rename_i env1 ps a b hg
   obtain⟨o',g1,env1',g2,rfl⟩:=hs.at hg h1;obtain⟨h4,h5⟩:=AW h;rw[Tr.put_eq]at h5;show N6 P m.1 vs' σ Q;refine P9 g1 (by rw[hv.len];exact C9 h4) ?_;split at h5
   ·rename_i e2 s1 hr1
    refine hi _ _ _ _ _ _ hr1 ρ _ _ (RE.binds hv g2) (hs.del hg h1) _ fun ρ1 ex₀ e₁ σ1 p1 p2 p3 p4=>?_
    cases p2;show T P b _ e₁ σ1;have hm1:=p1 _ _ h1;split at h5
    ·rename_i e3 s2 hr2
     refine hi _ _ _ _ _ _ hr2 ρ1 _ _ p3 p4 _ fun ρ2 ex₀ e₂ σ2 u1 u2 u3 u4 hno=>?_
     cases u2;rw[Tr.put_eq]at h5;cases h5;exact hQ ρ2 _ _ (p1.trans u1) ⟨_,RV.pure _ rfl,rfl⟩ (u4.back (u1 _ _ hm1) hno ⟨_,g2.mono (p1.trans u1),rfl⟩)
    ·rename_i e3 s2 hr2
     refine hi _ _ _ _ _ _ hr2 ρ1 _ _ p3 p4 _ fun ρ2 ex₀ e₂ σ2 u1 u2 u3 u4 hno=>?_
     cases u2;rw[Tr.put_eq]at h5;cases h5;exact hQ ρ2 _ _ (p1.trans u1) ⟨_,RV.pure _ rfl,rfl⟩ (u4.back (u1 _ _ hm1) hno ⟨_,g2.mono (p1.trans u1),rfl⟩)
    ·rename_i id e3 s2 hr2
     refine hi _ _ _ _ _ _ hr2 ρ1 _ _ p3 p4 _ fun ρ2 ex₀ e₂ σ2 u1 u2 u3 u4 hno=>?_
     cases u2;rw[Tr.put_eq]at h5;cases h5;exact hQ ρ2 _ _ (p1.trans u1) ⟨_,RV.pure _ rfl,rfl⟩ (u4.back (u1 _ _ hm1) hno ⟨_,g2.mono (p1.trans u1),rfl⟩)
    ·rename_i v e3 s2 hr2
     refine hi _ _ _ _ _ _ hr2 ρ1 _ _ p3 p4 _ fun ρ2 ex₀ e₂ σ2 u1 u2 u3 u4 hno=>?_
     obtain⟨v',u5,rfl⟩:=u2;cases h5;exact hQ ρ2 _ _ (p1.trans u1) ⟨v',u5,rfl⟩ u4
    ·cases h5
   ·cases h5
  ·cases h
 ·cases h
theorem SR.emp:SR P (fun _=>none) ⟨0,.leaf⟩ Gl.emp:=⟨fun _ _ h=>(by cases h),fun _ _ _ _ _ _ h=>(by cases h),fun _ _=>rfl,by show 0≤MU+1;omega⟩
theorem U4 {tab:J3} (ht:LX P tab) {memo:DV} (hm:DJ P memo) {ih:AI→Env→St→Rs} (hi:Qq P ih):Mp P (O1 tab memo ih):=by
 intro f vs v h;unfold O1 at h;obtain⟨h1,h2⟩:=AW h;split at h2
 ·rename_i u s hr
  split at h2
  ·rename_i w hw
   obtain⟨h3,h4⟩:=AW h2;cases h4;refine⟨h1,h3,?_⟩;refine(NI ht hm hi f vs _ _ _ hr (fun _=>none) vs Gl.emp (Bt.1 (RL.pure vs h1)) SR.emp (fun r σ'=> ∃ρ' u',RV ρ' u u'∧SR P ρ' s σ'∧r= .ret u') fun ρ' r' σ' _ q2 q3=>?_).I6 fun r σ' ⟨ρ',u',q1,q2,e⟩=>?_
   ·obtain⟨u',q4,rfl⟩:=q2
    exact⟨ρ',u',q4,q3,rfl⟩
   ·subst e
    exact .inl ⟨u',v,Gl.emp,rfl,fun n o ho=>(by cases ho),v7 q2 Tj u u' v hw q1,rfl,rfl⟩
  ·cases h2
 ·cases h2
theorem ti {tab:J3} (ht:LX P tab) {memo:DV} (hm:DJ P memo): ∀n,Qq P (run tab memo n):=by
 intro n
 induction n using Nat.strongRecOn with
 | ind n IH=>
   cases n with
   | zero=>intro c env s ex env' s' h;cases h
   | succ n=>
     have hi:=IH n (Nat.lt_succ_self n);have hcf:=NI ht hm hi;have hcv:=Z8 ht hm hi;have hcp:=U4 ht hm hi;intro c env s ex env' s' h ρ env₀ σ he hs Q hQ;have h:Iu tab memo (run tab memo n) c env s=some (ex,env',s'):=h;cases c with
     | skip=>cases h;exact hQ ρ _ _ _ (.refl _) rfl he hs
     | ret=>cases h;exact hQ ρ _ _ _ (.refl _) rfl he hs
     | exit id=>cases h;exact hQ ρ _ _ _ (.refl _) rfl he hs
     | Ak ops=>
       simp only[Iu]at h;refine(YO hcf hcv hcp h he hs (K:=fun env σ=>Q .normal env σ) (kp:=fun env v σ=>Q (.By v) env σ) (fun ρ' e₁ σ' q1 q2 q3 q4=>?_) (fun ρ' v v' e₁ σ' q1 q2 q3 q4 q5=>?_)).2.2
       ·subst q2;exact hQ ρ' _ _ _ q1 rfl q3 q4
       ·subst q2;exact hQ ρ' _ _ _ q1 ⟨v',q3,rfl⟩ q4 q5
     | A5 l ops=>
       simp only[Iu]at h;show De P ops (fun env σ=>Q .normal (prune l env) σ) (fun v σ=> ∀σ',Sub σ σ'→Q (.By v) [] σ') env₀ σ;split at h
       ·rename_i e1 s1 hr
        cases h;exact PU hcf hcv hcp hr he hs (fun ρ' e₁ σ' q1 q2 q3 q4=>hQ ρ' _ _ _ q1 rfl (q3.prune l) q4) (fun ρ' v v' σ' q1 q2 q3 q4 q5=>by cases q2)
       ·rename_i hne
        refine PU hcf hcv hcp h he hs (fun ρ' e₁ σ' q1 q2 q3 q4=>?_) (fun ρ' v v' σ' q1 q2 q3 q4 q5=>?_)
        ·subst q2;exact absurd h (hne _ _)
        ·subst q2;subst q3;exact fun σ2 hs2=>hQ ρ' _ _ _ q1 ⟨v',q4,rfl⟩ F2.nil ⟨fun i o hi=>let⟨m,a1,o',a2,a3⟩:=q5.get i o hi;⟨m,a1,o',hs2 _ _ a2,a3⟩,q5.inj,q5.tG,q5.lim⟩
     | seq l a b=>
       simp only[Iu]at h;show T P a (Ah.andThen (fun env σ=>T P b Q (prune l env) σ) Q) env₀ σ;split at h
       ·rename_i e1 s1 hr
        refine hi _ _ _ _ _ _ hr ρ _ σ he hs _ fun ρ1 ex₀ e₁ σ1 p1 p2 p3 p4=>?_
        cases p2;exact hi _ _ _ _ _ _ h ρ1 _ σ1 (p3.prune l) p4 _ fun ρ2 ex₀ e₂ σ2 u1 u2 u3 u4=>hQ ρ2 _ _ _ (p1.trans u1) u2 u3 u4
       ·rename_i hne
        refine hi _ _ _ _ _ _ h ρ _ σ he hs _ fun ρ1 ex₀ e₁ σ1 p1 p2 p3 p4=>?_
        have hf:=hQ ρ1 _ _ _ p1 p2 p3 p4;cases ex with
        | normal=>exact absurd h (hne _ _)
        | ret=>cases p2;exact hf
        | exit id=>cases p2;exact hf
        | By v=>obtain⟨v',u1,rfl⟩:=p2;exact hf
     | cond c a b=>
       simp only[Iu]at h;simp only[T];split at h
       ·rename_i hc
        obtain⟨v',q1,q2⟩:=Av he hc;simp only[RV]at q2;subst q2;rw[q1];exact⟨fun _=>hi _ _ _ _ _ _ h ρ _ σ he hs _ hQ,fun e=>by cases e⟩
       ·rename_i hc
        obtain⟨v',q1,q2⟩:=Av he hc;simp only[RV]at q2;subst q2;rw[q1];exact⟨fun e=>(by cases e),fun _=>hi _ _ _ _ _ _ h ρ _ σ he hs _ hQ⟩
       ·cases h
     | block id a=>
       simp only[Iu]at h;show T P a (Ah.inBlock id Q) env₀ σ;split at h
       ·rename_i id' e1 s1 hr
        refine hi _ _ _ _ _ _ hr ρ _ σ he hs _ fun ρ1 ex₀ e₁ σ1 p1 p2 p3 p4=>?_
        cases p2;simp only[Ah.inBlock];cases hb:Nat.beq id' id with
        | true=>rw[hb]at h;cases h;exact hQ ρ1 _ _ _ p1 rfl p3 p4
        | false=>rw[hb]at h;cases h;exact hQ ρ1 _ _ _ p1 rfl p3 p4
       ·rename_i hne
        refine hi _ _ _ _ _ _ h ρ _ σ he hs _ fun ρ1 ex₀ e₁ σ1 p1 p2 p3 p4=>?_
        have hf:=hQ ρ1 _ _ _ p1 p2 p3 p4;cases ex with
        | normal=>cases p2;exact hf
        | ret=>cases p2;exact hf
        | exit id=>exact absurd h (hne _ _ _)
        | By v=>obtain⟨v',u1,rfl⟩:=p2;exact hf
     | scope a=>
       simp only[Iu]at h;exact hi _ _ _ _ _ _ h ρ _ σ he hs _ hQ
     | loop l a=>
       refine⟨fun m E τ=>m≤n+1∧ ∃e s1 ρ1,ρ.le ρ1∧RE ρ1 (prune l e) E∧SR P ρ1 s1 τ∧run tab memo m (.loop l a) e s1=some (ex,env',s'),⟨n+1,J1 _,env,s,ρ,.refl _,he.prune l,hs,h⟩,?_⟩;rintro m E τ ⟨hm1,e,s1,ρ1,q1,q2,q3,q4⟩;cases m with
       | zero=>cases q4
       | succ m=>
         have hi1:=IH m (by omega)
         have q4:(match run tab memo m a (prune l e) s1 with
          | some (.normal,env',s')=>run tab memo m (.loop l a) env' s'
          | r=>r)=some (ex,env',s'):=q4
         split at q4
         ·rename_i e2 s2 hr
          refine hi1 _ _ _ _ _ _ hr ρ1 _ τ q2 q3 _ fun ρ2 ex₀ e₁ σ1 p1 p2 p3 p4=>?_
          cases p2;exact⟨m,Nat.lt_succ_self m,by omega,e2,s2,ρ2,q1.trans p1,p3.prune l,p4,q4⟩
         ·rename_i hne
          refine hi1 _ _ _ _ _ _ q4 ρ1 _ τ q2 q3 _ fun ρ2 ex₀ e₁ σ1 p1 p2 p3 p4=>?_
          have hf:=hQ ρ2 _ _ _ (q1.trans p1) p2 p3 p4;cases ex with
          | normal=>exact absurd q4 (hne _ _)
          | ret=>cases p2;exact hf
          | exit id=>cases p2;exact hf
          | By v=>obtain⟨v',u1,rfl⟩:=p2;exact hf
     | C7 l g ps a b=>
       simp only[Iu]at h;simp only[T];split at h
       ·rename_i gf cap hg
        obtain⟨x',q1,fn',a',b',q2,q3,q4,rfl⟩:=Av he hg;simp only[Yp]at q2;subst q2;have q3:=Bt.1 q3;have q4:=Bt.1 q4;cases q3;rw[q1];intro L hL;obtain⟨h1,h2⟩:=St.IM h;obtain⟨ρ1,p1,p2,p3⟩:=hs.new h1 hL 0 (o:= .loop .ready (prune l env) ps a b) (o':= .loop .ready (prune l env₀) (CI P ps a b)) ⟨_,he.prune l,rfl⟩
        have hfy:RV ρ1 (.f (.yield s.nx) [] []) (.f (.yield L) [] []):=by
         simp only[RV];exact⟨.yield L,[],[],⟨_,p2,rfl⟩,Bt.2 F2.nil,Bt.2 F2.nil,rfl⟩
        split at h2
        ·rename_i v s2 hr
         refine hcf gf _ _ _ _ hr ρ1 _ _ (F2.cons hfy (LI.mono p1 q4)) p3 _ fun ρ2 r' σ2 u1 u2 u3=>?_
         obtain⟨v',_,rfl⟩:=u2;split at h2
         ·rename_i st e9 ps9 a9 b9 hg2
          rw[Tr.put_eq]at h2;have hm2:=u1 _ _ p2;obtain⟨o',w1,e8,w2,rfl⟩:=u3.at hg2 hm2;refine⟨st,e8,_,w1,?_⟩;have hd:=u3.del hg2 hm2;cases st<;>(simp only[id]at h2;cases h2;exact hQ ρ2 _ _ _ (p1.trans u1) rfl (he.mono (p1.trans u1)) hd)
         ·cases h2
        ·rename_i v s2 hr
         refine hcf gf _ _ _ _ hr ρ1 _ _ (F2.cons hfy (LI.mono p1 q4)) p3 _ fun ρ2 r' σ2 u1 u2 u3=>?_
         obtain⟨v',u4,rfl⟩:=u2;split at h2
         ·rename_i o9 hg2
          rw[Tr.put_eq]at h2;have hm2:=u1 _ _ p2;have hd:=u3.del hg2 hm2;cases h2;exact hQ ρ2 _ _ _ (p1.trans u1) ⟨v',u4,rfl⟩ (he.mono (p1.trans u1)) hd
         ·cases h2
        ·cases h2
       ·cases h
def bW (tab:J3) (memo:DV) (n:Nat) (f:FuncId) (vs:List V) (v:V):Bool:=
 match O1 tab memo (run tab memo n) f vs with
 | some u=>Ey u v
 | none=>false
theorem VL {tab:J3} (ht:LX P tab) {memo:DV} (hm:DJ P memo) {n:Nat} {f:FuncId} {vs:List V} {v:V} (h:bW tab memo n f vs v=true):BX vs=true∧Ax v=true∧Pure P f vs v:=by
 unfold bW at h;split at h
 ·rename_i u hu
  have:=OX _ _ h;subst this;exact U4 ht hm (ti ht hm n) f vs u hu
 ·cases h
end Go.Gl
namespace Go.Gl
variable {P:Program} {ρ ρ':Ren} {σ:AH}
def Sb (sz:Nat) (vs:List V) (s:St):Option (R×St):=
 match vs with
 | [.l es f]=>match Iv s sz (.l es f)with
   | some []=>some (.ret (.l [] true),s)
   | some (y::ys)=>bif (y::ys).all (fun e=>e.all CY)&&Nat.ble (y::ys).length 1073741824 then s.new (.arr sz (y::ys)) fun i s'=>some (.ret (.sl i (y::ys).length 0),s')else none
   | none=>none
 | [.sl n len c]=>match Iv s sz (.sl n len c)with
   | some []=>some (.ret (.l [] true),s)
   | some (y::ys)=>bif (y::ys).all (fun e=>e.all CY)&&Nat.ble (y::ys).length 1073741824 then s.new (.arr sz (y::ys)) fun i s'=>some (.ret (.sl i (y::ys).length 0),s')else none
   | none=>none
 | _=>none
def G1 {α:Type} (p:Nat→α→Prop) (f:Nat→Nat) (t:Tr α):Prop:= ∀j a,t.get j=some a→p (f j) a
theorem mR {α:Type} {p:Nat→α→Prop} {f:Nat→Nat}:G1 p f .leaf:=fun _ _ h=>by cases h
theorem mQ {α:Type} {q:α→Prop}: ∀a,(none:Option α)=some a→q a:=fun _ h=>by cases h
theorem mO {α:Type} {q:α→Prop} {b:α} (h:q b): ∀a,some b=some a→q a:=fun _ e=>by cases e;exact h
theorem YY {α:Type} {p:Nat→α→Prop} {f:Nat→Nat} {o:Option α} {l r:Tr α} (h: ∀a,o=some a→p (f 0) a) (hl:G1 p (fun j=>f (2*j+1)) l) (hr:G1 p (fun j=>f (2*j+2)) r):G1 p f (.node o l r):=by
 intro j a ha;cases j with
 | zero=>exact h a ha
 | succ k=>
   simp only[Tr.get]at ha;cases hb:Nat.beq (k % 2) 0 with
   | true=>
     rw[hb]at ha;have:=C9 hb;have e:2*(k / 2)+1=k+1:=by omega
     rw[←e];exact hl _ a ha
   | false=>
     rw[hb]at ha;have:=Nat.ne_of_beq_eq_false hb;have e:2*(k / 2)+2=k+1:=by omega
     rw[←e];exact hr _ a ha
theorem df:DJ P (fun _=>[]):=fun _ _ h=>by cases h
end Go.Gl
