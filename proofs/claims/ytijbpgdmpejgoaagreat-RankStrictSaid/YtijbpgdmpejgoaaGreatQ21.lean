import Derived.Test.YtijbpgdmpejgoaaGreatQ20
set_option linter.all false
set_option linter.unusedVariables false
set_option linter.unusedSimpArgs false
namespace Go.Gl
variable {P:Program} {ρ ρ':Ren} {σ:AG} {env env₀:Env}
def ob {α β:Type} (o:Option α) (k:α→Option β):Option β:=match o with|some v=>k v|none=>none
theorem AN {α β:Type} {o:Option α} {k:α→Option β} {r:β} (h:ob o k=some r): ∃v,o=some v∧k v=some r:=by
 cases o with
 | none=>cases h
 | some v=>exact⟨v,rfl,h⟩
def REx (ρ:Ren):Ae→Ae→Prop
 | .Bi v,x=> ∃v',RV ρ v v'∧x= .Bi v'
 | .normal,x=>x= .normal
 | .ret,x=>x= .ret
 | .exit id,x=>x= .exit id
def kO (ρ:Ren):R→R→Prop
 | .ret v,r=> ∃v',RV ρ v v'∧r= .ret v'
 | .Bi v,r=> ∃v',RV ρ v v'∧r= .Bi v'
abbrev CF:=FuncId→List V→St→Option (R×St)
abbrev CV:=V→List V→St→Option (R×St)
abbrev CP:=FuncId→List V→Option V
def JO (P:Program) (c:CF):Prop:= ∀f vs s r s',c f vs s=some (r,s')→ ∀ρ vs' σ,Jl ρ vs vs'→SR P ρ s σ→ ∀Q:R→AG→Prop,(∀ρ' r' σ',ρ.le ρ'→kO ρ' r r'→SR P ρ' s' σ'→Q r' σ')→BQ P f vs' σ Q
def IQ (P:Program) (c:CV):Prop:= ∀x vs s r s',c x vs s=some (r,s')→ ∀ρ x' vs' σ,RV ρ x x'→Jl ρ vs vs'→SR P ρ s σ→ ∀Q:R→AG→Prop,(∀ρ' r' σ',ρ.le ρ'→kO ρ' r r'→SR P ρ' s' σ'→Q r' σ')→BT P x' vs' σ Q
def LQ (P:Program) (c:CP):Prop:= ∀f vs v,c f vs=some v→BK vs=true∧Aq v=true∧Pure P f vs v
def ov (o:Option V) (s:St):Option (R×St):=match o with|some v=>some (.ret v,s)|none=>none
theorem CE {o:Option V} {s s':St} {r:R} (h:ov o s=some (r,s')): ∃v,o=some v∧r= .ret v∧s'=s:=by
 cases o with
 | none=>cases h
 | some v=>cases h;exact⟨v,rfl,rfl,rfl⟩
def os (o:Option St):Option (R×St):=match o with|some s=>some (.ret (.t []),s)|none=>none
theorem eO {o:Option St} {s':St} {r:R} (h:os o=some (r,s')):o=some s'∧r= .ret (.t []):=by
 cases o with
 | none=>cases h
 | some v=>cases h;exact⟨rfl,rfl⟩
def XX (o:Option (V×St)):Option (R×St):=match o with|some (v,s)=>some (.ret v,s)|none=>none
theorem KM {o:Option (V×St)} {s':St} {r:R} (h:XX o=some (r,s')): ∃v,o=some (v,s')∧r= .ret v:=by
 cases o with
 | none=>cases h
 | some v=>cases h;exact⟨_,rfl,rfl⟩
def JE (env:Env):Option Bj→Option (Option V)
 | none=>some none
 | some x=>match DL env x with|some v=>some (some v)|none=>none
theorem LZ (he:RE ρ env env₀) {x:Option Bj} {v:Option V} (h:JE env x=some v): ∃v',GV env₀ x=some v'∧kN ρ v v':=by
 cases x with
 | none=>cases h;exact⟨none,rfl,rfl⟩
 | some x=>
   simp only[JE]at h;split at h
   ·rename_i u hu
    cases h;obtain⟨v',h1,h2⟩:=Ao he hu;exact⟨some v',by simp only[GV,h1],v',h2,rfl⟩
   ·cases h
def ZX (t:TypeId) (z:V) (ok:Bool) (x:V):Option V:=
 match x with
 | .ET t' v=>bif Nat.beq t' t then some (bif ok then .t [v,.b true]else v)else(bif ok&&Aq z then some (.t [z,.b false])else none)
 | .DN=>bif ok&&Aq z then some (.t [z,.b false])else none
 | _=>none
def LD (x:V):Option V:=
 match x with
 | .p n off=>some (.p n off)
 | .rp cs=>some (.rp cs)
 | .pe n sz i off=>some (.pe n sz i off)
 | .f (.func f) a b=>some (.f (.func f) a b)
 | .f (.yield f) a b=>some (.f (.yield f) a b)
 | _=>none
def FC (cf:CF) (cv:CV) (cp:CP) (o:EW) (env:Env) (s:St):Option (R×St):=
 match o with
 | .mv x=>ov (DL env x) s
 | .ZF x=>ov (DL env x) s
 | .pick c a b=>ob (DL env c) fun vc=>ob (DL env a) fun va=>ob (DL env b) fun vb=>match vc with| .b t=>some (.ret (bif t then va else vb),s)|_=>none
 | .bin op x y=>ob (DL env x) fun vx=>ob (DL env y) fun vy=>ov (SD op vx vy) s
 | .V5 neg x y=>ob (DL env x) fun vx=>ob (DL env y) fun vy=>match vx,vy with| .b p,.b q=>some (.ret (.b (bif neg then p != q else p==q)),s)|_,_=>none
 | .not x=>ob (DL env x) fun vx=>match vx with| .b p=>some (.ret (.b (!p)),s)|_=>none
 | .neg xor x=>ob (DL env x) fun vx=>match vx with| .i ka a=>some (.ret (.i ka (bif xor then bits .xor ka (bif ka.signed then -1 else ka.max) a else ka.wrap (0 - a))),s)|_=>none
 | .conv ka x=>ob (DL env x) fun vx=>match vx with| .i _ a=>some (.ret (.i ka (HS ka a)),s)|_=>none
 | .box x=>ob (DL env x) fun vx=>ob (cellsOf vx) fun cs=>s.new (.cs cs) fun i s'=>some (.ret (.p i 0),s')
 | .MS x=>ob (DL env x) fun vx=>ob (cellsOf vx) fun cs=>some (.ret (.rp cs),s)
 | .Oq sz b x y=>ob (DL env x) fun vx=>ob (DL env y) fun vy=>ov (SY b s sz vx vy) s
 | .alloc z=>bif BK z then s.new (.cs z) fun i s'=>some (.ret (.p i 0),s')else none
 | .build z parts=>bif BK z then ob (LG env z parts) fun cs=>some (.ret (.a cs),s)else none
 | .Am _ len z parts=>bif BK z then ob (LH env z.length (List.replicate len z) parts) fun es=>some (.ret (.l es true),s)else none
 | .load agg x=>ob (DL env x) fun vx=>ov (Lz s agg vx) s
 | .store sz a x=>ob (DL env a) fun va=>ob (DL env x) fun vx=>os (NU s sz va vx)
 | .GZ off x=>ob (DL env x) fun vx=>ov (Qo off vx) s
 | .field agg off x=>ob (DL env x) fun vx=>match vx with| .a cs=>ov (SA agg cs off) s|_=>none
 | .BG sz arr x i=>ob (DL env x) fun vx=>ob (DL env i) fun vi=>ov (LF sz arr vx vi) s
 | .index len sz agg x i=>ob (DL env x) fun vx=>ob (DL env i) fun vi=>ov (NW len sz agg vx vi) s
 | .slice sz x lo hi mx=>ob (DL env x) fun vx=>ob (JE env lo) fun l=>ob (JE env hi) fun h=>ob (JE env mx) fun m=>XX (NV s sz vx l h m)
 | .len x=>ob (DL env x) fun vx=>ov (Xh vx) s
 | .QP x=>ob (DL env x) fun vx=>ov (SW s vx) s
 | .Oj x i=>ob (DL env x) fun vx=>ob (DL env i) fun vi=>ov (SV vx vi) s
 | .str x=>ob (DL env x) fun vx=>ov (ZY s vx) s
 | .append sz b x y=>ob (DL env x) fun vx=>ob (DL env y) fun vy=>XX (J8 b s sz vx vy)
 | .copy sz x y=>ob (DL env x) fun vx=>ob (DL env y) fun vy=>XX (SX s sz vx vy)
 | .MP x y=>ob (DL env x) fun vx=>ob (DL env y) fun vy=>match vx,vy with| .i ka a,.i kb b=>bif decide (ka=kb)then some (.ret (.i ka (bif Kx a b then b else a)),s)else none|_,_=>none
 | .Om x y=>ob (DL env x) fun vx=>ob (DL env y) fun vy=>match vx,vy with| .i ka a,.i kb b=>bif decide (ka=kb)then some (.ret (.i ka (bif Kx b a then b else a)),s)else none|_,_=>none
 | .extract i x=>ob (DL env x) fun vx=>match vx with| .t vs=>ov (vs[i]?) s|_=>none
 | .D5 x=>ob (DL env x) fun vx=>ov (LD vx) s
 | .GN f first cap=>ob (MQ env first) fun vf=>ob (MQ env cap) fun vc=>bif K5 f then some (.ret (.f f vf vc),s)else none
 | .Ep t x=>ob (DL env x) fun vx=>some (.ret (.ET t vx),s)
 | .V2 t z ok x=>ob (DL env x) fun vx=>ov (ZX t z ok vx) s
 | .panic x=>ob (DL env x) fun vx=>match vx with| .ET t v=>some (.Bi (.ET t v),s)|_=>none
 | .call f args=>ob (MQ env args) fun vs=>cf f vs s
 | .ZG len neg x y=>ob (DL env x) fun vx=>ob (DL env y) fun vy=>ov (Za len neg vx vy) s
 | .UN kind neg x=>ob (DL env x) fun vx=>ov (ZZ kind neg vx) s
 | .EK sz _ z x y=>ob (DL env x) fun vx=>ob (DL env y) fun vy=>XX (H0 s sz z vx vy)
 | .Fw=>s.new (.map []) fun i s'=>some (.ret (.m i),s')
 | .lookup ks z ok m key=>ob (DL env m) fun vm=>ob (DL env key) fun vk=>ov (J6 s ks z ok vm vk) s
 | .Cw ks m key x=>ob (DL env m) fun vm=>ob (DL env key) fun vk=>ob (DL env x) fun vx=>os (J5 s ks vm vk vx)
 | .Iy f args=>ob (MQ env args) fun vs=>ov (cp f vs) s
 | .Bs x args=>ob (DL env x) fun vx=>ob (MQ env args) fun vs=>cv vx vs s
 | .inv tab x args=>ob (DL env x) fun vx=>ob (MQ env args) fun vs=>match vx with| .ET t v=>ob (look t tab) fun f=>cf f (v::vs) s|_=>none
 | _=>none
theorem jm {t:TypeId} {z:V} {ok:Bool} {x x' v:V} (h:ZX t z ok x=some v) (hx:RV ρ x x') {K:V→Prop} (U: ∀v',RV ρ v v'→K v') :
 match(generalizing:=false) x' with
  | .ET t' v=>(t'=t→K (bif ok then .t [v,.b true]else v))∧(t'≠t→ok=true∧K (.t [z,.b false]))
  | .DN=>ok=true∧K (.t [z,.b false])
  | _=>False:=by
 have zz: ∀ {v},Aq z=true→some (V.t [z,.b false])=some v→K (.t [z,.b false])→K v:=fun _ e k=>by cases e;exact k
 unfold ZX at h;split at h
 ·rename_i t' u
  obtain⟨u',h1,rfl⟩:=hx;refine⟨fun e=>?_,fun e=>?_⟩
  ·subst e
   rw[Nat.beq_refl]at h;cases h;cases ok with
   | true=>exact U _ (by simp only[cond_true,RV];exact⟨_,Ba.2 (F2.cons h1 (F2.cons (RV.pure _ rfl) F2.nil)),rfl⟩)
   | false=>exact U _ h1
  ·have hb:Nat.beq t' t=false:=by
    cases hb:Nat.beq t' t with
    | false=>rfl
    | true=>exact absurd (Ci hb) e
   rw[hb]at h;obtain⟨h2,h3⟩:=AT h;simp only[BO]at h2;cases h3;exact⟨h2.1,U _ (by simp only[RV];exact⟨_,Ba.2 (F2.cons (RV.pure _ h2.2) (F2.cons (RV.pure _ rfl) F2.nil)),rfl⟩)⟩
 ·simp only[RV]at hx
  subst hx;obtain⟨h2,h3⟩:=AT h;simp only[BO]at h2;cases h3;exact⟨h2.1,U _ (by simp only[RV];exact⟨_,Ba.2 (F2.cons (RV.pure _ h2.2) (F2.cons (RV.pure _ rfl) F2.nil)),rfl⟩)⟩
 ·cases h
theorem Ye {x x' v:V} (h:LD x=some v) (hx:RV ρ x x') {K:V→Prop} (U: ∀v',RV ρ v v'→K v') :
 match(generalizing:=false) x' with
  | .p n off=>K (.p n off)
  | .rp cs=>K (.rp cs)
  | .pe n sz i off=>K (.pe n sz i off)
  | .f (.func f) first cap=>K (.f (.func f) first cap)
  | .f (.yield l) first cap=>K (.f (.yield l) first cap)
  | _=>False:=by
 have hv:v=x:=by unfold LD at h;split at h<;>cases h<;>rfl
 subst hv;have hk:=U _ hx;unfold LD at h;split at h
 ·obtain⟨_,_,rfl⟩:=hx;exact hk
 ·obtain⟨_,_,rfl⟩:=hx;exact hk
 ·obtain⟨_,_,rfl⟩:=hx;exact hk
 ·obtain⟨fn,a,b,h1,_,_,rfl⟩:=hx
  simp only[XZ]at h1;subst h1;exact hk
 ·obtain⟨fn,a,b,h1,_,_,rfl⟩:=hx
  obtain⟨m,_,rfl⟩:=h1;exact hk
 ·cases h
theorem aO {cf:CF} {cv:CV} {cp:CP} (hcf:JO P cf) (hcv:IQ P cv) (hcp:LQ P cp) {o:EW} {s s':St} {r:R} (h:FC cf cv cp o env s=some (r,s')) (he:RE ρ env env₀) (hs:SR P ρ s σ) {k kp:V→AG→Prop}
 (hk: ∀ρ' r' σ',ρ.le ρ'→kO ρ' r r'→SR P ρ' s' σ'→qk k kp r' σ'):Ei P o env₀ σ k kp:=by
 have hv: ∀ {v:V},r= .ret v→s'=s→ ∀v',RV ρ v v'→k v' σ:=fun e1 e2 v' g=>by
  subst e1;subst e2;exact hk ρ (.ret v') σ (.refl _) ⟨v',g,rfl⟩ hs
 have hvs: ∀ {v:V},r= .ret v→ ∀v' σ',RV ρ v v'→SR P ρ s' σ'→k v' σ':=fun e1 v' σ' g g2=>by
  subst e1;exact hk ρ (.ret v') σ' (.refl _) ⟨v',g,rfl⟩ g2
 have hvr: ∀ {v:V},r= .ret v→ ∀ρ' v' σ',ρ.le ρ'→RV ρ' v v'→SR P ρ' s' σ'→k v' σ':=fun e1 ρ' v' σ' g0 g g2=>by
  subst e1;exact hk ρ' (.ret v') σ' g0 ⟨v',g,rfl⟩ g2
 have hu: ∀ {o1:Option St},os o1=some (r,s')→o1=some s'∧ ∀σ',SR P ρ s' σ'→k (.t []) σ':=fun h=>by
  obtain⟨h1,h2⟩:=eO h;subst h2;exact⟨h1,fun σ' h3=>hk ρ (.ret (.t [])) σ' (.refl _) ⟨_,RV.pure _ rfl,rfl⟩ h3⟩
 cases o<;>simp only[FC]at h<;>simp only[Ei]
 case mv x=>
  obtain⟨v,h1,h2,h3⟩:=CE h;obtain⟨v',e1,e2⟩:=Ao he h1;rw[e1];exact hv h2 h3 _ e2
 case ZF x=>
  obtain⟨v,h1,h2,h3⟩:=CE h;obtain⟨v',e1,e2⟩:=Ao he h1;rw[e1];exact⟨v',σ,Sub.refl _,.refl _,hv h2 h3 _ e2⟩
 case pick c a b=>
  replace h:=AN h;obtain⟨vc,h1,h⟩:=h;replace h:=AN h;obtain⟨va,h2,h⟩:=h;replace h:=AN h;obtain⟨vb,h3,h⟩:=h;obtain⟨vc',e1,r1⟩:=Ao he h1;obtain⟨va',e2,r2⟩:=Ao he h2;obtain⟨vb',e3,r3⟩:=Ao he h3;rw[e1,e2,e3];simp only[wv];split at h
  ·rename_i t
   simp only[RV]at r1;subst r1;cases h;have hh:=hv rfl rfl (bif t then va' else vb') (by cases t;exact r3;exact r2);cases t<;>cases va'<;>first|exact hh|(cases vb'<;>exact hh)
  ·cases h
 case bin op x y=>
  replace h:=AN h;obtain⟨vx,h1,h⟩:=h;replace h:=AN h;obtain⟨vy,h2,h⟩:=h;obtain⟨v,h3,h4,h5⟩:=CE h;obtain⟨vx',e1,r1⟩:=Ao he h1;obtain⟨vy',e2,r2⟩:=Ao he h2;obtain⟨p1,p2,p3,p4⟩:=js h3;rw[e1,e2,RV.dC r1 p1,RV.dC r2 p2];exact p4 (fun v=>k v σ) (hv h4 h5 _ (RV.pure _ p3))
 case V5 neg x y=>
  replace h:=AN h;obtain⟨vx,h1,h⟩:=h;replace h:=AN h;obtain⟨vy,h2,h⟩:=h;obtain⟨vx',e1,r1⟩:=Ao he h1;obtain⟨vy',e2,r2⟩:=Ao he h2;rw[e1,e2];split at h
  ·simp only[RV]at r1 r2
   subst r1;subst r2;cases h;exact hv rfl rfl _ (RV.pure _ rfl)
  ·cases h
 case not x=>
  replace h:=AN h;obtain⟨vx,h1,h⟩:=h;obtain⟨vx',e1,r1⟩:=Ao he h1;rw[e1];split at h
  ·simp only[RV]at r1
   subst r1;cases h;exact hv rfl rfl _ (RV.pure _ rfl)
  ·cases h
 case neg xor x=>
  replace h:=AN h;obtain⟨vx,h1,h⟩:=h;obtain⟨vx',e1,r1⟩:=Ao he h1;rw[e1];split at h
  ·simp only[RV]at r1
   subst r1;cases h;exact hv rfl rfl _ (RV.pure _ rfl)
  ·cases h
 case conv ka x=>
  replace h:=AN h;obtain⟨vx,h1,h⟩:=h;obtain⟨vx',e1,r1⟩:=Ao he h1;rw[e1];split at h
  ·simp only[RV]at r1
   subst r1;cases h;have:=hv rfl rfl _ (RV.pure _ rfl);rw[Hw]at this;exact this
  ·cases h
 case box x=>
  replace h:=AN h;obtain⟨vx,h1,h⟩:=h;replace h:=AN h;obtain⟨cs,h2,h⟩:=h;obtain⟨vx',e1,r1⟩:=Ao he h1;obtain⟨cs',e2,r2⟩:=Fj h2 r1;obtain⟨h3,h4⟩:=St.HC h;cases h4;rw[e1];simp only[wv,e2];intro n hn;obtain⟨ρ',q1,q2,q3⟩:=hs.new h3 hn 0 (o:= .cs cs) (o':= .cs cs') ⟨_,r2,rfl⟩;exact hvr rfl ρ' _ _ q1 (by simp only[RV];exact⟨_,q2,rfl⟩) q3
 case MS x=>
  replace h:=AN h;obtain⟨vx,h1,h⟩:=h;replace h:=AN h;obtain⟨cs,h2,h⟩:=h;obtain⟨vx',e1,r1⟩:=Ao he h1;obtain⟨cs',e2,r2⟩:=Fj h2 r1;cases h;rw[e1];simp only[wv,e2];exact hv rfl rfl _ (by simp only[RV];exact⟨_,Ba.2 r2,rfl⟩)
 case Oq sz b x y=>
  replace h:=AN h;obtain⟨vx,h1,h⟩:=h;replace h:=AN h;obtain⟨vy,h2,h⟩:=h;obtain⟨v,h3,h4,h5⟩:=CE h;obtain⟨vx',e1,r1⟩:=Ao he h1;obtain⟨vy',e2,r2⟩:=Ao he h2;rw[e1,e2];exact cH hs h3 r1 r2 (hv h4 h5)
 case alloc z=>
  replace h:=AT h;obtain⟨h0,h⟩:=h;obtain⟨h3,h4⟩:=St.HC h;cases h4;intro n hn;obtain⟨ρ',q1,q2,q3⟩:=hs.new h3 hn 0 (o:= .cs z) (o':= .cs z) ⟨_,Ba.1 (RL.pure z h0),rfl⟩;exact hvr rfl ρ' _ _ q1 (by simp only[RV];exact⟨_,q2,rfl⟩) q3
 case build z parts=>
  replace h:=AT h;obtain⟨h0,h⟩:=h;replace h:=AN h;obtain⟨cs,h1,h⟩:=h;cases h;obtain⟨cs',e1,r1⟩:=P0 he h1 (Ba.1 (RL.pure z h0));rw[e1];exact hv rfl rfl _ (by simp only[RV];exact⟨_,Ba.2 r1,rfl⟩)
 case Am b len z parts=>
  replace h:=AT h;obtain⟨h0,h⟩:=h;replace h:=AN h;obtain⟨cs,h1,h⟩:=h;cases h;obtain⟨cs',e1,r1⟩:=P1 he h1 (F2.rep (Ba.1 (RL.pure z h0)) len);rw[e1];exact hv rfl rfl _ (by simp only[RV];exact⟨_,Eu.2 r1,rfl⟩)
 case load agg x=>
  replace h:=AN h;obtain⟨vx,h1,h⟩:=h;obtain⟨v,h3,h4,h5⟩:=CE h;obtain⟨vx',e1,r1⟩:=Ao he h1;rw[e1];exact TO hs h3 r1 (hv h4 h5)
 case store sz a x=>
  replace h:=AN h;obtain⟨vx,h1,h⟩:=h;replace h:=AN h;obtain⟨vy,h2,h⟩:=h;obtain⟨vx',e1,r1⟩:=Ao he h1;obtain⟨vy',e2,r2⟩:=Ao he h2;obtain⟨h3,h4⟩:=hu h;rw[e1,e2];exact Yc hs h3 r1 r2 h4
 case GZ off x=>
  replace h:=AN h;obtain⟨vx,h1,h⟩:=h;obtain⟨v,h3,h4,h5⟩:=CE h;obtain⟨vx',e1,r1⟩:=Ao he h1;rw[e1];exact Yh h3 r1 (hv h4 h5)
 case field agg off x=>
  replace h:=AN h;obtain⟨vx,h1,h⟩:=h;obtain⟨vx',e1,r1⟩:=Ao he h1;rw[e1];split at h
  ·obtain⟨v,h3,h4,h5⟩:=CE h
   obtain⟨c,g1,rfl⟩:=r1;exact J7 h3 (Ba.1 g1) (hv h4 h5)
  ·cases h
 case BG sz arr x i=>
  replace h:=AN h;obtain⟨vx,h1,h⟩:=h;replace h:=AN h;obtain⟨vy,h2,h⟩:=h;obtain⟨v,h3,h4,h5⟩:=CE h;obtain⟨vx',e1,r1⟩:=Ao he h1;obtain⟨vy',e2,r2⟩:=Ao he h2;rw[e1,e2];exact Yg h3 r1 r2 (hv h4 h5)
 case index len sz agg x i=>
  replace h:=AN h;obtain⟨vx,h1,h⟩:=h;replace h:=AN h;obtain⟨vy,h2,h⟩:=h;obtain⟨v,h3,h4,h5⟩:=CE h;obtain⟨vx',e1,r1⟩:=Ao he h1;obtain⟨vy',e2,r2⟩:=Ao he h2;rw[e1,e2];exact Yf h3 r1 r2 (hv h4 h5)
 case slice sz x lo hi mx=>
  replace h:=AN h;obtain⟨vx,h1,h⟩:=h;replace h:=AN h;obtain⟨l,h2,h⟩:=h;replace h:=AN h;obtain⟨hh,h3,h⟩:=h;replace h:=AN h;obtain⟨m,h4,h⟩:=h;obtain⟨v,h5,h6⟩:=KM h;obtain⟨vx',e1,r1⟩:=Ao he h1;obtain⟨l',e2,r2⟩:=LZ he h2;obtain⟨hh',e3,r3⟩:=LZ he h3;obtain⟨m',e4,r4⟩:=LZ he h4;rw[e1,e2,e3,e4];exact Yd hs h5 r1 r2 r3 r4 (hvr h6)
 case len x=>
  replace h:=AN h;obtain⟨vx,h1,h⟩:=h;obtain⟨v,h3,h4,h5⟩:=CE h;obtain⟨vx',e1,r1⟩:=Ao he h1;rw[e1];exact jo h3 r1 (hv h4 h5)
 case QP x=>
  replace h:=AN h;obtain⟨vx,h1,h⟩:=h;obtain⟨v,h3,h4,h5⟩:=CE h;obtain⟨vx',e1,r1⟩:=Ao he h1;rw[e1];exact cF hs h3 r1 (hv h4 h5)
 case Oj x i=>
  replace h:=AN h;obtain⟨vx,h1,h⟩:=h;replace h:=AN h;obtain⟨vi,h2,h⟩:=h;obtain⟨v,h3,h4,h5⟩:=CE h;obtain⟨vx',e1,r1⟩:=Ao he h1;obtain⟨vi',e2,r2⟩:=Ao he h2;rw[e1,e2];exact cE h3 r1 r2 (hv h4 h5)
 case str x=>
  replace h:=AN h;obtain⟨vx,h1,h⟩:=h;obtain⟨v,h3,h4,h5⟩:=CE h;obtain⟨vx',e1,r1⟩:=Ao he h1;rw[e1];exact jn hs h3 r1 (hv h4 h5)
 case append sz b x y=>
  replace h:=AN h;obtain⟨vx,h1,h⟩:=h;replace h:=AN h;obtain⟨vy,h2,h⟩:=h;obtain⟨v,h3,h4⟩:=KM h;obtain⟨vx',e1,r1⟩:=Ao he h1;obtain⟨vy',e2,r2⟩:=Ao he h2;rw[e1,e2];exact Vq hs h3 r1 r2 (hvr h4)
 case copy sz x y=>
  replace h:=AN h;obtain⟨vx,h1,h⟩:=h;replace h:=AN h;obtain⟨vy,h2,h⟩:=h;obtain⟨v,h3,h4⟩:=KM h;obtain⟨vx',e1,r1⟩:=Ao he h1;obtain⟨vy',e2,r2⟩:=Ao he h2;rw[e1,e2];exact cG hs h3 r1 r2 (hvs h4)
 case MP x y=>
  replace h:=AN h;obtain⟨vx,h1,h⟩:=h;replace h:=AN h;obtain⟨vy,h2,h⟩:=h;obtain⟨vx',e1,r1⟩:=Ao he h1;obtain⟨vy',e2,r2⟩:=Ao he h2;rw[e1,e2];split at h
  ·rename_i ka a kb b
   simp only[RV]at r1 r2;subst r1;subst r2;obtain⟨h3,h4⟩:=AT h;cases h4;refine⟨of_decide_eq_true h3,?_⟩;have:=hv rfl rfl _ (RV.pure _ rfl);rw[NS]at this;by_cases e:a<b
   ·rw[if_pos e];rw[decide_eq_true e]at this;exact this
   ·rw[if_neg e];rw[decide_eq_false e]at this;exact this
  ·cases h
 case Om x y=>
  replace h:=AN h;obtain⟨vx,h1,h⟩:=h;replace h:=AN h;obtain⟨vy,h2,h⟩:=h;obtain⟨vx',e1,r1⟩:=Ao he h1;obtain⟨vy',e2,r2⟩:=Ao he h2;rw[e1,e2];split at h
  ·rename_i ka a kb b
   simp only[RV]at r1 r2;subst r1;subst r2;obtain⟨h3,h4⟩:=AT h;cases h4;refine⟨of_decide_eq_true h3,?_⟩;have:=hv rfl rfl _ (RV.pure _ rfl);rw[NS]at this;by_cases e:b<a
   ·rw[if_pos e];rw[decide_eq_true e]at this;exact this
   ·rw[if_neg e];rw[decide_eq_false e]at this;exact this
  ·cases h
 case extract i x=>
  replace h:=AN h;obtain⟨vx,h1,h⟩:=h;obtain⟨vx',e1,r1⟩:=Ao he h1;rw[e1];split at h
  ·obtain⟨v,h3,h4,h5⟩:=CE h
   obtain⟨c,g1,rfl⟩:=r1;obtain⟨y,g2,g3⟩:=(Ba.1 g1).get h3;simp only[wv,g2];exact hv h4 h5 _ g3
  ·cases h
 case D5 x=>
  replace h:=AN h;obtain⟨vx,h1,h⟩:=h;obtain⟨v,h3,h4,h5⟩:=CE h;obtain⟨vx',e1,r1⟩:=Ao he h1;rw[e1];exact Ye (K:=fun v=>k v σ) h3 r1 (hv h4 h5)
 case GN f first cap=>
  replace h:=AN h;obtain⟨vf,h1,h⟩:=h;replace h:=AN h;obtain⟨vc,h2,h⟩:=h;obtain⟨h3,h4⟩:=AT h;cases h4;obtain⟨vf',e1,r1⟩:=HI he h1;obtain⟨vc',e2,r2⟩:=HI he h2;rw[e1,e2];refine hv rfl rfl _ ?_;simp only[RV];exact⟨f,vf',vc',by cases f<;>first|rfl|(simp[K5]at h3),Ba.2 r1,Ba.2 r2,rfl⟩
 case Ep t x=>
  replace h:=AN h;obtain⟨vx,h1,h⟩:=h;cases h;obtain⟨vx',e1,r1⟩:=Ao he h1;rw[e1];exact hv rfl rfl _ (by simp only[RV];exact⟨_,r1,rfl⟩)
 case V2 t z ok x=>
  replace h:=AN h;obtain⟨vx,h1,h⟩:=h;obtain⟨v,h3,h4,h5⟩:=CE h;obtain⟨vx',e1,r1⟩:=Ao he h1;rw[e1];exact jm (K:=fun v=>k v σ) h3 r1 (hv h4 h5)
 case panic x=>
  replace h:=AN h;obtain⟨vx,h1,h⟩:=h;obtain⟨vx',e1,r1⟩:=Ao he h1;rw[e1];split at h
  ·rename_i t v
   obtain⟨v',g1,rfl⟩:=r1;cases h;exact hk ρ (.Bi (.ET t v')) σ (.refl _) ⟨_,by simp only[RV];exact⟨v',g1,rfl⟩,rfl⟩ hs
  ·cases h
 case call f args=>
  replace h:=AN h;obtain⟨vs,h1,h⟩:=h;obtain⟨vs',e1,r1⟩:=HI he h1;rw[e1];exact hcf f vs s r s' h ρ vs' σ r1 hs _ hk
 case ZG len neg x y=>
  replace h:=AN h;obtain⟨vx,h1,h⟩:=h;replace h:=AN h;obtain⟨vy,h2,h⟩:=h;obtain⟨v,h3,h4,h5⟩:=CE h;obtain⟨vx',e1,r1⟩:=Ao he h1;obtain⟨vy',e2,r2⟩:=Ao he h2;rw[e1,e2];exact jr h3 r1 r2 (hv h4 h5)
 case UN kind neg x=>
  replace h:=AN h;obtain⟨vx,h1,h⟩:=h;obtain⟨v,h3,h4,h5⟩:=CE h;obtain⟨vx',e1,r1⟩:=Ao he h1;rw[e1];exact jq h3 r1 (hv h4 h5)
 case EK sz b z x y=>
  replace h:=AN h;obtain⟨vx,h1,h⟩:=h;replace h:=AN h;obtain⟨vy,h2,h⟩:=h;obtain⟨v,h3,h4⟩:=KM h;obtain⟨vx',e1,r1⟩:=Ao he h1;obtain⟨vy',e2,r2⟩:=Ao he h2;rw[e1,e2];exact T6 hs h3 r1 r2 (hvr h4)
 case Fw=>
  obtain⟨h3,h4⟩:=St.HC h;cases h4;intro n hn;obtain⟨ρ',q1,q2,q3⟩:=hs.new h3 hn 0 (o:= .map []) (o':= .map []) ⟨[],F2.nil,rfl⟩;exact hvr rfl ρ' _ _ q1 (by simp only[RV];exact⟨_,q2,rfl⟩) q3
 case lookup ks z ok m key=>
  replace h:=AN h;obtain⟨vx,h1,h⟩:=h;replace h:=AN h;obtain⟨vy,h2,h⟩:=h;obtain⟨v,h3,h4,h5⟩:=CE h;obtain⟨vx',e1,r1⟩:=Ao he h1;obtain⟨vy',e2,r2⟩:=Ao he h2;rw[e1,e2];exact Vp hs h3 r1 r2 (hv h4 h5)
 case Cw ks m key x=>
  replace h:=AN h;obtain⟨vx,h1,h⟩:=h;replace h:=AN h;obtain⟨vy,h2,h⟩:=h;replace h:=AN h;obtain⟨vz,h3,h⟩:=h;obtain⟨vx',e1,r1⟩:=Ao he h1;obtain⟨vy',e2,r2⟩:=Ao he h2;obtain⟨vz',e3,r3⟩:=Ao he h3;obtain⟨h4,h5⟩:=hu h;rw[e1,e2,e3];exact Vo hs h4 r1 r2 r3 h5
 case Iy f args=>
  replace h:=AN h;obtain⟨vs,h1,h⟩:=h;obtain⟨v,h3,h4,h5⟩:=CE h;obtain⟨vs',e1,r1⟩:=HI he h1;obtain⟨p1,p2,p3⟩:=hcp f vs v h3;rw[e1,dL r1 p1];exact⟨v,p3,hv h4 h5 _ (RV.pure _ p2)⟩
 case Bs x args=>
  replace h:=AN h;obtain⟨vx,h1,h⟩:=h;replace h:=AN h;obtain⟨vs,h2,h⟩:=h;obtain⟨vx',e1,r1⟩:=Ao he h1;obtain⟨vs',e2,r2⟩:=HI he h2;rw[e1,e2];exact hcv vx vs s r s' h ρ vx' vs' σ r1 r2 hs _ hk
 case inv tab x args=>
  replace h:=AN h;obtain⟨vx,h1,h⟩:=h;replace h:=AN h;obtain⟨vs,h2,h⟩:=h;obtain⟨vx',e1,r1⟩:=Ao he h1;obtain⟨vs',e2,r2⟩:=HI he h2;rw[e1,e2];split at h
  ·rename_i t v
   obtain⟨v',g1,rfl⟩:=r1;obtain⟨f,h3,h4⟩:=AN h;simp only[wv,ws,Bf,h3];exact hcf f (v::vs) s r s' h4 ρ (v'::vs') σ (F2.cons g1 r2) hs _ hk
  ·cases h
 all_goals cases h
end Go.Gl
