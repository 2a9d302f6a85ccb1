import Derived.Test.YtijbpgdmpejgoaaGreatQ23
set_option linter.all false
set_option linter.unusedVariables false
set_option linter.unusedSimpArgs false
namespace Go.Gl
variable {P:Program} {ρ ρ':Ren} {σ:AH} {env env₀:Env}
def ob {α β:Type} (o:Option α) (k:α→Option β):Option β:=match o with|some v=>k v|none=>none
theorem AQ {α β:Type} {o:Option α} {k:α→Option β} {r:β} (h:ob o k=some r): ∃v,o=some v∧k v=some r:=by
 cases o with
 | none=>cases h
 | some v=>exact⟨v,rfl,h⟩
def REx (ρ:Ren):Ag→Ag→Prop
 | .By v,x=> ∃v',RV ρ v v'∧x= .By v'
 | .normal,x=>x= .normal
 | .ret,x=>x= .ret
 | .exit id,x=>x= .exit id
def lI (ρ:Ren):R→R→Prop
 | .ret v,r=> ∃v',RV ρ v v'∧r= .ret v'
 | .By v,r=> ∃v',RV ρ v v'∧r= .By v'
abbrev CF:=FuncId→List V→St→Option (R×St)
abbrev CV:=V→List V→St→Option (R×St)
abbrev CP:=FuncId→List V→Option V
def KJ (P:Program) (c:CF):Prop:= ∀f vs s r s',c f vs s=some (r,s')→ ∀ρ vs' σ,Kh ρ vs vs'→SR P ρ s σ→ ∀Q:R→AH→Prop,(∀ρ' r' σ',ρ.le ρ'→lI ρ' r r'→SR P ρ' s' σ'→Q r' σ')→Bj P f vs' σ Q
def JM (P:Program) (c:CV):Prop:= ∀x vs s r s',c x vs s=some (r,s')→ ∀ρ x' vs' σ,RV ρ x x'→Kh ρ vs vs'→SR P ρ s σ→ ∀Q:R→AH→Prop,(∀ρ' r' σ',ρ.le ρ'→lI ρ' r r'→SR P ρ' s' σ'→Q r' σ')→Bz P x' vs' σ Q
def MG (P:Program) (c:CP):Prop:= ∀f vs v,c f vs=some v→BX vs=true∧A1 v=true∧Pure P f vs v
def ov (o:Option V) (s:St):Option (R×St):=match o with|some v=>some (.ret v,s)|none=>none
theorem Ch {o:Option V} {s s':St} {r:R} (h:ov o s=some (r,s')): ∃v,o=some v∧r= .ret v∧s'=s:=by
 cases o with
 | none=>cases h
 | some v=>cases h;exact⟨v,rfl,rfl,rfl⟩
def os (o:Option St):Option (R×St):=match o with|some s=>some (.ret (.t []),s)|none=>none
theorem fA {o:Option St} {s':St} {r:R} (h:os o=some (r,s')):o=some s'∧r= .ret (.t []):=by
 cases o with
 | none=>cases h
 | some v=>cases h;exact⟨rfl,rfl⟩
def Xv (o:Option (V×St)):Option (R×St):=match o with|some (v,s)=>some (.ret v,s)|none=>none
theorem LM {o:Option (V×St)} {s':St} {r:R} (h:Xv o=some (r,s')): ∃v,o=some (v,s')∧r= .ret v:=by
 cases o with
 | none=>cases h
 | some v=>cases h;exact⟨_,rfl,rfl⟩
def J8 (env:Env):Option B1→Option (Option V)
 | none=>some none
 | some x=>match Dj env x with|some v=>some (some v)|none=>none
theorem MN (he:RE ρ env env₀) {x:Option B1} {v:Option V} (h:J8 env x=some v): ∃v',HF env₀ x=some v'∧lH ρ v v':=by
 cases x with
 | none=>cases h;exact⟨none,rfl,rfl⟩
 | some x=>
   simp only[J8]at h;split at h
   ·rename_i u hu
    cases h;obtain⟨v',h1,h2⟩:=Ay he hu;exact⟨some v',by simp only[HF,h1],v',h2,rfl⟩
   ·cases h
def Zm (t:TypeId) (z:V) (ok:Bool) (x:V):Option V:=
 match x with
 | .E2 t' v=>bif Nat.beq t' t then some (bif ok then .t [v,.b true]else v)else(bif ok&&A1 z then some (.t [z,.b false])else none)
 | .Dp=>bif ok&&A1 z then some (.t [z,.b false])else none
 | _=>none
def L8 (x:V):Option V:=
 match x with
 | .p n off=>some (.p n off)
 | .rp cs=>some (.rp cs)
 | .pe n sz i off=>some (.pe n sz i off)
 | .f (.func f) a b=>some (.f (.func f) a b)
 | .f (.yield f) a b=>some (.f (.yield f) a b)
 | _=>none
def Fq (cf:CF) (cv:CV) (cp:CP) (o:FA) (env:Env) (s:St):Option (R×St):=
 match o with
 | .mv x=>ov (Dj env x) s
 | .Ux x=>ov (Dj env x) s
 | .pick c a b=>ob (Dj env c) fun vc=>ob (Dj env a) fun va=>ob (Dj env b) fun vb=>match vc with| .b t=>some (.ret (bif t then va else vb),s)|_=>none
 | .bin op x y=>ob (Dj env x) fun vx=>ob (Dj env y) fun vy=>ov (S3 op vx vy) s
 | .Sk neg x y=>ob (Dj env x) fun vx=>ob (Dj env y) fun vy=>match vx,vy with| .b p,.b q=>some (.ret (.b (bif neg then p != q else p==q)),s)|_,_=>none
 | .not x=>ob (Dj env x) fun vx=>match vx with| .b p=>some (.ret (.b (!p)),s)|_=>none
 | .neg xor x=>ob (Dj env x) fun vx=>match vx with| .i ka a=>some (.ret (.i ka (bif xor then bits .xor ka (bif ka.signed then -1 else ka.max) a else ka.wrap (0 - a))),s)|_=>none
 | .conv ka x=>ob (Dj env x) fun vx=>match vx with| .i _ a=>some (.ret (.i ka (IG ka a)),s)|_=>none
 | .box x=>ob (Dj env x) fun vx=>ob (cellsOf vx) fun cs=>s.new (.cs cs) fun i s'=>some (.ret (.p i 0),s')
 | .NQ x=>ob (Dj env x) fun vx=>ob (cellsOf vx) fun cs=>some (.ret (.rp cs),s)
 | .N6 sz b x y=>ob (Dj env x) fun vx=>ob (Dj env y) fun vy=>ov (TN b s sz vx vy) s
 | .alloc z=>bif BX z then s.new (.cs z) fun i s'=>some (.ret (.p i 0),s')else none
 | .build z parts=>bif BX z then ob (MA env z parts) fun cs=>some (.ret (.a cs),s)else none
 | .Ab _ len z parts=>bif BX z then ob (MB env z.length (List.replicate len z) parts) fun es=>some (.ret (.l es true),s)else none
 | .load agg x=>ob (Dj env x) fun vx=>ov (Ms s agg vx) s
 | .store sz a x=>ob (Dj env a) fun va=>ob (Dj env x) fun vx=>os (OO s sz va vx)
 | .HH off x=>ob (Dj env x) fun vx=>ov (Rq off vx) s
 | .field agg off x=>ob (Dj env x) fun vx=>match vx with| .a cs=>ov (S0 agg cs off) s|_=>none
 | .Bi sz arr x i=>ob (Dj env x) fun vx=>ob (Dj env i) fun vi=>ov (L9 sz arr vx vi) s
 | .index len sz agg x i=>ob (Dj env x) fun vx=>ob (Dj env i) fun vi=>ov (OQ len sz agg vx vi) s
 | .slice sz x lo hi mx=>ob (Dj env x) fun vx=>ob (J8 env lo) fun l=>ob (J8 env hi) fun h=>ob (J8 env mx) fun m=>Xv (OP s sz vx l h m)
 | .len x=>ob (Dj env x) fun vx=>ov (X6 vx) s
 | .RG x=>ob (Dj env x) fun vx=>ov (TL s vx) s
 | .Pe x i=>ob (Dj env x) fun vx=>ob (Dj env i) fun vi=>ov (TK vx vi) s
 | .str x=>ob (Dj env x) fun vx=>ov (Zn s vx) s
 | .append sz b x y=>ob (Dj env x) fun vx=>ob (Dj env y) fun vy=>Xv (K9 b s sz vx vy)
 | .copy sz x y=>ob (Dj env x) fun vx=>ob (Dj env y) fun vy=>Xv (TM s sz vx vy)
 | .Jb x y=>ob (Dj env x) fun vx=>ob (Dj env y) fun vy=>match vx,vy with| .i ka a,.i kb b=>bif decide (ka=kb)then some (.ret (.i ka (bif Lt a b then b else a)),s)else none|_,_=>none
 | .NM x y=>ob (Dj env x) fun vx=>ob (Dj env y) fun vy=>match vx,vy with| .i ka a,.i kb b=>bif decide (ka=kb)then some (.ret (.i ka (bif Lt b a then b else a)),s)else none|_,_=>none
 | .extract i x=>ob (Dj env x) fun vx=>match vx with| .t vs=>ov (vs[i]?) s|_=>none
 | .Ei x=>ob (Dj env x) fun vx=>ov (L8 vx) s
 | .G8 f first cap=>ob (NN env first) fun vf=>ob (NN env cap) fun vc=>bif L2 f then some (.ret (.f f vf vc),s)else none
 | .FW t x=>ob (Dj env x) fun vx=>some (.ret (.E2 t vx),s)
 | .WW t z ok x=>ob (Dj env x) fun vx=>ov (Zm t z ok vx) s
 | .panic x=>ob (Dj env x) fun vx=>match vx with| .E2 t v=>some (.By (.E2 t v),s)|_=>none
 | .call f args=>ob (NN env args) fun vs=>cf f vs s
 | .dR len neg x y=>ob (Dj env x) fun vx=>ob (Dj env y) fun vy=>ov (Zp len neg vx vy) s
 | .U0 kind neg x=>ob (Dj env x) fun vx=>ov (Zo kind neg vx) s
 | .Dv sz _ z x y=>ob (Dj env x) fun vx=>ob (Dj env y) fun vy=>Xv (I3 s sz z vx vy)
 | .GZ=>s.new (.map []) fun i s'=>some (.ret (.m i),s')
 | .lookup ks z ok m key=>ob (Dj env m) fun vm=>ob (Dj env key) fun vk=>ov (K7 s ks z ok vm vk) s
 | .DO ks m key x=>ob (Dj env m) fun vm=>ob (Dj env key) fun vk=>ob (Dj env x) fun vx=>os (K6 s ks vm vk vx)
 | .Jr f args=>ob (NN env args) fun vs=>ov (cp f vs) s
 | .CC x args=>ob (Dj env x) fun vx=>ob (NN env args) fun vs=>cv vx vs s
 | .inv tab x args=>ob (Dj env x) fun vx=>ob (NN env args) fun vs=>match vx with| .E2 t v=>ob (look t tab) fun f=>cf f (v::vs) s|_=>none
 | _=>none
theorem kF {t:TypeId} {z:V} {ok:Bool} {x x' v:V} (h:Zm t z ok x=some v) (hx:RV ρ x x') {K:V→Prop} (U: ∀v',RV ρ v v'→K v') :
 match(generalizing:=false) x' with
  | .E2 t' v=>(t'=t→K (bif ok then .t [v,.b true]else v))∧(t'≠t→ok=true∧K (.t [z,.b false]))
  | .Dp=>ok=true∧K (.t [z,.b false])
  | _=>False:=by
 have zz: ∀ {v},A1 z=true→some (V.t [z,.b false])=some v→K (.t [z,.b false])→K v:=fun _ e k=>by cases e;exact k
 unfold Zm at h;split at h
 ·rename_i t' u
  obtain⟨u',h1,rfl⟩:=hx;refine⟨fun e=>?_,fun e=>?_⟩
  ·subst e
   rw[Nat.beq_refl]at h;cases h;cases ok with
   | true=>exact U _ (by simp only[cond_true,RV];exact⟨_,Bs.2 (F2.cons h1 (F2.cons (RV.pure _ rfl) F2.nil)),rfl⟩)
   | false=>exact U _ h1
  ·have hb:Nat.beq t' t=false:=by
    cases hb:Nat.beq t' t with
    | false=>rfl
    | true=>exact absurd (DA hb) e
   rw[hb]at h;obtain⟨h2,h3⟩:=AY h;simp only[Bn]at h2;cases h3;exact⟨h2.1,U _ (by simp only[RV];exact⟨_,Bs.2 (F2.cons (RV.pure _ h2.2) (F2.cons (RV.pure _ rfl) F2.nil)),rfl⟩)⟩
 ·simp only[RV]at hx
  subst hx;obtain⟨h2,h3⟩:=AY h;simp only[Bn]at h2;cases h3;exact⟨h2.1,U _ (by simp only[RV];exact⟨_,Bs.2 (F2.cons (RV.pure _ h2.2) (F2.cons (RV.pure _ rfl) F2.nil)),rfl⟩)⟩
 ·cases h
theorem Y1 {x x' v:V} (h:L8 x=some v) (hx:RV ρ x x') {K:V→Prop} (U: ∀v',RV ρ v v'→K v') :
 match(generalizing:=false) x' with
  | .p n off=>K (.p n off)
  | .rp cs=>K (.rp cs)
  | .pe n sz i off=>K (.pe n sz i off)
  | .f (.func f) first cap=>K (.f (.func f) first cap)
  | .f (.yield l) first cap=>K (.f (.yield l) first cap)
  | _=>False:=by
 have hv:v=x:=by unfold L8 at h;split at h<;>cases h<;>rfl
 subst hv;have hk:=U _ hx;unfold L8 at h;split at h
 ·obtain⟨_,_,rfl⟩:=hx;exact hk
 ·obtain⟨_,_,rfl⟩:=hx;exact hk
 ·obtain⟨_,_,rfl⟩:=hx;exact hk
 ·obtain⟨fn,a,b,h1,_,_,rfl⟩:=hx
  simp only[Xx]at h1;subst h1;exact hk
 ·obtain⟨fn,a,b,h1,_,_,rfl⟩:=hx
  obtain⟨m,_,rfl⟩:=h1;exact hk
 ·cases h
theorem aj {cf:CF} {cv:CV} {cp:CP} (hcf:KJ P cf) (hcv:JM P cv) (hcp:MG P cp) {o:FA} {s s':St} {r:R} (h:Fq cf cv cp o env s=some (r,s')) (he:RE ρ env env₀) (hs:SR P ρ s σ) {k kp:V→AH→Prop}
 (hk: ∀ρ' r' σ',ρ.le ρ'→lI ρ' r r'→SR P ρ' s' σ'→qk k kp r' σ'):FL P o env₀ σ k kp:=by
 have hv: ∀ {v:V},r= .ret v→s'=s→ ∀v',RV ρ v v'→k v' σ:=fun e1 e2 v' g=>by
  subst e1;subst e2;exact hk ρ (.ret v') σ (.refl _) ⟨v',g,rfl⟩ hs
 have hvs: ∀ {v:V},r= .ret v→ ∀v' σ',RV ρ v v'→SR P ρ s' σ'→k v' σ':=fun e1 v' σ' g g2=>by
  subst e1;exact hk ρ (.ret v') σ' (.refl _) ⟨v',g,rfl⟩ g2
 have hvr: ∀ {v:V},r= .ret v→ ∀ρ' v' σ',ρ.le ρ'→RV ρ' v v'→SR P ρ' s' σ'→k v' σ':=fun e1 ρ' v' σ' g0 g g2=>by
  subst e1;exact hk ρ' (.ret v') σ' g0 ⟨v',g,rfl⟩ g2
 have hu: ∀ {o1:Option St},os o1=some (r,s')→o1=some s'∧ ∀σ',SR P ρ s' σ'→k (.t []) σ':=fun h=>by
  obtain⟨h1,h2⟩:=fA h;subst h2;exact⟨h1,fun σ' h3=>hk ρ (.ret (.t [])) σ' (.refl _) ⟨_,RV.pure _ rfl,rfl⟩ h3⟩
 cases o<;>simp only[Fq]at h<;>simp only[FL]
 case mv x=>
  obtain⟨v,h1,h2,h3⟩:=Ch h;obtain⟨v',e1,e2⟩:=Ay he h1;rw[e1];exact hv h2 h3 _ e2
 case Ux x=>
  obtain⟨v,h1,h2,h3⟩:=Ch h;obtain⟨v',e1,e2⟩:=Ay he h1;rw[e1];exact⟨v',σ,Sub.refl _,.refl _,hv h2 h3 _ e2⟩
 case pick c a b=>
  replace h:=AQ h;obtain⟨vc,h1,h⟩:=h;replace h:=AQ h;obtain⟨va,h2,h⟩:=h;replace h:=AQ h;obtain⟨vb,h3,h⟩:=h;obtain⟨vc',e1,r1⟩:=Ay he h1;obtain⟨va',e2,r2⟩:=Ay he h2;obtain⟨vb',e3,r3⟩:=Ay he h3;rw[e1,e2,e3];simp only[wv];split at h
  ·rename_i t
   simp only[RV]at r1;subst r1;cases h;have hh:=hv rfl rfl (bif t then va' else vb') (by cases t;exact r3;exact r2);cases t<;>cases va'<;>first|exact hh|(cases vb'<;>exact hh)
  ·cases h
 case bin op x y=>
  replace h:=AQ h;obtain⟨vx,h1,h⟩:=h;replace h:=AQ h;obtain⟨vy,h2,h⟩:=h;obtain⟨v,h3,h4,h5⟩:=Ch h;obtain⟨vx',e1,r1⟩:=Ay he h1;obtain⟨vy',e2,r2⟩:=Ay he h2;obtain⟨p1,p2,p3,p4⟩:=kK h3;rw[e1,e2,RV.da r1 p1,RV.da r2 p2];exact p4 (fun v=>k v σ) (hv h4 h5 _ (RV.pure _ p3))
 case Sk neg x y=>
  replace h:=AQ h;obtain⟨vx,h1,h⟩:=h;replace h:=AQ h;obtain⟨vy,h2,h⟩:=h;obtain⟨vx',e1,r1⟩:=Ay he h1;obtain⟨vy',e2,r2⟩:=Ay he h2;rw[e1,e2];split at h
  ·simp only[RV]at r1 r2
   subst r1;subst r2;cases h;exact hv rfl rfl _ (RV.pure _ rfl)
  ·cases h
 case not x=>
  replace h:=AQ h;obtain⟨vx,h1,h⟩:=h;obtain⟨vx',e1,r1⟩:=Ay he h1;rw[e1];split at h
  ·simp only[RV]at r1
   subst r1;cases h;exact hv rfl rfl _ (RV.pure _ rfl)
  ·cases h
 case neg xor x=>
  replace h:=AQ h;obtain⟨vx,h1,h⟩:=h;obtain⟨vx',e1,r1⟩:=Ay he h1;rw[e1];split at h
  ·simp only[RV]at r1
   subst r1;cases h;exact hv rfl rfl _ (RV.pure _ rfl)
  ·cases h
 case conv ka x=>
  replace h:=AQ h;obtain⟨vx,h1,h⟩:=h;obtain⟨vx',e1,r1⟩:=Ay he h1;rw[e1];split at h
  ·simp only[RV]at r1
   subst r1;cases h;have:=hv rfl rfl _ (RV.pure _ rfl);rw[Iy]at this;exact this
  ·cases h
 case box x=>
  replace h:=AQ h;obtain⟨vx,h1,h⟩:=h;replace h:=AQ h;obtain⟨cs,h2,h⟩:=h;obtain⟨vx',e1,r1⟩:=Ay he h1;obtain⟨cs',e2,r2⟩:=GQ h2 r1;obtain⟨h3,h4⟩:=St.Hq h;cases h4;rw[e1];simp only[wv,e2];intro n hn;obtain⟨ρ',q1,q2,q3⟩:=hs.new h3 hn 0 (o:= .cs cs) (o':= .cs cs') ⟨_,r2,rfl⟩;exact hvr rfl ρ' _ _ q1 (by simp only[RV];exact⟨_,q2,rfl⟩) q3
 case NQ x=>
  replace h:=AQ h;obtain⟨vx,h1,h⟩:=h;replace h:=AQ h;obtain⟨cs,h2,h⟩:=h;obtain⟨vx',e1,r1⟩:=Ay he h1;obtain⟨cs',e2,r2⟩:=GQ h2 r1;cases h;rw[e1];simp only[wv,e2];exact hv rfl rfl _ (by simp only[RV];exact⟨_,Bs.2 r2,rfl⟩)
 case N6 sz b x y=>
  replace h:=AQ h;obtain⟨vx,h1,h⟩:=h;replace h:=AQ h;obtain⟨vy,h2,h⟩:=h;obtain⟨v,h3,h4,h5⟩:=Ch h;obtain⟨vx',e1,r1⟩:=Ay he h1;obtain⟨vy',e2,r2⟩:=Ay he h2;rw[e1,e2];exact cd hs h3 r1 r2 (hv h4 h5)
 case alloc z=>
  replace h:=AY h;obtain⟨h0,h⟩:=h;obtain⟨h3,h4⟩:=St.Hq h;cases h4;intro n hn;obtain⟨ρ',q1,q2,q3⟩:=hs.new h3 hn 0 (o:= .cs z) (o':= .cs z) ⟨_,Bs.1 (RL.pure z h0),rfl⟩;exact hvr rfl ρ' _ _ q1 (by simp only[RV];exact⟨_,q2,rfl⟩) q3
 case build z parts=>
  replace h:=AY h;obtain⟨h0,h⟩:=h;replace h:=AQ h;obtain⟨cs,h1,h⟩:=h;cases h;obtain⟨cs',e1,r1⟩:=Qn he h1 (Bs.1 (RL.pure z h0));rw[e1];exact hv rfl rfl _ (by simp only[RV];exact⟨_,Bs.2 r1,rfl⟩)
 case Ab b len z parts=>
  replace h:=AY h;obtain⟨h0,h⟩:=h;replace h:=AQ h;obtain⟨cs,h1,h⟩:=h;cases h;obtain⟨cs',e1,r1⟩:=Qo he h1 (F2.rep (Bs.1 (RL.pure z h0)) len);rw[e1];exact hv rfl rfl _ (by simp only[RV];exact⟨_,Fb.2 r1,rfl⟩)
 case load agg x=>
  replace h:=AQ h;obtain⟨vx,h1,h⟩:=h;obtain⟨v,h3,h4,h5⟩:=Ch h;obtain⟨vx',e1,r1⟩:=Ay he h1;rw[e1];exact T8 hs h3 r1 (hv h4 h5)
 case store sz a x=>
  replace h:=AQ h;obtain⟨vx,h1,h⟩:=h;replace h:=AQ h;obtain⟨vy,h2,h⟩:=h;obtain⟨vx',e1,r1⟩:=Ay he h1;obtain⟨vy',e2,r2⟩:=Ay he h2;obtain⟨h3,h4⟩:=hu h;rw[e1,e2];exact Yz hs h3 r1 r2 h4
 case HH off x=>
  replace h:=AQ h;obtain⟨vx,h1,h⟩:=h;obtain⟨v,h3,h4,h5⟩:=Ch h;obtain⟨vx',e1,r1⟩:=Ay he h1;rw[e1];exact Y4 h3 r1 (hv h4 h5)
 case field agg off x=>
  replace h:=AQ h;obtain⟨vx,h1,h⟩:=h;obtain⟨vx',e1,r1⟩:=Ay he h1;rw[e1];split at h
  ·obtain⟨v,h3,h4,h5⟩:=Ch h
   obtain⟨c,g1,rfl⟩:=r1;exact K8 h3 (Bs.1 g1) (hv h4 h5)
  ·cases h
 case Bi sz arr x i=>
  replace h:=AQ h;obtain⟨vx,h1,h⟩:=h;replace h:=AQ h;obtain⟨vy,h2,h⟩:=h;obtain⟨v,h3,h4,h5⟩:=Ch h;obtain⟨vx',e1,r1⟩:=Ay he h1;obtain⟨vy',e2,r2⟩:=Ay he h2;rw[e1,e2];exact Y3 h3 r1 r2 (hv h4 h5)
 case index len sz agg x i=>
  replace h:=AQ h;obtain⟨vx,h1,h⟩:=h;replace h:=AQ h;obtain⟨vy,h2,h⟩:=h;obtain⟨v,h3,h4,h5⟩:=Ch h;obtain⟨vx',e1,r1⟩:=Ay he h1;obtain⟨vy',e2,r2⟩:=Ay he h2;rw[e1,e2];exact Y2 h3 r1 r2 (hv h4 h5)
 case slice sz x lo hi mx=>
  replace h:=AQ h;obtain⟨vx,h1,h⟩:=h;replace h:=AQ h;obtain⟨l,h2,h⟩:=h;replace h:=AQ h;obtain⟨hh,h3,h⟩:=h;replace h:=AQ h;obtain⟨m,h4,h⟩:=h;obtain⟨v,h5,h6⟩:=LM h;obtain⟨vx',e1,r1⟩:=Ay he h1;obtain⟨l',e2,r2⟩:=MN he h2;obtain⟨hh',e3,r3⟩:=MN he h3;obtain⟨m',e4,r4⟩:=MN he h4;rw[e1,e2,e3,e4];exact Y0 hs h5 r1 r2 r3 r4 (hvr h6)
 case len x=>
  replace h:=AQ h;obtain⟨vx,h1,h⟩:=h;obtain⟨v,h3,h4,h5⟩:=Ch h;obtain⟨vx',e1,r1⟩:=Ay he h1;rw[e1];exact kH h3 r1 (hv h4 h5)
 case RG x=>
  replace h:=AQ h;obtain⟨vx,h1,h⟩:=h;obtain⟨v,h3,h4,h5⟩:=Ch h;obtain⟨vx',e1,r1⟩:=Ay he h1;rw[e1];exact cZ hs h3 r1 (hv h4 h5)
 case Pe x i=>
  replace h:=AQ h;obtain⟨vx,h1,h⟩:=h;replace h:=AQ h;obtain⟨vi,h2,h⟩:=h;obtain⟨v,h3,h4,h5⟩:=Ch h;obtain⟨vx',e1,r1⟩:=Ay he h1;obtain⟨vi',e2,r2⟩:=Ay he h2;rw[e1,e2];exact cY h3 r1 r2 (hv h4 h5)
 case str x=>
  replace h:=AQ h;obtain⟨vx,h1,h⟩:=h;obtain⟨v,h3,h4,h5⟩:=Ch h;obtain⟨vx',e1,r1⟩:=Ay he h1;rw[e1];exact kG hs h3 r1 (hv h4 h5)
 case append sz b x y=>
  replace h:=AQ h;obtain⟨vx,h1,h⟩:=h;replace h:=AQ h;obtain⟨vy,h2,h⟩:=h;obtain⟨v,h3,h4⟩:=LM h;obtain⟨vx',e1,r1⟩:=Ay he h1;obtain⟨vy',e2,r2⟩:=Ay he h2;rw[e1,e2];exact WC hs h3 r1 r2 (hvr h4)
 case copy sz x y=>
  replace h:=AQ h;obtain⟨vx,h1,h⟩:=h;replace h:=AQ h;obtain⟨vy,h2,h⟩:=h;obtain⟨v,h3,h4⟩:=LM h;obtain⟨vx',e1,r1⟩:=Ay he h1;obtain⟨vy',e2,r2⟩:=Ay he h2;rw[e1,e2];exact cb hs h3 r1 r2 (hvs h4)
 case Jb x y=>
  replace h:=AQ h;obtain⟨vx,h1,h⟩:=h;replace h:=AQ h;obtain⟨vy,h2,h⟩:=h;obtain⟨vx',e1,r1⟩:=Ay he h1;obtain⟨vy',e2,r2⟩:=Ay he h2;rw[e1,e2];split at h
  ·rename_i ka a kb b
   simp only[RV]at r1 r2;subst r1;subst r2;obtain⟨h3,h4⟩:=AY h;cases h4;refine⟨of_decide_eq_true h3,?_⟩;have:=hv rfl rfl _ (RV.pure _ rfl);rw[OL]at this;by_cases e:a<b
   ·rw[if_pos e];rw[decide_eq_true e]at this;exact this
   ·rw[if_neg e];rw[decide_eq_false e]at this;exact this
  ·cases h
 case NM x y=>
  replace h:=AQ h;obtain⟨vx,h1,h⟩:=h;replace h:=AQ h;obtain⟨vy,h2,h⟩:=h;obtain⟨vx',e1,r1⟩:=Ay he h1;obtain⟨vy',e2,r2⟩:=Ay he h2;rw[e1,e2];split at h
  ·rename_i ka a kb b
   simp only[RV]at r1 r2;subst r1;subst r2;obtain⟨h3,h4⟩:=AY h;cases h4;refine⟨of_decide_eq_true h3,?_⟩;have:=hv rfl rfl _ (RV.pure _ rfl);rw[OL]at this;by_cases e:b<a
   ·rw[if_pos e];rw[decide_eq_true e]at this;exact this
   ·rw[if_neg e];rw[decide_eq_false e]at this;exact this
  ·cases h
 case extract i x=>
  replace h:=AQ h;obtain⟨vx,h1,h⟩:=h;obtain⟨vx',e1,r1⟩:=Ay he h1;rw[e1];split at h
  ·obtain⟨v,h3,h4,h5⟩:=Ch h
   obtain⟨c,g1,rfl⟩:=r1;obtain⟨y,g2,g3⟩:=(Bs.1 g1).get h3;simp only[wv,g2];exact hv h4 h5 _ g3
  ·cases h
 case Ei x=>
  replace h:=AQ h;obtain⟨vx,h1,h⟩:=h;obtain⟨v,h3,h4,h5⟩:=Ch h;obtain⟨vx',e1,r1⟩:=Ay he h1;rw[e1];exact Y1 (K:=fun v=>k v σ) h3 r1 (hv h4 h5)
 case G8 f first cap=>
  replace h:=AQ h;obtain⟨vf,h1,h⟩:=h;replace h:=AQ h;obtain⟨vc,h2,h⟩:=h;obtain⟨h3,h4⟩:=AY h;cases h4;obtain⟨vf',e1,r1⟩:=Hy he h1;obtain⟨vc',e2,r2⟩:=Hy he h2;rw[e1,e2];refine hv rfl rfl _ ?_;simp only[RV];exact⟨f,vf',vc',by cases f<;>first|rfl|(simp[L2]at h3),Bs.2 r1,Bs.2 r2,rfl⟩
 case FW t x=>
  replace h:=AQ h;obtain⟨vx,h1,h⟩:=h;cases h;obtain⟨vx',e1,r1⟩:=Ay he h1;rw[e1];exact hv rfl rfl _ (by simp only[RV];exact⟨_,r1,rfl⟩)
 case WW t z ok x=>
  replace h:=AQ h;obtain⟨vx,h1,h⟩:=h;obtain⟨v,h3,h4,h5⟩:=Ch h;obtain⟨vx',e1,r1⟩:=Ay he h1;rw[e1];exact kF (K:=fun v=>k v σ) h3 r1 (hv h4 h5)
 case panic x=>
  replace h:=AQ h;obtain⟨vx,h1,h⟩:=h;obtain⟨vx',e1,r1⟩:=Ay he h1;rw[e1];split at h
  ·rename_i t v
   obtain⟨v',g1,rfl⟩:=r1;cases h;exact hk ρ (.By (.E2 t v')) σ (.refl _) ⟨_,by simp only[RV];exact⟨v',g1,rfl⟩,rfl⟩ hs
  ·cases h
 case call f args=>
  replace h:=AQ h;obtain⟨vs,h1,h⟩:=h;obtain⟨vs',e1,r1⟩:=Hy he h1;rw[e1];exact hcf f vs s r s' h ρ vs' σ r1 hs _ hk
 case dR len neg x y=>
  replace h:=AQ h;obtain⟨vx,h1,h⟩:=h;replace h:=AQ h;obtain⟨vy,h2,h⟩:=h;obtain⟨v,h3,h4,h5⟩:=Ch h;obtain⟨vx',e1,r1⟩:=Ay he h1;obtain⟨vy',e2,r2⟩:=Ay he h2;rw[e1,e2];exact kJ h3 r1 r2 (hv h4 h5)
 case U0 kind neg x=>
  replace h:=AQ h;obtain⟨vx,h1,h⟩:=h;obtain⟨v,h3,h4,h5⟩:=Ch h;obtain⟨vx',e1,r1⟩:=Ay he h1;rw[e1];exact kI h3 r1 (hv h4 h5)
 case Dv sz b z x y=>
  replace h:=AQ h;obtain⟨vx,h1,h⟩:=h;replace h:=AQ h;obtain⟨vy,h2,h⟩:=h;obtain⟨v,h3,h4⟩:=LM h;obtain⟨vx',e1,r1⟩:=Ay he h1;obtain⟨vy',e2,r2⟩:=Ay he h2;rw[e1,e2];exact Up hs h3 r1 r2 (hvr h4)
 case GZ=>
  obtain⟨h3,h4⟩:=St.Hq h;cases h4;intro n hn;obtain⟨ρ',q1,q2,q3⟩:=hs.new h3 hn 0 (o:= .map []) (o':= .map []) ⟨[],F2.nil,rfl⟩;exact hvr rfl ρ' _ _ q1 (by simp only[RV];exact⟨_,q2,rfl⟩) q3
 case lookup ks z ok m key=>
  replace h:=AQ h;obtain⟨vx,h1,h⟩:=h;replace h:=AQ h;obtain⟨vy,h2,h⟩:=h;obtain⟨v,h3,h4,h5⟩:=Ch h;obtain⟨vx',e1,r1⟩:=Ay he h1;obtain⟨vy',e2,r2⟩:=Ay he h2;rw[e1,e2];exact WB hs h3 r1 r2 (hv h4 h5)
 case DO ks m key x=>
  replace h:=AQ h;obtain⟨vx,h1,h⟩:=h;replace h:=AQ h;obtain⟨vy,h2,h⟩:=h;replace h:=AQ h;obtain⟨vz,h3,h⟩:=h;obtain⟨vx',e1,r1⟩:=Ay he h1;obtain⟨vy',e2,r2⟩:=Ay he h2;obtain⟨vz',e3,r3⟩:=Ay he h3;obtain⟨h4,h5⟩:=hu h;rw[e1,e2,e3];exact WA hs h4 r1 r2 r3 h5
 case Jr f args=>
  replace h:=AQ h;obtain⟨vs,h1,h⟩:=h;obtain⟨v,h3,h4,h5⟩:=Ch h;obtain⟨vs',e1,r1⟩:=Hy he h1;obtain⟨p1,p2,p3⟩:=hcp f vs v h3;rw[e1,dm r1 p1];exact⟨v,p3,hv h4 h5 _ (RV.pure _ p2)⟩
 case CC x args=>
  replace h:=AQ h;obtain⟨vx,h1,h⟩:=h;replace h:=AQ h;obtain⟨vs,h2,h⟩:=h;obtain⟨vx',e1,r1⟩:=Ay he h1;obtain⟨vs',e2,r2⟩:=Hy he h2;rw[e1,e2];exact hcv vx vs s r s' h ρ vx' vs' σ r1 r2 hs _ hk
 case inv tab x args=>
  replace h:=AQ h;obtain⟨vx,h1,h⟩:=h;replace h:=AQ h;obtain⟨vs,h2,h⟩:=h;obtain⟨vx',e1,r1⟩:=Ay he h1;obtain⟨vs',e2,r2⟩:=Hy he h2;rw[e1,e2];split at h
  ·rename_i t v
   obtain⟨v',g1,rfl⟩:=r1;obtain⟨f,h3,h4⟩:=AQ h;simp only[wv,ws,CA,h3];exact hcf f (v::vs) s r s' h4 ρ (v'::vs') σ (F2.cons g1 r2) hs _ hk
  ·cases h
 all_goals cases h
end Go.Gl
