import Derived.Test.YtegbmnmnaijioaaGreatL16
set_option linter.all false
set_option linter.defProp false
noncomputable section
namespace Go.Gl
variable {P:Program} {ρ ρ':Ren} {σ:AH} {env env₀:Env}
def ob {α β:Type} (o:Option α) (k:α->Option β):Option β:=match o with|some v=>k v|none=>none
def AU {α β:Type} {o:Option α} {k:α->Option β} {r:β} (h:ob o k=some r): ∃v,o=some v/\k v=some r:=by
 cases o with
 | none=>cases h
 | some v=>exact⟨v,rfl,h⟩
def wg (ρ:Ren):Ah->Ah->Prop
 | .BZ v,x=> ∃v',RV ρ v v'/\x= .BZ v'
 | .normal,x=>x= .normal
 | .ret,x=>x= .ret
 | .exit id,x=>x= .exit id
def nP (ρ:Ren):R->R->Prop
 | .ret v,r=> ∃v',RV ρ v v'/\r= .ret v'
 | .BZ v,r=> ∃v',RV ρ v v'/\r= .BZ v'
abbrev CF:=FuncId->List V->St->Option (R×St)
abbrev CV:=V->List V->St->Option (R×St)
abbrev CP:=FuncId->List V->Option V
def KB (P:Program) (c:CF):Prop:= ∀f vs s r s',c f vs s=some (r,s')-> ∀ρ vs' σ,Kg ρ vs vs'->SR P ρ s σ-> ∀Q:R->AH->Prop,(∀ρ' r' σ',ρ.le ρ'->nP ρ' r r'->SR P ρ' s' σ'->Q r' σ')->As P f vs' σ Q
def JD (P:Program) (c:CV):Prop:= ∀x vs s r s',c x vs s=some (r,s')-> ∀ρ x' vs' σ,RV ρ x x'->Kg ρ vs vs'->SR P ρ s σ-> ∀Q:R->AH->Prop,(∀ρ' r' σ',ρ.le ρ'->nP ρ' r r'->SR P ρ' s' σ'->Q r' σ')->Ao P x' vs' σ Q
def MV (P:Program) (c:CP):Prop:= ∀f vs v,c f vs=some v->B7 vs=true/\BF v=true/\Pure P f vs v
def ov (o:Option V) (s:St):Option (R×St):=match o with|some v=>some (.ret v,s)|none=>none
def CM {o:Option V} {s s':St} {r:R} (h:ov o s=some (r,s')): ∃v,o=some v/\r= .ret v/\s'=s:=by
 cases o with
 | none=>cases h
 | some v=>cases h;exact⟨v,rfl,rfl,rfl⟩
def os (o:Option St):Option (R×St):=match o with|some s=>some (.ret (.t []),s)|none=>none
def ky {o:Option St} {s':St} {r:R} (h:os o=some (r,s')):o=some s'/\r= .ret (.t []):=by
 cases o with
 | none=>cases h
 | some v=>cases h;exact⟨rfl,rfl⟩
def Zo (o:Option (V×St)):Option (R×St):=match o with|some (v,s)=>some (.ret v,s)|none=>none
def LO {o:Option (V×St)} {s':St} {r:R} (h:Zo o=some (r,s')): ∃v,o=some (v,s')/\r= .ret v:=by
 cases o with
 | none=>cases h
 | some v=>cases h;exact⟨_,rfl,rfl⟩
def J3 (env:Env):Option Bg->Option (Option V)
 | none=>some none
 | some x=>match DI env x with|some v=>some (some v)|none=>none
def Me (he:RE ρ env env₀) {x:Option Bg} {v:Option V} (h:J3 env x=some v): ∃v',G9 env₀ x=some v'/\nM ρ v v':=by
 cases x with
 | none=>cases h;exact⟨none,rfl,rfl⟩
 | some x=>
   simp only[J3]at h;split at h
   .rename_i u hu
    cases h;obtain⟨v',h1,h2⟩:=Av he hu;exact⟨some v',by simp only[G9,h1],v',h2,rfl⟩
   .cases h
def dL (t:TypeId) (z:V) (ok:Bool) (x:V):Option V:=
 match x with
 | .Eo t' v=>bif Nat.beq t' t then some (bif ok then .t [v,.b true]else v)else(bif ok&&BF z then some (.t [z,.b false])else none)
 | .DW=>bif ok&&BF z then some (.t [z,.b false])else none
 | _=>none
def ML (x:V):Option V:=
 match x with
 | .p n off=>some (.p n off)
 | .rp cs=>some (.rp cs)
 | .pe n sz i off=>some (.pe n sz i off)
 | .f (.func f) a b=>some (.f (.func f) a b)
 | .f (.yield f) a b=>some (.f (.yield f) a b)
 | _=>none
def FW (cf:CF) (cv:CV) (cp:CP) (o:FY) (env:Env) (s:St):Option (R×St):=
 match o with
 | .mv x=>ov (DI env x) s
 | .jW x=>ov (DI env x) s
 | .pick c a b=>ob (DI env c) fun vc=>ob (DI env a) fun va=>ob (DI env b) fun vb=>match vc with| .b t=>some (.ret (bif t then va else vb),s)|_=>none
 | .bin op x y=>ob (DI env x) fun vx=>ob (DI env y) fun vy=>ov (UE op vx vy) s
 | .jb neg x y=>ob (DI env x) fun vx=>ob (DI env y) fun vy=>match vx,vy with| .b p,.b q=>some (.ret (.b (bif neg then p != q else p==q)),s)|_,_=>none
 | .not x=>ob (DI env x) fun vx=>match vx with| .b p=>some (.ret (.b (!p)),s)|_=>none
 | .neg xor x=>ob (DI env x) fun vx=>match vx with| .i ka a=>some (.ret (.i ka (bif xor then bits .xor ka (bif ka.signed then -1 else ka.max) a else ka.wrap (0 - a))),s)|_=>none
 | .conv ka x=>ob (DI env x) fun vx=>match vx with| .i _ a=>some (.ret (.i ka (H3 ka a)),s)|_=>none
 | .box x=>ob (DI env x) fun vx=>ob (cellsOf vx) fun cs=>s.new (.cs cs) fun i s'=>some (.ret (.p i 0),s')
 | .Nd x=>ob (DI env x) fun vx=>ob (cellsOf vx) fun cs=>some (.ret (.rp cs),s)
 | .QJ sz b x y=>ob (DI env x) fun vx=>ob (DI env y) fun vy=>ov (Ud b s sz vx vy) s
 | .alloc z=>bif B7 z then s.new (.cs z) fun i s'=>some (.ret (.p i 0),s')else none
 | .build z parts=>bif B7 z then ob (MO env z parts) fun cs=>some (.ret (.a cs),s)else none
 | .Gt _ len z parts=>bif B7 z then ob (MP env z.length (List.replicate len z) parts) fun es=>some (.ret (.l es true),s)else none
 | .load agg x=>ob (DI env x) fun vx=>ov (M9 s agg vx) s
 | .store sz a x=>ob (DI env a) fun va=>ob (DI env x) fun vx=>os (Oh s sz va vx)
 | .Fc off x=>ob (DI env x) fun vx=>ov (Si off vx) s
 | .field agg off x=>ob (DI env x) fun vx=>match vx with| .a cs=>ov (UB agg cs off) s|_=>none
 | .Kq sz arr x i=>ob (DI env x) fun vx=>ob (DI env i) fun vi=>ov (MN sz arr vx vi) s
 | .index len sz agg x i=>ob (DI env x) fun vx=>ob (DI env i) fun vi=>ov (Oj len sz agg vx vi) s
 | .slice sz x lo hi mx=>ob (DI env x) fun vx=>ob (J3 env lo) fun l=>ob (J3 env hi) fun h=>ob (J3 env mx) fun m=>Zo (Oi s sz vx l h m)
 | .len x=>ob (DI env x) fun vx=>ov (Z7 vx) s
 | .SE x=>ob (DI env x) fun vx=>ov (Ub s vx) s
 | .Tw x i=>ob (DI env x) fun vx=>ob (DI env i) fun vi=>ov (Ua vx vi) s
 | .str x=>ob (DI env x) fun vx=>ov (dM s vx) s
 | .append sz b x y=>ob (DI env x) fun vx=>ob (DI env y) fun vy=>Zo (K9 b s sz vx vy)
 | .copy sz x y=>ob (DI env x) fun vx=>ob (DI env y) fun vy=>Zo (Uc s sz vx vy)
 | .T0 x y=>ob (DI env x) fun vx=>ob (DI env y) fun vy=>match vx,vy with| .i ka a,.i kb b=>bif decide (ka=kb)then some (.ret (.i ka (bif L2 a b then b else a)),s)else none|_,_=>none
 | .Tz x y=>ob (DI env x) fun vx=>ob (DI env y) fun vy=>match vx,vy with| .i ka a,.i kb b=>bif decide (ka=kb)then some (.ret (.i ka (bif L2 b a then b else a)),s)else none|_,_=>none
 | .extract i x=>ob (DI env x) fun vx=>match vx with| .t vs=>ov (vs[i]?) s|_=>none
 | .H5 x=>ob (DI env x) fun vx=>ov (ML vx) s
 | .cV f first cap=>ob (Nb env first) fun vf=>ob (Nb env cap) fun vc=>bif MC f then some (.ret (.f f vf vc),s)else none
 | .M6 t x=>ob (DI env x) fun vx=>some (.ret (.Eo t vx),s)
 | .cT t z ok x=>ob (DI env x) fun vx=>ov (dL t z ok vx) s
 | .panic x=>ob (DI env x) fun vx=>match vx with| .Eo t v=>some (.BZ (.Eo t v),s)|_=>none
 | .call f args=>ob (Nb env args) fun vs=>cf f vs s
 | .ja len neg x y=>ob (DI env x) fun vx=>ob (DI env y) fun vy=>ov (dO len neg vx vy) s
 | .cZ kind neg x=>ob (DI env x) fun vx=>ov (dN kind neg vx) s
 | .Fj sz _ z x y=>ob (DI env x) fun vx=>ob (DI env y) fun vy=>Zo (Is s sz z vx vy)
 | .M5=>s.new (.map []) fun i s'=>some (.ret (.m i),s')
 | .lookup ks z ok m key=>ob (DI env m) fun vm=>ob (DI env key) fun vk=>ov (K7 s ks z ok vm vk) s
 | .D8 ks m key x=>ob (DI env m) fun vm=>ob (DI env key) fun vk=>ob (DI env x) fun vx=>os (K6 s ks vm vk vx)
 | .Kt f args=>ob (Nb env args) fun vs=>ov (cp f vs) s
 | .Ie x args=>ob (DI env x) fun vx=>ob (Nb env args) fun vs=>cv vx vs s
 | .inv tab x args=>ob (DI env x) fun vx=>ob (Nb env args) fun vs=>match vx with| .Eo t v=>ob (look t tab) fun f=>cf f (v::vs) s|_=>none
 | _=>none
def mQ {t:TypeId} {z:V} {ok:Bool} {x x' v:V} (h:dL t z ok x=some v) (hx:RV ρ x x') {K:V->Prop} (U: ∀v',RV ρ v v'->K v') :
    match(generalizing:=false) x' with
     | .Eo t' v=>(t'=t->K (bif ok then .t [v,.b true]else v))/\(t'≠t->ok=true/\K (.t [z,.b false]))
     | .DW=>ok=true/\K (.t [z,.b false])
     | _=>False:=by
 have zz: ∀ {v},BF z=true->some (V.t [z,.b false])=some v->K (.t [z,.b false])->K v:=fun _ e k=>by cases e;exact k
 unfold dL at h;split at h
 .rename_i t' u
  obtain⟨u',h1,rfl⟩:=hx;refine⟨fun e=>?_,fun e=>?_⟩
  .subst e
   rw[Nat.beq_refl]at h;cases h;cases ok with
   | true=>exact U _ (by simp only[cond_true,RV];exact⟨_,BU.2 (F2.cons h1 (F2.cons (RV.pure _ rfl) F2.nil)),rfl⟩)
   | false=>exact U _ h1
  .have hb:Nat.beq t' t=false:=by
    cases hb:Nat.beq t' t with
    | false=>rfl
    | true=>exact absurd (Cn hb) e
   rw[hb]at h;obtain⟨h2,h3⟩:=AY h;simp only[A8]at h2;cases h3;exact⟨h2.1,U _ (by simp only[RV];exact⟨_,BU.2 (F2.cons (RV.pure _ h2.2) (F2.cons (RV.pure _ rfl) F2.nil)),rfl⟩)⟩
 .simp only[RV]at hx
  subst hx;obtain⟨h2,h3⟩:=AY h;simp only[A8]at h2;cases h3;exact⟨h2.1,U _ (by simp only[RV];exact⟨_,BU.2 (F2.cons (RV.pure _ h2.2) (F2.cons (RV.pure _ rfl) F2.nil)),rfl⟩)⟩
 .cases h
def bq {x x' v:V} (h:ML x=some v) (hx:RV ρ x x') {K:V->Prop} (U: ∀v',RV ρ v v'->K v') :
    match(generalizing:=false) x' with
     | .p n off=>K (.p n off)
     | .rp cs=>K (.rp cs)
     | .pe n sz i off=>K (.pe n sz i off)
     | .f (.func f) first cap=>K (.f (.func f) first cap)
     | .f (.yield l) first cap=>K (.f (.yield l) first cap)
     | _=>False:=by
 have hv:v=x:=by unfold ML at h;split at h<;>cases h<;>rfl
 subst hv;have hk:=U _ hx;unfold ML at h;split at h
 .obtain⟨_,_,rfl⟩:=hx;exact hk
 .obtain⟨_,_,rfl⟩:=hx;exact hk
 .obtain⟨_,_,rfl⟩:=hx;exact hk
 .obtain⟨fn,a,b,h1,_,_,rfl⟩:=hx
  simp only[Zu]at h1;subst h1;exact hk
 .obtain⟨fn,a,b,h1,_,_,rfl⟩:=hx
  obtain⟨m,_,rfl⟩:=h1;exact hk
 .cases h
def fJ {cf:CF} {cv:CV} {cp:CP} (hcf:KB P cf) (hcv:JD P cv) (hcp:MV P cp) {o:FY} {s s':St} {r:R} (h:FW cf cv cp o env s=some (r,s')) (he:RE ρ env env₀) (hs:SR P ρ s σ) {k kp:V->AH->Prop}
    (hk: ∀ρ' r' σ',ρ.le ρ'->nP ρ' r r'->SR P ρ' s' σ'->qk k kp r' σ'):E5 P o env₀ σ k kp:=by
 have hv: ∀ {v:V},r= .ret v->s'=s-> ∀v',RV ρ v v'->k v' σ:=fun e1 e2 v' g=>by
  subst e1;subst e2;exact hk ρ (.ret v') σ (.refl _) ⟨v',g,rfl⟩ hs
 have hvs: ∀ {v:V},r= .ret v-> ∀v' σ',RV ρ v v'->SR P ρ s' σ'->k v' σ':=fun e1 v' σ' g g2=>by
  subst e1;exact hk ρ (.ret v') σ' (.refl _) ⟨v',g,rfl⟩ g2
 have hvr: ∀ {v:V},r= .ret v-> ∀ρ' v' σ',ρ.le ρ'->RV ρ' v v'->SR P ρ' s' σ'->k v' σ':=fun e1 ρ' v' σ' g0 g g2=>by
  subst e1;exact hk ρ' (.ret v') σ' g0 ⟨v',g,rfl⟩ g2
 have hu: ∀ {o1:Option St},os o1=some (r,s')->o1=some s'/\ ∀σ',SR P ρ s' σ'->k (.t []) σ':=fun h=>by
  obtain⟨h1,h2⟩:=ky h;subst h2;exact⟨h1,fun σ' h3=>hk ρ (.ret (.t [])) σ' (.refl _) ⟨_,RV.pure _ rfl,rfl⟩ h3⟩
 cases o<;>simp only[FW]at h<;>simp only[E5]
 case mv x=>
  obtain⟨v,h1,h2,h3⟩:=CM h;obtain⟨v',e1,e2⟩:=Av he h1;rw[e1];exact hv h2 h3 _ e2
 case jW x=>
  obtain⟨v,h1,h2,h3⟩:=CM h;obtain⟨v',e1,e2⟩:=Av he h1;rw[e1];exact⟨v',σ,Sub.refl _,.refl _,hv h2 h3 _ e2⟩
 case pick c a b=>
  replace h:=AU h;obtain⟨vc,h1,h⟩:=h;replace h:=AU h;obtain⟨va,h2,h⟩:=h;replace h:=AU h;obtain⟨vb,h3,h⟩:=h;obtain⟨vc',e1,r1⟩:=Av he h1;obtain⟨va',e2,r2⟩:=Av he h2;obtain⟨vb',e3,r3⟩:=Av he h3;rw[e1,e2,e3];simp only[wv];split at h
  .rename_i t
   simp only[RV]at r1;subst r1;cases h;have hh:=hv rfl rfl (bif t then va' else vb') (by cases t;exact r3;exact r2);cases t<;>cases va'<;>first|exact hh|(cases vb'<;>exact hh)
  .cases h
 case bin op x y=>
  replace h:=AU h;obtain⟨vx,h1,h⟩:=h;replace h:=AU h;obtain⟨vy,h2,h⟩:=h;obtain⟨v,h3,h4,h5⟩:=CM h;obtain⟨vx',e1,r1⟩:=Av he h1;obtain⟨vy',e2,r2⟩:=Av he h2;obtain⟨p1,p2,p3,p4⟩:=mV h3;rw[e1,e2,RV.jZ r1 p1,RV.jZ r2 p2];exact p4 (fun v=>k v σ) (hv h4 h5 _ (RV.pure _ p3))
 case jb neg x y=>
  replace h:=AU h;obtain⟨vx,h1,h⟩:=h;replace h:=AU h;obtain⟨vy,h2,h⟩:=h;obtain⟨vx',e1,r1⟩:=Av he h1;obtain⟨vy',e2,r2⟩:=Av he h2;rw[e1,e2];split at h
  .simp only[RV]at r1 r2
   subst r1;subst r2;cases h;exact hv rfl rfl _ (RV.pure _ rfl)
  .cases h
 case not x=>
  replace h:=AU h;obtain⟨vx,h1,h⟩:=h;obtain⟨vx',e1,r1⟩:=Av he h1;rw[e1];split at h
  .simp only[RV]at r1
   subst r1;cases h;exact hv rfl rfl _ (RV.pure _ rfl)
  .cases h
 case neg xor x=>
  replace h:=AU h;obtain⟨vx,h1,h⟩:=h;obtain⟨vx',e1,r1⟩:=Av he h1;rw[e1];split at h
  .simp only[RV]at r1
   subst r1;cases h;exact hv rfl rfl _ (RV.pure _ rfl)
  .cases h
 case conv ka x=>
  replace h:=AU h;obtain⟨vx,h1,h⟩:=h;obtain⟨vx',e1,r1⟩:=Av he h1;rw[e1];split at h
  .simp only[RV]at r1
   subst r1;cases h;have:=hv rfl rfl _ (RV.pure _ rfl);rw[Ik]at this;exact this
  .cases h
 case box x=>
  replace h:=AU h;obtain⟨vx,h1,h⟩:=h;replace h:=AU h;obtain⟨cs,h2,h⟩:=h;obtain⟨vx',e1,r1⟩:=Av he h1;obtain⟨cs',e2,r2⟩:=GB h2 r1;obtain⟨h3,h4⟩:=St.Hk h;cases h4;rw[e1];simp only[wv,e2];intro n hn;obtain⟨ρ',q1,q2,q3⟩:=hs.new h3 hn 0 (o:= .cs cs) (o':= .cs cs') ⟨_,r2,rfl⟩;exact hvr rfl ρ' _ _ q1 (by simp only[RV];exact⟨_,q2,rfl⟩) q3
 case Nd x=>
  replace h:=AU h;obtain⟨vx,h1,h⟩:=h;replace h:=AU h;obtain⟨cs,h2,h⟩:=h;obtain⟨vx',e1,r1⟩:=Av he h1;obtain⟨cs',e2,r2⟩:=GB h2 r1;cases h;rw[e1];simp only[wv,e2];exact hv rfl rfl _ (by simp only[RV];exact⟨_,BU.2 r2,rfl⟩)
 case QJ sz b x y=>
  replace h:=AU h;obtain⟨vx,h1,h⟩:=h;replace h:=AU h;obtain⟨vy,h2,h⟩:=h;obtain⟨v,h3,h4,h5⟩:=CM h;obtain⟨vx',e1,r1⟩:=Av he h1;obtain⟨vy',e2,r2⟩:=Av he h2;rw[e1,e2];exact iX hs h3 r1 r2 (hv h4 h5)
 case alloc z=>
  replace h:=AY h;obtain⟨h0,h⟩:=h;obtain⟨h3,h4⟩:=St.Hk h;cases h4;intro n hn;obtain⟨ρ',q1,q2,q3⟩:=hs.new h3 hn 0 (o:= .cs z) (o':= .cs z) ⟨_,BU.1 (RL.pure z h0),rfl⟩;exact hvr rfl ρ' _ _ q1 (by simp only[RV];exact⟨_,q2,rfl⟩) q3
 case build z parts=>
  replace h:=AY h;obtain⟨h0,h⟩:=h;replace h:=AU h;obtain⟨cs,h1,h⟩:=h;cases h;obtain⟨cs',e1,r1⟩:=Rh he h1 (BU.1 (RL.pure z h0));rw[e1];exact hv rfl rfl _ (by simp only[RV];exact⟨_,BU.2 r1,rfl⟩)
 case Gt b len z parts=>
  replace h:=AY h;obtain⟨h0,h⟩:=h;replace h:=AU h;obtain⟨cs,h1,h⟩:=h;cases h;obtain⟨cs',e1,r1⟩:=Ri he h1 (F2.rep (BU.1 (RL.pure z h0)) len);rw[e1];exact hv rfl rfl _ (by simp only[RV];exact⟨_,FK.2 r1,rfl⟩)
 case load agg x=>
  replace h:=AU h;obtain⟨vx,h1,h⟩:=h;obtain⟨v,h3,h4,h5⟩:=CM h;obtain⟨vx',e1,r1⟩:=Av he h1;rw[e1];exact VZ hs h3 r1 (hv h4 h5)
 case store sz a x=>
  replace h:=AU h;obtain⟨vx,h1,h⟩:=h;replace h:=AU h;obtain⟨vy,h2,h⟩:=h;obtain⟨vx',e1,r1⟩:=Av he h1;obtain⟨vy',e2,r2⟩:=Av he h2;obtain⟨h3,h4⟩:=hu h;rw[e1,e2];exact bn hs h3 r1 r2 h4
 case Fc off x=>
  replace h:=AU h;obtain⟨vx,h1,h⟩:=h;obtain⟨v,h3,h4,h5⟩:=CM h;obtain⟨vx',e1,r1⟩:=Av he h1;rw[e1];exact bu h3 r1 (hv h4 h5)
 case field agg off x=>
  replace h:=AU h;obtain⟨vx,h1,h⟩:=h;obtain⟨vx',e1,r1⟩:=Av he h1;rw[e1];split at h
  .obtain⟨v,h3,h4,h5⟩:=CM h
   obtain⟨c,g1,rfl⟩:=r1;exact K8 h3 (BU.1 g1) (hv h4 h5)
  .cases h
 case Kq sz arr x i=>
  replace h:=AU h;obtain⟨vx,h1,h⟩:=h;replace h:=AU h;obtain⟨vy,h2,h⟩:=h;obtain⟨v,h3,h4,h5⟩:=CM h;obtain⟨vx',e1,r1⟩:=Av he h1;obtain⟨vy',e2,r2⟩:=Av he h2;rw[e1,e2];exact bt h3 r1 r2 (hv h4 h5)
 case index len sz agg x i=>
  replace h:=AU h;obtain⟨vx,h1,h⟩:=h;replace h:=AU h;obtain⟨vy,h2,h⟩:=h;obtain⟨v,h3,h4,h5⟩:=CM h;obtain⟨vx',e1,r1⟩:=Av he h1;obtain⟨vy',e2,r2⟩:=Av he h2;rw[e1,e2];exact br h3 r1 r2 (hv h4 h5)
 case slice sz x lo hi mx=>
  replace h:=AU h;obtain⟨vx,h1,h⟩:=h;replace h:=AU h;obtain⟨l,h2,h⟩:=h;replace h:=AU h;obtain⟨hh,h3,h⟩:=h;replace h:=AU h;obtain⟨m,h4,h⟩:=h;obtain⟨v,h5,h6⟩:=LO h;obtain⟨vx',e1,r1⟩:=Av he h1;obtain⟨l',e2,r2⟩:=Me he h2;obtain⟨hh',e3,r3⟩:=Me he h3;obtain⟨m',e4,r4⟩:=Me he h4;rw[e1,e2,e3,e4];exact bo hs h5 r1 r2 r3 r4 (hvr h6)
 case len x=>
  replace h:=AU h;obtain⟨vx,h1,h⟩:=h;obtain⟨v,h3,h4,h5⟩:=CM h;obtain⟨vx',e1,r1⟩:=Av he h1;rw[e1];exact mS h3 r1 (hv h4 h5)
 case SE x=>
  replace h:=AU h;obtain⟨vx,h1,h⟩:=h;obtain⟨v,h3,h4,h5⟩:=CM h;obtain⟨vx',e1,r1⟩:=Av he h1;rw[e1];exact iV hs h3 r1 (hv h4 h5)
 case Tw x i=>
  replace h:=AU h;obtain⟨vx,h1,h⟩:=h;replace h:=AU h;obtain⟨vi,h2,h⟩:=h;obtain⟨v,h3,h4,h5⟩:=CM h;obtain⟨vx',e1,r1⟩:=Av he h1;obtain⟨vi',e2,r2⟩:=Av he h2;rw[e1,e2];exact iU h3 r1 r2 (hv h4 h5)
 case str x=>
  replace h:=AU h;obtain⟨vx,h1,h⟩:=h;obtain⟨v,h3,h4,h5⟩:=CM h;obtain⟨vx',e1,r1⟩:=Av he h1;rw[e1];exact mR hs h3 r1 (hv h4 h5)
 case append sz b x y=>
  replace h:=AU h;obtain⟨vx,h1,h⟩:=h;replace h:=AU h;obtain⟨vy,h2,h⟩:=h;obtain⟨v,h3,h4⟩:=LO h;obtain⟨vx',e1,r1⟩:=Av he h1;obtain⟨vy',e2,r2⟩:=Av he h2;rw[e1,e2];exact X4 hs h3 r1 r2 (hvr h4)
 case copy sz x y=>
  replace h:=AU h;obtain⟨vx,h1,h⟩:=h;replace h:=AU h;obtain⟨vy,h2,h⟩:=h;obtain⟨v,h3,h4⟩:=LO h;obtain⟨vx',e1,r1⟩:=Av he h1;obtain⟨vy',e2,r2⟩:=Av he h2;rw[e1,e2];exact iW hs h3 r1 r2 (hvs h4)
 case T0 x y=>
  replace h:=AU h;obtain⟨vx,h1,h⟩:=h;replace h:=AU h;obtain⟨vy,h2,h⟩:=h;obtain⟨vx',e1,r1⟩:=Av he h1;obtain⟨vy',e2,r2⟩:=Av he h2;rw[e1,e2];split at h
  .rename_i ka a kb b
   simp only[RV]at r1 r2;subst r1;subst r2;obtain⟨h3,h4⟩:=AY h;cases h4;refine⟨of_decide_eq_true h3,?_⟩;have:=hv rfl rfl _ (RV.pure _ rfl);rw[Od]at this;by_cases e:a<b
   .rw[if_pos e];rw[decide_eq_true e]at this;exact this
   .rw[if_neg e];rw[decide_eq_false e]at this;exact this
  .cases h
 case Tz x y=>
  replace h:=AU h;obtain⟨vx,h1,h⟩:=h;replace h:=AU h;obtain⟨vy,h2,h⟩:=h;obtain⟨vx',e1,r1⟩:=Av he h1;obtain⟨vy',e2,r2⟩:=Av he h2;rw[e1,e2];split at h
  .rename_i ka a kb b
   simp only[RV]at r1 r2;subst r1;subst r2;obtain⟨h3,h4⟩:=AY h;cases h4;refine⟨of_decide_eq_true h3,?_⟩;have:=hv rfl rfl _ (RV.pure _ rfl);rw[Od]at this;by_cases e:b<a
   .rw[if_pos e];rw[decide_eq_true e]at this;exact this
   .rw[if_neg e];rw[decide_eq_false e]at this;exact this
  .cases h
 case extract i x=>
  replace h:=AU h;obtain⟨vx,h1,h⟩:=h;obtain⟨vx',e1,r1⟩:=Av he h1;rw[e1];split at h
  .obtain⟨v,h3,h4,h5⟩:=CM h
   obtain⟨c,g1,rfl⟩:=r1;obtain⟨y,g2,g3⟩:=(BU.1 g1).get h3;simp only[wv,g2];exact hv h4 h5 _ g3
  .cases h
 case H5 x=>
  replace h:=AU h;obtain⟨vx,h1,h⟩:=h;obtain⟨v,h3,h4,h5⟩:=CM h;obtain⟨vx',e1,r1⟩:=Av he h1;rw[e1];exact bq (K:=fun v=>k v σ) h3 r1 (hv h4 h5)
 case cV f first cap=>
  replace h:=AU h;obtain⟨vf,h1,h⟩:=h;replace h:=AU h;obtain⟨vc,h2,h⟩:=h;obtain⟨h3,h4⟩:=AY h;cases h4;obtain⟨vf',e1,r1⟩:=Hq he h1;obtain⟨vc',e2,r2⟩:=Hq he h2;rw[e1,e2];refine hv rfl rfl _ ?_;simp only[RV];exact⟨f,vf',vc',by cases f<;>first|rfl|(simp[MC]at h3),BU.2 r1,BU.2 r2,rfl⟩
 case M6 t x=>
  replace h:=AU h;obtain⟨vx,h1,h⟩:=h;cases h;obtain⟨vx',e1,r1⟩:=Av he h1;rw[e1];exact hv rfl rfl _ (by simp only[RV];exact⟨_,r1,rfl⟩)
 case cT t z ok x=>
  replace h:=AU h;obtain⟨vx,h1,h⟩:=h;obtain⟨v,h3,h4,h5⟩:=CM h;obtain⟨vx',e1,r1⟩:=Av he h1;rw[e1];exact mQ (K:=fun v=>k v σ) h3 r1 (hv h4 h5)
 case panic x=>
  replace h:=AU h;obtain⟨vx,h1,h⟩:=h;obtain⟨vx',e1,r1⟩:=Av he h1;rw[e1];split at h
  .rename_i t v
   obtain⟨v',g1,rfl⟩:=r1;cases h;exact hk ρ (.BZ (.Eo t v')) σ (.refl _) ⟨_,by simp only[RV];exact⟨v',g1,rfl⟩,rfl⟩ hs
  .cases h
 case call f args=>
  replace h:=AU h;obtain⟨vs,h1,h⟩:=h;obtain⟨vs',e1,r1⟩:=Hq he h1;rw[e1];exact hcf f vs s r s' h ρ vs' σ r1 hs _ hk
 case ja len neg x y=>
  replace h:=AU h;obtain⟨vx,h1,h⟩:=h;replace h:=AU h;obtain⟨vy,h2,h⟩:=h;obtain⟨v,h3,h4,h5⟩:=CM h;obtain⟨vx',e1,r1⟩:=Av he h1;obtain⟨vy',e2,r2⟩:=Av he h2;rw[e1,e2];exact mU h3 r1 r2 (hv h4 h5)
 case cZ kind neg x=>
  replace h:=AU h;obtain⟨vx,h1,h⟩:=h;obtain⟨v,h3,h4,h5⟩:=CM h;obtain⟨vx',e1,r1⟩:=Av he h1;rw[e1];exact mT h3 r1 (hv h4 h5)
 case Fj sz b z x y=>
  replace h:=AU h;obtain⟨vx,h1,h⟩:=h;replace h:=AU h;obtain⟨vy,h2,h⟩:=h;obtain⟨v,h3,h4⟩:=LO h;obtain⟨vx',e1,r1⟩:=Av he h1;obtain⟨vy',e2,r2⟩:=Av he h2;rw[e1,e2];exact WQ hs h3 r1 r2 (hvr h4)
 case M5=>
  obtain⟨h3,h4⟩:=St.Hk h;cases h4;intro n hn;obtain⟨ρ',q1,q2,q3⟩:=hs.new h3 hn 0 (o:= .map []) (o':= .map []) ⟨[],F2.nil,rfl⟩;exact hvr rfl ρ' _ _ q1 (by simp only[RV];exact⟨_,q2,rfl⟩) q3
 case lookup ks z ok m key=>
  replace h:=AU h;obtain⟨vx,h1,h⟩:=h;replace h:=AU h;obtain⟨vy,h2,h⟩:=h;obtain⟨v,h3,h4,h5⟩:=CM h;obtain⟨vx',e1,r1⟩:=Av he h1;obtain⟨vy',e2,r2⟩:=Av he h2;rw[e1,e2];exact X3 hs h3 r1 r2 (hv h4 h5)
 case D8 ks m key x=>
  replace h:=AU h;obtain⟨vx,h1,h⟩:=h;replace h:=AU h;obtain⟨vy,h2,h⟩:=h;replace h:=AU h;obtain⟨vz,h3,h⟩:=h;obtain⟨vx',e1,r1⟩:=Av he h1;obtain⟨vy',e2,r2⟩:=Av he h2;obtain⟨vz',e3,r3⟩:=Av he h3;obtain⟨h4,h5⟩:=hu h;rw[e1,e2,e3];exact X2 hs h4 r1 r2 r3 h5
 case Kt f args=>
  replace h:=AU h;obtain⟨vs,h1,h⟩:=h;obtain⟨v,h3,h4,h5⟩:=CM h;obtain⟨vs',e1,r1⟩:=Hq he h1;obtain⟨p1,p2,p3⟩:=hcp f vs v h3;rw[e1,jr r1 p1];exact⟨v,p3,hv h4 h5 _ (RV.pure _ p2)⟩
 case Ie x args=>
  replace h:=AU h;obtain⟨vx,h1,h⟩:=h;replace h:=AU h;obtain⟨vs,h2,h⟩:=h;obtain⟨vx',e1,r1⟩:=Av he h1;obtain⟨vs',e2,r2⟩:=Hq he h2;rw[e1,e2];exact hcv vx vs s r s' h ρ vx' vs' σ r1 r2 hs _ hk
 case inv tab x args=>
  replace h:=AU h;obtain⟨vx,h1,h⟩:=h;replace h:=AU h;obtain⟨vs,h2,h⟩:=h;obtain⟨vx',e1,r1⟩:=Av he h1;obtain⟨vs',e2,r2⟩:=Hq he h2;rw[e1,e2];split at h
  .rename_i t v
   obtain⟨v',g1,rfl⟩:=r1;obtain⟨f,h3,h4⟩:=AU h;simp only[wv,ws,Ax,h3];exact hcf f (v::vs) s r s' h4 ρ (v'::vs') σ (F2.cons g1 r2) hs _ hk
  .cases h
 all_goals cases h
end Go.Gl
namespace Go.Gl
variable {P:Program} {ρ ρ':Ren} {σ:AH} {env env₀:Env}
def IM (cf:CF) (cv:CV) (cp:CP) (o:Aq) (env:Env) (s:St):Option (R×St):=
 match o.guard with
 | none=>FW cf cv cp o.op env s
 | some (g,b)=>match get g env with
   | some (.b t)=>bif t==b then FW cf cv cp o.op env s else some (.ret (.t []),s)
   | some (.t [])=>some (.ret (.t []),s)
   | _=>none
def K4 {cf:CF} {cv:CV} {cp:CP} (hcf:KB P cf) (hcv:JD P cv) (hcp:MV P cp) {o:Aq} {s s':St} {r:R} (h:IM cf cv cp o env s=some (r,s')) (he:RE ρ env env₀) (hs:SR P ρ s σ) {k kp:V->AH->Prop}
    (hk: ∀ρ' r' σ',ρ.le ρ'->nP ρ' r r'->SR P ρ' s' σ'->qk k kp r' σ'):Hg P o env₀ σ k kp:=by
 unfold IM at h;unfold Hg
 have skip:some (R.ret (.t []),s)=some (r,s')->k (.t []) σ:=fun e=>by
  cases e;exact hk ρ (.ret (.t [])) σ (.refl _) ⟨_,RV.pure _ rfl,rfl⟩ hs
 split at h
 .rename_i hg
  rw[hg];exact fJ hcf hcv hcp h he hs hk
 .rename_i g b hg
  rw[hg];split at h
  .rename_i t ht
   obtain⟨v',h1,h2⟩:=he.get ht;simp only[RV]at h2;subst h2;simp only[h1];refine⟨fun e=>?_,fun e=>?_⟩
   .subst e
    rw[beq_self_eq_true]at h;exact fJ hcf hcv hcp h he hs hk
   .subst e
    have:((!b)==b)=false:=by cases b<;>rfl
    rw[this]at h;exact skip h
  .rename_i ht
   obtain⟨v',h1,h2⟩:=he.get ht;have e:=RV.jZ h2 rfl;subst e;simp only[h1];exact skip h
  .cases h
def Hl {β:Type} (v:V) (K:V->β):β:=
 match v with
 | .i k (.ofNat 0)=>K (.i k (.ofNat 0))
 | .i k (.ofNat (m+1))=>K (.i k (.ofNat (m+1)))
 | .i k (.negSucc 0)=>K (.i k (.negSucc 0))
 | .i k (.negSucc (m+1))=>K (.i k (.negSucc (m+1)))
 | .b true=>K (.b true)
 | .b false=>K (.b false)
 | v=>K v
def HY {β:Type} (v:V) (K:V->β):Hl v K=K v:=by
 unfold Hl;split<;>rfl
abbrev Rs:=Option (Ah×Env×St)
def UA (cf:CF) (cv:CV) (cp:CP):List Aq->Env->St->Rs
 | [],env,s=>some (.normal,env,s)
 | o::r,env,s=>match IM cf cv cp o env s with
   | some (.ret v,s')=>Hl v fun v=>UA cf cv cp r (put o.dst v env) s'
   | some (.BZ v,s')=>some (.BZ v,env,s')
   | none=>none
def RE.put (h:RE ρ env env₀) {v v':V} (hv:RV ρ v v') (d:Option Nat):RE ρ (Gl.put d v env) (Gl.put d v' env₀):=by
 cases d with
 | none=>exact h
 | some d=>exact F2.cons ⟨rfl,hv⟩ h
def RE.prune (h:RE ρ env env₀): ∀l:List Nat,RE ρ (Gl.prune l env) (Gl.prune l env₀)
 | []=>F2.nil
 | k ::r=>by
   simp only[Gl.prune];cases hg:Gl.get k env with
   | none=>rw[h.u9 hg];exact RE.prune h r
   | some v=>
     obtain⟨v',h1,h2⟩:=h.get hg;rw[h1];exact F2.cons ⟨rfl,h2⟩ (RE.prune h r)
def RE.args: ∀ {vs vs':List V} {i:Nat},Kg ρ vs vs'->RE ρ (A3 i vs) (A3 i vs')
 | [],_,_,h=>by cases h;exact F2.nil
 | _::_,_,i,⟨y,ys,h1,h2,e⟩=>by subst e;exact F2.cons ⟨rfl,h1⟩ (RE.args h2)
def RE.binds: ∀ {ps:List Nat} {vs vs':List V} {env env₀:Env},Kg ρ vs vs'->RE ρ env env₀->RE ρ (EC ps vs env) (EC ps vs' env₀)
 | [],vs,vs',_,_,_,he=>by cases vs<;>cases vs'<;>exact he
 | p::ps,[],_,_,_,h,he=>by cases h;exact he
 | p::ps,_::_,_,_,_,⟨y,ys,h1,h2,e⟩,he=>by subst e;simp only[EC];exact RE.binds h2 (RE.put he h1 (some p))
def ZQ {cf:CF} {cv:CV} {cp:CP} (hcf:KB P cf) (hcv:JD P cv) (hcp:MV P cp): ∀ {ops:List Aq} {env env₀:Env} {ρ:Ren} {σ:AH} {s s':St} {ex:Ah} {env':Env},UA cf cv cp ops env s=some (ex,env',s')->RE ρ env env₀->SR P ρ s σ->
    ∀ {K:Env->AH->Prop} {kp:Env->V->AH->Prop},(∀ρ' env₁ σ',ρ.le ρ'->ex= .normal->RE ρ' env' env₁->SR P ρ' s' σ'->K env₁ σ')->(∀ρ' v v' env₁ σ',ρ.le ρ'->ex= .BZ v->RV ρ' v v'->RE ρ' env' env₁->SR P ρ' s' σ'->kp env₁ v' σ')->
    (∀id,ex≠ .exit id)/\ex≠ .ret/\IW P ops K kp env₀ σ
 | [],env,env₀,ρ,σ,s,s',ex,env',h,he,hs,K,kp,U,hp=>by cases h;exact⟨fun _ e=>(by cases e),fun e=>(by cases e),U ρ _ _ (.refl _) rfl he hs⟩
 | o :: r, env,env₀,ρ,σ,s,s',ex,env',h,he,hs,K,kp,U,hp=>by
   simp only[IW]
   have h':(match IM cf cv cp o env s with
    | some (.ret v,s')=>Hl v fun v=>UA cf cv cp r (put o.dst v env) s'
    | some (.BZ v,s')=>some (.BZ v,env,s')
    | none=>none)=some (ex,env',s'):=h
   split at h'
   .rename_i v s1 h1
    rw[HY]at h'
    have base: ∀ρ1 v' σ1,ρ.le ρ1->RV ρ1 v v'->SR P ρ1 s1 σ1->(∀id,ex≠ .exit id)/\ex≠ .ret/\IW P r K kp (put o.dst v' env₀) σ1:=fun ρ1 v' σ1 q1 q2 q3=>
     ZQ hcf hcv hcp h' ((he.mono q1).put q2 o.dst) q3 (fun ρ' e₁ σ' p1 p2 p3 p4=>U ρ' e₁ σ' (q1.trans p1) p2 p3 p4) (fun ρ' v v' e₁ σ' p1 p2 p3 p4 p5=>hp ρ' v v' e₁ σ' (q1.trans p1) p2 p3 p4 p5)
    have hx : (∀id,ex≠ .exit id)/\ex≠ .ret:=by
     clear base U hp
     have gen: ∀(ops:List Aq) (env:Env) (s:St),UA cf cv cp ops env s=some (ex,env',s')->(∀id,ex≠ .exit id)/\ex≠ .ret:=by
      intro ops
      induction ops with
      | nil=>intro env s h;cases h;exact⟨fun _ e=>(by cases e),fun e=>(by cases e)⟩
      | cons o r ih=>
        intro env s h
        have h':(match IM cf cv cp o env s with
         | some (.ret v,s')=>Hl v fun v=>UA cf cv cp r (put o.dst v env) s'
         | some (.BZ v,s')=>some (.BZ v,env,s')
         | none=>none)=some (ex,env',s'):=h
        split at h'
        .rw[HY]at h';exact ih _ _ h'
        .cases h';exact⟨fun _ e=>(by cases e),fun e=>(by cases e)⟩
        .cases h'
     exact gen _ _ _ h'
    refine⟨hx.1,hx.2,K4 hcf hcv hcp h1 he hs fun ρ1 r1 σ1 q1 q2 q3=>?_⟩;obtain⟨v',q4,rfl⟩:=q2;exact(base ρ1 v' σ1 q1 q4 q3).2.2
   .rename_i v s1 h1
    cases h';refine⟨fun _ e=>(by cases e),fun e=>(by cases e),K4 hcf hcv hcp h1 he hs fun ρ1 r1 σ1 q1 q2 q3=>?_⟩;obtain⟨v',q4,rfl⟩:=q2;exact hp ρ1 v v' _ σ1 q1 rfl q4 (he.mono q1) q3
   .cases h'
def jQ (cf:CF) (cv:CV) (cp:CP) (re:List Aq) (env:Env) (s:St):Bool:=
 re.all fun x=>match IM cf cv cp x env s with
  | some (.ret u,_)=>match x.dst with
    | none=>true
    | some d=>match get d env with|some w=>EW u w|none=>false
  | _=>false
def Qe (cf:CF) (cv:CV) (cp:CP):List CZ->Env->St->Rs
 | [],env,s=>some (.normal,env,s)
 | d::r,env,s=>match IM cf cv cp d.o env s with
   | some (.ret v,s')=>Hl v fun v=>bif jQ cf cv cp d.re (put d.o.dst v env) s' then Qe cf cv cp r (put d.o.dst v env) s' else none
   | some (.BZ v,s')=>some (.BZ v,[],s')
   | none=>none
def fI {cf:CF} {cv:CV} {cp:CP} (hcf:KB P cf) (hcv:JD P cv) (hcp:MV P cp) {s:St} (he:RE ρ env env₀) (hs:SR P ρ s σ): ∀ {re:List Aq},jQ cf cv cp re env s=true->ED P re env₀ σ
 | [],_=>trivial
 | x ::r,h=>by
   have h':((match IM cf cv cp x env s with
    | some (.ret u,_)=>match x.dst with
      | none=>true
      | some d=>match get d env with|some w=>EW u w|none=>false
    | _=>false)&&jQ cf cv cp r env s)=true:=h
   simp only[A8]at h';refine⟨?_,fI hcf hcv hcp he hs h'.2⟩;have h1:=h'.1;split at h1
   .rename_i u s1 hu
    refine K4 hcf hcv hcp hu he hs fun ρ1 r1 σ1 q1 q2 q3=>?_
    obtain⟨u',q4,rfl⟩:=q2;intro d hd;rw[hd]at h1;simp only at h1;split at h1
    .rename_i w hw
     obtain⟨w',g1,g2⟩:=he.get hw;have e:=N6 _ _ h1;subst e;rw[g1,RV.fn u w' u' (RV.mono q1 _ _ g2) q4]
    .cases h1
   .cases h1
def PD {cf:CF} {cv:CV} {cp:CP} (hcf:KB P cf) (hcv:JD P cv) (hcp:MV P cp): ∀ {ops:List CZ} {env env₀:Env} {ρ:Ren} {σ:AH} {s s':St} {ex:Ah} {env':Env},Qe cf cv cp ops env s=some (ex,env',s')->RE ρ env env₀->SR P ρ s σ->
    ∀ {K:Env->AH->Prop} {kp:V->AH->Prop},(∀ρ' env₁ σ',ρ.le ρ'->ex= .normal->RE ρ' env' env₁->SR P ρ' s' σ'->K env₁ σ')->(∀ρ' v v' σ',ρ.le ρ'->ex= .BZ v->env'= []->RV ρ' v v'->SR P ρ' s' σ'->kp v' σ')->
    DC P ops K kp env₀ σ
 | [],env,env₀,ρ,σ,s,s',ex,env',h,he,hs,K,kp,U,hp=>by cases h;exact U ρ _ _ (.refl _) rfl he hs
 | d ::r,env,env₀,ρ,σ,s,s',ex,env',h,he,hs,K,kp,U,hp=>by
   simp only[DC]
   have h':(match IM cf cv cp d.o env s with
    | some (.ret v,s')=>Hl v fun v=>bif jQ cf cv cp d.re (put d.o.dst v env) s' then Qe cf cv cp r (put d.o.dst v env) s' else none
    | some (.BZ v,s')=>some (.BZ v,[],s')
    | none=>none)=some (ex,env',s'):=h
   split at h'
   .rename_i v s1 h1
    rw[HY]at h';obtain⟨h2,h3⟩:=AY h';refine K4 hcf hcv hcp h1 he hs fun ρ1 r1 σ1 q1 q2 q3=>?_
    obtain⟨v',q4,rfl⟩:=q2;have he':=(he.mono q1).put q4 d.o.dst;exact⟨fI hcf hcv hcp he' q3 h2,PD hcf hcv hcp h3 he' q3 (fun ρ' e₁ σ' p1 p2 p3 p4=>U ρ' e₁ σ' (q1.trans p1) p2 p3 p4) (fun ρ' v v' σ' p1 p2 p3 p4 p5=>hp ρ' v v' σ' (q1.trans p1) p2 p3 p4 p5)⟩
   .rename_i v s1 h1
    cases h';refine K4 hcf hcv hcp h1 he hs fun ρ1 r1 σ1 q1 q2 q3=>?_
    obtain⟨v',q4,rfl⟩:=q2;exact hp ρ1 v v' σ1 q1 rfl rfl q4 q3
   .cases h'
def Jw {α β:Type} (f:α->Option β):List α->Option (List β)
 | []=>some []
 | x::r=>ob (f x) fun y=>ob (Jw f r) fun ys=>some (y::ys)
def IJ (s:St):Nat->V->Option V
 | 0,_=>none
 | d + 1,v=>bif BF v then some v else
   match v with
   | .p n 0=>match s.t.get n with
     | some (.cs vs)=>ob (Jw (IJ s d) vs) fun us=>some (.rp us)
     | _=>none
   | .sl n len _=>match s.t.get n with
     | some (.arr _ es)=>bif Nat.beq len es.length then ob (Jw (Jw (IJ s d)) es) fun us=>some (.l us false)else none
     | _=>none
   | .a cs=>ob (Jw (IJ s d) cs) fun us=>some (.a us)
   | .t cs=>ob (Jw (IJ s d) cs) fun us=>some (.t us)
   | .rp cs=>ob (Jw (IJ s d) cs) fun us=>some (.rp us)
   | .l es f=>ob (Jw (Jw (IJ s d)) es) fun us=>some (.l us f)
   | .Eo t x=>ob (IJ s d x) fun u=>some (.Eo t u)
   | _=>none
def OG (s:St):Nat->V->List Nat
 | 0,_=>[]
 | d + 1,v=>bif BF v then []else
   match v with
   | .p n 0=>match s.t.get n with
     | some (.cs vs)=>n::vs.flatMap (OG s d)
     | _=>[]
   | .sl n _ _=>match s.t.get n with
     | some (.arr _ es)=>n::es.flatMap fun e=>e.flatMap (OG s d)
     | _=>[]
   | .a cs=>cs.flatMap (OG s d)
   | .t cs=>cs.flatMap (OG s d)
   | .rp cs=>cs.flatMap (OG s d)
   | .l es _=>es.flatMap fun e=>e.flatMap (OG s d)
   | .Eo _ x=>OG s d x
   | _=>[]
def Ol (s:St):List Nat->St
 | []=>s
 | i::r=>match s.t.get i with
   | some _=>Tr.put none A5 s.t i fun t=>Ol ⟨s.nx,t⟩ r
   | none=>Ol s r
def Mp: ∀ {l:List Nat} {s:St} {σ:AH},SR P ρ s σ-> ∃σ',SR P ρ (Ol s l) σ'/\Sub σ' σ/\ ∀i∈l,∀m,ρ i=some m->(s.t.get i).isSome=true->σ' m.1=none
 | [],s,σ,h=>⟨σ,h,Sub.refl _,fun _ h=>by cases h⟩
 | i ::r,s,σ,h=>by
   simp only[Ol];split
   .rename_i o hg
    rw[Tr.put_eq];obtain⟨m,hm,_⟩:=h.get i o hg;obtain⟨σ',h1,h2,h3⟩:=Mp (l:=r) (h.del hg hm);have hsub:Sub (del σ m.1) σ:=Fi σ m.1;refine⟨σ',h1,h2.trans hsub,fun j hj m' hm' hl=>?_⟩;by_cases e:j=i
    .subst e
     rw[hm]at hm';cases hm';exact h2.none (DF σ m.1)
    .rcases Fq.1 hj with e'|hj
     .exact absurd e' e
     .refine h3 j hj m' hm' ?_
      show((Tr.set none A5 s.t i).get j).isSome=true;rw[Tr.Dk _ _ _ (Z3 (h.lt hm)),if_neg e];exact hl
   .rename_i hg
    obtain⟨σ',h1,h2,h3⟩:=Mp (l:=r) h;refine⟨σ',h1,h2,fun j hj m' hm' hl=>?_⟩;rcases Fq.1 hj with e'|hj
    .subst e';rw[hg]at hl;cases hl
    .exact h3 j hj m' hm' hl
def HK {f:V->Option V} {g:V->List Nat} {s:St} {σ σ':AH} (hf: ∀v v' u,f v=some u->RV ρ v v'->(∀i∈g v,∀m,ρ i=some m->(s.t.get i).isSome=true->σ' m.1=none)->Ff σ σ' v' u): ∀ {vs vs' us:List V},Jw f vs=some us->Kg ρ vs vs'->
    (∀i∈vs.flatMap g,∀m,ρ i=some m->(s.t.get i).isSome=true->σ' m.1=none)->C7 σ σ' vs' us
 | [],_,_,h,h',_=>by cases h;cases h';exact .nil
 | x::r,_,us,h,⟨y,ys,h1,h2,e⟩,hd=>by
   subst e;replace h:=AU h;obtain⟨u,h3,h⟩:=h;replace h:=AU h;obtain⟨us,h4,h⟩:=h;cases h;exact .cons (hf _ _ _ h3 h1 fun i hi=>hd i (by simp only[List.flatMap_cons,Dr];exact .inl hi)) (HK hf h4 h2 fun i hi=>hd i (by simp only[List.flatMap_cons,Dr];exact .inr hi))
def Mj {f:V->Option V} {g:V->List Nat} {s:St} {σ σ':AH} (hf: ∀v v' u,f v=some u->RV ρ v v'->(∀i∈g v,∀m,ρ i=some m->(s.t.get i).isSome=true->σ' m.1=none)->Ff σ σ' v' u): ∀ {vs vs' us:List (List V)},Jw (Jw f) vs=some us->cg ρ vs vs'->
    (∀i∈vs.flatMap (fun e=>e.flatMap g),∀m,ρ i=some m->(s.t.get i).isSome=true->σ' m.1=none)->FF σ σ' vs' us
 | [],_,_,h,h',_=>by cases h;cases h';exact .nil
 | x::r,_,us,h,⟨y,ys,h1,h2,e⟩,hd=>by
   subst e;replace h:=AU h;obtain⟨u,h3,h⟩:=h;replace h:=AU h;obtain⟨us,h4,h⟩:=h;cases h;exact .cons (HK hf h3 h1 fun i hi=>hd i (by simp only[List.flatMap_cons,Dr];exact .inl hi)) (Mj hf h4 h2 fun i hi=>hd i (by simp only[List.flatMap_cons,Dr];exact .inr hi))
def O9 {s : St} (hs:SR P ρ s σ) {σ':AH}: ∀(d:Nat) (v v' u:V),IJ s d v=some u->RV ρ v v'->(∀i∈OG s d v,∀m,ρ i=some m->(s.t.get i).isSome=true->σ' m.1=none)->Ff σ σ' v' u
 | 0,_,_,_,h,_,_=>by cases h
 | d + 1,v,v',u,h,hv,hd=>by
   have ih:=O9 hs (σ':=σ') d;simp only[IJ]at h;simp only[OG]at hd;cases hp:BF v with
   | true=>
     rw[hp]at h;cases h;rw[RV.jZ hv hp];exact .refl _
   | false=>
     rw[hp]at h hd;simp only[cond_false]at h hd;split at h
     .obtain⟨m,g1,rfl⟩:=hv
      split at h
      .rename_i vs hg
       replace h:=AU h;obtain⟨us,h1,h⟩:=h;cases h;simp only[hg]at hd;obtain⟨o',g2,vs',g3,rfl⟩:=hs.at hg g1;exact .cs g2 (hd _ (.head _) m g1 (by rw[hg];rfl)) (HK ih h1 g3 fun i hi=>hd i (.tail _ hi))
      .cases h
     .obtain⟨m,g1,rfl⟩:=hv
      split at h
      .rename_i es hg
       replace h:=AY h;obtain⟨h0,h⟩:=h;replace h:=AU h;obtain⟨us,h1,h⟩:=h;cases h;simp only[hg]at hd;obtain⟨o',g2,es',g3,rfl⟩:=hs.at hg g1;exact .arr g2 (hd _ (.head _) m g1 (by rw[hg];rfl)) (by rw[g3.len];exact Cn h0) (Mj ih h1 g3 fun i hi=>hd i (.tail _ hi))
      .cases h
     .replace h:=AU h;obtain⟨us,h1,h⟩:=h
      cases h;obtain⟨c,g1,rfl⟩:=hv;exact .a (HK ih h1 (BU.1 g1) hd)
     .replace h:=AU h;obtain⟨us,h1,h⟩:=h
      cases h;obtain⟨c,g1,rfl⟩:=hv;exact .t (HK ih h1 (BU.1 g1) hd)
     .replace h:=AU h;obtain⟨us,h1,h⟩:=h
      cases h;obtain⟨c,g1,rfl⟩:=hv;exact .rp (HK ih h1 (BU.1 g1) hd)
     .replace h:=AU h;obtain⟨us,h1,h⟩:=h
      cases h;obtain⟨c,g1,rfl⟩:=hv;exact .l (fun e=>e) (Mj ih h1 (FK.1 g1) hd)
     .replace h:=AU h;obtain⟨us,h1,h⟩:=h
      cases h;obtain⟨c,g1,rfl⟩:=hv;exact .Eo (ih _ _ _ h1 g1 hd)
     .cases h
def qx {s:St} (hs:SR P ρ s σ) (d:Nat) (v v' u:V) (h:IJ s d v=some u) (hv:RV ρ v v'):Ff σ emp v' u:=O9 hs d v v' u h hv fun _ _ _ _ _=>rfl
def Fs {f:V->Option V} (hf: ∀v u,f v=some u->BF u=true): ∀ {vs us:List V},Jw f vs=some us->B7 us=true
 | [],_,h=>by cases h;rfl
 | x::r,us,h=>by
   replace h:=AU h;obtain⟨u,h3,h⟩:=h;replace h:=AU h;obtain⟨us,h4,h⟩:=h;cases h;simp only[B7,hf _ _ h3,Fs hf h4,Bool.and_self]
def KO {f:V->Option V} (hf: ∀v u,f v=some u->BF u=true): ∀ {vs us:List (List V)},Jw (Jw f) vs=some us->QZ us=true
 | [],_,h=>by cases h;rfl
 | x::r,us,h=>by
   replace h:=AU h;obtain⟨u,h3,h⟩:=h;replace h:=AU h;obtain⟨us,h4,h⟩:=h;cases h;simp only[QZ,Fs hf h3,KO hf h4,Bool.and_self]
def VR (s : St): ∀(d:Nat) (v u:V),IJ s d v=some u->BF u=true
 | 0,_,_,h=>by cases h
 | d + 1,v,u,h=>by
   have ih:=VR s d;simp only[IJ]at h;cases hp:BF v with
   | true=>rw[hp]at h;cases h;exact hp
   | false=>
     rw[hp]at h;simp only[cond_false]at h;split at h
     .split at h
      .replace h:=AU h;obtain⟨us,h1,h⟩:=h
       cases h;simp only[BF];exact Fs ih h1
      .cases h
     .split at h
      .replace h:=AY h;obtain⟨h0,h⟩:=h
       replace h:=AU h;obtain⟨us,h1,h⟩:=h;cases h;simp only[BF];exact KO ih h1
      .cases h
     .replace h:=AU h;obtain⟨us,h1,h⟩:=h
      cases h;simp only[BF];exact Fs ih h1
     .replace h:=AU h;obtain⟨us,h1,h⟩:=h
      cases h;simp only[BF];exact Fs ih h1
     .replace h:=AU h;obtain⟨us,h1,h⟩:=h
      cases h;simp only[BF];exact Fs ih h1
     .replace h:=AU h;obtain⟨us,h1,h⟩:=h
      cases h;simp only[BF];exact KO ih h1
     .replace h:=AU h;obtain⟨us,h1,h⟩:=h
      cases h;simp only[BF];exact ih _ _ h1
     .cases h
def T7:Nat:=60
def pJ:Option (R×St)->Option (R×St)
 | some (.ret v,s)=>ob (IJ s T7 v) fun u=>some (.ret u,Ol s (OG s T7 v))
 | r=>r
def As.IJ {f:FuncId} {args:List V} {σ:AH} {Q Q':R->AH->Prop} (h:As P f args σ Q) (hq: ∀r σ',Q r σ'->(∃v vf σ'',r= .ret v/\Sub σ'' σ'/\Ff σ' σ'' v vf/\Q' (.ret vf) σ'')\/Q' r σ'):As P f args σ Q':=
 ⟨h.1,fun Λ w cs h1 h2=>Calls.mono (h.2 Λ w cs h1 h2) fun e w' ⟨r,σ',q1,q2,q3,q4⟩=>by
  rcases hq r σ' q1 with⟨v,vf,σ'',rfl,p1,p2,p3⟩|h
  .obtain⟨c,rfl,q5⟩:=q2
   exact⟨.ret vf,σ'',p3,⟨c,rfl,p2.rel q3 p1 q5⟩,q3.drop p1,q4.trans (B2.drop w' p1)⟩
  .exact⟨r,σ',h,q2,q3,q4⟩⟩
inductive Zv where
 | fn (n:Nat) (ac:AX) (AI:List RS)
 | uY (n:Nat) (aA:AX) (ops:List Aq) (x:Bg) (aC:AX) (AI:List RS) (l1 l2:List Nat)
 | uR (n:Nat) (k:Nat) (ops:List Aq) (ac:AX) (l:List Nat)
 | uh (n:Nat) (ac:AX) (AI:List RS)
 | Z0 (c:List V->St->Option (R×St))
 | wZ (n:Nat) (ac:AX)
def Nh (P:Program) (f:FuncId):Zv->Prop
 | .fn n ac AI=> ∀(args:List V) (σ:AH) (Q:R->AH->Prop),args.length<=n->T P ac (UI AI Q) (A3 0 args) σ->As P f args σ Q
 | .uh n ac AI=> ∀(args:List V) (σ:AH) (Q:R->AH->Prop),args.length<=n->T P ac (UI AI Q) (A3 0 args) σ->As P f args σ Q
 | .uY n aA ops x aC AI l1 l2=> ∀(args:List V) (σ:AH) (Q:R->AH->Prop),args.length<=n->T P (.seq l1 aA (.Cs ops)) (CK (OI P x l2 aC AI Q)) (A3 0 args) σ->As P f args σ Q
 | .uR n k ops ac l=> ∀(args:List V) (m:Option V) (σ:AH) (Q:AH->Prop),args.length<=n->T P (.seq l (.Cs ops) ac) (Ni Q) (put (some k) (m.getD .DW) (A3 0 args)) σ->G5 P f args m σ Q
 | .Z0 c=> ∀vs s r s',c vs s=some (r,s')-> ∀ρ vs' σ,Kg ρ vs vs'->SR P ρ s σ-> ∀Q:R->AH->Prop,(∀ρ' r' σ',ρ.le ρ'->nP ρ' r r'->SR P ρ' s' σ'->Q r' σ')->As P f vs' σ Q
 | .wZ n ac=> ∀(args:List V) (σ:AH) (Q:AH->Prop),args.length<=n->T P ac (Ni Q) (A3 0 args) σ->G5 P f args none σ Q
abbrev JZ:=FuncId->Option Zv
def Kv (P:Program) (tab:JZ):Prop:= ∀f fs,tab f=some fs->Nh P f fs
abbrev Er:=FuncId->List (List V×V)
def Gu (P:Program) (memo:Er):Prop:= ∀f,∀m∈memo f,B7 m.1=true/\BF m.2=true/\Pure P f m.1 m.2
def YH (s:St) (env:Env):List RS->Option (List V)
 | []=>some []
 | .t n::r=>ob (get n env) fun v=>ob (YH s env r) fun vs=>some (v::vs)
 | .c n g::r=>ob (get n env) fun a=>ob (M9 s g a) fun v=>ob (YH s env r) fun vs=>some (v::vs)
def MK {s:St} (he:RE ρ env env₀) (hs:SR P ρ s σ): ∀ {l:List RS} {vs:List V},YH s env l=some vs-> ∀ {K:List V->Prop},(∀vs',Kg ρ vs vs'->K vs')->Tj σ env₀ l K
 | [],vs,h,K,U=>by cases h;exact U _ F2.nil
 | .t n::r,vs,h,K,U=>by
   replace h:=AU h;obtain⟨v,h1,h⟩:=h;replace h:=AU h;obtain⟨us,h2,h⟩:=h;cases h;obtain⟨v',e1,e2⟩:=he.get h1;simp only[Tj,e1,Ef];exact MK he hs h2 fun us' hu=>U _ (F2.cons e2 hu)
 | .c n g::r,vs,h,K,U=>by
   replace h:=AU h;obtain⟨a,h1,h⟩:=h;replace h:=AU h;obtain⟨v,h3,h⟩:=h;replace h:=AU h;obtain⟨us,h2,h⟩:=h;cases h;obtain⟨v',e1,e2⟩:=he.get h1;simp only[Tj,e1,Ef];exact VZ hs h3 e2 fun w hw=>MK he hs h2 fun us' hu=>U _ (F2.cons hw hu)
def Nt {vs vs':List V} (h:Kg ρ vs vs'):RV ρ (ET vs) (ET vs'):=by
 match vs,vs',h with
 | [],_,h=>cases h;simp only[ET,RV];exact⟨[],BU.2 F2.nil,rfl⟩
 | [v],_,⟨y,ys,h1,h2,e⟩=>cases h2;subst e;exact h1
 | v::u::r,_,⟨y,ys,h1,⟨z,zs,h2,h3,e⟩,e'⟩=>
   subst e;subst e';show RV ρ (.t (v::u::r)) (.t (y::z::zs));simp only[RV];exact⟨_,BU.2 (F2.cons h1 (F2.cons h2 h3)),rfl⟩
def Z5 (AI:List RS) (r:Rs):Option (R×St):=
 match r with
 | some (.normal,env,s)=>ob (YH s env AI) fun vs=>some (.ret (ET vs),s)
 | some (.ret,env,s)=>ob (YH s env AI) fun vs=>some (.ret (ET vs),s)
 | some (.BZ v,_,s)=>some (.BZ v,s)
 | _=>none
def Wn (tab:JZ) (ih:AX->Env->St->Rs) (g:FuncId) (cap:List V) (m:Option V) (AI:List RS) (env:Env) (s:St):Option (R×St):=
 match tab g with
 | some (.uR n k ops ac l)=>bif Nat.ble cap.length n then
  match ih (.seq l (.Cs ops) ac) (put (some k) (m.getD .DW) (A3 0 cap)) s with
  | some (.normal,_,s')=>ob (YH s' env AI) fun vs=>some (.ret (ET vs),s')
  | some (.ret,_,s')=>ob (YH s' env AI) fun vs=>some (.ret (ET vs),s')
  | _=>none
   else none
 | some (.wZ n ac)=>match m with
   | some _=>none
   | none=>bif Nat.ble cap.length n then
     match ih ac (A3 0 cap) s with
     | some (.normal,_,s')=>ob (YH s' env AI) fun vs=>some (.ret (ET vs),s')
     | some (.ret,_,s')=>ob (YH s' env AI) fun vs=>some (.ret (ET vs),s')
     | _=>none
   else none
 | _=>none
def Qf (tab:JZ) (ih:AX->Env->St->Rs) (f:FuncId) (vs:List V) (s:St):Option (R×St):=
 match tab f with
 | some (.fn n ac AI)=>bif Nat.ble vs.length n then Z5 AI (ih ac (A3 0 vs) s)else none
 | some (.uY n aA ops x aC AI l1 l2)=>bif Nat.ble vs.length n then
  match ih (.seq l1 aA (.Cs ops)) (A3 0 vs) s with
  | some (.normal,env,s1)=>match DI env x with
    | some (.f (.func g) [] cap)=>match ih aC (prune l2 env) s1 with
      | some (.normal,env2,s2)=>Wn tab ih g cap none AI env2 s2
      | some (.ret,env2,s2)=>Wn tab ih g cap none AI env2 s2
      | some (.BZ v,env2,s2)=>Wn tab ih g cap (some v) AI env2 s2
      | _=>none
    | _=>none
  | _=>none
   else none
 | some (.uh n ac AI)=>bif Nat.ble vs.length n then pJ (Z5 AI (ih ac (A3 0 vs) s))else none
 | some (.Z0 c)=>c vs s
 | _=>none
def UW (vs:List V):List (List V×V)->Option V
 | []=>none
 | m::r=>bif L8 m.1 vs then some m.2 else UW vs r
def Gs (tab:JZ) (memo:Er) (ih:AX->Env->St->Rs):CF:=fun f vs s=>
 match memo f with
 | []=>Qf tab ih f vs s
 | m::r=>match UW vs (m::r)with
   | some v=>some (.ret v,s)
   | none=>Qf tab ih f vs s
def MQ (tab:JZ) (memo:Er) (ih:AX->Env->St->Rs):CV:=fun x vs s=>
 match x with
 | .f (.func f) first cap=>Gs tab memo ih f (first++vs++cap) s
 | .f (.yield L) [] []=>match s.t.get L with
   | some (.loop .ready env ps a b)=>bif Nat.beq vs.length ps.length then
    Tr.put none A5 s.t L fun t=>match ih a (EC ps vs env) ⟨s.nx,t⟩with
    | some (.normal,env1,s1)=>match ih b env1 s1 with
      | some (.normal,_,s2)=>Tr.put (some (.loop .ready env ps a b)) A5 s2.t L fun t=>some (.ret (.b true),⟨s2.nx,t⟩)
      | some (.ret,_,s2)=>Tr.put (some (.loop .ret env ps a b)) A5 s2.t L fun t=>some (.ret (.b false),⟨s2.nx,t⟩)
      | some (.exit id,_,s2)=>Tr.put (some (.loop (.exit id) env ps a b)) A5 s2.t L fun t=>some (.ret (.b false),⟨s2.nx,t⟩)
      | some (.BZ v,_,s2)=>some (.BZ v,s2)
      | none=>none
    | _=>none
     else none
   | _=>none
 | _=>none
def OZ (tab:JZ) (memo:Er) (ih:AX->Env->St->Rs):CP:=fun f vs=>
 bif B7 vs then match Gs tab memo ih f vs ⟨0,.leaf⟩with
  | some (.ret v,s)=>match IJ s T7 v with
    | some u=>bif BF u then some u else none
    | none=>none
  | _=>none
 else none
def H9 (tab:JZ) (memo:Er) (ih:AX->Env->St->Rs) (c:AX) (env:Env) (s:St):Rs:=
 match c with
 | .skip=>some (.normal,env,s)
 | .ret=>some (.ret,env,s)
 | .exit id=>some (.exit id,env,s)
 | .Cs ops=>UA (Gs tab memo ih) (MQ tab memo ih) (OZ tab memo ih) ops env s
 | .G2 l ops=>match Qe (Gs tab memo ih) (MQ tab memo ih) (OZ tab memo ih) ops env s with
   | some (.normal,env',s')=>some (.normal,prune l env',s')
   | r=>r
 | .seq l a b=>match ih a env s with
   | some (.normal,env',s')=>ih b (prune l env') s'
   | r=>r
 | .cond c a b=>match DI env c with
   | some (.b true)=>ih a env s
   | some (.b false)=>ih b env s
   | _=>none
 | .block id a=>match ih a env s with
   | some (.exit id',env',s')=>bif Nat.beq id' id then some (.normal,env',s')else some (.exit id',env',s')
   | r=>r
 | .scope a=>ih a env s
 | .loop l a=>match ih a (prune l env) s with
   | some (.normal,env',s')=>ih (.loop l a) env' s'
   | r=>r
 | .Da l g ps a b=>match DI env g with
   | some (.f (.func gf) [] cap)=>s.new (.loop .ready (prune l env) ps a b) fun i s1=>
    match Gs tab memo ih gf (.f (.yield i) [] []::cap) s1 with
    | some (.ret _,s2)=>match s2.t.get i with
      | some (.loop st _ _ _ _)=>Tr.put none A5 s2.t i fun t=>some ((match st with| .ready=> .normal| .ret=> .ret| .exit id=> .exit id),env,⟨s2.nx,t⟩)
      | _=>none
    | some (.BZ v,s2)=>match s2.t.get i with
      | some _=>Tr.put none A5 s2.t i fun t=>some (.BZ v,env,⟨s2.nx,t⟩)
      | none=>none
    | none=>none
   | _=>none
def run (tab:JZ) (memo:Er):Nat->AX->Env->St->Rs
 | 0,_,_,_=>none
 | n+1,c,env,s=>H9 tab memo (run tab memo n) c env s
def Qh (P:Program) (ih:AX->Env->St->Rs):Prop:= ∀c env s ex env' s',ih c env s=some (ex,env',s')-> ∀ρ env₀ σ,RE ρ env env₀->SR P ρ s σ->
 ∀Q:Ah->Env->AH->Prop,(∀ρ' ex₀ env₁ σ',ρ.le ρ'->wg ρ' ex ex₀->RE ρ' env' env₁->SR P ρ' s' σ'->Q ex₀ env₁ σ')->T P c Q env₀ σ
def wg.normal {ex:Ah} (h:wg ρ .normal ex):ex= .normal:=h
def ZP {AI:List RS} {ex:Ah} {env':Env} {s1 s':St} {r:R} (h:Z5 AI (some (ex,env',s1))=some (r,s')) {Q:R->AH->Prop}
    (hQ: ∀ρ' r' σ',ρ.le ρ'->nP ρ' r r'->SR P ρ' s' σ'->Q r' σ') {ρ':Ren} {ex₀:Ah} {env₁:Env} {σ':AH} (q1:ρ.le ρ') (q2:wg ρ' ex ex₀) (q3:RE ρ' env' env₁) (q4:SR P ρ' s1 σ'):UI AI Q ex₀ env₁ σ':=by
 cases ex with
 | normal=>
   cases q2;replace h:=AU h;obtain⟨vs,h1,h⟩:=h;cases h;exact MK q3 q4 h1 fun vs' hv=>⟨_,σ',Sub.refl _,.refl _,hQ ρ' _ σ' q1 ⟨_,Nt hv,rfl⟩ q4⟩
 | ret=>
   cases q2;replace h:=AU h;obtain⟨vs,h1,h⟩:=h;cases h;exact MK q3 q4 h1 fun vs' hv=>⟨_,σ',Sub.refl _,.refl _,hQ ρ' _ σ' q1 ⟨_,Nt hv,rfl⟩ q4⟩
 | exit id=>cases h
 | BZ v=>
   cases h;obtain⟨v',h1,rfl⟩:=q2;exact⟨v',σ',Sub.refl _,.refl _,hQ ρ' (.BZ v') σ' q1 ⟨v',h1,rfl⟩ q4⟩
def G5.mono {f:FuncId} {args:List V} {m:Option V} {σ:AH} {Q Q':AH->Prop} (h:G5 P f args m σ Q) (hq: ∀σ',Q σ'->Q' σ'):G5 P f args m σ Q':=
 ⟨h.1,fun Λ w cs u h1 h2 h3=>CallsDIn.mono (h.2 Λ w cs u h1 h2 h3) fun e u' w' ⟨a,b,σ',c,d⟩=>⟨a,b,σ',hq _ c,d⟩⟩
def TN {tab:JZ} (ht:Kv P tab) {ih:AX->Env->St->Rs} (hi:Qh P ih) {g:FuncId} {cap cap':List V} {m m':Option V} {AI:List RS} {s s':St} {r:R} (h:Wn tab ih g cap m AI env s=some (r,s'))
    (he:RE ρ env env₀) (hs:SR P ρ s σ) (hc:Kg ρ cap cap') (hm:nM ρ m m') {Q:R->AH->Prop} (hQ: ∀ρ' r' σ',ρ.le ρ'->nP ρ' r r'->SR P ρ' s' σ'->Q r' σ') :
    G5 P g cap' m' σ fun σ'=>Tj σ' env₀ AI fun vs=>Am σ' (ET vs) Q:=by
 unfold Wn at h;split at h
 .rename_i n k ops ac l htab
  obtain⟨h1,h2⟩:=AY h
  have hg:RV ρ (m.getD .DW) (m'.getD .DW):=by
   cases m with
   | none=>cases hm;exact RV.pure _ rfl
   | some v=>obtain⟨v',h3,rfl⟩:=hm;exact h3
  have fin: ∀ {ex:Ah} {e2:Env} {s2:St},ih (.seq l (.Cs ops) ac) (put (some k) (m.getD .DW) (A3 0 cap)) s=some (ex,e2,s2)->(ex= .normal\/ex= .ret)->(ob (YH s2 env AI) fun vs=>some (R.ret (ET vs),s2))=some (r,s')->
   G5 P g cap' m' σ fun σ'=>Tj σ' env₀ AI fun vs=>Am σ' (ET vs) Q:=fun {ex e2 s2} q1 q2 q3=>by
   obtain⟨vs,q4,q5⟩:=AU q3;cases q5;refine ht g _ htab cap' m' σ _ (by rw[hc.len];exact Nat.le_of_ble_eq_true h1) ?_;refine hi _ _ _ _ _ _ q1 ρ _ σ ((RE.args hc).put hg (some k)) hs _ fun ρ' ex₀ e₁ σ' p1 p2 p3 p4=>?_
   have base:Tj σ' env₀ AI fun vs=>Am σ' (ET vs) Q:=MK (he.mono p1) p4 q4 fun vs' hv=>⟨_,σ',Sub.refl _,.refl _,hQ ρ' _ σ' p1 ⟨_,Nt hv,rfl⟩ p4⟩
   rcases q2 with e|e
   .subst e;cases p2;exact base
   .subst e;cases p2;exact base
  split at h2
  .rename_i hr;exact fin hr (.inl rfl) h2
  .rename_i hr;exact fin hr (.inr rfl) h2
  .cases h2
 .rename_i n ac htab
  cases m with
  | some v=>cases h
  | none=>
    cases hm;obtain⟨h1,h2⟩:=AY h
    have fin: ∀ {ex:Ah} {e2:Env} {s2:St},ih ac (A3 0 cap) s=some (ex,e2,s2)->(ex= .normal\/ex= .ret)->(ob (YH s2 env AI) fun vs=>some (R.ret (ET vs),s2))=some (r,s')->
     G5 P g cap' none σ fun σ'=>Tj σ' env₀ AI fun vs=>Am σ' (ET vs) Q:=fun {ex e2 s2} q1 q2 q3=>by
     obtain⟨vs,q4,q5⟩:=AU q3;cases q5;refine ht g _ htab cap' σ _ (by rw[hc.len];exact Nat.le_of_ble_eq_true h1) ?_;refine hi _ _ _ _ _ _ q1 ρ _ σ (RE.args hc) hs _ fun ρ' ex₀ e₁ σ' p1 p2 p3 p4=>?_
     have base:Tj σ' env₀ AI fun vs=>Am σ' (ET vs) Q:=MK (he.mono p1) p4 q4 fun vs' hv=>⟨_,σ',Sub.refl _,.refl _,hQ ρ' _ σ' p1 ⟨_,Nt hv,rfl⟩ p4⟩
     rcases q2 with e|e
     .subst e;cases p2;exact base
     .subst e;cases p2;exact base
    split at h2
    .rename_i hr;exact fin hr (.inl rfl) h2
    .rename_i hr;exact fin hr (.inr rfl) h2
    .cases h2
 .cases h
def Vg {tab:JZ} (ht:Kv P tab) {ih:AX->Env->St->Rs} (hi:Qh P ih):KB P (Qf tab ih):=by
 intro f vs s r s' h ρ vs' σ hv hs Q hQ;unfold Qf at h;split at h
 .rename_i n ac AI htab
  obtain⟨h1,h2⟩:=AY h;cases hr:ih ac (A3 0 vs) s with
  | none=>rw[hr]at h2;cases h2
  | some x=>
    obtain⟨ex,env',s1⟩:=x;rw[hr]at h2;refine ht f _ htab vs' σ Q (by rw[hv.len];exact Nat.le_of_ble_eq_true h1) ?_;exact hi _ _ _ _ _ _ hr ρ _ σ (RE.args hv) hs _ fun ρ' ex₀ e₁ σ' p1 p2 p3 p4=>ZP h2 hQ p1 p2 p3 p4
 .rename_i n aA ops x aC AI l1 l2 htab
  obtain⟨h1,h2⟩:=AY h;split at h2
  .rename_i env1 s1 hr1
   split at h2
   .rename_i g cap hx
    refine ht f _ htab vs' σ Q (by rw[hv.len];exact Nat.le_of_ble_eq_true h1) ?_;refine hi _ _ _ _ _ _ hr1 ρ _ σ (RE.args hv) hs _ fun ρ1 ex₀ e₁ σ1 p1 p2 p3 p4=>?_
    cases p2;obtain⟨x',q1,fn',a',b',q2,q3,q4,rfl⟩:=Av p3 hx;simp only[Zu]at q2;subst q2;have q3:=BU.1 q3;cases q3;show OI P x l2 aC AI Q e₁ σ1;simp only[OI,q1,Ef];split at h2
    .rename_i env2 s2 hr2
     refine hi _ _ _ _ _ _ hr2 ρ1 _ σ1 (p3.prune l2) p4 _ fun ρ2 ex₀ e₂ σ2 u1 u2 u3 u4=>?_
     cases u2;exact TN ht hi h2 u3 u4 (Kg.mono u1 (BU.1 q4)) rfl fun ρ3 r' σ3 w1 w2 w3=>hQ ρ3 r' σ3 ((p1.trans u1).trans w1) w2 w3
    .rename_i env2 s2 hr2
     refine hi _ _ _ _ _ _ hr2 ρ1 _ σ1 (p3.prune l2) p4 _ fun ρ2 ex₀ e₂ σ2 u1 u2 u3 u4=>?_
     cases u2;exact TN ht hi h2 u3 u4 (Kg.mono u1 (BU.1 q4)) rfl fun ρ3 r' σ3 w1 w2 w3=>hQ ρ3 r' σ3 ((p1.trans u1).trans w1) w2 w3
    .rename_i v env2 s2 hr2
     refine hi _ _ _ _ _ _ hr2 ρ1 _ σ1 (p3.prune l2) p4 _ fun ρ2 ex₀ e₂ σ2 u1 u2 u3 u4=>?_
     obtain⟨v',u5,rfl⟩:=u2;exact TN ht hi h2 u3 u4 (Kg.mono u1 (BU.1 q4)) ⟨v',u5,rfl⟩ fun ρ3 r' σ3 w1 w2 w3=>hQ ρ3 r' σ3 ((p1.trans u1).trans w1) w2 w3
    .cases h2
   .cases h2
  .cases h2
 .rename_i n ac AI htab
  replace h:=AY h;obtain⟨h1,h2⟩:=h;cases hr:ih ac (A3 0 vs) s with
  | none=>rw[hr]at h2;cases h2
  | some x=>
    obtain⟨ex,env',s1⟩:=x;rw[hr]at h2;cases he:Z5 AI (some (ex,env',s1))with
    | none=>rw[he]at h2;cases h2
    | some y=>
      obtain⟨r1,s2⟩:=y;rw[he]at h2
      have hc:As P f vs' σ fun r' σ'=> ∃ρ',ρ.le ρ'/\nP ρ' r1 r'/\SR P ρ' s2 σ':=by
       refine ht f _ htab vs' σ _ (by rw[hv.len];exact Nat.le_of_ble_eq_true h1) ?_;exact hi _ _ _ _ _ _ hr ρ _ σ (RE.args hv) hs _ fun ρ' ex₀ e₁ σ' p1 p2 p3 p4=>ZP he (fun ρ' r' σ' a b c=>⟨ρ',a,b,c⟩) p1 p2 p3 p4
      refine hc.IJ fun r' σ' ⟨ρ',q1,q2,q3⟩=>?_
      cases r1 with
      | BZ v=>
        cases h2;exact .inr (hQ ρ' _ _ q1 q2 q3)
      | ret v=>
        obtain⟨v',q4,rfl⟩:=q2;obtain⟨u,h3,h4⟩:=AU h2;cases h4;obtain⟨σ'',g1,g2,g3⟩:=Mp (l:=OG s2 T7 v) q3;by_cases hp:BF u=true
        .exact .inl ⟨v',u,σ'',rfl,g2,O9 q3 T7 v v' u h3 q4 g3,hQ ρ' _ _ q1 ⟨u,RV.pure u hp,rfl⟩ g1⟩
        .exact absurd (VR s2 T7 v u h3) hp
 .rename_i c htab
  exact ht f _ htab vs s r s' h ρ vs' σ hv hs Q hQ
 .cases h
def VV {vs:List V}: ∀ {l:List (List V×V)} {v:V},UW vs l=some v->(vs,v)∈l
 | [],_,h=>by cases h
 | m ::r,v,h=>by
   simp only[UW]at h;cases hb:L8 m.1 vs with
   | true=>
     rw[hb]at h;cases h;have:=GY _ _ hb;obtain⟨a,b⟩:=m;subst this;exact .head _
   | false=>rw[hb]at h;exact .tail _ (VV h)
def Ms {tab:JZ} (ht:Kv P tab) {memo:Er} (hm:Gu P memo) {ih:AX->Env->St->Rs} (hi:Qh P ih):KB P (Gs tab memo ih):=by
 intro f vs s r s' h ρ vs' σ hv hs Q hQ;unfold Gs at h;split at h
 .exact Vg ht hi f vs s r s' h ρ vs' σ hv hs Q hQ
 .rename_i m l hml
  split at h
  .rename_i v hf
   cases h;have hmem:=VV hf;rw[<-hml]at hmem;obtain⟨h1,h2,h3⟩:=hm f _ hmem;rw[jr hv h1];refine(h3.use (σ:=σ) (k:=fun v σ'=>Q (.ret v) σ') (kp:=fun v σ'=>Q (.BZ v) σ') ?_).mono fun r σ' h=>?_
   .exact hQ ρ _ σ (.refl _) ⟨v,RV.pure v h2,rfl⟩ hs
   .cases r<;>exact h
  .exact Vg ht hi f vs s r s' h ρ vs' σ hv hs Q hQ
def SR.back {s:St} (hs:SR P ρ s σ) {i:Nat} {m:Nat×Nat} (hm:ρ i=some m) (hn:σ m.1=none) {o1:EO} {o1':O} (ho:RO P ρ m.2 o1 o1') :
    SR P ρ ⟨s.nx,Tr.set (some o1) A5 s.t i⟩ (Gl.A6 σ m.1 o1'):=by
 have hl:=Z3 (hs.lt hm)
 have hno:s.t.get i=none:=by
  cases hg:s.t.get i with
  | none=>rfl
  | some o=>
    obtain⟨o',h1,_⟩:=hs.at hg hm;rw[hn]at h1;cases h1
 have nm: ∀ {j q m1},s.t.get j=some q->ρ j=some m1->m1.1≠m.1:=fun {j q m1} h1 h2 e=>by
  obtain⟨o',h3,_⟩:=hs.at h1 h2;rw[e,hn]at h3;cases h3
 refine⟨fun j o2 h1=>?_,fun j j' o2 o3 m1 m2 h1 h2 h3 h4 h5=>?_,hs.oa,hs.lim⟩
 .rw[Tr.Dk _ _ _ hl]at h1
  by_cases e:j=i
  .subst e
   rw[if_pos rfl]at h1;cases h1;exact⟨m,hm,o1',Cz _ _ _,ho⟩
  .rw[if_neg e]at h1
   obtain⟨m1,h2,o3,h3,h4⟩:=hs.get j o2 h1;exact⟨m1,h2,o3,by rw[Ca _ _ (nm h1 h2)];exact h3,h4⟩
 .rw[Tr.Dk _ _ _ hl]at h1 h2
  by_cases e:j=i<;>by_cases e':j'=i
  .omega
  .exfalso
   subst e;rw[if_neg e']at h2;rw[hm]at h3;cases h3;exact nm h2 h4 h5.symm
  .exfalso
   subst e';rw[if_neg e]at h1;rw[hm]at h4;cases h4;exact nm h1 h3 h5
  .rw[if_neg e]at h1
   rw[if_neg e']at h2;exact hs.inj j j' o2 o3 m1 m2 h1 h2 h3 h4 h5
def cG {tab:JZ} (ht:Kv P tab) {memo:Er} (hm:Gu P memo) {ih:AX->Env->St->Rs} (hi:Qh P ih):JD P (MQ tab memo ih):=by
 intro x vs s r s' h ρ x' vs' σ hx hv hs Q hQ;unfold MQ at h;split at h
 .rename_i f first cap
  obtain⟨fn',a',b',h1,h2,h3,rfl⟩:=hx;simp only[Zu]at h1;subst h1;exact Ms ht hm hi f _ s r s' h ρ _ σ (((BU.1 h2).app hv).app (BU.1 h3)) hs Q hQ
 .rename_i L
  obtain⟨fn',a',b',⟨m,h1,rfl⟩,h2,h3,rfl⟩:=hx;have h2:=BU.1 h2;have h3:=BU.1 h3;cases h2;cases h3;split at h
  .rename_i env1 ps a b hg
   obtain⟨o',g1,env1',g2,rfl⟩:=hs.at hg h1;obtain⟨h4,h5⟩:=AY h;rw[Tr.put_eq]at h5;show L9 P m.1 vs' σ Q;refine Pu g1 (by rw[hv.len];exact Cn h4) ?_;split at h5
   .rename_i e2 s1 hr1
    refine hi _ _ _ _ _ _ hr1 ρ _ _ (RE.binds hv g2) (hs.del hg h1) _ fun ρ1 ex₀ e₁ σ1 p1 p2 p3 p4=>?_
    cases p2;show T P b _ e₁ σ1;have hm1:=p1 _ _ h1;split at h5
    .rename_i e3 s2 hr2
     refine hi _ _ _ _ _ _ hr2 ρ1 _ _ p3 p4 _ fun ρ2 ex₀ e₂ σ2 u1 u2 u3 u4 hno=>?_
     cases u2;rw[Tr.put_eq]at h5;cases h5;exact hQ ρ2 _ _ (p1.trans u1) ⟨_,RV.pure _ rfl,rfl⟩ (u4.back (u1 _ _ hm1) hno ⟨_,g2.mono (p1.trans u1),rfl⟩)
    .rename_i e3 s2 hr2
     refine hi _ _ _ _ _ _ hr2 ρ1 _ _ p3 p4 _ fun ρ2 ex₀ e₂ σ2 u1 u2 u3 u4 hno=>?_
     cases u2;rw[Tr.put_eq]at h5;cases h5;exact hQ ρ2 _ _ (p1.trans u1) ⟨_,RV.pure _ rfl,rfl⟩ (u4.back (u1 _ _ hm1) hno ⟨_,g2.mono (p1.trans u1),rfl⟩)
    .rename_i id e3 s2 hr2
     refine hi _ _ _ _ _ _ hr2 ρ1 _ _ p3 p4 _ fun ρ2 ex₀ e₂ σ2 u1 u2 u3 u4 hno=>?_
     cases u2;rw[Tr.put_eq]at h5;cases h5;exact hQ ρ2 _ _ (p1.trans u1) ⟨_,RV.pure _ rfl,rfl⟩ (u4.back (u1 _ _ hm1) hno ⟨_,g2.mono (p1.trans u1),rfl⟩)
    .rename_i v e3 s2 hr2
     refine hi _ _ _ _ _ _ hr2 ρ1 _ _ p3 p4 _ fun ρ2 ex₀ e₂ σ2 u1 u2 u3 u4 hno=>?_
     obtain⟨v',u5,rfl⟩:=u2;cases h5;exact hQ ρ2 _ _ (p1.trans u1) ⟨v',u5,rfl⟩ u4
    .cases h5
   .cases h5
  .cases h
 .cases h
def SR.emp:SR P (fun _=>none) ⟨0,.leaf⟩ Gl.emp:=⟨fun _ _ h=>(by cases h),fun _ _ _ _ _ _ h=>(by cases h),fun _ _=>rfl,by show 0<=L5+1;omega⟩
def Vh {tab:JZ} (ht:Kv P tab) {memo:Er} (hm:Gu P memo) {ih:AX->Env->St->Rs} (hi:Qh P ih):MV P (OZ tab memo ih):=by
 intro f vs v h;unfold OZ at h;obtain⟨h1,h2⟩:=AY h;split at h2
 .rename_i u s hr
  split at h2
  .rename_i w hw
   obtain⟨h3,h4⟩:=AY h2;cases h4;refine⟨h1,h3,?_⟩;refine(Ms ht hm hi f vs _ _ _ hr (fun _=>none) vs Gl.emp (BU.1 (RL.pure vs h1)) SR.emp (fun r σ'=> ∃ρ' u',RV ρ' u u'/\SR P ρ' s σ'/\r= .ret u') fun ρ' r' σ' _ q2 q3=>?_).IJ fun r σ' ⟨ρ',u',q1,q2,e⟩=>?_
   .obtain⟨u',q4,rfl⟩:=q2
    exact⟨ρ',u',q4,q3,rfl⟩
   .subst e
    exact .inl ⟨u',v,Gl.emp,rfl,fun n o ho=>(by cases ho),qx q2 T7 u u' v hw q1,rfl,rfl⟩
  .cases h2
 .cases h2
def pZ {tab : JZ} (ht:Kv P tab) {memo:Er} (hm:Gu P memo): ∀n,Qh P (run tab memo n):=by
 intro n
 induction n using Nat.strongRecOn with
 | ind n IH=>
   cases n with
   | zero=>intro c env s ex env' s' h;cases h
   | succ n=>
     have hi:=IH n (Nat.lt_succ_self n);have hcf:=Ms ht hm hi;have hcv:=cG ht hm hi;have hcp:=Vh ht hm hi;intro c env s ex env' s' h ρ env₀ σ he hs Q hQ;have h:H9 tab memo (run tab memo n) c env s=some (ex,env',s'):=h;cases c with
     | skip=>cases h;exact hQ ρ _ _ _ (.refl _) rfl he hs
     | ret=>cases h;exact hQ ρ _ _ _ (.refl _) rfl he hs
     | exit id=>cases h;exact hQ ρ _ _ _ (.refl _) rfl he hs
     | Cs ops=>
       simp only[H9]at h;refine(ZQ hcf hcv hcp h he hs (K:=fun env σ=>Q .normal env σ) (kp:=fun env v σ=>Q (.BZ v) env σ) (fun ρ' e₁ σ' q1 q2 q3 q4=>?_) (fun ρ' v v' e₁ σ' q1 q2 q3 q4 q5=>?_)).2.2
       .subst q2;exact hQ ρ' _ _ _ q1 rfl q3 q4
       .subst q2;exact hQ ρ' _ _ _ q1 ⟨v',q3,rfl⟩ q4 q5
     | G2 l ops=>
       simp only[H9]at h;show DC P ops (fun env σ=>Q .normal (prune l env) σ) (fun v σ=> ∀σ',Sub σ σ'->Q (.BZ v) [] σ') env₀ σ;split at h
       .rename_i e1 s1 hr
        cases h;exact PD hcf hcv hcp hr he hs (fun ρ' e₁ σ' q1 q2 q3 q4=>hQ ρ' _ _ _ q1 rfl (q3.prune l) q4) (fun ρ' v v' σ' q1 q2 q3 q4 q5=>by cases q2)
       .rename_i hne
        refine PD hcf hcv hcp h he hs (fun ρ' e₁ σ' q1 q2 q3 q4=>?_) (fun ρ' v v' σ' q1 q2 q3 q4 q5=>?_)
        .subst q2;exact absurd h (hne _ _)
        .subst q2;subst q3;exact fun σ2 hs2=>hQ ρ' _ _ _ q1 ⟨v',q4,rfl⟩ F2.nil ⟨fun i o hi=>let⟨m,a1,o',a2,a3⟩:=q5.get i o hi;⟨m,a1,o',hs2 _ _ a2,a3⟩,q5.inj,q5.oa,q5.lim⟩
     | seq l a b=>
       simp only[H9]at h;show T P a (Ah.andThen (fun env σ=>Fz (prune l env) σ (T P b Q)) Q) env₀ σ;split at h
       .rename_i e1 s1 hr
        refine hi _ _ _ _ _ _ hr ρ _ σ he hs _ fun ρ1 ex₀ e₁ σ1 p1 p2 p3 p4=>?_
        cases p2;exact .inl <| hi _ _ _ _ _ _ h ρ1 _ σ1 (p3.prune l) p4 _ fun ρ2 ex₀ e₂ σ2 u1 u2 u3 u4=>hQ ρ2 _ _ _ (p1.trans u1) u2 u3 u4
       .rename_i hne
        refine hi _ _ _ _ _ _ h ρ _ σ he hs _ fun ρ1 ex₀ e₁ σ1 p1 p2 p3 p4=>?_
        have hf:=hQ ρ1 _ _ _ p1 p2 p3 p4;cases ex with
        | normal=>exact absurd h (hne _ _)
        | ret=>cases p2;exact hf
        | exit id=>cases p2;exact hf
        | BZ v=>obtain⟨v',u1,rfl⟩:=p2;exact hf
     | cond c a b=>
       simp only[H9]at h;simp only[T];split at h
       .rename_i hc
        obtain⟨v',q1,q2⟩:=Av he hc;simp only[RV]at q2;subst q2;rw[q1];exact⟨fun _=>hi _ _ _ _ _ _ h ρ _ σ he hs _ hQ,fun e=>by cases e⟩
       .rename_i hc
        obtain⟨v',q1,q2⟩:=Av he hc;simp only[RV]at q2;subst q2;rw[q1];exact⟨fun e=>(by cases e),fun _=>hi _ _ _ _ _ _ h ρ _ σ he hs _ hQ⟩
       .cases h
     | block id a=>
       simp only[H9]at h;show T P a (Ah.inBlock id Q) env₀ σ;split at h
       .rename_i id' e1 s1 hr
        refine hi _ _ _ _ _ _ hr ρ _ σ he hs _ fun ρ1 ex₀ e₁ σ1 p1 p2 p3 p4=>?_
        cases p2;simp only[Ah.inBlock];cases hb:Nat.beq id' id with
        | true=>rw[hb]at h;cases h;exact hQ ρ1 _ _ _ p1 rfl p3 p4
        | false=>rw[hb]at h;cases h;exact hQ ρ1 _ _ _ p1 rfl p3 p4
       .rename_i hne
        refine hi _ _ _ _ _ _ h ρ _ σ he hs _ fun ρ1 ex₀ e₁ σ1 p1 p2 p3 p4=>?_
        have hf:=hQ ρ1 _ _ _ p1 p2 p3 p4;cases ex with
        | normal=>cases p2;exact hf
        | ret=>cases p2;exact hf
        | exit id=>exact absurd h (hne _ _ _)
        | BZ v=>obtain⟨v',u1,rfl⟩:=p2;exact hf
     | scope a=>
       simp only[H9]at h;exact hi _ _ _ _ _ _ h ρ _ σ he hs _ hQ
     | loop l a=>
       refine⟨fun m E τ=>m<=n+1/\ ∃e s1 ρ1,ρ.le ρ1/\RE ρ1 (prune l e) E/\SR P ρ1 s1 τ/\run tab memo m (.loop l a) e s1=some (ex,env',s'),⟨n+1,IN _,env,s,ρ,.refl _,he.prune l,hs,h⟩,?_⟩;rintro m E τ ⟨hm1,e,s1,ρ1,q1,q2,q3,q4⟩;cases m with
       | zero=>cases q4
       | succ m=>
         have hi1:=IH m (by omega)
         have q4:(match run tab memo m a (prune l e) s1 with
          | some (.normal,env',s')=>run tab memo m (.loop l a) env' s'
          | r=>r)=some (ex,env',s'):=q4
         split at q4
         .rename_i e2 s2 hr
          refine hi1 _ _ _ _ _ _ hr ρ1 _ τ q2 q3 _ fun ρ2 ex₀ e₁ σ1 p1 p2 p3 p4=>?_
          cases p2;exact⟨m,Nat.lt_succ_self m,by omega,e2,s2,ρ2,q1.trans p1,p3.prune l,p4,q4⟩
         .rename_i hne
          refine hi1 _ _ _ _ _ _ q4 ρ1 _ τ q2 q3 _ fun ρ2 ex₀ e₁ σ1 p1 p2 p3 p4=>?_
          have hf:=hQ ρ2 _ _ _ (q1.trans p1) p2 p3 p4;cases ex with
          | normal=>exact absurd q4 (hne _ _)
          | ret=>cases p2;exact hf
          | exit id=>cases p2;exact hf
          | BZ v=>obtain⟨v',u1,rfl⟩:=p2;exact hf
     | Da l g ps a b=>
       simp only[H9]at h;simp only[T];split at h
       .rename_i gf cap hg
        obtain⟨x',q1,fn',a',b',q2,q3,q4,rfl⟩:=Av he hg;simp only[Zu]at q2;subst q2;have q3:=BU.1 q3;have q4:=BU.1 q4;cases q3;rw[q1];intro L hL;obtain⟨h1,h2⟩:=St.Hk h;obtain⟨ρ1,p1,p2,p3⟩:=hs.new h1 hL 0 (o:= .loop .ready (prune l env) ps a b) (o':= .loop .ready (prune l env₀) (Bb P ps a b)) ⟨_,he.prune l,rfl⟩
        have hfy:RV ρ1 (.f (.yield s.nx) [] []) (.f (.yield L) [] []):=by
         simp only[RV];exact⟨.yield L,[],[],⟨_,p2,rfl⟩,BU.2 F2.nil,BU.2 F2.nil,rfl⟩
        split at h2
        .rename_i v s2 hr
         refine hcf gf _ _ _ _ hr ρ1 _ _ (F2.cons hfy (Kg.mono p1 q4)) p3 _ fun ρ2 r' σ2 u1 u2 u3=>?_
         obtain⟨v',_,rfl⟩:=u2;split at h2
         .rename_i st e9 ps9 a9 b9 hg2
          rw[Tr.put_eq]at h2;have hm2:=u1 _ _ p2;obtain⟨o',w1,e8,w2,rfl⟩:=u3.at hg2 hm2;refine⟨st,e8,_,w1,?_⟩;have hd:=u3.del hg2 hm2;cases st<;>(simp only[id]at h2;cases h2;exact hQ ρ2 _ _ _ (p1.trans u1) rfl (he.mono (p1.trans u1)) hd)
         .cases h2
        .rename_i v s2 hr
         refine hcf gf _ _ _ _ hr ρ1 _ _ (F2.cons hfy (Kg.mono p1 q4)) p3 _ fun ρ2 r' σ2 u1 u2 u3=>?_
         obtain⟨v',u4,rfl⟩:=u2;split at h2
         .rename_i o9 hg2
          rw[Tr.put_eq]at h2;have hm2:=u1 _ _ p2;have hd:=u3.del hg2 hm2;cases h2;exact hQ ρ2 _ _ _ (p1.trans u1) ⟨v',u4,rfl⟩ (he.mono (p1.trans u1)) hd
         .cases h2
        .cases h2
       .cases h
def eJ (tab:JZ) (memo:Er) (n:Nat) (f:FuncId) (vs:List V) (v:V):Bool:=
 match OZ tab memo (run tab memo n) f vs with
 | some u=>EW u v
 | none=>false
def V3 {tab:JZ} (ht:Kv P tab) {memo:Er} (hm:Gu P memo) {n:Nat} {f:FuncId} {vs:List V} {v:V} (h:eJ tab memo n f vs v=true):B7 vs=true/\BF v=true/\Pure P f vs v:=by
 unfold eJ at h;split at h
 .rename_i u hu
  have:=N6 _ _ h;subst this;exact Vh ht hm (pZ ht hm n) f vs u hu
 .cases h
end Go.Gl
namespace Go.Gl
variable {P:Program} {ρ ρ':Ren} {σ:AH}
def XK (sz:Nat) (vs:List V) (s:St):Option (R×St):=
 match vs with
 | [.l es f]=>match IA s sz (.l es f)with
   | some []=>some (.ret (.l [] true),s)
   | some (y::ys)=>bif (y::ys).all (fun e=>e.all CA)&&Nat.ble (y::ys).length 1073741824 then s.new (.arr sz (y::ys)) fun i s'=>some (.ret (.sl i (y::ys).length 0),s')else none
   | none=>none
 | [.sl n len c]=>match IA s sz (.sl n len c)with
   | some []=>some (.ret (.l [] true),s)
   | some (y::ys)=>bif (y::ys).all (fun e=>e.all CA)&&Nat.ble (y::ys).length 1073741824 then s.new (.arr sz (y::ys)) fun i s'=>some (.ret (.sl i (y::ys).length 0),s')else none
   | none=>none
 | _=>none
def Ya {α:Type} (p:Nat->α->Prop) (f:Nat->Nat) (t:Tr α):Prop:= ∀j a,t.get j=some a->p (f j) a
def m6 {α:Type} {p:Nat->α->Prop} {f:Nat->Nat}:Ya p f .leaf:=fun _ _ h=>by cases h
def iB:Gu P (fun _=>[]):=fun _ _ h=>by cases h
end Go.Gl
