import Derived.Test.YtcfkfhaedllcpaaGreatU26
set_option linter.all false
set_option linter.defProp false
set_option maxHeartbeats 8000000
noncomputable section
namespace Go.Gl
variable {P:Program} {Y Y':Ren} {Z:AE} {env env₀:Env}
def ob {α β:Type} (o:Option α) (k:α->Option β):Option β:=match o with|some v=>k v|none=>none
def AI {α β:Type} {o:Option α} {k:α->Option β} {r:β} (h:ob o k=some r): ∃v,o=some v/\k v=some r:=by
 cases o with
 | none=>cases h
 | some v=>exact⟨v,rfl,h⟩
def iz (Y:Ren):AR->AR->Prop
 | .BL v,x=> ∃v',RV Y v v'/\x= .BL v'
 | .normal,x=>x= .normal
 | .ret,x=>x= .ret
 | .exit id,x=>x= .exit id
def Zl (Y:Ren):R->R->Prop
 | .ret v,r=> ∃v',RV Y v v'/\r= .ret v'
 | .BL v,r=> ∃v',RV Y v v'/\r= .BL v'
abbrev CF:=FuncId->List V->St->Option (R×St)
abbrev CV:=V->List V->St->Option (R×St)
abbrev CP:=FuncId->List V->Option V
def H0 (P:Program) (c:CF):Prop:= ∀f vs s r s',c f vs s=some (r,s')-> ∀Y vs' Z,IJ Y vs vs'->SR P Y s Z-> ∀Q:R->AE->Prop,(∀Y' r' Z',Y.le Y'->Zl Y' r r'->SR P Y' s' Z'->Q r' Z')->BD P f vs' Z Q
def HF (P:Program) (c:CV):Prop:= ∀x vs s r s',c x vs s=some (r,s')-> ∀Y x' vs' Z,RV Y x x'->IJ Y vs vs'->SR P Y s Z-> ∀Q:R->AE->Prop,(∀Y' r' Z',Y.le Y'->Zl Y' r r'->SR P Y' s' Z'->Q r' Z')->BF P x' vs' Z Q
def Jg (P:Program) (c:CP):Prop:= ∀f vs v,c f vs=some v->Bi vs=true/\A2 v=true/\Pure P f vs v
def ov (o:Option V) (s:St):Option (R×St):=match o with|some v=>some (.ret v,s)|none=>none
def Bs {o:Option V} {s s':St} {r:R} (h:ov o s=some (r,s')): ∃v,o=some v/\r= .ret v/\s'=s:=by
 cases o with
 | none=>cases h
 | some v=>cases h;exact⟨v,rfl,rfl,rfl⟩
def os (o:Option St):Option (R×St):=match o with|some s=>some (.ret (.t []),s)|none=>none
def YR {o:Option St} {s':St} {r:R} (h:os o=some (r,s')):o=some s'/\r= .ret (.t []):=by
 cases o with
 | none=>cases h
 | some v=>cases h;exact⟨rfl,rfl⟩
def TQ (o:Option (V×St)):Option (R×St):=match o with|some (v,s)=>some (.ret v,s)|none=>none
def Ir {o:Option (V×St)} {s':St} {r:R} (h:TQ o=some (r,s')): ∃v,o=some (v,s')/\r= .ret v:=by
 cases o with
 | none=>cases h
 | some v=>cases h;exact⟨_,rfl,rfl⟩
def Hp (env:Env):Option BQ->Option (Option V)
 | none=>some none
 | some x=>match Cd env x with|some v=>some (some v)|none=>none
def Jl (he:RE Y env env₀) {x:Option BQ} {v:Option V} (h:Hp env x=some v): ∃v',FX env₀ x=some v'/\Zk Y v v':=by
 cases x with
 | none=>cases h;exact⟨none,rfl,rfl⟩
 | some x=>
   simp only[Hp]at h;split at h
   .rename_i u hu
    cases h;obtain⟨v',h1,h2⟩:=Ag he hu;exact⟨some v',by simp only[FX,h1],v',h2,rfl⟩
   .cases h
def VD (t:TypeId) (z:V) (ok:Bool) (x:V):Option V:=
 match x with
 | .De t' v=>bif Nat.beq t' t then some (bif ok then .t [v,.b true]else v)else(bif ok&&A2 z then some (.t [z,.b false])else none)
 | .C0=>bif ok&&A2 z then some (.t [z,.b false])else none
 | _=>none
def JY (x:V):Option V:=
 match x with
 | .p n off=>some (.p n off)
 | .rp cs=>some (.rp cs)
 | .pe n sz i off=>some (.pe n sz i off)
 | .f (.func f) a b=>some (.f (.func f) a b)
 | .f (.yield f) a b=>some (.f (.yield f) a b)
 | _=>none
def EK (cf:CF) (cv:CV) (cp:CP) (o:EM) (env:Env) (s:St):Option (R×St):=
 match o with
 | .mv x=>ov (Cd env x) s
 | .Xi x=>ov (Cd env x) s
 | .pick c a b=>ob (Cd env c) fun vc=>ob (Cd env a) fun va=>ob (Cd env b) fun vb=>match vc with| .b t=>some (.ret (bif t then va else vb),s)|_=>none
 | .bin op x y=>ob (Cd env x) fun vx=>ob (Cd env y) fun vy=>ov (O3 op vx vy) s
 | .Xm neg x y=>ob (Cd env x) fun vx=>ob (Cd env y) fun vy=>match vx,vy with| .b p,.b q=>some (.ret (.b (bif neg then p != q else p==q)),s)|_,_=>none
 | .not x=>ob (Cd env x) fun vx=>match vx with| .b p=>some (.ret (.b (!p)),s)|_=>none
 | .neg xor x=>ob (Cd env x) fun vx=>match vx with| .i ka a=>some (.ret (.i ka (bif xor then bits .xor ka (bif ka.signed then -1 else ka.max) a else ka.wrap (0 - a))),s)|_=>none
 | .conv ka x=>ob (Cd env x) fun vx=>match vx with| .i _ a=>some (.ret (.i ka (GK ka a)),s)|_=>none
 | .box x=>ob (Cd env x) fun vx=>ob (cellsOf vx) fun cs=>s.new (.cs cs) fun i s'=>some (.ret (.p i 0),s')
 | .K2 x=>ob (Cd env x) fun vx=>ob (cellsOf vx) fun cs=>some (.ret (.rp cs),s)
 | .MR sz b x y=>ob (Cd env x) fun vx=>ob (Cd env y) fun vy=>ov (PM b s sz vx vy) s
 | .alloc z=>bif Bi z then s.new (.cs z) fun i s'=>some (.ret (.p i 0),s')else none
 | .build z parts=>bif Bi z then ob (Ja env z parts) fun cs=>some (.ret (.a cs),s)else none
 | .Cr _ len z parts=>bif Bi z then ob (Jb env z.length (List.replicate len z) parts) fun es=>some (.ret (.l es true),s)else none
 | .load agg x=>ob (Cd env x) fun vx=>ov (J6 s agg vx) s
 | .store sz a x=>ob (Cd env a) fun va=>ob (Cd env x) fun vx=>os (LI s sz va vx)
 | .BE off x=>ob (Cd env x) fun vx=>ov (N3 off vx) s
 | .field agg off x=>ob (Cd env x) fun vx=>match vx with| .a cs=>ov (O1 agg cs off) s|_=>none
 | .Eg sz arr x i=>ob (Cd env x) fun vx=>ob (Cd env i) fun vi=>ov (JZ sz arr vx vi) s
 | .index len sz agg x i=>ob (Cd env x) fun vx=>ob (Cd env i) fun vi=>ov (LK len sz agg vx vi) s
 | .slice sz x lo hi mx=>ob (Cd env x) fun vx=>ob (Hp env lo) fun l=>ob (Hp env hi) fun h=>ob (Hp env mx) fun m=>TQ (LJ s sz vx l h m)
 | .len x=>ob (Cd env x) fun vx=>ov (Te vx) s
 | .Nf x=>ob (Cd env x) fun vx=>ov (PK s vx) s
 | .Oq x i=>ob (Cd env x) fun vx=>ob (Cd env i) fun vi=>ov (PJ vx vi) s
 | .str x=>ob (Cd env x) fun vx=>ov (VE s vx) s
 | .append sz b x y=>ob (Cd env x) fun vx=>ob (Cd env y) fun vy=>TQ (Ii b s sz vx vy)
 | .copy sz x y=>ob (Cd env x) fun vx=>ob (Cd env y) fun vy=>TQ (PL s sz vx vy)
 | .Ou x y=>ob (Cd env x) fun vx=>ob (Cd env y) fun vy=>match vx,vy with| .i ka a,.i kb b=>bif decide (ka=kb)then some (.ret (.i ka (bif JF a b then b else a)),s)else none|_,_=>none
 | .Ot x y=>ob (Cd env x) fun vx=>ob (Cd env y) fun vy=>match vx,vy with| .i ka a,.i kb b=>bif decide (ka=kb)then some (.ret (.i ka (bif JF b a then b else a)),s)else none|_,_=>none
 | .extract i x=>ob (Cd env x) fun vx=>match vx with| .t vs=>ov (vs[i]?) s|_=>none
 | .Di x=>ob (Cd env x) fun vx=>ov (JY vx) s
 | .TR f first cap=>ob (KW env first) fun vf=>ob (KW env cap) fun vc=>bif JR f then some (.ret (.f f vf vc),s)else none
 | .J3 t x=>ob (Cd env x) fun vx=>some (.ret (.De t vx),s)
 | .Un t z ok x=>ob (Cd env x) fun vx=>ov (VD t z ok vx) s
 | .panic x=>ob (Cd env x) fun vx=>match vx with| .De t v=>some (.BL (.De t v),s)|_=>none
 | .call f args=>ob (KW env args) fun vs=>cf f vs s
 | .Oo len neg x y=>ob (Cd env x) fun vx=>ob (Cd env y) fun vy=>ov (VG len neg vx vy) s
 | .TU kind neg x=>ob (Cd env x) fun vx=>ov (VF kind neg vx) s
 | .EU sz _ z x y=>ob (Cd env x) fun vx=>ob (Cd env y) fun vy=>TQ (Gx s sz z vx vy)
 | .J2=>s.new (.map []) fun i s'=>some (.ret (.m i),s')
 | .lookup ks z ok m key=>ob (Cd env m) fun vm=>ob (Cd env key) fun vk=>ov (Ig s ks z ok vm vk) s
 | .EI ks m key x=>ob (Cd env m) fun vm=>ob (Cd env key) fun vk=>ob (Cd env x) fun vx=>os (Ie s ks vm vk vx)
 | .Fa f args=>ob (KW env args) fun vs=>ov (cp f vs) s
 | .GS x args=>ob (Cd env x) fun vx=>ob (KW env args) fun vs=>cv vx vs s
 | .inv tab x args=>ob (Cd env x) fun vx=>ob (KW env args) fun vs=>match vx with| .De t v=>ob (look t tab) fun f=>cf f (v::vs) s|_=>none
 | _=>none
def ZH {t:TypeId} {z:V} {ok:Bool} {x x' v:V} (h:VD t z ok x=some v) (hx:RV Y x x') {K:V->Prop} (U: ∀v',RV Y v v'->K v') :
    match(generalizing:=false) x' with
     | .De t' v=>(t'=t->K (bif ok then .t [v,.b true]else v))/\(t'≠t->ok=true/\K (.t [z,.b false]))
     | .C0=>ok=true/\K (.t [z,.b false])
     | _=>False:=by
 have zz: ∀ {v},A2 z=true->some (V.t [z,.b false])=some v->K (.t [z,.b false])->K v:=fun _ e k=>by cases e;exact k
 unfold VD at h;split at h
 .rename_i t' u
  obtain⟨u',h1,rfl⟩:=hx;refine⟨fun e=>?_,fun e=>?_⟩
  .subst e
   rw[Nat.beq_refl]at h;cases h;cases ok with
   | true=>exact U _ (by simp only[cond_true,RV];exact⟨_,BJ.2 (F2.cons h1 (F2.cons (RV.pure _ rfl) F2.nil)),rfl⟩)
   | false=>exact U _ h1
  .have hb:Nat.beq t' t=false:=by
    cases hb:Nat.beq t' t with
    | false=>rfl
    | true=>exact absurd (CE hb) e
   rw[hb]at h;obtain⟨h2,h3⟩:=AN h;simp only[Ba]at h2;cases h3;exact⟨h2.1,U _ (by simp only[RV];exact⟨_,BJ.2 (F2.cons (RV.pure _ h2.2) (F2.cons (RV.pure _ rfl) F2.nil)),rfl⟩)⟩
 .simp only[RV]at hx
  subst hx;obtain⟨h2,h3⟩:=AN h;simp only[Ba]at h2;cases h3;exact⟨h2.1,U _ (by simp only[RV];exact⟨_,BJ.2 (F2.cons (RV.pure _ h2.2) (F2.cons (RV.pure _ rfl) F2.nil)),rfl⟩)⟩
 .cases h
def UT {x x' v:V} (h:JY x=some v) (hx:RV Y x x') {K:V->Prop} (U: ∀v',RV Y v v'->K v') :
    match(generalizing:=false) x' with
     | .p n off=>K (.p n off)
     | .rp cs=>K (.rp cs)
     | .pe n sz i off=>K (.pe n sz i off)
     | .f (.func f) first cap=>K (.f (.func f) first cap)
     | .f (.yield l) first cap=>K (.f (.yield l) first cap)
     | _=>False:=by
 have hv:v=x:=by unfold JY at h;split at h<;>cases h<;>rfl
 subst hv;have hk:=U _ hx;unfold JY at h;split at h
 .obtain⟨_,_,rfl⟩:=hx;exact hk
 .obtain⟨_,_,rfl⟩:=hx;exact hk
 .obtain⟨_,_,rfl⟩:=hx;exact hk
 .obtain⟨fn,a,b,h1,_,_,rfl⟩:=hx
  simp only[TX]at h1;subst h1;exact hk
 .obtain⟨fn,a,b,h1,_,_,rfl⟩:=hx
  obtain⟨m,_,rfl⟩:=h1;exact hk
 .cases h
def Vv {cf:CF} {cv:CV} {cp:CP} (hcf:H0 P cf) (hcv:HF P cv) (hcp:Jg P cp) {o:EM} {s s':St} {r:R} (h:EK cf cv cp o env s=some (r,s')) (he:RE Y env env₀) (hs:SR P Y s Z) {k kp:V->AE->Prop}
    (hk: ∀Y' r' Z',Y.le Y'->Zl Y' r r'->SR P Y' s' Z'->qk k kp r' Z'):Dy P o env₀ Z k kp:=by
 have hv: ∀ {v:V},r= .ret v->s'=s-> ∀v',RV Y v v'->k v' Z:=fun e1 e2 v' g=>by
  subst e1;subst e2;exact hk Y (.ret v') Z (.refl _) ⟨v',g,rfl⟩ hs
 have hvs: ∀ {v:V},r= .ret v-> ∀v' Z',RV Y v v'->SR P Y s' Z'->k v' Z':=fun e1 v' Z' g g2=>by
  subst e1;exact hk Y (.ret v') Z' (.refl _) ⟨v',g,rfl⟩ g2
 have hvr: ∀ {v:V},r= .ret v-> ∀Y' v' Z',Y.le Y'->RV Y' v v'->SR P Y' s' Z'->k v' Z':=fun e1 Y' v' Z' g0 g g2=>by
  subst e1;exact hk Y' (.ret v') Z' g0 ⟨v',g,rfl⟩ g2
 have hu: ∀ {o1:Option St},os o1=some (r,s')->o1=some s'/\ ∀Z',SR P Y s' Z'->k (.t []) Z':=fun h=>by
  obtain⟨h1,h2⟩:=YR h;subst h2;exact⟨h1,fun Z' h3=>hk Y (.ret (.t [])) Z' (.refl _) ⟨_,RV.pure _ rfl,rfl⟩ h3⟩
 cases o<;>simp only[EK]at h<;>simp only[Dy]
 case mv x=>
  obtain⟨v,h1,h2,h3⟩:=Bs h;obtain⟨v',e1,e2⟩:=Ag he h1;rw[e1];exact hv h2 h3 _ e2
 case Xi x=>
  obtain⟨v,h1,h2,h3⟩:=Bs h;obtain⟨v',e1,e2⟩:=Ag he h1;rw[e1];exact⟨v',Z,Sub.refl _,.refl _,hv h2 h3 _ e2⟩
 case pick c a b=>
  replace h:=AI h;obtain⟨vc,h1,h⟩:=h;replace h:=AI h;obtain⟨va,h2,h⟩:=h;replace h:=AI h;obtain⟨vb,h3,h⟩:=h;obtain⟨vc',e1,r1⟩:=Ag he h1;obtain⟨va',e2,r2⟩:=Ag he h2;obtain⟨vb',e3,r3⟩:=Ag he h3;rw[e1,e2,e3];simp only[wv];split at h
  .rename_i t
   simp only[RV]at r1;subst r1;cases h;have hh:=hv rfl rfl (bif t then va' else vb') (by cases t;exact r3;exact r2);cases t<;>cases va'<;>first|exact hh|(cases vb'<;>exact hh)
  .cases h
 case bin op x y=>
  replace h:=AI h;obtain⟨vx,h1,h⟩:=h;replace h:=AI h;obtain⟨vy,h2,h⟩:=h;obtain⟨v,h3,h4,h5⟩:=Bs h;obtain⟨vx',e1,r1⟩:=Ag he h1;obtain⟨vy',e2,r2⟩:=Ag he h2;obtain⟨p1,p2,p3,p4⟩:=ZN h3;rw[e1,e2,RV.Xl r1 p1,RV.Xl r2 p2];exact p4 (fun v=>k v Z) (hv h4 h5 _ (RV.pure _ p3))
 case Xm neg x y=>
  replace h:=AI h;obtain⟨vx,h1,h⟩:=h;replace h:=AI h;obtain⟨vy,h2,h⟩:=h;obtain⟨vx',e1,r1⟩:=Ag he h1;obtain⟨vy',e2,r2⟩:=Ag he h2;rw[e1,e2];split at h
  .simp only[RV]at r1 r2
   subst r1;subst r2;cases h;exact hv rfl rfl _ (RV.pure _ rfl)
  .cases h
 case not x=>
  replace h:=AI h;obtain⟨vx,h1,h⟩:=h;obtain⟨vx',e1,r1⟩:=Ag he h1;rw[e1];split at h
  .simp only[RV]at r1
   subst r1;cases h;exact hv rfl rfl _ (RV.pure _ rfl)
  .cases h
 case neg xor x=>
  replace h:=AI h;obtain⟨vx,h1,h⟩:=h;obtain⟨vx',e1,r1⟩:=Ag he h1;rw[e1];split at h
  .simp only[RV]at r1
   subst r1;cases h;exact hv rfl rfl _ (RV.pure _ rfl)
  .cases h
 case conv ka x=>
  replace h:=AI h;obtain⟨vx,h1,h⟩:=h;obtain⟨vx',e1,r1⟩:=Ag he h1;rw[e1];split at h
  .simp only[RV]at r1
   subst r1;cases h;have:=hv rfl rfl _ (RV.pure _ rfl);rw[Gt]at this;exact this
  .cases h
 case box x=>
  replace h:=AI h;obtain⟨vx,h1,h⟩:=h;replace h:=AI h;obtain⟨cs,h2,h⟩:=h;obtain⟨vx',e1,r1⟩:=Ag he h1;obtain⟨cs',e2,r2⟩:=Er h2 r1;obtain⟨h3,h4⟩:=St.F1 h;cases h4;rw[e1];simp only[wv,e2];intro n hn;obtain⟨Y',q1,q2,q3⟩:=hs.new h3 hn 0 (o:= .cs cs) (o':= .cs cs') ⟨_,r2,rfl⟩;exact hvr rfl Y' _ _ q1 (by simp only[RV];exact⟨_,q2,rfl⟩) q3
 case K2 x=>
  replace h:=AI h;obtain⟨vx,h1,h⟩:=h;replace h:=AI h;obtain⟨cs,h2,h⟩:=h;obtain⟨vx',e1,r1⟩:=Ag he h1;obtain⟨cs',e2,r2⟩:=Er h2 r1;cases h;rw[e1];simp only[wv,e2];exact hv rfl rfl _ (by simp only[RV];exact⟨_,BJ.2 r2,rfl⟩)
 case MR sz b x y=>
  replace h:=AI h;obtain⟨vx,h1,h⟩:=h;replace h:=AI h;obtain⟨vy,h2,h⟩:=h;obtain⟨v,h3,h4,h5⟩:=Bs h;obtain⟨vx',e1,r1⟩:=Ag he h1;obtain⟨vy',e2,r2⟩:=Ag he h2;rw[e1,e2];exact XE hs h3 r1 r2 (hv h4 h5)
 case alloc z=>
  replace h:=AN h;obtain⟨h0,h⟩:=h;obtain⟨h3,h4⟩:=St.F1 h;cases h4;intro n hn;obtain⟨Y',q1,q2,q3⟩:=hs.new h3 hn 0 (o:= .cs z) (o':= .cs z) ⟨_,BJ.1 (RL.pure z h0),rfl⟩;exact hvr rfl Y' _ _ q1 (by simp only[RV];exact⟨_,q2,rfl⟩) q3
 case build z parts=>
  replace h:=AN h;obtain⟨h0,h⟩:=h;replace h:=AI h;obtain⟨cs,h1,h⟩:=h;cases h;obtain⟨cs',e1,r1⟩:=NM he h1 (BJ.1 (RL.pure z h0));rw[e1];exact hv rfl rfl _ (by simp only[RV];exact⟨_,BJ.2 r1,rfl⟩)
 case Cr b len z parts=>
  replace h:=AN h;obtain⟨h0,h⟩:=h;replace h:=AI h;obtain⟨cs,h1,h⟩:=h;cases h;obtain⟨cs',e1,r1⟩:=NN he h1 (F2.rep (BJ.1 (RL.pure z h0)) len);rw[e1];exact hv rfl rfl _ (by simp only[RV];exact⟨_,EB.2 r1,rfl⟩)
 case load agg x=>
  replace h:=AI h;obtain⟨vx,h1,h⟩:=h;obtain⟨v,h3,h4,h5⟩:=Bs h;obtain⟨vx',e1,r1⟩:=Ag he h1;rw[e1];exact Pz hs h3 r1 (hv h4 h5)
 case store sz a x=>
  replace h:=AI h;obtain⟨vx,h1,h⟩:=h;replace h:=AI h;obtain⟨vy,h2,h⟩:=h;obtain⟨vx',e1,r1⟩:=Ag he h1;obtain⟨vy',e2,r2⟩:=Ag he h2;obtain⟨h3,h4⟩:=hu h;rw[e1,e2];exact UR hs h3 r1 r2 h4
 case BE off x=>
  replace h:=AI h;obtain⟨vx,h1,h⟩:=h;obtain⟨v,h3,h4,h5⟩:=Bs h;obtain⟨vx',e1,r1⟩:=Ag he h1;rw[e1];exact UX h3 r1 (hv h4 h5)
 case field agg off x=>
  replace h:=AI h;obtain⟨vx,h1,h⟩:=h;obtain⟨vx',e1,r1⟩:=Ag he h1;rw[e1];split at h
  .obtain⟨v,h3,h4,h5⟩:=Bs h
   obtain⟨c,g1,rfl⟩:=r1;exact Ih h3 (BJ.1 g1) (hv h4 h5)
  .cases h
 case Eg sz arr x i=>
  replace h:=AI h;obtain⟨vx,h1,h⟩:=h;replace h:=AI h;obtain⟨vy,h2,h⟩:=h;obtain⟨v,h3,h4,h5⟩:=Bs h;obtain⟨vx',e1,r1⟩:=Ag he h1;obtain⟨vy',e2,r2⟩:=Ag he h2;rw[e1,e2];exact UW h3 r1 r2 (hv h4 h5)
 case index len sz agg x i=>
  replace h:=AI h;obtain⟨vx,h1,h⟩:=h;replace h:=AI h;obtain⟨vy,h2,h⟩:=h;obtain⟨v,h3,h4,h5⟩:=Bs h;obtain⟨vx',e1,r1⟩:=Ag he h1;obtain⟨vy',e2,r2⟩:=Ag he h2;rw[e1,e2];exact UU h3 r1 r2 (hv h4 h5)
 case slice sz x lo hi mx=>
  replace h:=AI h;obtain⟨vx,h1,h⟩:=h;replace h:=AI h;obtain⟨l,h2,h⟩:=h;replace h:=AI h;obtain⟨hh,h3,h⟩:=h;replace h:=AI h;obtain⟨m,h4,h⟩:=h;obtain⟨v,h5,h6⟩:=Ir h;obtain⟨vx',e1,r1⟩:=Ag he h1;obtain⟨l',e2,r2⟩:=Jl he h2;obtain⟨hh',e3,r3⟩:=Jl he h3;obtain⟨m',e4,r4⟩:=Jl he h4;rw[e1,e2,e3,e4];exact US hs h5 r1 r2 r3 r4 (hvr h6)
 case len x=>
  replace h:=AI h;obtain⟨vx,h1,h⟩:=h;obtain⟨v,h3,h4,h5⟩:=Bs h;obtain⟨vx',e1,r1⟩:=Ag he h1;rw[e1];exact ZJ h3 r1 (hv h4 h5)
 case Nf x=>
  replace h:=AI h;obtain⟨vx,h1,h⟩:=h;obtain⟨v,h3,h4,h5⟩:=Bs h;obtain⟨vx',e1,r1⟩:=Ag he h1;rw[e1];exact XC hs h3 r1 (hv h4 h5)
 case Oq x i=>
  replace h:=AI h;obtain⟨vx,h1,h⟩:=h;replace h:=AI h;obtain⟨vi,h2,h⟩:=h;obtain⟨v,h3,h4,h5⟩:=Bs h;obtain⟨vx',e1,r1⟩:=Ag he h1;obtain⟨vi',e2,r2⟩:=Ag he h2;rw[e1,e2];exact XB h3 r1 r2 (hv h4 h5)
 case str x=>
  replace h:=AI h;obtain⟨vx,h1,h⟩:=h;obtain⟨v,h3,h4,h5⟩:=Bs h;obtain⟨vx',e1,r1⟩:=Ag he h1;rw[e1];exact ZI hs h3 r1 (hv h4 h5)
 case append sz b x y=>
  replace h:=AI h;obtain⟨vx,h1,h⟩:=h;replace h:=AI h;obtain⟨vy,h2,h⟩:=h;obtain⟨v,h3,h4⟩:=Ir h;obtain⟨vx',e1,r1⟩:=Ag he h1;obtain⟨vy',e2,r2⟩:=Ag he h2;rw[e1,e2];exact Rx hs h3 r1 r2 (hvr h4)
 case copy sz x y=>
  replace h:=AI h;obtain⟨vx,h1,h⟩:=h;replace h:=AI h;obtain⟨vy,h2,h⟩:=h;obtain⟨v,h3,h4⟩:=Ir h;obtain⟨vx',e1,r1⟩:=Ag he h1;obtain⟨vy',e2,r2⟩:=Ag he h2;rw[e1,e2];exact XD hs h3 r1 r2 (hvs h4)
 case Ou x y=>
  replace h:=AI h;obtain⟨vx,h1,h⟩:=h;replace h:=AI h;obtain⟨vy,h2,h⟩:=h;obtain⟨vx',e1,r1⟩:=Ag he h1;obtain⟨vy',e2,r2⟩:=Ag he h2;rw[e1,e2];split at h
  .rename_i ka a kb b
   simp only[RV]at r1 r2;subst r1;subst r2;obtain⟨h3,h4⟩:=AN h;cases h4;refine⟨of_decide_eq_true h3,?_⟩;have:=hv rfl rfl _ (RV.pure _ rfl);rw[LG]at this;by_cases e:a<b
   .rw[if_pos e];rw[decide_eq_true e]at this;exact this
   .rw[if_neg e];rw[decide_eq_false e]at this;exact this
  .cases h
 case Ot x y=>
  replace h:=AI h;obtain⟨vx,h1,h⟩:=h;replace h:=AI h;obtain⟨vy,h2,h⟩:=h;obtain⟨vx',e1,r1⟩:=Ag he h1;obtain⟨vy',e2,r2⟩:=Ag he h2;rw[e1,e2];split at h
  .rename_i ka a kb b
   simp only[RV]at r1 r2;subst r1;subst r2;obtain⟨h3,h4⟩:=AN h;cases h4;refine⟨of_decide_eq_true h3,?_⟩;have:=hv rfl rfl _ (RV.pure _ rfl);rw[LG]at this;by_cases e:b<a
   .rw[if_pos e];rw[decide_eq_true e]at this;exact this
   .rw[if_neg e];rw[decide_eq_false e]at this;exact this
  .cases h
 case extract i x=>
  replace h:=AI h;obtain⟨vx,h1,h⟩:=h;obtain⟨vx',e1,r1⟩:=Ag he h1;rw[e1];split at h
  .obtain⟨v,h3,h4,h5⟩:=Bs h
   obtain⟨c,g1,rfl⟩:=r1;obtain⟨y,g2,g3⟩:=(BJ.1 g1).get h3;simp only[wv,g2];exact hv h4 h5 _ g3
  .cases h
 case Di x=>
  replace h:=AI h;obtain⟨vx,h1,h⟩:=h;obtain⟨v,h3,h4,h5⟩:=Bs h;obtain⟨vx',e1,r1⟩:=Ag he h1;rw[e1];exact UT (K:=fun v=>k v Z) h3 r1 (hv h4 h5)
 case TR f first cap=>
  replace h:=AI h;obtain⟨vf,h1,h⟩:=h;replace h:=AI h;obtain⟨vc,h2,h⟩:=h;obtain⟨h3,h4⟩:=AN h;cases h4;obtain⟨vf',e1,r1⟩:=F8 he h1;obtain⟨vc',e2,r2⟩:=F8 he h2;rw[e1,e2];refine hv rfl rfl _ ?_;simp only[RV];exact⟨f,vf',vc',by cases f<;>first|rfl|(simp[JR]at h3),BJ.2 r1,BJ.2 r2,rfl⟩
 case J3 t x=>
  replace h:=AI h;obtain⟨vx,h1,h⟩:=h;cases h;obtain⟨vx',e1,r1⟩:=Ag he h1;rw[e1];exact hv rfl rfl _ (by simp only[RV];exact⟨_,r1,rfl⟩)
 case Un t z ok x=>
  replace h:=AI h;obtain⟨vx,h1,h⟩:=h;obtain⟨v,h3,h4,h5⟩:=Bs h;obtain⟨vx',e1,r1⟩:=Ag he h1;rw[e1];exact ZH (K:=fun v=>k v Z) h3 r1 (hv h4 h5)
 case panic x=>
  replace h:=AI h;obtain⟨vx,h1,h⟩:=h;obtain⟨vx',e1,r1⟩:=Ag he h1;rw[e1];split at h
  .rename_i t v
   obtain⟨v',g1,rfl⟩:=r1;cases h;exact hk Y (.BL (.De t v')) Z (.refl _) ⟨_,by simp only[RV];exact⟨v',g1,rfl⟩,rfl⟩ hs
  .cases h
 case call f args=>
  replace h:=AI h;obtain⟨vs,h1,h⟩:=h;obtain⟨vs',e1,r1⟩:=F8 he h1;rw[e1];exact hcf f vs s r s' h Y vs' Z r1 hs _ hk
 case Oo len neg x y=>
  replace h:=AI h;obtain⟨vx,h1,h⟩:=h;replace h:=AI h;obtain⟨vy,h2,h⟩:=h;obtain⟨v,h3,h4,h5⟩:=Bs h;obtain⟨vx',e1,r1⟩:=Ag he h1;obtain⟨vy',e2,r2⟩:=Ag he h2;rw[e1,e2];exact ZM h3 r1 r2 (hv h4 h5)
 case TU kind neg x=>
  replace h:=AI h;obtain⟨vx,h1,h⟩:=h;obtain⟨v,h3,h4,h5⟩:=Bs h;obtain⟨vx',e1,r1⟩:=Ag he h1;rw[e1];exact ZL h3 r1 (hv h4 h5)
 case EU sz b z x y=>
  replace h:=AI h;obtain⟨vx,h1,h⟩:=h;replace h:=AI h;obtain⟨vy,h2,h⟩:=h;obtain⟨v,h3,h4⟩:=Ir h;obtain⟨vx',e1,r1⟩:=Ag he h1;obtain⟨vy',e2,r2⟩:=Ag he h2;rw[e1,e2];exact Qa hs h3 r1 r2 (hvr h4)
 case J2=>
  obtain⟨h3,h4⟩:=St.F1 h;cases h4;intro n hn;obtain⟨Y',q1,q2,q3⟩:=hs.new h3 hn 0 (o:= .map []) (o':= .map []) ⟨[],F2.nil,rfl⟩;exact hvr rfl Y' _ _ q1 (by simp only[RV];exact⟨_,q2,rfl⟩) q3
 case lookup ks z ok m key=>
  replace h:=AI h;obtain⟨vx,h1,h⟩:=h;replace h:=AI h;obtain⟨vy,h2,h⟩:=h;obtain⟨v,h3,h4,h5⟩:=Bs h;obtain⟨vx',e1,r1⟩:=Ag he h1;obtain⟨vy',e2,r2⟩:=Ag he h2;rw[e1,e2];exact Rw hs h3 r1 r2 (hv h4 h5)
 case EI ks m key x=>
  replace h:=AI h;obtain⟨vx,h1,h⟩:=h;replace h:=AI h;obtain⟨vy,h2,h⟩:=h;replace h:=AI h;obtain⟨vz,h3,h⟩:=h;obtain⟨vx',e1,r1⟩:=Ag he h1;obtain⟨vy',e2,r2⟩:=Ag he h2;obtain⟨vz',e3,r3⟩:=Ag he h3;obtain⟨h4,h5⟩:=hu h;rw[e1,e2,e3];exact Rv hs h4 r1 r2 r3 h5
 case Fa f args=>
  replace h:=AI h;obtain⟨vs,h1,h⟩:=h;obtain⟨v,h3,h4,h5⟩:=Bs h;obtain⟨vs',e1,r1⟩:=F8 he h1;obtain⟨p1,p2,p3⟩:=hcp f vs v h3;rw[e1,Xx r1 p1];exact⟨v,p3,hv h4 h5 _ (RV.pure _ p2)⟩
 case GS x args=>
  replace h:=AI h;obtain⟨vx,h1,h⟩:=h;replace h:=AI h;obtain⟨vs,h2,h⟩:=h;obtain⟨vx',e1,r1⟩:=Ag he h1;obtain⟨vs',e2,r2⟩:=F8 he h2;rw[e1,e2];exact hcv vx vs s r s' h Y vx' vs' Z r1 r2 hs _ hk
 case inv tab x args=>
  replace h:=AI h;obtain⟨vx,h1,h⟩:=h;replace h:=AI h;obtain⟨vs,h2,h⟩:=h;obtain⟨vx',e1,r1⟩:=Ag he h1;obtain⟨vs',e2,r2⟩:=F8 he h2;rw[e1,e2];split at h
  .rename_i t v
   obtain⟨v',g1,rfl⟩:=r1;obtain⟨f,h3,h4⟩:=AI h;simp only[wv,ws,BM,h3];exact hcf f (v::vs) s r s' h4 Y (v'::vs') Z (F2.cons g1 r2) hs _ hk
  .cases h
 all_goals cases h
end Go.Gl
