import Derived.Test.YtcfkfhaedllcpaaGreatW7
set_option linter.all false
set_option linter.defProp false
set_option maxHeartbeats 8000000
noncomputable section
namespace Go.Gl
variable {P:Program} {F:Nat->Prop} {env env':Env} {Z:AE}
structure Cd where
 i:Nat
 o:Am
 pJ:List Nat
 re:List Am
 deriving Inhabited
def AG (x:Am):List Nat:=(match x.dst with|some d=>[d]|none=>[])++looks x
def HL (P:Program) (x:Am) (env:Env) (Z:AE):Prop:=Hm P x env Z (fun u _=> ∀s,x.dst=some s->get s env=some u) (fun _ _=>False)
def D5 (P:Program):List Am->Env->AE->Prop
 | [],_,_=>True
 | x::r,env,Z=>HL P x env Z/\D5 P r env Z
def D5.mem: ∀ {l:List Am},D5 P l env Z-> ∀x∈l,HL P x env Z
 | _::_,h,_,.head _=>h.1
 | _::_,h,x,.tail _ hx=>D5.mem h.2 x hx
def DJ (P:Program):List Cd->(Env->AE->Prop)->(V->AE->Prop)->Env->AE->Prop
 | [],K,_,env,Z=>K env Z
 | d::r,K,kp,env,Z=>Hm P d.o env Z (fun v Z'=>D5 P d.re (put d.o.dst v env) Z'/\DJ P r K kp (put d.o.dst v env) Z') kp
def jx (env env':Env):Prop:= ∀s,get s env=get s env'
def CS {s:Nat} {d:Option Nat} {v:V} (h:d≠some s):get s (put d v env)=get s env:=by
 cases d with
 | none=>rfl
 | some d=>
   simp only[put,get];cases hb:Nat.beq d s with
   | false=>rfl
   | true=>exact absurd (by rw[UX hb]) h
def ER {s:Nat} {v:V}:get s (put (some s) v env)=some v:=by simp[put,get]
def jx.put {d:Option Nat} {v:V} (h:jx env env'):jx (Gl.put d v env) (Gl.put d v env'):=fun s=>by
 by_cases hd:d=some s
 .subst hd
  rw[ER,ER]
 .rw[CS hd,CS hd,h]
def iz {d e:Option Nat} {v u:V} (h: ∀s,d=some s->e≠some s):jx (Gl.put d v (Gl.put e u env)) (Gl.put e u (Gl.put d v env)):=fun s=>by
 by_cases hd:d=some s
 .subst hd
  rw[ER,CS (h s rfl),ER]
 .rw[CS hd]
  by_cases he:e=some s
  .subst he
   rw[ER,ER]
  .rw[CS he,CS he,CS hd]
def OI {x:Am} (h: ∀s∈AG x,get s env'=get s env) (hr:HL P x env Z):HL P x env' Z:=by
 unfold HL at *;rw[F4 (env:=env) fun s hs=>h s (RT _ hs)];refine CA hr (fun v Z' hv s hs=>?_) fun _ _ h=>h
 rw[h s (RU _ (by rw[hs];simp))];exact hv s hs
def MZ: ∀ {l:List Am},(∀s,get s env'=get s env)->D5 P l env Z->D5 P l env' Z
 | [],_,_=>trivial
 | _::_,h,hr=>⟨OI (fun s _=>h s) hr.1,MZ h hr.2⟩
section
variable {K:Env->AE->Prop} {kp:V->AE->Prop}
def Ju (U: ∀env env' Z,jx env env'->K env Z->K env' Z): ∀ {l:List Cd} {env env':Env} {Z:AE},jx env env'->DJ P l K kp env Z->DJ P l K kp env' Z
 | [],_,_,_,hg,h=>U _ _ _ hg h
 | d::r,env,env',Z,hg,h=>by
   simp only[DJ]at *;rw[F4 (env:=env) fun s _=>(hg s).symm];exact CA h (fun v Z' ⟨h1,h2⟩=>⟨MZ (fun s=>(hg.put s).symm) h1,Ju U hg.put h2⟩) fun _ _ h=>h
def pC (x y:Am):Prop:=(∀d,x.dst=some d->d∉looks y/\y.dst≠some d)/\ ∀d,y.dst=some d->d∉looks x
def fresh (y x:Am):Prop:= ∀d,y.dst=some d->d∉AG x
def yI (x y:Cd):Prop:=x.re= []/\pC x.o y.o/\
 ((still x.o.op=true/\calm y.o.op=true)\/kd x.o.op= .P\/(still x.o.op=true/\x.o∈y.re/\ ∀d,x.o.dst=some d->d∉looks x.o)\/(Yt x.o.op=true/\y.re= []/\y.o.guard=none/\ ∃z,y.o.op= .alloc z))
def gJ (hU: ∀v Z m z,Z m=none->kp v Z->kp v (Bd Z m z)) (U: ∀env env' Z,jx env env'->K env Z->K env' Z) {i:Cd} {ys:List Cd}: ∀ {xs:List Cd},(∀x∈xs,yI x i)->xs.Pairwise (fun x y=>kd x.o.op= .N->fresh y.o x.o)->
    ∀ {env:Env} {Z:AE},DJ P (xs++i::ys) K kp env Z->
    Hm P i.o env Z (fun u Z'=>(∀r∈i.re,(∀x∈xs,fresh x.o r)->HL P r (put i.o.dst u env) Z')/\DJ P (xs++ys) K kp (put i.o.dst u env) Z') kp
 | [],_,_,env,Z,h=>CA h (fun u Z' ⟨h1,h2⟩=>⟨fun r hr _=>h1.mem r hr,h2⟩) fun _ _ h=>h
 | x ::xs,hok,hpw,env,Z,h=>by
   simp only[List.cons_append,DJ]at h;obtain⟨hpw1,hpw2⟩:=List.pairwise_cons.1 hpw;obtain⟨hre,⟨ha1,ha2⟩,hk⟩:=hok x (.head _)
   have h':Hm P x.o env Z (fun v Z1=>Hm P i.o (put x.o.dst v env) Z1 (fun u Z'=>(∀r∈i.re,(∀x∈xs,fresh x.o r)->HL P r (put i.o.dst u (put x.o.dst v env)) Z')/\DJ P (xs++ys) K kp (put i.o.dst u (put x.o.dst v env)) Z') kp) kp:=
    CA h (fun v Z1 hh=>gJ hU U (fun y hy=>hok y (.tail _ hy)) hpw2 hh.2) fun _ _ h=>h
   have agx: ∀v,∀s∈looks i.o,get s (put x.o.dst v env)=get s env:=fun v s hs=>CS fun e=>(ha1 s e).1 hs
   have agi: ∀(env:Env) u,∀s∈looks x.o,get s (put i.o.dst u env)=get s env:=fun env u s hs=>CS fun e=>ha2 s e hs
   have hcm: ∀v u,jx (put i.o.dst u (put x.o.dst v env)) (put x.o.dst v (put i.o.dst u env)):=fun v u=>iz fun s hs hx=>(ha1 s hx).2 hs
   have hRE: ∀v u Z',(∀r∈i.re,(∀x∈xs,fresh x.o r)->HL P r (put i.o.dst u (put x.o.dst v env)) Z')-> ∀r∈i.re,(∀y∈x::xs,fresh y.o r)->HL P r (put i.o.dst u env) Z':=fun v u Z' hh r hr hf=>by
    refine OI (fun s hs=>?_) (hh r hr fun y hy=>hf y (.tail _ hy));rw[hcm v u s,CS fun e=>hf x (.head _) s e hs]
   by_cases hst:still x.o.op=true
   .obtain⟨v,hi,hd⟩:=S1 hst h'
    have fin: ∀u Z',(kd x.o.op= .P\/Sub Z Z')->(∀r∈i.re,(∀x∈xs,fresh x.o r)->HL P r (put i.o.dst u (put x.o.dst v env)) Z')->DJ P (xs++ys) K kp (put i.o.dst u (put x.o.dst v env)) Z'->
     (∀r∈i.re,(∀y∈x::xs,fresh y.o r)->HL P r (put i.o.dst u env) Z')/\DJ P (x::xs++ys) K kp (put i.o.dst u env) Z':=fun u Z' hs h1 h2=>by
     refine⟨hRE v u Z' h1,?_⟩;simp only[List.cons_append,DJ];rw[F4 (env:=env) (agi env u)];exact hd Z' _ _ hs ⟨by rw[hre];trivial,Ju U (hcm v u) h2⟩
    rw[F4 (env:=env) (agx v)]at hi;rcases hk with⟨_,hc⟩|hP|⟨_,hm,hself⟩|⟨_,_,hg,z,hz⟩
    .exact CA (aS hc hi) (fun u Z' ⟨⟨h1,h2⟩,hs⟩=>fin u Z' (.inr hs) h1 h2) fun _ _ h=>h
    .exact CA hi (fun u Z' ⟨h1,h2⟩=>fin u Z' (.inl hP) h1 h2) fun _ _ h=>h
    .by_cases hP:kd x.o.op= .P
     .exact CA hi (fun u Z' ⟨h1,h2⟩=>fin u Z' (.inl hP) h1 h2) fun _ _ h=>h
     have hN:kd x.o.op= .N:=by
      unfold still at hst;cases hkk:kd x.o.op<;>rw[hkk]at hst<;>simp_all
     refine CA hi (fun u Z' ⟨h1,h2⟩=>⟨hRE v u Z' h1,?_⟩) fun _ _ h=>h
     have hr:=h1 x.o hm fun y hy=>hpw1 y hy hN
     unfold HL at hr;obtain⟨v',hv',hd'⟩:=S1 hst hr;simp only[List.cons_append,DJ]
     have hsame: ∀s∈looks x.o,get s (put i.o.dst u env)=get s (put i.o.dst u (put x.o.dst v env)):=fun s hs=>by
      rw[agi env u s hs,agi _ u s hs];by_cases hxs:x.o.dst=some s
      .exact absurd hs (hself s hxs)
      .rw[CS hxs]
     rw[F4 (env:=put i.o.dst u (put x.o.dst v env)) hsame];refine hd' Z' _ kp (.inr fun _ _ h=>h) ⟨by rw[hre];trivial,?_⟩
     have hvv:put x.o.dst v' (put i.o.dst u env)=put x.o.dst v (put i.o.dst u env):=by
      cases hxd:x.o.dst with
      | none=>rfl
      | some s=>
        have e:=hv' s hxd;rw[CS (ha1 s hxd).2,hxd,ER]at e;cases e;rfl
     rw[hvv];exact Ju U (hcm v u) h2
    .have hc:calm i.o.op=true:=by rw[hz];rfl
     exact CA (aS hc hi) (fun u Z' ⟨⟨h1,h2⟩,hs⟩=>fin u Z' (.inr hs) h1 h2) fun _ _ h=>h
   .rcases hk with⟨hst',_⟩|hP|⟨hst',_,_⟩|⟨hcx,hir,hg,z,hz⟩
    .exact absurd hst' hst
    .exact absurd (by unfold still;rw[hP]) hst
    .exact absurd hst' hst
    .unfold Hm
     rw[hg];simp only[hz,FQ];intro m hm;refine⟨fun r hr=>(by rw[hir]at hr;exact absurd hr (by simp)),?_⟩;simp only[List.cons_append,DJ];rw[F4 (env:=env) (agi env _)];refine CA (dQ hcx hU h' (z:= .cs z) hm) (fun v Z2 ⟨Z1,hh,h1,h2⟩=>?_) fun _ _ h=>h
     unfold Hm at hh;rw[hg]at hh;simp only[hz,FQ]at hh;subst h2;exact⟨by rw[hre];trivial,Ju U (hcm v _) (hh m h1).2⟩
end
end Go.Gl
namespace Go.Gl
def DA.refl (Z Z':AE): ∀vs,DA Z Z' vs vs
 | []=> .nil
 | _::vs=> .cons (.refl _) (DA.refl Z Z' vs)
def D7.refl (Z Z':AE): ∀vs,D7 Z Z' vs vs
 | []=> .nil
 | _::vs=> .cons (DA.refl Z Z' _) (D7.refl Z Z' vs)
def DA.length {Z Z':AE}: ∀ {vs vs':List V},DA Z Z' vs vs'->vs'.length=vs.length
 | _,_,.nil=>rfl
 | _,_,.cons _ h=>by simp[h.length]
def D7.length {Z Z':AE}: ∀ {vs vs':List (List V)},D7 Z Z' vs vs'->vs'.length=vs.length
 | _,_,.nil=>rfl
 | _,_,.cons _ h=>by simp[h.length]
def Ez.u8 {Z Z':AE} {v v':V} (h:Ez Z Z' v v') (hv:xn v=true):xn v'=true:=by
 cases h<;>first|exact hv|rfl|(simp[xn]at hv)
def DA.u8 {Z Z':AE}: ∀ {vs vs':List V},DA Z Z' vs vs'->jr vs=true->jr vs'=true
 | _,_,.nil,h=>h
 | _,_,.cons h1 .nil,h=>h1.u8 h
 | _,_,.cons _ (.cons _ _),h=>by simp[jr]at h
def D7.u8 {Z Z':AE}: ∀ {es es':List (List V)},D7 Z Z' es es'->es.all jr=true->es'.all jr=true
 | _,_,.nil,h=>h
 | _,_,.cons h1 h2,h=>by
   rw[LC,BD]at h ⊢;exact⟨h1.u8 h.1,h2.u8 h.2⟩
def D7.Iy {Z Z':AE} {es es':List (List V)} (h:D7 Z Z' es es'):Iy es<=Iy es':=by
 unfold Gl.Iy;split
 .rename_i he
  rw[if_pos (h.u8 he)];omega
 .split
  .unfold AY;omega
  .omega
variable {P:Program} {F:Nat->Prop}
def MN {Z Z':AE} {w:World} (hR:Rel F Z w) (n:Nat) {o:O} (hn:Z n=some o) (hn':Z' n=none) {c:Array Value} {e:TypeId} {fr:Nat×Nat} (hb:w.heap[n]? =some (.cells c e fr)) (i:Nat) (v:Value) (hv:c[i]? =some v):Hh F Z' w n i=some v:=by
 rw[N0 (hR.own n _ hn).1 hn',DM hb];exact hv
mutual
def Ez.HB {Z Z':AE} {w:World} (hR:Rel F Z w) (hs: ∀n,Z n=none->Z' n=none): ∀ {v v':V} {c:Value},Ez Z Z' v v'->Ab (Hh F Z w) v c->Ab (Hh F Z' w) v' c
 | _,_,_,.refl v,h=>h.mono (Et hs)
 | _,_,_,.arr (n:=n) (sz:=sz) hn hn' hl hr,h=>by
   obtain⟨rfl,h2⟩:=h;subst hl;obtain⟨c,e,h3,h4,h5,h6,h7⟩:=Er hR hn;have hlen:=hr.length;refine⟨some ⟨n,0,none⟩,_,by rw[hlen],by rw[hlen];exact h2,by simp,Lg (by rw[hlen];exact h6),by simp,fun _=>⟨n,0,sz,rfl,?_⟩⟩;exact D7.HB hR hs (fun i v hv=>MN hR n hn hn' h3 i v hv) hr h7
 | _,_,_,.cs (n:=n) hn hn' hr,h=>by
   simp only[Ab]at h;subst h;obtain⟨c,e,h3,h4,h5⟩:=Js hR hn;exact⟨n,0,rfl,DA.HB hR hs (fun i v hv=>MN hR n hn hn' h3 i v hv) hr h5⟩
 | _,_,_,.a hr,h=>by
   obtain⟨c',rfl,h2,h3⟩:=h;exact⟨c',rfl,by rw[hr.length];exact h2,DA.HB hR hs (fun _ _ e=>e) hr h3⟩
 | _,_,_,.t hr,h=>by
   obtain⟨c',rfl,h2,h3⟩:=h;exact⟨c',rfl,by rw[hr.length];exact h2,DA.HB hR hs (fun _ _ e=>e) hr h3⟩
 | _,_,_,.Ey hr,h=>by
   obtain⟨c',rfl,h2⟩:=h;exact⟨c',rfl,Ez.HB hR hs hr h2⟩
 | _,_,_,.l hf hr,h=>by
   obtain⟨a,cap,rfl,h2,h3,h4,h5,h6⟩:=h;have hl:=hr.length;refine⟨a,cap,by rw[hl],by rw[hl];exact h2,fun e=>by rw[hl];exact h3 (hf e),by rw[hl];exact Nat.le_trans h4 hr.Iy,h5,fun hne=>?_⟩;obtain⟨b,o,sz,h7,h8⟩:=h6 (by intro e;subst e;cases hr;exact hne rfl);exact⟨b,o,sz,h7,D7.HB hR hs (fun i v hv=>Et hs b i v hv) hr h8⟩
 | _,_,_,.rp hr,h=>by
   obtain⟨b,o,rfl,h2⟩:=h;exact⟨b,o,rfl,DA.HB hR hs (fun i v hv=>Et hs b i v hv) hr h2⟩
 | _,_,_,.f h1 h2,h=>by
   obtain⟨f',c',rfl,h3,h4,h5,h6⟩:=h;exact⟨f',c',rfl,by rw[h1.length];exact h3,DA.HB hR hs (fun _ _ e=>e) h1 h4,by rw[h2.length];exact h5,DA.HB hR hs (fun _ _ e=>e) h2 h6⟩
 | _,_,_,.any,_=>trivial
def DA.HB {Z Z':AE} {w:World} (hR:Rel F Z w) (hs: ∀n,Z n=none->Z' n=none) {g g':Nat->Option Value} (hg: ∀i c,g i=some c->g' i=some c): ∀ {vs vs':List V} {o:Nat},DA Z Z' vs vs'->BT (Hh F Z w) g o vs->BT (Hh F Z' w) g' o vs'
 | _,_,_,.nil,_=>trivial
 | _,_,_,.cons h1 h2,⟨⟨c,hc,hv⟩,h3⟩=>⟨⟨c,hg _ _ hc,Ez.HB hR hs h1 hv⟩,DA.HB hR hs hg h2 h3⟩
def D7.HB {Z Z':AE} {w:World} (hR:Rel F Z w) (hs: ∀n,Z n=none->Z' n=none) {g g':Nat->Option Value} (hg: ∀i c,g i=some c->g' i=some c) {sz:Nat}: ∀ {vs vs':List (List V)} {o:Nat},D7 Z Z' vs vs'->BH (Hh F Z w) g sz o vs->BH (Hh F Z' w) g' sz o vs'
 | _,_,_,.nil,_=>trivial
 | _,_,_,.cons h1 h2,⟨hl,hv,h3⟩=>⟨by rw[h1.length];exact hl,DA.HB hR hs hg h1 hv,D7.HB hR hs hg h2 h3⟩
end
def Ez.rel {Z Z':AE} {w:World} (hR:Rel F Z w) (hs:Sub Z' Z) {v v':V} {c:Value} (h:Ez Z Z' v v') (hv:Ab (Hh F Z w) v c):Ab (Hh F Z' w) v' c:=Ez.HB hR (fun _ hn=>hs.none hn) h hv
def DA.rel {Z Z':AE} {w:World} (hR:Rel F Z w) (hs:Sub Z' Z) {g g':Nat->Option Value} (hg: ∀i c,g i=some c->g' i=some c) {vs vs':List V} {o:Nat} (h:DA Z Z' vs vs') (hv:BT (Hh F Z w) g o vs):BT (Hh F Z' w) g' o vs':=DA.HB hR (fun _ hn=>hs.none hn) hg h hv
def D7.rel {Z Z':AE} {w:World} (hR:Rel F Z w) (hs:Sub Z' Z) {g g':Nat->Option Value} (hg: ∀i c,g i=some c->g' i=some c) {sz:Nat} {vs vs':List (List V)} {o:Nat} (h:D7 Z Z' vs vs') (hv:BH (Hh F Z w) g sz o vs):BH (Hh F Z' w) g' sz o vs':=D7.HB hR (fun _ hn=>hs.none hn) hg h hv
structure pR (Z Z2:AE):Prop where
 h: ∀n o2,Z2 n=some o2->Z n=some o2\/ ∃vs vs2,Z n=some (.cs vs)/\o2= .cs vs2/\DA Z Z2 vs vs2
def pR.none {Z Z2:AE} (h:pR Z Z2) {n:Nat} (hn:Z n=none):Z2 n=none:=by
 cases h':Z2 n with
 | none=>rfl
 | some o2=>
   rcases h.h n o2 h' with h1|⟨vs,vs2,h1,-⟩
   .rw[hn]at h1;cases h1
   .rw[hn]at h1;cases h1
def Rel.fz {Z Z2:AE} {w:World} (hR:Rel F Z w) (h:pR Z Z2):Rel F Z2 w where
 own n o2 ho:=by
  rcases h.h n o2 ho with h1|⟨vs,vs2,h1,rfl,hf⟩
  .obtain⟨q1,ob,q2,q3⟩:=hR.own n o2 h1
   exact⟨q1,ob,q2,O8.mono (Et fun n hn=>h.none hn) q3⟩
  .obtain⟨q1,ob,q2,c,e,q3,q4,q5⟩:=hR.own n _ h1
   exact⟨q1,ob,q2,c,e,q3,by rw[hf.length];exact q4,hf.HB hR (fun _ hn=>h.none hn) (fun _ _ e=>e) q5⟩
 lock:=hR.lock
def Bu.fz {Z Z2:AE} (w:World) (h:pR Z Z2):Bu F Z w Z2 w:=
 ⟨fun _ _ _=>rfl,Io _,rfl,rfl,rfl,fun _ hn _=>h.none hn⟩
def YH {Z:AE} {sz b:Nat} {x y:Bf} {env:Env} {k kp:V->AE->Prop} (h:FQ P (.Q9 sz b x y) env Z k kp) :
    FQ P (.append sz b x y) env Z (fun v Z1=> ∃vf Z2,Sub Z2 Z1/\Ez Z1 Z2 v vf/\k vf Z2) kp:=by
 simp only[FQ]at *;refine Bl h fun vx h=>Bl h fun vy h=>?_
 unfold Ad at h;unfold AJ;refine Eb h fun ys ⟨h1,h2⟩=>⟨h1,?_⟩
 cases vx<;>first|exact h2.elim|skip
 rename_i es full;simp only at *;obtain⟨h3,h4,h5,h6⟩:=h2;refine⟨h3,h4,fun e=>?_,fun e=>⟨h5 e,fun n cap hn hc=>?_⟩⟩
 .subst e
  rw[Ip]at h6;exact⟨_,Z,fun _ _ h=>h,.l (fun h=>(by cases h)) (.refl _ _ _),h6⟩
 .exact⟨_,Z,Gb hn,.arr (Mt) hn (by simp) (.refl _ _ _),h6⟩
def mj {Z:AE} {x:Bf} {env:Env} {k kp:V->AE->Prop} (h:FQ P (.Q8 x) env Z k kp) :
    FQ P (.box x) env Z (fun v Z1=> ∃vf Z2,Sub Z2 Z1/\Ez Z1 Z2 v vf/\k vf Z2) kp:=by
 simp only[FQ]at *;refine Bl h fun vx h=>?_
 split at h
 .exact fun n hn=>⟨_,Z,Gb hn,.cs Mt hn (.refl _ _ _),h⟩
 .exact h.elim
end Go.Gl
