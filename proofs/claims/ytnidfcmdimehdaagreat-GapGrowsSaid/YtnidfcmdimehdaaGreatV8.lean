import Derived.Test.YtnidfcmdimehdaaGreatV7
set_option linter.all false
set_option linter.defProp false
set_option maxHeartbeats 8000000
noncomputable section
namespace Go.Gl
variable {P:Program} {F:Nat->Prop} {env env':Env} {Z:AE}
structure Ck where
 i:Nat
 o:Ao
 rO:List Nat
 re:List Ao
 deriving Inhabited
def AF (x:Ao):List Nat:=(match x.dst with|some d=>[d]|none=>[])++looks x
def Hw (P:Program) (x:Ao) (env:Env) (Z:AE):Prop:=IT P x env Z (fun u _=> ∀s,x.dst=some s->get s env=some u) (fun _ _=>False)
def EN (P:Program):List Ao->Env->AE->Prop
 | [],_,_=>True
 | x::r,env,Z=>Hw P x env Z/\EN P r env Z
def EN.mem: ∀ {l:List Ao},EN P l env Z-> ∀x∈l,Hw P x env Z
 | _::_,h,_,.head _=>h.1
 | _::_,h,x,.tail _ hx=>EN.mem h.2 x hx
def DW (P:Program):List Ck->(Env->AE->Prop)->(V->AE->Prop)->Env->AE->Prop
 | [],K,_,env,Z=>K env Z
 | d::r,K,kp,env,Z=>IT P d.o env Z (fun v Z'=>EN P d.re (put d.o.dst v env) Z'/\DW P r K kp (put d.o.dst v env) Z') kp
def l9 (env env':Env):Prop:= ∀s,get s env=get s env'
def Cc {s:Nat} {d:Option Nat} {v:V} (h:d≠some s):get s (put d v env)=get s env:=by
 cases d with
 | none=>rfl
 | some d=>
   simp only[put,get];cases hb:Nat.beq d s with
   | false=>rfl
   | true=>exact absurd (by rw[U7 hb]) h
def El {s:Nat} {v:V}:get s (put (some s) v env)=some v:=by simp[put,get]
def l9.put {d:Option Nat} {v:V} (h:l9 env env'):l9 (Gl.put d v env) (Gl.put d v env'):=fun s=>by
 by_cases hd:d=some s
 .subst hd
  rw[El,El]
 .rw[Cc hd,Cc hd,h]
def k7 {d e:Option Nat} {v u:V} (h: ∀s,d=some s->e≠some s):l9 (Gl.put d v (Gl.put e u env)) (Gl.put e u (Gl.put d v env)):=fun s=>by
 by_cases hd:d=some s
 .subst hd
  rw[El,Cc (h s rfl),El]
 .rw[Cc hd]
  by_cases he:e=some s
  .subst he
   rw[El,El]
  .rw[Cc he,Cc he,Cc hd]
def Oz {x:Ao} (h: ∀s∈AF x,get s env'=get s env) (hr:Hw P x env Z):Hw P x env' Z:=by
 unfold Hw at *;rw[GO (env:=env) fun s hs=>h s (NO _ hs)];refine CI hr (fun v Z' hv s hs=>?_) fun _ _ h=>h
 rw[h s (OT _ (by rw[hs];simp))];exact hv s hs
def NJ: ∀ {l:List Ao},(∀s,get s env'=get s env)->EN P l env Z->EN P l env' Z
 | [],_,_=>trivial
 | _::_,h,hr=>⟨Oz (fun s _=>h s) hr.1,NJ h hr.2⟩
section
variable {K:Env->AE->Prop} {kp:V->AE->Prop}
def Ki (U: ∀env env' Z,l9 env env'->K env Z->K env' Z): ∀ {l:List Ck} {env env':Env} {Z:AE},l9 env env'->DW P l K kp env Z->DW P l K kp env' Z
 | [],_,_,_,hg,h=>U _ _ _ hg h
 | d::r,env,env',Z,hg,h=>by
   simp only[DW]at *;rw[GO (env:=env) fun s _=>(hg s).symm];exact CI h (fun v Z' ⟨h1,h2⟩=>⟨NJ (fun s=>(hg.put s).symm) h1,Ki U hg.put h2⟩) fun _ _ h=>h
def rJ (x y:Ao):Prop:=(∀d,x.dst=some d->d∉looks y/\y.dst≠some d)/\ ∀d,y.dst=some d->d∉looks x
def fresh (y x:Ao):Prop:= ∀d,y.dst=some d->d∉AF x
def okD (x y:Ck):Prop:=x.re= []/\rJ x.o y.o/\
 ((still x.o.op=true/\calm y.o.op=true)\/kd x.o.op= .P\/(still x.o.op=true/\x.o∈y.re/\ ∀d,x.o.dst=some d->d∉looks x.o)\/(Zb x.o.op=true/\y.re= []/\y.o.guard=none/\ ∃z,y.o.op= .alloc z))
def im (hU: ∀v Z m z,Z m=none->kp v Z->kp v (Bu Z m z)) (U: ∀env env' Z,l9 env env'->K env Z->K env' Z) {i:Ck} {ys:List Ck}: ∀ {xs:List Ck},(∀x∈xs,okD x i)->xs.Pairwise (fun x y=>kd x.o.op= .N->fresh y.o x.o)->
    ∀ {env:Env} {Z:AE},DW P (xs++i::ys) K kp env Z->
    IT P i.o env Z (fun u Z'=>(∀r∈i.re,(∀x∈xs,fresh x.o r)->Hw P r (put i.o.dst u env) Z')/\DW P (xs++ys) K kp (put i.o.dst u env) Z') kp
 | [],_,_,env,Z,h=>CI h (fun u Z' ⟨h1,h2⟩=>⟨fun r hr _=>h1.mem r hr,h2⟩) fun _ _ h=>h
 | x ::xs,hok,hpw,env,Z,h=>by
   simp only[List.cons_append,DW]at h;obtain⟨hpw1,hpw2⟩:=List.pairwise_cons.1 hpw;obtain⟨hre,⟨ha1,ha2⟩,hk⟩:=hok x (.head _)
   have h':IT P x.o env Z (fun v Z1=>IT P i.o (put x.o.dst v env) Z1 (fun u Z'=>(∀r∈i.re,(∀x∈xs,fresh x.o r)->Hw P r (put i.o.dst u (put x.o.dst v env)) Z')/\DW P (xs++ys) K kp (put i.o.dst u (put x.o.dst v env)) Z') kp) kp:=
    CI h (fun v Z1 hh=>im hU U (fun y hy=>hok y (.tail _ hy)) hpw2 hh.2) fun _ _ h=>h
   have agx: ∀v,∀s∈looks i.o,get s (put x.o.dst v env)=get s env:=fun v s hs=>Cc fun e=>(ha1 s e).1 hs
   have agi: ∀(env:Env) u,∀s∈looks x.o,get s (put i.o.dst u env)=get s env:=fun env u s hs=>Cc fun e=>ha2 s e hs
   have hcm: ∀v u,l9 (put i.o.dst u (put x.o.dst v env)) (put x.o.dst v (put i.o.dst u env)):=fun v u=>k7 fun s hs hx=>(ha1 s hx).2 hs
   have hRE: ∀v u Z',(∀r∈i.re,(∀x∈xs,fresh x.o r)->Hw P r (put i.o.dst u (put x.o.dst v env)) Z')-> ∀r∈i.re,(∀y∈x::xs,fresh y.o r)->Hw P r (put i.o.dst u env) Z':=fun v u Z' hh r hr hf=>by
    refine Oz (fun s hs=>?_) (hh r hr fun y hy=>hf y (.tail _ hy));rw[hcm v u s,Cc fun e=>hf x (.head _) s e hs]
   by_cases hst:still x.o.op=true
   .obtain⟨v,hi,hd⟩:=TR hst h'
    have fin: ∀u Z',(kd x.o.op= .P\/Sub Z Z')->(∀r∈i.re,(∀x∈xs,fresh x.o r)->Hw P r (put i.o.dst u (put x.o.dst v env)) Z')->DW P (xs++ys) K kp (put i.o.dst u (put x.o.dst v env)) Z'->
     (∀r∈i.re,(∀y∈x::xs,fresh y.o r)->Hw P r (put i.o.dst u env) Z')/\DW P (x::xs++ys) K kp (put i.o.dst u env) Z':=fun u Z' hs h1 h2=>by
     refine⟨hRE v u Z' h1,?_⟩;simp only[List.cons_append,DW];rw[GO (env:=env) (agi env u)];exact hd Z' _ _ hs ⟨by rw[hre];trivial,Ki U (hcm v u) h2⟩
    rw[GO (env:=env) (agx v)]at hi;rcases hk with⟨_,hc⟩|hP|⟨_,hm,hself⟩|⟨_,_,hg,z,hz⟩
    .exact CI (bW hc hi) (fun u Z' ⟨⟨h1,h2⟩,hs⟩=>fin u Z' (.inr hs) h1 h2) fun _ _ h=>h
    .exact CI hi (fun u Z' ⟨h1,h2⟩=>fin u Z' (.inl hP) h1 h2) fun _ _ h=>h
    .by_cases hP:kd x.o.op= .P
     .exact CI hi (fun u Z' ⟨h1,h2⟩=>fin u Z' (.inl hP) h1 h2) fun _ _ h=>h
     have hN:kd x.o.op= .N:=by
      unfold still at hst;cases hkk:kd x.o.op<;>rw[hkk]at hst<;>simp_all
     refine CI hi (fun u Z' ⟨h1,h2⟩=>⟨hRE v u Z' h1,?_⟩) fun _ _ h=>h
     have hr:=h1 x.o hm fun y hy=>hpw1 y hy hN
     unfold Hw at hr;obtain⟨v',hv',hd'⟩:=TR hst hr;simp only[List.cons_append,DW]
     have hsame: ∀s∈looks x.o,get s (put i.o.dst u env)=get s (put i.o.dst u (put x.o.dst v env)):=fun s hs=>by
      rw[agi env u s hs,agi _ u s hs];by_cases hxs:x.o.dst=some s
      .exact absurd hs (hself s hxs)
      .rw[Cc hxs]
     rw[GO (env:=put i.o.dst u (put x.o.dst v env)) hsame];refine hd' Z' _ kp (.inr fun _ _ h=>h) ⟨by rw[hre];trivial,?_⟩
     have hvv:put x.o.dst v' (put i.o.dst u env)=put x.o.dst v (put i.o.dst u env):=by
      cases hxd:x.o.dst with
      | none=>rfl
      | some s=>
        have e:=hv' s hxd;rw[Cc (ha1 s hxd).2,hxd,El]at e;cases e;rfl
     rw[hvv];exact Ki U (hcm v u) h2
    .have hc:calm i.o.op=true:=by rw[hz];rfl
     exact CI (bW hc hi) (fun u Z' ⟨⟨h1,h2⟩,hs⟩=>fin u Z' (.inr hs) h1 h2) fun _ _ h=>h
   .rcases hk with⟨hst',_⟩|hP|⟨hst',_,_⟩|⟨hcx,hir,hg,z,hz⟩
    .exact absurd hst' hst
    .exact absurd (by unfold still;rw[hP]) hst
    .exact absurd hst' hst
    .unfold IT
     rw[hg];simp only[hz,FX];intro m hm;refine⟨fun r hr=>(by rw[hir]at hr;exact absurd hr (by simp)),?_⟩;simp only[List.cons_append,DW];rw[GO (env:=env) (agi env _)];refine CI (eR hcx hU h' (z:= .cs z) hm) (fun v Z2 ⟨Z1,hh,h1,h2⟩=>?_) fun _ _ h=>h
     unfold IT at hh;rw[hg]at hh;simp only[hz,FX]at hh;subst h2;exact⟨by rw[hre];trivial,Ki U (hcm v _) (hh m h1).2⟩
end
end Go.Gl
namespace Go.Gl
def DD.refl (Z Z':AE): ∀vs,DD Z Z' vs vs
 | []=> .nil
 | _::vs=> .cons (.refl _) (DD.refl Z Z' vs)
def Ea.refl (Z Z':AE): ∀vs,Ea Z Z' vs vs
 | []=> .nil
 | _::vs=> .cons (DD.refl Z Z' _) (Ea.refl Z Z' vs)
def DD.length {Z Z':AE}: ∀ {vs vs':List V},DD Z Z' vs vs'->vs'.length=vs.length
 | _,_,.nil=>rfl
 | _,_,.cons _ h=>by simp[h.length]
def Ea.length {Z Z':AE}: ∀ {vs vs':List (List V)},Ea Z Z' vs vs'->vs'.length=vs.length
 | _,_,.nil=>rfl
 | _,_,.cons _ h=>by simp[h.length]
def FH.u8 {Z Z':AE} {v v':V} (h:FH Z Z' v v') (hv:u8V v=true):u8V v'=true:=by
 cases h<;>first|exact hv|rfl|(simp[u8V]at hv)
def DD.u8 {Z Z':AE}: ∀ {vs vs':List V},DD Z Z' vs vs'->ed vs=true->ed vs'=true
 | _,_,.nil,h=>h
 | _,_,.cons h1 .nil,h=>h1.u8 h
 | _,_,.cons _ (.cons _ _),h=>by simp[ed]at h
def Ea.u8 {Z Z':AE}: ∀ {es es':List (List V)},Ea Z Z' es es'->es.all ed=true->es'.all ed=true
 | _,_,.nil,h=>h
 | _,_,.cons h1 h2,h=>by
   rw[Pg,A4]at h ⊢;exact⟨h1.u8 h.1,h2.u8 h.2⟩
def Ea.Hk {Z Z':AE} {es es':List (List V)} (h:Ea Z Z' es es'):Hk es<=Hk es':=by
 unfold Gl.Hk;split
 .rename_i he
  rw[if_pos (h.u8 he)];omega
 .split
  .unfold Ad;omega
  .omega
variable {P:Program} {F:Nat->Prop}
def M7 {Z Z':AE} {w:World} (hR:Rel F Z w) (n:Nat) {o:O} (hn:Z n=some o) (hn':Z' n=none) {c:Array Value} {e:TypeId} {fr:Nat×Nat} (hb:w.heap[n]? =some (.cells c e fr)) (i:Nat) (v:Value) (hv:c[i]? =some v):Hh F Z' w n i=some v:=by
 rw[Og (hR.own n _ hn).1 hn',DZ hb];exact hv
mutual
def FH.Hi {Z Z':AE} {w:World} (hR:Rel F Z w) (hs: ∀n,Z n=none->Z' n=none): ∀ {v v':V} {c:Value},FH Z Z' v v'->AY (Hh F Z w) v c->AY (Hh F Z' w) v' c
 | _,_,_,.refl v,h=>h.mono (E8 hs)
 | _,_,_,.arr (n:=n) (sz:=sz) hn hn' hl hr,h=>by
   obtain⟨rfl,h2⟩:=h;subst hl;obtain⟨c,e,h3,h4,h5,h6,h7⟩:=E5 hR hn;have hlen:=hr.length;refine⟨some ⟨n,0,none⟩,_,by rw[hlen],by rw[hlen];exact h2,by simp,J6 (by rw[hlen];exact h6),by simp,fun _=>⟨n,0,sz,rfl,?_⟩⟩;exact Ea.Hi hR hs (fun i v hv=>M7 hR n hn hn' h3 i v hv) hr h7
 | _,_,_,.cs (n:=n) hn hn' hr,h=>by
   simp only[AY]at h;subst h;obtain⟨c,e,h3,h4,h5⟩:=Kf hR hn;exact⟨n,0,rfl,DD.Hi hR hs (fun i v hv=>M7 hR n hn hn' h3 i v hv) hr h5⟩
 | _,_,_,.a hr,h=>by
   obtain⟨c',rfl,h2,h3⟩:=h;exact⟨c',rfl,by rw[hr.length];exact h2,DD.Hi hR hs (fun _ _ e=>e) hr h3⟩
 | _,_,_,.t hr,h=>by
   obtain⟨c',rfl,h2,h3⟩:=h;exact⟨c',rfl,by rw[hr.length];exact h2,DD.Hi hR hs (fun _ _ e=>e) hr h3⟩
 | _,_,_,.FD hr,h=>by
   obtain⟨c',rfl,h2⟩:=h;exact⟨c',rfl,FH.Hi hR hs hr h2⟩
 | _,_,_,.l hf hr,h=>by
   obtain⟨a,cap,rfl,h2,h3,h4,h5,h6⟩:=h;have hl:=hr.length;refine⟨a,cap,by rw[hl],by rw[hl];exact h2,fun e=>by rw[hl];exact h3 (hf e),by rw[hl];exact Nat.le_trans h4 hr.Hk,h5,fun hne=>?_⟩;obtain⟨b,o,sz,h7,h8⟩:=h6 (by intro e;subst e;cases hr;exact hne rfl);exact⟨b,o,sz,h7,Ea.Hi hR hs (fun i v hv=>E8 hs b i v hv) hr h8⟩
 | _,_,_,.rp hr,h=>by
   obtain⟨b,o,rfl,h2⟩:=h;exact⟨b,o,rfl,DD.Hi hR hs (fun i v hv=>E8 hs b i v hv) hr h2⟩
 | _,_,_,.f h1 h2,h=>by
   obtain⟨f',c',rfl,h3,h4,h5,h6⟩:=h;exact⟨f',c',rfl,by rw[h1.length];exact h3,DD.Hi hR hs (fun _ _ e=>e) h1 h4,by rw[h2.length];exact h5,DD.Hi hR hs (fun _ _ e=>e) h2 h6⟩
 | _,_,_,.any,_=>trivial
def DD.Hi {Z Z':AE} {w:World} (hR:Rel F Z w) (hs: ∀n,Z n=none->Z' n=none) {g g':Nat->Option Value} (hg: ∀i c,g i=some c->g' i=some c): ∀ {vs vs':List V} {o:Nat},DD Z Z' vs vs'->BV (Hh F Z w) g o vs->BV (Hh F Z' w) g' o vs'
 | _,_,_,.nil,_=>trivial
 | _,_,_,.cons h1 h2,⟨⟨c,hc,hv⟩,h3⟩=>⟨⟨c,hg _ _ hc,FH.Hi hR hs h1 hv⟩,DD.Hi hR hs hg h2 h3⟩
def Ea.Hi {Z Z':AE} {w:World} (hR:Rel F Z w) (hs: ∀n,Z n=none->Z' n=none) {g g':Nat->Option Value} (hg: ∀i c,g i=some c->g' i=some c) {sz:Nat}: ∀ {vs vs':List (List V)} {o:Nat},Ea Z Z' vs vs'->BE (Hh F Z w) g sz o vs->BE (Hh F Z' w) g' sz o vs'
 | _,_,_,.nil,_=>trivial
 | _,_,_,.cons h1 h2,⟨hl,hv,h3⟩=>⟨by rw[h1.length];exact hl,DD.Hi hR hs hg h1 hv,Ea.Hi hR hs hg h2 h3⟩
end
def FH.rel {Z Z':AE} {w:World} (hR:Rel F Z w) (hs:Sub Z' Z) {v v':V} {c:Value} (h:FH Z Z' v v') (hv:AY (Hh F Z w) v c):AY (Hh F Z' w) v' c:=FH.Hi hR (fun _ hn=>hs.none hn) h hv
def DD.rel {Z Z':AE} {w:World} (hR:Rel F Z w) (hs:Sub Z' Z) {g g':Nat->Option Value} (hg: ∀i c,g i=some c->g' i=some c) {vs vs':List V} {o:Nat} (h:DD Z Z' vs vs') (hv:BV (Hh F Z w) g o vs):BV (Hh F Z' w) g' o vs':=DD.Hi hR (fun _ hn=>hs.none hn) hg h hv
def Ea.rel {Z Z':AE} {w:World} (hR:Rel F Z w) (hs:Sub Z' Z) {g g':Nat->Option Value} (hg: ∀i c,g i=some c->g' i=some c) {sz:Nat} {vs vs':List (List V)} {o:Nat} (h:Ea Z Z' vs vs') (hv:BE (Hh F Z w) g sz o vs):BE (Hh F Z' w) g' sz o vs':=Ea.Hi hR (fun _ hn=>hs.none hn) hg h hv
structure xm (Z Z2:AE):Prop where
 h: ∀n o2,Z2 n=some o2->Z n=some o2\/ ∃vs vs2,Z n=some (.cs vs)/\o2= .cs vs2/\DD Z Z2 vs vs2
def xm.none {Z Z2:AE} (h:xm Z Z2) {n:Nat} (hn:Z n=none):Z2 n=none:=by
 cases h':Z2 n with
 | none=>rfl
 | some o2=>
   rcases h.h n o2 h' with h1|⟨vs,vs2,h1,-⟩
   .rw[hn]at h1;cases h1
   .rw[hn]at h1;cases h1
def Rel.fz {Z Z2:AE} {w:World} (hR:Rel F Z w) (h:xm Z Z2):Rel F Z2 w where
 own n o2 ho:=by
  rcases h.h n o2 ho with h1|⟨vs,vs2,h1,rfl,hf⟩
  .obtain⟨q1,ob,q2,q3⟩:=hR.own n o2 h1
   exact⟨q1,ob,q2,Px.mono (E8 fun n hn=>h.none hn) q3⟩
  .obtain⟨q1,ob,q2,c,e,q3,q4,q5⟩:=hR.own n _ h1
   exact⟨q1,ob,q2,c,e,q3,by rw[hf.length];exact q4,hf.Hi hR (fun _ hn=>h.none hn) (fun _ _ e=>e) q5⟩
 lock:=hR.lock
def B7.fz {Z Z2:AE} (w:World) (h:xm Z Z2):B7 F Z w Z2 w:=
 ⟨fun _ _ _=>rfl,IS _,rfl,rfl,rfl,fun _ hn _=>h.none hn⟩
def ZC {Z:AE} {sz b:Nat} {x y:Bk} {env:Env} {k kp:V->AE->Prop} (h:FX P (.Rz sz b x y) env Z k kp) :
    FX P (.append sz b x y) env Z (fun v Z1=> ∃vf Z2,Sub Z2 Z1/\FH Z1 Z2 v vf/\k vf Z2) kp:=by
 simp only[FX]at *;refine Bq h fun vx h=>Bq h fun vy h=>?_
 unfold Ac at h;unfold AL;refine Fu h fun ys ⟨h1,h2⟩=>⟨h1,?_⟩
 cases vx<;>first|exact h2.elim|skip
 rename_i es full;simp only at *;obtain⟨h3,h4,h5,h6⟩:=h2;refine⟨h3,h4,fun e=>?_,fun e=>⟨h5 e,fun n cap hn hc=>?_⟩⟩
 .subst e
  rw[FE]at h6;exact⟨_,Z,fun _ _ h=>h,.l (fun h=>(by cases h)) (.refl _ _ _),h6⟩
 .exact⟨_,Z,G3 hn,.arr (Ng) hn (by simp) (.refl _ _ _),h6⟩
def oy {Z:AE} {x:Bk} {env:Env} {k kp:V->AE->Prop} (h:FX P (.PA x) env Z k kp) :
    FX P (.box x) env Z (fun v Z1=> ∃vf Z2,Sub Z2 Z1/\FH Z1 Z2 v vf/\k vf Z2) kp:=by
 simp only[FX]at *;refine Bq h fun vx h=>?_
 split at h
 .exact fun n hn=>⟨_,Z,G3 hn,.cs Ng hn (.refl _ _ _),h⟩
 .exact h.elim
end Go.Gl
