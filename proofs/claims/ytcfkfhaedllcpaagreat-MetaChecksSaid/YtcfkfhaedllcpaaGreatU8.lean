import Derived.Test.YtcfkfhaedllcpaaGreatU7
set_option linter.all false
set_option linter.defProp false
set_option maxHeartbeats 8000000
noncomputable section
namespace Go.Gl
variable {P:Program} {F:Nat->Prop} {env env':Env} {Z:AE}
structure B0 where
 i:Nat
 o:Ad
 aW:List Nat
 re:List Ad
 deriving Inhabited
def AH (x:Ad):List Nat:=(match x.dst with|some d=>[d]|none=>[])++looks x
def Fb (P:Program) (x:Ad) (env:Env) (Z:AE):Prop:=Fx P x env Z (fun u _=> ∀s,x.dst=some s->get s env=some u) (fun _ _=>False)
def DA (P:Program):List Ad->Env->AE->Prop
 | [],_,_=>True
 | x::r,env,Z=>Fb P x env Z/\DA P r env Z
def DA.mem: ∀ {l:List Ad},DA P l env Z-> ∀x∈l,Fb P x env Z
 | _::_,h,_,.head _=>h.1
 | _::_,h,x,.tail _ hx=>DA.mem h.2 x hx
def CX (P:Program):List B0->(Env->AE->Prop)->(V->AE->Prop)->Env->AE->Prop
 | [],K,_,env,Z=>K env Z
 | d::r,K,kp,env,Z=>Fx P d.o env Z (fun v Z'=>DA P d.re (put d.o.dst v env) Z'/\CX P r K kp (put d.o.dst v env) Z') kp
def Xg (env env':Env):Prop:= ∀s,get s env=get s env'
def Bv {s:Nat} {d:Option Nat} {v:V} (h:d≠some s):get s (put d v env)=get s env:=by
 cases d with
 | none=>rfl
 | some d=>
   simp only[put,get];cases hb:Nat.beq d s with
   | false=>rfl
   | true=>exact absurd (by rw[Oe hb]) h
def DO {s:Nat} {v:V}:get s (put (some s) v env)=some v:=by simp[put,get]
def Xg.put {d:Option Nat} {v:V} (h:Xg env env'):Xg (Gl.put d v env) (Gl.put d v env'):=fun s=>by
 by_cases hd:d=some s
 .subst hd
  rw[DO,DO]
 .rw[Bv hd,Bv hd,h]
def W7 {d e:Option Nat} {v u:V} (h: ∀s,d=some s->e≠some s):Xg (Gl.put d v (Gl.put e u env)) (Gl.put e u (Gl.put d v env)):=fun s=>by
 by_cases hd:d=some s
 .subst hd
  rw[DO,Bv (h s rfl),DO]
 .rw[Bv hd]
  by_cases he:e=some s
  .subst he
   rw[DO,DO]
  .rw[Bv he,Bv he,Bv hd]
def KQ {x:Ad} (h: ∀s∈AH x,get s env'=get s env) (hr:Fb P x env Z):Fb P x env' Z:=by
 unfold Fb at *;rw[Ee (env:=env) fun s hs=>h s (TO _ hs)];refine Bj hr (fun v Z' hv s hs=>?_) fun _ _ h=>h
 rw[h s (On _ (by rw[hs];simp))];exact hv s hs
def JA: ∀ {l:List Ad},(∀s,get s env'=get s env)->DA P l env Z->DA P l env' Z
 | [],_,_=>trivial
 | _::_,h,hr=>⟨KQ (fun s _=>h s) hr.1,JA h hr.2⟩
section
variable {K:Env->AE->Prop} {kp:V->AE->Prop}
def HP (U: ∀env env' Z,Xg env env'->K env Z->K env' Z): ∀ {l:List B0} {env env':Env} {Z:AE},Xg env env'->CX P l K kp env Z->CX P l K kp env' Z
 | [],_,_,_,hg,h=>U _ _ _ hg h
 | d::r,env,env',Z,hg,h=>by
   simp only[CX]at *;rw[Ee (env:=env) fun s _=>(hg s).symm];exact Bj h (fun v Z' ⟨h1,h2⟩=>⟨JA (fun s=>(hg.put s).symm) h1,HP U hg.put h2⟩) fun _ _ h=>h
def aP (x y:Ad):Prop:=(∀d,x.dst=some d->d∉looks y/\y.dst≠some d)/\ ∀d,y.dst=some d->d∉looks x
def fresh (y x:Ad):Prop:= ∀d,y.dst=some d->d∉AH x
def jK (x y:B0):Prop:=x.re= []/\aP x.o y.o/\
 ((still x.o.op=true/\calm y.o.op=true)\/kd x.o.op= .P\/(still x.o.op=true/\x.o∈y.re/\ ∀d,x.o.dst=some d->d∉looks x.o)\/(SF x.o.op=true/\y.re= []/\y.o.guard=none/\ ∃z,y.o.op= .alloc z))
def V3 (hU: ∀v Z m z,Z m=none->kp v Z->kp v (BO Z m z)) (U: ∀env env' Z,Xg env env'->K env Z->K env' Z) {i:B0} {ys:List B0}: ∀ {xs:List B0},(∀x∈xs,jK x i)->xs.Pairwise (fun x y=>kd x.o.op= .N->fresh y.o x.o)->
    ∀ {env:Env} {Z:AE},CX P (xs++i::ys) K kp env Z->
    Fx P i.o env Z (fun u Z'=>(∀r∈i.re,(∀x∈xs,fresh x.o r)->Fb P r (put i.o.dst u env) Z')/\CX P (xs++ys) K kp (put i.o.dst u env) Z') kp
 | [],_,_,env,Z,h=>Bj h (fun u Z' ⟨h1,h2⟩=>⟨fun r hr _=>h1.mem r hr,h2⟩) fun _ _ h=>h
 | x ::xs,hok,hpw,env,Z,h=>by
   simp only[List.cons_append,CX]at h;obtain⟨hpw1,hpw2⟩:=List.pairwise_cons.1 hpw;obtain⟨hre,⟨ha1,ha2⟩,hk⟩:=hok x (.head _)
   have h':Fx P x.o env Z (fun v Z1=>Fx P i.o (put x.o.dst v env) Z1 (fun u Z'=>(∀r∈i.re,(∀x∈xs,fresh x.o r)->Fb P r (put i.o.dst u (put x.o.dst v env)) Z')/\CX P (xs++ys) K kp (put i.o.dst u (put x.o.dst v env)) Z') kp) kp:=
    Bj h (fun v Z1 hh=>V3 hU U (fun y hy=>hok y (.tail _ hy)) hpw2 hh.2) fun _ _ h=>h
   have agx: ∀v,∀s∈looks i.o,get s (put x.o.dst v env)=get s env:=fun v s hs=>Bv fun e=>(ha1 s e).1 hs
   have agi: ∀(env:Env) u,∀s∈looks x.o,get s (put i.o.dst u env)=get s env:=fun env u s hs=>Bv fun e=>ha2 s e hs
   have hcm: ∀v u,Xg (put i.o.dst u (put x.o.dst v env)) (put x.o.dst v (put i.o.dst u env)):=fun v u=>W7 fun s hs hx=>(ha1 s hx).2 hs
   have hRE: ∀v u Z',(∀r∈i.re,(∀x∈xs,fresh x.o r)->Fb P r (put i.o.dst u (put x.o.dst v env)) Z')-> ∀r∈i.re,(∀y∈x::xs,fresh y.o r)->Fb P r (put i.o.dst u env) Z':=fun v u Z' hh r hr hf=>by
    refine KQ (fun s hs=>?_) (hh r hr fun y hy=>hf y (.tail _ hy));rw[hcm v u s,Bv fun e=>hf x (.head _) s e hs]
   by_cases hst:still x.o.op=true
   .obtain⟨v,hi,hd⟩:=NS hst h'
    have fin: ∀u Z',(kd x.o.op= .P\/Sub Z Z')->(∀r∈i.re,(∀x∈xs,fresh x.o r)->Fb P r (put i.o.dst u (put x.o.dst v env)) Z')->CX P (xs++ys) K kp (put i.o.dst u (put x.o.dst v env)) Z'->
     (∀r∈i.re,(∀y∈x::xs,fresh y.o r)->Fb P r (put i.o.dst u env) Z')/\CX P (x::xs++ys) K kp (put i.o.dst u env) Z':=fun u Z' hs h1 h2=>by
     refine⟨hRE v u Z' h1,?_⟩;simp only[List.cons_append,CX];rw[Ee (env:=env) (agi env u)];exact hd Z' _ _ hs ⟨by rw[hre];trivial,HP U (hcm v u) h2⟩
    rw[Ee (env:=env) (agx v)]at hi;rcases hk with⟨_,hc⟩|hP|⟨_,hm,hself⟩|⟨_,_,hg,z,hz⟩
    .exact Bj (TN hc hi) (fun u Z' ⟨⟨h1,h2⟩,hs⟩=>fin u Z' (.inr hs) h1 h2) fun _ _ h=>h
    .exact Bj hi (fun u Z' ⟨h1,h2⟩=>fin u Z' (.inl hP) h1 h2) fun _ _ h=>h
    .by_cases hP:kd x.o.op= .P
     .exact Bj hi (fun u Z' ⟨h1,h2⟩=>fin u Z' (.inl hP) h1 h2) fun _ _ h=>h
     have hN:kd x.o.op= .N:=by
      unfold still at hst;cases hkk:kd x.o.op<;>rw[hkk]at hst<;>simp_all
     refine Bj hi (fun u Z' ⟨h1,h2⟩=>⟨hRE v u Z' h1,?_⟩) fun _ _ h=>h
     have hr:=h1 x.o hm fun y hy=>hpw1 y hy hN
     unfold Fb at hr;obtain⟨v',hv',hd'⟩:=NS hst hr;simp only[List.cons_append,CX]
     have hsame: ∀s∈looks x.o,get s (put i.o.dst u env)=get s (put i.o.dst u (put x.o.dst v env)):=fun s hs=>by
      rw[agi env u s hs,agi _ u s hs];by_cases hxs:x.o.dst=some s
      .exact absurd hs (hself s hxs)
      .rw[Bv hxs]
     rw[Ee (env:=put i.o.dst u (put x.o.dst v env)) hsame];refine hd' Z' _ kp (.inr fun _ _ h=>h) ⟨by rw[hre];trivial,?_⟩
     have hvv:put x.o.dst v' (put i.o.dst u env)=put x.o.dst v (put i.o.dst u env):=by
      cases hxd:x.o.dst with
      | none=>rfl
      | some s=>
        have e:=hv' s hxd;rw[Bv (ha1 s hxd).2,hxd,DO]at e;cases e;rfl
     rw[hvv];exact HP U (hcm v u) h2
    .have hc:calm i.o.op=true:=by rw[hz];rfl
     exact Bj (TN hc hi) (fun u Z' ⟨⟨h1,h2⟩,hs⟩=>fin u Z' (.inr hs) h1 h2) fun _ _ h=>h
   .rcases hk with⟨hst',_⟩|hP|⟨hst',_,_⟩|⟨hcx,hir,hg,z,hz⟩
    .exact absurd hst' hst
    .exact absurd (by unfold still;rw[hP]) hst
    .exact absurd hst' hst
    .unfold Fx
     rw[hg];simp only[hz,Dy];intro m hm;refine⟨fun r hr=>(by rw[hir]at hr;exact absurd hr (by simp)),?_⟩;simp only[List.cons_append,CX];rw[Ee (env:=env) (agi env _)];refine Bj (Uk hcx hU h' (z:= .cs z) hm) (fun v Z2 ⟨Z1,hh,h1,h2⟩=>?_) fun _ _ h=>h
     unfold Fx at hh;rw[hg]at hh;simp only[hz,Dy]at hh;subst h2;exact⟨by rw[hre];trivial,HP U (hcm v _) (hh m h1).2⟩
end
end Go.Gl
namespace Go.Gl
def CU.refl (Z Z':AE): ∀vs,CU Z Z' vs vs
 | []=> .nil
 | _::vs=> .cons (.refl _) (CU.refl Z Z' vs)
def DU.refl (Z Z':AE): ∀vs,DU Z Z' vs vs
 | []=> .nil
 | _::vs=> .cons (CU.refl Z Z' _) (DU.refl Z Z' vs)
def CU.length {Z Z':AE}: ∀ {vs vs':List V},CU Z Z' vs vs'->vs'.length=vs.length
 | _,_,.nil=>rfl
 | _,_,.cons _ h=>by simp[h.length]
def DU.length {Z Z':AE}: ∀ {vs vs':List (List V)},DU Z Z' vs vs'->vs'.length=vs.length
 | _,_,.nil=>rfl
 | _,_,.cons _ h=>by simp[h.length]
def EL.u8 {Z Z':AE} {v v':V} (h:EL Z Z' v v') (hv:ic v=true):ic v'=true:=by
 cases h<;>first|exact hv|rfl|(simp[ic]at hv)
def CU.u8 {Z Z':AE}: ∀ {vs vs':List V},CU Z Z' vs vs'->Xa vs=true->Xa vs'=true
 | _,_,.nil,h=>h
 | _,_,.cons h1 .nil,h=>h1.u8 h
 | _,_,.cons _ (.cons _ _),h=>by simp[Xa]at h
def DU.u8 {Z Z':AE}: ∀ {es es':List (List V)},DU Z Z' es es'->es.all Xa=true->es'.all Xa=true
 | _,_,.nil,h=>h
 | _,_,.cons h1 h2,h=>by
   rw[NV,Ba]at h ⊢;exact⟨h1.u8 h.1,h2.u8 h.2⟩
def DU.Ge {Z Z':AE} {es es':List (List V)} (h:DU Z Z' es es'):Ge es<=Ge es':=by
 unfold Gl.Ge;split
 .rename_i he
  rw[if_pos (h.u8 he)];omega
 .split
  .unfold AX;omega
  .omega
variable {P:Program} {F:Nat->Prop}
def I0 {Z Z':AE} {w:World} (hR:Rel F Z w) (n:Nat) {o:O} (hn:Z n=some o) (hn':Z' n=none) {c:Array Value} {e:TypeId} {fr:Nat×Nat} (hb:w.heap[n]? =some (.cells c e fr)) (i:Nat) (v:Value) (hv:c[i]? =some v):Hh F Z' w n i=some v:=by
 rw[J7 (hR.own n _ hn).1 hn',Cb hb];exact hv
mutual
def EL.FR {Z Z':AE} {w:World} (hR:Rel F Z w) (hs: ∀n,Z n=none->Z' n=none): ∀ {v v':V} {c:Value},EL Z Z' v v'->AQ (Hh F Z w) v c->AQ (Hh F Z' w) v' c
 | _,_,_,.refl v,h=>h.mono (Da hs)
 | _,_,_,.arr (n:=n) (sz:=sz) hn hn' hl hr,h=>by
   obtain⟨rfl,h2⟩:=h;subst hl;obtain⟨c,e,h3,h4,h5,h6,h7⟩:=DY hR hn;have hlen:=hr.length;refine⟨some ⟨n,0,none⟩,_,by rw[hlen],by rw[hlen];exact h2,by simp,IZ (by rw[hlen];exact h6),by simp,fun _=>⟨n,0,sz,rfl,?_⟩⟩;exact DU.FR hR hs (fun i v hv=>I0 hR n hn hn' h3 i v hv) hr h7
 | _,_,_,.cs (n:=n) hn hn' hr,h=>by
   simp only[AQ]at h;subst h;obtain⟨c,e,h3,h4,h5⟩:=HN hR hn;exact⟨n,0,rfl,CU.FR hR hs (fun i v hv=>I0 hR n hn hn' h3 i v hv) hr h5⟩
 | _,_,_,.a hr,h=>by
   obtain⟨c',rfl,h2,h3⟩:=h;exact⟨c',rfl,by rw[hr.length];exact h2,CU.FR hR hs (fun _ _ e=>e) hr h3⟩
 | _,_,_,.t hr,h=>by
   obtain⟨c',rfl,h2,h3⟩:=h;exact⟨c',rfl,by rw[hr.length];exact h2,CU.FR hR hs (fun _ _ e=>e) hr h3⟩
 | _,_,_,.De hr,h=>by
   obtain⟨c',rfl,h2⟩:=h;exact⟨c',rfl,EL.FR hR hs hr h2⟩
 | _,_,_,.l hf hr,h=>by
   obtain⟨a,cap,rfl,h2,h3,h4,h5,h6⟩:=h;have hl:=hr.length;refine⟨a,cap,by rw[hl],by rw[hl];exact h2,fun e=>by rw[hl];exact h3 (hf e),by rw[hl];exact Nat.le_trans h4 hr.Ge,h5,fun hne=>?_⟩;obtain⟨b,o,sz,h7,h8⟩:=h6 (by intro e;subst e;cases hr;exact hne rfl);exact⟨b,o,sz,h7,DU.FR hR hs (fun i v hv=>Da hs b i v hv) hr h8⟩
 | _,_,_,.rp hr,h=>by
   obtain⟨b,o,rfl,h2⟩:=h;exact⟨b,o,rfl,CU.FR hR hs (fun i v hv=>Da hs b i v hv) hr h2⟩
 | _,_,_,.f h1 h2,h=>by
   obtain⟨f',c',rfl,h3,h4,h5,h6⟩:=h;exact⟨f',c',rfl,by rw[h1.length];exact h3,CU.FR hR hs (fun _ _ e=>e) h1 h4,by rw[h2.length];exact h5,CU.FR hR hs (fun _ _ e=>e) h2 h6⟩
 | _,_,_,.any,_=>trivial
def CU.FR {Z Z':AE} {w:World} (hR:Rel F Z w) (hs: ∀n,Z n=none->Z' n=none) {g g':Nat->Option Value} (hg: ∀i c,g i=some c->g' i=some c): ∀ {vs vs':List V} {o:Nat},CU Z Z' vs vs'->A8 (Hh F Z w) g o vs->A8 (Hh F Z' w) g' o vs'
 | _,_,_,.nil,_=>trivial
 | _,_,_,.cons h1 h2,⟨⟨c,hc,hv⟩,h3⟩=>⟨⟨c,hg _ _ hc,EL.FR hR hs h1 hv⟩,CU.FR hR hs hg h2 h3⟩
def DU.FR {Z Z':AE} {w:World} (hR:Rel F Z w) (hs: ∀n,Z n=none->Z' n=none) {g g':Nat->Option Value} (hg: ∀i c,g i=some c->g' i=some c) {sz:Nat}: ∀ {vs vs':List (List V)} {o:Nat},DU Z Z' vs vs'->Az (Hh F Z w) g sz o vs->Az (Hh F Z' w) g' sz o vs'
 | _,_,_,.nil,_=>trivial
 | _,_,_,.cons h1 h2,⟨hl,hv,h3⟩=>⟨by rw[h1.length];exact hl,CU.FR hR hs hg h1 hv,DU.FR hR hs hg h2 h3⟩
end
def EL.rel {Z Z':AE} {w:World} (hR:Rel F Z w) (hs:Sub Z' Z) {v v':V} {c:Value} (h:EL Z Z' v v') (hv:AQ (Hh F Z w) v c):AQ (Hh F Z' w) v' c:=EL.FR hR (fun _ hn=>hs.none hn) h hv
def CU.rel {Z Z':AE} {w:World} (hR:Rel F Z w) (hs:Sub Z' Z) {g g':Nat->Option Value} (hg: ∀i c,g i=some c->g' i=some c) {vs vs':List V} {o:Nat} (h:CU Z Z' vs vs') (hv:A8 (Hh F Z w) g o vs):A8 (Hh F Z' w) g' o vs':=CU.FR hR (fun _ hn=>hs.none hn) hg h hv
def DU.rel {Z Z':AE} {w:World} (hR:Rel F Z w) (hs:Sub Z' Z) {g g':Nat->Option Value} (hg: ∀i c,g i=some c->g' i=some c) {sz:Nat} {vs vs':List (List V)} {o:Nat} (h:DU Z Z' vs vs') (hv:Az (Hh F Z w) g sz o vs):Az (Hh F Z' w) g' sz o vs':=DU.FR hR (fun _ hn=>hs.none hn) hg h hv
structure fg (Z Z2:AE):Prop where
 h: ∀n o2,Z2 n=some o2->Z n=some o2\/ ∃vs vs2,Z n=some (.cs vs)/\o2= .cs vs2/\CU Z Z2 vs vs2
def fg.none {Z Z2:AE} (h:fg Z Z2) {n:Nat} (hn:Z n=none):Z2 n=none:=by
 cases h':Z2 n with
 | none=>rfl
 | some o2=>
   rcases h.h n o2 h' with h1|⟨vs,vs2,h1,-⟩
   .rw[hn]at h1;cases h1
   .rw[hn]at h1;cases h1
def Rel.fz {Z Z2:AE} {w:World} (hR:Rel F Z w) (h:fg Z Z2):Rel F Z2 w where
 own n o2 ho:=by
  rcases h.h n o2 ho with h1|⟨vs,vs2,h1,rfl,hf⟩
  .obtain⟨q1,ob,q2,q3⟩:=hR.own n o2 h1
   exact⟨q1,ob,q2,K3.mono (Da fun n hn=>h.none hn) q3⟩
  .obtain⟨q1,ob,q2,c,e,q3,q4,q5⟩:=hR.own n _ h1
   exact⟨q1,ob,q2,c,e,q3,by rw[hf.length];exact q4,hf.FR hR (fun _ hn=>h.none hn) (fun _ _ e=>e) q5⟩
 lock:=hR.lock
def Bb.fz {Z Z2:AE} (w:World) (h:fg Z Z2):Bb F Z w Z2 w:=
 ⟨fun _ _ _=>rfl,JE _,rfl,rfl,rfl,fun _ hn _=>h.none hn⟩
def Rq {Z:AE} {sz b:Nat} {x y:BQ} {env:Env} {k kp:V->AE->Prop} (h:Dy P (.MR sz b x y) env Z k kp) :
    Dy P (.append sz b x y) env Z (fun v Z1=> ∃vf Z2,Sub Z2 Z1/\EL Z1 Z2 v vf/\k vf Z2) kp:=by
 simp only[Dy]at *;refine BR h fun vx h=>BR h fun vy h=>?_
 unfold Ao at h;unfold AL;refine EF h fun ys ⟨h1,h2⟩=>⟨h1,?_⟩
 cases vx<;>first|exact h2.elim|skip
 rename_i es full;simp only at *;obtain⟨h3,h4,h5,h6⟩:=h2;refine⟨h3,h4,fun e=>?_,fun e=>⟨h5 e,fun n cap hn hc=>?_⟩⟩
 .subst e
  rw[Qi]at h6;exact⟨_,Z,fun _ _ h=>h,.l (fun h=>(by cases h)) (.refl _ _ _),h6⟩
 .exact⟨_,Z,E4 hn,.arr (JO) hn (by simp) (.refl _ _ _),h6⟩
def Y9 {Z:AE} {x:BQ} {env:Env} {k kp:V->AE->Prop} (h:Dy P (.K2 x) env Z k kp) :
    Dy P (.box x) env Z (fun v Z1=> ∃vf Z2,Sub Z2 Z1/\EL Z1 Z2 v vf/\k vf Z2) kp:=by
 simp only[Dy]at *;refine BR h fun vx h=>?_
 split at h
 .exact fun n hn=>⟨_,Z,E4 hn,.cs JO hn (.refl _ _ _),h⟩
 .exact h.elim
end Go.Gl
