import Derived.Test.YtnidfcmdimehdaaGreatU7
set_option linter.all false
set_option linter.defProp false
set_option maxHeartbeats 8000000
noncomputable section
namespace Go.Gl
variable {P:Program} {F:Nat->Prop} {env env':Env} {Z:AD}
structure DC where
 i:Nat
 o:A8
 qM:List Nat
 re:List A8
 deriving Inhabited
def AL (x:A8):List Nat:=(match x.dst with|some d=>[d]|none=>[])++looks x
def H9 (P:Program) (x:A8) (env:Env) (Z:AD):Prop:=JW P x env Z (fun u _=> ∀s,x.dst=some s->get s env=some u) (fun _ _=>False)
def Eo (P:Program):List A8->Env->AD->Prop
 | [],_,_=>True
 | x::r,env,Z=>H9 P x env Z/\Eo P r env Z
def Eo.mem: ∀ {l:List A8},Eo P l env Z-> ∀x∈l,H9 P x env Z
 | _::_,h,_,.head _=>h.1
 | _::_,h,x,.tail _ hx=>Eo.mem h.2 x hx
def EK (P:Program):List DC->(Env->AD->Prop)->(V->AD->Prop)->Env->AD->Prop
 | [],K,_,env,Z=>K env Z
 | d::r,K,kp,env,Z=>JW P d.o env Z (fun v Z'=>Eo P d.re (put d.o.dst v env) Z'/\EK P r K kp (put d.o.dst v env) Z') kp
def lJ (env env':Env):Prop:= ∀s,get s env=get s env'
def CW {s:Nat} {d:Option Nat} {v:V} (h:d≠some s):get s (put d v env)=get s env:=by
 cases d with
 | none=>rfl
 | some d=>
   simp only[put,get];cases hb:Nat.beq d s with
   | false=>rfl
   | true=>exact absurd (by rw[ZJ hb]) h
def Eu {s:Nat} {v:V}:get s (put (some s) v env)=some v:=by simp[put,get]
def lJ.put {d:Option Nat} {v:V} (h:lJ env env'):lJ (Gl.put d v env) (Gl.put d v env'):=fun s=>by
 by_cases hd:d=some s
 .subst hd
  rw[Eu,Eu]
 .rw[CW hd,CW hd,h]
def j0 {d e:Option Nat} {v u:V} (h: ∀s,d=some s->e≠some s):lJ (Gl.put d v (Gl.put e u env)) (Gl.put e u (Gl.put d v env)):=fun s=>by
 by_cases hd:d=some s
 .subst hd
  rw[Eu,CW (h s rfl),Eu]
 .rw[CW hd]
  by_cases he:e=some s
  .subst he
   rw[Eu,Eu]
  .rw[CW he,CW he,CW hd]
def Oi {x:A8} (h: ∀s∈AL x,get s env'=get s env) (hr:H9 P x env Z):H9 P x env' Z:=by
 unfold H9 at *;rw[GW (env:=env) fun s hs=>h s (Lu _ hs)];refine CE hr (fun v Z' hv s hs=>?_) fun _ _ h=>h
 rw[h s (NK _ (by rw[hs];simp))];exact hv s hs
def NA: ∀ {l:List A8},(∀s,get s env'=get s env)->Eo P l env Z->Eo P l env' Z
 | [],_,_=>trivial
 | _::_,h,hr=>⟨Oi (fun s _=>h s) hr.1,NA h hr.2⟩
section
variable {K:Env->AD->Prop} {kp:V->AD->Prop}
def Ks (U: ∀env env' Z,lJ env env'->K env Z->K env' Z): ∀ {l:List DC} {env env':Env} {Z:AD},lJ env env'->EK P l K kp env Z->EK P l K kp env' Z
 | [],_,_,_,hg,h=>U _ _ _ hg h
 | d::r,env,env',Z,hg,h=>by
   simp only[EK]at *;rw[GW (env:=env) fun s _=>(hg s).symm];exact CE h (fun v Z' ⟨h1,h2⟩=>⟨NA (fun s=>(hg.put s).symm) h1,Ks U hg.put h2⟩) fun _ _ h=>h
def qE (x y:A8):Prop:=(∀d,x.dst=some d->d∉looks y/\y.dst≠some d)/\ ∀d,y.dst=some d->d∉looks x
def fresh (y x:A8):Prop:= ∀d,y.dst=some d->d∉AL x
def okD (x y:DC):Prop:=x.re= []/\qE x.o y.o/\
 ((still x.o.op=true/\calm y.o.op=true)\/kd x.o.op= .P\/(still x.o.op=true/\x.o∈y.re/\ ∀d,x.o.dst=some d->d∉looks x.o)\/(ZS x.o.op=true/\y.re= []/\y.o.guard=none/\ ∃z,y.o.op= .alloc z))
def gx (hU: ∀v Z m z,Z m=none->kp v Z->kp v (Bz Z m z)) (U: ∀env env' Z,lJ env env'->K env Z->K env' Z) {i:DC} {ys:List DC}: ∀ {xs:List DC},(∀x∈xs,okD x i)->xs.Pairwise (fun x y=>kd x.o.op= .N->fresh y.o x.o)->
    ∀ {env:Env} {Z:AD},EK P (xs++i::ys) K kp env Z->
    JW P i.o env Z (fun u Z'=>(∀r∈i.re,(∀x∈xs,fresh x.o r)->H9 P r (put i.o.dst u env) Z')/\EK P (xs++ys) K kp (put i.o.dst u env) Z') kp
 | [],_,_,env,Z,h=>CE h (fun u Z' ⟨h1,h2⟩=>⟨fun r hr _=>h1.mem r hr,h2⟩) fun _ _ h=>h
 | x ::xs,hok,hpw,env,Z,h=>by
   simp only[List.cons_append,EK]at h;obtain⟨hpw1,hpw2⟩:=List.pairwise_cons.1 hpw;obtain⟨hre,⟨ha1,ha2⟩,hk⟩:=hok x (.head _)
   have h':JW P x.o env Z (fun v Z1=>JW P i.o (put x.o.dst v env) Z1 (fun u Z'=>(∀r∈i.re,(∀x∈xs,fresh x.o r)->H9 P r (put i.o.dst u (put x.o.dst v env)) Z')/\EK P (xs++ys) K kp (put i.o.dst u (put x.o.dst v env)) Z') kp) kp:=
    CE h (fun v Z1 hh=>gx hU U (fun y hy=>hok y (.tail _ hy)) hpw2 hh.2) fun _ _ h=>h
   have agx: ∀v,∀s∈looks i.o,get s (put x.o.dst v env)=get s env:=fun v s hs=>CW fun e=>(ha1 s e).1 hs
   have agi: ∀(env:Env) u,∀s∈looks x.o,get s (put i.o.dst u env)=get s env:=fun env u s hs=>CW fun e=>ha2 s e hs
   have hcm: ∀v u,lJ (put i.o.dst u (put x.o.dst v env)) (put x.o.dst v (put i.o.dst u env)):=fun v u=>j0 fun s hs hx=>(ha1 s hx).2 hs
   have hRE: ∀v u Z',(∀r∈i.re,(∀x∈xs,fresh x.o r)->H9 P r (put i.o.dst u (put x.o.dst v env)) Z')-> ∀r∈i.re,(∀y∈x::xs,fresh y.o r)->H9 P r (put i.o.dst u env) Z':=fun v u Z' hh r hr hf=>by
    refine Oi (fun s hs=>?_) (hh r hr fun y hy=>hf y (.tail _ hy));rw[hcm v u s,CW fun e=>hf x (.head _) s e hs]
   by_cases hst:still x.o.op=true
   .obtain⟨v,hi,hd⟩:=TY hst h'
    have fin: ∀u Z',(kd x.o.op= .P\/Sub Z Z')->(∀r∈i.re,(∀x∈xs,fresh x.o r)->H9 P r (put i.o.dst u (put x.o.dst v env)) Z')->EK P (xs++ys) K kp (put i.o.dst u (put x.o.dst v env)) Z'->
     (∀r∈i.re,(∀y∈x::xs,fresh y.o r)->H9 P r (put i.o.dst u env) Z')/\EK P (x::xs++ys) K kp (put i.o.dst u env) Z':=fun u Z' hs h1 h2=>by
     refine⟨hRE v u Z' h1,?_⟩;simp only[List.cons_append,EK];rw[GW (env:=env) (agi env u)];exact hd Z' _ _ hs ⟨by rw[hre];trivial,Ks U (hcm v u) h2⟩
    rw[GW (env:=env) (agx v)]at hi;rcases hk with⟨_,hc⟩|hP|⟨_,hm,hself⟩|⟨_,_,hg,z,hz⟩
    .exact CE (bO hc hi) (fun u Z' ⟨⟨h1,h2⟩,hs⟩=>fin u Z' (.inr hs) h1 h2) fun _ _ h=>h
    .exact CE hi (fun u Z' ⟨h1,h2⟩=>fin u Z' (.inl hP) h1 h2) fun _ _ h=>h
    .by_cases hP:kd x.o.op= .P
     .exact CE hi (fun u Z' ⟨h1,h2⟩=>fin u Z' (.inl hP) h1 h2) fun _ _ h=>h
     have hN:kd x.o.op= .N:=by
      unfold still at hst;cases hkk:kd x.o.op<;>rw[hkk]at hst<;>simp_all
     refine CE hi (fun u Z' ⟨h1,h2⟩=>⟨hRE v u Z' h1,?_⟩) fun _ _ h=>h
     have hr:=h1 x.o hm fun y hy=>hpw1 y hy hN
     unfold H9 at hr;obtain⟨v',hv',hd'⟩:=TY hst hr;simp only[List.cons_append,EK]
     have hsame: ∀s∈looks x.o,get s (put i.o.dst u env)=get s (put i.o.dst u (put x.o.dst v env)):=fun s hs=>by
      rw[agi env u s hs,agi _ u s hs];by_cases hxs:x.o.dst=some s
      .exact absurd hs (hself s hxs)
      .rw[CW hxs]
     rw[GW (env:=put i.o.dst u (put x.o.dst v env)) hsame];refine hd' Z' _ kp (.inr fun _ _ h=>h) ⟨by rw[hre];trivial,?_⟩
     have hvv:put x.o.dst v' (put i.o.dst u env)=put x.o.dst v (put i.o.dst u env):=by
      cases hxd:x.o.dst with
      | none=>rfl
      | some s=>
        have e:=hv' s hxd;rw[CW (ha1 s hxd).2,hxd,Eu]at e;cases e;rfl
     rw[hvv];exact Ks U (hcm v u) h2
    .have hc:calm i.o.op=true:=by rw[hz];rfl
     exact CE (bO hc hi) (fun u Z' ⟨⟨h1,h2⟩,hs⟩=>fin u Z' (.inr hs) h1 h2) fun _ _ h=>h
   .rcases hk with⟨hst',_⟩|hP|⟨hst',_,_⟩|⟨hcx,hir,hg,z,hz⟩
    .exact absurd hst' hst
    .exact absurd (by unfold still;rw[hP]) hst
    .exact absurd hst' hst
    .unfold JW
     rw[hg];simp only[hz,F6];intro m hm;refine⟨fun r hr=>(by rw[hir]at hr;exact absurd hr (by simp)),?_⟩;simp only[List.cons_append,EK];rw[GW (env:=env) (agi env _)];refine CE (dh hcx hU h' (z:= .cs z) hm) (fun v Z2 ⟨Z1,hh,h1,h2⟩=>?_) fun _ _ h=>h
     unfold JW at hh;rw[hg]at hh;simp only[hz,F6]at hh;subst h2;exact⟨by rw[hre];trivial,Ks U (hcm v _) (hh m h1).2⟩
end
end Go.Gl
namespace Go.Gl
def Cm.refl (Z Z':AD): ∀vs,Cm Z Z' vs vs
 | []=> .nil
 | _::vs=> .cons (.refl _) (Cm.refl Z Z' vs)
def EL.refl (Z Z':AD): ∀vs,EL Z Z' vs vs
 | []=> .nil
 | _::vs=> .cons (Cm.refl Z Z' _) (EL.refl Z Z' vs)
def Cm.length {Z Z':AD}: ∀ {vs vs':List V},Cm Z Z' vs vs'->vs'.length=vs.length
 | _,_,.nil=>rfl
 | _,_,.cons _ h=>by simp[h.length]
def EL.length {Z Z':AD}: ∀ {vs vs':List (List V)},EL Z Z' vs vs'->vs'.length=vs.length
 | _,_,.nil=>rfl
 | _,_,.cons _ h=>by simp[h.length]
def Fa.u8 {Z Z':AD} {v v':V} (h:Fa Z Z' v v') (hv:u8V v=true):u8V v'=true:=by
 cases h<;>first|exact hv|rfl|(simp[u8V]at hv)
def Cm.u8 {Z Z':AD}: ∀ {vs vs':List V},Cm Z Z' vs vs'->lD vs=true->lD vs'=true
 | _,_,.nil,h=>h
 | _,_,.cons h1 .nil,h=>h1.u8 h
 | _,_,.cons _ (.cons _ _),h=>by simp[lD]at h
def EL.u8 {Z Z':AD}: ∀ {es es':List (List V)},EL Z Z' es es'->es.all lD=true->es'.all lD=true
 | _,_,.nil,h=>h
 | _,_,.cons h1 h2,h=>by
   rw[Jd,A7]at h ⊢;exact⟨h1.u8 h.1,h2.u8 h.2⟩
def EL.Ji {Z Z':AD} {es es':List (List V)} (h:EL Z Z' es es'):Ji es<=Ji es':=by
 unfold Gl.Ji;split
 .rename_i he
  rw[if_pos (h.u8 he)];omega
 .split
  .unfold AZ;omega
  .omega
variable {P:Program} {F:Nat->Prop}
def M1 {Z Z':AD} {w:World} (hR:Rel F Z w) (n:Nat) {o:O} (hn:Z n=some o) (hn':Z' n=none) {c:Array Value} {e:TypeId} {fr:Nat×Nat} (hb:w.heap[n]? =some (.cells c e fr)) (i:Nat) (v:Value) (hv:c[i]? =some v):Hh F Z' w n i=some v:=by
 rw[OP (hR.own n _ hn).1 hn',Da hb];exact hv
mutual
def Fa.Hv {Z Z':AD} {w:World} (hR:Rel F Z w) (hs: ∀n,Z n=none->Z' n=none): ∀ {v v':V} {c:Value},Fa Z Z' v v'->Ae (Hh F Z w) v c->Ae (Hh F Z' w) v' c
 | _,_,_,.refl v,h=>h.mono (FQ hs)
 | _,_,_,.arr (n:=n) (sz:=sz) hn hn' hl hr,h=>by
   obtain⟨rfl,h2⟩:=h;subst hl;obtain⟨c,e,h3,h4,h5,h6,h7⟩:=FO hR hn;have hlen:=hr.length;refine⟨some ⟨n,0,none⟩,_,by rw[hlen],by rw[hlen];exact h2,by simp,MM (by rw[hlen];exact h6),by simp,fun _=>⟨n,0,sz,rfl,?_⟩⟩;exact EL.Hv hR hs (fun i v hv=>M1 hR n hn hn' h3 i v hv) hr h7
 | _,_,_,.cs (n:=n) hn hn' hr,h=>by
   simp only[Ae]at h;subst h;obtain⟨c,e,h3,h4,h5⟩:=Ko hR hn;exact⟨n,0,rfl,Cm.Hv hR hs (fun i v hv=>M1 hR n hn hn' h3 i v hv) hr h5⟩
 | _,_,_,.a hr,h=>by
   obtain⟨c',rfl,h2,h3⟩:=h;exact⟨c',rfl,by rw[hr.length];exact h2,Cm.Hv hR hs (fun _ _ e=>e) hr h3⟩
 | _,_,_,.t hr,h=>by
   obtain⟨c',rfl,h2,h3⟩:=h;exact⟨c',rfl,by rw[hr.length];exact h2,Cm.Hv hR hs (fun _ _ e=>e) hr h3⟩
 | _,_,_,.Lx hr,h=>by
   obtain⟨c',rfl,h2⟩:=h;exact⟨c',rfl,Fa.Hv hR hs hr h2⟩
 | _,_,_,.l hf hr,h=>by
   obtain⟨a,cap,rfl,h2,h3,h4,h5,h6⟩:=h;have hl:=hr.length;refine⟨a,cap,by rw[hl],by rw[hl];exact h2,fun e=>by rw[hl];exact h3 (hf e),by rw[hl];exact Nat.le_trans h4 hr.Ji,h5,fun hne=>?_⟩;obtain⟨b,o,sz,h7,h8⟩:=h6 (by intro e;subst e;cases hr;exact hne rfl);exact⟨b,o,sz,h7,EL.Hv hR hs (fun i v hv=>FQ hs b i v hv) hr h8⟩
 | _,_,_,.rp hr,h=>by
   obtain⟨b,o,rfl,h2⟩:=h;exact⟨b,o,rfl,Cm.Hv hR hs (fun i v hv=>FQ hs b i v hv) hr h2⟩
 | _,_,_,.f h1 h2,h=>by
   obtain⟨f',c',rfl,h3,h4,h5,h6⟩:=h;exact⟨f',c',rfl,by rw[h1.length];exact h3,Cm.Hv hR hs (fun _ _ e=>e) h1 h4,by rw[h2.length];exact h5,Cm.Hv hR hs (fun _ _ e=>e) h2 h6⟩
 | _,_,_,.any,_=>trivial
def Cm.Hv {Z Z':AD} {w:World} (hR:Rel F Z w) (hs: ∀n,Z n=none->Z' n=none) {g g':Nat->Option Value} (hg: ∀i c,g i=some c->g' i=some c): ∀ {vs vs':List V} {o:Nat},Cm Z Z' vs vs'->BU (Hh F Z w) g o vs->BU (Hh F Z' w) g' o vs'
 | _,_,_,.nil,_=>trivial
 | _,_,_,.cons h1 h2,⟨⟨c,hc,hv⟩,h3⟩=>⟨⟨c,hg _ _ hc,Fa.Hv hR hs h1 hv⟩,Cm.Hv hR hs hg h2 h3⟩
def EL.Hv {Z Z':AD} {w:World} (hR:Rel F Z w) (hs: ∀n,Z n=none->Z' n=none) {g g':Nat->Option Value} (hg: ∀i c,g i=some c->g' i=some c) {sz:Nat}: ∀ {vs vs':List (List V)} {o:Nat},EL Z Z' vs vs'->BH (Hh F Z w) g sz o vs->BH (Hh F Z' w) g' sz o vs'
 | _,_,_,.nil,_=>trivial
 | _,_,_,.cons h1 h2,⟨hl,hv,h3⟩=>⟨by rw[h1.length];exact hl,Cm.Hv hR hs hg h1 hv,EL.Hv hR hs hg h2 h3⟩
end
def Fa.rel {Z Z':AD} {w:World} (hR:Rel F Z w) (hs:Sub Z' Z) {v v':V} {c:Value} (h:Fa Z Z' v v') (hv:Ae (Hh F Z w) v c):Ae (Hh F Z' w) v' c:=Fa.Hv hR (fun _ hn=>hs.none hn) h hv
def Cm.rel {Z Z':AD} {w:World} (hR:Rel F Z w) (hs:Sub Z' Z) {g g':Nat->Option Value} (hg: ∀i c,g i=some c->g' i=some c) {vs vs':List V} {o:Nat} (h:Cm Z Z' vs vs') (hv:BU (Hh F Z w) g o vs):BU (Hh F Z' w) g' o vs':=Cm.Hv hR (fun _ hn=>hs.none hn) hg h hv
def EL.rel {Z Z':AD} {w:World} (hR:Rel F Z w) (hs:Sub Z' Z) {g g':Nat->Option Value} (hg: ∀i c,g i=some c->g' i=some c) {sz:Nat} {vs vs':List (List V)} {o:Nat} (h:EL Z Z' vs vs') (hv:BH (Hh F Z w) g sz o vs):BH (Hh F Z' w) g' sz o vs':=EL.Hv hR (fun _ hn=>hs.none hn) hg h hv
structure xa (Z Z2:AD):Prop where
 h: ∀n o2,Z2 n=some o2->Z n=some o2\/ ∃vs vs2,Z n=some (.cs vs)/\o2= .cs vs2/\Cm Z Z2 vs vs2
def xa.none {Z Z2:AD} (h:xa Z Z2) {n:Nat} (hn:Z n=none):Z2 n=none:=by
 cases h':Z2 n with
 | none=>rfl
 | some o2=>
   rcases h.h n o2 h' with h1|⟨vs,vs2,h1,-⟩
   .rw[hn]at h1;cases h1
   .rw[hn]at h1;cases h1
def Rel.fz {Z Z2:AD} {w:World} (hR:Rel F Z w) (h:xa Z Z2):Rel F Z2 w where
 own n o2 ho:=by
  rcases h.h n o2 ho with h1|⟨vs,vs2,h1,rfl,hf⟩
  .obtain⟨q1,ob,q2,q3⟩:=hR.own n o2 h1
   exact⟨q1,ob,q2,Ph.mono (FQ fun n hn=>h.none hn) q3⟩
  .obtain⟨q1,ob,q2,c,e,q3,q4,q5⟩:=hR.own n _ h1
   exact⟨q1,ob,q2,c,e,q3,by rw[hf.length];exact q4,hf.Hv hR (fun _ hn=>h.none hn) (fun _ _ e=>e) q5⟩
 lock:=hR.lock
def B3.fz {Z Z2:AD} (w:World) (h:xa Z Z2):B3 F Z w Z2 w:=
 ⟨fun _ _ _=>rfl,G0 _,rfl,rfl,rfl,fun _ hn _=>h.none hn⟩
def Yy {Z:AD} {sz b:Nat} {x y:CG} {env:Env} {k kp:V->AD->Prop} (h:F6 P (.Xy sz b x y) env Z k kp) :
    F6 P (.append sz b x y) env Z (fun v Z1=> ∃vf Z2,Sub Z2 Z1/\Fa Z1 Z2 v vf/\k vf Z2) kp:=by
 simp only[F6]at *;refine Bn h fun vx h=>Bn h fun vy h=>?_
 unfold AU at h;unfold AI;refine E6 h fun ys ⟨h1,h2⟩=>⟨h1,?_⟩
 cases vx<;>first|exact h2.elim|skip
 rename_i es full;simp only at *;obtain⟨h3,h4,h5,h6⟩:=h2;refine⟨h3,h4,fun e=>?_,fun e=>⟨h5 e,fun n cap hn hc=>?_⟩⟩
 .subst e
  rw[EU]at h6;exact⟨_,Z,fun _ _ h=>h,.l (fun h=>(by cases h)) (.refl _ _ _),h6⟩
 .exact⟨_,Z,HG hn,.arr (NU) hn (by simp) (.refl _ _ _),h6⟩
def nr {Z:AD} {x:CG} {env:Env} {k kp:V->AD->Prop} (h:F6 P (.To x) env Z k kp) :
    F6 P (.box x) env Z (fun v Z1=> ∃vf Z2,Sub Z2 Z1/\Fa Z1 Z2 v vf/\k vf Z2) kp:=by
 simp only[F6]at *;refine Bn h fun vx h=>?_
 split at h
 .exact fun n hn=>⟨_,Z,HG hn,.cs NU hn (.refl _ _ _),h⟩
 .exact h.elim
end Go.Gl
