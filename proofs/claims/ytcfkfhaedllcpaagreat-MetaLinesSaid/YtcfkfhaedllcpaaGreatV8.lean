import Derived.Test.YtcfkfhaedllcpaaGreatV7
set_option linter.all false
set_option linter.defProp false
set_option maxHeartbeats 8000000
noncomputable section
namespace Go.Gl
variable {P:Program} {F:Nat->Prop} {env env':Env} {Z:AE}
structure Cg where
 i:Nat
 o:Ao
 qE:List Nat
 re:List Ao
 deriving Inhabited
def AG (x:Ao):List Nat:=(match x.dst with|some d=>[d]|none=>[])++looks x
def Hc (P:Program) (x:Ao) (env:Env) (Z:AE):Prop:=H4 P x env Z (fun u _=> ∀s,x.dst=some s->get s env=some u) (fun _ _=>False)
def D9 (P:Program):List Ao->Env->AE->Prop
 | [],_,_=>True
 | x::r,env,Z=>Hc P x env Z/\D9 P r env Z
def D9.mem: ∀ {l:List Ao},D9 P l env Z-> ∀x∈l,Hc P x env Z
 | _::_,h,_,.head _=>h.1
 | _::_,h,x,.tail _ hx=>D9.mem h.2 x hx
def DO (P:Program):List Cg->(Env->AE->Prop)->(V->AE->Prop)->Env->AE->Prop
 | [],K,_,env,Z=>K env Z
 | d::r,K,kp,env,Z=>H4 P d.o env Z (fun v Z'=>D9 P d.re (put d.o.dst v env) Z'/\DO P r K kp (put d.o.dst v env) Z') kp
def lG (env env':Env):Prop:= ∀s,get s env=get s env'
def CS {s:Nat} {d:Option Nat} {v:V} (h:d≠some s):get s (put d v env)=get s env:=by
 cases d with
 | none=>rfl
 | some d=>
   simp only[put,get];cases hb:Nat.beq d s with
   | false=>rfl
   | true=>exact absurd (by rw[Up hb]) h
def EW {s:Nat} {v:V}:get s (put (some s) v env)=some v:=by simp[put,get]
def lG.put {d:Option Nat} {v:V} (h:lG env env'):lG (Gl.put d v env) (Gl.put d v env'):=fun s=>by
 by_cases hd:d=some s
 .subst hd
  rw[EW,EW]
 .rw[CS hd,CS hd,h]
def jq {d e:Option Nat} {v u:V} (h: ∀s,d=some s->e≠some s):lG (Gl.put d v (Gl.put e u env)) (Gl.put e u (Gl.put d v env)):=fun s=>by
 by_cases hd:d=some s
 .subst hd
  rw[EW,CS (h s rfl),EW]
 .rw[CS hd]
  by_cases he:e=some s
  .subst he
   rw[EW,EW]
  .rw[CS he,CS he,CS hd]
def OW {x:Ao} (h: ∀s∈AG x,get s env'=get s env) (hr:Hc P x env Z):Hc P x env' Z:=by
 unfold Hc at *;rw[GI (env:=env) fun s hs=>h s (N1 _ hs)];refine CC hr (fun v Z' hv s hs=>?_) fun _ _ h=>h
 rw[h s (Q9 _ (by rw[hs];simp))];exact hv s hs
def Mq: ∀ {l:List Ao},(∀s,get s env'=get s env)->D9 P l env Z->D9 P l env' Z
 | [],_,_=>trivial
 | _::_,h,hr=>⟨OW (fun s _=>h s) hr.1,Mq h hr.2⟩
section
variable {K:Env->AE->Prop} {kp:V->AE->Prop}
def KC (U: ∀env env' Z,lG env env'->K env Z->K env' Z): ∀ {l:List Cg} {env env':Env} {Z:AE},lG env env'->DO P l K kp env Z->DO P l K kp env' Z
 | [],_,_,_,hg,h=>U _ _ _ hg h
 | d::r,env,env',Z,hg,h=>by
   simp only[DO]at *;rw[GI (env:=env) fun s _=>(hg s).symm];exact CC h (fun v Z' ⟨h1,h2⟩=>⟨Mq (fun s=>(hg.put s).symm) h1,KC U hg.put h2⟩) fun _ _ h=>h
def qB (x y:Ao):Prop:=(∀d,x.dst=some d->d∉looks y/\y.dst≠some d)/\ ∀d,y.dst=some d->d∉looks x
def fresh (y x:Ao):Prop:= ∀d,y.dst=some d->d∉AG x
def zt (x y:Cg):Prop:=x.re= []/\qB x.o y.o/\
 ((still x.o.op=true/\calm y.o.op=true)\/kd x.o.op= .P\/(still x.o.op=true/\x.o∈y.re/\ ∀d,x.o.dst=some d->d∉looks x.o)\/(ZH x.o.op=true/\y.re= []/\y.o.guard=none/\ ∃z,y.o.op= .alloc z))
def iA (hU: ∀v Z m z,Z m=none->kp v Z->kp v (BV Z m z)) (U: ∀env env' Z,lG env env'->K env Z->K env' Z) {i:Cg} {ys:List Cg}: ∀ {xs:List Cg},(∀x∈xs,zt x i)->xs.Pairwise (fun x y=>kd x.o.op= .N->fresh y.o x.o)->
    ∀ {env:Env} {Z:AE},DO P (xs++i::ys) K kp env Z->
    H4 P i.o env Z (fun u Z'=>(∀r∈i.re,(∀x∈xs,fresh x.o r)->Hc P r (put i.o.dst u env) Z')/\DO P (xs++ys) K kp (put i.o.dst u env) Z') kp
 | [],_,_,env,Z,h=>CC h (fun u Z' ⟨h1,h2⟩=>⟨fun r hr _=>h1.mem r hr,h2⟩) fun _ _ h=>h
 | x ::xs,hok,hpw,env,Z,h=>by
   simp only[List.cons_append,DO]at h;obtain⟨hpw1,hpw2⟩:=List.pairwise_cons.1 hpw;obtain⟨hre,⟨ha1,ha2⟩,hk⟩:=hok x (.head _)
   have h':H4 P x.o env Z (fun v Z1=>H4 P i.o (put x.o.dst v env) Z1 (fun u Z'=>(∀r∈i.re,(∀x∈xs,fresh x.o r)->Hc P r (put i.o.dst u (put x.o.dst v env)) Z')/\DO P (xs++ys) K kp (put i.o.dst u (put x.o.dst v env)) Z') kp) kp:=
    CC h (fun v Z1 hh=>iA hU U (fun y hy=>hok y (.tail _ hy)) hpw2 hh.2) fun _ _ h=>h
   have agx: ∀v,∀s∈looks i.o,get s (put x.o.dst v env)=get s env:=fun v s hs=>CS fun e=>(ha1 s e).1 hs
   have agi: ∀(env:Env) u,∀s∈looks x.o,get s (put i.o.dst u env)=get s env:=fun env u s hs=>CS fun e=>ha2 s e hs
   have hcm: ∀v u,lG (put i.o.dst u (put x.o.dst v env)) (put x.o.dst v (put i.o.dst u env)):=fun v u=>jq fun s hs hx=>(ha1 s hx).2 hs
   have hRE: ∀v u Z',(∀r∈i.re,(∀x∈xs,fresh x.o r)->Hc P r (put i.o.dst u (put x.o.dst v env)) Z')-> ∀r∈i.re,(∀y∈x::xs,fresh y.o r)->Hc P r (put i.o.dst u env) Z':=fun v u Z' hh r hr hf=>by
    refine OW (fun s hs=>?_) (hh r hr fun y hy=>hf y (.tail _ hy));rw[hcm v u s,CS fun e=>hf x (.head _) s e hs]
   by_cases hst:still x.o.op=true
   .obtain⟨v,hi,hd⟩:=TG hst h'
    have fin: ∀u Z',(kd x.o.op= .P\/Sub Z Z')->(∀r∈i.re,(∀x∈xs,fresh x.o r)->Hc P r (put i.o.dst u (put x.o.dst v env)) Z')->DO P (xs++ys) K kp (put i.o.dst u (put x.o.dst v env)) Z'->
     (∀r∈i.re,(∀y∈x::xs,fresh y.o r)->Hc P r (put i.o.dst u env) Z')/\DO P (x::xs++ys) K kp (put i.o.dst u env) Z':=fun u Z' hs h1 h2=>by
     refine⟨hRE v u Z' h1,?_⟩;simp only[List.cons_append,DO];rw[GI (env:=env) (agi env u)];exact hd Z' _ _ hs ⟨by rw[hre];trivial,KC U (hcm v u) h2⟩
    rw[GI (env:=env) (agx v)]at hi;rcases hk with⟨_,hc⟩|hP|⟨_,hm,hself⟩|⟨_,_,hg,z,hz⟩
    .exact CC (bK hc hi) (fun u Z' ⟨⟨h1,h2⟩,hs⟩=>fin u Z' (.inr hs) h1 h2) fun _ _ h=>h
    .exact CC hi (fun u Z' ⟨h1,h2⟩=>fin u Z' (.inl hP) h1 h2) fun _ _ h=>h
    .by_cases hP:kd x.o.op= .P
     .exact CC hi (fun u Z' ⟨h1,h2⟩=>fin u Z' (.inl hP) h1 h2) fun _ _ h=>h
     have hN:kd x.o.op= .N:=by
      unfold still at hst;cases hkk:kd x.o.op<;>rw[hkk]at hst<;>simp_all
     refine CC hi (fun u Z' ⟨h1,h2⟩=>⟨hRE v u Z' h1,?_⟩) fun _ _ h=>h
     have hr:=h1 x.o hm fun y hy=>hpw1 y hy hN
     unfold Hc at hr;obtain⟨v',hv',hd'⟩:=TG hst hr;simp only[List.cons_append,DO]
     have hsame: ∀s∈looks x.o,get s (put i.o.dst u env)=get s (put i.o.dst u (put x.o.dst v env)):=fun s hs=>by
      rw[agi env u s hs,agi _ u s hs];by_cases hxs:x.o.dst=some s
      .exact absurd hs (hself s hxs)
      .rw[CS hxs]
     rw[GI (env:=put i.o.dst u (put x.o.dst v env)) hsame];refine hd' Z' _ kp (.inr fun _ _ h=>h) ⟨by rw[hre];trivial,?_⟩
     have hvv:put x.o.dst v' (put i.o.dst u env)=put x.o.dst v (put i.o.dst u env):=by
      cases hxd:x.o.dst with
      | none=>rfl
      | some s=>
        have e:=hv' s hxd;rw[CS (ha1 s hxd).2,hxd,EW]at e;cases e;rfl
     rw[hvv];exact KC U (hcm v u) h2
    .have hc:calm i.o.op=true:=by rw[hz];rfl
     exact CC (bK hc hi) (fun u Z' ⟨⟨h1,h2⟩,hs⟩=>fin u Z' (.inr hs) h1 h2) fun _ _ h=>h
   .rcases hk with⟨hst',_⟩|hP|⟨hst',_,_⟩|⟨hcx,hir,hg,z,hz⟩
    .exact absurd hst' hst
    .exact absurd (by unfold still;rw[hP]) hst
    .exact absurd hst' hst
    .unfold H4
     rw[hg];simp only[hz,Fb];intro m hm;refine⟨fun r hr=>(by rw[hir]at hr;exact absurd hr (by simp)),?_⟩;simp only[List.cons_append,DO];rw[GI (env:=env) (agi env _)];refine CC (eF hcx hU h' (z:= .cs z) hm) (fun v Z2 ⟨Z1,hh,h1,h2⟩=>?_) fun _ _ h=>h
     unfold H4 at hh;rw[hg]at hh;simp only[hz,Fb]at hh;subst h2;exact⟨by rw[hre];trivial,KC U (hcm v _) (hh m h1).2⟩
end
end Go.Gl
namespace Go.Gl
def DN.refl (Z Z':AE): ∀vs,DN Z Z' vs vs
 | []=> .nil
 | _::vs=> .cons (.refl _) (DN.refl Z Z' vs)
def EB.refl (Z Z':AE): ∀vs,EB Z Z' vs vs
 | []=> .nil
 | _::vs=> .cons (DN.refl Z Z' _) (EB.refl Z Z' vs)
def DN.length {Z Z':AE}: ∀ {vs vs':List V},DN Z Z' vs vs'->vs'.length=vs.length
 | _,_,.nil=>rfl
 | _,_,.cons _ h=>by simp[h.length]
def EB.length {Z Z':AE}: ∀ {vs vs':List (List V)},EB Z Z' vs vs'->vs'.length=vs.length
 | _,_,.nil=>rfl
 | _,_,.cons _ h=>by simp[h.length]
def FD.u8 {Z Z':AE} {v v':V} (h:FD Z Z' v v') (hv:zE v=true):zE v'=true:=by
 cases h<;>first|exact hv|rfl|(simp[zE]at hv)
def DN.u8 {Z Z':AE}: ∀ {vs vs':List V},DN Z Z' vs vs'->k8 vs=true->k8 vs'=true
 | _,_,.nil,h=>h
 | _,_,.cons h1 .nil,h=>h1.u8 h
 | _,_,.cons _ (.cons _ _),h=>by simp[k8]at h
def EB.u8 {Z Z':AE}: ∀ {es es':List (List V)},EB Z Z' es es'->es.all k8=true->es'.all k8=true
 | _,_,.nil,h=>h
 | _,_,.cons h1 h2,h=>by
   rw[KK,BD]at h ⊢;exact⟨h1.u8 h.1,h2.u8 h.2⟩
def EB.JI {Z Z':AE} {es es':List (List V)} (h:EB Z Z' es es'):JI es<=JI es':=by
 unfold Gl.JI;split
 .rename_i he
  rw[if_pos (h.u8 he)];omega
 .split
  .unfold AX;omega
  .omega
variable {P:Program} {F:Nat->Prop}
def Me {Z Z':AE} {w:World} (hR:Rel F Z w) (n:Nat) {o:O} (hn:Z n=some o) (hn':Z' n=none) {c:Array Value} {e:TypeId} {fr:Nat×Nat} (hb:w.heap[n]? =some (.cells c e fr)) (i:Nat) (v:Value) (hv:c[i]? =some v):Hh F Z' w n i=some v:=by
 rw[OD (hR.own n _ hn).1 hn',DR hb];exact hv
mutual
def FD.HT {Z Z':AE} {w:World} (hR:Rel F Z w) (hs: ∀n,Z n=none->Z' n=none): ∀ {v v':V} {c:Value},FD Z Z' v v'->Aa (Hh F Z w) v c->Aa (Hh F Z' w) v' c
 | _,_,_,.refl v,h=>h.mono (E4 hs)
 | _,_,_,.arr (n:=n) (sz:=sz) hn hn' hl hr,h=>by
   obtain⟨rfl,h2⟩:=h;subst hl;obtain⟨c,e,h3,h4,h5,h6,h7⟩:=E2 hR hn;have hlen:=hr.length;refine⟨some ⟨n,0,none⟩,_,by rw[hlen],by rw[hlen];exact h2,by simp,Lx (by rw[hlen];exact h6),by simp,fun _=>⟨n,0,sz,rfl,?_⟩⟩;exact EB.HT hR hs (fun i v hv=>Me hR n hn hn' h3 i v hv) hr h7
 | _,_,_,.cs (n:=n) hn hn' hr,h=>by
   simp only[Aa]at h;subst h;obtain⟨c,e,h3,h4,h5⟩:=KA hR hn;exact⟨n,0,rfl,DN.HT hR hs (fun i v hv=>Me hR n hn hn' h3 i v hv) hr h5⟩
 | _,_,_,.a hr,h=>by
   obtain⟨c',rfl,h2,h3⟩:=h;exact⟨c',rfl,by rw[hr.length];exact h2,DN.HT hR hs (fun _ _ e=>e) hr h3⟩
 | _,_,_,.t hr,h=>by
   obtain⟨c',rfl,h2,h3⟩:=h;exact⟨c',rfl,by rw[hr.length];exact h2,DN.HT hR hs (fun _ _ e=>e) hr h3⟩
 | _,_,_,.E9 hr,h=>by
   obtain⟨c',rfl,h2⟩:=h;exact⟨c',rfl,FD.HT hR hs hr h2⟩
 | _,_,_,.l hf hr,h=>by
   obtain⟨a,cap,rfl,h2,h3,h4,h5,h6⟩:=h;have hl:=hr.length;refine⟨a,cap,by rw[hl],by rw[hl];exact h2,fun e=>by rw[hl];exact h3 (hf e),by rw[hl];exact Nat.le_trans h4 hr.JI,h5,fun hne=>?_⟩;obtain⟨b,o,sz,h7,h8⟩:=h6 (by intro e;subst e;cases hr;exact hne rfl);exact⟨b,o,sz,h7,EB.HT hR hs (fun i v hv=>E4 hs b i v hv) hr h8⟩
 | _,_,_,.rp hr,h=>by
   obtain⟨b,o,rfl,h2⟩:=h;exact⟨b,o,rfl,DN.HT hR hs (fun i v hv=>E4 hs b i v hv) hr h2⟩
 | _,_,_,.f h1 h2,h=>by
   obtain⟨f',c',rfl,h3,h4,h5,h6⟩:=h;exact⟨f',c',rfl,by rw[h1.length];exact h3,DN.HT hR hs (fun _ _ e=>e) h1 h4,by rw[h2.length];exact h5,DN.HT hR hs (fun _ _ e=>e) h2 h6⟩
 | _,_,_,.any,_=>trivial
def DN.HT {Z Z':AE} {w:World} (hR:Rel F Z w) (hs: ∀n,Z n=none->Z' n=none) {g g':Nat->Option Value} (hg: ∀i c,g i=some c->g' i=some c): ∀ {vs vs':List V} {o:Nat},DN Z Z' vs vs'->BS (Hh F Z w) g o vs->BS (Hh F Z' w) g' o vs'
 | _,_,_,.nil,_=>trivial
 | _,_,_,.cons h1 h2,⟨⟨c,hc,hv⟩,h3⟩=>⟨⟨c,hg _ _ hc,FD.HT hR hs h1 hv⟩,DN.HT hR hs hg h2 h3⟩
def EB.HT {Z Z':AE} {w:World} (hR:Rel F Z w) (hs: ∀n,Z n=none->Z' n=none) {g g':Nat->Option Value} (hg: ∀i c,g i=some c->g' i=some c) {sz:Nat}: ∀ {vs vs':List (List V)} {o:Nat},EB Z Z' vs vs'->BH (Hh F Z w) g sz o vs->BH (Hh F Z' w) g' sz o vs'
 | _,_,_,.nil,_=>trivial
 | _,_,_,.cons h1 h2,⟨hl,hv,h3⟩=>⟨by rw[h1.length];exact hl,DN.HT hR hs hg h1 hv,EB.HT hR hs hg h2 h3⟩
end
def FD.rel {Z Z':AE} {w:World} (hR:Rel F Z w) (hs:Sub Z' Z) {v v':V} {c:Value} (h:FD Z Z' v v') (hv:Aa (Hh F Z w) v c):Aa (Hh F Z' w) v' c:=FD.HT hR (fun _ hn=>hs.none hn) h hv
def DN.rel {Z Z':AE} {w:World} (hR:Rel F Z w) (hs:Sub Z' Z) {g g':Nat->Option Value} (hg: ∀i c,g i=some c->g' i=some c) {vs vs':List V} {o:Nat} (h:DN Z Z' vs vs') (hv:BS (Hh F Z w) g o vs):BS (Hh F Z' w) g' o vs':=DN.HT hR (fun _ hn=>hs.none hn) hg h hv
def EB.rel {Z Z':AE} {w:World} (hR:Rel F Z w) (hs:Sub Z' Z) {g g':Nat->Option Value} (hg: ∀i c,g i=some c->g' i=some c) {sz:Nat} {vs vs':List (List V)} {o:Nat} (h:EB Z Z' vs vs') (hv:BH (Hh F Z w) g sz o vs):BH (Hh F Z' w) g' sz o vs':=EB.HT hR (fun _ hn=>hs.none hn) hg h hv
structure qK (Z Z2:AE):Prop where
 h: ∀n o2,Z2 n=some o2->Z n=some o2\/ ∃vs vs2,Z n=some (.cs vs)/\o2= .cs vs2/\DN Z Z2 vs vs2
def qK.none {Z Z2:AE} (h:qK Z Z2) {n:Nat} (hn:Z n=none):Z2 n=none:=by
 cases h':Z2 n with
 | none=>rfl
 | some o2=>
   rcases h.h n o2 h' with h1|⟨vs,vs2,h1,-⟩
   .rw[hn]at h1;cases h1
   .rw[hn]at h1;cases h1
def Rel.fz {Z Z2:AE} {w:World} (hR:Rel F Z w) (h:qK Z Z2):Rel F Z2 w where
 own n o2 ho:=by
  rcases h.h n o2 ho with h1|⟨vs,vs2,h1,rfl,hf⟩
  .obtain⟨q1,ob,q2,q3⟩:=hR.own n o2 h1
   exact⟨q1,ob,q2,PJ.mono (E4 fun n hn=>h.none hn) q3⟩
  .obtain⟨q1,ob,q2,c,e,q3,q4,q5⟩:=hR.own n _ h1
   exact⟨q1,ob,q2,c,e,q3,by rw[hf.length];exact q4,hf.HT hR (fun _ hn=>h.none hn) (fun _ _ e=>e) q5⟩
 lock:=hR.lock
def Bw.fz {Z Z2:AE} (w:World) (h:qK Z Z2):Bw F Z w Z2 w:=
 ⟨fun _ _ _=>rfl,I3 _,rfl,rfl,rfl,fun _ hn _=>h.none hn⟩
def Yf {Z:AE} {sz b:Nat} {x y:Bi} {env:Env} {k kp:V->AE->Prop} (h:Fb P (.Ra sz b x y) env Z k kp) :
    Fb P (.append sz b x y) env Z (fun v Z1=> ∃vf Z2,Sub Z2 Z1/\FD Z1 Z2 v vf/\k vf Z2) kp:=by
 simp only[Fb]at *;refine Bn h fun vx h=>Bn h fun vy h=>?_
 unfold Ae at h;unfold AI;refine Eh h fun ys ⟨h1,h2⟩=>⟨h1,?_⟩
 cases vx<;>first|exact h2.elim|skip
 rename_i es full;simp only at *;obtain⟨h3,h4,h5,h6⟩:=h2;refine⟨h3,h4,fun e=>?_,fun e=>⟨h5 e,fun n cap hn hc=>?_⟩⟩
 .subst e
  rw[I4]at h6;exact⟨_,Z,fun _ _ h=>h,.l (fun h=>(by cases h)) (.refl _ _ _),h6⟩
 .exact⟨_,Z,Gv hn,.arr (M9) hn (by simp) (.refl _ _ _),h6⟩
def nt {Z:AE} {x:Bi} {env:Env} {k kp:V->AE->Prop} (h:Fb P (.M6 x) env Z k kp) :
    Fb P (.box x) env Z (fun v Z1=> ∃vf Z2,Sub Z2 Z1/\FD Z1 Z2 v vf/\k vf Z2) kp:=by
 simp only[Fb]at *;refine Bn h fun vx h=>?_
 split at h
 .exact fun n hn=>⟨_,Z,Gv hn,.cs M9 hn (.refl _ _ _),h⟩
 .exact h.elim
end Go.Gl
