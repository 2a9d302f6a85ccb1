import Derived.Test.YtnidfcmdimehdaaGreatW7
set_option linter.all false
set_option linter.defProp false
set_option maxHeartbeats 8000000
noncomputable section
namespace Go.Gl
variable {P:Program} {F:Nat->Prop} {env env':Env} {Z:AE}
structure CS where
 i:Nat
 o:Am
 pY:List Nat
 re:List Am
 deriving Inhabited
def AF (x:Am):List Nat:=(match x.dst with|some d=>[d]|none=>[])++looks x
def G8 (P:Program) (x:Am) (env:Env) (Z:AE):Prop:=Hf P x env Z (fun u _=> ∀s,x.dst=some s->get s env=some u) (fun _ _=>False)
def Dl (P:Program):List Am->Env->AE->Prop
 | [],_,_=>True
 | x::r,env,Z=>G8 P x env Z/\Dl P r env Z
def Dl.mem: ∀ {l:List Am},Dl P l env Z-> ∀x∈l,G8 P x env Z
 | _::_,h,_,.head _=>h.1
 | _::_,h,x,.tail _ hx=>Dl.mem h.2 x hx
def DA (P:Program):List CS->(Env->AE->Prop)->(V->AE->Prop)->Env->AE->Prop
 | [],K,_,env,Z=>K env Z
 | d::r,K,kp,env,Z=>Hf P d.o env Z (fun v Z'=>Dl P d.re (put d.o.dst v env) Z'/\DA P r K kp (put d.o.dst v env) Z') kp
def kH (env env':Env):Prop:= ∀s,get s env=get s env'
def CL {s:Nat} {d:Option Nat} {v:V} (h:d≠some s):get s (put d v env)=get s env:=by
 cases d with
 | none=>rfl
 | some d=>
   simp only[put,get];cases hb:Nat.beq d s with
   | false=>rfl
   | true=>exact absurd (by rw[UJ hb]) h
def D9 {s:Nat} {v:V}:get s (put (some s) v env)=some v:=by simp[put,get]
def kH.put {d:Option Nat} {v:V} (h:kH env env'):kH (Gl.put d v env) (Gl.put d v env'):=fun s=>by
 by_cases hd:d=some s
 .subst hd
  rw[D9,D9]
 .rw[CL hd,CL hd,h]
def jR {d e:Option Nat} {v u:V} (h: ∀s,d=some s->e≠some s):kH (Gl.put d v (Gl.put e u env)) (Gl.put e u (Gl.put d v env)):=fun s=>by
 by_cases hd:d=some s
 .subst hd
  rw[D9,CL (h s rfl),D9]
 .rw[CL hd]
  by_cases he:e=some s
  .subst he
   rw[D9,D9]
  .rw[CL he,CL he,CL hd]
def No {x:Am} (h: ∀s∈AF x,get s env'=get s env) (hr:G8 P x env Z):G8 P x env' Z:=by
 unfold G8 at *;rw[Fo (env:=env) fun s hs=>h s (MH _ hs)];refine B5 hr (fun v Z' hv s hs=>?_) fun _ _ h=>h
 rw[h s (NL _ (by rw[hs];simp))];exact hv s hs
def MD: ∀ {l:List Am},(∀s,get s env'=get s env)->Dl P l env Z->Dl P l env' Z
 | [],_,_=>trivial
 | _::_,h,hr=>⟨No (fun s _=>h s) hr.1,MD h hr.2⟩
section
variable {K:Env->AE->Prop} {kp:V->AE->Prop}
def Jc (U: ∀env env' Z,kH env env'->K env Z->K env' Z): ∀ {l:List CS} {env env':Env} {Z:AE},kH env env'->DA P l K kp env Z->DA P l K kp env' Z
 | [],_,_,_,hg,h=>U _ _ _ hg h
 | d::r,env,env',Z,hg,h=>by
   simp only[DA]at *;rw[Fo (env:=env) fun s _=>(hg s).symm];exact B5 h (fun v Z' ⟨h1,h2⟩=>⟨MD (fun s=>(hg.put s).symm) h1,Jc U hg.put h2⟩) fun _ _ h=>h
def pT (x y:Am):Prop:=(∀d,x.dst=some d->d∉looks y/\y.dst≠some d)/\ ∀d,y.dst=some d->d∉looks x
def fresh (y x:Am):Prop:= ∀d,y.dst=some d->d∉AF x
def yC (x y:CS):Prop:=x.re= []/\pT x.o y.o/\
 ((still x.o.op=true/\calm y.o.op=true)\/kd x.o.op= .P\/(still x.o.op=true/\x.o∈y.re/\ ∀d,x.o.dst=some d->d∉looks x.o)\/(Yq x.o.op=true/\y.re= []/\y.o.guard=none/\ ∃z,y.o.op= .alloc z))
def gJ (hU: ∀v Z m z,Z m=none->kp v Z->kp v (Bo Z m z)) (U: ∀env env' Z,kH env env'->K env Z->K env' Z) {i:CS} {ys:List CS}: ∀ {xs:List CS},(∀x∈xs,yC x i)->xs.Pairwise (fun x y=>kd x.o.op= .N->fresh y.o x.o)->
    ∀ {env:Env} {Z:AE},DA P (xs++i::ys) K kp env Z->
    Hf P i.o env Z (fun u Z'=>(∀r∈i.re,(∀x∈xs,fresh x.o r)->G8 P r (put i.o.dst u env) Z')/\DA P (xs++ys) K kp (put i.o.dst u env) Z') kp
 | [],_,_,env,Z,h=>B5 h (fun u Z' ⟨h1,h2⟩=>⟨fun r hr _=>h1.mem r hr,h2⟩) fun _ _ h=>h
 | x ::xs,hok,hpw,env,Z,h=>by
   simp only[List.cons_append,DA]at h;obtain⟨hpw1,hpw2⟩:=List.pairwise_cons.1 hpw;obtain⟨hre,⟨ha1,ha2⟩,hk⟩:=hok x (.head _)
   have h':Hf P x.o env Z (fun v Z1=>Hf P i.o (put x.o.dst v env) Z1 (fun u Z'=>(∀r∈i.re,(∀x∈xs,fresh x.o r)->G8 P r (put i.o.dst u (put x.o.dst v env)) Z')/\DA P (xs++ys) K kp (put i.o.dst u (put x.o.dst v env)) Z') kp) kp:=
    B5 h (fun v Z1 hh=>gJ hU U (fun y hy=>hok y (.tail _ hy)) hpw2 hh.2) fun _ _ h=>h
   have agx: ∀v,∀s∈looks i.o,get s (put x.o.dst v env)=get s env:=fun v s hs=>CL fun e=>(ha1 s e).1 hs
   have agi: ∀(env:Env) u,∀s∈looks x.o,get s (put i.o.dst u env)=get s env:=fun env u s hs=>CL fun e=>ha2 s e hs
   have hcm: ∀v u,kH (put i.o.dst u (put x.o.dst v env)) (put x.o.dst v (put i.o.dst u env)):=fun v u=>jR fun s hs hx=>(ha1 s hx).2 hs
   have hRE: ∀v u Z',(∀r∈i.re,(∀x∈xs,fresh x.o r)->G8 P r (put i.o.dst u (put x.o.dst v env)) Z')-> ∀r∈i.re,(∀y∈x::xs,fresh y.o r)->G8 P r (put i.o.dst u env) Z':=fun v u Z' hh r hr hf=>by
    refine No (fun s hs=>?_) (hh r hr fun y hy=>hf y (.tail _ hy));rw[hcm v u s,CL fun e=>hf x (.head _) s e hs]
   by_cases hst:still x.o.op=true
   .obtain⟨v,hi,hd⟩:=Sf hst h'
    have fin: ∀u Z',(kd x.o.op= .P\/Sub Z Z')->(∀r∈i.re,(∀x∈xs,fresh x.o r)->G8 P r (put i.o.dst u (put x.o.dst v env)) Z')->DA P (xs++ys) K kp (put i.o.dst u (put x.o.dst v env)) Z'->
     (∀r∈i.re,(∀y∈x::xs,fresh y.o r)->G8 P r (put i.o.dst u env) Z')/\DA P (x::xs++ys) K kp (put i.o.dst u env) Z':=fun u Z' hs h1 h2=>by
     refine⟨hRE v u Z' h1,?_⟩;simp only[List.cons_append,DA];rw[Fo (env:=env) (agi env u)];exact hd Z' _ _ hs ⟨by rw[hre];trivial,Jc U (hcm v u) h2⟩
    rw[Fo (env:=env) (agx v)]at hi;rcases hk with⟨_,hc⟩|hP|⟨_,hm,hself⟩|⟨_,_,hg,z,hz⟩
    .exact B5 (aD hc hi) (fun u Z' ⟨⟨h1,h2⟩,hs⟩=>fin u Z' (.inr hs) h1 h2) fun _ _ h=>h
    .exact B5 hi (fun u Z' ⟨h1,h2⟩=>fin u Z' (.inl hP) h1 h2) fun _ _ h=>h
    .by_cases hP:kd x.o.op= .P
     .exact B5 hi (fun u Z' ⟨h1,h2⟩=>fin u Z' (.inl hP) h1 h2) fun _ _ h=>h
     have hN:kd x.o.op= .N:=by
      unfold still at hst;cases hkk:kd x.o.op<;>rw[hkk]at hst<;>simp_all
     refine B5 hi (fun u Z' ⟨h1,h2⟩=>⟨hRE v u Z' h1,?_⟩) fun _ _ h=>h
     have hr:=h1 x.o hm fun y hy=>hpw1 y hy hN
     unfold G8 at hr;obtain⟨v',hv',hd'⟩:=Sf hst hr;simp only[List.cons_append,DA]
     have hsame: ∀s∈looks x.o,get s (put i.o.dst u env)=get s (put i.o.dst u (put x.o.dst v env)):=fun s hs=>by
      rw[agi env u s hs,agi _ u s hs];by_cases hxs:x.o.dst=some s
      .exact absurd hs (hself s hxs)
      .rw[CL hxs]
     rw[Fo (env:=put i.o.dst u (put x.o.dst v env)) hsame];refine hd' Z' _ kp (.inr fun _ _ h=>h) ⟨by rw[hre];trivial,?_⟩
     have hvv:put x.o.dst v' (put i.o.dst u env)=put x.o.dst v (put i.o.dst u env):=by
      cases hxd:x.o.dst with
      | none=>rfl
      | some s=>
        have e:=hv' s hxd;rw[CL (ha1 s hxd).2,hxd,D9]at e;cases e;rfl
     rw[hvv];exact Jc U (hcm v u) h2
    .have hc:calm i.o.op=true:=by rw[hz];rfl
     exact B5 (aD hc hi) (fun u Z' ⟨⟨h1,h2⟩,hs⟩=>fin u Z' (.inr hs) h1 h2) fun _ _ h=>h
   .rcases hk with⟨hst',_⟩|hP|⟨hst',_,_⟩|⟨hcx,hir,hg,z,hz⟩
    .exact absurd hst' hst
    .exact absurd (by unfold still;rw[hP]) hst
    .exact absurd hst' hst
    .unfold Hf
     rw[hg];simp only[hz,Ez];intro m hm;refine⟨fun r hr=>(by rw[hir]at hr;exact absurd hr (by simp)),?_⟩;simp only[List.cons_append,DA];rw[Fo (env:=env) (agi env _)];refine B5 (c7 hcx hU h' (z:= .cs z) hm) (fun v Z2 ⟨Z1,hh,h1,h2⟩=>?_) fun _ _ h=>h
     unfold Hf at hh;rw[hg]at hh;simp only[hz,Ez]at hh;subst h2;exact⟨by rw[hre];trivial,Jc U (hcm v _) (hh m h1).2⟩
end
end Go.Gl
namespace Go.Gl
def Cz.refl (Z Z':AE): ∀vs,Cz Z Z' vs vs
 | []=> .nil
 | _::vs=> .cons (.refl _) (Cz.refl Z Z' vs)
def FA.refl (Z Z':AE): ∀vs,FA Z Z' vs vs
 | []=> .nil
 | _::vs=> .cons (Cz.refl Z Z' _) (FA.refl Z Z' vs)
def Cz.length {Z Z':AE}: ∀ {vs vs':List V},Cz Z Z' vs vs'->vs'.length=vs.length
 | _,_,.nil=>rfl
 | _,_,.cons _ h=>by simp[h.length]
def FA.length {Z Z':AE}: ∀ {vs vs':List (List V)},FA Z Z' vs vs'->vs'.length=vs.length
 | _,_,.nil=>rfl
 | _,_,.cons _ h=>by simp[h.length]
variable {P:Program} {F:Nat->Prop}
def L3 {Z Z':AE} {w:World} (hR:Rel F Z w) (n:Nat) {o:O} (hn:Z n=some o) (hn':Z' n=none) {c:Array Value} {e:TypeId} {fr:Nat×Nat} (hb:w.heap[n]? =some (.cells c e fr)) (i:Nat) (v:Value) (hv:c[i]? =some v):Hh F Z' w n i=some v:=by
 rw[NW (hR.own n _ hn).1 hn',DE hb];exact hv
mutual
def FZ.Gt {Z Z':AE} {w:World} (hR:Rel F Z w) (hs: ∀n,Z n=none->Z' n=none): ∀ {v v':V} {c:Value},FZ Z Z' v v'->Ac (Hh F Z w) v c->Ac (Hh F Z' w) v' c
 | _,_,_,.refl v,h=>h.mono (EX hs)
 | _,_,_,.arr (n:=n) (sz:=sz) hn hn' hl hr,h=>by
   obtain⟨rfl,h2⟩:=h;subst hl;obtain⟨c,e,h3,h4,h5,h6,h7⟩:=EV hR hn;have hlen:=hr.length;refine⟨some ⟨n,0,none⟩,_,by rw[hlen],by rw[hlen];exact h2,by simp,by rw[hlen];exact h6,by simp,fun _=>⟨n,0,sz,rfl,?_⟩⟩;exact FA.Gt hR hs (fun i v hv=>L3 hR n hn hn' h3 i v hv) hr h7
 | _,_,_,.cs (n:=n) hn hn' hr,h=>by
   simp only[Ac]at h;subst h;obtain⟨c,e,h3,h4,h5⟩:=JY hR hn;exact⟨n,0,rfl,Cz.Gt hR hs (fun i v hv=>L3 hR n hn hn' h3 i v hv) hr h5⟩
 | _,_,_,.a hr,h=>by
   obtain⟨c',rfl,h2,h3⟩:=h;exact⟨c',rfl,by rw[hr.length];exact h2,Cz.Gt hR hs (fun _ _ e=>e) hr h3⟩
 | _,_,_,.t hr,h=>by
   obtain⟨c',rfl,h2,h3⟩:=h;exact⟨c',rfl,by rw[hr.length];exact h2,Cz.Gt hR hs (fun _ _ e=>e) hr h3⟩
 | _,_,_,.Ee hr,h=>by
   obtain⟨c',rfl,h2⟩:=h;exact⟨c',rfl,FZ.Gt hR hs hr h2⟩
 | _,_,_,.l hf hr,h=>by
   obtain⟨a,cap,rfl,h2,h3,h4,h5,h6⟩:=h;have hl:=hr.length;refine⟨a,cap,by rw[hl],by rw[hl];exact h2,fun e=>by rw[hl];exact h3 (hf e),by rw[hl];exact h4,h5,fun hne=>?_⟩;obtain⟨b,o,sz,h7,h8⟩:=h6 (by intro e;subst e;cases hr;exact hne rfl);exact⟨b,o,sz,h7,FA.Gt hR hs (fun i v hv=>EX hs b i v hv) hr h8⟩
 | _,_,_,.rp hr,h=>by
   obtain⟨b,o,rfl,h2⟩:=h;exact⟨b,o,rfl,Cz.Gt hR hs (fun i v hv=>EX hs b i v hv) hr h2⟩
 | _,_,_,.f h1 h2,h=>by
   obtain⟨f',c',rfl,h3,h4,h5,h6⟩:=h;exact⟨f',c',rfl,by rw[h1.length];exact h3,Cz.Gt hR hs (fun _ _ e=>e) h1 h4,by rw[h2.length];exact h5,Cz.Gt hR hs (fun _ _ e=>e) h2 h6⟩
 | _,_,_,.any,_=>trivial
def Cz.Gt {Z Z':AE} {w:World} (hR:Rel F Z w) (hs: ∀n,Z n=none->Z' n=none) {g g':Nat->Option Value} (hg: ∀i c,g i=some c->g' i=some c): ∀ {vs vs':List V} {o:Nat},Cz Z Z' vs vs'->BI (Hh F Z w) g o vs->BI (Hh F Z' w) g' o vs'
 | _,_,_,.nil,_=>trivial
 | _,_,_,.cons h1 h2,⟨⟨c,hc,hv⟩,h3⟩=>⟨⟨c,hg _ _ hc,FZ.Gt hR hs h1 hv⟩,Cz.Gt hR hs hg h2 h3⟩
def FA.Gt {Z Z':AE} {w:World} (hR:Rel F Z w) (hs: ∀n,Z n=none->Z' n=none) {g g':Nat->Option Value} (hg: ∀i c,g i=some c->g' i=some c) {sz:Nat}: ∀ {vs vs':List (List V)} {o:Nat},FA Z Z' vs vs'->A9 (Hh F Z w) g sz o vs->A9 (Hh F Z' w) g' sz o vs'
 | _,_,_,.nil,_=>trivial
 | _,_,_,.cons h1 h2,⟨hl,hv,h3⟩=>⟨by rw[h1.length];exact hl,Cz.Gt hR hs hg h1 hv,FA.Gt hR hs hg h2 h3⟩
end
def FZ.rel {Z Z':AE} {w:World} (hR:Rel F Z w) (hs:Sub Z' Z) {v v':V} {c:Value} (h:FZ Z Z' v v') (hv:Ac (Hh F Z w) v c):Ac (Hh F Z' w) v' c:=FZ.Gt hR (fun _ hn=>hs.none hn) h hv
def Cz.rel {Z Z':AE} {w:World} (hR:Rel F Z w) (hs:Sub Z' Z) {g g':Nat->Option Value} (hg: ∀i c,g i=some c->g' i=some c) {vs vs':List V} {o:Nat} (h:Cz Z Z' vs vs') (hv:BI (Hh F Z w) g o vs):BI (Hh F Z' w) g' o vs':=Cz.Gt hR (fun _ hn=>hs.none hn) hg h hv
def FA.rel {Z Z':AE} {w:World} (hR:Rel F Z w) (hs:Sub Z' Z) {g g':Nat->Option Value} (hg: ∀i c,g i=some c->g' i=some c) {sz:Nat} {vs vs':List (List V)} {o:Nat} (h:FA Z Z' vs vs') (hv:A9 (Hh F Z w) g sz o vs):A9 (Hh F Z' w) g' sz o vs':=FA.Gt hR (fun _ hn=>hs.none hn) hg h hv
structure u9 (Z Z2:AE):Prop where
 h: ∀n o2,Z2 n=some o2->Z n=some o2\/ ∃vs vs2,Z n=some (.cs vs)/\o2= .cs vs2/\Cz Z Z2 vs vs2
def u9.none {Z Z2:AE} (h:u9 Z Z2) {n:Nat} (hn:Z n=none):Z2 n=none:=by
 cases h':Z2 n with
 | none=>rfl
 | some o2=>
   rcases h.h n o2 h' with h1|⟨vs,vs2,h1,-⟩
   .rw[hn]at h1;cases h1
   .rw[hn]at h1;cases h1
def Rel.fz {Z Z2:AE} {w:World} (hR:Rel F Z w) (h:u9 Z Z2):Rel F Z2 w where
 own n o2 ho:=by
  rcases h.h n o2 ho with h1|⟨vs,vs2,h1,rfl,hf⟩
  .obtain⟨q1,ob,q2,q3⟩:=hR.own n o2 h1
   exact⟨q1,ob,q2,Oq.mono (EX fun n hn=>h.none hn) q3⟩
  .obtain⟨q1,ob,q2,c,e,q3,q4,q5⟩:=hR.own n _ h1
   exact⟨q1,ob,q2,c,e,q3,by rw[hf.length];exact q4,hf.Gt hR (fun _ hn=>h.none hn) (fun _ _ e=>e) q5⟩
 lock:=hR.lock
def Bw.fz {Z Z2:AE} (w:World) (h:u9 Z Z2):Bw F Z w Z2 w:=
 ⟨fun _ _ _=>rfl,IN _,rfl,rfl,rfl,fun _ hn _=>h.none hn⟩
def YP {Z:AE} {sz b:Nat} {x y:Bb} {env:Env} {k kp:V->AE->Prop} (h:Ez P (.Q3 sz b x y) env Z k kp) :
    Ez P (.append sz b x y) env Z (fun v Z1=> ∃vf Z2,Sub Z2 Z1/\FZ Z1 Z2 v vf/\k vf Z2) kp:=by
 simp only[Ez]at *;refine Be h fun vx h=>Be h fun vy h=>?_
 unfold AX at h;unfold AJ;refine FM h fun ys ⟨h1,h2⟩=>⟨h1,?_⟩
 cases vx<;>first|exact h2.elim|skip
 rename_i es full;simp only at *;obtain⟨h3,h4,h5,h6⟩:=h2;refine⟨h3,h4,fun e=>?_,fun e=>⟨h5 e,fun n cap hn hc=>?_⟩⟩
 .subst e
  rw[Fj]at h6;exact⟨_,Z,fun _ _ h=>h,.l (fun h=>(by cases h)) (.refl _ _ _),h6⟩
 .exact⟨_,Z,GL hn,.arr (MS) hn (by simp) (.refl _ _ _),h6⟩
def nD {Z:AE} {x:Bb} {env:Env} {k kp:V->AE->Prop} (h:Ez P (.N3 x) env Z k kp) :
    Ez P (.box x) env Z (fun v Z1=> ∃vf Z2,Sub Z2 Z1/\FZ Z1 Z2 v vf/\k vf Z2) kp:=by
 simp only[Ez]at *;refine Be h fun vx h=>?_
 split at h
 .exact fun n hn=>⟨_,Z,GL hn,.cs MS hn (.refl _ _ _),h⟩
 .exact h.elim
end Go.Gl
