import Derived.Test.YtinppljblkpedaaGreatU7
set_option linter.all false
set_option linter.defProp false
set_option maxHeartbeats 8000000
noncomputable section
namespace Go.Gl
variable {P:Program} {F:Nat->Prop} {env env':Env} {Z:AE}
structure DL where
 i:Nat
 o:BD
 rZ:List Nat
 re:List BD
 deriving Inhabited
def AI (x:BD):List Nat:=(match x.dst with|some d=>[d]|none=>[])++looks x
def IH (P:Program) (x:BD) (env:Env) (Z:AE):Prop:=JY P x env Z (fun u _=> ∀s,x.dst=some s->get s env=some u) (fun _ _=>False)
def Ej (P:Program):List BD->Env->AE->Prop
 | [],_,_=>True
 | x::r,env,Z=>IH P x env Z/\Ej P r env Z
def Ej.mem: ∀ {l:List BD},Ej P l env Z-> ∀x∈l,IH P x env Z
 | _::_,h,_,.head _=>h.1
 | _::_,h,x,.tail _ hx=>Ej.mem h.2 x hx
def EL (P:Program):List DL->(Env->AE->Prop)->(V->AE->Prop)->Env->AE->Prop
 | [],K,_,env,Z=>K env Z
 | d::r,K,kp,env,Z=>JY P d.o env Z (fun v Z'=>Ej P d.re (put d.o.dst v env) Z'/\EL P r K kp (put d.o.dst v env) Z') kp
def mg (env env':Env):Prop:= ∀s,get s env=get s env'
def CU {s:Nat} {d:Option Nat} {v:V} (h:d≠some s):get s (put d v env)=get s env:=by
 cases d with
 | none=>rfl
 | some d=>
   simp only[put,get];cases hb:Nat.beq d s with
   | false=>rfl
   | true=>exact absurd (by rw[Zc hb]) h
def Eo {s:Nat} {v:V}:get s (put (some s) v env)=some v:=by simp[put,get]
def mg.put {d:Option Nat} {v:V} (h:mg env env'):mg (Gl.put d v env) (Gl.put d v env'):=fun s=>by
 by_cases hd:d=some s
 .subst hd
  rw[Eo,Eo]
 .rw[CU hd,CU hd,h]
def la {d e:Option Nat} {v u:V} (h: ∀s,d=some s->e≠some s):mg (Gl.put d v (Gl.put e u env)) (Gl.put e u (Gl.put d v env)):=fun s=>by
 by_cases hd:d=some s
 .subst hd
  rw[Eo,CU (h s rfl),Eo]
 .rw[CU hd]
  by_cases he:e=some s
  .subst he
   rw[Eo,Eo]
  .rw[CU he,CU he,CU hd]
def Oo {x:BD} (h: ∀s∈AI x,get s env'=get s env) (hr:IH P x env Z):IH P x env' Z:=by
 unfold IH at *;rw[Gf (env:=env) fun s hs=>h s (NR _ hs)];refine CD hr (fun v Z' hv s hs=>?_) fun _ _ h=>h
 rw[h s (NS _ (by rw[hs];simp))];exact hv s hs
def NO: ∀ {l:List BD},(∀s,get s env'=get s env)->Ej P l env Z->Ej P l env' Z
 | [],_,_=>trivial
 | _::_,h,hr=>⟨Oo (fun s _=>h s) hr.1,NO h hr.2⟩
section
variable {K:Env->AE->Prop} {kp:V->AE->Prop}
def K3 (U: ∀env env' Z,mg env env'->K env Z->K env' Z): ∀ {l:List DL} {env env':Env} {Z:AE},mg env env'->EL P l K kp env Z->EL P l K kp env' Z
 | [],_,_,_,hg,h=>U _ _ _ hg h
 | d::r,env,env',Z,hg,h=>by
   simp only[EL]at *;rw[Gf (env:=env) fun s _=>(hg s).symm];exact CD h (fun v Z' ⟨h1,h2⟩=>⟨NO (fun s=>(hg.put s).symm) h1,K3 U hg.put h2⟩) fun _ _ h=>h
def rT (x y:BD):Prop:=(∀d,x.dst=some d->d∉looks y/\y.dst≠some d)/\ ∀d,y.dst=some d->d∉looks x
def fresh (y x:BD):Prop:= ∀d,y.dst=some d->d∉AI x
def okD (x y:DL):Prop:=x.re= []/\rT x.o y.o/\
 ((still x.o.op=true/\calm y.o.op=true)\/kd x.o.op= .P\/(still x.o.op=true/\x.o∈y.re/\ ∀d,x.o.dst=some d->d∉looks x.o)\/(Zj x.o.op=true/\y.re= []/\y.o.guard=none/\ ∃z,y.o.op= .alloc z))
def jN (hU: ∀v Z m z,Z m=none->kp v Z->kp v (BZ Z m z)) (U: ∀env env' Z,mg env env'->K env Z->K env' Z) {i:DL} {ys:List DL}: ∀ {xs:List DL},(∀x∈xs,okD x i)->xs.Pairwise (fun x y=>kd x.o.op= .N->fresh y.o x.o)->
    ∀ {env:Env} {Z:AE},EL P (xs++i::ys) K kp env Z->
    JY P i.o env Z (fun u Z'=>(∀r∈i.re,(∀x∈xs,fresh x.o r)->IH P r (put i.o.dst u env) Z')/\EL P (xs++ys) K kp (put i.o.dst u env) Z') kp
 | [],_,_,env,Z,h=>CD h (fun u Z' ⟨h1,h2⟩=>⟨fun r hr _=>h1.mem r hr,h2⟩) fun _ _ h=>h
 | x ::xs,hok,hpw,env,Z,h=>by
   simp only[List.cons_append,EL]at h;obtain⟨hpw1,hpw2⟩:=List.pairwise_cons.1 hpw;obtain⟨hre,⟨ha1,ha2⟩,hk⟩:=hok x (.head _)
   have h':JY P x.o env Z (fun v Z1=>JY P i.o (put x.o.dst v env) Z1 (fun u Z'=>(∀r∈i.re,(∀x∈xs,fresh x.o r)->IH P r (put i.o.dst u (put x.o.dst v env)) Z')/\EL P (xs++ys) K kp (put i.o.dst u (put x.o.dst v env)) Z') kp) kp:=
    CD h (fun v Z1 hh=>jN hU U (fun y hy=>hok y (.tail _ hy)) hpw2 hh.2) fun _ _ h=>h
   have agx: ∀v,∀s∈looks i.o,get s (put x.o.dst v env)=get s env:=fun v s hs=>CU fun e=>(ha1 s e).1 hs
   have agi: ∀(env:Env) u,∀s∈looks x.o,get s (put i.o.dst u env)=get s env:=fun env u s hs=>CU fun e=>ha2 s e hs
   have hcm: ∀v u,mg (put i.o.dst u (put x.o.dst v env)) (put x.o.dst v (put i.o.dst u env)):=fun v u=>la fun s hs hx=>(ha1 s hx).2 hs
   have hRE: ∀v u Z',(∀r∈i.re,(∀x∈xs,fresh x.o r)->IH P r (put i.o.dst u (put x.o.dst v env)) Z')-> ∀r∈i.re,(∀y∈x::xs,fresh y.o r)->IH P r (put i.o.dst u env) Z':=fun v u Z' hh r hr hf=>by
    refine Oo (fun s hs=>?_) (hh r hr fun y hy=>hf y (.tail _ hy));rw[hcm v u s,CU fun e=>hf x (.head _) s e hs]
   by_cases hst:still x.o.op=true
   .obtain⟨v,hi,hd⟩:=TX hst h'
    have fin: ∀u Z',(kd x.o.op= .P\/Sub Z Z')->(∀r∈i.re,(∀x∈xs,fresh x.o r)->IH P r (put i.o.dst u (put x.o.dst v env)) Z')->EL P (xs++ys) K kp (put i.o.dst u (put x.o.dst v env)) Z'->
     (∀r∈i.re,(∀y∈x::xs,fresh y.o r)->IH P r (put i.o.dst u env) Z')/\EL P (x::xs++ys) K kp (put i.o.dst u env) Z':=fun u Z' hs h1 h2=>by
     refine⟨hRE v u Z' h1,?_⟩;simp only[List.cons_append,EL];rw[Gf (env:=env) (agi env u)];exact hd Z' _ _ hs ⟨by rw[hre];trivial,K3 U (hcm v u) h2⟩
    rw[Gf (env:=env) (agx v)]at hi;rcases hk with⟨_,hc⟩|hP|⟨_,hm,hself⟩|⟨_,_,hg,z,hz⟩
    .exact CD (b7 hc hi) (fun u Z' ⟨⟨h1,h2⟩,hs⟩=>fin u Z' (.inr hs) h1 h2) fun _ _ h=>h
    .exact CD hi (fun u Z' ⟨h1,h2⟩=>fin u Z' (.inl hP) h1 h2) fun _ _ h=>h
    .by_cases hP:kd x.o.op= .P
     .exact CD hi (fun u Z' ⟨h1,h2⟩=>fin u Z' (.inl hP) h1 h2) fun _ _ h=>h
     have hN:kd x.o.op= .N:=by
      unfold still at hst;cases hkk:kd x.o.op<;>rw[hkk]at hst<;>simp_all
     refine CD hi (fun u Z' ⟨h1,h2⟩=>⟨hRE v u Z' h1,?_⟩) fun _ _ h=>h
     have hr:=h1 x.o hm fun y hy=>hpw1 y hy hN
     unfold IH at hr;obtain⟨v',hv',hd'⟩:=TX hst hr;simp only[List.cons_append,EL]
     have hsame: ∀s∈looks x.o,get s (put i.o.dst u env)=get s (put i.o.dst u (put x.o.dst v env)):=fun s hs=>by
      rw[agi env u s hs,agi _ u s hs];by_cases hxs:x.o.dst=some s
      .exact absurd hs (hself s hxs)
      .rw[CU hxs]
     rw[Gf (env:=put i.o.dst u (put x.o.dst v env)) hsame];refine hd' Z' _ kp (.inr fun _ _ h=>h) ⟨by rw[hre];trivial,?_⟩
     have hvv:put x.o.dst v' (put i.o.dst u env)=put x.o.dst v (put i.o.dst u env):=by
      cases hxd:x.o.dst with
      | none=>rfl
      | some s=>
        have e:=hv' s hxd;rw[CU (ha1 s hxd).2,hxd,Eo]at e;cases e;rfl
     rw[hvv];exact K3 U (hcm v u) h2
    .have hc:calm i.o.op=true:=by rw[hz];rfl
     exact CD (b7 hc hi) (fun u Z' ⟨⟨h1,h2⟩,hs⟩=>fin u Z' (.inr hs) h1 h2) fun _ _ h=>h
   .rcases hk with⟨hst',_⟩|hP|⟨hst',_,_⟩|⟨hcx,hir,hg,z,hz⟩
    .exact absurd hst' hst
    .exact absurd (by unfold still;rw[hP]) hst
    .exact absurd hst' hst
    .unfold JY
     rw[hg];simp only[hz,GC];intro m hm;refine⟨fun r hr=>(by rw[hir]at hr;exact absurd hr (by simp)),?_⟩;simp only[List.cons_append,EL];rw[Gf (env:=env) (agi env _)];refine CD (e8 hcx hU h' (z:= .cs z) hm) (fun v Z2 ⟨Z1,hh,h1,h2⟩=>?_) fun _ _ h=>h
     unfold JY at hh;rw[hg]at hh;simp only[hz,GC]at hh;subst h2;exact⟨by rw[hre];trivial,K3 U (hcm v _) (hh m h1).2⟩
end
end Go.Gl
namespace Go.Gl
def Ct.refl (Z Z':AE): ∀vs,Ct Z Z' vs vs
 | []=> .nil
 | _::vs=> .cons (.refl _) (Ct.refl Z Z' vs)
def Eg.refl (Z Z':AE): ∀vs,Eg Z Z' vs vs
 | []=> .nil
 | _::vs=> .cons (Ct.refl Z Z' _) (Eg.refl Z Z' vs)
def Ct.length {Z Z':AE}: ∀ {vs vs':List V},Ct Z Z' vs vs'->vs'.length=vs.length
 | _,_,.nil=>rfl
 | _,_,.cons _ h=>by simp[h.length]
def Eg.length {Z Z':AE}: ∀ {vs vs':List (List V)},Eg Z Z' vs vs'->vs'.length=vs.length
 | _,_,.nil=>rfl
 | _,_,.cons _ h=>by simp[h.length]
def FY.u8 {Z Z':AE} {v v':V} (h:FY Z Z' v v') (hv:u8V v=true):u8V v'=true:=by
 cases h<;>first|exact hv|rfl|(simp[u8V]at hv)
def Ct.u8 {Z Z':AE}: ∀ {vs vs':List V},Ct Z Z' vs vs'->mZ vs=true->mZ vs'=true
 | _,_,.nil,h=>h
 | _,_,.cons h1 .nil,h=>h1.u8 h
 | _,_,.cons _ (.cons _ _),h=>by simp[mZ]at h
def Eg.u8 {Z Z':AE}: ∀ {es es':List (List V)},Eg Z Z' es es'->es.all mZ=true->es'.all mZ=true
 | _,_,.nil,h=>h
 | _,_,.cons h1 h2,h=>by
   rw[Ri,A4]at h ⊢;exact⟨h1.u8 h.1,h2.u8 h.2⟩
def Eg.Jk {Z Z':AE} {es es':List (List V)} (h:Eg Z Z' es es'):Jk es<=Jk es':=by
 unfold Gl.Jk;split
 .rename_i he
  rw[if_pos (h.u8 he)];omega
 .split
  .unfold Ab;omega
  .omega
variable {P:Program} {F:Nat->Prop}
def NG {Z Z':AE} {w:World} (hR:Rel F Z w) (n:Nat) {o:O} (hn:Z n=some o) (hn':Z' n=none) {c:Array Value} {e:TypeId} {fr:Nat×Nat} (hb:w.heap[n]? =some (.cells c e fr)) (i:Nat) (v:Value) (hv:c[i]? =some v):Hh F Z' w n i=some v:=by
 rw[OW (hR.own n _ hn).1 hn',Db hb];exact hv
mutual
def FY.H6 {Z Z':AE} {w:World} (hR:Rel F Z w) (hs: ∀n,Z n=none->Z' n=none): ∀ {v v':V} {c:Value},FY Z Z' v v'->Ac (Hh F Z w) v c->Ac (Hh F Z' w) v' c
 | _,_,_,.refl v,h=>h.mono (FI hs)
 | _,_,_,.arr (n:=n) (sz:=sz) hn hn' hl hr,h=>by
   obtain⟨rfl,h2⟩:=h;subst hl;obtain⟨c,e,h3,h4,h5,h6,h7⟩:=FG hR hn;have hlen:=hr.length;refine⟨some ⟨n,0,none⟩,_,by rw[hlen],by rw[hlen];exact h2,by simp,Mb (by rw[hlen];exact h6),by simp,fun _=>⟨n,0,sz,rfl,?_⟩⟩;exact Eg.H6 hR hs (fun i v hv=>NG hR n hn hn' h3 i v hv) hr h7
 | _,_,_,.cs (n:=n) hn hn' hr,h=>by
   simp only[Ac]at h;subst h;obtain⟨c,e,h3,h4,h5⟩:=Ky hR hn;exact⟨n,0,rfl,Ct.H6 hR hs (fun i v hv=>NG hR n hn hn' h3 i v hv) hr h5⟩
 | _,_,_,.a hr,h=>by
   obtain⟨c',rfl,h2,h3⟩:=h;exact⟨c',rfl,by rw[hr.length];exact h2,Ct.H6 hR hs (fun _ _ e=>e) hr h3⟩
 | _,_,_,.t hr,h=>by
   obtain⟨c',rfl,h2,h3⟩:=h;exact⟨c',rfl,by rw[hr.length];exact h2,Ct.H6 hR hs (fun _ _ e=>e) hr h3⟩
 | _,_,_,.ME hr,h=>by
   obtain⟨c',rfl,h2⟩:=h;exact⟨c',rfl,FY.H6 hR hs hr h2⟩
 | _,_,_,.l hf hr,h=>by
   obtain⟨a,cap,rfl,h2,h3,h4,h5,h6⟩:=h;have hl:=hr.length;refine⟨a,cap,by rw[hl],by rw[hl];exact h2,fun e=>by rw[hl];exact h3 (hf e),by rw[hl];exact Nat.le_trans h4 hr.Jk,h5,fun hne=>?_⟩;obtain⟨b,o,sz,h7,h8⟩:=h6 (by intro e;subst e;cases hr;exact hne rfl);exact⟨b,o,sz,h7,Eg.H6 hR hs (fun i v hv=>FI hs b i v hv) hr h8⟩
 | _,_,_,.rp hr,h=>by
   obtain⟨b,o,rfl,h2⟩:=h;exact⟨b,o,rfl,Ct.H6 hR hs (fun i v hv=>FI hs b i v hv) hr h2⟩
 | _,_,_,.f h1 h2,h=>by
   obtain⟨f',c',rfl,h3,h4,h5,h6⟩:=h;exact⟨f',c',rfl,by rw[h1.length];exact h3,Ct.H6 hR hs (fun _ _ e=>e) h1 h4,by rw[h2.length];exact h5,Ct.H6 hR hs (fun _ _ e=>e) h2 h6⟩
 | _,_,_,.any,_=>trivial
def Ct.H6 {Z Z':AE} {w:World} (hR:Rel F Z w) (hs: ∀n,Z n=none->Z' n=none) {g g':Nat->Option Value} (hg: ∀i c,g i=some c->g' i=some c): ∀ {vs vs':List V} {o:Nat},Ct Z Z' vs vs'->BX (Hh F Z w) g o vs->BX (Hh F Z' w) g' o vs'
 | _,_,_,.nil,_=>trivial
 | _,_,_,.cons h1 h2,⟨⟨c,hc,hv⟩,h3⟩=>⟨⟨c,hg _ _ hc,FY.H6 hR hs h1 hv⟩,Ct.H6 hR hs hg h2 h3⟩
def Eg.H6 {Z Z':AE} {w:World} (hR:Rel F Z w) (hs: ∀n,Z n=none->Z' n=none) {g g':Nat->Option Value} (hg: ∀i c,g i=some c->g' i=some c) {sz:Nat}: ∀ {vs vs':List (List V)} {o:Nat},Eg Z Z' vs vs'->BJ (Hh F Z w) g sz o vs->BJ (Hh F Z' w) g' sz o vs'
 | _,_,_,.nil,_=>trivial
 | _,_,_,.cons h1 h2,⟨hl,hv,h3⟩=>⟨by rw[h1.length];exact hl,Ct.H6 hR hs hg h1 hv,Eg.H6 hR hs hg h2 h3⟩
end
def FY.rel {Z Z':AE} {w:World} (hR:Rel F Z w) (hs:Sub Z' Z) {v v':V} {c:Value} (h:FY Z Z' v v') (hv:Ac (Hh F Z w) v c):Ac (Hh F Z' w) v' c:=FY.H6 hR (fun _ hn=>hs.none hn) h hv
def Ct.rel {Z Z':AE} {w:World} (hR:Rel F Z w) (hs:Sub Z' Z) {g g':Nat->Option Value} (hg: ∀i c,g i=some c->g' i=some c) {vs vs':List V} {o:Nat} (h:Ct Z Z' vs vs') (hv:BX (Hh F Z w) g o vs):BX (Hh F Z' w) g' o vs':=Ct.H6 hR (fun _ hn=>hs.none hn) hg h hv
def Eg.rel {Z Z':AE} {w:World} (hR:Rel F Z w) (hs:Sub Z' Z) {g g':Nat->Option Value} (hg: ∀i c,g i=some c->g' i=some c) {sz:Nat} {vs vs':List (List V)} {o:Nat} (h:Eg Z Z' vs vs') (hv:BJ (Hh F Z w) g sz o vs):BJ (Hh F Z' w) g' sz o vs':=Eg.H6 hR (fun _ hn=>hs.none hn) hg h hv
structure rn (Z Z2:AE):Prop where
 h: ∀n o2,Z2 n=some o2->Z n=some o2\/ ∃vs vs2,Z n=some (.cs vs)/\o2= .cs vs2/\Ct Z Z2 vs vs2
def rn.none {Z Z2:AE} (h:rn Z Z2) {n:Nat} (hn:Z n=none):Z2 n=none:=by
 cases h':Z2 n with
 | none=>rfl
 | some o2=>
   rcases h.h n o2 h' with h1|⟨vs,vs2,h1,-⟩
   .rw[hn]at h1;cases h1
   .rw[hn]at h1;cases h1
def Rel.fz {Z Z2:AE} {w:World} (hR:Rel F Z w) (h:rn Z Z2):Rel F Z2 w where
 own n o2 ho:=by
  rcases h.h n o2 ho with h1|⟨vs,vs2,h1,rfl,hf⟩
  .obtain⟨q1,ob,q2,q3⟩:=hR.own n o2 h1
   exact⟨q1,ob,q2,Ps.mono (FI fun n hn=>h.none hn) q3⟩
  .obtain⟨q1,ob,q2,c,e,q3,q4,q5⟩:=hR.own n _ h1
   exact⟨q1,ob,q2,c,e,q3,by rw[hf.length];exact q4,hf.H6 hR (fun _ hn=>h.none hn) (fun _ _ e=>e) q5⟩
 lock:=hR.lock
def B8.fz {Z Z2:AE} (w:World) (h:rn Z Z2):B8 F Z w Z2 w:=
 ⟨fun _ _ _=>rfl,Ft _,rfl,rfl,rfl,fun _ hn _=>h.none hn⟩
def ZG {Z:AE} {sz b:Nat} {x y:CG} {env:Env} {k kp:V->AE->Prop} (h:GC P (.YE sz b x y) env Z k kp) :
    GC P (.append sz b x y) env Z (fun v Z1=> ∃vf Z2,Sub Z2 Z1/\FY Z1 Z2 v vf/\k vf Z2) kp:=by
 simp only[GC]at *;refine Bt h fun vx h=>Bt h fun vy h=>?_
 unfold AX at h;unfold AL;refine Ez h fun ys ⟨h1,h2⟩=>⟨h1,?_⟩
 cases vx<;>first|exact h2.elim|skip
 rename_i es full;simp only at *;obtain⟨h3,h4,h5,h6⟩:=h2;refine⟨h3,h4,fun e=>?_,fun e=>⟨h5 e,fun n cap hn hc=>?_⟩⟩
 .subst e
  rw[D8]at h6;exact⟨_,Z,fun _ _ h=>h,.l (fun h=>(by cases h)) (.refl _ _ _),h6⟩
 .exact⟨_,Z,HZ hn,.arr (Nb) hn (by simp) (.refl _ _ _),h6⟩
def pY {Z:AE} {x:CG} {env:Env} {k kp:V->AE->Prop} (h:GC P (.Tp x) env Z k kp) :
    GC P (.box x) env Z (fun v Z1=> ∃vf Z2,Sub Z2 Z1/\FY Z1 Z2 v vf/\k vf Z2) kp:=by
 simp only[GC]at *;refine Bt h fun vx h=>?_
 split at h
 .exact fun n hn=>⟨_,Z,HZ hn,.cs Nb hn (.refl _ _ _),h⟩
 .exact h.elim
end Go.Gl
