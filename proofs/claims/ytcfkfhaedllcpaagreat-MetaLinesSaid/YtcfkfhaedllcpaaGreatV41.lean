import Derived.Test.YtcfkfhaedllcpaaGreatV40
set_option linter.all false
set_option linter.defProp false
set_option maxHeartbeats 8000000
noncomputable section
namespace Go.Gl
variable {P:Program} {Y Y':Ren} {Z:AE} {env env₀:Env}
def JA (cf:CF) (cv:CV) (cp:CP) (o:Ao) (env:Env) (s:St):Option (R×St):=
 match o.guard with
 | none=>Fw cf cv cp o.op env s
 | some (g,b)=>match get g env with
   | some (.b t)=>bif t==b then Fw cf cv cp o.op env s else some (.ret (.t []),s)
   | some (.t [])=>some (.ret (.t []),s)
   | _=>none
def L0 {cf:CF} {cv:CV} {cp:CP} (hcf:K9 P cf) (hcv:J0 P cv) (hcp:NP P cp) {o:Ao} {s s':St} {r:R} (h:JA cf cv cp o env s=some (r,s')) (he:RE Y env env₀) (hs:SR P Y s Z) {k kp:V->AE->Prop}
    (hk: ∀Y' r' Z',Y.le Y'->o7 Y' r r'->SR P Y' s' Z'->qk k kp r' Z'):H4 P o env₀ Z k kp:=by
 unfold JA at h;unfold H4
 have skip:some (R.ret (.t []),s)=some (r,s')->k (.t []) Z:=fun e=>by
  cases e;exact hk Y (.ret (.t [])) Z (.refl _) ⟨_,RV.pure _ rfl,rfl⟩ hs
 split at h
 .rename_i hg
  rw[hg];exact gb hcf hcv hcp h he hs hk
 .rename_i g b hg
  rw[hg];split at h
  .rename_i t ht
   obtain⟨v',h1,h2⟩:=he.get ht;simp only[RV]at h2;subst h2;simp only[h1];refine⟨fun e=>?_,fun e=>?_⟩
   .subst e
    rw[beq_self_eq_true]at h;exact gb hcf hcv hcp h he hs hk
   .subst e
    have:((!b)==b)=false:=by cases b<;>rfl
    rw[this]at h;exact skip h
  .rename_i ht
   obtain⟨v',h1,h2⟩:=he.get ht;have e:=RV.lN h2 rfl;subst e;simp only[h1];exact skip h
  .cases h
def ID {β:Type} (v:V) (K:V->β):β:=
 match v with
 | .i k (.ofNat 0)=>K (.i k (.ofNat 0))
 | .i k (.ofNat (m+1))=>K (.i k (.ofNat (m+1)))
 | .i k (.negSucc 0)=>K (.i k (.negSucc 0))
 | .i k (.negSucc (m+1))=>K (.i k (.negSucc (m+1)))
 | .b true=>K (.b true)
 | .b false=>K (.b false)
 | v=>K v
def Hv {β:Type} (v:V) (K:V->β):ID v K=K v:=by
 unfold ID;split<;>rfl
abbrev Rs:=Option (Ac×Env×St)
def VA (cf:CF) (cv:CV) (cp:CP):List Ao->Env->St->Rs
 | [],env,s=>some (.normal,env,s)
 | o::r,env,s=>match JA cf cv cp o env s with
   | some (.ret v,s')=>ID v fun v=>VA cf cv cp r (put o.dst v env) s'
   | some (.Bd v,s')=>some (.Bd v,env,s')
   | none=>none
def RE.put (h:RE Y env env₀) {v v':V} (hv:RV Y v v') (d:Option Nat):RE Y (Gl.put d v env) (Gl.put d v' env₀):=by
 cases d with
 | none=>exact h
 | some d=>exact F2.cons ⟨rfl,hv⟩ h
def RE.prune (h:RE Y env env₀): ∀l:List Nat,RE Y (Gl.prune l env) (Gl.prune l env₀)
 | []=>F2.nil
 | k ::r=>by
   simp only[Gl.prune];cases hg:Gl.get k env with
   | none=>rw[h.xi hg];exact RE.prune h r
   | some v=>
     obtain⟨v',h1,h2⟩:=h.get hg;rw[h1];exact F2.cons ⟨rfl,h2⟩ (RE.prune h r)
def RE.args: ∀ {vs vs':List V} {i:Nat},Lc Y vs vs'->RE Y (A2 i vs) (A2 i vs')
 | [],_,_,h=>by cases h;exact F2.nil
 | _::_,_,i,⟨y,ys,h1,h2,e⟩=>by subst e;exact F2.cons ⟨rfl,h1⟩ (RE.args h2)
def RE.binds: ∀ {ps:List Nat} {vs vs':List V} {env env₀:Env},Lc Y vs vs'->RE Y env env₀->RE Y (Ey ps vs env) (Ey ps vs' env₀)
 | [],vs,vs',_,_,_,he=>by cases vs<;>cases vs'<;>exact he
 | p::ps,[],_,_,_,h,he=>by cases h;exact he
 | p::ps,_::_,_,_,_,⟨y,ys,h1,h2,e⟩,he=>by subst e;simp only[Ey];exact RE.binds h2 (RE.put he h1 (some p))
def aU {cf:CF} {cv:CV} {cp:CP} (hcf:K9 P cf) (hcv:J0 P cv) (hcp:NP P cp): ∀ {ops:List Ao} {env env₀:Env} {Y:Ren} {Z:AE} {s s':St} {ex:Ac} {env':Env},VA cf cv cp ops env s=some (ex,env',s')->RE Y env env₀->SR P Y s Z->
    ∀ {K:Env->AE->Prop} {kp:Env->V->AE->Prop},(∀Y' env₁ Z',Y.le Y'->ex= .normal->RE Y' env' env₁->SR P Y' s' Z'->K env₁ Z')->(∀Y' v v' env₁ Z',Y.le Y'->ex= .Bd v->RV Y' v v'->RE Y' env' env₁->SR P Y' s' Z'->kp env₁ v' Z')->
    (∀id,ex≠ .exit id)/\ex≠ .ret/\JP P ops K kp env₀ Z
 | [],env,env₀,Y,Z,s,s',ex,env',h,he,hs,K,kp,U,hp=>by cases h;exact⟨fun _ e=>(by cases e),fun e=>(by cases e),U Y _ _ (.refl _) rfl he hs⟩
 | o :: r, env,env₀,Y,Z,s,s',ex,env',h,he,hs,K,kp,U,hp=>by
   simp only[JP]
   have h':(match JA cf cv cp o env s with
    | some (.ret v,s')=>ID v fun v=>VA cf cv cp r (put o.dst v env) s'
    | some (.Bd v,s')=>some (.Bd v,env,s')
    | none=>none)=some (ex,env',s'):=h
   split at h'
   .rename_i v s1 h1
    rw[Hv]at h'
    have base: ∀Y1 v' Z1,Y.le Y1->RV Y1 v v'->SR P Y1 s1 Z1->(∀id,ex≠ .exit id)/\ex≠ .ret/\JP P r K kp (put o.dst v' env₀) Z1:=fun Y1 v' Z1 q1 q2 q3=>
     aU hcf hcv hcp h' ((he.mono q1).put q2 o.dst) q3 (fun Y' e₁ Z' p1 p2 p3 p4=>U Y' e₁ Z' (q1.trans p1) p2 p3 p4) (fun Y' v v' e₁ Z' p1 p2 p3 p4 p5=>hp Y' v v' e₁ Z' (q1.trans p1) p2 p3 p4 p5)
    have hx : (∀id,ex≠ .exit id)/\ex≠ .ret:=by
     clear base U hp
     have gen: ∀(ops:List Ao) (env:Env) (s:St),VA cf cv cp ops env s=some (ex,env',s')->(∀id,ex≠ .exit id)/\ex≠ .ret:=by
      intro ops
      induction ops with
      | nil=>intro env s h;cases h;exact⟨fun _ e=>(by cases e),fun e=>(by cases e)⟩
      | cons o r ih=>
        intro env s h
        have h':(match JA cf cv cp o env s with
         | some (.ret v,s')=>ID v fun v=>VA cf cv cp r (put o.dst v env) s'
         | some (.Bd v,s')=>some (.Bd v,env,s')
         | none=>none)=some (ex,env',s'):=h
        split at h'
        .rw[Hv]at h';exact ih _ _ h'
        .cases h';exact⟨fun _ e=>(by cases e),fun e=>(by cases e)⟩
        .cases h'
     exact gen _ _ _ h'
    refine⟨hx.1,hx.2,L0 hcf hcv hcp h1 he hs fun Y1 r1 Z1 q1 q2 q3=>?_⟩;obtain⟨v',q4,rfl⟩:=q2;exact(base Y1 v' Z1 q1 q4 q3).2.2
   .rename_i v s1 h1
    cases h';refine⟨fun _ e=>(by cases e),fun e=>(by cases e),L0 hcf hcv hcp h1 he hs fun Y1 r1 Z1 q1 q2 q3=>?_⟩;obtain⟨v',q4,rfl⟩:=q2;exact hp Y1 v v' _ Z1 q1 rfl q4 (he.mono q1) q3
   .cases h'
def lD (cf:CF) (cv:CV) (cp:CP) (re:List Ao) (env:Env) (s:St):Bool:=
 re.all fun x=>match JA cf cv cp x env s with
  | some (.ret u,_)=>match x.dst with
    | none=>true
    | some d=>match get d env with|some w=>Em u w|none=>false
  | _=>false
def Ry (cf:CF) (cv:CV) (cp:CP):List Cg->Env->St->Rs
 | [],env,s=>some (.normal,env,s)
 | d::r,env,s=>match JA cf cv cp d.o env s with
   | some (.ret v,s')=>ID v fun v=>bif lD cf cv cp d.re (put d.o.dst v env) s' then Ry cf cv cp r (put d.o.dst v env) s' else none
   | some (.Bd v,s')=>some (.Bd v,[],s')
   | none=>none
def ga {cf:CF} {cv:CV} {cp:CP} (hcf:K9 P cf) (hcv:J0 P cv) (hcp:NP P cp) {s:St} (he:RE Y env env₀) (hs:SR P Y s Z): ∀ {re:List Ao},lD cf cv cp re env s=true->D9 P re env₀ Z
 | [],_=>trivial
 | x ::r,h=>by
   have h':((match JA cf cv cp x env s with
    | some (.ret u,_)=>match x.dst with
      | none=>true
      | some d=>match get d env with|some w=>Em u w|none=>false
    | _=>false)&&lD cf cv cp r env s)=true:=h
   simp only[BD]at h';refine⟨?_,ga hcf hcv hcp he hs h'.2⟩;have h1:=h'.1;split at h1
   .rename_i u s1 hu
    refine L0 hcf hcv hcp hu he hs fun Y1 r1 Z1 q1 q2 q3=>?_
    obtain⟨u',q4,rfl⟩:=q2;intro d hd;rw[hd]at h1;simp only at h1;split at h1
    .rename_i w hw
     obtain⟨w',g1,g2⟩:=he.get hw;have e:=O5 _ _ h1;subst e;rw[g1,RV.fn u w' u' (RV.mono q1 _ _ g2) q4]
    .cases h1
   .cases h1
def P9 {cf:CF} {cv:CV} {cp:CP} (hcf:K9 P cf) (hcv:J0 P cv) (hcp:NP P cp): ∀ {ops:List Cg} {env env₀:Env} {Y:Ren} {Z:AE} {s s':St} {ex:Ac} {env':Env},Ry cf cv cp ops env s=some (ex,env',s')->RE Y env env₀->SR P Y s Z->
    ∀ {K:Env->AE->Prop} {kp:V->AE->Prop},(∀Y' env₁ Z',Y.le Y'->ex= .normal->RE Y' env' env₁->SR P Y' s' Z'->K env₁ Z')->(∀Y' v v' Z',Y.le Y'->ex= .Bd v->env'= []->RV Y' v v'->SR P Y' s' Z'->kp v' Z')->
    DO P ops K kp env₀ Z
 | [],env,env₀,Y,Z,s,s',ex,env',h,he,hs,K,kp,U,hp=>by cases h;exact U Y _ _ (.refl _) rfl he hs
 | d ::r,env,env₀,Y,Z,s,s',ex,env',h,he,hs,K,kp,U,hp=>by
   simp only[DO]
   have h':(match JA cf cv cp d.o env s with
    | some (.ret v,s')=>ID v fun v=>bif lD cf cv cp d.re (put d.o.dst v env) s' then Ry cf cv cp r (put d.o.dst v env) s' else none
    | some (.Bd v,s')=>some (.Bd v,[],s')
    | none=>none)=some (ex,env',s'):=h
   split at h'
   .rename_i v s1 h1
    rw[Hv]at h';obtain⟨h2,h3⟩:=AW h';refine L0 hcf hcv hcp h1 he hs fun Y1 r1 Z1 q1 q2 q3=>?_
    obtain⟨v',q4,rfl⟩:=q2;have he':=(he.mono q1).put q4 d.o.dst;exact⟨ga hcf hcv hcp he' q3 h2,P9 hcf hcv hcp h3 he' q3 (fun Y' e₁ Z' p1 p2 p3 p4=>U Y' e₁ Z' (q1.trans p1) p2 p3 p4) (fun Y' v v' Z' p1 p2 p3 p4 p5=>hp Y' v v' Z' (q1.trans p1) p2 p3 p4 p5)⟩
   .rename_i v s1 h1
    cases h';refine L0 hcf hcv hcp h1 he hs fun Y1 r1 Z1 q1 q2 q3=>?_
    obtain⟨v',q4,rfl⟩:=q2;exact hp Y1 v v' Z1 q1 rfl rfl q4 q3
   .cases h'
def Km {α β:Type} (f:α->Option β):List α->Option (List β)
 | []=>some []
 | x::r=>ob (f x) fun y=>ob (Km f r) fun ys=>some (y::ys)
def HP (s:St):Nat->V->Option V
 | 0,_=>none
 | d + 1,v=>bif BJ v then some v else
   match v with
   | .p n 0=>match s.t.get n with
     | some (.cs vs)=>ob (Km (HP s d) vs) fun us=>some (.rp us)
     | _=>none
   | .sl n len _=>match s.t.get n with
     | some (.arr _ es)=>bif Nat.beq len es.length then ob (Km (Km (HP s d)) es) fun us=>some (.l us false)else none
     | _=>none
   | .a cs=>ob (Km (HP s d) cs) fun us=>some (.a us)
   | .t cs=>ob (Km (HP s d) cs) fun us=>some (.t us)
   | .rp cs=>ob (Km (HP s d) cs) fun us=>some (.rp us)
   | .l es f=>ob (Km (Km (HP s d)) es) fun us=>some (.l us f)
   | .E9 t x=>ob (HP s d x) fun u=>some (.E9 t u)
   | _=>none
def PE (s:St):Nat->V->List Nat
 | 0,_=>[]
 | d + 1,v=>bif BJ v then []else
   match v with
   | .p n 0=>match s.t.get n with
     | some (.cs vs)=>n::vs.flatMap (PE s d)
     | _=>[]
   | .sl n _ _=>match s.t.get n with
     | some (.arr _ es)=>n::es.flatMap fun e=>e.flatMap (PE s d)
     | _=>[]
   | .a cs=>cs.flatMap (PE s d)
   | .t cs=>cs.flatMap (PE s d)
   | .rp cs=>cs.flatMap (PE s d)
   | .l es _=>es.flatMap fun e=>e.flatMap (PE s d)
   | .E9 _ x=>PE s d x
   | _=>[]
def Ph (s:St):List Nat->St
 | []=>s
 | i::r=>match s.t.get i with
   | some _=>Tr.put none BA s.t i fun t=>Ph ⟨s.nx,t⟩ r
   | none=>Ph s r
def Nt: ∀ {l:List Nat} {s:St} {Z:AE},SR P Y s Z-> ∃Z',SR P Y (Ph s l) Z'/\Sub Z' Z/\ ∀i∈l,∀m,Y i=some m->(s.t.get i).isSome=true->Z' m.1=none
 | [],s,Z,h=>⟨Z,h,Sub.refl _,fun _ h=>by cases h⟩
 | i ::r,s,Z,h=>by
   simp only[Ph];split
   .rename_i o hg
    rw[Tr.put_eq];obtain⟨m,hm,_⟩:=h.get i o hg;obtain⟨Z',h1,h2,h3⟩:=Nt (l:=r) (h.del hg hm);have hsub:Sub (del Z m.1) Z:=F3 Z m.1;refine⟨Z',h1,h2.trans hsub,fun j hj m' hm' hl=>?_⟩;by_cases e:j=i
    .subst e
     rw[hm]at hm';cases hm';exact h2.none (DQ Z m.1)
    .rcases GK.1 hj with e'|hj
     .exact absurd e' e
     .refine h3 j hj m' hm' ?_
      show((Tr.set none BA s.t i).get j).isSome=true;rw[Tr.Dw _ _ _ (bY (h.lt hm)),if_neg e];exact hl
   .rename_i hg
    obtain⟨Z',h1,h2,h3⟩:=Nt (l:=r) h;refine⟨Z',h1,h2,fun j hj m' hm' hl=>?_⟩;rcases GK.1 hj with e'|hj
    .subst e';rw[hg]at hl;cases hl
    .exact h3 j hj m' hm' hl
def Hk {f:V->Option V} {g:V->List Nat} {s:St} {Z Z':AE} (hf: ∀v v' u,f v=some u->RV Y v v'->(∀i∈g v,∀m,Y i=some m->(s.t.get i).isSome=true->Z' m.1=none)->FD Z Z' v' u): ∀ {vs vs' us:List V},Km f vs=some us->Lc Y vs vs'->
    (∀i∈vs.flatMap g,∀m,Y i=some m->(s.t.get i).isSome=true->Z' m.1=none)->DN Z Z' vs' us
 | [],_,_,h,h',_=>by cases h;cases h';exact .nil
 | x::r,_,us,h,⟨y,ys,h1,h2,e⟩,hd=>by
   subst e;replace h:=AP h;obtain⟨u,h3,h⟩:=h;replace h:=AP h;obtain⟨us,h4,h⟩:=h;cases h;exact .cons (hf _ _ _ h3 h1 fun i hi=>hd i (by simp only[List.flatMap_cons,FC];exact .inl hi)) (Hk hf h4 h2 fun i hi=>hd i (by simp only[List.flatMap_cons,FC];exact .inr hi))
def Nh {f:V->Option V} {g:V->List Nat} {s:St} {Z Z':AE} (hf: ∀v v' u,f v=some u->RV Y v v'->(∀i∈g v,∀m,Y i=some m->(s.t.get i).isSome=true->Z' m.1=none)->FD Z Z' v' u): ∀ {vs vs' us:List (List V)},Km (Km f) vs=some us->eS Y vs vs'->
    (∀i∈vs.flatMap (fun e=>e.flatMap g),∀m,Y i=some m->(s.t.get i).isSome=true->Z' m.1=none)->EB Z Z' vs' us
 | [],_,_,h,h',_=>by cases h;cases h';exact .nil
 | x::r,_,us,h,⟨y,ys,h1,h2,e⟩,hd=>by
   subst e;replace h:=AP h;obtain⟨u,h3,h⟩:=h;replace h:=AP h;obtain⟨us,h4,h⟩:=h;cases h;exact .cons (Hk hf h3 h1 fun i hi=>hd i (by simp only[List.flatMap_cons,FC];exact .inl hi)) (Nh hf h4 h2 fun i hi=>hd i (by simp only[List.flatMap_cons,FC];exact .inr hi))
def P5 {s : St} (hs:SR P Y s Z) {Z':AE}: ∀(d:Nat) (v v' u:V),HP s d v=some u->RV Y v v'->(∀i∈PE s d v,∀m,Y i=some m->(s.t.get i).isSome=true->Z' m.1=none)->FD Z Z' v' u
 | 0,_,_,_,h,_,_=>by cases h
 | d + 1,v,v',u,h,hv,hd=>by
   have ih:=P5 hs (Z':=Z') d;simp only[HP]at h;simp only[PE]at hd;cases hp:BJ v with
   | true=>
     rw[hp]at h;cases h;rw[RV.lN hv hp];exact .refl _
   | false=>
     rw[hp]at h hd;simp only[cond_false]at h hd;split at h
     .obtain⟨m,g1,rfl⟩:=hv
      split at h
      .rename_i vs hg
       replace h:=AP h;obtain⟨us,h1,h⟩:=h;cases h;simp only[hg]at hd;obtain⟨o',g2,vs',g3,rfl⟩:=hs.at hg g1;exact .cs g2 (hd _ (.head _) m g1 (by rw[hg];rfl)) (Hk ih h1 g3 fun i hi=>hd i (.tail _ hi))
      .cases h
     .obtain⟨m,g1,rfl⟩:=hv
      split at h
      .rename_i es hg
       replace h:=AW h;obtain⟨h0,h⟩:=h;replace h:=AP h;obtain⟨us,h1,h⟩:=h;cases h;simp only[hg]at hd;obtain⟨o',g2,es',g3,rfl⟩:=hs.at hg g1;exact .arr g2 (hd _ (.head _) m g1 (by rw[hg];rfl)) (by rw[g3.len];exact Cx h0) (Nh ih h1 g3 fun i hi=>hd i (.tail _ hi))
      .cases h
     .replace h:=AP h;obtain⟨us,h1,h⟩:=h
      cases h;obtain⟨c,g1,rfl⟩:=hv;exact .a (Hk ih h1 (Bb.1 g1) hd)
     .replace h:=AP h;obtain⟨us,h1,h⟩:=h
      cases h;obtain⟨c,g1,rfl⟩:=hv;exact .t (Hk ih h1 (Bb.1 g1) hd)
     .replace h:=AP h;obtain⟨us,h1,h⟩:=h
      cases h;obtain⟨c,g1,rfl⟩:=hv;exact .rp (Hk ih h1 (Bb.1 g1) hd)
     .replace h:=AP h;obtain⟨us,h1,h⟩:=h
      cases h;obtain⟨c,g1,rfl⟩:=hv;exact .l (fun e=>e) (Nh ih h1 (Fo.1 g1) hd)
     .replace h:=AP h;obtain⟨us,h1,h⟩:=h
      cases h;obtain⟨c,g1,rfl⟩:=hv;exact .E9 (ih _ _ _ h1 g1 hd)
     .cases h
def sh {s:St} (hs:SR P Y s Z) (d:Nat) (v v' u:V) (h:HP s d v=some u) (hv:RV Y v v'):FD Z emp v' u:=P5 hs d v v' u h hv fun _ _ _ _ _=>rfl
def GF {f:V->Option V} (hf: ∀v u,f v=some u->BJ u=true): ∀ {vs us:List V},Km f vs=some us->B7 us=true
 | [],_,h=>by cases h;rfl
 | x::r,us,h=>by
   replace h:=AP h;obtain⟨u,h3,h⟩:=h;replace h:=AP h;obtain⟨us,h4,h⟩:=h;cases h;simp only[B7,hf _ _ h3,GF hf h4,Bool.and_self]
def LN {f:V->Option V} (hf: ∀v u,f v=some u->BJ u=true): ∀ {vs us:List (List V)},Km (Km f) vs=some us->Rt us=true
 | [],_,h=>by cases h;rfl
 | x::r,us,h=>by
   replace h:=AP h;obtain⟨u,h3,h⟩:=h;replace h:=AP h;obtain⟨us,h4,h⟩:=h;cases h;simp only[Rt,GF hf h3,LN hf h4,Bool.and_self]
def WL (s : St): ∀(d:Nat) (v u:V),HP s d v=some u->BJ u=true
 | 0,_,_,h=>by cases h
 | d + 1,v,u,h=>by
   have ih:=WL s d;simp only[HP]at h;cases hp:BJ v with
   | true=>rw[hp]at h;cases h;exact hp
   | false=>
     rw[hp]at h;simp only[cond_false]at h;split at h
     .split at h
      .replace h:=AP h;obtain⟨us,h1,h⟩:=h
       cases h;simp only[BJ];exact GF ih h1
      .cases h
     .split at h
      .replace h:=AW h;obtain⟨h0,h⟩:=h
       replace h:=AP h;obtain⟨us,h1,h⟩:=h;cases h;simp only[BJ];exact LN ih h1
      .cases h
     .replace h:=AP h;obtain⟨us,h1,h⟩:=h
      cases h;simp only[BJ];exact GF ih h1
     .replace h:=AP h;obtain⟨us,h1,h⟩:=h
      cases h;simp only[BJ];exact GF ih h1
     .replace h:=AP h;obtain⟨us,h1,h⟩:=h
      cases h;simp only[BJ];exact GF ih h1
     .replace h:=AP h;obtain⟨us,h1,h⟩:=h
      cases h;simp only[BJ];exact LN ih h1
     .replace h:=AP h;obtain⟨us,h1,h⟩:=h
      cases h;simp only[BJ];exact ih _ _ h1
     .cases h
def U7:Nat:=60
def qf:Option (R×St)->Option (R×St)
 | some (.ret v,s)=>ob (HP s U7 v) fun u=>some (.ret u,Ph s (PE s U7 v))
 | r=>r
def A6.HP {f:FuncId} {args:List V} {Z:AE} {Q Q':R->AE->Prop} (h:A6 P f args Z Q) (hq: ∀r Z',Q r Z'->(∃v vf Z'',r= .ret v/\Sub Z'' Z'/\FD Z' Z'' v vf/\Q' (.ret vf) Z'')\/Q' r Z'):A6 P f args Z Q':=
 ⟨h.1,fun F w cs h1 h2=>Calls.mono (h.2 F w cs h1 h2) fun e w' ⟨r,Z',q1,q2,q3,q4⟩=>by
  rcases hq r Z' q1 with⟨v,vf,Z'',rfl,p1,p2,p3⟩|h
  .obtain⟨c,rfl,q5⟩:=q2
   exact⟨.ret vf,Z'',p3,⟨c,rfl,p2.rel q3 p1 q5⟩,q3.drop p1,q4.trans (Bw.drop w' p1)⟩
  .exact⟨r,Z',h,q2,q3,q4⟩⟩
inductive TM where
 | fn (n:Nat) (ac:AV) (AG:List RS)
 | o0 (n:Nat) (aA:AV) (ops:List Ao) (x:Bi) (aC:AV) (AG:List RS) (l1 l2:List Nat)
 | qF (n:Nat) (k:Nat) (ops:List Ao) (ac:AV) (l:List Nat)
 | xS (n:Nat) (ac:AV) (AG:List RS)
 | bW (c:List V->St->Option (R×St))
 | xO (n:Nat) (ac:AV)
def JB (P:Program) (f:FuncId):TM->Prop
 | .fn n ac AG=> ∀(args:List V) (Z:AE) (Q:R->AE->Prop),args.length<=n->T P ac (VH AG Q) (A2 0 args) Z->A6 P f args Z Q
 | .xS n ac AG=> ∀(args:List V) (Z:AE) (Q:R->AE->Prop),args.length<=n->T P ac (VH AG Q) (A2 0 args) Z->A6 P f args Z Q
 | .o0 n aA ops x aC AG l1 l2=> ∀(args:List V) (Z:AE) (Q:R->AE->Prop),args.length<=n->T P (.seq l1 aA (.Bt ops)) (CY (PH P x l2 aC AG Q)) (A2 0 args) Z->A6 P f args Z Q
 | .qF n k ops ac l=> ∀(args:List V) (m:Option V) (Z:AE) (Q:AE->Prop),args.length<=n->T P (.seq l (.Bt ops) ac) (M8 Q) (put (some k) (m.getD .De) (A2 0 args)) Z->HA P f args m Z Q
 | .bW c=> ∀vs s r s',c vs s=some (r,s')-> ∀Y vs' Z,Lc Y vs vs'->SR P Y s Z-> ∀Q:R->AE->Prop,(∀Y' r' Z',Y.le Y'->o7 Y' r r'->SR P Y' s' Z'->Q r' Z')->A6 P f vs' Z Q
 | .xO n ac=> ∀(args:List V) (Z:AE) (Q:AE->Prop),args.length<=n->T P ac (M8 Q) (A2 0 args) Z->HA P f args none Z Q
abbrev KF:=FuncId->Option TM
def Lr (P:Program) (tab:KF):Prop:= ∀f fs,tab f=some fs->JB P f fs
abbrev FB:=FuncId->List (List V×V)
def HK (P:Program) (memo:FB):Prop:= ∀f,∀m∈memo f,B7 m.1=true/\BJ m.2=true/\Pure P f m.1 m.2
def ZA (s:St) (env:Env):List RS->Option (List V)
 | []=>some []
 | .t n::r=>ob (get n env) fun v=>ob (ZA s env r) fun vs=>some (v::vs)
 | .c n g::r=>ob (get n env) fun a=>ob (OB s g a) fun v=>ob (ZA s env r) fun vs=>some (v::vs)
def NH {s:St} (he:RE Y env env₀) (hs:SR P Y s Z): ∀ {l:List RS} {vs:List V},ZA s env l=some vs-> ∀ {K:List V->Prop},(∀vs',Lc Y vs vs'->K vs')->Uq Z env₀ l K
 | [],vs,h,K,U=>by cases h;exact U _ F2.nil
 | .t n::r,vs,h,K,U=>by
   replace h:=AP h;obtain⟨v,h1,h⟩:=h;replace h:=AP h;obtain⟨us,h2,h⟩:=h;cases h;obtain⟨v',e1,e2⟩:=he.get h1;simp only[Uq,e1,Ez];exact NH he hs h2 fun us' hu=>U _ (F2.cons e2 hu)
 | .c n g::r,vs,h,K,U=>by
   replace h:=AP h;obtain⟨a,h1,h⟩:=h;replace h:=AP h;obtain⟨v,h3,h⟩:=h;replace h:=AP h;obtain⟨us,h2,h⟩:=h;cases h;obtain⟨v',e1,e2⟩:=he.get h1;simp only[Uq,e1,Ez];exact WV hs h3 e2 fun w hw=>NH he hs h2 fun us' hu=>U _ (F2.cons hw hu)
def Oo {vs vs':List V} (h:Lc Y vs vs'):RV Y (El vs) (El vs'):=by
 match vs,vs',h with
 | [],_,h=>cases h;simp only[El,RV];exact⟨[],Bb.2 F2.nil,rfl⟩
 | [v],_,⟨y,ys,h1,h2,e⟩=>cases h2;subst e;exact h1
 | v::u::r,_,⟨y,ys,h1,⟨z,zs,h2,h3,e⟩,e'⟩=>
   subst e;subst e';show RV Y (.t (v::u::r)) (.t (y::z::zs));simp only[RV];exact⟨_,Bb.2 (F2.cons h1 (F2.cons h2 h3)),rfl⟩
def bg (AG:List RS) (r:Rs):Option (R×St):=
 match r with
 | some (.normal,env,s)=>ob (ZA s env AG) fun vs=>some (.ret (El vs),s)
 | some (.ret,env,s)=>ob (ZA s env AG) fun vs=>some (.ret (El vs),s)
 | some (.Bd v,_,s)=>some (.Bd v,s)
 | _=>none
def Xe (tab:KF) (ih:AV->Env->St->Rs) (g:FuncId) (cap:List V) (m:Option V) (AG:List RS) (env:Env) (s:St):Option (R×St):=
 match tab g with
 | some (.qF n k ops ac l)=>bif Nat.ble cap.length n then
  match ih (.seq l (.Bt ops) ac) (put (some k) (m.getD .De) (A2 0 cap)) s with
  | some (.normal,_,s')=>ob (ZA s' env AG) fun vs=>some (.ret (El vs),s')
  | some (.ret,_,s')=>ob (ZA s' env AG) fun vs=>some (.ret (El vs),s')
  | _=>none
   else none
 | some (.xO n ac)=>match m with
   | some _=>none
   | none=>bif Nat.ble cap.length n then
     match ih ac (A2 0 cap) s with
     | some (.normal,_,s')=>ob (ZA s' env AG) fun vs=>some (.ret (El vs),s')
     | some (.ret,_,s')=>ob (ZA s' env AG) fun vs=>some (.ret (El vs),s')
     | _=>none
   else none
 | _=>none
def Rz (tab:KF) (ih:AV->Env->St->Rs) (f:FuncId) (vs:List V) (s:St):Option (R×St):=
 match tab f with
 | some (.fn n ac AG)=>bif Nat.ble vs.length n then bg AG (ih ac (A2 0 vs) s)else none
 | some (.o0 n aA ops x aC AG l1 l2)=>bif Nat.ble vs.length n then
  match ih (.seq l1 aA (.Bt ops)) (A2 0 vs) s with
  | some (.normal,env,s1)=>match DS env x with
    | some (.f (.func g) [] cap)=>match ih aC (prune l2 env) s1 with
      | some (.normal,env2,s2)=>Xe tab ih g cap none AG env2 s2
      | some (.ret,env2,s2)=>Xe tab ih g cap none AG env2 s2
      | some (.Bd v,env2,s2)=>Xe tab ih g cap (some v) AG env2 s2
      | _=>none
    | _=>none
  | _=>none
   else none
 | some (.xS n ac AG)=>bif Nat.ble vs.length n then qf (bg AG (ih ac (A2 0 vs) s))else none
 | some (.bW c)=>c vs s
 | _=>none
def VR (vs:List V):List (List V×V)->Option V
 | []=>none
 | m::r=>bif M7 m.1 vs then some m.2 else VR vs r
def HI (tab:KF) (memo:FB) (ih:AV->Env->St->Rs):CF:=fun f vs s=>
 match memo f with
 | []=>Rz tab ih f vs s
 | m::r=>match VR vs (m::r)with
   | some v=>some (.ret v,s)
   | none=>Rz tab ih f vs s
def NM (tab:KF) (memo:FB) (ih:AV->Env->St->Rs):CV:=fun x vs s=>
 match x with
 | .f (.func f) first cap=>HI tab memo ih f (first++vs++cap) s
 | .f (.yield L) [] []=>match s.t.get L with
   | some (.loop .ready env ps a b)=>bif Nat.beq vs.length ps.length then
    Tr.put none BA s.t L fun t=>match ih a (Ey ps vs env) ⟨s.nx,t⟩with
    | some (.normal,env1,s1)=>match ih b env1 s1 with
      | some (.normal,_,s2)=>Tr.put (some (.loop .ready env ps a b)) BA s2.t L fun t=>some (.ret (.b true),⟨s2.nx,t⟩)
      | some (.ret,_,s2)=>Tr.put (some (.loop .ret env ps a b)) BA s2.t L fun t=>some (.ret (.b false),⟨s2.nx,t⟩)
      | some (.exit id,_,s2)=>Tr.put (some (.loop (.exit id) env ps a b)) BA s2.t L fun t=>some (.ret (.b false),⟨s2.nx,t⟩)
      | some (.Bd v,_,s2)=>some (.Bd v,s2)
      | none=>none
    | _=>none
     else none
   | _=>none
 | _=>none
def PX (tab:KF) (memo:FB) (ih:AV->Env->St->Rs):CP:=fun f vs=>
 bif B7 vs then match HI tab memo ih f vs ⟨0,.leaf⟩with
  | some (.ret v,s)=>match HP s U7 v with
    | some u=>bif BJ u then some u else none
    | none=>none
  | _=>none
 else none
def Iu (tab:KF) (memo:FB) (ih:AV->Env->St->Rs) (c:AV) (env:Env) (s:St):Rs:=
 match c with
 | .skip=>some (.normal,env,s)
 | .ret=>some (.ret,env,s)
 | .exit id=>some (.exit id,env,s)
 | .Bt ops=>VA (HI tab memo ih) (NM tab memo ih) (PX tab memo ih) ops env s
 | .EK l ops=>match Ry (HI tab memo ih) (NM tab memo ih) (PX tab memo ih) ops env s with
   | some (.normal,env',s')=>some (.normal,prune l env',s')
   | r=>r
 | .seq l a b=>match ih a env s with
   | some (.normal,env',s')=>ih b (prune l env') s'
   | r=>r
 | .cond c a b=>match DS env c with
   | some (.b true)=>ih a env s
   | some (.b false)=>ih b env s
   | _=>none
 | .block id a=>match ih a env s with
   | some (.exit id',env',s')=>bif Nat.beq id' id then some (.normal,env',s')else some (.exit id',env',s')
   | r=>r
 | .scope a=>ih a env s
 | .loop l a=>match ih a (prune l env) s with
   | some (.normal,env',s')=>ih (.loop l a) env' s'
   | r=>r
 | .Dk l g ps a b=>match DS env g with
   | some (.f (.func gf) [] cap)=>s.new (.loop .ready (prune l env) ps a b) fun i s1=>
    match HI tab memo ih gf (.f (.yield i) [] []::cap) s1 with
    | some (.ret _,s2)=>match s2.t.get i with
      | some (.loop st _ _ _ _)=>Tr.put none BA s2.t i fun t=>some ((match st with| .ready=> .normal| .ret=> .ret| .exit id=> .exit id),env,⟨s2.nx,t⟩)
      | _=>none
    | some (.Bd v,s2)=>match s2.t.get i with
      | some _=>Tr.put none BA s2.t i fun t=>some (.Bd v,env,⟨s2.nx,t⟩)
      | none=>none
    | none=>none
   | _=>none
def run (tab:KF) (memo:FB):Nat->AV->Env->St->Rs
 | 0,_,_,_=>none
 | n+1,c,env,s=>Iu tab memo (run tab memo n) c env s
def R2 (P:Program) (ih:AV->Env->St->Rs):Prop:= ∀c env s ex env' s',ih c env s=some (ex,env',s')-> ∀Y env₀ Z,RE Y env env₀->SR P Y s Z->
 ∀Q:Ac->Env->AE->Prop,(∀Y' ex₀ env₁ Z',Y.le Y'->zS Y' ex ex₀->RE Y' env' env₁->SR P Y' s' Z'->Q ex₀ env₁ Z')->T P c Q env₀ Z
def zS.normal {ex:Ac} (h:zS Y .normal ex):ex= .normal:=h
def aT {AG:List RS} {ex:Ac} {env':Env} {s1 s':St} {r:R} (h:bg AG (some (ex,env',s1))=some (r,s')) {Q:R->AE->Prop}
    (hQ: ∀Y' r' Z',Y.le Y'->o7 Y' r r'->SR P Y' s' Z'->Q r' Z') {Y':Ren} {ex₀:Ac} {env₁:Env} {Z':AE} (q1:Y.le Y') (q2:zS Y' ex ex₀) (q3:RE Y' env' env₁) (q4:SR P Y' s1 Z'):VH AG Q ex₀ env₁ Z':=by
 cases ex with
 | normal=>
   cases q2;replace h:=AP h;obtain⟨vs,h1,h⟩:=h;cases h;exact NH q3 q4 h1 fun vs' hv=>⟨_,Z',Sub.refl _,.refl _,hQ Y' _ Z' q1 ⟨_,Oo hv,rfl⟩ q4⟩
 | ret=>
   cases q2;replace h:=AP h;obtain⟨vs,h1,h⟩:=h;cases h;exact NH q3 q4 h1 fun vs' hv=>⟨_,Z',Sub.refl _,.refl _,hQ Y' _ Z' q1 ⟨_,Oo hv,rfl⟩ q4⟩
 | exit id=>cases h
 | Bd v=>
   cases h;obtain⟨v',h1,rfl⟩:=q2;exact⟨v',Z',Sub.refl _,.refl _,hQ Y' (.Bd v') Z' q1 ⟨v',h1,rfl⟩ q4⟩
def HA.mono {f:FuncId} {args:List V} {m:Option V} {Z:AE} {Q Q':AE->Prop} (h:HA P f args m Z Q) (hq: ∀Z',Q Z'->Q' Z'):HA P f args m Z Q':=
 ⟨h.1,fun F w cs u h1 h2 h3=>CallsDIn.mono (h.2 F w cs u h1 h2 h3) fun e u' w' ⟨a,b,Z',c,d⟩=>⟨a,b,Z',hq _ c,d⟩⟩
def UT {tab:KF} (ht:Lr P tab) {ih:AV->Env->St->Rs} (hi:R2 P ih) {g:FuncId} {cap cap':List V} {m m':Option V} {AG:List RS} {s s':St} {r:R} (h:Xe tab ih g cap m AG env s=some (r,s'))
    (he:RE Y env env₀) (hs:SR P Y s Z) (hc:Lc Y cap cap') (hm:o6 Y m m') {Q:R->AE->Prop} (hQ: ∀Y' r' Z',Y.le Y'->o7 Y' r r'->SR P Y' s' Z'->Q r' Z') :
    HA P g cap' m' Z fun Z'=>Uq Z' env₀ AG fun vs=>Ar Z' (El vs) Q:=by
 unfold Xe at h;split at h
 .rename_i n k ops ac l htab
  obtain⟨h1,h2⟩:=AW h
  have hg:RV Y (m.getD .De) (m'.getD .De):=by
   cases m with
   | none=>cases hm;exact RV.pure _ rfl
   | some v=>obtain⟨v',h3,rfl⟩:=hm;exact h3
  have fin: ∀ {ex:Ac} {e2:Env} {s2:St},ih (.seq l (.Bt ops) ac) (put (some k) (m.getD .De) (A2 0 cap)) s=some (ex,e2,s2)->(ex= .normal\/ex= .ret)->(ob (ZA s2 env AG) fun vs=>some (R.ret (El vs),s2))=some (r,s')->
   HA P g cap' m' Z fun Z'=>Uq Z' env₀ AG fun vs=>Ar Z' (El vs) Q:=fun {ex e2 s2} q1 q2 q3=>by
   obtain⟨vs,q4,q5⟩:=AP q3;cases q5;refine ht g _ htab cap' m' Z _ (by rw[hc.len];exact Nat.le_of_ble_eq_true h1) ?_;refine hi _ _ _ _ _ _ q1 Y _ Z ((RE.args hc).put hg (some k)) hs _ fun Y' ex₀ e₁ Z' p1 p2 p3 p4=>?_
   have base:Uq Z' env₀ AG fun vs=>Ar Z' (El vs) Q:=NH (he.mono p1) p4 q4 fun vs' hv=>⟨_,Z',Sub.refl _,.refl _,hQ Y' _ Z' p1 ⟨_,Oo hv,rfl⟩ p4⟩
   rcases q2 with e|e
   .subst e;cases p2;exact base
   .subst e;cases p2;exact base
  split at h2
  .rename_i hr;exact fin hr (.inl rfl) h2
  .rename_i hr;exact fin hr (.inr rfl) h2
  .cases h2
 .rename_i n ac htab
  cases m with
  | some v=>cases h
  | none=>
    cases hm;obtain⟨h1,h2⟩:=AW h
    have fin: ∀ {ex:Ac} {e2:Env} {s2:St},ih ac (A2 0 cap) s=some (ex,e2,s2)->(ex= .normal\/ex= .ret)->(ob (ZA s2 env AG) fun vs=>some (R.ret (El vs),s2))=some (r,s')->
     HA P g cap' none Z fun Z'=>Uq Z' env₀ AG fun vs=>Ar Z' (El vs) Q:=fun {ex e2 s2} q1 q2 q3=>by
     obtain⟨vs,q4,q5⟩:=AP q3;cases q5;refine ht g _ htab cap' Z _ (by rw[hc.len];exact Nat.le_of_ble_eq_true h1) ?_;refine hi _ _ _ _ _ _ q1 Y _ Z (RE.args hc) hs _ fun Y' ex₀ e₁ Z' p1 p2 p3 p4=>?_
     have base:Uq Z' env₀ AG fun vs=>Ar Z' (El vs) Q:=NH (he.mono p1) p4 q4 fun vs' hv=>⟨_,Z',Sub.refl _,.refl _,hQ Y' _ Z' p1 ⟨_,Oo hv,rfl⟩ p4⟩
     rcases q2 with e|e
     .subst e;cases p2;exact base
     .subst e;cases p2;exact base
    split at h2
    .rename_i hr;exact fin hr (.inl rfl) h2
    .rename_i hr;exact fin hr (.inr rfl) h2
    .cases h2
 .cases h
def Wb {tab:KF} (ht:Lr P tab) {ih:AV->Env->St->Rs} (hi:R2 P ih):K9 P (Rz tab ih):=by
 intro f vs s r s' h Y vs' Z hv hs Q hQ;unfold Rz at h;split at h
 .rename_i n ac AG htab
  obtain⟨h1,h2⟩:=AW h;cases hr:ih ac (A2 0 vs) s with
  | none=>rw[hr]at h2;cases h2
  | some x=>
    obtain⟨ex,env',s1⟩:=x;rw[hr]at h2;refine ht f _ htab vs' Z Q (by rw[hv.len];exact Nat.le_of_ble_eq_true h1) ?_;exact hi _ _ _ _ _ _ hr Y _ Z (RE.args hv) hs _ fun Y' ex₀ e₁ Z' p1 p2 p3 p4=>aT h2 hQ p1 p2 p3 p4
 .rename_i n aA ops x aC AG l1 l2 htab
  obtain⟨h1,h2⟩:=AW h;split at h2
  .rename_i env1 s1 hr1
   split at h2
   .rename_i g cap hx
    refine ht f _ htab vs' Z Q (by rw[hv.len];exact Nat.le_of_ble_eq_true h1) ?_;refine hi _ _ _ _ _ _ hr1 Y _ Z (RE.args hv) hs _ fun Y1 ex₀ e₁ Z1 p1 p2 p3 p4=>?_
    cases p2;obtain⟨x',q1,fn',a',b',q2,q3,q4,rfl⟩:=As p3 hx;simp only[bU]at q2;subst q2;have q3:=Bb.1 q3;cases q3;show PH P x l2 aC AG Q e₁ Z1;simp only[PH,q1,Ez];split at h2
    .rename_i env2 s2 hr2
     refine hi _ _ _ _ _ _ hr2 Y1 _ Z1 (p3.prune l2) p4 _ fun Y2 ex₀ e₂ Z2 u1 u2 u3 u4=>?_
     cases u2;exact UT ht hi h2 u3 u4 (Lc.mono u1 (Bb.1 q4)) rfl fun Y3 r' Z3 w1 w2 w3=>hQ Y3 r' Z3 ((p1.trans u1).trans w1) w2 w3
    .rename_i env2 s2 hr2
     refine hi _ _ _ _ _ _ hr2 Y1 _ Z1 (p3.prune l2) p4 _ fun Y2 ex₀ e₂ Z2 u1 u2 u3 u4=>?_
     cases u2;exact UT ht hi h2 u3 u4 (Lc.mono u1 (Bb.1 q4)) rfl fun Y3 r' Z3 w1 w2 w3=>hQ Y3 r' Z3 ((p1.trans u1).trans w1) w2 w3
    .rename_i v env2 s2 hr2
     refine hi _ _ _ _ _ _ hr2 Y1 _ Z1 (p3.prune l2) p4 _ fun Y2 ex₀ e₂ Z2 u1 u2 u3 u4=>?_
     obtain⟨v',u5,rfl⟩:=u2;exact UT ht hi h2 u3 u4 (Lc.mono u1 (Bb.1 q4)) ⟨v',u5,rfl⟩ fun Y3 r' Z3 w1 w2 w3=>hQ Y3 r' Z3 ((p1.trans u1).trans w1) w2 w3
    .cases h2
   .cases h2
  .cases h2
 .rename_i n ac AG htab
  replace h:=AW h;obtain⟨h1,h2⟩:=h;cases hr:ih ac (A2 0 vs) s with
  | none=>rw[hr]at h2;cases h2
  | some x=>
    obtain⟨ex,env',s1⟩:=x;rw[hr]at h2;cases he:bg AG (some (ex,env',s1))with
    | none=>rw[he]at h2;cases h2
    | some y=>
      obtain⟨r1,s2⟩:=y;rw[he]at h2
      have hc:A6 P f vs' Z fun r' Z'=> ∃Y',Y.le Y'/\o7 Y' r1 r'/\SR P Y' s2 Z':=by
       refine ht f _ htab vs' Z _ (by rw[hv.len];exact Nat.le_of_ble_eq_true h1) ?_;exact hi _ _ _ _ _ _ hr Y _ Z (RE.args hv) hs _ fun Y' ex₀ e₁ Z' p1 p2 p3 p4=>aT he (fun Y' r' Z' a b c=>⟨Y',a,b,c⟩) p1 p2 p3 p4
      refine hc.HP fun r' Z' ⟨Y',q1,q2,q3⟩=>?_
      cases r1 with
      | Bd v=>
        cases h2;exact .inr (hQ Y' _ _ q1 q2 q3)
      | ret v=>
        obtain⟨v',q4,rfl⟩:=q2;obtain⟨u,h3,h4⟩:=AP h2;cases h4;obtain⟨Z'',g1,g2,g3⟩:=Nt (l:=PE s2 U7 v) q3;by_cases hp:BJ u=true
        .exact .inl ⟨v',u,Z'',rfl,g2,P5 q3 U7 v v' u h3 q4 g3,hQ Y' _ _ q1 ⟨u,RV.pure u hp,rfl⟩ g1⟩
        .exact absurd (WL s2 U7 v u h3) hp
 .rename_i c htab
  exact ht f _ htab vs s r s' h Y vs' Z hv hs Q hQ
 .cases h
def WQ {vs:List V}: ∀ {l:List (List V×V)} {v:V},VR vs l=some v->(vs,v)∈l
 | [],_,h=>by cases h
 | m ::r,v,h=>by
   simp only[VR]at h;cases hb:M7 m.1 vs with
   | true=>
     rw[hb]at h;cases h;have:=Gy _ _ hb;obtain⟨a,b⟩:=m;subst this;exact .head _
   | false=>rw[hb]at h;exact .tail _ (WQ h)
def Nw {tab:KF} (ht:Lr P tab) {memo:FB} (hm:HK P memo) {ih:AV->Env->St->Rs} (hi:R2 P ih):K9 P (HI tab memo ih):=by
 intro f vs s r s' h Y vs' Z hv hs Q hQ;unfold HI at h;split at h
 .exact Wb ht hi f vs s r s' h Y vs' Z hv hs Q hQ
 .rename_i m l hml
  split at h
  .rename_i v hf
   cases h;have hmem:=WQ hf;rw[<-hml]at hmem;obtain⟨h1,h2,h3⟩:=hm f _ hmem;rw[lg hv h1];refine(h3.use (Z:=Z) (k:=fun v Z'=>Q (.ret v) Z') (kp:=fun v Z'=>Q (.Bd v) Z') ?_).mono fun r Z' h=>?_
   .exact hQ Y _ Z (.refl _) ⟨v,RV.pure v h2,rfl⟩ hs
   .cases r<;>exact h
  .exact Wb ht hi f vs s r s' h Y vs' Z hv hs Q hQ
def SR.back {s:St} (hs:SR P Y s Z) {i:Nat} {m:Nat×Nat} (hm:Y i=some m) (hn:Z m.1=none) {o1:EO} {o1':O} (ho:RO P Y m.2 o1 o1') :
    SR P Y ⟨s.nx,Tr.set (some o1) BA s.t i⟩ (Gl.BV Z m.1 o1'):=by
 have hl:=bY (hs.lt hm)
 have hno:s.t.get i=none:=by
  cases hg:s.t.get i with
  | none=>rfl
  | some o=>
    obtain⟨o',h1,_⟩:=hs.at hg hm;rw[hn]at h1;cases h1
 have nm: ∀ {j q m1},s.t.get j=some q->Y j=some m1->m1.1≠m.1:=fun {j q m1} h1 h2 e=>by
  obtain⟨o',h3,_⟩:=hs.at h1 h2;rw[e,hn]at h3;cases h3
 refine⟨fun j o2 h1=>?_,fun j j' o2 o3 m1 m2 h1 h2 h3 h4 h5=>?_,hs.qH,hs.lim⟩
 .rw[Tr.Dw _ _ _ hl]at h1
  by_cases e:j=i
  .subst e
   rw[if_pos rfl]at h1;cases h1;exact⟨m,hm,o1',C6 _ _ _,ho⟩
  .rw[if_neg e]at h1
   obtain⟨m1,h2,o3,h3,h4⟩:=hs.get j o2 h1;exact⟨m1,h2,o3,by rw[CZ _ _ (nm h1 h2)];exact h3,h4⟩
 .rw[Tr.Dw _ _ _ hl]at h1 h2
  by_cases e:j=i<;>by_cases e':j'=i
  .omega
  .exfalso
   subst e;rw[if_neg e']at h2;rw[hm]at h3;cases h3;exact nm h2 h4 h5.symm
  .exfalso
   subst e';rw[if_neg e]at h1;rw[hm]at h4;cases h4;exact nm h1 h3 h5
  .rw[if_neg e]at h1
   rw[if_neg e']at h2;exact hs.inj j j' o2 o3 m1 m2 h1 h2 h3 h4 h5
def du {tab:KF} (ht:Lr P tab) {memo:FB} (hm:HK P memo) {ih:AV->Env->St->Rs} (hi:R2 P ih):J0 P (NM tab memo ih):=by
 intro x vs s r s' h Y x' vs' Z hx hv hs Q hQ;unfold NM at h;split at h
 .rename_i f first cap
  obtain⟨fn',a',b',h1,h2,h3,rfl⟩:=hx;simp only[bU]at h1;subst h1;exact Nw ht hm hi f _ s r s' h Y _ Z (((Bb.1 h2).app hv).app (Bb.1 h3)) hs Q hQ
 .rename_i L
  obtain⟨fn',a',b',⟨m,h1,rfl⟩,h2,h3,rfl⟩:=hx;have h2:=Bb.1 h2;have h3:=Bb.1 h3;cases h2;cases h3;split at h
  .rename_i env1 ps a b hg
   obtain⟨o',g1,env1',g2,rfl⟩:=hs.at hg h1;obtain⟨h4,h5⟩:=AW h;rw[Tr.put_eq]at h5;show Li P m.1 vs' Z Q;refine Qv g1 (by rw[hv.len];exact Cx h4) ?_;split at h5
   .rename_i e2 s1 hr1
    refine hi _ _ _ _ _ _ hr1 Y _ _ (RE.binds hv g2) (hs.del hg h1) _ fun Y1 ex₀ e₁ Z1 p1 p2 p3 p4=>?_
    cases p2;show T P b _ e₁ Z1;have hm1:=p1 _ _ h1;split at h5
    .rename_i e3 s2 hr2
     refine hi _ _ _ _ _ _ hr2 Y1 _ _ p3 p4 _ fun Y2 ex₀ e₂ Z2 u1 u2 u3 u4 hno=>?_
     cases u2;rw[Tr.put_eq]at h5;cases h5;exact hQ Y2 _ _ (p1.trans u1) ⟨_,RV.pure _ rfl,rfl⟩ (u4.back (u1 _ _ hm1) hno ⟨_,g2.mono (p1.trans u1),rfl⟩)
    .rename_i e3 s2 hr2
     refine hi _ _ _ _ _ _ hr2 Y1 _ _ p3 p4 _ fun Y2 ex₀ e₂ Z2 u1 u2 u3 u4 hno=>?_
     cases u2;rw[Tr.put_eq]at h5;cases h5;exact hQ Y2 _ _ (p1.trans u1) ⟨_,RV.pure _ rfl,rfl⟩ (u4.back (u1 _ _ hm1) hno ⟨_,g2.mono (p1.trans u1),rfl⟩)
    .rename_i id e3 s2 hr2
     refine hi _ _ _ _ _ _ hr2 Y1 _ _ p3 p4 _ fun Y2 ex₀ e₂ Z2 u1 u2 u3 u4 hno=>?_
     cases u2;rw[Tr.put_eq]at h5;cases h5;exact hQ Y2 _ _ (p1.trans u1) ⟨_,RV.pure _ rfl,rfl⟩ (u4.back (u1 _ _ hm1) hno ⟨_,g2.mono (p1.trans u1),rfl⟩)
    .rename_i v e3 s2 hr2
     refine hi _ _ _ _ _ _ hr2 Y1 _ _ p3 p4 _ fun Y2 ex₀ e₂ Z2 u1 u2 u3 u4 hno=>?_
     obtain⟨v',u5,rfl⟩:=u2;cases h5;exact hQ Y2 _ _ (p1.trans u1) ⟨v',u5,rfl⟩ u4
    .cases h5
   .cases h5
  .cases h
 .cases h
def SR.emp:SR P (fun _=>none) ⟨0,.leaf⟩ Gl.emp:=⟨fun _ _ h=>(by cases h),fun _ _ _ _ _ _ h=>(by cases h),fun _ _=>rfl,by show 0<=M3+1;omega⟩
def Wc {tab:KF} (ht:Lr P tab) {memo:FB} (hm:HK P memo) {ih:AV->Env->St->Rs} (hi:R2 P ih):NP P (PX tab memo ih):=by
 intro f vs v h;unfold PX at h;obtain⟨h1,h2⟩:=AW h;split at h2
 .rename_i u s hr
  split at h2
  .rename_i w hw
   obtain⟨h3,h4⟩:=AW h2;cases h4;refine⟨h1,h3,?_⟩;refine(Nw ht hm hi f vs _ _ _ hr (fun _=>none) vs Gl.emp (Bb.1 (RL.pure vs h1)) SR.emp (fun r Z'=> ∃Y' u',RV Y' u u'/\SR P Y' s Z'/\r= .ret u') fun Y' r' Z' _ q2 q3=>?_).HP fun r Z' ⟨Y',u',q1,q2,e⟩=>?_
   .obtain⟨u',q4,rfl⟩:=q2
    exact⟨Y',u',q4,q3,rfl⟩
   .subst e
    exact .inl ⟨u',v,Gl.emp,rfl,fun n o ho=>(by cases ho),sh q2 U7 u u' v hw q1,rfl,rfl⟩
  .cases h2
 .cases h2
def qy {tab : KF} (ht:Lr P tab) {memo:FB} (hm:HK P memo): ∀n,R2 P (run tab memo n):=by
 intro n
 induction n using Nat.strongRecOn with
 | ind n IH=>
   cases n with
   | zero=>intro c env s ex env' s' h;cases h
   | succ n=>
     have hi:=IH n (Nat.lt_succ_self n);have hcf:=Nw ht hm hi;have hcv:=du ht hm hi;have hcp:=Wc ht hm hi;intro c env s ex env' s' h Y env₀ Z he hs Q hQ;have h:Iu tab memo (run tab memo n) c env s=some (ex,env',s'):=h;cases c with
     | skip=>cases h;exact hQ Y _ _ _ (.refl _) rfl he hs
     | ret=>cases h;exact hQ Y _ _ _ (.refl _) rfl he hs
     | exit id=>cases h;exact hQ Y _ _ _ (.refl _) rfl he hs
     | Bt ops=>
       simp only[Iu]at h;refine(aU hcf hcv hcp h he hs (K:=fun env Z=>Q .normal env Z) (kp:=fun env v Z=>Q (.Bd v) env Z) (fun Y' e₁ Z' q1 q2 q3 q4=>?_) (fun Y' v v' e₁ Z' q1 q2 q3 q4 q5=>?_)).2.2
       .subst q2;exact hQ Y' _ _ _ q1 rfl q3 q4
       .subst q2;exact hQ Y' _ _ _ q1 ⟨v',q3,rfl⟩ q4 q5
     | EK l ops=>
       simp only[Iu]at h;show DO P ops (fun env Z=>Q .normal (prune l env) Z) (fun v Z=> ∀Z',Sub Z Z'->Q (.Bd v) [] Z') env₀ Z;split at h
       .rename_i e1 s1 hr
        cases h;exact P9 hcf hcv hcp hr he hs (fun Y' e₁ Z' q1 q2 q3 q4=>hQ Y' _ _ _ q1 rfl (q3.prune l) q4) (fun Y' v v' Z' q1 q2 q3 q4 q5=>by cases q2)
       .rename_i hne
        refine P9 hcf hcv hcp h he hs (fun Y' e₁ Z' q1 q2 q3 q4=>?_) (fun Y' v v' Z' q1 q2 q3 q4 q5=>?_)
        .subst q2;exact absurd h (hne _ _)
        .subst q2;subst q3;exact fun Z2 hs2=>hQ Y' _ _ _ q1 ⟨v',q4,rfl⟩ F2.nil ⟨fun i o hi=>let⟨m,a1,o',a2,a3⟩:=q5.get i o hi;⟨m,a1,o',hs2 _ _ a2,a3⟩,q5.inj,q5.qH,q5.lim⟩
     | seq l a b=>
       simp only[Iu]at h;show T P a (Ac.andThen (fun env Z=>Fz (prune l env) Z (T P b Q)) Q) env₀ Z;split at h
       .rename_i e1 s1 hr
        refine hi _ _ _ _ _ _ hr Y _ Z he hs _ fun Y1 ex₀ e₁ Z1 p1 p2 p3 p4=>?_
        cases p2;exact .inl <| hi _ _ _ _ _ _ h Y1 _ Z1 (p3.prune l) p4 _ fun Y2 ex₀ e₂ Z2 u1 u2 u3 u4=>hQ Y2 _ _ _ (p1.trans u1) u2 u3 u4
       .rename_i hne
        refine hi _ _ _ _ _ _ h Y _ Z he hs _ fun Y1 ex₀ e₁ Z1 p1 p2 p3 p4=>?_
        have hf:=hQ Y1 _ _ _ p1 p2 p3 p4;cases ex with
        | normal=>exact absurd h (hne _ _)
        | ret=>cases p2;exact hf
        | exit id=>cases p2;exact hf
        | Bd v=>obtain⟨v',u1,rfl⟩:=p2;exact hf
     | cond c a b=>
       simp only[Iu]at h;simp only[T];split at h
       .rename_i hc
        obtain⟨v',q1,q2⟩:=As he hc;simp only[RV]at q2;subst q2;rw[q1];exact⟨fun _=>hi _ _ _ _ _ _ h Y _ Z he hs _ hQ,fun e=>by cases e⟩
       .rename_i hc
        obtain⟨v',q1,q2⟩:=As he hc;simp only[RV]at q2;subst q2;rw[q1];exact⟨fun e=>(by cases e),fun _=>hi _ _ _ _ _ _ h Y _ Z he hs _ hQ⟩
       .cases h
     | block id a=>
       simp only[Iu]at h;show T P a (Ac.inBlock id Q) env₀ Z;split at h
       .rename_i id' e1 s1 hr
        refine hi _ _ _ _ _ _ hr Y _ Z he hs _ fun Y1 ex₀ e₁ Z1 p1 p2 p3 p4=>?_
        cases p2;simp only[Ac.inBlock];cases hb:Nat.beq id' id with
        | true=>rw[hb]at h;cases h;exact hQ Y1 _ _ _ p1 rfl p3 p4
        | false=>rw[hb]at h;cases h;exact hQ Y1 _ _ _ p1 rfl p3 p4
       .rename_i hne
        refine hi _ _ _ _ _ _ h Y _ Z he hs _ fun Y1 ex₀ e₁ Z1 p1 p2 p3 p4=>?_
        have hf:=hQ Y1 _ _ _ p1 p2 p3 p4;cases ex with
        | normal=>cases p2;exact hf
        | ret=>cases p2;exact hf
        | exit id=>exact absurd h (hne _ _ _)
        | Bd v=>obtain⟨v',u1,rfl⟩:=p2;exact hf
     | scope a=>
       simp only[Iu]at h;exact hi _ _ _ _ _ _ h Y _ Z he hs _ hQ
     | loop l a=>
       refine⟨fun m E τ=>m<=n+1/\ ∃e s1 Y1,Y.le Y1/\RE Y1 (prune l e) E/\SR P Y1 s1 τ/\run tab memo m (.loop l a) e s1=some (ex,env',s'),⟨n+1,I3 _,env,s,Y,.refl _,he.prune l,hs,h⟩,?_⟩;rintro m E τ ⟨hm1,e,s1,Y1,q1,q2,q3,q4⟩;cases m with
       | zero=>cases q4
       | succ m=>
         have hi1:=IH m (by omega)
         have q4:(match run tab memo m a (prune l e) s1 with
          | some (.normal,env',s')=>run tab memo m (.loop l a) env' s'
          | r=>r)=some (ex,env',s'):=q4
         split at q4
         .rename_i e2 s2 hr
          refine hi1 _ _ _ _ _ _ hr Y1 _ τ q2 q3 _ fun Y2 ex₀ e₁ Z1 p1 p2 p3 p4=>?_
          cases p2;exact⟨m,Nat.lt_succ_self m,by omega,e2,s2,Y2,q1.trans p1,p3.prune l,p4,q4⟩
         .rename_i hne
          refine hi1 _ _ _ _ _ _ q4 Y1 _ τ q2 q3 _ fun Y2 ex₀ e₁ Z1 p1 p2 p3 p4=>?_
          have hf:=hQ Y2 _ _ _ (q1.trans p1) p2 p3 p4;cases ex with
          | normal=>exact absurd q4 (hne _ _)
          | ret=>cases p2;exact hf
          | exit id=>cases p2;exact hf
          | Bd v=>obtain⟨v',u1,rfl⟩:=p2;exact hf
     | Dk l g ps a b=>
       simp only[Iu]at h;simp only[T];split at h
       .rename_i gf cap hg
        obtain⟨x',q1,fn',a',b',q2,q3,q4,rfl⟩:=As he hg;simp only[bU]at q2;subst q2;have q3:=Bb.1 q3;have q4:=Bb.1 q4;cases q3;rw[q1];intro L hL;obtain⟨h1,h2⟩:=St.IC h;obtain⟨Y1,p1,p2,p3⟩:=hs.new h1 hL 0 (o:= .loop .ready (prune l env) ps a b) (o':= .loop .ready (prune l env₀) (Bu P ps a b)) ⟨_,he.prune l,rfl⟩
        have hfy:RV Y1 (.f (.yield s.nx) [] []) (.f (.yield L) [] []):=by
         simp only[RV];exact⟨.yield L,[],[],⟨_,p2,rfl⟩,Bb.2 F2.nil,Bb.2 F2.nil,rfl⟩
        split at h2
        .rename_i v s2 hr
         refine hcf gf _ _ _ _ hr Y1 _ _ (F2.cons hfy (Lc.mono p1 q4)) p3 _ fun Y2 r' Z2 u1 u2 u3=>?_
         obtain⟨v',_,rfl⟩:=u2;split at h2
         .rename_i st e9 ps9 a9 b9 hg2
          rw[Tr.put_eq]at h2;have hm2:=u1 _ _ p2;obtain⟨o',w1,e8,w2,rfl⟩:=u3.at hg2 hm2;refine⟨st,e8,_,w1,?_⟩;have hd:=u3.del hg2 hm2;cases st<;>(simp only[id]at h2;cases h2;exact hQ Y2 _ _ _ (p1.trans u1) rfl (he.mono (p1.trans u1)) hd)
         .cases h2
        .rename_i v s2 hr
         refine hcf gf _ _ _ _ hr Y1 _ _ (F2.cons hfy (Lc.mono p1 q4)) p3 _ fun Y2 r' Z2 u1 u2 u3=>?_
         obtain⟨v',u4,rfl⟩:=u2;split at h2
         .rename_i o9 hg2
          rw[Tr.put_eq]at h2;have hm2:=u1 _ _ p2;have hd:=u3.del hg2 hm2;cases h2;exact hQ Y2 _ _ _ (p1.trans u1) ⟨v',u4,rfl⟩ (he.mono (p1.trans u1)) hd
         .cases h2
        .cases h2
       .cases h
def ft (tab:KF) (memo:FB) (n:Nat) (f:FuncId) (vs:List V) (v:V):Bool:=
 match PX tab memo (run tab memo n) f vs with
 | some u=>Em u v
 | none=>false
def Wv {tab:KF} (ht:Lr P tab) {memo:FB} (hm:HK P memo) {n:Nat} {f:FuncId} {vs:List V} {v:V} (h:ft tab memo n f vs v=true):B7 vs=true/\BJ v=true/\Pure P f vs v:=by
 unfold ft at h;split at h
 .rename_i u hu
  have:=O5 _ _ h;subst this;exact Wc ht hm (qy ht hm n) f vs u hu
 .cases h
end Go.Gl
