import Derived.Test.YtnidfcmdimehdaaGreatW36
set_option linter.all false
set_option linter.defProp false
set_option maxHeartbeats 8000000
noncomputable section
namespace Go.Gl
variable {P:Program} {Y Y':Ren} {Z:AE} {env env₀:Env}
def IS (cf:CF) (cv:CV) (cp:CP) (o:Am) (env:Env) (s:St):Option (R×St):=
 match o.guard with
 | none=>FT cf cv cp o.op env s
 | some (g,b)=>match get g env with
   | some (.b t)=>bif t==b then FT cf cv cp o.op env s else some (.ret (.t []),s)
   | some (.t [])=>some (.ret (.t []),s)
   | _=>none
def LL {cf:CF} {cv:CV} {cp:CP} (hcf:KT P cf) (hcv:JJ P cv) (hcp:Mo P cp) {o:Am} {s s':St} {r:R} (h:IS cf cv cp o env s=some (r,s')) (he:RE Y env env₀) (hs:SR P Y s Z) {k kp:V->AE->Prop}
    (hk: ∀Y' r' Z',Y.le Y'->oS Y' r r'->SR P Y' s' Z'->qk k kp r' Z'):Hf P o env₀ Z k kp:=by
 unfold IS at h;unfold Hf
 have skip:some (R.ret (.t []),s)=some (r,s')->k (.t []) Z:=fun e=>by
  cases e;exact hk Y (.ret (.t [])) Z (.refl _) ⟨_,RV.pure _ rfl,rfl⟩ hs
 split at h
 .rename_i hg
  rw[hg];exact fh hcf hcv hcp h he hs hk
 .rename_i g b hg
  rw[hg];split at h
  .rename_i t ht
   obtain⟨v',h1,h2⟩:=he.get ht;simp only[RV]at h2;subst h2;simp only[h1];refine⟨fun e=>?_,fun e=>?_⟩
   .subst e
    rw[beq_self_eq_true]at h;exact fh hcf hcv hcp h he hs hk
   .subst e
    have:((!b)==b)=false:=by cases b<;>rfl
    rw[this]at h;exact skip h
  .rename_i ht
   obtain⟨v',h1,h2⟩:=he.get ht;have e:=RV.kP h2 rfl;subst e;simp only[h1];exact skip h
  .cases h
def Hm {β:Type} (v:V) (K:V->β):β:=
 match v with
 | .i k (.ofNat 0)=>K (.i k (.ofNat 0))
 | .i k (.ofNat (m+1))=>K (.i k (.ofNat (m+1)))
 | .i k (.negSucc 0)=>K (.i k (.negSucc 0))
 | .i k (.negSucc (m+1))=>K (.i k (.negSucc (m+1)))
 | .b true=>K (.b true)
 | .b false=>K (.b false)
 | v=>K v
def HX {β:Type} (v:V) (K:V->β):Hm v K=K v:=by
 unfold Hm;split<;>rfl
abbrev Rs:=Option (Ab×Env×St)
def Uh (cf:CF) (cv:CV) (cp:CP):List Am->Env->St->Rs
 | [],env,s=>some (.normal,env,s)
 | o::r,env,s=>match IS cf cv cp o env s with
   | some (.ret v,s')=>Hm v fun v=>Uh cf cv cp r (put o.dst v env) s'
   | some (.BV v,s')=>some (.BV v,env,s')
   | none=>none
def RE.put (h:RE Y env env₀) {v v':V} (hv:RV Y v v') (d:Option Nat):RE Y (Gl.put d v env) (Gl.put d v' env₀):=by
 cases d with
 | none=>exact h
 | some d=>exact F2.cons ⟨rfl,hv⟩ h
def RE.prune (h:RE Y env env₀): ∀l:List Nat,RE Y (Gl.prune l env) (Gl.prune l env₀)
 | []=>F2.nil
 | k ::r=>by
   simp only[Gl.prune];cases hg:Gl.get k env with
   | none=>rw[h.vd hg];exact RE.prune h r
   | some v=>
     obtain⟨v',h1,h2⟩:=h.get hg;rw[h1];exact F2.cons ⟨rfl,h2⟩ (RE.prune h r)
def RE.args: ∀ {vs vs':List V} {i:Nat},Kw Y vs vs'->RE Y (Az i vs) (Az i vs')
 | [],_,_,h=>by cases h;exact F2.nil
 | _::_,_,i,⟨y,ys,h1,h2,e⟩=>by subst e;exact F2.cons ⟨rfl,h1⟩ (RE.args h2)
def RE.binds: ∀ {ps:List Nat} {vs vs':List V} {env env₀:Env},Kw Y vs vs'->RE Y env env₀->RE Y (D4 ps vs env) (D4 ps vs' env₀)
 | [],vs,vs',_,_,_,he=>by cases vs<;>cases vs'<;>exact he
 | p::ps,[],_,_,_,h,he=>by cases h;exact he
 | p::ps,_::_,_,_,_,⟨y,ys,h1,h2,e⟩,he=>by subst e;simp only[D4];exact RE.binds h2 (RE.put he h1 (some p))
def Zq {cf:CF} {cv:CV} {cp:CP} (hcf:KT P cf) (hcv:JJ P cv) (hcp:Mo P cp): ∀ {ops:List Am} {env env₀:Env} {Y:Ren} {Z:AE} {s s':St} {ex:Ab} {env':Env},Uh cf cv cp ops env s=some (ex,env',s')->RE Y env env₀->SR P Y s Z->
    ∀ {K:Env->AE->Prop} {kp:Env->V->AE->Prop},(∀Y' env₁ Z',Y.le Y'->ex= .normal->RE Y' env' env₁->SR P Y' s' Z'->K env₁ Z')->(∀Y' v v' env₁ Z',Y.le Y'->ex= .BV v->RV Y' v v'->RE Y' env' env₁->SR P Y' s' Z'->kp env₁ v' Z')->
    (∀id,ex≠ .exit id)/\ex≠ .ret/\IZ P ops K kp env₀ Z
 | [],env,env₀,Y,Z,s,s',ex,env',h,he,hs,K,kp,U,hp=>by cases h;exact⟨fun _ e=>(by cases e),fun e=>(by cases e),U Y _ _ (.refl _) rfl he hs⟩
 | o :: r, env,env₀,Y,Z,s,s',ex,env',h,he,hs,K,kp,U,hp=>by
   simp only[IZ]
   have h':(match IS cf cv cp o env s with
    | some (.ret v,s')=>Hm v fun v=>Uh cf cv cp r (put o.dst v env) s'
    | some (.BV v,s')=>some (.BV v,env,s')
    | none=>none)=some (ex,env',s'):=h
   split at h'
   .rename_i v s1 h1
    rw[HX]at h'
    have base: ∀Y1 v' Z1,Y.le Y1->RV Y1 v v'->SR P Y1 s1 Z1->(∀id,ex≠ .exit id)/\ex≠ .ret/\IZ P r K kp (put o.dst v' env₀) Z1:=fun Y1 v' Z1 q1 q2 q3=>
     Zq hcf hcv hcp h' ((he.mono q1).put q2 o.dst) q3 (fun Y' e₁ Z' p1 p2 p3 p4=>U Y' e₁ Z' (q1.trans p1) p2 p3 p4) (fun Y' v v' e₁ Z' p1 p2 p3 p4 p5=>hp Y' v v' e₁ Z' (q1.trans p1) p2 p3 p4 p5)
    have hx : (∀id,ex≠ .exit id)/\ex≠ .ret:=by
     clear base U hp
     have gen: ∀(ops:List Am) (env:Env) (s:St),Uh cf cv cp ops env s=some (ex,env',s')->(∀id,ex≠ .exit id)/\ex≠ .ret:=by
      intro ops
      induction ops with
      | nil=>intro env s h;cases h;exact⟨fun _ e=>(by cases e),fun e=>(by cases e)⟩
      | cons o r ih=>
        intro env s h
        have h':(match IS cf cv cp o env s with
         | some (.ret v,s')=>Hm v fun v=>Uh cf cv cp r (put o.dst v env) s'
         | some (.BV v,s')=>some (.BV v,env,s')
         | none=>none)=some (ex,env',s'):=h
        split at h'
        .rw[HX]at h';exact ih _ _ h'
        .cases h';exact⟨fun _ e=>(by cases e),fun e=>(by cases e)⟩
        .cases h'
     exact gen _ _ _ h'
    refine⟨hx.1,hx.2,LL hcf hcv hcp h1 he hs fun Y1 r1 Z1 q1 q2 q3=>?_⟩;obtain⟨v',q4,rfl⟩:=q2;exact(base Y1 v' Z1 q1 q4 q3).2.2
   .rename_i v s1 h1
    cases h';refine⟨fun _ e=>(by cases e),fun e=>(by cases e),LL hcf hcv hcp h1 he hs fun Y1 r1 Z1 q1 q2 q3=>?_⟩;obtain⟨v',q4,rfl⟩:=q2;exact hp Y1 v v' _ Z1 q1 rfl q4 (he.mono q1) q3
   .cases h'
def kF (cf:CF) (cv:CV) (cp:CP) (re:List Am) (env:Env) (s:St):Bool:=
 re.all fun x=>match IS cf cv cp x env s with
  | some (.ret u,_)=>match x.dst with
    | none=>true
    | some d=>match get d env with|some w=>EI u w|none=>false
  | _=>false
def RT (cf:CF) (cv:CV) (cp:CP):List CS->Env->St->Rs
 | [],env,s=>some (.normal,env,s)
 | d::r,env,s=>match IS cf cv cp d.o env s with
   | some (.ret v,s')=>Hm v fun v=>bif kF cf cv cp d.re (put d.o.dst v env) s' then RT cf cv cp r (put d.o.dst v env) s' else none
   | some (.BV v,s')=>some (.BV v,[],s')
   | none=>none
def fg {cf:CF} {cv:CV} {cp:CP} (hcf:KT P cf) (hcv:JJ P cv) (hcp:Mo P cp) {s:St} (he:RE Y env env₀) (hs:SR P Y s Z): ∀ {re:List Am},kF cf cv cp re env s=true->Dl P re env₀ Z
 | [],_=>trivial
 | x ::r,h=>by
   have h':((match IS cf cv cp x env s with
    | some (.ret u,_)=>match x.dst with
      | none=>true
      | some d=>match get d env with|some w=>EI u w|none=>false
    | _=>false)&&kF cf cv cp r env s)=true:=h
   simp only[A4]at h';refine⟨?_,fg hcf hcv hcp he hs h'.2⟩;have h1:=h'.1;split at h1
   .rename_i u s1 hu
    refine LL hcf hcv hcp hu he hs fun Y1 r1 Z1 q1 q2 q3=>?_
    obtain⟨u',q4,rfl⟩:=q2;intro d hd;rw[hd]at h1;simp only at h1;split at h1
    .rename_i w hw
     obtain⟨w',g1,g2⟩:=he.get hw;have e:=OW _ _ h1;subst e;rw[g1,RV.fn u w' u' (RV.mono q1 _ _ g2) q4]
    .cases h1
   .cases h1
def Ps {cf:CF} {cv:CV} {cp:CP} (hcf:KT P cf) (hcv:JJ P cv) (hcp:Mo P cp): ∀ {ops:List CS} {env env₀:Env} {Y:Ren} {Z:AE} {s s':St} {ex:Ab} {env':Env},RT cf cv cp ops env s=some (ex,env',s')->RE Y env env₀->SR P Y s Z->
    ∀ {K:Env->AE->Prop} {kp:V->AE->Prop},(∀Y' env₁ Z',Y.le Y'->ex= .normal->RE Y' env' env₁->SR P Y' s' Z'->K env₁ Z')->(∀Y' v v' Z',Y.le Y'->ex= .BV v->env'= []->RV Y' v v'->SR P Y' s' Z'->kp v' Z')->
    DA P ops K kp env₀ Z
 | [],env,env₀,Y,Z,s,s',ex,env',h,he,hs,K,kp,U,hp=>by cases h;exact U Y _ _ (.refl _) rfl he hs
 | d ::r,env,env₀,Y,Z,s,s',ex,env',h,he,hs,K,kp,U,hp=>by
   simp only[DA]
   have h':(match IS cf cv cp d.o env s with
    | some (.ret v,s')=>Hm v fun v=>bif kF cf cv cp d.re (put d.o.dst v env) s' then RT cf cv cp r (put d.o.dst v env) s' else none
    | some (.BV v,s')=>some (.BV v,[],s')
    | none=>none)=some (ex,env',s'):=h
   split at h'
   .rename_i v s1 h1
    rw[HX]at h';obtain⟨h2,h3⟩:=AV h';refine LL hcf hcv hcp h1 he hs fun Y1 r1 Z1 q1 q2 q3=>?_
    obtain⟨v',q4,rfl⟩:=q2;have he':=(he.mono q1).put q4 d.o.dst;exact⟨fg hcf hcv hcp he' q3 h2,Ps hcf hcv hcp h3 he' q3 (fun Y' e₁ Z' p1 p2 p3 p4=>U Y' e₁ Z' (q1.trans p1) p2 p3 p4) (fun Y' v v' Z' p1 p2 p3 p4 p5=>hp Y' v v' Z' (q1.trans p1) p2 p3 p4 p5)⟩
   .rename_i v s1 h1
    cases h';refine LL hcf hcv hcp h1 he hs fun Y1 r1 Z1 q1 q2 q3=>?_
    obtain⟨v',q4,rfl⟩:=q2;exact hp Y1 v v' Z1 q1 rfl rfl q4 q3
   .cases h'
def J6 {α β:Type} (f:α->Option β):List α->Option (List β)
 | []=>some []
 | x::r=>ob (f x) fun y=>ob (J6 f r) fun ys=>some (y::ys)
def He (s:St):Nat->V->Option V
 | 0,_=>none
 | d + 1,v=>bif BC v then some v else
   match v with
   | .p n 0=>match s.t.get n with
     | some (.cs vs)=>ob (J6 (He s d) vs) fun us=>some (.rp us)
     | _=>none
   | .sl n len _=>match s.t.get n with
     | some (.arr _ es)=>bif Nat.beq len es.length then ob (J6 (J6 (He s d)) es) fun us=>some (.l us false)else none
     | _=>none
   | .a cs=>ob (J6 (He s d) cs) fun us=>some (.a us)
   | .t cs=>ob (J6 (He s d) cs) fun us=>some (.t us)
   | .rp cs=>ob (J6 (He s d) cs) fun us=>some (.rp us)
   | .l es f=>ob (J6 (J6 (He s d)) es) fun us=>some (.l us f)
   | .Ee t x=>ob (He s d x) fun u=>some (.Ee t u)
   | _=>none
def Om (s:St):Nat->V->List Nat
 | 0,_=>[]
 | d + 1,v=>bif BC v then []else
   match v with
   | .p n 0=>match s.t.get n with
     | some (.cs vs)=>n::vs.flatMap (Om s d)
     | _=>[]
   | .sl n _ _=>match s.t.get n with
     | some (.arr _ es)=>n::es.flatMap fun e=>e.flatMap (Om s d)
     | _=>[]
   | .a cs=>cs.flatMap (Om s d)
   | .t cs=>cs.flatMap (Om s d)
   | .rp cs=>cs.flatMap (Om s d)
   | .l es _=>es.flatMap fun e=>e.flatMap (Om s d)
   | .Ee _ x=>Om s d x
   | _=>[]
def PO (s:St):List Nat->St
 | []=>s
 | i::r=>match s.t.get i with
   | some _=>Tr.put none A3 s.t i fun t=>PO ⟨s.nx,t⟩ r
   | none=>PO s r
def NA: ∀ {l:List Nat} {s:St} {Z:AE},SR P Y s Z-> ∃Z',SR P Y (PO s l) Z'/\Sub Z' Z/\ ∀i∈l,∀m,Y i=some m->(s.t.get i).isSome=true->Z' m.1=none
 | [],s,Z,h=>⟨Z,h,Sub.refl _,fun _ h=>by cases h⟩
 | i ::r,s,Z,h=>by
   simp only[PO];split
   .rename_i o hg
    rw[Tr.put_eq];obtain⟨m,hm,_⟩:=h.get i o hg;obtain⟨Z',h1,h2,h3⟩:=NA (l:=r) (h.del hg hm);have hsub:Sub (del Z m.1) Z:=Fa Z m.1;refine⟨Z',h1,h2.trans hsub,fun j hj m' hm' hl=>?_⟩;by_cases e:j=i
    .subst e
     rw[hm]at hm';cases hm';exact h2.none (DD Z m.1)
    .rcases FR.1 hj with e'|hj
     .exact absurd e' e
     .refine h3 j hj m' hm' ?_
      show((Tr.set none A3 s.t i).get j).isSome=true;rw[Tr.De _ _ _ (aU (h.lt hm)),if_neg e];exact hl
   .rename_i hg
    obtain⟨Z',h1,h2,h3⟩:=NA (l:=r) h;refine⟨Z',h1,h2,fun j hj m' hm' hl=>?_⟩;rcases FR.1 hj with e'|hj
    .subst e';rw[hg]at hl;cases hl
    .exact h3 j hj m' hm' hl
def HG {f:V->Option V} {g:V->List Nat} {s:St} {Z Z':AE} (hf: ∀v v' u,f v=some u->RV Y v v'->(∀i∈g v,∀m,Y i=some m->(s.t.get i).isSome=true->Z' m.1=none)->FZ Z Z' v' u): ∀ {vs vs' us:List V},J6 f vs=some us->Kw Y vs vs'->
    (∀i∈vs.flatMap g,∀m,Y i=some m->(s.t.get i).isSome=true->Z' m.1=none)->Cz Z Z' vs' us
 | [],_,_,h,h',_=>by cases h;cases h';exact .nil
 | x::r,_,us,h,⟨y,ys,h1,h2,e⟩,hd=>by
   subst e;replace h:=AR h;obtain⟨u,h3,h⟩:=h;replace h:=AR h;obtain⟨us,h4,h⟩:=h;cases h;exact .cons (hf _ _ _ h3 h1 fun i hi=>hd i (by simp only[List.flatMap_cons,Dm];exact .inl hi)) (HG hf h4 h2 fun i hi=>hd i (by simp only[List.flatMap_cons,Dm];exact .inr hi))
def M5 {f:V->Option V} {g:V->List Nat} {s:St} {Z Z':AE} (hf: ∀v v' u,f v=some u->RV Y v v'->(∀i∈g v,∀m,Y i=some m->(s.t.get i).isSome=true->Z' m.1=none)->FZ Z Z' v' u): ∀ {vs vs' us:List (List V)},J6 (J6 f) vs=some us->dL Y vs vs'->
    (∀i∈vs.flatMap (fun e=>e.flatMap g),∀m,Y i=some m->(s.t.get i).isSome=true->Z' m.1=none)->FA Z Z' vs' us
 | [],_,_,h,h',_=>by cases h;cases h';exact .nil
 | x::r,_,us,h,⟨y,ys,h1,h2,e⟩,hd=>by
   subst e;replace h:=AR h;obtain⟨u,h3,h⟩:=h;replace h:=AR h;obtain⟨us,h4,h⟩:=h;cases h;exact .cons (HG hf h3 h1 fun i hi=>hd i (by simp only[List.flatMap_cons,Dm];exact .inl hi)) (M5 hf h4 h2 fun i hi=>hd i (by simp only[List.flatMap_cons,Dm];exact .inr hi))
def Po {s : St} (hs:SR P Y s Z) {Z':AE}: ∀(d:Nat) (v v' u:V),He s d v=some u->RV Y v v'->(∀i∈Om s d v,∀m,Y i=some m->(s.t.get i).isSome=true->Z' m.1=none)->FZ Z Z' v' u
 | 0,_,_,_,h,_,_=>by cases h
 | d + 1,v,v',u,h,hv,hd=>by
   have ih:=Po hs (Z':=Z') d;simp only[He]at h;simp only[Om]at hd;cases hp:BC v with
   | true=>
     rw[hp]at h;cases h;rw[RV.kP hv hp];exact .refl _
   | false=>
     rw[hp]at h hd;simp only[cond_false]at h hd;split at h
     .obtain⟨m,g1,rfl⟩:=hv
      split at h
      .rename_i vs hg
       replace h:=AR h;obtain⟨us,h1,h⟩:=h;cases h;simp only[hg]at hd;obtain⟨o',g2,vs',g3,rfl⟩:=hs.at hg g1;exact .cs g2 (hd _ (.head _) m g1 (by rw[hg];rfl)) (HG ih h1 g3 fun i hi=>hd i (.tail _ hi))
      .cases h
     .obtain⟨m,g1,rfl⟩:=hv
      split at h
      .rename_i es hg
       replace h:=AV h;obtain⟨h0,h⟩:=h;replace h:=AR h;obtain⟨us,h1,h⟩:=h;cases h;simp only[hg]at hd;obtain⟨o',g2,es',g3,rfl⟩:=hs.at hg g1;exact .arr g2 (hd _ (.head _) m g1 (by rw[hg];rfl)) (by rw[g3.len];exact Cg h0) (M5 ih h1 g3 fun i hi=>hd i (.tail _ hi))
      .cases h
     .replace h:=AR h;obtain⟨us,h1,h⟩:=h
      cases h;obtain⟨c,g1,rfl⟩:=hv;exact .a (HG ih h1 (BQ.1 g1) hd)
     .replace h:=AR h;obtain⟨us,h1,h⟩:=h
      cases h;obtain⟨c,g1,rfl⟩:=hv;exact .t (HG ih h1 (BQ.1 g1) hd)
     .replace h:=AR h;obtain⟨us,h1,h⟩:=h
      cases h;obtain⟨c,g1,rfl⟩:=hv;exact .rp (HG ih h1 (BQ.1 g1) hd)
     .replace h:=AR h;obtain⟨us,h1,h⟩:=h
      cases h;obtain⟨c,g1,rfl⟩:=hv;exact .l (fun e=>e) (M5 ih h1 (FF.1 g1) hd)
     .replace h:=AR h;obtain⟨us,h1,h⟩:=h
      cases h;obtain⟨c,g1,rfl⟩:=hv;exact .Ee (ih _ _ _ h1 g1 hd)
     .cases h
def r5 {s:St} (hs:SR P Y s Z) (d:Nat) (v v' u:V) (h:He s d v=some u) (hv:RV Y v v'):FZ Z emp v' u:=Po hs d v v' u h hv fun _ _ _ _ _=>rfl
def Fl {f:V->Option V} (hf: ∀v u,f v=some u->BC u=true): ∀ {vs us:List V},J6 f vs=some us->B3 us=true
 | [],_,h=>by cases h;rfl
 | x::r,us,h=>by
   replace h:=AR h;obtain⟨u,h3,h⟩:=h;replace h:=AR h;obtain⟨us,h4,h⟩:=h;cases h;simp only[B3,hf _ _ h3,Fl hf h4,Bool.and_self]
def Kh {f:V->Option V} (hf: ∀v u,f v=some u->BC u=true): ∀ {vs us:List (List V)},J6 (J6 f) vs=some us->RM us=true
 | [],_,h=>by cases h;rfl
 | x::r,us,h=>by
   replace h:=AR h;obtain⟨u,h3,h⟩:=h;replace h:=AR h;obtain⟨us,h4,h⟩:=h;cases h;simp only[RM,Fl hf h3,Kh hf h4,Bool.and_self]
def Vz (s : St): ∀(d:Nat) (v u:V),He s d v=some u->BC u=true
 | 0,_,_,h=>by cases h
 | d + 1,v,u,h=>by
   have ih:=Vz s d;simp only[He]at h;cases hp:BC v with
   | true=>rw[hp]at h;cases h;exact hp
   | false=>
     rw[hp]at h;simp only[cond_false]at h;split at h
     .split at h
      .replace h:=AR h;obtain⟨us,h1,h⟩:=h
       cases h;simp only[BC];exact Fl ih h1
      .cases h
     .split at h
      .replace h:=AV h;obtain⟨h0,h⟩:=h
       replace h:=AR h;obtain⟨us,h1,h⟩:=h;cases h;simp only[BC];exact Kh ih h1
      .cases h
     .replace h:=AR h;obtain⟨us,h1,h⟩:=h
      cases h;simp only[BC];exact Fl ih h1
     .replace h:=AR h;obtain⟨us,h1,h⟩:=h
      cases h;simp only[BC];exact Fl ih h1
     .replace h:=AR h;obtain⟨us,h1,h⟩:=h
      cases h;simp only[BC];exact Fl ih h1
     .replace h:=AR h;obtain⟨us,h1,h⟩:=h
      cases h;simp only[BC];exact Kh ih h1
     .replace h:=AR h;obtain⟨us,h1,h⟩:=h
      cases h;simp only[BC];exact ih _ _ h1
     .cases h
def Uf:Nat:=60
def qK:Option (R×St)->Option (R×St)
 | some (.ret v,s)=>ob (He s Uf v) fun u=>some (.ret u,PO s (Om s Uf v))
 | r=>r
def Ao.He {f:FuncId} {args:List V} {Z:AE} {Q Q':R->AE->Prop} (h:Ao P f args Z Q) (hq: ∀r Z',Q r Z'->(∃v vf Z'',r= .ret v/\Sub Z'' Z'/\FZ Z' Z'' v vf/\Q' (.ret vf) Z'')\/Q' r Z'):Ao P f args Z Q':=
 ⟨h.1,fun F w cs h1 h2=>Calls.mono (h.2 F w cs h1 h2) fun e w' ⟨r,Z',q1,q2,q3,q4⟩=>by
  rcases hq r Z' q1 with⟨v,vf,Z'',rfl,p1,p2,p3⟩|h
  .obtain⟨c,rfl,q5⟩:=q2
   exact⟨.ret vf,Z'',p3,⟨c,rfl,p2.rel q3 p1 q5⟩,q3.drop p1,q4.trans (Bw.drop w' p1)⟩
  .exact⟨r,Z',h,q2,q3,q4⟩⟩
inductive aO where
 | fn (n:Nat) (ac:AU) (AF:List RS)
 | uz (n:Nat) (aA:AU) (ops:List Am) (x:Bb) (aC:AU) (AF:List RS) (l1 l2:List Nat)
 | uq (n:Nat) (k:Nat) (ops:List Am) (ac:AU) (l:List Nat)
 | vH (n:Nat) (ac:AU) (AF:List RS)
 | aR (c:List V->St->Option (R×St))
 | xl (n:Nat) (ac:AU)
def N7 (P:Program) (f:FuncId):aO->Prop
 | .fn n ac AF=> ∀(args:List V) (Z:AE) (Q:R->AE->Prop),args.length<=n->T P ac (Uq AF Q) (Az 0 args) Z->Ao P f args Z Q
 | .vH n ac AF=> ∀(args:List V) (Z:AE) (Q:R->AE->Prop),args.length<=n->T P ac (Uq AF Q) (Az 0 args) Z->Ao P f args Z Q
 | .uz n aA ops x aC AF l1 l2=> ∀(args:List V) (Z:AE) (Q:R->AE->Prop),args.length<=n->T P (.seq l1 aA (.Cl ops)) (CG (Oo P x l2 aC AF Q)) (Az 0 args) Z->Ao P f args Z Q
 | .uq n k ops ac l=> ∀(args:List V) (m:Option V) (Z:AE) (Q:AE->Prop),args.length<=n->T P (.seq l (.Cl ops) ac) (N8 Q) (put (some k) (m.getD .DT) (Az 0 args)) Z->G0 P f args m Z Q
 | .aR c=> ∀vs s r s',c vs s=some (r,s')-> ∀Y vs' Z,Kw Y vs vs'->SR P Y s Z-> ∀Q:R->AE->Prop,(∀Y' r' Z',Y.le Y'->oS Y' r r'->SR P Y' s' Z'->Q r' Z')->Ao P f vs' Z Q
 | .xl n ac=> ∀(args:List V) (Z:AE) (Q:AE->Prop),args.length<=n->T P ac (N8 Q) (Az 0 args) Z->G0 P f args none Z Q
abbrev Jh:=FuncId->Option aO
def K9 (P:Program) (tab:Jh):Prop:= ∀f fs,tab f=some fs->N7 P f fs
abbrev Ef:=FuncId->List (List V×V)
def Gk (P:Program) (memo:Ef):Prop:= ∀f,∀m∈memo f,B3 m.1=true/\BC m.2=true/\Pure P f m.1 m.2
def Yj (s:St) (env:Env):List RS->Option (List V)
 | []=>some []
 | .t n::r=>ob (get n env) fun v=>ob (Yj s env r) fun vs=>some (v::vs)
 | .c n g::r=>ob (get n env) fun a=>ob (NU s g a) fun v=>ob (Yj s env r) fun vs=>some (v::vs)
def Mb {s:St} (he:RE Y env env₀) (hs:SR P Y s Z): ∀ {l:List RS} {vs:List V},Yj s env l=some vs-> ∀ {K:List V->Prop},(∀vs',Kw Y vs vs'->K vs')->UK Z env₀ l K
 | [],vs,h,K,U=>by cases h;exact U _ F2.nil
 | .t n::r,vs,h,K,U=>by
   replace h:=AR h;obtain⟨v,h1,h⟩:=h;replace h:=AR h;obtain⟨us,h2,h⟩:=h;cases h;obtain⟨v',e1,e2⟩:=he.get h1;simp only[UK,e1,EU];exact Mb he hs h2 fun us' hu=>U _ (F2.cons e2 hu)
 | .c n g::r,vs,h,K,U=>by
   replace h:=AR h;obtain⟨a,h1,h⟩:=h;replace h:=AR h;obtain⟨v,h3,h⟩:=h;replace h:=AR h;obtain⟨us,h2,h⟩:=h;cases h;obtain⟨v',e1,e2⟩:=he.get h1;simp only[UK,e1,EU];exact V6 hs h3 e2 fun w hw=>Mb he hs h2 fun us' hu=>U _ (F2.cons hw hu)
def OG {vs vs':List V} (h:Kw Y vs vs'):RV Y (EH vs) (EH vs'):=by
 match vs,vs',h with
 | [],_,h=>cases h;simp only[EH,RV];exact⟨[],BQ.2 F2.nil,rfl⟩
 | [v],_,⟨y,ys,h1,h2,e⟩=>cases h2;subst e;exact h1
 | v::u::r,_,⟨y,ys,h1,⟨z,zs,h2,h3,e⟩,e'⟩=>
   subst e;subst e';show RV Y (.t (v::u::r)) (.t (y::z::zs));simp only[RV];exact⟨_,BQ.2 (F2.cons h1 (F2.cons h2 h3)),rfl⟩
def aX (AF:List RS) (r:Rs):Option (R×St):=
 match r with
 | some (.normal,env,s)=>ob (Yj s env AF) fun vs=>some (.ret (EH vs),s)
 | some (.ret,env,s)=>ob (Yj s env AF) fun vs=>some (.ret (EH vs),s)
 | some (.BV v,_,s)=>some (.BV v,s)
 | _=>none
def XM (tab:Jh) (ih:AU->Env->St->Rs) (g:FuncId) (cap:List V) (m:Option V) (AF:List RS) (env:Env) (s:St):Option (R×St):=
 match tab g with
 | some (.uq n k ops ac l)=>bif Nat.ble cap.length n then
  match ih (.seq l (.Cl ops) ac) (put (some k) (m.getD .DT) (Az 0 cap)) s with
  | some (.normal,_,s')=>ob (Yj s' env AF) fun vs=>some (.ret (EH vs),s')
  | some (.ret,_,s')=>ob (Yj s' env AF) fun vs=>some (.ret (EH vs),s')
  | _=>none
   else none
 | some (.xl n ac)=>match m with
   | some _=>none
   | none=>bif Nat.ble cap.length n then
     match ih ac (Az 0 cap) s with
     | some (.normal,_,s')=>ob (Yj s' env AF) fun vs=>some (.ret (EH vs),s')
     | some (.ret,_,s')=>ob (Yj s' env AF) fun vs=>some (.ret (EH vs),s')
     | _=>none
   else none
 | _=>none
def RU (tab:Jh) (ih:AU->Env->St->Rs) (f:FuncId) (vs:List V) (s:St):Option (R×St):=
 match tab f with
 | some (.fn n ac AF)=>bif Nat.ble vs.length n then aX AF (ih ac (Az 0 vs) s)else none
 | some (.uz n aA ops x aC AF l1 l2)=>bif Nat.ble vs.length n then
  match ih (.seq l1 aA (.Cl ops)) (Az 0 vs) s with
  | some (.normal,env,s1)=>match DG env x with
    | some (.f (.func g) [] cap)=>match ih aC (prune l2 env) s1 with
      | some (.normal,env2,s2)=>XM tab ih g cap none AF env2 s2
      | some (.ret,env2,s2)=>XM tab ih g cap none AF env2 s2
      | some (.BV v,env2,s2)=>XM tab ih g cap (some v) AF env2 s2
      | _=>none
    | _=>none
  | _=>none
   else none
 | some (.vH n ac AF)=>bif Nat.ble vs.length n then qK (aX AF (ih ac (Az 0 vs) s))else none
 | some (.aR c)=>c vs s
 | _=>none
def U5 (vs:List V):List (List V×V)->Option V
 | []=>none
 | m::r=>bif MP m.1 vs then some m.2 else U5 vs r
def Gi (tab:Jh) (memo:Ef) (ih:AU->Env->St->Rs):CF:=fun f vs s=>
 match memo f with
 | []=>RU tab ih f vs s
 | m::r=>match U5 vs (m::r)with
   | some v=>some (.ret v,s)
   | none=>RU tab ih f vs s
def Mg (tab:Jh) (memo:Ef) (ih:AU->Env->St->Rs):CV:=fun x vs s=>
 match x with
 | .f (.func f) first cap=>Gi tab memo ih f (first++vs++cap) s
 | .f (.yield L) [] []=>match s.t.get L with
   | some (.loop .ready env ps a b)=>bif Nat.beq vs.length ps.length then
    Tr.put none A3 s.t L fun t=>match ih a (D4 ps vs env) ⟨s.nx,t⟩with
    | some (.normal,env1,s1)=>match ih b env1 s1 with
      | some (.normal,_,s2)=>Tr.put (some (.loop .ready env ps a b)) A3 s2.t L fun t=>some (.ret (.b true),⟨s2.nx,t⟩)
      | some (.ret,_,s2)=>Tr.put (some (.loop .ret env ps a b)) A3 s2.t L fun t=>some (.ret (.b false),⟨s2.nx,t⟩)
      | some (.exit id,_,s2)=>Tr.put (some (.loop (.exit id) env ps a b)) A3 s2.t L fun t=>some (.ret (.b false),⟨s2.nx,t⟩)
      | some (.BV v,_,s2)=>some (.BV v,s2)
      | none=>none
    | _=>none
     else none
   | _=>none
 | _=>none
def O9 (tab:Jh) (memo:Ef) (ih:AU->Env->St->Rs):CP:=fun f vs=>
 bif B3 vs then match Gi tab memo ih f vs ⟨0,.leaf⟩with
  | some (.ret v,s)=>match He s Uf v with
    | some u=>bif BC u then some u else none
    | none=>none
  | _=>none
 else none
def IE (tab:Jh) (memo:Ef) (ih:AU->Env->St->Rs) (c:AU) (env:Env) (s:St):Rs:=
 match c with
 | .skip=>some (.normal,env,s)
 | .ret=>some (.ret,env,s)
 | .exit id=>some (.exit id,env,s)
 | .Cl ops=>Uh (Gi tab memo ih) (Mg tab memo ih) (O9 tab memo ih) ops env s
 | .GX l ops=>match RT (Gi tab memo ih) (Mg tab memo ih) (O9 tab memo ih) ops env s with
   | some (.normal,env',s')=>some (.normal,prune l env',s')
   | r=>r
 | .seq l a b=>match ih a env s with
   | some (.normal,env',s')=>ih b (prune l env') s'
   | r=>r
 | .cond c a b=>match DG env c with
   | some (.b true)=>ih a env s
   | some (.b false)=>ih b env s
   | _=>none
 | .block id a=>match ih a env s with
   | some (.exit id',env',s')=>bif Nat.beq id' id then some (.normal,env',s')else some (.exit id',env',s')
   | r=>r
 | .scope a=>ih a env s
 | .loop l a=>match ih a (prune l env) s with
   | some (.normal,env',s')=>ih (.loop l a) env' s'
   | r=>r
 | .DV l g ps a b=>match DG env g with
   | some (.f (.func gf) [] cap)=>s.new (.loop .ready (prune l env) ps a b) fun i s1=>
    match Gi tab memo ih gf (.f (.yield i) [] []::cap) s1 with
    | some (.ret _,s2)=>match s2.t.get i with
      | some (.loop st _ _ _ _)=>Tr.put none A3 s2.t i fun t=>some ((match st with| .ready=> .normal| .ret=> .ret| .exit id=> .exit id),env,⟨s2.nx,t⟩)
      | _=>none
    | some (.BV v,s2)=>match s2.t.get i with
      | some _=>Tr.put none A3 s2.t i fun t=>some (.BV v,env,⟨s2.nx,t⟩)
      | none=>none
    | none=>none
   | _=>none
def run (tab:Jh) (memo:Ef):Nat->AU->Env->St->Rs
 | 0,_,_,_=>none
 | n+1,c,env,s=>IE tab memo (run tab memo n) c env s
def RY (P:Program) (ih:AU->Env->St->Rs):Prop:= ∀c env s ex env' s',ih c env s=some (ex,env',s')-> ∀Y env₀ Z,RE Y env env₀->SR P Y s Z->
 ∀Q:Ab->Env->AE->Prop,(∀Y' ex₀ env₁ Z',Y.le Y'->xw Y' ex ex₀->RE Y' env' env₁->SR P Y' s' Z'->Q ex₀ env₁ Z')->T P c Q env₀ Z
def xw.normal {ex:Ab} (h:xw Y .normal ex):ex= .normal:=h
def Zp {AF:List RS} {ex:Ab} {env':Env} {s1 s':St} {r:R} (h:aX AF (some (ex,env',s1))=some (r,s')) {Q:R->AE->Prop}
    (hQ: ∀Y' r' Z',Y.le Y'->oS Y' r r'->SR P Y' s' Z'->Q r' Z') {Y':Ren} {ex₀:Ab} {env₁:Env} {Z':AE} (q1:Y.le Y') (q2:xw Y' ex ex₀) (q3:RE Y' env' env₁) (q4:SR P Y' s1 Z'):Uq AF Q ex₀ env₁ Z':=by
 cases ex with
 | normal=>
   cases q2;replace h:=AR h;obtain⟨vs,h1,h⟩:=h;cases h;exact Mb q3 q4 h1 fun vs' hv=>⟨_,Z',Sub.refl _,.refl _,hQ Y' _ Z' q1 ⟨_,OG hv,rfl⟩ q4⟩
 | ret=>
   cases q2;replace h:=AR h;obtain⟨vs,h1,h⟩:=h;cases h;exact Mb q3 q4 h1 fun vs' hv=>⟨_,Z',Sub.refl _,.refl _,hQ Y' _ Z' q1 ⟨_,OG hv,rfl⟩ q4⟩
 | exit id=>cases h
 | BV v=>
   cases h;obtain⟨v',h1,rfl⟩:=q2;exact⟨v',Z',Sub.refl _,.refl _,hQ Y' (.BV v') Z' q1 ⟨v',h1,rfl⟩ q4⟩
def G0.mono {f:FuncId} {args:List V} {m:Option V} {Z:AE} {Q Q':AE->Prop} (h:G0 P f args m Z Q) (hq: ∀Z',Q Z'->Q' Z'):G0 P f args m Z Q':=
 ⟨h.1,fun F w cs u h1 h2 h3=>CallsDIn.mono (h.2 F w cs u h1 h2 h3) fun e u' w' ⟨a,b,Z',c,d⟩=>⟨a,b,Z',hq _ c,d⟩⟩
def Tz {tab:Jh} (ht:K9 P tab) {ih:AU->Env->St->Rs} (hi:RY P ih) {g:FuncId} {cap cap':List V} {m m':Option V} {AF:List RS} {s s':St} {r:R} (h:XM tab ih g cap m AF env s=some (r,s'))
    (he:RE Y env env₀) (hs:SR P Y s Z) (hc:Kw Y cap cap') (hm:oR Y m m') {Q:R->AE->Prop} (hQ: ∀Y' r' Z',Y.le Y'->oS Y' r r'->SR P Y' s' Z'->Q r' Z') :
    G0 P g cap' m' Z fun Z'=>UK Z' env₀ AF fun vs=>Ai Z' (EH vs) Q:=by
 unfold XM at h;split at h
 .rename_i n k ops ac l htab
  obtain⟨h1,h2⟩:=AV h
  have hg:RV Y (m.getD .DT) (m'.getD .DT):=by
   cases m with
   | none=>cases hm;exact RV.pure _ rfl
   | some v=>obtain⟨v',h3,rfl⟩:=hm;exact h3
  have fin: ∀ {ex:Ab} {e2:Env} {s2:St},ih (.seq l (.Cl ops) ac) (put (some k) (m.getD .DT) (Az 0 cap)) s=some (ex,e2,s2)->(ex= .normal\/ex= .ret)->(ob (Yj s2 env AF) fun vs=>some (R.ret (EH vs),s2))=some (r,s')->
   G0 P g cap' m' Z fun Z'=>UK Z' env₀ AF fun vs=>Ai Z' (EH vs) Q:=fun {ex e2 s2} q1 q2 q3=>by
   obtain⟨vs,q4,q5⟩:=AR q3;cases q5;refine ht g _ htab cap' m' Z _ (by rw[hc.len];exact Nat.le_of_ble_eq_true h1) ?_;refine hi _ _ _ _ _ _ q1 Y _ Z ((RE.args hc).put hg (some k)) hs _ fun Y' ex₀ e₁ Z' p1 p2 p3 p4=>?_
   have base:UK Z' env₀ AF fun vs=>Ai Z' (EH vs) Q:=Mb (he.mono p1) p4 q4 fun vs' hv=>⟨_,Z',Sub.refl _,.refl _,hQ Y' _ Z' p1 ⟨_,OG hv,rfl⟩ p4⟩
   rcases q2 with e|e
   .subst e;cases p2;exact base
   .subst e;cases p2;exact base
  split at h2
  .rename_i hr;exact fin hr (.inl rfl) h2
  .rename_i hr;exact fin hr (.inr rfl) h2
  .cases h2
 .rename_i n ac htab
  cases m with
  | some v=>cases h
  | none=>
    cases hm;obtain⟨h1,h2⟩:=AV h
    have fin: ∀ {ex:Ab} {e2:Env} {s2:St},ih ac (Az 0 cap) s=some (ex,e2,s2)->(ex= .normal\/ex= .ret)->(ob (Yj s2 env AF) fun vs=>some (R.ret (EH vs),s2))=some (r,s')->
     G0 P g cap' none Z fun Z'=>UK Z' env₀ AF fun vs=>Ai Z' (EH vs) Q:=fun {ex e2 s2} q1 q2 q3=>by
     obtain⟨vs,q4,q5⟩:=AR q3;cases q5;refine ht g _ htab cap' Z _ (by rw[hc.len];exact Nat.le_of_ble_eq_true h1) ?_;refine hi _ _ _ _ _ _ q1 Y _ Z (RE.args hc) hs _ fun Y' ex₀ e₁ Z' p1 p2 p3 p4=>?_
     have base:UK Z' env₀ AF fun vs=>Ai Z' (EH vs) Q:=Mb (he.mono p1) p4 q4 fun vs' hv=>⟨_,Z',Sub.refl _,.refl _,hQ Y' _ Z' p1 ⟨_,OG hv,rfl⟩ p4⟩
     rcases q2 with e|e
     .subst e;cases p2;exact base
     .subst e;cases p2;exact base
    split at h2
    .rename_i hr;exact fin hr (.inl rfl) h2
    .rename_i hr;exact fin hr (.inr rfl) h2
    .cases h2
 .cases h
def WC {tab:Jh} (ht:K9 P tab) {ih:AU->Env->St->Rs} (hi:RY P ih):KT P (RU tab ih):=by
 intro f vs s r s' h Y vs' Z hv hs Q hQ;unfold RU at h;split at h
 .rename_i n ac AF htab
  obtain⟨h1,h2⟩:=AV h;cases hr:ih ac (Az 0 vs) s with
  | none=>rw[hr]at h2;cases h2
  | some x=>
    obtain⟨ex,env',s1⟩:=x;rw[hr]at h2;refine ht f _ htab vs' Z Q (by rw[hv.len];exact Nat.le_of_ble_eq_true h1) ?_;exact hi _ _ _ _ _ _ hr Y _ Z (RE.args hv) hs _ fun Y' ex₀ e₁ Z' p1 p2 p3 p4=>Zp h2 hQ p1 p2 p3 p4
 .rename_i n aA ops x aC AF l1 l2 htab
  obtain⟨h1,h2⟩:=AV h;split at h2
  .rename_i env1 s1 hr1
   split at h2
   .rename_i g cap hx
    refine ht f _ htab vs' Z Q (by rw[hv.len];exact Nat.le_of_ble_eq_true h1) ?_;refine hi _ _ _ _ _ _ hr1 Y _ Z (RE.args hv) hs _ fun Y1 ex₀ e₁ Z1 p1 p2 p3 p4=>?_
    cases p2;obtain⟨x',q1,fn',a',b',q2,q3,q4,rfl⟩:=Ap p3 hx;simp only[aN]at q2;subst q2;have q3:=BQ.1 q3;cases q3;show Oo P x l2 aC AF Q e₁ Z1;simp only[Oo,q1,EU];split at h2
    .rename_i env2 s2 hr2
     refine hi _ _ _ _ _ _ hr2 Y1 _ Z1 (p3.prune l2) p4 _ fun Y2 ex₀ e₂ Z2 u1 u2 u3 u4=>?_
     cases u2;exact Tz ht hi h2 u3 u4 (Kw.mono u1 (BQ.1 q4)) rfl fun Y3 r' Z3 w1 w2 w3=>hQ Y3 r' Z3 ((p1.trans u1).trans w1) w2 w3
    .rename_i env2 s2 hr2
     refine hi _ _ _ _ _ _ hr2 Y1 _ Z1 (p3.prune l2) p4 _ fun Y2 ex₀ e₂ Z2 u1 u2 u3 u4=>?_
     cases u2;exact Tz ht hi h2 u3 u4 (Kw.mono u1 (BQ.1 q4)) rfl fun Y3 r' Z3 w1 w2 w3=>hQ Y3 r' Z3 ((p1.trans u1).trans w1) w2 w3
    .rename_i v env2 s2 hr2
     refine hi _ _ _ _ _ _ hr2 Y1 _ Z1 (p3.prune l2) p4 _ fun Y2 ex₀ e₂ Z2 u1 u2 u3 u4=>?_
     obtain⟨v',u5,rfl⟩:=u2;exact Tz ht hi h2 u3 u4 (Kw.mono u1 (BQ.1 q4)) ⟨v',u5,rfl⟩ fun Y3 r' Z3 w1 w2 w3=>hQ Y3 r' Z3 ((p1.trans u1).trans w1) w2 w3
    .cases h2
   .cases h2
  .cases h2
 .rename_i n ac AF htab
  replace h:=AV h;obtain⟨h1,h2⟩:=h;cases hr:ih ac (Az 0 vs) s with
  | none=>rw[hr]at h2;cases h2
  | some x=>
    obtain⟨ex,env',s1⟩:=x;rw[hr]at h2;cases he:aX AF (some (ex,env',s1))with
    | none=>rw[he]at h2;cases h2
    | some y=>
      obtain⟨r1,s2⟩:=y;rw[he]at h2
      have hc:Ao P f vs' Z fun r' Z'=> ∃Y',Y.le Y'/\oS Y' r1 r'/\SR P Y' s2 Z':=by
       refine ht f _ htab vs' Z _ (by rw[hv.len];exact Nat.le_of_ble_eq_true h1) ?_;exact hi _ _ _ _ _ _ hr Y _ Z (RE.args hv) hs _ fun Y' ex₀ e₁ Z' p1 p2 p3 p4=>Zp he (fun Y' r' Z' a b c=>⟨Y',a,b,c⟩) p1 p2 p3 p4
      refine hc.He fun r' Z' ⟨Y',q1,q2,q3⟩=>?_
      cases r1 with
      | BV v=>
        cases h2;exact .inr (hQ Y' _ _ q1 q2 q3)
      | ret v=>
        obtain⟨v',q4,rfl⟩:=q2;obtain⟨u,h3,h4⟩:=AR h2;cases h4;obtain⟨Z'',g1,g2,g3⟩:=NA (l:=Om s2 Uf v) q3;by_cases hp:BC u=true
        .exact .inl ⟨v',u,Z'',rfl,g2,Po q3 Uf v v' u h3 q4 g3,hQ Y' _ _ q1 ⟨u,RV.pure u hp,rfl⟩ g1⟩
        .exact absurd (Vz s2 Uf v u h3) hp
 .rename_i c htab
  exact ht f _ htab vs s r s' h Y vs' Z hv hs Q hQ
 .cases h
def V2 {vs:List V}: ∀ {l:List (List V×V)} {v:V},U5 vs l=some v->(vs,v)∈l
 | [],_,h=>by cases h
 | m ::r,v,h=>by
   simp only[U5]at h;cases hb:MP m.1 vs with
   | true=>
     rw[hb]at h;cases h;have:=GP _ _ hb;obtain⟨a,b⟩:=m;subst this;exact .head _
   | false=>rw[hb]at h;exact .tail _ (V2 h)
def ND {tab:Jh} (ht:K9 P tab) {memo:Ef} (hm:Gk P memo) {ih:AU->Env->St->Rs} (hi:RY P ih):KT P (Gi tab memo ih):=by
 intro f vs s r s' h Y vs' Z hv hs Q hQ;unfold Gi at h;split at h
 .exact WC ht hi f vs s r s' h Y vs' Z hv hs Q hQ
 .rename_i m l hml
  split at h
  .rename_i v hf
   cases h;have hmem:=V2 hf;rw[<-hml]at hmem;obtain⟨h1,h2,h3⟩:=hm f _ hmem;rw[kz hv h1];refine(h3.use (Z:=Z) (k:=fun v Z'=>Q (.ret v) Z') (kp:=fun v Z'=>Q (.BV v) Z') ?_).mono fun r Z' h=>?_
   .exact hQ Y _ Z (.refl _) ⟨v,RV.pure v h2,rfl⟩ hs
   .cases r<;>exact h
  .exact WC ht hi f vs s r s' h Y vs' Z hv hs Q hQ
def SR.back {s:St} (hs:SR P Y s Z) {i:Nat} {m:Nat×Nat} (hm:Y i=some m) (hn:Z m.1=none) {o1:EO} {o1':O} (ho:RO P Y m.2 o1 o1') :
    SR P Y ⟨s.nx,Tr.set (some o1) A3 s.t i⟩ (Gl.Bo Z m.1 o1'):=by
 have hl:=aU (hs.lt hm)
 have hno:s.t.get i=none:=by
  cases hg:s.t.get i with
  | none=>rfl
  | some o=>
    obtain⟨o',h1,_⟩:=hs.at hg hm;rw[hn]at h1;cases h1
 have nm: ∀ {j q m1},s.t.get j=some q->Y j=some m1->m1.1≠m.1:=fun {j q m1} h1 h2 e=>by
  obtain⟨o',h3,_⟩:=hs.at h1 h2;rw[e,hn]at h3;cases h3
 refine⟨fun j o2 h1=>?_,fun j j' o2 o3 m1 m2 h1 h2 h3 h4 h5=>?_,hs.pb,hs.lim⟩
 .rw[Tr.De _ _ _ hl]at h1
  by_cases e:j=i
  .subst e
   rw[if_pos rfl]at h1;cases h1;exact⟨m,hm,o1',Cw _ _ _,ho⟩
  .rw[if_neg e]at h1
   obtain⟨m1,h2,o3,h3,h4⟩:=hs.get j o2 h1;exact⟨m1,h2,o3,by rw[CW _ _ (nm h1 h2)];exact h3,h4⟩
 .rw[Tr.De _ _ _ hl]at h1 h2
  by_cases e:j=i<;>by_cases e':j'=i
  .omega
  .exfalso
   subst e;rw[if_neg e']at h2;rw[hm]at h3;cases h3;exact nm h2 h4 h5.symm
  .exfalso
   subst e';rw[if_neg e]at h1;rw[hm]at h4;cases h4;exact nm h1 h3 h5
  .rw[if_neg e]at h1
   rw[if_neg e']at h2;exact hs.inj j j' o2 o3 m1 m2 h1 h2 h3 h4 h5
def cq {tab:Jh} (ht:K9 P tab) {memo:Ef} (hm:Gk P memo) {ih:AU->Env->St->Rs} (hi:RY P ih):JJ P (Mg tab memo ih):=by
 intro x vs s r s' h Y x' vs' Z hx hv hs Q hQ;unfold Mg at h;split at h
 .rename_i f first cap
  obtain⟨fn',a',b',h1,h2,h3,rfl⟩:=hx;simp only[aN]at h1;subst h1;exact ND ht hm hi f _ s r s' h Y _ Z (((BQ.1 h2).app hv).app (BQ.1 h3)) hs Q hQ
 .rename_i L
  obtain⟨fn',a',b',⟨m,h1,rfl⟩,h2,h3,rfl⟩:=hx;have h2:=BQ.1 h2;have h3:=BQ.1 h3;cases h2;cases h3;split at h
  .rename_i env1 ps a b hg
   obtain⟨o',g1,env1',g2,rfl⟩:=hs.at hg h1;obtain⟨h4,h5⟩:=AV h;rw[Tr.put_eq]at h5;show MQ P m.1 vs' Z Q;refine QW g1 (by rw[hv.len];exact Cg h4) ?_;split at h5
   .rename_i e2 s1 hr1
    refine hi _ _ _ _ _ _ hr1 Y _ _ (RE.binds hv g2) (hs.del hg h1) _ fun Y1 ex₀ e₁ Z1 p1 p2 p3 p4=>?_
    cases p2;show T P b _ e₁ Z1;have hm1:=p1 _ _ h1;split at h5
    .rename_i e3 s2 hr2
     refine hi _ _ _ _ _ _ hr2 Y1 _ _ p3 p4 _ fun Y2 ex₀ e₂ Z2 u1 u2 u3 u4 hno=>?_
     cases u2;rw[Tr.put_eq]at h5;cases h5;exact hQ Y2 _ _ (p1.trans u1) ⟨_,RV.pure _ rfl,rfl⟩ (u4.back (u1 _ _ hm1) hno ⟨_,g2.mono (p1.trans u1),rfl⟩)
    .rename_i e3 s2 hr2
     refine hi _ _ _ _ _ _ hr2 Y1 _ _ p3 p4 _ fun Y2 ex₀ e₂ Z2 u1 u2 u3 u4 hno=>?_
     cases u2;rw[Tr.put_eq]at h5;cases h5;exact hQ Y2 _ _ (p1.trans u1) ⟨_,RV.pure _ rfl,rfl⟩ (u4.back (u1 _ _ hm1) hno ⟨_,g2.mono (p1.trans u1),rfl⟩)
    .rename_i id e3 s2 hr2
     refine hi _ _ _ _ _ _ hr2 Y1 _ _ p3 p4 _ fun Y2 ex₀ e₂ Z2 u1 u2 u3 u4 hno=>?_
     cases u2;rw[Tr.put_eq]at h5;cases h5;exact hQ Y2 _ _ (p1.trans u1) ⟨_,RV.pure _ rfl,rfl⟩ (u4.back (u1 _ _ hm1) hno ⟨_,g2.mono (p1.trans u1),rfl⟩)
    .rename_i v e3 s2 hr2
     refine hi _ _ _ _ _ _ hr2 Y1 _ _ p3 p4 _ fun Y2 ex₀ e₂ Z2 u1 u2 u3 u4 hno=>?_
     obtain⟨v',u5,rfl⟩:=u2;cases h5;exact hQ Y2 _ _ (p1.trans u1) ⟨v',u5,rfl⟩ u4
    .cases h5
   .cases h5
  .cases h
 .cases h
def SR.emp:SR P (fun _=>none) ⟨0,.leaf⟩ Gl.emp:=⟨fun _ _ h=>(by cases h),fun _ _ _ _ _ _ h=>(by cases h),fun _ _=>rfl,by show 0<=ML+1;omega⟩
def WE {tab:Jh} (ht:K9 P tab) {memo:Ef} (hm:Gk P memo) {ih:AU->Env->St->Rs} (hi:RY P ih):Mo P (O9 tab memo ih):=by
 intro f vs v h;unfold O9 at h;obtain⟨h1,h2⟩:=AV h;split at h2
 .rename_i u s hr
  split at h2
  .rename_i w hw
   obtain⟨h3,h4⟩:=AV h2;cases h4;refine⟨h1,h3,?_⟩;refine(ND ht hm hi f vs _ _ _ hr (fun _=>none) vs Gl.emp (BQ.1 (RL.pure vs h1)) SR.emp (fun r Z'=> ∃Y' u',RV Y' u u'/\SR P Y' s Z'/\r= .ret u') fun Y' r' Z' _ q2 q3=>?_).He fun r Z' ⟨Y',u',q1,q2,e⟩=>?_
   .obtain⟨u',q4,rfl⟩:=q2
    exact⟨Y',u',q4,q3,rfl⟩
   .subst e
    exact .inl ⟨u',v,Gl.emp,rfl,fun n o ho=>(by cases ho),r5 q2 Uf u u' v hw q1,rfl,rfl⟩
  .cases h2
 .cases h2
def qZ {tab : Jh} (ht:K9 P tab) {memo:Ef} (hm:Gk P memo): ∀n,RY P (run tab memo n):=by
 intro n
 induction n using Nat.strongRecOn with
 | ind n IH=>
   cases n with
   | zero=>intro c env s ex env' s' h;cases h
   | succ n=>
     have hi:=IH n (Nat.lt_succ_self n);have hcf:=ND ht hm hi;have hcv:=cq ht hm hi;have hcp:=WE ht hm hi;intro c env s ex env' s' h Y env₀ Z he hs Q hQ;have h:IE tab memo (run tab memo n) c env s=some (ex,env',s'):=h;cases c with
     | skip=>cases h;exact hQ Y _ _ _ (.refl _) rfl he hs
     | ret=>cases h;exact hQ Y _ _ _ (.refl _) rfl he hs
     | exit id=>cases h;exact hQ Y _ _ _ (.refl _) rfl he hs
     | Cl ops=>
       simp only[IE]at h;refine(Zq hcf hcv hcp h he hs (K:=fun env Z=>Q .normal env Z) (kp:=fun env v Z=>Q (.BV v) env Z) (fun Y' e₁ Z' q1 q2 q3 q4=>?_) (fun Y' v v' e₁ Z' q1 q2 q3 q4 q5=>?_)).2.2
       .subst q2;exact hQ Y' _ _ _ q1 rfl q3 q4
       .subst q2;exact hQ Y' _ _ _ q1 ⟨v',q3,rfl⟩ q4 q5
     | GX l ops=>
       simp only[IE]at h;show DA P ops (fun env Z=>Q .normal (prune l env) Z) (fun v Z=> ∀Z',Sub Z Z'->Q (.BV v) [] Z') env₀ Z;split at h
       .rename_i e1 s1 hr
        cases h;exact Ps hcf hcv hcp hr he hs (fun Y' e₁ Z' q1 q2 q3 q4=>hQ Y' _ _ _ q1 rfl (q3.prune l) q4) (fun Y' v v' Z' q1 q2 q3 q4 q5=>by cases q2)
       .rename_i hne
        refine Ps hcf hcv hcp h he hs (fun Y' e₁ Z' q1 q2 q3 q4=>?_) (fun Y' v v' Z' q1 q2 q3 q4 q5=>?_)
        .subst q2;exact absurd h (hne _ _)
        .subst q2;subst q3;exact fun Z2 hs2=>hQ Y' _ _ _ q1 ⟨v',q4,rfl⟩ F2.nil ⟨fun i o hi=>let⟨m,a1,o',a2,a3⟩:=q5.get i o hi;⟨m,a1,o',hs2 _ _ a2,a3⟩,q5.inj,q5.pb,q5.lim⟩
     | seq l a b=>
       simp only[IE]at h;show T P a (Ab.andThen (fun env Z=>Fz (prune l env) Z (T P b Q)) Q) env₀ Z;split at h
       .rename_i e1 s1 hr
        refine hi _ _ _ _ _ _ hr Y _ Z he hs _ fun Y1 ex₀ e₁ Z1 p1 p2 p3 p4=>?_
        cases p2;exact .inl <| hi _ _ _ _ _ _ h Y1 _ Z1 (p3.prune l) p4 _ fun Y2 ex₀ e₂ Z2 u1 u2 u3 u4=>hQ Y2 _ _ _ (p1.trans u1) u2 u3 u4
       .rename_i hne
        refine hi _ _ _ _ _ _ h Y _ Z he hs _ fun Y1 ex₀ e₁ Z1 p1 p2 p3 p4=>?_
        have hf:=hQ Y1 _ _ _ p1 p2 p3 p4;cases ex with
        | normal=>exact absurd h (hne _ _)
        | ret=>cases p2;exact hf
        | exit id=>cases p2;exact hf
        | BV v=>obtain⟨v',u1,rfl⟩:=p2;exact hf
     | cond c a b=>
       simp only[IE]at h;simp only[T];split at h
       .rename_i hc
        obtain⟨v',q1,q2⟩:=Ap he hc;simp only[RV]at q2;subst q2;rw[q1];exact⟨fun _=>hi _ _ _ _ _ _ h Y _ Z he hs _ hQ,fun e=>by cases e⟩
       .rename_i hc
        obtain⟨v',q1,q2⟩:=Ap he hc;simp only[RV]at q2;subst q2;rw[q1];exact⟨fun e=>(by cases e),fun _=>hi _ _ _ _ _ _ h Y _ Z he hs _ hQ⟩
       .cases h
     | block id a=>
       simp only[IE]at h;show T P a (Ab.inBlock id Q) env₀ Z;split at h
       .rename_i id' e1 s1 hr
        refine hi _ _ _ _ _ _ hr Y _ Z he hs _ fun Y1 ex₀ e₁ Z1 p1 p2 p3 p4=>?_
        cases p2;simp only[Ab.inBlock];cases hb:Nat.beq id' id with
        | true=>rw[hb]at h;cases h;exact hQ Y1 _ _ _ p1 rfl p3 p4
        | false=>rw[hb]at h;cases h;exact hQ Y1 _ _ _ p1 rfl p3 p4
       .rename_i hne
        refine hi _ _ _ _ _ _ h Y _ Z he hs _ fun Y1 ex₀ e₁ Z1 p1 p2 p3 p4=>?_
        have hf:=hQ Y1 _ _ _ p1 p2 p3 p4;cases ex with
        | normal=>cases p2;exact hf
        | ret=>cases p2;exact hf
        | exit id=>exact absurd h (hne _ _ _)
        | BV v=>obtain⟨v',u1,rfl⟩:=p2;exact hf
     | scope a=>
       simp only[IE]at h;exact hi _ _ _ _ _ _ h Y _ Z he hs _ hQ
     | loop l a=>
       refine⟨fun m E τ=>m<=n+1/\ ∃e s1 Y1,Y.le Y1/\RE Y1 (prune l e) E/\SR P Y1 s1 τ/\run tab memo m (.loop l a) e s1=some (ex,env',s'),⟨n+1,IN _,env,s,Y,.refl _,he.prune l,hs,h⟩,?_⟩;rintro m E τ ⟨hm1,e,s1,Y1,q1,q2,q3,q4⟩;cases m with
       | zero=>cases q4
       | succ m=>
         have hi1:=IH m (by omega)
         have q4:(match run tab memo m a (prune l e) s1 with
          | some (.normal,env',s')=>run tab memo m (.loop l a) env' s'
          | r=>r)=some (ex,env',s'):=q4
         split at q4
         .rename_i e2 s2 hr
          refine hi1 _ _ _ _ _ _ hr Y1 _ τ q2 q3 _ fun Y2 ex₀ e₁ Z1 p1 p2 p3 p4=>?_
          cases p2;exact⟨m,Nat.lt_succ_self m,by omega,e2,s2,Y2,q1.trans p1,p3.prune l,p4,q4⟩
         .rename_i hne
          refine hi1 _ _ _ _ _ _ q4 Y1 _ τ q2 q3 _ fun Y2 ex₀ e₁ Z1 p1 p2 p3 p4=>?_
          have hf:=hQ Y2 _ _ _ (q1.trans p1) p2 p3 p4;cases ex with
          | normal=>exact absurd q4 (hne _ _)
          | ret=>cases p2;exact hf
          | exit id=>cases p2;exact hf
          | BV v=>obtain⟨v',u1,rfl⟩:=p2;exact hf
     | DV l g ps a b=>
       simp only[IE]at h;simp only[T];split at h
       .rename_i gf cap hg
        obtain⟨x',q1,fn',a',b',q2,q3,q4,rfl⟩:=Ap he hg;simp only[aN]at q2;subst q2;have q3:=BQ.1 q3;have q4:=BQ.1 q4;cases q3;rw[q1];intro L hL;obtain⟨h1,h2⟩:=St.Hl h;obtain⟨Y1,p1,p2,p3⟩:=hs.new h1 hL 0 (o:= .loop .ready (prune l env) ps a b) (o':= .loop .ready (prune l env₀) (BW P ps a b)) ⟨_,he.prune l,rfl⟩
        have hfy:RV Y1 (.f (.yield s.nx) [] []) (.f (.yield L) [] []):=by
         simp only[RV];exact⟨.yield L,[],[],⟨_,p2,rfl⟩,BQ.2 F2.nil,BQ.2 F2.nil,rfl⟩
        split at h2
        .rename_i v s2 hr
         refine hcf gf _ _ _ _ hr Y1 _ _ (F2.cons hfy (Kw.mono p1 q4)) p3 _ fun Y2 r' Z2 u1 u2 u3=>?_
         obtain⟨v',_,rfl⟩:=u2;split at h2
         .rename_i st e9 ps9 a9 b9 hg2
          rw[Tr.put_eq]at h2;have hm2:=u1 _ _ p2;obtain⟨o',w1,e8,w2,rfl⟩:=u3.at hg2 hm2;refine⟨st,e8,_,w1,?_⟩;have hd:=u3.del hg2 hm2;cases st<;>(simp only[id]at h2;cases h2;exact hQ Y2 _ _ _ (p1.trans u1) rfl (he.mono (p1.trans u1)) hd)
         .cases h2
        .rename_i v s2 hr
         refine hcf gf _ _ _ _ hr Y1 _ _ (F2.cons hfy (Kw.mono p1 q4)) p3 _ fun Y2 r' Z2 u1 u2 u3=>?_
         obtain⟨v',u4,rfl⟩:=u2;split at h2
         .rename_i o9 hg2
          rw[Tr.put_eq]at h2;have hm2:=u1 _ _ p2;have hd:=u3.del hg2 hm2;cases h2;exact hQ Y2 _ _ _ (p1.trans u1) ⟨v',u4,rfl⟩ (he.mono (p1.trans u1)) hd
         .cases h2
        .cases h2
       .cases h
def ez (tab:Jh) (memo:Ef) (n:Nat) (f:FuncId) (vs:List V) (v:V):Bool:=
 match O9 tab memo (run tab memo n) f vs with
 | some u=>EI u v
 | none=>false
def Wd {tab:Jh} (ht:K9 P tab) {memo:Ef} (hm:Gk P memo) {n:Nat} {f:FuncId} {vs:List V} {v:V} (h:ez tab memo n f vs v=true):B3 vs=true/\BC v=true/\Pure P f vs v:=by
 unfold ez at h;split at h
 .rename_i u hu
  have:=OW _ _ h;subst this;exact WE ht hm (qZ ht hm n) f vs u hu
 .cases h
end Go.Gl
