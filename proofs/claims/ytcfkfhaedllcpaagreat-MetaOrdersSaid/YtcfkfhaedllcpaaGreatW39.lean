import Derived.Test.YtcfkfhaedllcpaaGreatW38
set_option linter.all false
set_option linter.defProp false
set_option maxHeartbeats 8000000
noncomputable section
namespace Go.Gl
variable {P:Program} {Y Y':Ren} {Z:AE} {env env₀:Env}
def Iu (cf:CF) (cv:CV) (cp:CP) (o:Am) (env:Env) (s:St):Option (R×St):=
 match o.guard with
 | none=>Fg cf cv cp o.op env s
 | some (g,b)=>match get g env with
   | some (.b t)=>bif t==b then Fg cf cv cp o.op env s else some (.ret (.t []),s)
   | some (.t [])=>some (.ret (.t []),s)
   | _=>none
def Lj {cf:CF} {cv:CV} {cp:CP} (hcf:Kp P cf) (hcv:Jj P cv) (hcp:NA P cp) {o:Am} {s s':St} {r:R} (h:Iu cf cv cp o env s=some (r,s')) (he:RE Y env env₀) (hs:SR P Y s Z) {k kp:V->AE->Prop}
    (hk: ∀Y' r' Z',Y.le Y'->oE Y' r r'->SR P Y' s' Z'->qk k kp r' Z'):Hm P o env₀ Z k kp:=by
 unfold Iu at h;unfold Hm
 have skip:some (R.ret (.t []),s)=some (r,s')->k (.t []) Z:=fun e=>by
  cases e;exact hk Y (.ret (.t [])) Z (.refl _) ⟨_,RV.pure _ rfl,rfl⟩ hs
 split at h
 .rename_i hg
  rw[hg];exact fk hcf hcv hcp h he hs hk
 .rename_i g b hg
  rw[hg];split at h
  .rename_i t ht
   obtain⟨v',h1,h2⟩:=he.get ht;simp only[RV]at h2;subst h2;simp only[h1];refine⟨fun e=>?_,fun e=>?_⟩
   .subst e
    rw[beq_self_eq_true]at h;exact fk hcf hcv hcp h he hs hk
   .subst e
    have:((!b)==b)=false:=by cases b<;>rfl
    rw[this]at h;exact skip h
  .rename_i ht
   obtain⟨v',h1,h2⟩:=he.get ht;have e:=RV.kC h2 rfl;subst e;simp only[h1];exact skip h
  .cases h
def Hw {β:Type} (v:V) (K:V->β):β:=
 match v with
 | .i k (.ofNat 0)=>K (.i k (.ofNat 0))
 | .i k (.ofNat (m+1))=>K (.i k (.ofNat (m+1)))
 | .i k (.negSucc 0)=>K (.i k (.negSucc 0))
 | .i k (.negSucc (m+1))=>K (.i k (.negSucc (m+1)))
 | .b true=>K (.b true)
 | .b false=>K (.b false)
 | v=>K v
def He {β:Type} (v:V) (K:V->β):Hw v K=K v:=by
 unfold Hw;split<;>rfl
abbrev Rs:=Option (Aa×Env×St)
def Ut (cf:CF) (cv:CV) (cp:CP):List Am->Env->St->Rs
 | [],env,s=>some (.normal,env,s)
 | o::r,env,s=>match Iu cf cv cp o env s with
   | some (.ret v,s')=>Hw v fun v=>Ut cf cv cp r (put o.dst v env) s'
   | some (.Bb v,s')=>some (.Bb v,env,s')
   | none=>none
def RE.put (h:RE Y env env₀) {v v':V} (hv:RV Y v v') (d:Option Nat):RE Y (Gl.put d v env) (Gl.put d v' env₀):=by
 cases d with
 | none=>exact h
 | some d=>exact F2.cons ⟨rfl,hv⟩ h
def RE.prune (h:RE Y env env₀): ∀l:List Nat,RE Y (Gl.prune l env) (Gl.prune l env₀)
 | []=>F2.nil
 | k ::r=>by
   simp only[Gl.prune];cases hg:Gl.get k env with
   | none=>rw[h.wR hg];exact RE.prune h r
   | some v=>
     obtain⟨v',h1,h2⟩:=h.get hg;rw[h1];exact F2.cons ⟨rfl,h2⟩ (RE.prune h r)
def RE.args: ∀ {vs vs':List V} {i:Nat},LK Y vs vs'->RE Y (A2 i vs) (A2 i vs')
 | [],_,_,h=>by cases h;exact F2.nil
 | _::_,_,i,⟨y,ys,h1,h2,e⟩=>by subst e;exact F2.cons ⟨rfl,h1⟩ (RE.args h2)
def RE.binds: ∀ {ps:List Nat} {vs vs':List V} {env env₀:Env},LK Y vs vs'->RE Y env env₀->RE Y (En ps vs env) (En ps vs' env₀)
 | [],vs,vs',_,_,_,he=>by cases vs<;>cases vs'<;>exact he
 | p::ps,[],_,_,_,h,he=>by cases h;exact he
 | p::ps,_::_,_,_,_,⟨y,ys,h1,h2,e⟩,he=>by subst e;simp only[En];exact RE.binds h2 (RE.put he h1 (some p))
def Zz {cf:CF} {cv:CV} {cp:CP} (hcf:Kp P cf) (hcv:Jj P cv) (hcp:NA P cp): ∀ {ops:List Am} {env env₀:Env} {Y:Ren} {Z:AE} {s s':St} {ex:Aa} {env':Env},Ut cf cv cp ops env s=some (ex,env',s')->RE Y env env₀->SR P Y s Z->
    ∀ {K:Env->AE->Prop} {kp:Env->V->AE->Prop},(∀Y' env₁ Z',Y.le Y'->ex= .normal->RE Y' env' env₁->SR P Y' s' Z'->K env₁ Z')->(∀Y' v v' env₁ Z',Y.le Y'->ex= .Bb v->RV Y' v v'->RE Y' env' env₁->SR P Y' s' Z'->kp env₁ v' Z')->
    (∀id,ex≠ .exit id)/\ex≠ .ret/\I3 P ops K kp env₀ Z
 | [],env,env₀,Y,Z,s,s',ex,env',h,he,hs,K,kp,U,hp=>by cases h;exact⟨fun _ e=>(by cases e),fun e=>(by cases e),U Y _ _ (.refl _) rfl he hs⟩
 | o :: r, env,env₀,Y,Z,s,s',ex,env',h,he,hs,K,kp,U,hp=>by
   simp only[I3]
   have h':(match Iu cf cv cp o env s with
    | some (.ret v,s')=>Hw v fun v=>Ut cf cv cp r (put o.dst v env) s'
    | some (.Bb v,s')=>some (.Bb v,env,s')
    | none=>none)=some (ex,env',s'):=h
   split at h'
   .rename_i v s1 h1
    rw[He]at h'
    have base: ∀Y1 v' Z1,Y.le Y1->RV Y1 v v'->SR P Y1 s1 Z1->(∀id,ex≠ .exit id)/\ex≠ .ret/\I3 P r K kp (put o.dst v' env₀) Z1:=fun Y1 v' Z1 q1 q2 q3=>
     Zz hcf hcv hcp h' ((he.mono q1).put q2 o.dst) q3 (fun Y' e₁ Z' p1 p2 p3 p4=>U Y' e₁ Z' (q1.trans p1) p2 p3 p4) (fun Y' v v' e₁ Z' p1 p2 p3 p4 p5=>hp Y' v v' e₁ Z' (q1.trans p1) p2 p3 p4 p5)
    have hx : (∀id,ex≠ .exit id)/\ex≠ .ret:=by
     clear base U hp
     have gen: ∀(ops:List Am) (env:Env) (s:St),Ut cf cv cp ops env s=some (ex,env',s')->(∀id,ex≠ .exit id)/\ex≠ .ret:=by
      intro ops
      induction ops with
      | nil=>intro env s h;cases h;exact⟨fun _ e=>(by cases e),fun e=>(by cases e)⟩
      | cons o r ih=>
        intro env s h
        have h':(match Iu cf cv cp o env s with
         | some (.ret v,s')=>Hw v fun v=>Ut cf cv cp r (put o.dst v env) s'
         | some (.Bb v,s')=>some (.Bb v,env,s')
         | none=>none)=some (ex,env',s'):=h
        split at h'
        .rw[He]at h';exact ih _ _ h'
        .cases h';exact⟨fun _ e=>(by cases e),fun e=>(by cases e)⟩
        .cases h'
     exact gen _ _ _ h'
    refine⟨hx.1,hx.2,Lj hcf hcv hcp h1 he hs fun Y1 r1 Z1 q1 q2 q3=>?_⟩;obtain⟨v',q4,rfl⟩:=q2;exact(base Y1 v' Z1 q1 q4 q3).2.2
   .rename_i v s1 h1
    cases h';refine⟨fun _ e=>(by cases e),fun e=>(by cases e),Lj hcf hcv hcp h1 he hs fun Y1 r1 Z1 q1 q2 q3=>?_⟩;obtain⟨v',q4,rfl⟩:=q2;exact hp Y1 v v' _ Z1 q1 rfl q4 (he.mono q1) q3
   .cases h'
def jv (cf:CF) (cv:CV) (cp:CP) (re:List Am) (env:Env) (s:St):Bool:=
 re.all fun x=>match Iu cf cv cp x env s with
  | some (.ret u,_)=>match x.dst with
    | none=>true
    | some d=>match get d env with|some w=>Eg u w|none=>false
  | _=>false
def Rg (cf:CF) (cv:CV) (cp:CP):List Cd->Env->St->Rs
 | [],env,s=>some (.normal,env,s)
 | d::r,env,s=>match Iu cf cv cp d.o env s with
   | some (.ret v,s')=>Hw v fun v=>bif jv cf cv cp d.re (put d.o.dst v env) s' then Rg cf cv cp r (put d.o.dst v env) s' else none
   | some (.Bb v,s')=>some (.Bb v,[],s')
   | none=>none
def fj {cf:CF} {cv:CV} {cp:CP} (hcf:Kp P cf) (hcv:Jj P cv) (hcp:NA P cp) {s:St} (he:RE Y env env₀) (hs:SR P Y s Z): ∀ {re:List Am},jv cf cv cp re env s=true->D5 P re env₀ Z
 | [],_=>trivial
 | x ::r,h=>by
   have h':((match Iu cf cv cp x env s with
    | some (.ret u,_)=>match x.dst with
      | none=>true
      | some d=>match get d env with|some w=>Eg u w|none=>false
    | _=>false)&&jv cf cv cp r env s)=true:=h
   simp only[BD]at h';refine⟨?_,fj hcf hcv hcp he hs h'.2⟩;have h1:=h'.1;split at h1
   .rename_i u s1 hu
    refine Lj hcf hcv hcp hu he hs fun Y1 r1 Z1 q1 q2 q3=>?_
    obtain⟨u',q4,rfl⟩:=q2;intro d hd;rw[hd]at h1;simp only at h1;split at h1
    .rename_i w hw
     obtain⟨w',g1,g2⟩:=he.get hw;have e:=Ou _ _ h1;subst e;rw[g1,RV.fn u w' u' (RV.mono q1 _ _ g2) q4]
    .cases h1
   .cases h1
def Pu {cf:CF} {cv:CV} {cp:CP} (hcf:Kp P cf) (hcv:Jj P cv) (hcp:NA P cp): ∀ {ops:List Cd} {env env₀:Env} {Y:Ren} {Z:AE} {s s':St} {ex:Aa} {env':Env},Rg cf cv cp ops env s=some (ex,env',s')->RE Y env env₀->SR P Y s Z->
    ∀ {K:Env->AE->Prop} {kp:V->AE->Prop},(∀Y' env₁ Z',Y.le Y'->ex= .normal->RE Y' env' env₁->SR P Y' s' Z'->K env₁ Z')->(∀Y' v v' Z',Y.le Y'->ex= .Bb v->env'= []->RV Y' v v'->SR P Y' s' Z'->kp v' Z')->
    DJ P ops K kp env₀ Z
 | [],env,env₀,Y,Z,s,s',ex,env',h,he,hs,K,kp,U,hp=>by cases h;exact U Y _ _ (.refl _) rfl he hs
 | d ::r,env,env₀,Y,Z,s,s',ex,env',h,he,hs,K,kp,U,hp=>by
   simp only[DJ]
   have h':(match Iu cf cv cp d.o env s with
    | some (.ret v,s')=>Hw v fun v=>bif jv cf cv cp d.re (put d.o.dst v env) s' then Rg cf cv cp r (put d.o.dst v env) s' else none
    | some (.Bb v,s')=>some (.Bb v,[],s')
    | none=>none)=some (ex,env',s'):=h
   split at h'
   .rename_i v s1 h1
    rw[He]at h';obtain⟨h2,h3⟩:=AW h';refine Lj hcf hcv hcp h1 he hs fun Y1 r1 Z1 q1 q2 q3=>?_
    obtain⟨v',q4,rfl⟩:=q2;have he':=(he.mono q1).put q4 d.o.dst;exact⟨fj hcf hcv hcp he' q3 h2,Pu hcf hcv hcp h3 he' q3 (fun Y' e₁ Z' p1 p2 p3 p4=>U Y' e₁ Z' (q1.trans p1) p2 p3 p4) (fun Y' v v' Z' p1 p2 p3 p4 p5=>hp Y' v v' Z' (q1.trans p1) p2 p3 p4 p5)⟩
   .rename_i v s1 h1
    cases h';refine Lj hcf hcv hcp h1 he hs fun Y1 r1 Z1 q1 q2 q3=>?_
    obtain⟨v',q4,rfl⟩:=q2;exact hp Y1 v v' Z1 q1 rfl rfl q4 q3
   .cases h'
def KO {α β:Type} (f:α->Option β):List α->Option (List β)
 | []=>some []
 | x::r=>ob (f x) fun y=>ob (KO f r) fun ys=>some (y::ys)
def GW (s:St):Nat->V->Option V
 | 0,_=>none
 | d + 1,v=>bif BJ v then some v else
   match v with
   | .p n 0=>match s.t.get n with
     | some (.cs vs)=>ob (KO (GW s d) vs) fun us=>some (.rp us)
     | _=>none
   | .sl n len _=>match s.t.get n with
     | some (.arr _ es)=>bif Nat.beq len es.length then ob (KO (KO (GW s d)) es) fun us=>some (.l us false)else none
     | _=>none
   | .a cs=>ob (KO (GW s d) cs) fun us=>some (.a us)
   | .t cs=>ob (KO (GW s d) cs) fun us=>some (.t us)
   | .rp cs=>ob (KO (GW s d) cs) fun us=>some (.rp us)
   | .l es f=>ob (KO (KO (GW s d)) es) fun us=>some (.l us f)
   | .Ey t x=>ob (GW s d x) fun u=>some (.Ey t u)
   | _=>none
def O4 (s:St):Nat->V->List Nat
 | 0,_=>[]
 | d + 1,v=>bif BJ v then []else
   match v with
   | .p n 0=>match s.t.get n with
     | some (.cs vs)=>n::vs.flatMap (O4 s d)
     | _=>[]
   | .sl n _ _=>match s.t.get n with
     | some (.arr _ es)=>n::es.flatMap fun e=>e.flatMap (O4 s d)
     | _=>[]
   | .a cs=>cs.flatMap (O4 s d)
   | .t cs=>cs.flatMap (O4 s d)
   | .rp cs=>cs.flatMap (O4 s d)
   | .l es _=>es.flatMap fun e=>e.flatMap (O4 s d)
   | .Ey _ x=>O4 s d x
   | _=>[]
def PS (s:St):List Nat->St
 | []=>s
 | i::r=>match s.t.get i with
   | some _=>Tr.put none A7 s.t i fun t=>PS ⟨s.nx,t⟩ r
   | none=>PS s r
def Nd: ∀ {l:List Nat} {s:St} {Z:AE},SR P Y s Z-> ∃Z',SR P Y (PS s l) Z'/\Sub Z' Z/\ ∀i∈l,∀m,Y i=some m->(s.t.get i).isSome=true->Z' m.1=none
 | [],s,Z,h=>⟨Z,h,Sub.refl _,fun _ h=>by cases h⟩
 | i ::r,s,Z,h=>by
   simp only[PS];split
   .rename_i o hg
    rw[Tr.put_eq];obtain⟨m,hm,_⟩:=h.get i o hg;obtain⟨Z',h1,h2,h3⟩:=Nd (l:=r) (h.del hg hm);have hsub:Sub (del Z m.1) Z:=Fo Z m.1;refine⟨Z',h1,h2.trans hsub,fun j hj m' hm' hl=>?_⟩;by_cases e:j=i
    .subst e
     rw[hm]at hm';cases hm';exact h2.none (DL Z m.1)
    .rcases Fm.1 hj with e'|hj
     .exact absurd e' e
     .refine h3 j hj m' hm' ?_
      show((Tr.set none A7 s.t i).get j).isSome=true;rw[Tr.Ds _ _ _ (ak (h.lt hm)),if_neg e];exact hl
   .rename_i hg
    obtain⟨Z',h1,h2,h3⟩:=Nd (l:=r) h;refine⟨Z',h1,h2,fun j hj m' hm' hl=>?_⟩;rcases Fm.1 hj with e'|hj
    .subst e';rw[hg]at hl;cases hl
    .exact h3 j hj m' hm' hl
def HR {f:V->Option V} {g:V->List Nat} {s:St} {Z Z':AE} (hf: ∀v v' u,f v=some u->RV Y v v'->(∀i∈g v,∀m,Y i=some m->(s.t.get i).isSome=true->Z' m.1=none)->Ez Z Z' v' u): ∀ {vs vs' us:List V},KO f vs=some us->LK Y vs vs'->
    (∀i∈vs.flatMap g,∀m,Y i=some m->(s.t.get i).isSome=true->Z' m.1=none)->DA Z Z' vs' us
 | [],_,_,h,h',_=>by cases h;cases h';exact .nil
 | x::r,_,us,h,⟨y,ys,h1,h2,e⟩,hd=>by
   subst e;replace h:=AP h;obtain⟨u,h3,h⟩:=h;replace h:=AP h;obtain⟨us,h4,h⟩:=h;cases h;exact .cons (hf _ _ _ h3 h1 fun i hi=>hd i (by simp only[List.flatMap_cons,E4];exact .inl hi)) (HR hf h4 h2 fun i hi=>hd i (by simp only[List.flatMap_cons,E4];exact .inr hi))
def NR {f:V->Option V} {g:V->List Nat} {s:St} {Z Z':AE} (hf: ∀v v' u,f v=some u->RV Y v v'->(∀i∈g v,∀m,Y i=some m->(s.t.get i).isSome=true->Z' m.1=none)->Ez Z Z' v' u): ∀ {vs vs' us:List (List V)},KO (KO f) vs=some us->da Y vs vs'->
    (∀i∈vs.flatMap (fun e=>e.flatMap g),∀m,Y i=some m->(s.t.get i).isSome=true->Z' m.1=none)->D7 Z Z' vs' us
 | [],_,_,h,h',_=>by cases h;cases h';exact .nil
 | x::r,_,us,h,⟨y,ys,h1,h2,e⟩,hd=>by
   subst e;replace h:=AP h;obtain⟨u,h3,h⟩:=h;replace h:=AP h;obtain⟨us,h4,h⟩:=h;cases h;exact .cons (HR hf h3 h1 fun i hi=>hd i (by simp only[List.flatMap_cons,E4];exact .inl hi)) (NR hf h4 h2 fun i hi=>hd i (by simp only[List.flatMap_cons,E4];exact .inr hi))
def Pq {s : St} (hs:SR P Y s Z) {Z':AE}: ∀(d:Nat) (v v' u:V),GW s d v=some u->RV Y v v'->(∀i∈O4 s d v,∀m,Y i=some m->(s.t.get i).isSome=true->Z' m.1=none)->Ez Z Z' v' u
 | 0,_,_,_,h,_,_=>by cases h
 | d + 1,v,v',u,h,hv,hd=>by
   have ih:=Pq hs (Z':=Z') d;simp only[GW]at h;simp only[O4]at hd;cases hp:BJ v with
   | true=>
     rw[hp]at h;cases h;rw[RV.kC hv hp];exact .refl _
   | false=>
     rw[hp]at h hd;simp only[cond_false]at h hd;split at h
     .obtain⟨m,g1,rfl⟩:=hv
      split at h
      .rename_i vs hg
       replace h:=AP h;obtain⟨us,h1,h⟩:=h;cases h;simp only[hg]at hd;obtain⟨o',g2,vs',g3,rfl⟩:=hs.at hg g1;exact .cs g2 (hd _ (.head _) m g1 (by rw[hg];rfl)) (HR ih h1 g3 fun i hi=>hd i (.tail _ hi))
      .cases h
     .obtain⟨m,g1,rfl⟩:=hv
      split at h
      .rename_i es hg
       replace h:=AW h;obtain⟨h0,h⟩:=h;replace h:=AP h;obtain⟨us,h1,h⟩:=h;cases h;simp only[hg]at hd;obtain⟨o',g2,es',g3,rfl⟩:=hs.at hg g1;exact .arr g2 (hd _ (.head _) m g1 (by rw[hg];rfl)) (by rw[g3.len];exact Ct h0) (NR ih h1 g3 fun i hi=>hd i (.tail _ hi))
      .cases h
     .replace h:=AP h;obtain⟨us,h1,h⟩:=h
      cases h;obtain⟨c,g1,rfl⟩:=hv;exact .a (HR ih h1 (BY.1 g1) hd)
     .replace h:=AP h;obtain⟨us,h1,h⟩:=h
      cases h;obtain⟨c,g1,rfl⟩:=hv;exact .t (HR ih h1 (BY.1 g1) hd)
     .replace h:=AP h;obtain⟨us,h1,h⟩:=h
      cases h;obtain⟨c,g1,rfl⟩:=hv;exact .rp (HR ih h1 (BY.1 g1) hd)
     .replace h:=AP h;obtain⟨us,h1,h⟩:=h
      cases h;obtain⟨c,g1,rfl⟩:=hv;exact .l (fun e=>e) (NR ih h1 (Fa.1 g1) hd)
     .replace h:=AP h;obtain⟨us,h1,h⟩:=h
      cases h;obtain⟨c,g1,rfl⟩:=hv;exact .Ey (ih _ _ _ h1 g1 hd)
     .cases h
def rW {s:St} (hs:SR P Y s Z) (d:Nat) (v v' u:V) (h:GW s d v=some u) (hv:RV Y v v'):Ez Z emp v' u:=Pq hs d v v' u h hv fun _ _ _ _ _=>rfl
def F0 {f:V->Option V} (hf: ∀v u,f v=some u->BJ u=true): ∀ {vs us:List V},KO f vs=some us->B6 us=true
 | [],_,h=>by cases h;rfl
 | x::r,us,h=>by
   replace h:=AP h;obtain⟨u,h3,h⟩:=h;replace h:=AP h;obtain⟨us,h4,h⟩:=h;cases h;simp only[B6,hf _ _ h3,F0 hf h4,Bool.and_self]
def K3 {f:V->Option V} (hf: ∀v u,f v=some u->BJ u=true): ∀ {vs us:List (List V)},KO (KO f) vs=some us->Rb us=true
 | [],_,h=>by cases h;rfl
 | x::r,us,h=>by
   replace h:=AP h;obtain⟨u,h3,h⟩:=h;replace h:=AP h;obtain⟨us,h4,h⟩:=h;cases h;simp only[Rb,F0 hf h3,K3 hf h4,Bool.and_self]
def Vx (s : St): ∀(d:Nat) (v u:V),GW s d v=some u->BJ u=true
 | 0,_,_,h=>by cases h
 | d + 1,v,u,h=>by
   have ih:=Vx s d;simp only[GW]at h;cases hp:BJ v with
   | true=>rw[hp]at h;cases h;exact hp
   | false=>
     rw[hp]at h;simp only[cond_false]at h;split at h
     .split at h
      .replace h:=AP h;obtain⟨us,h1,h⟩:=h
       cases h;simp only[BJ];exact F0 ih h1
      .cases h
     .split at h
      .replace h:=AW h;obtain⟨h0,h⟩:=h
       replace h:=AP h;obtain⟨us,h1,h⟩:=h;cases h;simp only[BJ];exact K3 ih h1
      .cases h
     .replace h:=AP h;obtain⟨us,h1,h⟩:=h
      cases h;simp only[BJ];exact F0 ih h1
     .replace h:=AP h;obtain⟨us,h1,h⟩:=h
      cases h;simp only[BJ];exact F0 ih h1
     .replace h:=AP h;obtain⟨us,h1,h⟩:=h
      cases h;simp only[BJ];exact F0 ih h1
     .replace h:=AP h;obtain⟨us,h1,h⟩:=h
      cases h;simp only[BJ];exact K3 ih h1
     .replace h:=AP h;obtain⟨us,h1,h⟩:=h
      cases h;simp only[BJ];exact ih _ _ h1
     .cases h
def Uq:Nat:=60
def pv:Option (R×St)->Option (R×St)
 | some (.ret v,s)=>ob (GW s Uq v) fun u=>some (.ret u,PS s (O4 s Uq v))
 | r=>r
def A3.GW {f:FuncId} {args:List V} {Z:AE} {Q Q':R->AE->Prop} (h:A3 P f args Z Q) (hq: ∀r Z',Q r Z'->(∃v vf Z'',r= .ret v/\Sub Z'' Z'/\Ez Z' Z'' v vf/\Q' (.ret vf) Z'')\/Q' r Z'):A3 P f args Z Q':=
 ⟨h.1,fun F w cs h1 h2=>Calls.mono (h.2 F w cs h1 h2) fun e w' ⟨r,Z',q1,q2,q3,q4⟩=>by
  rcases hq r Z' q1 with⟨v,vf,Z'',rfl,p1,p2,p3⟩|h
  .obtain⟨c,rfl,q5⟩:=q2
   exact⟨.ret vf,Z'',p3,⟨c,rfl,p2.rel q3 p1 q5⟩,q3.drop p1,q4.trans (Bu.drop w' p1)⟩
  .exact⟨r,Z',h,q2,q3,q4⟩⟩
inductive S6 where
 | fn (n:Nat) (ac:AV) (AG:List RS)
 | oA (n:Nat) (aA:AV) (ops:List Am) (x:Bf) (aC:AV) (AG:List RS) (l1 l2:List Nat)
 | pK (n:Nat) (k:Nat) (ops:List Am) (ac:AV) (l:List Nat)
 | wA (n:Nat) (ac:AV) (AG:List RS)
 | ai (c:List V->St->Option (R×St))
 | vr (n:Nat) (ac:AV)
def Iv (P:Program) (f:FuncId):S6->Prop
 | .fn n ac AG=> ∀(args:List V) (Z:AE) (Q:R->AE->Prop),args.length<=n->T P ac (U0 AG Q) (A2 0 args) Z->A3 P f args Z Q
 | .wA n ac AG=> ∀(args:List V) (Z:AE) (Q:R->AE->Prop),args.length<=n->T P ac (U0 AG Q) (A2 0 args) Z->A3 P f args Z Q
 | .oA n aA ops x aC AG l1 l2=> ∀(args:List V) (Z:AE) (Q:R->AE->Prop),args.length<=n->T P (.seq l1 aA (.B5 ops)) (CX (O6 P x l2 aC AG Q)) (A2 0 args) Z->A3 P f args Z Q
 | .pK n k ops ac l=> ∀(args:List V) (m:Option V) (Z:AE) (Q:AE->Prop),args.length<=n->T P (.seq l (.B5 ops) ac) (Ms Q) (put (some k) (m.getD .DZ) (A2 0 args)) Z->Gs P f args m Z Q
 | .ai c=> ∀vs s r s',c vs s=some (r,s')-> ∀Y vs' Z,LK Y vs vs'->SR P Y s Z-> ∀Q:R->AE->Prop,(∀Y' r' Z',Y.le Y'->oE Y' r r'->SR P Y' s' Z'->Q r' Z')->A3 P f vs' Z Q
 | .vr n ac=> ∀(args:List V) (Z:AE) (Q:AE->Prop),args.length<=n->T P ac (Ms Q) (A2 0 args) Z->Gs P f args none Z Q
abbrev Jx:=FuncId->Option S6
def La (P:Program) (tab:Jx):Prop:= ∀f fs,tab f=some fs->Iv P f fs
abbrev E2:=FuncId->List (List V×V)
def G3 (P:Program) (memo:E2):Prop:= ∀f,∀m∈memo f,B6 m.1=true/\BJ m.2=true/\Pure P f m.1 m.2
def Yl (s:St) (env:Env):List RS->Option (List V)
 | []=>some []
 | .t n::r=>ob (get n env) fun v=>ob (Yl s env r) fun vs=>some (v::vs)
 | .c n g::r=>ob (get n env) fun a=>ob (Ny s g a) fun v=>ob (Yl s env r) fun vs=>some (v::vs)
def M1 {s:St} (he:RE Y env env₀) (hs:SR P Y s Z): ∀ {l:List RS} {vs:List V},Yl s env l=some vs-> ∀ {K:List V->Prop},(∀vs',LK Y vs vs'->K vs')->UY Z env₀ l K
 | [],vs,h,K,U=>by cases h;exact U _ F2.nil
 | .t n::r,vs,h,K,U=>by
   replace h:=AP h;obtain⟨v,h1,h⟩:=h;replace h:=AP h;obtain⟨us,h2,h⟩:=h;cases h;obtain⟨v',e1,e2⟩:=he.get h1;simp only[UY,e1,Eo];exact M1 he hs h2 fun us' hu=>U _ (F2.cons e2 hu)
 | .c n g::r,vs,h,K,U=>by
   replace h:=AP h;obtain⟨a,h1,h⟩:=h;replace h:=AP h;obtain⟨v,h3,h⟩:=h;replace h:=AP h;obtain⟨us,h2,h⟩:=h;cases h;obtain⟨v',e1,e2⟩:=he.get h1;simp only[UY,e1,Eo];exact V4 hs h3 e2 fun w hw=>M1 he hs h2 fun us' hu=>U _ (F2.cons hw hu)
def Oa {vs vs':List V} (h:LK Y vs vs'):RV Y (Ef vs) (Ef vs'):=by
 match vs,vs',h with
 | [],_,h=>cases h;simp only[Ef,RV];exact⟨[],BY.2 F2.nil,rfl⟩
 | [v],_,⟨y,ys,h1,h2,e⟩=>cases h2;subst e;exact h1
 | v::u::r,_,⟨y,ys,h1,⟨z,zs,h2,h3,e⟩,e'⟩=>
   subst e;subst e';show RV Y (.t (v::u::r)) (.t (y::z::zs));simp only[RV];exact⟨_,BY.2 (F2.cons h1 (F2.cons h2 h3)),rfl⟩
def aw (AG:List RS) (r:Rs):Option (R×St):=
 match r with
 | some (.normal,env,s)=>ob (Yl s env AG) fun vs=>some (.ret (Ef vs),s)
 | some (.ret,env,s)=>ob (Yl s env AG) fun vs=>some (.ret (Ef vs),s)
 | some (.Bb v,_,s)=>some (.Bb v,s)
 | _=>none
def XI (tab:Jx) (ih:AV->Env->St->Rs) (g:FuncId) (cap:List V) (m:Option V) (AG:List RS) (env:Env) (s:St):Option (R×St):=
 match tab g with
 | some (.pK n k ops ac l)=>bif Nat.ble cap.length n then
  match ih (.seq l (.B5 ops) ac) (put (some k) (m.getD .DZ) (A2 0 cap)) s with
  | some (.normal,_,s')=>ob (Yl s' env AG) fun vs=>some (.ret (Ef vs),s')
  | some (.ret,_,s')=>ob (Yl s' env AG) fun vs=>some (.ret (Ef vs),s')
  | _=>none
   else none
 | some (.vr n ac)=>match m with
   | some _=>none
   | none=>bif Nat.ble cap.length n then
     match ih ac (A2 0 cap) s with
     | some (.normal,_,s')=>ob (Yl s' env AG) fun vs=>some (.ret (Ef vs),s')
     | some (.ret,_,s')=>ob (Yl s' env AG) fun vs=>some (.ret (Ef vs),s')
     | _=>none
   else none
 | _=>none
def Rh (tab:Jx) (ih:AV->Env->St->Rs) (f:FuncId) (vs:List V) (s:St):Option (R×St):=
 match tab f with
 | some (.fn n ac AG)=>bif Nat.ble vs.length n then aw AG (ih ac (A2 0 vs) s)else none
 | some (.oA n aA ops x aC AG l1 l2)=>bif Nat.ble vs.length n then
  match ih (.seq l1 aA (.B5 ops)) (A2 0 vs) s with
  | some (.normal,env,s1)=>match DN env x with
    | some (.f (.func g) [] cap)=>match ih aC (prune l2 env) s1 with
      | some (.normal,env2,s2)=>XI tab ih g cap none AG env2 s2
      | some (.ret,env2,s2)=>XI tab ih g cap none AG env2 s2
      | some (.Bb v,env2,s2)=>XI tab ih g cap (some v) AG env2 s2
      | _=>none
    | _=>none
  | _=>none
   else none
 | some (.wA n ac AG)=>bif Nat.ble vs.length n then pv (aw AG (ih ac (A2 0 vs) s))else none
 | some (.ai c)=>c vs s
 | _=>none
def U8 (vs:List V):List (List V×V)->Option V
 | []=>none
 | m::r=>bif Mr m.1 vs then some m.2 else U8 vs r
def G2 (tab:Jx) (memo:E2) (ih:AV->Env->St->Rs):CF:=fun f vs s=>
 match memo f with
 | []=>Rh tab ih f vs s
 | m::r=>match U8 vs (m::r)with
   | some v=>some (.ret v,s)
   | none=>Rh tab ih f vs s
def M7 (tab:Jx) (memo:E2) (ih:AV->Env->St->Rs):CV:=fun x vs s=>
 match x with
 | .f (.func f) first cap=>G2 tab memo ih f (first++vs++cap) s
 | .f (.yield L) [] []=>match s.t.get L with
   | some (.loop .ready env ps a b)=>bif Nat.beq vs.length ps.length then
    Tr.put none A7 s.t L fun t=>match ih a (En ps vs env) ⟨s.nx,t⟩with
    | some (.normal,env1,s1)=>match ih b env1 s1 with
      | some (.normal,_,s2)=>Tr.put (some (.loop .ready env ps a b)) A7 s2.t L fun t=>some (.ret (.b true),⟨s2.nx,t⟩)
      | some (.ret,_,s2)=>Tr.put (some (.loop .ret env ps a b)) A7 s2.t L fun t=>some (.ret (.b false),⟨s2.nx,t⟩)
      | some (.exit id,_,s2)=>Tr.put (some (.loop (.exit id) env ps a b)) A7 s2.t L fun t=>some (.ret (.b false),⟨s2.nx,t⟩)
      | some (.Bb v,_,s2)=>some (.Bb v,s2)
      | none=>none
    | _=>none
     else none
   | _=>none
 | _=>none
def PI (tab:Jx) (memo:E2) (ih:AV->Env->St->Rs):CP:=fun f vs=>
 bif B6 vs then match G2 tab memo ih f vs ⟨0,.leaf⟩with
  | some (.ret v,s)=>match GW s Uq v with
    | some u=>bif BJ u then some u else none
    | none=>none
  | _=>none
 else none
def Ic (tab:Jx) (memo:E2) (ih:AV->Env->St->Rs) (c:AV) (env:Env) (s:St):Rs:=
 match c with
 | .skip=>some (.normal,env,s)
 | .ret=>some (.ret,env,s)
 | .exit id=>some (.exit id,env,s)
 | .B5 ops=>Ut (G2 tab memo ih) (M7 tab memo ih) (PI tab memo ih) ops env s
 | .EG l ops=>match Rg (G2 tab memo ih) (M7 tab memo ih) (PI tab memo ih) ops env s with
   | some (.normal,env',s')=>some (.normal,prune l env',s')
   | r=>r
 | .seq l a b=>match ih a env s with
   | some (.normal,env',s')=>ih b (prune l env') s'
   | r=>r
 | .cond c a b=>match DN env c with
   | some (.b true)=>ih a env s
   | some (.b false)=>ih b env s
   | _=>none
 | .block id a=>match ih a env s with
   | some (.exit id',env',s')=>bif Nat.beq id' id then some (.normal,env',s')else some (.exit id',env',s')
   | r=>r
 | .scope a=>ih a env s
 | .loop l a=>match ih a (prune l env) s with
   | some (.normal,env',s')=>ih (.loop l a) env' s'
   | r=>r
 | .Dg l g ps a b=>match DN env g with
   | some (.f (.func gf) [] cap)=>s.new (.loop .ready (prune l env) ps a b) fun i s1=>
    match G2 tab memo ih gf (.f (.yield i) [] []::cap) s1 with
    | some (.ret _,s2)=>match s2.t.get i with
      | some (.loop st _ _ _ _)=>Tr.put none A7 s2.t i fun t=>some ((match st with| .ready=> .normal| .ret=> .ret| .exit id=> .exit id),env,⟨s2.nx,t⟩)
      | _=>none
    | some (.Bb v,s2)=>match s2.t.get i with
      | some _=>Tr.put none A7 s2.t i fun t=>some (.Bb v,env,⟨s2.nx,t⟩)
      | none=>none
    | none=>none
   | _=>none
def run (tab:Jx) (memo:E2):Nat->AV->Env->St->Rs
 | 0,_,_,_=>none
 | n+1,c,env,s=>Ic tab memo (run tab memo n) c env s
def Rk (P:Program) (ih:AV->Env->St->Rs):Prop:= ∀c env s ex env' s',ih c env s=some (ex,env',s')-> ∀Y env₀ Z,RE Y env env₀->SR P Y s Z->
 ∀Q:Aa->Env->AE->Prop,(∀Y' ex₀ env₁ Z',Y.le Y'->x6 Y' ex ex₀->RE Y' env' env₁->SR P Y' s' Z'->Q ex₀ env₁ Z')->T P c Q env₀ Z
def x6.normal {ex:Aa} (h:x6 Y .normal ex):ex= .normal:=h
def Zy {AG:List RS} {ex:Aa} {env':Env} {s1 s':St} {r:R} (h:aw AG (some (ex,env',s1))=some (r,s')) {Q:R->AE->Prop}
    (hQ: ∀Y' r' Z',Y.le Y'->oE Y' r r'->SR P Y' s' Z'->Q r' Z') {Y':Ren} {ex₀:Aa} {env₁:Env} {Z':AE} (q1:Y.le Y') (q2:x6 Y' ex ex₀) (q3:RE Y' env' env₁) (q4:SR P Y' s1 Z'):U0 AG Q ex₀ env₁ Z':=by
 cases ex with
 | normal=>
   cases q2;replace h:=AP h;obtain⟨vs,h1,h⟩:=h;cases h;exact M1 q3 q4 h1 fun vs' hv=>⟨_,Z',Sub.refl _,.refl _,hQ Y' _ Z' q1 ⟨_,Oa hv,rfl⟩ q4⟩
 | ret=>
   cases q2;replace h:=AP h;obtain⟨vs,h1,h⟩:=h;cases h;exact M1 q3 q4 h1 fun vs' hv=>⟨_,Z',Sub.refl _,.refl _,hQ Y' _ Z' q1 ⟨_,Oa hv,rfl⟩ q4⟩
 | exit id=>cases h
 | Bb v=>
   cases h;obtain⟨v',h1,rfl⟩:=q2;exact⟨v',Z',Sub.refl _,.refl _,hQ Y' (.Bb v') Z' q1 ⟨v',h1,rfl⟩ q4⟩
def Gs.mono {f:FuncId} {args:List V} {m:Option V} {Z:AE} {Q Q':AE->Prop} (h:Gs P f args m Z Q) (hq: ∀Z',Q Z'->Q' Z'):Gs P f args m Z Q':=
 ⟨h.1,fun F w cs u h1 h2 h3=>CallsDIn.mono (h.2 F w cs u h1 h2 h3) fun e u' w' ⟨a,b,Z',c,d⟩=>⟨a,b,Z',hq _ c,d⟩⟩
def UB {tab:Jx} (ht:La P tab) {ih:AV->Env->St->Rs} (hi:Rk P ih) {g:FuncId} {cap cap':List V} {m m':Option V} {AG:List RS} {s s':St} {r:R} (h:XI tab ih g cap m AG env s=some (r,s'))
    (he:RE Y env env₀) (hs:SR P Y s Z) (hc:LK Y cap cap') (hm:oD Y m m') {Q:R->AE->Prop} (hQ: ∀Y' r' Z',Y.le Y'->oE Y' r r'->SR P Y' s' Z'->Q r' Z') :
    Gs P g cap' m' Z fun Z'=>UY Z' env₀ AG fun vs=>Aq Z' (Ef vs) Q:=by
 unfold XI at h;split at h
 .rename_i n k ops ac l htab
  obtain⟨h1,h2⟩:=AW h
  have hg:RV Y (m.getD .DZ) (m'.getD .DZ):=by
   cases m with
   | none=>cases hm;exact RV.pure _ rfl
   | some v=>obtain⟨v',h3,rfl⟩:=hm;exact h3
  have fin: ∀ {ex:Aa} {e2:Env} {s2:St},ih (.seq l (.B5 ops) ac) (put (some k) (m.getD .DZ) (A2 0 cap)) s=some (ex,e2,s2)->(ex= .normal\/ex= .ret)->(ob (Yl s2 env AG) fun vs=>some (R.ret (Ef vs),s2))=some (r,s')->
   Gs P g cap' m' Z fun Z'=>UY Z' env₀ AG fun vs=>Aq Z' (Ef vs) Q:=fun {ex e2 s2} q1 q2 q3=>by
   obtain⟨vs,q4,q5⟩:=AP q3;cases q5;refine ht g _ htab cap' m' Z _ (by rw[hc.len];exact Nat.le_of_ble_eq_true h1) ?_;refine hi _ _ _ _ _ _ q1 Y _ Z ((RE.args hc).put hg (some k)) hs _ fun Y' ex₀ e₁ Z' p1 p2 p3 p4=>?_
   have base:UY Z' env₀ AG fun vs=>Aq Z' (Ef vs) Q:=M1 (he.mono p1) p4 q4 fun vs' hv=>⟨_,Z',Sub.refl _,.refl _,hQ Y' _ Z' p1 ⟨_,Oa hv,rfl⟩ p4⟩
   rcases q2 with e|e
   .subst e;cases p2;exact base
   .subst e;cases p2;exact base
  split at h2
  .rename_i hr;exact fin hr (.inl rfl) h2
  .rename_i hr;exact fin hr (.inr rfl) h2
  .cases h2
 .rename_i n ac htab
  cases m with
  | some v=>cases h
  | none=>
    cases hm;obtain⟨h1,h2⟩:=AW h
    have fin: ∀ {ex:Aa} {e2:Env} {s2:St},ih ac (A2 0 cap) s=some (ex,e2,s2)->(ex= .normal\/ex= .ret)->(ob (Yl s2 env AG) fun vs=>some (R.ret (Ef vs),s2))=some (r,s')->
     Gs P g cap' none Z fun Z'=>UY Z' env₀ AG fun vs=>Aq Z' (Ef vs) Q:=fun {ex e2 s2} q1 q2 q3=>by
     obtain⟨vs,q4,q5⟩:=AP q3;cases q5;refine ht g _ htab cap' Z _ (by rw[hc.len];exact Nat.le_of_ble_eq_true h1) ?_;refine hi _ _ _ _ _ _ q1 Y _ Z (RE.args hc) hs _ fun Y' ex₀ e₁ Z' p1 p2 p3 p4=>?_
     have base:UY Z' env₀ AG fun vs=>Aq Z' (Ef vs) Q:=M1 (he.mono p1) p4 q4 fun vs' hv=>⟨_,Z',Sub.refl _,.refl _,hQ Y' _ Z' p1 ⟨_,Oa hv,rfl⟩ p4⟩
     rcases q2 with e|e
     .subst e;cases p2;exact base
     .subst e;cases p2;exact base
    split at h2
    .rename_i hr;exact fin hr (.inl rfl) h2
    .rename_i hr;exact fin hr (.inr rfl) h2
    .cases h2
 .cases h
def WA {tab:Jx} (ht:La P tab) {ih:AV->Env->St->Rs} (hi:Rk P ih):Kp P (Rh tab ih):=by
 intro f vs s r s' h Y vs' Z hv hs Q hQ;unfold Rh at h;split at h
 .rename_i n ac AG htab
  obtain⟨h1,h2⟩:=AW h;cases hr:ih ac (A2 0 vs) s with
  | none=>rw[hr]at h2;cases h2
  | some x=>
    obtain⟨ex,env',s1⟩:=x;rw[hr]at h2;refine ht f _ htab vs' Z Q (by rw[hv.len];exact Nat.le_of_ble_eq_true h1) ?_;exact hi _ _ _ _ _ _ hr Y _ Z (RE.args hv) hs _ fun Y' ex₀ e₁ Z' p1 p2 p3 p4=>Zy h2 hQ p1 p2 p3 p4
 .rename_i n aA ops x aC AG l1 l2 htab
  obtain⟨h1,h2⟩:=AW h;split at h2
  .rename_i env1 s1 hr1
   split at h2
   .rename_i g cap hx
    refine ht f _ htab vs' Z Q (by rw[hv.len];exact Nat.le_of_ble_eq_true h1) ?_;refine hi _ _ _ _ _ _ hr1 Y _ Z (RE.args hv) hs _ fun Y1 ex₀ e₁ Z1 p1 p2 p3 p4=>?_
    cases p2;obtain⟨x',q1,fn',a',b',q2,q3,q4,rfl⟩:=Ar p3 hx;simp only[ae]at q2;subst q2;have q3:=BY.1 q3;cases q3;show O6 P x l2 aC AG Q e₁ Z1;simp only[O6,q1,Eo];split at h2
    .rename_i env2 s2 hr2
     refine hi _ _ _ _ _ _ hr2 Y1 _ Z1 (p3.prune l2) p4 _ fun Y2 ex₀ e₂ Z2 u1 u2 u3 u4=>?_
     cases u2;exact UB ht hi h2 u3 u4 (LK.mono u1 (BY.1 q4)) rfl fun Y3 r' Z3 w1 w2 w3=>hQ Y3 r' Z3 ((p1.trans u1).trans w1) w2 w3
    .rename_i env2 s2 hr2
     refine hi _ _ _ _ _ _ hr2 Y1 _ Z1 (p3.prune l2) p4 _ fun Y2 ex₀ e₂ Z2 u1 u2 u3 u4=>?_
     cases u2;exact UB ht hi h2 u3 u4 (LK.mono u1 (BY.1 q4)) rfl fun Y3 r' Z3 w1 w2 w3=>hQ Y3 r' Z3 ((p1.trans u1).trans w1) w2 w3
    .rename_i v env2 s2 hr2
     refine hi _ _ _ _ _ _ hr2 Y1 _ Z1 (p3.prune l2) p4 _ fun Y2 ex₀ e₂ Z2 u1 u2 u3 u4=>?_
     obtain⟨v',u5,rfl⟩:=u2;exact UB ht hi h2 u3 u4 (LK.mono u1 (BY.1 q4)) ⟨v',u5,rfl⟩ fun Y3 r' Z3 w1 w2 w3=>hQ Y3 r' Z3 ((p1.trans u1).trans w1) w2 w3
    .cases h2
   .cases h2
  .cases h2
 .rename_i n ac AG htab
  replace h:=AW h;obtain⟨h1,h2⟩:=h;cases hr:ih ac (A2 0 vs) s with
  | none=>rw[hr]at h2;cases h2
  | some x=>
    obtain⟨ex,env',s1⟩:=x;rw[hr]at h2;cases he:aw AG (some (ex,env',s1))with
    | none=>rw[he]at h2;cases h2
    | some y=>
      obtain⟨r1,s2⟩:=y;rw[he]at h2
      have hc:A3 P f vs' Z fun r' Z'=> ∃Y',Y.le Y'/\oE Y' r1 r'/\SR P Y' s2 Z':=by
       refine ht f _ htab vs' Z _ (by rw[hv.len];exact Nat.le_of_ble_eq_true h1) ?_;exact hi _ _ _ _ _ _ hr Y _ Z (RE.args hv) hs _ fun Y' ex₀ e₁ Z' p1 p2 p3 p4=>Zy he (fun Y' r' Z' a b c=>⟨Y',a,b,c⟩) p1 p2 p3 p4
      refine hc.GW fun r' Z' ⟨Y',q1,q2,q3⟩=>?_
      cases r1 with
      | Bb v=>
        cases h2;exact .inr (hQ Y' _ _ q1 q2 q3)
      | ret v=>
        obtain⟨v',q4,rfl⟩:=q2;obtain⟨u,h3,h4⟩:=AP h2;cases h4;obtain⟨Z'',g1,g2,g3⟩:=Nd (l:=O4 s2 Uq v) q3;by_cases hp:BJ u=true
        .exact .inl ⟨v',u,Z'',rfl,g2,Pq q3 Uq v v' u h3 q4 g3,hQ Y' _ _ q1 ⟨u,RV.pure u hp,rfl⟩ g1⟩
        .exact absurd (Vx s2 Uq v u h3) hp
 .rename_i c htab
  exact ht f _ htab vs s r s' h Y vs' Z hv hs Q hQ
 .cases h
def V0 {vs:List V}: ∀ {l:List (List V×V)} {v:V},U8 vs l=some v->(vs,v)∈l
 | [],_,h=>by cases h
 | m ::r,v,h=>by
   simp only[U8]at h;cases hb:Mr m.1 vs with
   | true=>
     rw[hb]at h;cases h;have:=Ge _ _ hb;obtain⟨a,b⟩:=m;subst this;exact .head _
   | false=>rw[hb]at h;exact .tail _ (V0 h)
def Nh {tab:Jx} (ht:La P tab) {memo:E2} (hm:G3 P memo) {ih:AV->Env->St->Rs} (hi:Rk P ih):Kp P (G2 tab memo ih):=by
 intro f vs s r s' h Y vs' Z hv hs Q hQ;unfold G2 at h;split at h
 .exact WA ht hi f vs s r s' h Y vs' Z hv hs Q hQ
 .rename_i m l hml
  split at h
  .rename_i v hf
   cases h;have hmem:=V0 hf;rw[<-hml]at hmem;obtain⟨h1,h2,h3⟩:=hm f _ hmem;rw[kR hv h1];refine(h3.use (Z:=Z) (k:=fun v Z'=>Q (.ret v) Z') (kp:=fun v Z'=>Q (.Bb v) Z') ?_).mono fun r Z' h=>?_
   .exact hQ Y _ Z (.refl _) ⟨v,RV.pure v h2,rfl⟩ hs
   .cases r<;>exact h
  .exact WA ht hi f vs s r s' h Y vs' Z hv hs Q hQ
def SR.back {s:St} (hs:SR P Y s Z) {i:Nat} {m:Nat×Nat} (hm:Y i=some m) (hn:Z m.1=none) {o1:EO} {o1':O} (ho:RO P Y m.2 o1 o1') :
    SR P Y ⟨s.nx,Tr.set (some o1) A7 s.t i⟩ (Gl.Bd Z m.1 o1'):=by
 have hl:=ak (hs.lt hm)
 have hno:s.t.get i=none:=by
  cases hg:s.t.get i with
  | none=>rfl
  | some o=>
    obtain⟨o',h1,_⟩:=hs.at hg hm;rw[hn]at h1;cases h1
 have nm: ∀ {j q m1},s.t.get j=some q->Y j=some m1->m1.1≠m.1:=fun {j q m1} h1 h2 e=>by
  obtain⟨o',h3,_⟩:=hs.at h1 h2;rw[e,hn]at h3;cases h3
 refine⟨fun j o2 h1=>?_,fun j j' o2 o3 m1 m2 h1 h2 h3 h4 h5=>?_,hs.pN,hs.lim⟩
 .rw[Tr.Ds _ _ _ hl]at h1
  by_cases e:j=i
  .subst e
   rw[if_pos rfl]at h1;cases h1;exact⟨m,hm,o1',C2 _ _ _,ho⟩
  .rw[if_neg e]at h1
   obtain⟨m1,h2,o3,h3,h4⟩:=hs.get j o2 h1;exact⟨m1,h2,o3,by rw[CY _ _ (nm h1 h2)];exact h3,h4⟩
 .rw[Tr.Ds _ _ _ hl]at h1 h2
  by_cases e:j=i<;>by_cases e':j'=i
  .omega
  .exfalso
   subst e;rw[if_neg e']at h2;rw[hm]at h3;cases h3;exact nm h2 h4 h5.symm
  .exfalso
   subst e';rw[if_neg e]at h1;rw[hm]at h4;cases h4;exact nm h1 h3 h5
  .rw[if_neg e]at h1
   rw[if_neg e']at h2;exact hs.inj j j' o2 o3 m1 m2 h1 h2 h3 h4 h5
def dI {tab:Jx} (ht:La P tab) {memo:E2} (hm:G3 P memo) {ih:AV->Env->St->Rs} (hi:Rk P ih):Jj P (M7 tab memo ih):=by
 intro x vs s r s' h Y x' vs' Z hx hv hs Q hQ;unfold M7 at h;split at h
 .rename_i f first cap
  obtain⟨fn',a',b',h1,h2,h3,rfl⟩:=hx;simp only[ae]at h1;subst h1;exact Nh ht hm hi f _ s r s' h Y _ Z (((BY.1 h2).app hv).app (BY.1 h3)) hs Q hQ
 .rename_i L
  obtain⟨fn',a',b',⟨m,h1,rfl⟩,h2,h3,rfl⟩:=hx;have h2:=BY.1 h2;have h3:=BY.1 h3;cases h2;cases h3;split at h
  .rename_i env1 ps a b hg
   obtain⟨o',g1,env1',g2,rfl⟩:=hs.at hg h1;obtain⟨h4,h5⟩:=AW h;rw[Tr.put_eq]at h5;show LR P m.1 vs' Z Q;refine Qh g1 (by rw[hv.len];exact Ct h4) ?_;split at h5
   .rename_i e2 s1 hr1
    refine hi _ _ _ _ _ _ hr1 Y _ _ (RE.binds hv g2) (hs.del hg h1) _ fun Y1 ex₀ e₁ Z1 p1 p2 p3 p4=>?_
    cases p2;show T P b _ e₁ Z1;have hm1:=p1 _ _ h1;split at h5
    .rename_i e3 s2 hr2
     refine hi _ _ _ _ _ _ hr2 Y1 _ _ p3 p4 _ fun Y2 ex₀ e₂ Z2 u1 u2 u3 u4 hno=>?_
     cases u2;rw[Tr.put_eq]at h5;cases h5;exact hQ Y2 _ _ (p1.trans u1) ⟨_,RV.pure _ rfl,rfl⟩ (u4.back (u1 _ _ hm1) hno ⟨_,g2.mono (p1.trans u1),rfl⟩)
    .rename_i e3 s2 hr2
     refine hi _ _ _ _ _ _ hr2 Y1 _ _ p3 p4 _ fun Y2 ex₀ e₂ Z2 u1 u2 u3 u4 hno=>?_
     cases u2;rw[Tr.put_eq]at h5;cases h5;exact hQ Y2 _ _ (p1.trans u1) ⟨_,RV.pure _ rfl,rfl⟩ (u4.back (u1 _ _ hm1) hno ⟨_,g2.mono (p1.trans u1),rfl⟩)
    .rename_i id e3 s2 hr2
     refine hi _ _ _ _ _ _ hr2 Y1 _ _ p3 p4 _ fun Y2 ex₀ e₂ Z2 u1 u2 u3 u4 hno=>?_
     cases u2;rw[Tr.put_eq]at h5;cases h5;exact hQ Y2 _ _ (p1.trans u1) ⟨_,RV.pure _ rfl,rfl⟩ (u4.back (u1 _ _ hm1) hno ⟨_,g2.mono (p1.trans u1),rfl⟩)
    .rename_i v e3 s2 hr2
     refine hi _ _ _ _ _ _ hr2 Y1 _ _ p3 p4 _ fun Y2 ex₀ e₂ Z2 u1 u2 u3 u4 hno=>?_
     obtain⟨v',u5,rfl⟩:=u2;cases h5;exact hQ Y2 _ _ (p1.trans u1) ⟨v',u5,rfl⟩ u4
    .cases h5
   .cases h5
  .cases h
 .cases h
def SR.emp:SR P (fun _=>none) ⟨0,.leaf⟩ Gl.emp:=⟨fun _ _ h=>(by cases h),fun _ _ _ _ _ _ h=>(by cases h),fun _ _=>rfl,by show 0<=Mm+1;omega⟩
def WB {tab:Jx} (ht:La P tab) {memo:E2} (hm:G3 P memo) {ih:AV->Env->St->Rs} (hi:Rk P ih):NA P (PI tab memo ih):=by
 intro f vs v h;unfold PI at h;obtain⟨h1,h2⟩:=AW h;split at h2
 .rename_i u s hr
  split at h2
  .rename_i w hw
   obtain⟨h3,h4⟩:=AW h2;cases h4;refine⟨h1,h3,?_⟩;refine(Nh ht hm hi f vs _ _ _ hr (fun _=>none) vs Gl.emp (BY.1 (RL.pure vs h1)) SR.emp (fun r Z'=> ∃Y' u',RV Y' u u'/\SR P Y' s Z'/\r= .ret u') fun Y' r' Z' _ q2 q3=>?_).GW fun r Z' ⟨Y',u',q1,q2,e⟩=>?_
   .obtain⟨u',q4,rfl⟩:=q2
    exact⟨Y',u',q4,q3,rfl⟩
   .subst e
    exact .inl ⟨u',v,Gl.emp,rfl,fun n o ho=>(by cases ho),rW q2 Uq u u' v hw q1,rfl,rfl⟩
  .cases h2
 .cases h2
def qF {tab : Jx} (ht:La P tab) {memo:E2} (hm:G3 P memo): ∀n,Rk P (run tab memo n):=by
 intro n
 induction n using Nat.strongRecOn with
 | ind n IH=>
   cases n with
   | zero=>intro c env s ex env' s' h;cases h
   | succ n=>
     have hi:=IH n (Nat.lt_succ_self n);have hcf:=Nh ht hm hi;have hcv:=dI ht hm hi;have hcp:=WB ht hm hi;intro c env s ex env' s' h Y env₀ Z he hs Q hQ;have h:Ic tab memo (run tab memo n) c env s=some (ex,env',s'):=h;cases c with
     | skip=>cases h;exact hQ Y _ _ _ (.refl _) rfl he hs
     | ret=>cases h;exact hQ Y _ _ _ (.refl _) rfl he hs
     | exit id=>cases h;exact hQ Y _ _ _ (.refl _) rfl he hs
     | B5 ops=>
       simp only[Ic]at h;refine(Zz hcf hcv hcp h he hs (K:=fun env Z=>Q .normal env Z) (kp:=fun env v Z=>Q (.Bb v) env Z) (fun Y' e₁ Z' q1 q2 q3 q4=>?_) (fun Y' v v' e₁ Z' q1 q2 q3 q4 q5=>?_)).2.2
       .subst q2;exact hQ Y' _ _ _ q1 rfl q3 q4
       .subst q2;exact hQ Y' _ _ _ q1 ⟨v',q3,rfl⟩ q4 q5
     | EG l ops=>
       simp only[Ic]at h;show DJ P ops (fun env Z=>Q .normal (prune l env) Z) (fun v Z=> ∀Z',Sub Z Z'->Q (.Bb v) [] Z') env₀ Z;split at h
       .rename_i e1 s1 hr
        cases h;exact Pu hcf hcv hcp hr he hs (fun Y' e₁ Z' q1 q2 q3 q4=>hQ Y' _ _ _ q1 rfl (q3.prune l) q4) (fun Y' v v' Z' q1 q2 q3 q4 q5=>by cases q2)
       .rename_i hne
        refine Pu hcf hcv hcp h he hs (fun Y' e₁ Z' q1 q2 q3 q4=>?_) (fun Y' v v' Z' q1 q2 q3 q4 q5=>?_)
        .subst q2;exact absurd h (hne _ _)
        .subst q2;subst q3;exact fun Z2 hs2=>hQ Y' _ _ _ q1 ⟨v',q4,rfl⟩ F2.nil ⟨fun i o hi=>let⟨m,a1,o',a2,a3⟩:=q5.get i o hi;⟨m,a1,o',hs2 _ _ a2,a3⟩,q5.inj,q5.pN,q5.lim⟩
     | seq l a b=>
       simp only[Ic]at h;show T P a (Aa.andThen (fun env Z=>Fz (prune l env) Z (T P b Q)) Q) env₀ Z;split at h
       .rename_i e1 s1 hr
        refine hi _ _ _ _ _ _ hr Y _ Z he hs _ fun Y1 ex₀ e₁ Z1 p1 p2 p3 p4=>?_
        cases p2;exact .inl <| hi _ _ _ _ _ _ h Y1 _ Z1 (p3.prune l) p4 _ fun Y2 ex₀ e₂ Z2 u1 u2 u3 u4=>hQ Y2 _ _ _ (p1.trans u1) u2 u3 u4
       .rename_i hne
        refine hi _ _ _ _ _ _ h Y _ Z he hs _ fun Y1 ex₀ e₁ Z1 p1 p2 p3 p4=>?_
        have hf:=hQ Y1 _ _ _ p1 p2 p3 p4;cases ex with
        | normal=>exact absurd h (hne _ _)
        | ret=>cases p2;exact hf
        | exit id=>cases p2;exact hf
        | Bb v=>obtain⟨v',u1,rfl⟩:=p2;exact hf
     | cond c a b=>
       simp only[Ic]at h;simp only[T];split at h
       .rename_i hc
        obtain⟨v',q1,q2⟩:=Ar he hc;simp only[RV]at q2;subst q2;rw[q1];exact⟨fun _=>hi _ _ _ _ _ _ h Y _ Z he hs _ hQ,fun e=>by cases e⟩
       .rename_i hc
        obtain⟨v',q1,q2⟩:=Ar he hc;simp only[RV]at q2;subst q2;rw[q1];exact⟨fun e=>(by cases e),fun _=>hi _ _ _ _ _ _ h Y _ Z he hs _ hQ⟩
       .cases h
     | block id a=>
       simp only[Ic]at h;show T P a (Aa.inBlock id Q) env₀ Z;split at h
       .rename_i id' e1 s1 hr
        refine hi _ _ _ _ _ _ hr Y _ Z he hs _ fun Y1 ex₀ e₁ Z1 p1 p2 p3 p4=>?_
        cases p2;simp only[Aa.inBlock];cases hb:Nat.beq id' id with
        | true=>rw[hb]at h;cases h;exact hQ Y1 _ _ _ p1 rfl p3 p4
        | false=>rw[hb]at h;cases h;exact hQ Y1 _ _ _ p1 rfl p3 p4
       .rename_i hne
        refine hi _ _ _ _ _ _ h Y _ Z he hs _ fun Y1 ex₀ e₁ Z1 p1 p2 p3 p4=>?_
        have hf:=hQ Y1 _ _ _ p1 p2 p3 p4;cases ex with
        | normal=>cases p2;exact hf
        | ret=>cases p2;exact hf
        | exit id=>exact absurd h (hne _ _ _)
        | Bb v=>obtain⟨v',u1,rfl⟩:=p2;exact hf
     | scope a=>
       simp only[Ic]at h;exact hi _ _ _ _ _ _ h Y _ Z he hs _ hQ
     | loop l a=>
       refine⟨fun m E τ=>m<=n+1/\ ∃e s1 Y1,Y.le Y1/\RE Y1 (prune l e) E/\SR P Y1 s1 τ/\run tab memo m (.loop l a) e s1=some (ex,env',s'),⟨n+1,Io _,env,s,Y,.refl _,he.prune l,hs,h⟩,?_⟩;rintro m E τ ⟨hm1,e,s1,Y1,q1,q2,q3,q4⟩;cases m with
       | zero=>cases q4
       | succ m=>
         have hi1:=IH m (by omega)
         have q4:(match run tab memo m a (prune l e) s1 with
          | some (.normal,env',s')=>run tab memo m (.loop l a) env' s'
          | r=>r)=some (ex,env',s'):=q4
         split at q4
         .rename_i e2 s2 hr
          refine hi1 _ _ _ _ _ _ hr Y1 _ τ q2 q3 _ fun Y2 ex₀ e₁ Z1 p1 p2 p3 p4=>?_
          cases p2;exact⟨m,Nat.lt_succ_self m,by omega,e2,s2,Y2,q1.trans p1,p3.prune l,p4,q4⟩
         .rename_i hne
          refine hi1 _ _ _ _ _ _ q4 Y1 _ τ q2 q3 _ fun Y2 ex₀ e₁ Z1 p1 p2 p3 p4=>?_
          have hf:=hQ Y2 _ _ _ (q1.trans p1) p2 p3 p4;cases ex with
          | normal=>exact absurd q4 (hne _ _)
          | ret=>cases p2;exact hf
          | exit id=>cases p2;exact hf
          | Bb v=>obtain⟨v',u1,rfl⟩:=p2;exact hf
     | Dg l g ps a b=>
       simp only[Ic]at h;simp only[T];split at h
       .rename_i gf cap hg
        obtain⟨x',q1,fn',a',b',q2,q3,q4,rfl⟩:=Ar he hg;simp only[ae]at q2;subst q2;have q3:=BY.1 q3;have q4:=BY.1 q4;cases q3;rw[q1];intro L hL;obtain⟨h1,h2⟩:=St.Hu h;obtain⟨Y1,p1,p2,p3⟩:=hs.new h1 hL 0 (o:= .loop .ready (prune l env) ps a b) (o':= .loop .ready (prune l env₀) (Bt P ps a b)) ⟨_,he.prune l,rfl⟩
        have hfy:RV Y1 (.f (.yield s.nx) [] []) (.f (.yield L) [] []):=by
         simp only[RV];exact⟨.yield L,[],[],⟨_,p2,rfl⟩,BY.2 F2.nil,BY.2 F2.nil,rfl⟩
        split at h2
        .rename_i v s2 hr
         refine hcf gf _ _ _ _ hr Y1 _ _ (F2.cons hfy (LK.mono p1 q4)) p3 _ fun Y2 r' Z2 u1 u2 u3=>?_
         obtain⟨v',_,rfl⟩:=u2;split at h2
         .rename_i st e9 ps9 a9 b9 hg2
          rw[Tr.put_eq]at h2;have hm2:=u1 _ _ p2;obtain⟨o',w1,e8,w2,rfl⟩:=u3.at hg2 hm2;refine⟨st,e8,_,w1,?_⟩;have hd:=u3.del hg2 hm2;cases st<;>(simp only[id]at h2;cases h2;exact hQ Y2 _ _ _ (p1.trans u1) rfl (he.mono (p1.trans u1)) hd)
         .cases h2
        .rename_i v s2 hr
         refine hcf gf _ _ _ _ hr Y1 _ _ (F2.cons hfy (LK.mono p1 q4)) p3 _ fun Y2 r' Z2 u1 u2 u3=>?_
         obtain⟨v',u4,rfl⟩:=u2;split at h2
         .rename_i o9 hg2
          rw[Tr.put_eq]at h2;have hm2:=u1 _ _ p2;have hd:=u3.del hg2 hm2;cases h2;exact hQ Y2 _ _ _ (p1.trans u1) ⟨v',u4,rfl⟩ (he.mono (p1.trans u1)) hd
         .cases h2
        .cases h2
       .cases h
def fB (tab:Jx) (memo:E2) (n:Nat) (f:FuncId) (vs:List V) (v:V):Bool:=
 match PI tab memo (run tab memo n) f vs with
 | some u=>Eg u v
 | none=>false
def WY {tab:Jx} (ht:La P tab) {memo:E2} (hm:G3 P memo) {n:Nat} {f:FuncId} {vs:List V} {v:V} (h:fB tab memo n f vs v=true):B6 vs=true/\BJ v=true/\Pure P f vs v:=by
 unfold fB at h;split at h
 .rename_i u hu
  have:=Ou _ _ h;subst this;exact WB ht hm (qF ht hm n) f vs u hu
 .cases h
end Go.Gl
