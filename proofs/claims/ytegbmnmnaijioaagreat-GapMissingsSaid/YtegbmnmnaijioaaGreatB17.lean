import Derived.Test.YtegbmnmnaijioaaGreatB16
set_option linter.all false
set_option linter.defProp false
noncomputable section
namespace Go.Gl
variable {P:Program} {ρ ρ':Ren} {σ:AH} {env env₀:Env}
def IU (cf:CF) (cv:CV) (cp:CP) (o:Au) (env:Env) (s:St):Option (R×St):=
 match o.guard with
 | none=>FZ cf cv cp o.op env s
 | some (g,b)=>match get g env with
   | some (.b t)=>bif t==b then FZ cf cv cp o.op env s else some (.ret (.t []),s)
   | some (.t [])=>some (.ret (.t []),s)
   | _=>none
def K3 {cf:CF} {cv:CV} {cp:CP} (hcf:KC P cf) (hcv:JK P cv) (hcp:MF P cp) {o:Au} {s s':St} {r:R} (h:IU cf cv cp o env s=some (r,s')) (he:RE ρ env env₀) (hs:SR P ρ s σ) {k kp:V→AH→Prop}
    (hk: ∀ρ' r' σ',ρ.le ρ'→ky ρ' r r'→SR P ρ' s' σ'→qk k kp r' σ'):Hf P o env₀ σ k kp:=by
 unfold IU at h;unfold Hf
 have skip:some (R.ret (.t []),s)=some (r,s')→k (.t []) σ:=fun e=>by
  cases e;exact hk ρ (.ret (.t [])) σ (.refl _) ⟨_,RV.pure _ rfl,rfl⟩ hs
 split at h
 ·rename_i hg
  rw[hg];exact dB hcf hcv hcp h he hs hk
 ·rename_i g b hg
  rw[hg];split at h
  ·rename_i t ht
   obtain⟨v',h1,h2⟩:=he.get ht;simp only[RV]at h2;subst h2;simp only[h1];refine⟨fun e=>?_,fun e=>?_⟩
   ·subst e
    rw[beq_self_eq_true]at h;exact dB hcf hcv hcp h he hs hk
   ·subst e
    have:((!b)==b)=false:=by cases b<;>rfl
    rw[this]at h;exact skip h
  ·rename_i ht
   obtain⟨v',h1,h2⟩:=he.get ht;have e:=RV.gS h2 rfl;subst e;simp only[h1];exact skip h
  ·cases h
def Hn {β:Type} (v:V) (K:V→β):β:=
 match v with
 | .i k (.ofNat 0)=>K (.i k (.ofNat 0))
 | .i k (.ofNat (m+1))=>K (.i k (.ofNat (m+1)))
 | .i k (.negSucc 0)=>K (.i k (.negSucc 0))
 | .i k (.negSucc (m+1))=>K (.i k (.negSucc (m+1)))
 | .b true=>K (.b true)
 | .b false=>K (.b false)
 | v=>K v
def HY {β:Type} (v:V) (K:V→β):Hn v K=K v:=by
 unfold Hn;split<;>rfl
abbrev Rs:=Option (Af×Env×St)
def Tm (cf:CF) (cv:CV) (cp:CP):List Au→Env→St→Rs
 | [],env,s=>some (.normal,env,s)
 | o::r,env,s=>match IU cf cv cp o env s with
   | some (.ret v,s')=>Hn v fun v=>Tm cf cv cp r (put o.dst v env) s'
   | some (.Bf v,s')=>some (.Bf v,env,s')
   | none=>none
def RE.put (h:RE ρ env env₀) {v v':V} (hv:RV ρ v v') (d:Option Nat):RE ρ (Gl.put d v env) (Gl.put d v' env₀):=by
 cases d with
 | none=>exact h
 | some d=>exact F2.cons ⟨rfl,hv⟩ h
def RE.prune (h:RE ρ env env₀): ∀l:List Nat,RE ρ (Gl.prune l env) (Gl.prune l env₀)
 | []=>F2.nil
 | k ::r=>by
   simp only[Gl.prune];cases hg:Gl.get k env with
   | none=>rw[h.sx hg];exact RE.prune h r
   | some v=>
     obtain⟨v',h1,h2⟩:=h.get hg;rw[h1];exact F2.cons ⟨rfl,h2⟩ (RE.prune h r)
def RE.args: ∀ {vs vs':List V} {i:Nat},Kb ρ vs vs'→RE ρ (BA i vs) (BA i vs')
 | [],_,_,h=>by cases h;exact F2.nil
 | _::_,_,i,⟨y,ys,h1,h2,e⟩=>by subst e;exact F2.cons ⟨rfl,h1⟩ (RE.args h2)
def RE.binds: ∀ {ps:List Nat} {vs vs':List V} {env env₀:Env},Kb ρ vs vs'→RE ρ env env₀→RE ρ (E6 ps vs env) (E6 ps vs' env₀)
 | [],vs,vs',_,_,_,he=>by cases vs<;>cases vs'<;>exact he
 | p::ps,[],_,_,_,h,he=>by cases h;exact he
 | p::ps,_::_,_,_,_,⟨y,ys,h1,h2,e⟩,he=>by subst e;simp only[E6];exact RE.binds h2 (RE.put he h1 (some p))
def Yl {cf:CF} {cv:CV} {cp:CP} (hcf:KC P cf) (hcv:JK P cv) (hcp:MF P cp): ∀ {ops:List Au} {env env₀:Env} {ρ:Ren} {σ:AH} {s s':St} {ex:Af} {env':Env},Tm cf cv cp ops env s=some (ex,env',s')→RE ρ env env₀→SR P ρ s σ→
    ∀ {K:Env→AH→Prop} {kp:Env→V→AH→Prop},(∀ρ' env₁ σ',ρ.le ρ'→ex= .normal→RE ρ' env' env₁→SR P ρ' s' σ'→K env₁ σ')→(∀ρ' v v' env₁ σ',ρ.le ρ'→ex= .Bf v→RV ρ' v v'→RE ρ' env' env₁→SR P ρ' s' σ'→kp env₁ v' σ')→
    (∀id,ex≠ .exit id)∧ex≠ .ret∧Ii P ops K kp env₀ σ
 | [],env,env₀,ρ,σ,s,s',ex,env',h,he,hs,K,kp,U,hp=>by cases h;exact⟨fun _ e=>(by cases e),fun e=>(by cases e),U ρ _ _ (.refl _) rfl he hs⟩
 | o :: r, env,env₀,ρ,σ,s,s',ex,env',h,he,hs,K,kp,U,hp=>by
   simp only[Ii]
   have h':(match IU cf cv cp o env s with
    | some (.ret v,s')=>Hn v fun v=>Tm cf cv cp r (put o.dst v env) s'
    | some (.Bf v,s')=>some (.Bf v,env,s')
    | none=>none)=some (ex,env',s'):=h
   split at h'
   ·rename_i v s1 h1
    rw[HY]at h'
    have base: ∀ρ1 v' σ1,ρ.le ρ1→RV ρ1 v v'→SR P ρ1 s1 σ1→(∀id,ex≠ .exit id)∧ex≠ .ret∧Ii P r K kp (put o.dst v' env₀) σ1:=fun ρ1 v' σ1 q1 q2 q3=>
     Yl hcf hcv hcp h' ((he.mono q1).put q2 o.dst) q3 (fun ρ' e₁ σ' p1 p2 p3 p4=>U ρ' e₁ σ' (q1.trans p1) p2 p3 p4) (fun ρ' v v' e₁ σ' p1 p2 p3 p4 p5=>hp ρ' v v' e₁ σ' (q1.trans p1) p2 p3 p4 p5)
    have hx : (∀id,ex≠ .exit id)∧ex≠ .ret:=by
     clear base U hp
     have gen: ∀(ops:List Au) (env:Env) (s:St),Tm cf cv cp ops env s=some (ex,env',s')→(∀id,ex≠ .exit id)∧ex≠ .ret:=by
      intro ops
      induction ops with
      | nil=>intro env s h;cases h;exact⟨fun _ e=>(by cases e),fun e=>(by cases e)⟩
      | cons o r ih=>
        intro env s h
        have h':(match IU cf cv cp o env s with
         | some (.ret v,s')=>Hn v fun v=>Tm cf cv cp r (put o.dst v env) s'
         | some (.Bf v,s')=>some (.Bf v,env,s')
         | none=>none)=some (ex,env',s'):=h
        split at h'
        ·rw[HY]at h';exact ih _ _ h'
        ·cases h';exact⟨fun _ e=>(by cases e),fun e=>(by cases e)⟩
        ·cases h'
     exact gen _ _ _ h'
    refine⟨hx.1,hx.2,K3 hcf hcv hcp h1 he hs fun ρ1 r1 σ1 q1 q2 q3=>?_⟩;obtain⟨v',q4,rfl⟩:=q2;exact(base ρ1 v' σ1 q1 q4 q3).2.2
   ·rename_i v s1 h1
    cases h';refine⟨fun _ e=>(by cases e),fun e=>(by cases e),K3 hcf hcv hcp h1 he hs fun ρ1 r1 σ1 q1 q2 q3=>?_⟩;obtain⟨v',q4,rfl⟩:=q2;exact hp ρ1 v v' _ σ1 q1 rfl q4 (he.mono q1) q3
   ·cases h'
def gJ (cf:CF) (cv:CV) (cp:CP) (re:List Au) (env:Env) (s:St):Bool:=
 re.all fun x=>match IU cf cv cp x env s with
  | some (.ret u,_)=>match x.dst with
    | none=>true
    | some d=>match get d env with|some w=>EZ u w|none=>false
  | _=>false
def QS (cf:CF) (cv:CV) (cp:CP):List Cf→Env→St→Rs
 | [],env,s=>some (.normal,env,s)
 | d::r,env,s=>match IU cf cv cp d.o env s with
   | some (.ret v,s')=>Hn v fun v=>bif gJ cf cv cp d.re (put d.o.dst v env) s' then QS cf cv cp r (put d.o.dst v env) s' else none
   | some (.Bf v,s')=>some (.Bf v,[],s')
   | none=>none
def dA {cf:CF} {cv:CV} {cp:CP} (hcf:KC P cf) (hcv:JK P cv) (hcp:MF P cp) {s:St} (he:RE ρ env env₀) (hs:SR P ρ s σ): ∀ {re:List Au},gJ cf cv cp re env s=true→EH P re env₀ σ
 | [],_=>trivial
 | x ::r,h=>by
   have h':((match IU cf cv cp x env s with
    | some (.ret u,_)=>match x.dst with
      | none=>true
      | some d=>match get d env with|some w=>EZ u w|none=>false
    | _=>false)&&gJ cf cv cp r env s)=true:=h
   simp only[BU]at h';refine⟨?_,dA hcf hcv hcp he hs h'.2⟩;have h1:=h'.1;split at h1
   ·rename_i u s1 hu
    refine K3 hcf hcv hcp hu he hs fun ρ1 r1 σ1 q1 q2 q3=>?_
    obtain⟨u',q4,rfl⟩:=q2;intro d hd;rw[hd]at h1;simp only at h1;split at h1
    ·rename_i w hw
     obtain⟨w',g1,g2⟩:=he.get hw;have e:=Nx _ _ h1;subst e;rw[g1,RV.fn u w' u' (RV.mono q1 _ _ g2) q4]
    ·cases h1
   ·cases h1
def Oz {cf:CF} {cv:CV} {cp:CP} (hcf:KC P cf) (hcv:JK P cv) (hcp:MF P cp): ∀ {ops:List Cf} {env env₀:Env} {ρ:Ren} {σ:AH} {s s':St} {ex:Af} {env':Env},QS cf cv cp ops env s=some (ex,env',s')→RE ρ env env₀→SR P ρ s σ→
    ∀ {K:Env→AH→Prop} {kp:V→AH→Prop},(∀ρ' env₁ σ',ρ.le ρ'→ex= .normal→RE ρ' env' env₁→SR P ρ' s' σ'→K env₁ σ')→(∀ρ' v v' σ',ρ.le ρ'→ex= .Bf v→env'= []→RV ρ' v v'→SR P ρ' s' σ'→kp v' σ')→
    DH P ops K kp env₀ σ
 | [],env,env₀,ρ,σ,s,s',ex,env',h,he,hs,K,kp,U,hp=>by cases h;exact U ρ _ _ (.refl _) rfl he hs
 | d ::r,env,env₀,ρ,σ,s,s',ex,env',h,he,hs,K,kp,U,hp=>by
   simp only[DH]
   have h':(match IU cf cv cp d.o env s with
    | some (.ret v,s')=>Hn v fun v=>bif gJ cf cv cp d.re (put d.o.dst v env) s' then QS cf cv cp r (put d.o.dst v env) s' else none
    | some (.Bf v,s')=>some (.Bf v,[],s')
    | none=>none)=some (ex,env',s'):=h
   split at h'
   ·rename_i v s1 h1
    rw[HY]at h';obtain⟨h2,h3⟩:=AZ h';refine K3 hcf hcv hcp h1 he hs fun ρ1 r1 σ1 q1 q2 q3=>?_
    obtain⟨v',q4,rfl⟩:=q2;have he':=(he.mono q1).put q4 d.o.dst;exact⟨dA hcf hcv hcp he' q3 h2,Oz hcf hcv hcp h3 he' q3 (fun ρ' e₁ σ' p1 p2 p3 p4=>U ρ' e₁ σ' (q1.trans p1) p2 p3 p4) (fun ρ' v v' σ' p1 p2 p3 p4 p5=>hp ρ' v v' σ' (q1.trans p1) p2 p3 p4 p5)⟩
   ·rename_i v s1 h1
    cases h';refine K3 hcf hcv hcp h1 he hs fun ρ1 r1 σ1 q1 q2 q3=>?_
    obtain⟨v',q4,rfl⟩:=q2;exact hp ρ1 v v' σ1 q1 rfl rfl q4 q3
   ·cases h'
def Jt {α β:Type} (f:α→Option β):List α→Option (List β)
 | []=>some []
 | x::r=>ob (f x) fun y=>ob (Jt f r) fun ys=>some (y::ys)
def G7 (s:St):Nat→V→Option V
 | 0,_=>none
 | d + 1,v=>bif BL v then some v else
   match v with
   | .p n 0=>match s.t.get n with
     | some (.cs vs)=>ob (Jt (G7 s d) vs) fun us=>some (.rp us)
     | _=>none
   | .sl n len _=>match s.t.get n with
     | some (.arr _ es)=>bif Nat.beq len es.length then ob (Jt (Jt (G7 s d)) es) fun us=>some (.l us false)else none
     | _=>none
   | .a cs=>ob (Jt (G7 s d) cs) fun us=>some (.a us)
   | .t cs=>ob (Jt (G7 s d) cs) fun us=>some (.t us)
   | .rp cs=>ob (Jt (G7 s d) cs) fun us=>some (.rp us)
   | .l es f=>ob (Jt (Jt (G7 s d)) es) fun us=>some (.l us f)
   | .Er t x=>ob (G7 s d x) fun u=>some (.Er t u)
   | _=>none
def N8 (s:St):Nat→V→List Nat
 | 0,_=>[]
 | d + 1,v=>bif BL v then []else
   match v with
   | .p n 0=>match s.t.get n with
     | some (.cs vs)=>n::vs.flatMap (N8 s d)
     | _=>[]
   | .sl n _ _=>match s.t.get n with
     | some (.arr _ es)=>n::es.flatMap fun e=>e.flatMap (N8 s d)
     | _=>[]
   | .a cs=>cs.flatMap (N8 s d)
   | .t cs=>cs.flatMap (N8 s d)
   | .rp cs=>cs.flatMap (N8 s d)
   | .l es _=>es.flatMap fun e=>e.flatMap (N8 s d)
   | .Er _ x=>N8 s d x
   | _=>[]
def OY (s:St):List Nat→St
 | []=>s
 | i::r=>match s.t.get i with
   | some _=>Tr.put none BE s.t i fun t=>OY ⟨s.nx,t⟩ r
   | none=>OY s r
def Md: ∀ {l:List Nat} {s:St} {σ:AH},SR P ρ s σ→ ∃σ',SR P ρ (OY s l) σ'∧Sub σ' σ∧ ∀i∈l,∀m,ρ i=some m→(s.t.get i).isSome=true→σ' m.1=none
 | [],s,σ,h=>⟨σ,h,Sub.refl _,fun _ h=>by cases h⟩
 | i ::r,s,σ,h=>by
   simp only[OY];split
   ·rename_i o hg
    rw[Tr.put_eq];obtain⟨m,hm,_⟩:=h.get i o hg;obtain⟨σ',h1,h2,h3⟩:=Md (l:=r) (h.del hg hm);have hsub:Sub (del σ m.1) σ:=Fg σ m.1;refine⟨σ',h1,h2.trans hsub,fun j hj m' hm' hl=>?_⟩;by_cases e:j=i
    ·subst e
     rw[hm]at hm';cases hm';exact h2.none (DK σ m.1)
    ·rcases G5.1 hj with e'|hj
     ·exact absurd e' e
     ·refine h3 j hj m' hm' ?_
      show((Tr.set none BE s.t i).get j).isSome=true;rw[Tr.Dv _ _ _ (ZL (h.lt hm)),if_neg e];exact hl
   ·rename_i hg
    obtain⟨σ',h1,h2,h3⟩:=Md (l:=r) h;refine⟨σ',h1,h2,fun j hj m' hm' hl=>?_⟩;rcases G5.1 hj with e'|hj
    ·subst e';rw[hg]at hl;cases hl
    ·exact h3 j hj m' hm' hl
def HQ {f:V→Option V} {g:V→List Nat} {s:St} {σ σ':AH} (hf: ∀v v' u,f v=some u→RV ρ v v'→(∀i∈g v,∀m,ρ i=some m→(s.t.get i).isSome=true→σ' m.1=none)→FF σ σ' v' u): ∀ {vs vs' us:List V},Jt f vs=some us→Kb ρ vs vs'→
    (∀i∈vs.flatMap g,∀m,ρ i=some m→(s.t.get i).isSome=true→σ' m.1=none)→DS σ σ' vs' us
 | [],_,_,h,h',_=>by cases h;cases h';exact .nil
 | x::r,_,us,h,⟨y,ys,h1,h2,e⟩,hd=>by
   subst e;replace h:=AV h;obtain⟨u,h3,h⟩:=h;replace h:=AV h;obtain⟨us,h4,h⟩:=h;cases h;exact .cons (hf _ _ _ h3 h1 fun i hi=>hd i (by simp only[List.flatMap_cons,FJ];exact .inl hi)) (HQ hf h4 h2 fun i hi=>hd i (by simp only[List.flatMap_cons,FJ];exact .inr hi))
def MT {f:V→Option V} {g:V→List Nat} {s:St} {σ σ':AH} (hf: ∀v v' u,f v=some u→RV ρ v v'→(∀i∈g v,∀m,ρ i=some m→(s.t.get i).isSome=true→σ' m.1=none)→FF σ σ' v' u): ∀ {vs vs' us:List (List V)},Jt (Jt f) vs=some us→bI ρ vs vs'→
    (∀i∈vs.flatMap (fun e=>e.flatMap g),∀m,ρ i=some m→(s.t.get i).isSome=true→σ' m.1=none)→E3 σ σ' vs' us
 | [],_,_,h,h',_=>by cases h;cases h';exact .nil
 | x::r,_,us,h,⟨y,ys,h1,h2,e⟩,hd=>by
   subst e;replace h:=AV h;obtain⟨u,h3,h⟩:=h;replace h:=AV h;obtain⟨us,h4,h⟩:=h;cases h;exact .cons (HQ hf h3 h1 fun i hi=>hd i (by simp only[List.flatMap_cons,FJ];exact .inl hi)) (MT hf h4 h2 fun i hi=>hd i (by simp only[List.flatMap_cons,FJ];exact .inr hi))
def Ow {s : St} (hs:SR P ρ s σ) {σ':AH}: ∀(d:Nat) (v v' u:V),G7 s d v=some u→RV ρ v v'→(∀i∈N8 s d v,∀m,ρ i=some m→(s.t.get i).isSome=true→σ' m.1=none)→FF σ σ' v' u
 | 0,_,_,_,h,_,_=>by cases h
 | d + 1,v,v',u,h,hv,hd=>by
   have ih:=Ow hs (σ':=σ') d;simp only[G7]at h;simp only[N8]at hd;cases hp:BL v with
   | true=>
     rw[hp]at h;cases h;rw[RV.gS hv hp];exact .refl _
   | false=>
     rw[hp]at h hd;simp only[cond_false]at h hd;split at h
     ·obtain⟨m,g1,rfl⟩:=hv
      split at h
      ·rename_i vs hg
       replace h:=AV h;obtain⟨us,h1,h⟩:=h;cases h;simp only[hg]at hd;obtain⟨o',g2,vs',g3,rfl⟩:=hs.at hg g1;exact .cs g2 (hd _ (.head _) m g1 (by rw[hg];rfl)) (HQ ih h1 g3 fun i hi=>hd i (.tail _ hi))
      ·cases h
     ·obtain⟨m,g1,rfl⟩:=hv
      split at h
      ·rename_i es hg
       replace h:=AZ h;obtain⟨h0,h⟩:=h;replace h:=AV h;obtain⟨us,h1,h⟩:=h;cases h;simp only[hg]at hd;obtain⟨o',g2,es',g3,rfl⟩:=hs.at hg g1;exact .arr g2 (hd _ (.head _) m g1 (by rw[hg];rfl)) (by rw[g3.len];exact Cu h0) (MT ih h1 g3 fun i hi=>hd i (.tail _ hi))
      ·cases h
     ·replace h:=AV h;obtain⟨us,h1,h⟩:=h
      cases h;obtain⟨c,g1,rfl⟩:=hv;exact .a (HQ ih h1 (Bd.1 g1) hd)
     ·replace h:=AV h;obtain⟨us,h1,h⟩:=h
      cases h;obtain⟨c,g1,rfl⟩:=hv;exact .t (HQ ih h1 (Bd.1 g1) hd)
     ·replace h:=AV h;obtain⟨us,h1,h⟩:=h
      cases h;obtain⟨c,g1,rfl⟩:=hv;exact .rp (HQ ih h1 (Bd.1 g1) hd)
     ·replace h:=AV h;obtain⟨us,h1,h⟩:=h
      cases h;obtain⟨c,g1,rfl⟩:=hv;exact .l (fun e=>e) (MT ih h1 (FQ.1 g1) hd)
     ·replace h:=AV h;obtain⟨us,h1,h⟩:=h
      cases h;obtain⟨c,g1,rfl⟩:=hv;exact .Er (ih _ _ _ h1 g1 hd)
     ·cases h
def oY {s:St} (hs:SR P ρ s σ) (d:Nat) (v v' u:V) (h:G7 s d v=some u) (hv:RV ρ v v'):FF σ emp v' u:=Ow hs d v v' u h hv fun _ _ _ _ _=>rfl
def Fp {f:V→Option V} (hf: ∀v u,f v=some u→BL u=true): ∀ {vs us:List V},Jt f vs=some us→B6 us=true
 | [],_,h=>by cases h;rfl
 | x::r,us,h=>by
   replace h:=AV h;obtain⟨u,h3,h⟩:=h;replace h:=AV h;obtain⟨us,h4,h⟩:=h;cases h;simp only[B6,hf _ _ h3,Fp hf h4,Bool.and_self]
def KO {f:V→Option V} (hf: ∀v u,f v=some u→BL u=true): ∀ {vs us:List (List V)},Jt (Jt f) vs=some us→QN us=true
 | [],_,h=>by cases h;rfl
 | x::r,us,h=>by
   replace h:=AV h;obtain⟨u,h3,h⟩:=h;replace h:=AV h;obtain⟨us,h4,h⟩:=h;cases h;simp only[QN,Fp hf h3,KO hf h4,Bool.and_self]
def Uw (s : St): ∀(d:Nat) (v u:V),G7 s d v=some u→BL u=true
 | 0,_,_,h=>by cases h
 | d + 1,v,u,h=>by
   have ih:=Uw s d;simp only[G7]at h;cases hp:BL v with
   | true=>rw[hp]at h;cases h;exact hp
   | false=>
     rw[hp]at h;simp only[cond_false]at h;split at h
     ·split at h
      ·replace h:=AV h;obtain⟨us,h1,h⟩:=h
       cases h;simp only[BL];exact Fp ih h1
      ·cases h
     ·split at h
      ·replace h:=AZ h;obtain⟨h0,h⟩:=h
       replace h:=AV h;obtain⟨us,h1,h⟩:=h;cases h;simp only[BL];exact KO ih h1
      ·cases h
     ·replace h:=AV h;obtain⟨us,h1,h⟩:=h
      cases h;simp only[BL];exact Fp ih h1
     ·replace h:=AV h;obtain⟨us,h1,h⟩:=h
      cases h;simp only[BL];exact Fp ih h1
     ·replace h:=AV h;obtain⟨us,h1,h⟩:=h
      cases h;simp only[BL];exact Fp ih h1
     ·replace h:=AV h;obtain⟨us,h1,h⟩:=h
      cases h;simp only[BL];exact KO ih h1
     ·replace h:=AV h;obtain⟨us,h1,h⟩:=h
      cases h;simp only[BL];exact ih _ _ h1
     ·cases h
def Tk:Nat:=60
def mf:Option (R×St)→Option (R×St)
 | some (.ret v,s)=>ob (G7 s Tk v) fun u=>some (.ret u,OY s (N8 s Tk v))
 | r=>r
def A8.G7 {f:FuncId} {args:List V} {σ:AH} {Q Q':R→AH→Prop} (h:A8 P f args σ Q) (hq: ∀r σ',Q r σ'→(∃v vf σ'',r= .ret v∧Sub σ'' σ'∧FF σ' σ'' v vf∧Q' (.ret vf) σ'')∨Q' r σ'):A8 P f args σ Q':=
 ⟨h.1,fun Λ w cs h1 h2=>Calls.mono (h.2 Λ w cs h1 h2) fun e w' ⟨r,σ',q1,q2,q3,q4⟩=>by
  rcases hq r σ' q1 with⟨v,vf,σ'',rfl,p1,p2,p3⟩|h
  ·obtain⟨c,rfl,q5⟩:=q2
   exact⟨.ret vf,σ'',p3,⟨c,rfl,p2.rel q3 p1 q5⟩,q3.drop p1,q4.trans (Bx.drop w' p1)⟩
  ·exact⟨r,σ',h,q2,q3,q4⟩⟩
inductive ZG where
 | fn (n:Nat) (ac:AY) (AJ:List RS)
 | sP (n:Nat) (aA:AY) (ops:List Au) (x:Bj) (aC:AY) (AJ:List RS) (l1 l2:List Nat)
 | sK (n:Nat) (k:Nat) (ops:List Au) (ac:AY) (l:List Nat)
 | sY (n:Nat) (ac:AY) (AJ:List RS)
 | ZJ (c:List V→St→Option (R×St))
 | uN (n:Nat) (ac:AY)
def NX (P:Program) (f:FuncId):ZG→Prop
 | .fn n ac AJ=> ∀(args:List V) (σ:AH) (Q:R→AH→Prop),args.length≤n→T P ac (Tv AJ Q) (BA 0 args) σ→A8 P f args σ Q
 | .sY n ac AJ=> ∀(args:List V) (σ:AH) (Q:R→AH→Prop),args.length≤n→T P ac (Tv AJ Q) (BA 0 args) σ→A8 P f args σ Q
 | .sP n aA ops x aC AJ l1 l2=> ∀(args:List V) (σ:AH) (Q:R→AH→Prop),args.length≤n→T P (.seq l1 aA (.DB ops)) (Ch (OA P x l2 aC AJ Q)) (BA 0 args) σ→A8 P f args σ Q
 | .sK n k ops ac l=> ∀(args:List V) (m:Option V) (σ:AH) (Q:AH→Prop),args.length≤n→T P (.seq l (.DB ops) ac) (NY Q) (put (some k) (m.getD .Db) (BA 0 args)) σ→HB P f args m σ Q
 | .ZJ c=> ∀vs s r s',c vs s=some (r,s')→ ∀ρ vs' σ,Kb ρ vs vs'→SR P ρ s σ→ ∀Q:R→AH→Prop,(∀ρ' r' σ',ρ.le ρ'→ky ρ' r r'→SR P ρ' s' σ'→Q r' σ')→A8 P f vs' σ Q
 | .uN n ac=> ∀(args:List V) (σ:AH) (Q:AH→Prop),args.length≤n→T P ac (NY Q) (BA 0 args) σ→HB P f args none σ Q
abbrev JX:=FuncId→Option ZG
def Ku (P:Program) (tab:JX):Prop:= ∀f fs,tab f=some fs→NX P f fs
abbrev Ev:=FuncId→List (List V×V)
def Gz (P:Program) (memo:Ev):Prop:= ∀f,∀m∈memo f,B6 m.1=true∧BL m.2=true∧Pure P f m.1 m.2
def Xa (s:St) (env:Env):List RS→Option (List V)
 | []=>some []
 | .t n::r=>ob (get n env) fun v=>ob (Xa s env r) fun vs=>some (v::vs)
 | .c n g::r=>ob (get n env) fun a=>ob (Mz s g a) fun v=>ob (Xa s env r) fun vs=>some (v::vs)
def L6 {s:St} (he:RE ρ env env₀) (hs:SR P ρ s σ): ∀ {l:List RS} {vs:List V},Xa s env l=some vs→ ∀ {K:List V→Prop},(∀vs',Kb ρ vs vs'→K vs')→TS σ env₀ l K
 | [],vs,h,K,U=>by cases h;exact U _ F2.nil
 | .t n::r,vs,h,K,U=>by
   replace h:=AV h;obtain⟨v,h1,h⟩:=h;replace h:=AV h;obtain⟨us,h2,h⟩:=h;cases h;obtain⟨v',e1,e2⟩:=he.get h1;simp only[TS,e1,Ei];exact L6 he hs h2 fun us' hu=>U _ (F2.cons e2 hu)
 | .c n g::r,vs,h,K,U=>by
   replace h:=AV h;obtain⟨a,h1,h⟩:=h;replace h:=AV h;obtain⟨v,h3,h⟩:=h;replace h:=AV h;obtain⟨us,h2,h⟩:=h;cases h;obtain⟨v',e1,e2⟩:=he.get h1;simp only[TS,e1,Ei];exact U2 hs h3 e2 fun w hw=>L6 he hs h2 fun us' hu=>U _ (F2.cons hw hu)
def Nf {vs vs':List V} (h:Kb ρ vs vs'):RV ρ (EY vs) (EY vs'):=by
 match vs,vs',h with
 | [],_,h=>cases h;simp only[EY,RV];exact⟨[],Bd.2 F2.nil,rfl⟩
 | [v],_,⟨y,ys,h1,h2,e⟩=>cases h2;subst e;exact h1
 | v::u::r,_,⟨y,ys,h1,⟨z,zs,h2,h3,e⟩,e'⟩=>
   subst e;subst e';show RV ρ (.t (v::u::r)) (.t (y::z::zs));simp only[RV];exact⟨_,Bd.2 (F2.cons h1 (F2.cons h2 h3)),rfl⟩
def ZQ (AJ:List RS) (r:Rs):Option (R×St):=
 match r with
 | some (.normal,env,s)=>ob (Xa s env AJ) fun vs=>some (.ret (EY vs),s)
 | some (.ret,env,s)=>ob (Xa s env AJ) fun vs=>some (.ret (EY vs),s)
 | some (.Bf v,_,s)=>some (.Bf v,s)
 | _=>none
def V4 (tab:JX) (ih:AY→Env→St→Rs) (g:FuncId) (cap:List V) (m:Option V) (AJ:List RS) (env:Env) (s:St):Option (R×St):=
 match tab g with
 | some (.sK n k ops ac l)=>bif Nat.ble cap.length n then
  match ih (.seq l (.DB ops) ac) (put (some k) (m.getD .Db) (BA 0 cap)) s with
  | some (.normal,_,s')=>ob (Xa s' env AJ) fun vs=>some (.ret (EY vs),s')
  | some (.ret,_,s')=>ob (Xa s' env AJ) fun vs=>some (.ret (EY vs),s')
  | _=>none
   else none
 | some (.uN n ac)=>match m with
   | some _=>none
   | none=>bif Nat.ble cap.length n then
     match ih ac (BA 0 cap) s with
     | some (.normal,_,s')=>ob (Xa s' env AJ) fun vs=>some (.ret (EY vs),s')
     | some (.ret,_,s')=>ob (Xa s' env AJ) fun vs=>some (.ret (EY vs),s')
     | _=>none
   else none
 | _=>none
def QT (tab:JX) (ih:AY→Env→St→Rs) (f:FuncId) (vs:List V) (s:St):Option (R×St):=
 match tab f with
 | some (.fn n ac AJ)=>bif Nat.ble vs.length n then ZQ AJ (ih ac (BA 0 vs) s)else none
 | some (.sP n aA ops x aC AJ l1 l2)=>bif Nat.ble vs.length n then
  match ih (.seq l1 aA (.DB ops)) (BA 0 vs) s with
  | some (.normal,env,s1)=>match DM env x with
    | some (.f (.func g) [] cap)=>match ih aC (prune l2 env) s1 with
      | some (.normal,env2,s2)=>V4 tab ih g cap none AJ env2 s2
      | some (.ret,env2,s2)=>V4 tab ih g cap none AJ env2 s2
      | some (.Bf v,env2,s2)=>V4 tab ih g cap (some v) AJ env2 s2
      | _=>none
    | _=>none
  | _=>none
   else none
 | some (.sY n ac AJ)=>bif Nat.ble vs.length n then mf (ZQ AJ (ih ac (BA 0 vs) s))else none
 | some (.ZJ c)=>c vs s
 | _=>none
def T4 (vs:List V):List (List V×V)→Option V
 | []=>none
 | m::r=>bif Lw m.1 vs then some m.2 else T4 vs r
def Gx (tab:JX) (memo:Ev) (ih:AY→Env→St→Rs):CF:=fun f vs s=>
 match memo f with
 | []=>QT tab ih f vs s
 | m::r=>match T4 vs (m::r)with
   | some v=>some (.ret v,s)
   | none=>QT tab ih f vs s
def MB (tab:JX) (memo:Ev) (ih:AY→Env→St→Rs):CV:=fun x vs s=>
 match x with
 | .f (.func f) first cap=>Gx tab memo ih f (first++vs++cap) s
 | .f (.yield L) [] []=>match s.t.get L with
   | some (.loop .ready env ps a b)=>bif Nat.beq vs.length ps.length then
    Tr.put none BE s.t L fun t=>match ih a (E6 ps vs env) ⟨s.nx,t⟩with
    | some (.normal,env1,s1)=>match ih b env1 s1 with
      | some (.normal,_,s2)=>Tr.put (some (.loop .ready env ps a b)) BE s2.t L fun t=>some (.ret (.b true),⟨s2.nx,t⟩)
      | some (.ret,_,s2)=>Tr.put (some (.loop .ret env ps a b)) BE s2.t L fun t=>some (.ret (.b false),⟨s2.nx,t⟩)
      | some (.exit id,_,s2)=>Tr.put (some (.loop (.exit id) env ps a b)) BE s2.t L fun t=>some (.ret (.b false),⟨s2.nx,t⟩)
      | some (.Bf v,_,s2)=>some (.Bf v,s2)
      | none=>none
    | _=>none
     else none
   | _=>none
 | _=>none
def OO (tab:JX) (memo:Ev) (ih:AY→Env→St→Rs):CP:=fun f vs=>
 bif B6 vs then match Gx tab memo ih f vs ⟨0,.leaf⟩with
  | some (.ret v,s)=>match G7 s Tk v with
    | some u=>bif BL u then some u else none
    | none=>none
  | _=>none
 else none
def IK (tab:JX) (memo:Ev) (ih:AY→Env→St→Rs) (c:AY) (env:Env) (s:St):Rs:=
 match c with
 | .skip=>some (.normal,env,s)
 | .ret=>some (.ret,env,s)
 | .exit id=>some (.exit id,env,s)
 | .DB ops=>Tm (Gx tab memo ih) (MB tab memo ih) (OO tab memo ih) ops env s
 | .G9 l ops=>match QS (Gx tab memo ih) (MB tab memo ih) (OO tab memo ih) ops env s with
   | some (.normal,env',s')=>some (.normal,prune l env',s')
   | r=>r
 | .seq l a b=>match ih a env s with
   | some (.normal,env',s')=>ih b (prune l env') s'
   | r=>r
 | .cond c a b=>match DM env c with
   | some (.b true)=>ih a env s
   | some (.b false)=>ih b env s
   | _=>none
 | .block id a=>match ih a env s with
   | some (.exit id',env',s')=>bif Nat.beq id' id then some (.normal,env',s')else some (.exit id',env',s')
   | r=>r
 | .scope a=>ih a env s
 | .loop l a=>match ih a (prune l env) s with
   | some (.normal,env',s')=>ih (.loop l a) env' s'
   | r=>r
 | .Dh l g ps a b=>match DM env g with
   | some (.f (.func gf) [] cap)=>s.new (.loop .ready (prune l env) ps a b) fun i s1=>
    match Gx tab memo ih gf (.f (.yield i) [] []::cap) s1 with
    | some (.ret _,s2)=>match s2.t.get i with
      | some (.loop st _ _ _ _)=>Tr.put none BE s2.t i fun t=>some ((match st with| .ready=> .normal| .ret=> .ret| .exit id=> .exit id),env,⟨s2.nx,t⟩)
      | _=>none
    | some (.Bf v,s2)=>match s2.t.get i with
      | some _=>Tr.put none BE s2.t i fun t=>some (.Bf v,env,⟨s2.nx,t⟩)
      | none=>none
    | none=>none
   | _=>none
def run (tab:JX) (memo:Ev):Nat→AY→Env→St→Rs
 | 0,_,_,_=>none
 | n+1,c,env,s=>IK tab memo (run tab memo n) c env s
def QW (P:Program) (ih:AY→Env→St→Rs):Prop:= ∀c env s ex env' s',ih c env s=some (ex,env',s')→ ∀ρ env₀ σ,RE ρ env env₀→SR P ρ s σ→
 ∀Q:Af→Env→AH→Prop,(∀ρ' ex₀ env₁ σ',ρ.le ρ'→uU ρ' ex ex₀→RE ρ' env' env₁→SR P ρ' s' σ'→Q ex₀ env₁ σ')→T P c Q env₀ σ
def uU.normal {ex:Af} (h:uU ρ .normal ex):ex= .normal:=h
def Yk {AJ:List RS} {ex:Af} {env':Env} {s1 s':St} {r:R} (h:ZQ AJ (some (ex,env',s1))=some (r,s')) {Q:R→AH→Prop}
    (hQ: ∀ρ' r' σ',ρ.le ρ'→ky ρ' r r'→SR P ρ' s' σ'→Q r' σ') {ρ':Ren} {ex₀:Af} {env₁:Env} {σ':AH} (q1:ρ.le ρ') (q2:uU ρ' ex ex₀) (q3:RE ρ' env' env₁) (q4:SR P ρ' s1 σ'):Tv AJ Q ex₀ env₁ σ':=by
 cases ex with
 | normal=>
   cases q2;replace h:=AV h;obtain⟨vs,h1,h⟩:=h;cases h;exact L6 q3 q4 h1 fun vs' hv=>⟨_,σ',Sub.refl _,.refl _,hQ ρ' _ σ' q1 ⟨_,Nf hv,rfl⟩ q4⟩
 | ret=>
   cases q2;replace h:=AV h;obtain⟨vs,h1,h⟩:=h;cases h;exact L6 q3 q4 h1 fun vs' hv=>⟨_,σ',Sub.refl _,.refl _,hQ ρ' _ σ' q1 ⟨_,Nf hv,rfl⟩ q4⟩
 | exit id=>cases h
 | Bf v=>
   cases h;obtain⟨v',h1,rfl⟩:=q2;exact⟨v',σ',Sub.refl _,.refl _,hQ ρ' (.Bf v') σ' q1 ⟨v',h1,rfl⟩ q4⟩
def HB.mono {f:FuncId} {args:List V} {m:Option V} {σ:AH} {Q Q':AH→Prop} (h:HB P f args m σ Q) (hq: ∀σ',Q σ'→Q' σ'):HB P f args m σ Q':=
 ⟨h.1,fun Λ w cs u h1 h2 h3=>CallsDIn.mono (h.2 Λ w cs u h1 h2 h3) fun e u' w' ⟨a,b,σ',c,d⟩=>⟨a,b,σ',hq _ c,d⟩⟩
def S2 {tab:JX} (ht:Ku P tab) {ih:AY→Env→St→Rs} (hi:QW P ih) {g:FuncId} {cap cap':List V} {m m':Option V} {AJ:List RS} {s s':St} {r:R} (h:V4 tab ih g cap m AJ env s=some (r,s'))
    (he:RE ρ env env₀) (hs:SR P ρ s σ) (hc:Kb ρ cap cap') (hm:kx ρ m m') {Q:R→AH→Prop} (hQ: ∀ρ' r' σ',ρ.le ρ'→ky ρ' r r'→SR P ρ' s' σ'→Q r' σ') :
    HB P g cap' m' σ fun σ'=>TS σ' env₀ AJ fun vs=>Ap σ' (EY vs) Q:=by
 unfold V4 at h;split at h
 ·rename_i n k ops ac l htab
  obtain⟨h1,h2⟩:=AZ h
  have hg:RV ρ (m.getD .Db) (m'.getD .Db):=by
   cases m with
   | none=>cases hm;exact RV.pure _ rfl
   | some v=>obtain⟨v',h3,rfl⟩:=hm;exact h3
  have fin: ∀ {ex:Af} {e2:Env} {s2:St},ih (.seq l (.DB ops) ac) (put (some k) (m.getD .Db) (BA 0 cap)) s=some (ex,e2,s2)→(ex= .normal∨ex= .ret)→(ob (Xa s2 env AJ) fun vs=>some (R.ret (EY vs),s2))=some (r,s')→
   HB P g cap' m' σ fun σ'=>TS σ' env₀ AJ fun vs=>Ap σ' (EY vs) Q:=fun {ex e2 s2} q1 q2 q3=>by
   obtain⟨vs,q4,q5⟩:=AV q3;cases q5;refine ht g _ htab cap' m' σ _ (by rw[hc.len];exact Nat.le_of_ble_eq_true h1) ?_;refine hi _ _ _ _ _ _ q1 ρ _ σ ((RE.args hc).put hg (some k)) hs _ fun ρ' ex₀ e₁ σ' p1 p2 p3 p4=>?_
   have base:TS σ' env₀ AJ fun vs=>Ap σ' (EY vs) Q:=L6 (he.mono p1) p4 q4 fun vs' hv=>⟨_,σ',Sub.refl _,.refl _,hQ ρ' _ σ' p1 ⟨_,Nf hv,rfl⟩ p4⟩
   rcases q2 with e|e
   ·subst e;cases p2;exact base
   ·subst e;cases p2;exact base
  split at h2
  ·rename_i hr;exact fin hr (.inl rfl) h2
  ·rename_i hr;exact fin hr (.inr rfl) h2
  ·cases h2
 ·rename_i n ac htab
  cases m with
  | some v=>cases h
  | none=>
    cases hm;obtain⟨h1,h2⟩:=AZ h
    have fin: ∀ {ex:Af} {e2:Env} {s2:St},ih ac (BA 0 cap) s=some (ex,e2,s2)→(ex= .normal∨ex= .ret)→(ob (Xa s2 env AJ) fun vs=>some (R.ret (EY vs),s2))=some (r,s')→
     HB P g cap' none σ fun σ'=>TS σ' env₀ AJ fun vs=>Ap σ' (EY vs) Q:=fun {ex e2 s2} q1 q2 q3=>by
     obtain⟨vs,q4,q5⟩:=AV q3;cases q5;refine ht g _ htab cap' σ _ (by rw[hc.len];exact Nat.le_of_ble_eq_true h1) ?_;refine hi _ _ _ _ _ _ q1 ρ _ σ (RE.args hc) hs _ fun ρ' ex₀ e₁ σ' p1 p2 p3 p4=>?_
     have base:TS σ' env₀ AJ fun vs=>Ap σ' (EY vs) Q:=L6 (he.mono p1) p4 q4 fun vs' hv=>⟨_,σ',Sub.refl _,.refl _,hQ ρ' _ σ' p1 ⟨_,Nf hv,rfl⟩ p4⟩
     rcases q2 with e|e
     ·subst e;cases p2;exact base
     ·subst e;cases p2;exact base
    split at h2
    ·rename_i hr;exact fin hr (.inl rfl) h2
    ·rename_i hr;exact fin hr (.inr rfl) h2
    ·cases h2
 ·cases h
def U7 {tab:JX} (ht:Ku P tab) {ih:AY→Env→St→Rs} (hi:QW P ih):KC P (QT tab ih):=by
 intro f vs s r s' h ρ vs' σ hv hs Q hQ;unfold QT at h;split at h
 ·rename_i n ac AJ htab
  obtain⟨h1,h2⟩:=AZ h;cases hr:ih ac (BA 0 vs) s with
  | none=>rw[hr]at h2;cases h2
  | some x=>
    obtain⟨ex,env',s1⟩:=x;rw[hr]at h2;refine ht f _ htab vs' σ Q (by rw[hv.len];exact Nat.le_of_ble_eq_true h1) ?_;exact hi _ _ _ _ _ _ hr ρ _ σ (RE.args hv) hs _ fun ρ' ex₀ e₁ σ' p1 p2 p3 p4=>Yk h2 hQ p1 p2 p3 p4
 ·rename_i n aA ops x aC AJ l1 l2 htab
  obtain⟨h1,h2⟩:=AZ h;split at h2
  ·rename_i env1 s1 hr1
   split at h2
   ·rename_i g cap hx
    refine ht f _ htab vs' σ Q (by rw[hv.len];exact Nat.le_of_ble_eq_true h1) ?_;refine hi _ _ _ _ _ _ hr1 ρ _ σ (RE.args hv) hs _ fun ρ1 ex₀ e₁ σ1 p1 p2 p3 p4=>?_
    cases p2;obtain⟨x',q1,fn',a',b',q2,q3,q4,rfl⟩:=Ax p3 hx;simp only[ZF]at q2;subst q2;have q3:=Bd.1 q3;cases q3;show OA P x l2 aC AJ Q e₁ σ1;simp only[OA,q1,Ei];split at h2
    ·rename_i env2 s2 hr2
     refine hi _ _ _ _ _ _ hr2 ρ1 _ σ1 (p3.prune l2) p4 _ fun ρ2 ex₀ e₂ σ2 u1 u2 u3 u4=>?_
     cases u2;exact S2 ht hi h2 u3 u4 (Kb.mono u1 (Bd.1 q4)) rfl fun ρ3 r' σ3 w1 w2 w3=>hQ ρ3 r' σ3 ((p1.trans u1).trans w1) w2 w3
    ·rename_i env2 s2 hr2
     refine hi _ _ _ _ _ _ hr2 ρ1 _ σ1 (p3.prune l2) p4 _ fun ρ2 ex₀ e₂ σ2 u1 u2 u3 u4=>?_
     cases u2;exact S2 ht hi h2 u3 u4 (Kb.mono u1 (Bd.1 q4)) rfl fun ρ3 r' σ3 w1 w2 w3=>hQ ρ3 r' σ3 ((p1.trans u1).trans w1) w2 w3
    ·rename_i v env2 s2 hr2
     refine hi _ _ _ _ _ _ hr2 ρ1 _ σ1 (p3.prune l2) p4 _ fun ρ2 ex₀ e₂ σ2 u1 u2 u3 u4=>?_
     obtain⟨v',u5,rfl⟩:=u2;exact S2 ht hi h2 u3 u4 (Kb.mono u1 (Bd.1 q4)) ⟨v',u5,rfl⟩ fun ρ3 r' σ3 w1 w2 w3=>hQ ρ3 r' σ3 ((p1.trans u1).trans w1) w2 w3
    ·cases h2
   ·cases h2
  ·cases h2
 ·rename_i n ac AJ htab
  replace h:=AZ h;obtain⟨h1,h2⟩:=h;cases hr:ih ac (BA 0 vs) s with
  | none=>rw[hr]at h2;cases h2
  | some x=>
    obtain⟨ex,env',s1⟩:=x;rw[hr]at h2;cases he:ZQ AJ (some (ex,env',s1))with
    | none=>rw[he]at h2;cases h2
    | some y=>
      obtain⟨r1,s2⟩:=y;rw[he]at h2
      have hc:A8 P f vs' σ fun r' σ'=> ∃ρ',ρ.le ρ'∧ky ρ' r1 r'∧SR P ρ' s2 σ':=by
       refine ht f _ htab vs' σ _ (by rw[hv.len];exact Nat.le_of_ble_eq_true h1) ?_;exact hi _ _ _ _ _ _ hr ρ _ σ (RE.args hv) hs _ fun ρ' ex₀ e₁ σ' p1 p2 p3 p4=>Yk he (fun ρ' r' σ' a b c=>⟨ρ',a,b,c⟩) p1 p2 p3 p4
      refine hc.G7 fun r' σ' ⟨ρ',q1,q2,q3⟩=>?_
      cases r1 with
      | Bf v=>
        cases h2;exact .inr (hQ ρ' _ _ q1 q2 q3)
      | ret v=>
        obtain⟨v',q4,rfl⟩:=q2;obtain⟨u,h3,h4⟩:=AV h2;cases h4;obtain⟨σ'',g1,g2,g3⟩:=Md (l:=N8 s2 Tk v) q3;by_cases hp:BL u=true
        ·exact .inl ⟨v',u,σ'',rfl,g2,Ow q3 Tk v v' u h3 q4 g3,hQ ρ' _ _ q1 ⟨u,RV.pure u hp,rfl⟩ g1⟩
        ·exact absurd (Uw s2 Tk v u h3) hp
 ·rename_i c htab
  exact ht f _ htab vs s r s' h ρ vs' σ hv hs Q hQ
 ·cases h
def Uz {vs:List V}: ∀ {l:List (List V×V)} {v:V},T4 vs l=some v→(vs,v)∈l
 | [],_,h=>by cases h
 | m ::r,v,h=>by
   simp only[T4]at h;cases hb:Lw m.1 vs with
   | true=>
     rw[hb]at h;cases h;have:=Ge _ _ hb;obtain⟨a,b⟩:=m;subst this;exact .head _
   | false=>rw[hb]at h;exact .tail _ (Uz h)
def Mi {tab:JX} (ht:Ku P tab) {memo:Ev} (hm:Gz P memo) {ih:AY→Env→St→Rs} (hi:QW P ih):KC P (Gx tab memo ih):=by
 intro f vs s r s' h ρ vs' σ hv hs Q hQ;unfold Gx at h;split at h
 ·exact U7 ht hi f vs s r s' h ρ vs' σ hv hs Q hQ
 ·rename_i m l hml
  split at h
  ·rename_i v hf
   cases h;have hmem:=Uz hf;rw[←hml]at hmem;obtain⟨h1,h2,h3⟩:=hm f _ hmem;rw[gk hv h1];refine(h3.use (σ:=σ) (k:=fun v σ'=>Q (.ret v) σ') (kp:=fun v σ'=>Q (.Bf v) σ') ?_).mono fun r σ' h=>?_
   ·exact hQ ρ _ σ (.refl _) ⟨v,RV.pure v h2,rfl⟩ hs
   ·cases r<;>exact h
  ·exact U7 ht hi f vs s r s' h ρ vs' σ hv hs Q hQ
def SR.back {s:St} (hs:SR P ρ s σ) {i:Nat} {m:Nat×Nat} (hm:ρ i=some m) (hn:σ m.1=none) {o1:EO} {o1':O} (ho:RO P ρ m.2 o1 o1') :
    SR P ρ ⟨s.nx,Tr.set (some o1) BE s.t i⟩ (Gl.Az σ m.1 o1'):=by
 have hl:=ZL (hs.lt hm)
 have hno:s.t.get i=none:=by
  cases hg:s.t.get i with
  | none=>rfl
  | some o=>
    obtain⟨o',h1,_⟩:=hs.at hg hm;rw[hn]at h1;cases h1
 have nm: ∀ {j q m1},s.t.get j=some q→ρ j=some m1→m1.1≠m.1:=fun {j q m1} h1 h2 e=>by
  obtain⟨o',h3,_⟩:=hs.at h1 h2;rw[e,hn]at h3;cases h3
 refine⟨fun j o2 h1=>?_,fun j j' o2 o3 m1 m2 h1 h2 h3 h4 h5=>?_,hs.mI,hs.lim⟩
 ·rw[Tr.Dv _ _ _ hl]at h1
  by_cases e:j=i
  ·subst e
   rw[if_pos rfl]at h1;cases h1;exact⟨m,hm,o1',C6 _ _ _,ho⟩
  ·rw[if_neg e]at h1
   obtain⟨m1,h2,o3,h3,h4⟩:=hs.get j o2 h1;exact⟨m1,h2,o3,by rw[CZ _ _ (nm h1 h2)];exact h3,h4⟩
 ·rw[Tr.Dv _ _ _ hl]at h1 h2
  by_cases e:j=i<;>by_cases e':j'=i
  ·omega
  ·exfalso
   subst e;rw[if_neg e']at h2;rw[hm]at h3;cases h3;exact nm h2 h4 h5.symm
  ·exfalso
   subst e';rw[if_neg e]at h1;rw[hm]at h4;cases h4;exact nm h1 h3 h5
  ·rw[if_neg e]at h1
   rw[if_neg e']at h2;exact hs.inj j j' o2 o3 m1 m2 h1 h2 h3 h4 h5
def aj {tab:JX} (ht:Ku P tab) {memo:Ev} (hm:Gz P memo) {ih:AY→Env→St→Rs} (hi:QW P ih):JK P (MB tab memo ih):=by
 intro x vs s r s' h ρ x' vs' σ hx hv hs Q hQ;unfold MB at h;split at h
 ·rename_i f first cap
  obtain⟨fn',a',b',h1,h2,h3,rfl⟩:=hx;simp only[ZF]at h1;subst h1;exact Mi ht hm hi f _ s r s' h ρ _ σ (((Bd.1 h2).app hv).app (Bd.1 h3)) hs Q hQ
 ·rename_i L
  obtain⟨fn',a',b',⟨m,h1,rfl⟩,h2,h3,rfl⟩:=hx;have h2:=Bd.1 h2;have h3:=Bd.1 h3;cases h2;cases h3;split at h
  ·rename_i env1 ps a b hg
   obtain⟨o',g1,env1',g2,rfl⟩:=hs.at hg h1;obtain⟨h4,h5⟩:=AZ h;rw[Tr.put_eq]at h5;show Rw P m.1 vs' σ Q;refine Pm g1 (by rw[hv.len];exact Cu h4) ?_;split at h5
   ·rename_i e2 s1 hr1
    refine hi _ _ _ _ _ _ hr1 ρ _ _ (RE.binds hv g2) (hs.del hg h1) _ fun ρ1 ex₀ e₁ σ1 p1 p2 p3 p4=>?_
    cases p2;show T P b _ e₁ σ1;have hm1:=p1 _ _ h1;split at h5
    ·rename_i e3 s2 hr2
     refine hi _ _ _ _ _ _ hr2 ρ1 _ _ p3 p4 _ fun ρ2 ex₀ e₂ σ2 u1 u2 u3 u4 hno=>?_
     cases u2;rw[Tr.put_eq]at h5;cases h5;exact hQ ρ2 _ _ (p1.trans u1) ⟨_,RV.pure _ rfl,rfl⟩ (u4.back (u1 _ _ hm1) hno ⟨_,g2.mono (p1.trans u1),rfl⟩)
    ·rename_i e3 s2 hr2
     refine hi _ _ _ _ _ _ hr2 ρ1 _ _ p3 p4 _ fun ρ2 ex₀ e₂ σ2 u1 u2 u3 u4 hno=>?_
     cases u2;rw[Tr.put_eq]at h5;cases h5;exact hQ ρ2 _ _ (p1.trans u1) ⟨_,RV.pure _ rfl,rfl⟩ (u4.back (u1 _ _ hm1) hno ⟨_,g2.mono (p1.trans u1),rfl⟩)
    ·rename_i id e3 s2 hr2
     refine hi _ _ _ _ _ _ hr2 ρ1 _ _ p3 p4 _ fun ρ2 ex₀ e₂ σ2 u1 u2 u3 u4 hno=>?_
     cases u2;rw[Tr.put_eq]at h5;cases h5;exact hQ ρ2 _ _ (p1.trans u1) ⟨_,RV.pure _ rfl,rfl⟩ (u4.back (u1 _ _ hm1) hno ⟨_,g2.mono (p1.trans u1),rfl⟩)
    ·rename_i v e3 s2 hr2
     refine hi _ _ _ _ _ _ hr2 ρ1 _ _ p3 p4 _ fun ρ2 ex₀ e₂ σ2 u1 u2 u3 u4 hno=>?_
     obtain⟨v',u5,rfl⟩:=u2;cases h5;exact hQ ρ2 _ _ (p1.trans u1) ⟨v',u5,rfl⟩ u4
    ·cases h5
   ·cases h5
  ·cases h
 ·cases h
def SR.emp:SR P (fun _=>none) ⟨0,.leaf⟩ Gl.emp:=⟨fun _ _ h=>(by cases h),fun _ _ _ _ _ _ h=>(by cases h),fun _ _=>rfl,by show 0≤Ls+1;omega⟩
def U8 {tab:JX} (ht:Ku P tab) {memo:Ev} (hm:Gz P memo) {ih:AY→Env→St→Rs} (hi:QW P ih):MF P (OO tab memo ih):=by
 intro f vs v h;unfold OO at h;obtain⟨h1,h2⟩:=AZ h;split at h2
 ·rename_i u s hr
  split at h2
  ·rename_i w hw
   obtain⟨h3,h4⟩:=AZ h2;cases h4;refine⟨h1,h3,?_⟩;refine(Mi ht hm hi f vs _ _ _ hr (fun _=>none) vs Gl.emp (Bd.1 (RL.pure vs h1)) SR.emp (fun r σ'=> ∃ρ' u',RV ρ' u u'∧SR P ρ' s σ'∧r= .ret u') fun ρ' r' σ' _ q2 q3=>?_).G7 fun r σ' ⟨ρ',u',q1,q2,e⟩=>?_
   ·obtain⟨u',q4,rfl⟩:=q2
    exact⟨ρ',u',q4,q3,rfl⟩
   ·subst e
    exact .inl ⟨u',v,Gl.emp,rfl,fun n o ho=>(by cases ho),oY q2 Tk u u' v hw q1,rfl,rfl⟩
  ·cases h2
 ·cases h2
def m9 {tab : JX} (ht:Ku P tab) {memo:Ev} (hm:Gz P memo): ∀n,QW P (run tab memo n):=by
 intro n
 induction n using Nat.strongRecOn with
 | ind n IH=>
   cases n with
   | zero=>intro c env s ex env' s' h;cases h
   | succ n=>
     have hi:=IH n (Nat.lt_succ_self n);have hcf:=Mi ht hm hi;have hcv:=aj ht hm hi;have hcp:=U8 ht hm hi;intro c env s ex env' s' h ρ env₀ σ he hs Q hQ;have h:IK tab memo (run tab memo n) c env s=some (ex,env',s'):=h;cases c with
     | skip=>cases h;exact hQ ρ _ _ _ (.refl _) rfl he hs
     | ret=>cases h;exact hQ ρ _ _ _ (.refl _) rfl he hs
     | exit id=>cases h;exact hQ ρ _ _ _ (.refl _) rfl he hs
     | DB ops=>
       simp only[IK]at h;refine(Yl hcf hcv hcp h he hs (K:=fun env σ=>Q .normal env σ) (kp:=fun env v σ=>Q (.Bf v) env σ) (fun ρ' e₁ σ' q1 q2 q3 q4=>?_) (fun ρ' v v' e₁ σ' q1 q2 q3 q4 q5=>?_)).2.2
       ·subst q2;exact hQ ρ' _ _ _ q1 rfl q3 q4
       ·subst q2;exact hQ ρ' _ _ _ q1 ⟨v',q3,rfl⟩ q4 q5
     | G9 l ops=>
       simp only[IK]at h;show DH P ops (fun env σ=>Q .normal (prune l env) σ) (fun v σ=> ∀σ',Sub σ σ'→Q (.Bf v) [] σ') env₀ σ;split at h
       ·rename_i e1 s1 hr
        cases h;exact Oz hcf hcv hcp hr he hs (fun ρ' e₁ σ' q1 q2 q3 q4=>hQ ρ' _ _ _ q1 rfl (q3.prune l) q4) (fun ρ' v v' σ' q1 q2 q3 q4 q5=>by cases q2)
       ·rename_i hne
        refine Oz hcf hcv hcp h he hs (fun ρ' e₁ σ' q1 q2 q3 q4=>?_) (fun ρ' v v' σ' q1 q2 q3 q4 q5=>?_)
        ·subst q2;exact absurd h (hne _ _)
        ·subst q2;subst q3;exact fun σ2 hs2=>hQ ρ' _ _ _ q1 ⟨v',q4,rfl⟩ F2.nil ⟨fun i o hi=>let⟨m,a1,o',a2,a3⟩:=q5.get i o hi;⟨m,a1,o',hs2 _ _ a2,a3⟩,q5.inj,q5.mI,q5.lim⟩
     | seq l a b=>
       simp only[IK]at h;show T P a (Af.andThen (fun env σ=>Fz (prune l env) σ (T P b Q)) Q) env₀ σ;split at h
       ·rename_i e1 s1 hr
        refine hi _ _ _ _ _ _ hr ρ _ σ he hs _ fun ρ1 ex₀ e₁ σ1 p1 p2 p3 p4=>?_
        cases p2;exact .inl <| hi _ _ _ _ _ _ h ρ1 _ σ1 (p3.prune l) p4 _ fun ρ2 ex₀ e₂ σ2 u1 u2 u3 u4=>hQ ρ2 _ _ _ (p1.trans u1) u2 u3 u4
       ·rename_i hne
        refine hi _ _ _ _ _ _ h ρ _ σ he hs _ fun ρ1 ex₀ e₁ σ1 p1 p2 p3 p4=>?_
        have hf:=hQ ρ1 _ _ _ p1 p2 p3 p4;cases ex with
        | normal=>exact absurd h (hne _ _)
        | ret=>cases p2;exact hf
        | exit id=>cases p2;exact hf
        | Bf v=>obtain⟨v',u1,rfl⟩:=p2;exact hf
     | cond c a b=>
       simp only[IK]at h;simp only[T];split at h
       ·rename_i hc
        obtain⟨v',q1,q2⟩:=Ax he hc;simp only[RV]at q2;subst q2;rw[q1];exact⟨fun _=>hi _ _ _ _ _ _ h ρ _ σ he hs _ hQ,fun e=>by cases e⟩
       ·rename_i hc
        obtain⟨v',q1,q2⟩:=Ax he hc;simp only[RV]at q2;subst q2;rw[q1];exact⟨fun e=>(by cases e),fun _=>hi _ _ _ _ _ _ h ρ _ σ he hs _ hQ⟩
       ·cases h
     | block id a=>
       simp only[IK]at h;show T P a (Af.inBlock id Q) env₀ σ;split at h
       ·rename_i id' e1 s1 hr
        refine hi _ _ _ _ _ _ hr ρ _ σ he hs _ fun ρ1 ex₀ e₁ σ1 p1 p2 p3 p4=>?_
        cases p2;simp only[Af.inBlock];cases hb:Nat.beq id' id with
        | true=>rw[hb]at h;cases h;exact hQ ρ1 _ _ _ p1 rfl p3 p4
        | false=>rw[hb]at h;cases h;exact hQ ρ1 _ _ _ p1 rfl p3 p4
       ·rename_i hne
        refine hi _ _ _ _ _ _ h ρ _ σ he hs _ fun ρ1 ex₀ e₁ σ1 p1 p2 p3 p4=>?_
        have hf:=hQ ρ1 _ _ _ p1 p2 p3 p4;cases ex with
        | normal=>cases p2;exact hf
        | ret=>cases p2;exact hf
        | exit id=>exact absurd h (hne _ _ _)
        | Bf v=>obtain⟨v',u1,rfl⟩:=p2;exact hf
     | scope a=>
       simp only[IK]at h;exact hi _ _ _ _ _ _ h ρ _ σ he hs _ hQ
     | loop l a=>
       refine⟨fun m E τ=>m≤n+1∧ ∃e s1 ρ1,ρ.le ρ1∧RE ρ1 (prune l e) E∧SR P ρ1 s1 τ∧run tab memo m (.loop l a) e s1=some (ex,env',s'),⟨n+1,He _,env,s,ρ,.refl _,he.prune l,hs,h⟩,?_⟩;rintro m E τ ⟨hm1,e,s1,ρ1,q1,q2,q3,q4⟩;cases m with
       | zero=>cases q4
       | succ m=>
         have hi1:=IH m (by omega)
         have q4:(match run tab memo m a (prune l e) s1 with
          | some (.normal,env',s')=>run tab memo m (.loop l a) env' s'
          | r=>r)=some (ex,env',s'):=q4
         split at q4
         ·rename_i e2 s2 hr
          refine hi1 _ _ _ _ _ _ hr ρ1 _ τ q2 q3 _ fun ρ2 ex₀ e₁ σ1 p1 p2 p3 p4=>?_
          cases p2;exact⟨m,Nat.lt_succ_self m,by omega,e2,s2,ρ2,q1.trans p1,p3.prune l,p4,q4⟩
         ·rename_i hne
          refine hi1 _ _ _ _ _ _ q4 ρ1 _ τ q2 q3 _ fun ρ2 ex₀ e₁ σ1 p1 p2 p3 p4=>?_
          have hf:=hQ ρ2 _ _ _ (q1.trans p1) p2 p3 p4;cases ex with
          | normal=>exact absurd q4 (hne _ _)
          | ret=>cases p2;exact hf
          | exit id=>cases p2;exact hf
          | Bf v=>obtain⟨v',u1,rfl⟩:=p2;exact hf
     | Dh l g ps a b=>
       simp only[IK]at h;simp only[T];split at h
       ·rename_i gf cap hg
        obtain⟨x',q1,fn',a',b',q2,q3,q4,rfl⟩:=Ax he hg;simp only[ZF]at q2;subst q2;have q3:=Bd.1 q3;have q4:=Bd.1 q4;cases q3;rw[q1];intro L hL;obtain⟨h1,h2⟩:=St.Hm h;obtain⟨ρ1,p1,p2,p3⟩:=hs.new h1 hL 0 (o:= .loop .ready (prune l env) ps a b) (o':= .loop .ready (prune l env₀) (B4 P ps a b)) ⟨_,he.prune l,rfl⟩
        have hfy:RV ρ1 (.f (.yield s.nx) [] []) (.f (.yield L) [] []):=by
         simp only[RV];exact⟨.yield L,[],[],⟨_,p2,rfl⟩,Bd.2 F2.nil,Bd.2 F2.nil,rfl⟩
        split at h2
        ·rename_i v s2 hr
         refine hcf gf _ _ _ _ hr ρ1 _ _ (F2.cons hfy (Kb.mono p1 q4)) p3 _ fun ρ2 r' σ2 u1 u2 u3=>?_
         obtain⟨v',_,rfl⟩:=u2;split at h2
         ·rename_i st e9 ps9 a9 b9 hg2
          rw[Tr.put_eq]at h2;have hm2:=u1 _ _ p2;obtain⟨o',w1,e8,w2,rfl⟩:=u3.at hg2 hm2;refine⟨st,e8,_,w1,?_⟩;have hd:=u3.del hg2 hm2;cases st<;>(simp only[id]at h2;cases h2;exact hQ ρ2 _ _ _ (p1.trans u1) rfl (he.mono (p1.trans u1)) hd)
         ·cases h2
        ·rename_i v s2 hr
         refine hcf gf _ _ _ _ hr ρ1 _ _ (F2.cons hfy (Kb.mono p1 q4)) p3 _ fun ρ2 r' σ2 u1 u2 u3=>?_
         obtain⟨v',u4,rfl⟩:=u2;split at h2
         ·rename_i o9 hg2
          rw[Tr.put_eq]at h2;have hm2:=u1 _ _ p2;have hd:=u3.del hg2 hm2;cases h2;exact hQ ρ2 _ _ _ (p1.trans u1) ⟨v',u4,rfl⟩ (he.mono (p1.trans u1)) hd
         ·cases h2
        ·cases h2
       ·cases h
def cL (tab:JX) (memo:Ev) (n:Nat) (f:FuncId) (vs:List V) (v:V):Bool:=
 match OO tab memo (run tab memo n) f vs with
 | some u=>EZ u v
 | none=>false
def VR {tab:JX} (ht:Ku P tab) {memo:Ev} (hm:Gz P memo) {n:Nat} {f:FuncId} {vs:List V} {v:V} (h:cL tab memo n f vs v=true):B6 vs=true∧BL v=true∧Pure P f vs v:=by
 unfold cL at h;split at h
 ·rename_i u hu
  have:=Nx _ _ h;subst this;exact U8 ht hm (m9 ht hm n) f vs u hu
 ·cases h
end Go.Gl
namespace Go.Gl
variable {P:Program} {ρ ρ':Ren} {σ:AH}
def WZ (sz:Nat) (vs:List V) (s:St):Option (R×St):=
 match vs with
 | [.l es f]=>match IL s sz (.l es f)with
   | some []=>some (.ret (.l [] true),s)
   | some (y::ys)=>bif (y::ys).all (fun e=>e.all CE)&&Nat.ble (y::ys).length 1073741824 then s.new (.arr sz (y::ys)) fun i s'=>some (.ret (.sl i (y::ys).length 0),s')else none
   | none=>none
 | [.sl n len c]=>match IL s sz (.sl n len c)with
   | some []=>some (.ret (.l [] true),s)
   | some (y::ys)=>bif (y::ys).all (fun e=>e.all CE)&&Nat.ble (y::ys).length 1073741824 then s.new (.arr sz (y::ys)) fun i s'=>some (.ret (.sl i (y::ys).length 0),s')else none
   | none=>none
 | _=>none
def Xr {α:Type} (p:Nat→α→Prop) (f:Nat→Nat) (t:Tr α):Prop:= ∀j a,t.get j=some a→p (f j) a
def kO {α:Type} {p:Nat→α→Prop} {f:Nat→Nat}:Xr p f .leaf:=fun _ _ h=>by cases h
def ew:Gz P (fun _=>[]):=fun _ _ h=>by cases h
end Go.Gl
