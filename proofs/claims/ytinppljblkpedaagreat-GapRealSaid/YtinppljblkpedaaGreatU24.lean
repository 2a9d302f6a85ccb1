import Derived.Test.YtinppljblkpedaaGreatU14
import Derived.Test.YtinppljblkpedaaGreatU15
import Derived.Test.YtinppljblkpedaaGreatU18
import Derived.Test.YtinppljblkpedaaGreatU20
import Derived.Test.YtinppljblkpedaaGreatU22
import Derived.Test.YtinppljblkpedaaGreatU23
set_option linter.all false
set_option linter.defProp false
set_option maxHeartbeats 8000000
noncomputable section
namespace Go.Gl
open Go.Proofs
def rJ {w:AF} {ls:List Fact} (hl: ∀l∈ls,CQ w l):Gm (3+w.parents.length) ls:=fun l h ho=>by
 have:=(hl l h).cls ho;omega
def Nc {w:AF} {ls:List Fact} (hl: ∀l∈ls,CQ w l):Gs w.owner.length ls:=fun l h=>(hl l h).path
def gK {w:AF} {ls:List Fact} (hl: ∀l∈ls,CQ w l) {a:Int} {p:List Int} {s:Int}:s∈(kn ls a p).AI↔ ∃l∈ls,(Ad l).1.arg=a/\ ∃q,(Ad l).1.path=p++s::q:=by
 rw[FJ (Nc hl),IX hl]
def PK {w:AF} (hw:Fu w) {ls:List Fact} (hl: ∀l∈ls,CQ w l) {a:Int} {p:List Int} (h:Dq (kn ls) a p=true):E0 w (.int (Cy (kn ls a p)))/\TT w ls a p (.int (Cy (kn ls a p))):=by
 have hn:3+w.parents.length<=64:=by have:=hw.len;omega
 have h2:=h;rw[UA hn (rJ hl) (Nc hl),A4,Qk hl]at h2;obtain⟨h3,h4⟩:=h2;rw[Dq,A4,B7]at h;have hcore:=Iy ls a p;simp only[DJ,Prod.mk.injEq]at hcore;obtain⟨c1,c2,c3,-⟩:=hcore;have hf:=N6 (ls.filter (Iq a p)) k0;rw[NY,show t0=(k0.low,k0.high,k0.no) from rfl,hf]at h3;obtain⟨g1,g2,-⟩:=KD (no:=(kn ls a p).no) _ (kn ls a p).low (PQ _ _);cases ho:(ls.filter (Iq a p)).all fun l=>qZ (Ad l)with
 | false=>rw[ho,if_neg (by decide)]at h3;cases h3
 | true=>
   rw[ho,if_pos rfl]at hf
   have hI:qe ((Dr (ls.filter (Iq a p)) k0).low,(Dr (ls.filter (Iq a p)) k0).high,(Dr (ls.filter (Iq a p)) k0).no) (Cy (kn ls a p)):=by
    rw[<-c1,<-c2,<-c3];exact⟨g1,h.1,g2⟩
   obtain⟨k1,k2⟩:=(Ik (Cy (kn ls a p)) (ls.filter (Iq a p)) (k0.low,k0.high,k0.no) fun l hm=>hl l (HD.1 hm).1).1 ⟨_,hf,hI⟩;refine⟨⟨k1.1,k1.2.1⟩,fun l m1 m2 q hq=>?_⟩;cases q with
   | nil=>exact k2 l (HD.2 ⟨m1,Dl.2 ⟨m2,by simpa using hq⟩⟩)
   | cons s q=>simp[Ir,h4 l m1 m2 s q hq]
def WW {w:AF} (hw:Fu w) {ls:List Fact} (hl: ∀l∈ls,CQ w l) {a:Int} {p:List Int} (h:CR (kn ls) a p=true):TT w ls a p .Gi:=by
 have hn:3+w.parents.length<=64:=by have:=hw.len;omega
 rw[PG hn (rJ hl) (Nc hl)]at h;exact(Ie hl).1 h
def Lz {w : AF} {AV can:Int->Bool}: ∀(sl:List Int) {u u':Nat×Nat},GP w AV can sl u=some u'->(∀b,u.1.testBit b=true->u'.1.testBit b=true)/\(∀b,u.2.testBit b=true->u'.2.testBit b=true)/\
    ∀s∈sl,(AV s=true->can s=true/\u'.1.testBit (BG w s).toNat=true)/\(can s=false->u'.2.testBit (BG w s).toNat=true)
 | [],u,u',h=>by cases h;exact⟨fun _ h=>h,fun _ h=>h,fun s hs=>by cases hs⟩
 | s :: r, u,u',h=>by
   rw[GP,SJ]at h;split at h
   .cases h
   .rename_i hc
    rw[Option.bind_some]at h;obtain⟨g1,g2,g3⟩:=Lz r h;refine⟨fun b hb=>g1 b ?_,fun b hb=>g2 b ?_,fun x hx=>?_⟩
    .dsimp only
     split
     .rw[Cn,hb];rfl
     .exact hb
    .dsimp only
     split
     .exact hb
     .rw[Cn,hb];rfl
    .rcases Ep.1 hx with rfl|hx
     .refine⟨fun hn=>?_,fun hn=>?_⟩
      .have hcx:can x=true:=by
        cases e:can x
        .rw[hn,e]at hc;exact absurd rfl hc
        .rfl
       refine⟨hcx,g1 _ ?_⟩;dsimp only;rw[if_pos hn,Cn];simp
      .refine g2 _ ?_
       dsimp only;rw[if_neg (by rw[hn];decide),Cn];simp
     .exact g3 x hx
def PE {w : AF} (hw:Fu w) {ls:List Fact} (hl: ∀l∈ls,CQ w l) {a:Int} {p:List Int} {can:Int->Bool} {kid:Int->Er} {m:Nat} (h:Ef w (kn ls a p) (fun s=>(kn ls a (p++[s])).AV) can=(m,true)) (hko: ∀s,E0 w (kid s))
    (hk: ∀s∈(kn ls a p).AI,can s=true->TT w ls a (p++[s]) (kid s)):E0 w (.obj (fun b=>m.testBit b) kid)/\TT w ls a p (.obj (fun b=>m.testBit b) kid):=by
 have hcore:=Iy ls a p;simp only[DJ,Prod.mk.injEq]at hcore;obtain⟨-,-,-,c4,c5,c6⟩:=hcore;have hsl: ∀s,s∈(kn ls a p).AI↔ ∃l∈ls,(Ad l).1.arg=a/\ ∃q,(Ad l).1.path=p++s::q:=fun s=>gK hl
 rw[Ef]at h;split at h
 .simp at h
 .rename_i hbad
  simp only[EW,not_or,Bool.not_eq_true]at hbad;obtain⟨⟨⟨b1,b2⟩,b3⟩,b4⟩:=hbad;split at h
  .simp at h
  .rename_i u hu
   simp only[Prod.mk.injEq]at h;obtain⟨h1,h2⟩:=h;obtain⟨f1,f2,f3⟩:=Lz _ hu;dsimp only at f1 f2
   have hm: ∀b,m.testBit b=true↔b≠0/\(u.1.testBit b=true\/ ∃d,3<=d/\d<3+w.parents.length/\u.1.testBit d=true/\(b=0\/FQ w.parents d b=true)):=fun b=>by
    rw[<-h1,M6,A4,JA hw.ord _ _ _ (Ft _),and_comm];simp
   have hdis: ∀b,m.testBit b=true->u.2.testBit b=true->False:=by
    rw[h1]at h2;exact IS.1 h2
   refine⟨⟨fun c hc h q hq=>?_,hko⟩,fun l k1 k2 q hq=>?_⟩
   .have hq3:=hw.ord c q hq
    change m.testBit c=true at h;change m.testBit q.toNat=true;rw[hm]at h ⊢;refine⟨by omega,.inr ?_⟩
    have hup:FQ w.parents c q.toNat=true:=by
     rw[DM hw.ord];simp only[EW,GY];refine .inr ⟨q,hq,?_⟩;rw[DM hw.ord];simp
    rcases h.2 with h|⟨d,d1,d2,d3,d4⟩
    .have hcl:c<3+w.parents.length:=by
      rcases Nat.lt_or_ge c (3+w.parents.length)with e|e
      .exact e
      .rw[par,if_neg (by omega),Cq,List.getElem?_eq_none (by omega)]at hq
       cases hq
     exact⟨c,hc,hcl,h,.inr hup⟩
    .refine⟨d,d1,d2,d3,.inr ?_⟩
     rcases d4 with d4|d4
     .omega
     .exact IV hw.ord _ _ _ d4 hup
   .cases q with
    | nil =>
      have hmem:l∈ls.filter (Iq a p):=HD.2 ⟨k1,Dl.2 ⟨k2,by simpa using hq⟩⟩;have hop:=(hl l k1).op;have hcl:=(hl l k1).cls;simp only[Ir,Cg];cases hneg:(Ad l).2
      ·
       have hop2:(Ad l).1.op=2:=by
        rw[c6]at b1;exact Nq.1 (by rw[b1];rfl) l hmem hneg
       have hcr:=hcl hop2;have hmu:(kn ls a p).BO.testBit (Ad l).1.cls.toNat=true:=by rw[c4];exact Gz.2 ⟨l,hmem,hop2,hneg,rfl⟩
       have e1:(Ad l).1.cls≠1:=fun e=>by rw[e]at hmu;exact absurd (hmu.symm.trans b2) (by decide)
       have e2:(Ad l).1.cls≠2:=fun e=>by rw[e]at hmu;exact absurd (hmu.symm.trans b3) (by decide)
       rw[hop2];rcases Classical.em ((Ad l).1.cls=0)with e|e
       .rw[e];rfl
       .have e3:decide (3<=(Ad l).1.cls)=true:=decide_eq_true (by omega)
        have e4:m.testBit (Ad l).1.cls.toNat=true:=(hm _).2 ⟨by omega,.inl (f1 _ hmu)⟩;rw[e3,e4];simp
      .by_cases hop2:(Ad l).1.op=2
       .have hcr:=hcl hop2
        have hno:(kn ls a p).Dm.testBit (Ad l).1.cls.toNat=true:=by rw[c5];exact PF.2 ⟨l,hmem,hop2,hneg,rfl⟩
        have e0:(Ad l).1.cls≠0:=fun e=>by rw[e]at hno;exact absurd (hno.symm.trans b4) (by decide)
        have e4:m.testBit (Ad l).1.cls.toNat=false:=by
         rw[<-Bool.not_eq_true];exact fun e=>hdis _ e (f2 _ hno)
        rw[e4,Bool.and_false,Bool.or_false,beq_eq_false_iff_ne.2 e0,Bool.and_false];rfl
       .rw[beq_eq_false_iff_ne.2 hop2];rfl
    | cons s q=>
      have hs:s∈(kn ls a p).AI:=(hsl s).2 ⟨l,k1,k2,q,hq⟩;have hsr:0<=s/\s<(w.owner.length:Int):=(hl l k1).path s (by rw[hq];simp);have hso:=Fh hw hsr;obtain⟨g1,g2⟩:=f3 s hs;simp only[Ir];cases hmo:m.testBit (BG w s).toNat
      .rw [Bool.false_and]
       cases hneg:(Ad l).2
       .exfalso
        have hnd:(kn ls a (p++[s])).AV=true:=by
         rw[Ih];cases hb:Eu ls a (p++[s])
         .rfl
         .have:=D5.1 hb l k1 k2 q (by rw[hq];simp)
          rw[hneg]at this;cases this
        have:=(hm _).2 ⟨by omega,.inl (g1 hnd).2⟩;rw[hmo]at this;cases this
       .rfl
      .rw[Cc]
       cases hc:can s
       .exact absurd (g2 hc) fun e=>hdis _ hmo e
       .exact hk s hs hc l k1 k2 q (by rw[hq];simp)
def yS (w:AF) (kf:Int->List Int->Kn) (a:Int) (p:List Int) (can:Int->Bool) (kid:Int->Er):Er:=
 if Dq kf a p then .int (Cy (kf a p))else if CR kf a p then .Gi else .obj (fun b=>(Ef w (kf a p) (fun s=>(kf a (p++[s])).AV) can).1.testBit b) kid
def cD (w:AF) (kf:Int->List Int->Kn) (a:Int):Nat->List Int->Er
 | 0,p=>yS w kf a p (fun _=>false) fun _=> .Gi
 | d+1,p=>yS w kf a p (fun s=>EZ w kf a d (p++[s])) fun s=>if(kf a p).AI.contains s&&EZ w kf a d (p++[s])then cD w kf a d (p++[s])else .Gi
def YQ {w : AF} (hw:Fu w) {ls:List Fact} (hl: ∀l∈ls,CQ w l) (a:Int): ∀(d:Nat) (p:List Int),p.length+d=2->EZ w (kn ls) a d p=true->E0 w (cD w (kn ls) a d p)/\TT w ls a p (cD w (kn ls) a d p)
 | 0,p,hp,h=>by
   rw[cD,yS];rw[EZ]at h;cases h1:Dq (kn ls) a p
   .rw[h1,Bool.false_or]at h
    rw[if_neg (by decide)];cases h2:CR (kn ls) a p
    .rw[h2,Bool.false_or]at h
     rw[if_neg (by decide)];exact PE hw hl (Prod.ext rfl h) (fun _=>trivial) fun s hs hc=>by cases hc
    .rw[if_pos rfl]
     exact⟨trivial,WW hw hl h2⟩
   .rw[if_pos rfl]
    exact PK hw hl h1
 | d + 1,p,hp,h=>by
   have ih:=fun s=>YQ hw hl a d (p++[s]) (by simp;omega)
   rw[cD,yS];rw[EZ]at h;cases h1:Dq (kn ls) a p
   .rw [h1,Bool.false_or]at h
    rw[if_neg (by decide)];cases h2:CR (kn ls) a p
    .rw [h2,Bool.false_or]at h
     rw[if_neg (by decide)];refine PE hw hl (Prod.ext rfl h) (fun s=>?_) fun s hs hc=>?_
     .split
      .rename_i hc
       rw[A4]at hc;exact(ih s hc.2).1
      .trivial
     .rw[if_pos (by rw[A4];exact⟨List.contains_iff_mem.2 hs,hc⟩)]
      exact(ih s hc).2
    .rw[if_pos rfl]
     exact⟨trivial,WW hw hl h2⟩
   .rw[if_pos rfl]
    exact PK hw hl h1
end Go.Gl
namespace Go.Gl
variable {P:Program} {Z:AE}
def yL {L:Nat} {args:List V} {Q:R->AE->Prop} (h:LB P L args Z Q):Ai P (.f (.yield L) [] []) args Z Q:=h
def KF {L:Nat} {E:Env} {ps:List Nat} {a b:Aq} {args:List V} {l:List At} (hl:args.length=ps.length) (hs:Sat Z (.obj L (.loop .ready E (Bo P ps a b))::l)) {Q:R->AE->Prop}
    (h: ∀Z,Sat Z l->W P a (CZ (W P b fun ex env' Z'=>Z' L=none->QB L E (Bo P ps a b) Q ex env' Z')) (J2 ps args E) Z):LB P L args Z Q:=
 L3 (hs.get (i:=0) rfl) hl (h _ hs.del)
end Go.Gl
namespace Go.Gl
variable {P:Program} {Z:AE}
def As.SO {f:FuncId} {args args':List V} {Z Z2:AE} {Q:R->AE->Prop} (h:As P f args' Z2 Q) (hsub:Sub Z2 Z) (hf:Ct Z Z2 args args'):As P f args Z Q:=by
 refine⟨h.1,fun F w cs hR hv=>?_⟩;exact Calls.mono (h.2 F w cs (hR.drop hsub) ⟨by rw[hf.length];exact hv.1,hf.rel hR hsub (fun _ _ e=>e) hv.2⟩) fun e w' ⟨r,Z',hr,h1,h2,h3⟩=>⟨r,Z',hr,h1,h2,(B8.drop w hsub).trans h3⟩
def Pure.arg {f:FuncId} {args args':List V} {v:V} (h:Pure P f args' v) (hf:Ct emp emp args args'):Pure P f args v:=As.SO h (Sub.refl _) hf
def Own.nJ {v:V} {sz:Nat} {es es':List (List V)} (h:Own Z v sz es) (hR:Eg Z emp es es'):FY Z emp v (.l es' false):=by
 rcases h with⟨rfl,_⟩|⟨n,cap,rfl,hn⟩
 .exact .l (fun h=>(by cases h)) hR
 .exact .arr hn rfl rfl hR
def Qg {α:Type} {e e':α->List V} (h: ∀x,Ct Z emp (e x) (e' x)): ∀xs:List α,Eg Z emp (xs.map e) (xs.map e')
 | []=> .nil
 | x::r=> .cons (h x) (Qg h r)
inductive YG (Z Z':AE):Env->Env->Prop
 | nil:YG Z Z' [] []
 | cons {k:Nat} {v v':V} {e e':Env}:FY Z Z' v v'->YG Z Z' e e'->YG Z Z' ((k,v)::e) ((k,v')::e')
def YG.efz {Z Z':AE} {e e':Env} (h:YG Z Z' e e'):EFz Z Z' e e':=by
 induction h with
 | nil=>intro j v2 hv;cases hv
 | cons h1 h2 ih=>
   rename_i k v v' e e';intro j v2 hv;simp only[get]at hv ⊢;cases hb:Nat.beq k j with
   | true=>
     rw[hb]at hv;simp only[cond_true,Gh]at hv ⊢;subst hv;exact⟨v,rfl,h1⟩
   | false=>
     rw[hb]at hv;simp only[cond_false]at hv ⊢;exact ih j v2 hv
def cE {env:Env} {K:Env->AE->Prop} (h:K env Z):Fz env Z K:= .inl h
def Vm {env env2:Env} {K:Env->AE->Prop} {l:List At} (hs:Sat Z l) (i:Nat) {v:V} {sz:Nat} {es:List (List V)} (hi:l[i]? =some (.own v sz es))
    (he: ∀Z2,FY Z Z2 v (.l es false)->YG Z Z2 env env2) (hk: ∀Z2,Sat Z2 (l.eraseIdx i)->K env2 Z2):Fz env Z K:=by
 obtain⟨Z2,h1,h2,h3⟩:=HT hs i hi;exact .inr ⟨env2,Z2,⟨fun n o2 ho=> .inl (h1 n o2 ho)⟩,(he Z2 h2).efz,hk Z2 h3⟩
def rA {env env2:Env} {K:Env->AE->Prop} {l:List At} (hs:Sat Z l) (i j:Nat) {v:V} {sz n:Nat} {es:List (List V)} {vs vs2:List V} (hi:l[i]? =some (.own v sz es)) (hj:l[j]? =some (.box n vs))
    (hv: ∀Z2,FY Z Z2 v (.l es false)->Ct Z Z2 vs vs2) (he: ∀Z2,FY Z Z2 v (.l es false)->YG Z Z2 env env2) (hk: ∀Z2,Sat Z2 ((l.set j (.box n vs2)).eraseIdx i)->K env2 Z2):Fz env Z K:=by
 have hn:Z n=some (.cs vs):=hs.get hj;have hij:j≠i:=fun e=>by subst e;rw[hj]at hi;cases hi
 have hi2:(l.set j (.box n vs2))[i]? =some (.own v sz es):=by rw[List.getElem?_set_ne hij];exact hi
 obtain⟨Z2,h1,h2,h3⟩:=HT (nI hs hj (.cs vs2)) i hi2
 have hf:FY Z Z2 v (.l es false):=by
  rcases hs.get hi with⟨rfl,_⟩|⟨m,cap,rfl,hm⟩
  .exact .l (fun h=>(by cases h)) (.refl _ _ _)
  .have hmn:m≠n:=fun e=>by
    subst e;rw[hm]at hn;cases hn
   refine .arr hm ?_ rfl (.refl _ _ _);cases h2 with
   | arr _ q _ _=>exact q
 refine .inr ⟨env2,Z2,⟨fun m o2 ho=>?_⟩,(he Z2 hf).efz,hk Z2 h3⟩;have:=h1 m o2 ho;by_cases hmn:m=n
 .subst hmn
  rw[D1]at this;cases this;exact .inr ⟨vs,vs2,hn,rfl,hv Z2 hf⟩
 .rw[Ci _ _ hmn]at this
  exact .inl this
def Ta {l:List Nat} {a b:Aq} {Q:Ak->Env->AE->Prop} {env:Env} (h: ∀K:Env->AE->Prop,(∀env Z,(pk l env fun E=>Fz E Z (W P b Q))->K env Z)->W P a (Ak.andThen K Q) env Z):W P (.seq l a b) Q env Z:=yH h
end Go.Gl
namespace Go.Gl
open Go.Proofs
attribute [local irreducible] As Ag AY AQ AL AX AP AR AK AW AM AN Ai Ap Sat AT An AZ W
def P1 (g:FuncId) (fi ca:List V) (q:Int×Int->Bool):Prop:= ∀v,Pure zP g (fi++[.a (pI v)]++ca) (.b (q v))
def P1.use {g:FuncId} {fi ca:List V} {q:Int×Int->Bool} (h:P1 g fi ca q) {v:Int×Int} {Z:AE} {k kp:V->AE->Prop} (hk:k (.b (q v)) Z):Ai zP (.f (.func g) fi ca) [.a (pI v)] Z (qk k kp):=A0 ((h v).use hk)
def ZT {g:FuncId} {fi ca:List V} {q:Int×Int->Bool} (hpf:P1 g fi ca q) (v:Int×Int):Pure zP 221 [.a (pI v),.rp [.f (.func g) fi ca]] (.b (!q v)):=by
 refine wQ kZ ?_;have hs:=Sn
 conv=>whnf
 repeat'((first|clear U K|apply st|(apply zk;intro K U)|refine zY ?_|refine P1.use hpf ?_|fail)<;>conv=>whnf)
 all_goals exact AG rfl
def Pq {α:Type} (q:α->Bool):List α->Nat->Int
 | [],_=> -1
 | v::r,k=>if q v then Pq q r (k+1)else k
def Qn {α:Type} (q:α->Bool): ∀(l:List α) (k:Nat),decide (Pq q l k≥0)= !l.all q
 | [],_=>rfl
 | v ::r,k=>by
   rw[Pq,Ri];cases q v
   .rw[if_neg (by decide),Bool.false_and]
    exact decide_eq_true (Int.natCast_nonneg k)
   .rw[if_pos rfl,Cc]
    exact Qn q r (k+1)
def lS {g:FuncId} {fi ca:List V} {q:Int×Int->Bool} (hpf:P1 g fi ca q) (l:List (Int×Int)) (b:Bool):Pure zP 283 [.l (pP l) b,.f (.func 221) [] [.rp [.f (.func g) fi ca]]] (eI (Pq q l 0)):=by
 refine Pure.fit (by kernel_rfl) fun hf=>?_
 have hl:l.length<=Ab:=by
  have:=hf.1;simp only[Gw,Bc]at this;exact this.1
 have hM:=Mx;refine vQ kZ ?_;have hs:=Sn;refine zz ?_;(repeat clear U K);repeat intro K U
 refine B4 l.length (fun k (_:Unit)=>[(8,eI (A7 k))]) (fun _ _=>[]) (fun k _=>Pq q l 0=Pq q (l.drop k) k) () rfl rfl hs ?_;clear hs;rintro k - Z hk hn hs;have hck:A7 k=k:=AS (by omega);rcases A9 l hk with⟨x,hx,hlt⟩|hke
 .have c1:=ZT hpf x
  rw[drop_cons hx,Pq]at hn;cases hv:q x<;>rw[hv]at c1 hn
  .conv=>whnf
   repeat'((first|clear U K|apply st|(apply zk;intro K U)|refine zY ?_|refine A0 (c1.use ?_)|fail)<;>conv=>whnf)
   exact AG (by rw[hn,if_neg (by decide),hck])
  .conv=>whnf
   repeat'((first|clear U K|apply st|(apply zk;intro K U)|refine zY ?_|refine A0 (c1.use ?_)|fail)<;>conv=>whnf)
   exact⟨hlt,(),rfl,by rw[hn,if_pos rfl],hs⟩
 .refine zz ?_;(repeat clear U K);repeat intro K U
  exact AG (by rw[hn,Aj hke];rfl)
def Xq {g:FuncId} {fi ca:List V} {q:Int×Int->Bool} (hpf:P1 g fi ca q) (l:List (Int×Int)) (b:Bool):Pure zP 220 [.l (pP l) b,.f (.func 221) [] [.rp [.f (.func g) fi ca]]] (.b (!l.all q)):=by
 have c1:=lS hpf l b;refine wR kZ ?_;have hs:=Sn
 conv=>whnf
 repeat'((first|clear U K|apply st|(apply zk;intro K U)|refine zY ?_|refine zC ?_|fail)<;>conv=>whnf)
 all_goals exact AG (by rw[<-Qn q l 0])
def jX {g:FuncId} {fi ca:List V} {q:Int×Int->Bool} (hpf:P1 g fi ca q) (l:List (Int×Int)) (b:Bool):Pure zP 140 [.l (pP l) b,.f (.func g) fi ca] (.b (l.all q)):=by
 have c1:=Xq hpf l b;refine xT kZ ?_;have hs:=Sn
 conv=>whnf
 repeat'((first|clear U K|apply st|(apply zk;intro K U)|refine zC ?_|fail)<;>conv=>whnf)
 all_goals exact AG (by rw[Bool.not_not])
abbrev atE (o:Option (Int×Int)):V:= .t [.a (pI (o.getD (0,0))),.b o.isSome]
def yp {α:Type} {l:List α} (h:l.length=2): ∃a b,l= [a,b]:=by
 match l,h with
 | [a,b],_=>exact⟨a,b,rfl⟩
def Lu {w:AF} {f:Fact} (h:Ae w f=true) :
    f.op=1\/(f.op=5/\ ∃a,f.kids= [a]/\Ae w a=true)\/(f.op=6/\ ∃a b,f.kids= [a,b]/\Ae w a=true/\Ae w b=true)\/(f.op=7/\ ∃a b,f.kids= [a,b]/\Ae w a=true/\Ae w b=true)\/
     ((f.op=2\/f.op=3\/f.op=4)/\Be f=true/\(∀s∈f.path,0<=s/\s<(w.owner.length:Int))/\(f.op=2->0<=f.cls/\f.cls<3+(w.parents.length:Int))/\0<=f.arg):=by
 rw[BS]at h;simp only[CE,A4,Cu,CF,B7]at h;obtain⟨⟨ho,hk,ha0,ha3,hp,-⟩,hks⟩:=h;simp only[EH,A4,Cu,IA,B7]at hp;by_cases h2:f.op=2
 .rw[PY,if_pos h2]at ho
  simp only[O1,A4,B7]at ho;exact .inr (.inr (.inr (.inr ⟨.inl h2,by simp[Be,h2],hp.1,fun _=>ho.2,ha0⟩)))
 by_cases h34:f.op=3\/f.op=4
 .exact .inr (.inr (.inr (.inr ⟨.inr h34,by rcases h34 with h|h<;>simp[Be,h],hp.1,fun h=>absurd h h2,ha0⟩)))
 rw[PY,if_neg h2,if_neg h34]at ho;simp only[EW,CF]at ho;rcases ho with((h1|h5)|h6)|h7
 .exact .inl h1
 .rw[Bp,if_pos h5]at hk
  obtain⟨a,ha⟩:=List.length_eq_one_iff.1 hk;exact .inr (.inl ⟨h5,a,ha,hks a (by rw[ha];exact .head _)⟩)
 .rw[Bp,if_neg (by omega),if_pos (.inl h6)]at hk
  obtain⟨a,b,ha⟩:=yp hk;exact .inr (.inr (.inl ⟨h6,a,b,ha,hks a (by rw[ha];exact .head _),hks b (by rw[ha];exact .tail _ (.head _))⟩))
 .rw[Bp,if_neg (by omega),if_pos (.inr h7)]at hk
  obtain⟨a,b,ha⟩:=yp hk;exact .inr (.inr (.inr (.inl ⟨h7,a,b,ha,hks a (by rw[ha];exact .head _),hks b (by rw[ha];exact .tail _ (.head _))⟩)))
def KU: ∀(l:List Int) (a:Int) {x:Int},x∈l->x<=l.foldl HN a
 | y ::r,a,x,h=>by
   rcases Ep.1 h with rfl|h
   .refine Int.le_trans ?_ (F1 r _)
    unfold HN;split<;>omega
   .exact KU r _ h
def Ga {f a:Fact} (h:a∈f.kids):Cj a<=Cj f:=by
 rw[EE f];exact KU _ _ (List.mem_map_of_mem h)
def Q1 {f:Fact} (h:Be f=true):f.arg+1<=Cj f:=by
 rw[EE f,if_pos h];exact F1 _ _
end Go.Gl
namespace Go.Gl
open Go.Proofs
structure Wid (w w':AF) (ps:List Int):Prop where
 par:w'.parents=w.parents++[ps]
 own:w'.owner=w.owner++[3+(w.parents.length:Int)]
variable {w w':AF} {ps:List Int}
def Wid.ol (h:Wid w w' ps):w'.owner.length=w.owner.length+1:=by rw[h.own];simp
def rD {w:AF} {M:Int->Er} {f:Fact} {l:List Bool} (h:f.op=5):VB w M f l= !l.getD 0 false:=by rw[VB,if_neg (by omega),if_pos h]
def rC {w:AF} {M:Int->Er} {f:Fact} {l:List Bool} (h:f.op=6):VB w M f l=(l.getD 0 false&&l.getD 1 false):=by rw[VB,if_neg (by omega),if_neg (by omega),if_pos h]
def AAF {w:AF} {M:Int->Er} {f:Fact} {l:List Bool} (h:f.op=7):VB w M f l=(l.getD 0 false||l.getD 1 false):=by rw[VB,if_neg (by omega),if_neg (by omega),if_neg (by omega),if_pos h]
def AAE {w:AF} {M:Int->Er} {f:Fact} {l:List Bool} (h:f.op=2\/f.op=3\/f.op=4):VB w M f l=Ir w (M f.arg) f.path f:=by rw[VB,if_neg (by omega),if_neg (by omega),if_neg (by omega),if_neg (by omega)]
end Go.Gl
namespace Go.Gl
open Go.Proofs
attribute [local irreducible] As Ag AY AQ AL AX AP AR AK AW AM AN Ai Ap Sat AT An AZ W
section
variable {S:Type} (g:FuncId) (fi ca:List V) (H:S->List At) (f:Int->Bool) (J:S->Prop) (D:Int->Prop)
def SC {v:V} {xs:List Int} (hst:OV zP (.f (.func g) fi ca) eI (fun s=> .own v 1 (iL xs)::H s) f J D) (hD: ∀x∈xs,D x) (hxl:xs.length<=Ab) (s0:S) (hj0:J s0) :
    BL zP 182 [v,.f (.func g) fi ca] (.own v 1 (iL xs)::H s0) fun r post=>r= .ret (eI (OS f xs 0))/\ ∃s',J s'/\post= .own v 1 (iL xs)::H s':=by
 intro Z hs;have hM:=Mx;refine jC kZ ?_;refine zz ?_;(repeat clear U K);repeat intro K U
 refine B4 xs.length (fun k (_:S)=>[(8,eI (A7 k))]) (fun _ s=> .own v 1 (iL xs)::H s) (fun k s=>J s/\OS f xs 0=OS f (xs.drop k) k) s0 rfl ⟨hj0,rfl⟩ hs ?_;clear hs hj0;rintro k s Z hk ⟨hj,hn⟩ hs;have hck:A7 k=k:=AS (by omega);rcases A9 xs hk with⟨y,hy,hlt⟩|hke
 .rw[drop_cons hy]at hn
  have hDy:=hD y (B6 hy);rw[OS]at hn
  conv=>whnf
  repeat'((first|clear U K|apply st|(apply zk;intro K U)|refine zY ?_|refine ze fun x hx=>?_|fail)<;>conv=>whnf)
  obtain rfl:x=y:=by rw[hck,GR,hy]at hx;exact(Option.some.inj hx).symm
  refine hst.use hDy hj hs ?_;clear hs hj;intro s Z hj hs;cases hyes:f x
  .rw[hyes,if_neg (by decide)]at hn
   refine zz ?_;(repeat clear U K);repeat intro K U
   exact⟨hlt,_,rfl,⟨hj,hn⟩,hs⟩
  .rw[hyes,if_pos rfl]at hn
   refine zz ?_;(repeat clear U K);repeat intro K U
   rw[hn];exact AJ ⟨_,⟨by rw[hck],s,hj,rfl⟩,hs⟩
 .rw[Aj hke,OS]at hn
  refine zz ?_;(repeat clear U K);repeat intro K U
  rw[hn];exact AJ ⟨_,⟨rfl,s,hj,rfl⟩,hs⟩
def O5 {v:V} {xs:List Int} (hst:OV zP (.f (.func g) fi ca) eI (fun s=> .own v 1 (iL xs)::H s) f J D) (hD: ∀x∈xs,D x) (hxl:xs.length<=Ab) (s0:S) (hj0:J s0) :
    BL zP 102 [v,.f (.func g) fi ca] (.own v 1 (iL xs)::H s0) fun r post=>r= .ret (.b (xs.any f))/\ ∃s',J s'/\post= .own v 1 (iL xs)::H s':=by
 intro Z hs;refine jH kZ ?_
 conv=>whnf
 repeat'((first|clear U K|apply st|(apply zk;intro K U)|fail)<;>conv=>whnf)
 refine(SC g fi ca H f J D hst hD hxl s0 hj0).use (rest:=[]) (by simpa using hs) ?_;rintro r post Z ⟨rfl,s',hj,rfl⟩ hs;refine zz ?_;(repeat clear U K);repeat intro K U
 exact AJ ⟨_,⟨by rw[<-Wy f xs 0],s',hj,rfl⟩,by simpa using hs⟩
def og {v:V} {xs:List Int} (hst:OV zP (.f (.func g) fi ca) eI (fun s=> .own v 1 (iL xs)::H s) f J D):OV zP (.f (.func 269) [] [.rp [.f (.func g) fi ca]]) eI (fun s=> .own v 1 (iL xs)::H s) (fun y=> !f y) J D:=by
 intro y s hd hj Z hs;refine A0 ?_;show As zP 269 ([]++[eI y]++[.rp [.f (.func g) fi ca]]) Z _;refine ij kZ ?_;refine zz ?_;(repeat clear U K);repeat intro K U
 refine hst.use hd hj hs ?_;clear hs;intro s' Z hj' hs;refine zz ?_;(repeat clear U K);repeat intro K U
 exact AJ ⟨rfl,s',hj',hs⟩
def bu {v:V} {xs:List Int} (hst:OV zP (.f (.func g) fi ca) eI (fun s=> .own v 1 (iL xs)::H s) f J D) (hD: ∀x∈xs,D x) (hxl:xs.length<=Ab) (s0:S) (hj0:J s0) :
    BL zP 202 [v,.f (.func g) fi ca] (.own v 1 (iL xs)::H s0) fun r post=>r= .ret (.b (xs.all f))/\ ∃s',J s'/\post= .own v 1 (iL xs)::H s':=by
 intro Z hs;refine iz kZ ?_
 conv=>whnf
 repeat'((first|clear U K|apply st|(apply zk;intro K U)|fail)<;>conv=>whnf)
 refine(O5 269 [] [.rp [.f (.func g) fi ca]] H _ J D (og g fi ca H f J D hst) hD hxl s0 hj0).use (rest:=[]) (by simpa using hs) ?_;rintro r post Z ⟨rfl,s',hj,rfl⟩ hs;refine zz ?_;(repeat clear U K);repeat intro K U
 refine AJ ⟨_,⟨?_,s',hj,rfl⟩,by simpa using hs⟩;rw[List.all_eq_not_any_not]
end
def tt:Pure zP 337 [.i .u64 0] (eI 0):=by
 refine u6 kZ ?_;have hs:=Sn
 conv=>whnf
 repeat'((first|clear U K|apply st|(apply zk;intro K U)|refine zY ?_|(refine zb (fun hc=>?_) (fun hc=>?_)<;>try exact⟨⟩)|fail)<;>conv=>whnf)
 refine⟨by decide,?_⟩;exact zW
def tu:Pure zP 279 [.i .u64 0] (eI 0):=by
 refine vU kZ ?_;have hs:=Sn
 conv=>whnf
 repeat'((first|clear U K|apply st|(apply zk;intro K U)|refine tt.use ?_|fail)<;>conv=>whnf)
 all_goals exact AG rfl
def uA:Pure zP 327 [.l [] true,eI 0,eI 0] (.t []):=by
 refine u7 kZ ?_;have hs:=Sn;refine zz ?_;(repeat clear U K);repeat intro K U
 refine Ff (fun(_:Unit)=>0) (fun _=>[(6,eI 1)]) (fun _=>[]) (fun _=>True) () rfl trivial hs ?_;clear hs;rintro - Z - hs;exact zW
def tD:Pure zP 278 [.l [] true,eI 0,eI 0,eI 0] (.t []):=by
 refine vV kZ ?_;have hs:=Sn;refine zz ?_;(repeat clear U K);repeat intro K U
 refine Ff (fun(_:Unit)=>0) (fun _=>[]) (fun _=>[]) (fun _=>True) () rfl trivial hs ?_;clear hs;rintro - Z - hs
 conv=>whnf
 repeat'((first|clear U K|apply st|(apply zk;intro K U)|refine zY ?_|refine uA.use ?_|(refine zb (fun hc=>?_) (fun hc=>?_)<;>try exact⟨⟩)|fail)<;>conv=>whnf)
 all_goals exact AG rfl
def kF:Pure zP 212 [.l [] true] (.t []):=by
 refine wY kZ ?_;have hs:=Sn
 conv=>whnf
 repeat'((first|clear U K|apply st|(apply zk;intro K U)|refine tu.use ?_|refine tD.use ?_|fail)<;>conv=>whnf)
 all_goals exact AG rfl
def fu {xs:List Int} {v:V} (hv:(Bi v).isSome=true\/(v= .l [] true/\xs= [])):BL zP 212 [v] [.own v 1 (iL xs)] fun r post=>r= .ret (.t [])/\post= [.own v 1 (iL (xs.mergeSort H0))]:=by
 rcases hv with hv|⟨rfl,rfl⟩
 .obtain⟨n,l,c,rfl⟩:=VZ hv
  exact nq xs n l c
 .intro Z hs
  have:=kF.use (Z:=Z) (k:=fun v Z'=>v= .t []/\Z'=Z) (kp:=fun _ _=>False) ⟨rfl,rfl⟩;refine As.mono this ?_;rintro(u|u) Z' hq
  .obtain⟨rfl,rfl⟩:=hq
   exact⟨_,⟨rfl,rfl⟩,by simpa using hs⟩
  .exact hq.elim
def Xe {b:Nat} {Z:AE} {sz:Nat} {v:V} {ys:List (List V)} {f:Bool} {K:V->AE->Prop} (h:AL b Z sz v (.l ys f) fun v' Z'=>((Bi v').isSome=true\/(v'=v/\ys= []))->K v' Z'):AL b Z sz v (.l ys f) K:=by
 unfold AL at *;obtain⟨h1,h2,h3⟩:=h;refine⟨h1,h2,?_⟩;cases v with
 | l es full=>exact⟨h3.1,h3.2.1,fun e=>h3.2.2.1 e (.inr ⟨rfl,e⟩),fun e=>⟨(h3.2.2.2 e).1,fun n cap hn hc=>(h3.2.2.2 e).2 n cap hn hc (.inl rfl)⟩⟩
 | sl n len cap=>
   simp only at h3 ⊢;split at h3
   .exact⟨h3.1,h3.2.1,h3.2.2.1,h3.2.2.2.1,fun n' cap' hn hc=>h3.2.2.2.2 n' cap' hn hc (.inl rfl)⟩
   .exact h3.elim
 | _=>exact h3.elim
def Te (M:List Int):List (V×V):=M.map fun k=>(eI k,.b true)
def H7 (M:List Int) (k:Int):List Int:=if M.contains k then M else M++[k]
def QM (M:List Int) (k b:Int):(H7 M k).contains b=(M.contains b||b==k):=by
 unfold H7;split
 .rename_i h
  by_cases hb:b=k
  .subst hb;simpa using h
  .have:(b==k)=false:=by simpa using hb
   rw[this,Bool.or_false]
 .simp[List.contains_append]
  rfl
def aw (M:List Int) (k:Int):Du (eI k) (.b true) (Te M)=Te (H7 M k):=by
 induction M with
 | nil=>rfl
 | cons x r ih=>
   simp only[Te,CK,Du]at *;have he:Dw (eI k) (eI x)=(k==x):=rfl;rw[he];cases hx:k==x
   .rw[cond_false,ih]
    unfold H7;have:(x::r).contains k=r.contains k:=by rw[List.contains_cons,hx,Bool.false_or]
    rw[this];split<;>simp
   .rw[cond_true]
    have hk:k=x:=by simpa using hx
    subst hk;unfold H7;simp
def My (M:List Int) (k:Int):found (.b false) false (Cz (eI k) (Te M))= .b (M.contains k):=by
 induction M with
 | nil=>rfl
 | cons x r ih=>
   simp only[Te,CK,Cz]at *;have he:Dw (eI k) (eI x)=(k==x):=rfl;rw[he,List.contains_cons];cases k==x
   .simpa using ih
   .rfl
def IP (M:List Int): ∀kv∈Te M,Bl (.i .i64) kv.1=true:=by
 intro kv h;obtain⟨e,_,rfl⟩:=GK.1 h;rfl
abbrev Ja (l:Fact):List V:=xF (Ad l).1++[.b (Ad l).2]
abbrev Dt (ls:List Fact):List (List V):=ls.map Ja
def UP (xs ys:List Int) (f g:Bool):Pure zP 58 [.l (iL xs) f,.l (iL ys) g] (.b (xs==ys)):=by
 refine Pure.fit (by kernel_rfl) fun hf=>?_
 have hx:=OR hf.1;have hy:=OR hf.2.1;have hM:=Mx;refine AAZ kZ ?_;have hs:=Sn
 conv=>whnf
 repeat'((first|clear U K|apply st|(apply zk;intro K U)|refine zY ?_|(refine zd (fun hc=>?_) (fun hc=>?_)<;>try exact⟨⟩)|fail)<;>conv=>whnf)
 .exact AG (by(have:(xs==ys)=false:=by(simp;intro e;subst e;simp at hc));rw[this])
 have hl:xs.length=ys.length:=by omega
 refine B4 xs.length (fun k (_:Unit)=>[(13,eI (A7 k))]) (fun _ _=>[]) (fun k _=>(xs==ys)=(xs.drop k==ys.drop k)) () rfl rfl Sat.nil ?_;clear hs;rintro k - Z hk hn hs;rcases A9 xs hk with⟨x,hxk,hlt⟩|hke
 .obtain⟨y,hyk⟩: ∃y,ys[k]? =some y:=⟨_,Cd (by omega)⟩
  rw[drop_cons hxk,drop_cons hyk]at hn
  conv=>whnf
  repeat'((first|clear U K|apply st|(apply zk;intro K U)|refine zY ?_|refine za (fun hc=>?_) fun hc=>?_|fail)<;>conv=>whnf)
  .exact AG (by rw[hn];simp[*])
  .exact⟨hlt,(),rfl,by rw[hn];simp[*],hs⟩
 .refine zz ?_;(repeat clear U K);repeat intro K U
  exact AG (by rw[hn,Aj hke,Aj (by omega)];rfl)
def o7 (a b:Bool) (u:V):Pure zP 277 [.l [] a,.l [] b,u] (.b true):=by
 refine ig kZ ?_;have hs:=Sn;have hM:=Mx
 conv=>whnf
 repeat'((first|clear U K|apply st|(apply zk;intro K U)|refine zY ?_|(refine zb (fun hc=>?_) (fun hc=>?_)<;>try exact⟨⟩)|fail)<;>conv=>whnf)
 refine B4 0 (fun k (_:Unit)=>[(17,eI (A7 k))]) (fun _ _=>[]) (fun _ _=>True) () rfl trivial Sat.nil ?_;clear hs;rintro k - Z hk - hs;obtain rfl:k=0:=by omega
 conv=>whnf
 repeat'((first|clear U K|apply st|(apply zk;intro K U)|refine zY ?_|(refine zd (fun hc=>?_) (fun hc=>?_)<;>try exact⟨⟩)|fail)<;>conv=>whnf)
 .exfalso
  simp at hc
 .exact AG rfl
def ny (f g:Fact) (hf:f.kids= []) (hg:g.kids= []):Pure zP 210 [.a (xF f),.a (xF g)] (.b (CW f g)):=by
 have e:CW f g=(f.op==g.op&&(f.arg==g.arg&&(f.cls==g.cls&&(f.n==g.n&&f.path==g.path)))):=by
  rw[J5,hf,hg];simp[Jn]
 obtain⟨o,a,p,c,n,k⟩:=f;obtain⟨o',a',p',c',n',k'⟩:=g;simp only[Fact.kids]at hf hg;subst hf;subst hg;refine iv kZ ?_;have hs:=Sn;rw[e]
 conv=>whnf
 repeat'((first|clear U K|apply st|(apply zk;intro K U)|refine zY ?_|refine Pure.use (UP _ _ _ _) ?_|refine Pure.use (o7 _ _ _) ?_|refine za (fun hc=>?_) fun hc=>?_|fail)<;>conv=>whnf)
 all_goals simp only[Fact.op,Fact.arg,Fact.cls,Fact.n,Fact.path]at *
 all_goals exact AG (by simp[*])
def UB:Dj Ja 7:=fun l=>by
 refine⟨rfl,fun v hv=>?_⟩;rcases Dn.1 hv with hv|hv
 .exact(Iv (Ad l).1).2 v (by show v∈EI (Ad l).1;rw[BC];exact hv)
 .simp at hv;subst hv;rfl
def SK (x y:Fact):Bool:=(Ad x).2==(Ad y).2&&CW (Ad x).1 (Ad y).1
abbrev Zm (l:Fact):Prop:=(Ad l).1.kids= []
abbrev rz (f:Fact->Bool):Fact->Unit->Bool×Unit:=fun y _=>(f y,())
def nz (x:Fact) (hx1:Zm x) (n:Nat):Cw zP (.f (.func 209) [] [.p n 0]) (fun y=> .a (Ja y)) (fun _:Unit=>[.box n (Ja x)]) (rz (SK x)) (fun y _=>Zm y):=by
 intro y s hy1 Z hs;refine A0 ?_;show As zP 209 ([]++[.a (Ja y)]++[.p n 0]) Z _;refine wZ kZ ?_;unfold SK
 conv=>whnf
 repeat'((first|clear U K|apply st|(apply zk;intro K U)|refine zY ?_|refine Pure.use (ny _ _ hx1 hy1) ?_|refine za (fun hc=>?_) fun hc=>?_|fail)<;>conv=>whnf)
 all_goals exact AJ ⟨by simp[rz, *],hs⟩
section
variable {S:Type} (g:FuncId) (fi ca:List V) (H:S->List At)
def SB (stp:Fact->S->Bool×S) (D:Fact->S->Prop) {v:V} {xs:List Fact} (hst:Cw zP (.f (.func g) fi ca) (fun y=> .a (Ja y)) (fun s=> .own v 7 (Dt xs)::H s) stp D) (hxl:xs.length<=Ab) (s0:S) (hd:Tc stp D xs s0) :
    BL zP 276 [v,.f (.func g) fi ca] (.own v 7 (Dt xs)::H s0) fun r post=>r= .ret (eI (Bf stp xs 0 s0).1)/\post= .own v 7 (Dt xs)::H (Bf stp xs 0 s0).2:=by
 intro Z hs;have hM:=Mx;refine vW kZ ?_;refine zz ?_;(repeat clear U K);repeat intro K U
 refine B4 xs.length (fun k (_:S)=>[(8,eI (A7 k))]) (fun _ s=> .own v 7 (Dt xs)::H s) (fun k s=>Tc stp D (xs.drop k) s/\Bf stp xs 0 s0=Bf stp (xs.drop k) k s) s0 rfl ⟨hd,rfl⟩ hs ?_;clear hs;rintro k s Z hk ⟨hd,hn⟩ hs;have hck:A7 k=k:=AS (by omega);rcases A9 xs hk with⟨y,hy,hlt⟩|hke
 .rw[drop_cons hy]at hn hd
  obtain⟨hd1,hd2⟩:=hd;rw[Bf]at hn
  conv=>whnf
  repeat'((first|clear U K|apply st|(apply zk;intro K U)|refine zY ?_|refine ze fun x hx=>?_|fail)<;>conv=>whnf)
  obtain rfl:x=y:=by rw[hck,GR,hy]at hx;exact(Option.some.inj hx).symm
  refine hst.use hd1 hs ?_;clear hs;intro Z hs;cases hyes:(stp x s).1
  .rw[hyes,if_neg (by decide)]at hn
   refine zz ?_;(repeat clear U K);repeat intro K U
   exact⟨hlt,_,rfl,⟨hd2,hn⟩,hs⟩
  .rw[hyes,if_pos rfl]at hn
   refine zz ?_;(repeat clear U K);repeat intro K U
   rw[hn];exact AJ ⟨_,⟨by rw[hck],rfl⟩,hs⟩
 .rw[Aj hke,Bf]at hn
  refine zz ?_;(repeat clear U K);repeat intro K U
  rw[hn];exact AJ ⟨_,⟨rfl,rfl⟩,hs⟩
def OG (stp:Fact->S->Bool×S) (D:Fact->S->Prop) {v:V} {xs:List Fact} (hst:Cw zP (.f (.func g) fi ca) (fun y=> .a (Ja y)) (fun s=> .own v 7 (Dt xs)::H s) stp D) (hxl:xs.length<=Ab) (s0:S) (hd:Tc stp D xs s0) :
    BL zP 208 [v,.f (.func g) fi ca] (.own v 7 (Dt xs)::H s0) fun r post=>r= .ret (.b (decide ((Bf stp xs 0 s0).1≥0)))/\post= .own v 7 (Dt xs)::H (Bf stp xs 0 s0).2:=by
 intro Z hs;refine wa kZ ?_
 conv=>whnf
 repeat'((first|clear U K|apply st|(apply zk;intro K U)|fail)<;>conv=>whnf)
 refine(SB g fi ca H stp D hst hxl s0 hd).use (rest:=[]) (by simpa using hs) ?_;rintro r post Z ⟨rfl,rfl⟩ hs;refine zz ?_;(repeat clear U K);repeat intro K U
 exact AJ ⟨_,⟨rfl,rfl⟩,by simpa using hs⟩
end
def l8 (a:List Fact) (f:Bool) (hl:a.length<=1000000):BL zP 207 [.l (Dt a) f] [] fun r post=> ∃v,r= .ret v/\post= [.own v 7 (Dt a)]:=by
 intro Z hs;have hM:=Mx;refine wb kZ ?_
 conv=>whnf
 repeat'((first|clear U K|apply st|(apply zk;intro K U)|fail)<;>conv=>whnf)
 refine⟨fun e t=>?_,fun _=>?_⟩
 .have hxe:a= []:=List.map_eq_nil_iff.1 e
  subst hxe
  conv=>whnf
  repeat'((first|clear U K|apply st|(apply zk;intro K U)|refine za (fun hc=>?_) fun hc=>?_|fail)<;>conv=>whnf)
  .exact AJ ⟨_,⟨_,rfl,rfl⟩,Ch hs 7⟩
  .replace hs:=Ch hs 7
   refine JI hs 0 (xs:=[]) (ys:=[]) rfl (by simp) UB fun v Z hs=>?_
   refine zz ?_;(repeat clear U K);repeat intro K U
   exact AJ ⟨_,⟨_,rfl,rfl⟩,hs⟩
 .refine zz ?_;(repeat clear U K);repeat intro K U
  replace hs:=Ch hs 7;refine JI hs 0 (xs:=[]) (ys:=a) rfl (by simp;omega) UB fun v Z hs=>?_
  refine zz ?_;(repeat clear U K);repeat intro K U
  exact AJ ⟨_,⟨_,rfl,rfl⟩,hs⟩
def V7 {w:AF} {x:Fact} (h:DS w x):x=if(Ad x).2 then Ca (Ad x).1 else(Ad x).1:=by
 obtain⟨g,hn,hl,rfl|rfl⟩:=h
 .have:=Fw hl
  have h5: ¬x.op=5:=by omega
  simp only[Ad,if_neg h5];rfl
 .rfl
def Z8 {w:AF} {x y:Fact} (hx1:DS w x) (hy1:DS w y):SK x y=CW x y:=by
 rw[Hl,Ev];simp only[SK,A4,CF,Ev];constructor
 .rintro⟨h1,h2⟩
  rw[V7 hx1,V7 hy1,h1,h2]
 .rintro rfl
  exact⟨rfl,rfl⟩
def Sz {w:AF} {x:Fact} (h:DS w x):Zm x:=by
 obtain⟨-,hn,hl⟩:=IN h;have hlo:=Fw hl;have har:=Al _ hn;rw[FM,A4,CF]at har
 have h0:Bp (Ad x).1.op=0:=by
  have h5: ¬(Ad x).1.op=5:=by omega
  have h6: ¬((Ad x).1.op=6\/(Ad x).1.op=7):=by omega
  simp[Bp,h5,h6]
  try omega
 rw[h0]at har;exact Xv.1 har.1
def dn {w:AF} (a b:List Fact) (f g:Bool) (hla: ∀x∈a,DS w x) (hlb: ∀x∈b,DS w x) (hl:a.length+b.length<1000000):Pure zP 127 [.l (Dt a) f,.l (Dt b) g] (.l (Dt (Cv a b)) false):=by
 have hM:=Mx;refine Pure.of ?_;refine xc kZ ?_;have hs:=Sn
 conv=>whnf
 repeat'((first|clear U K|apply st|(apply zk;intro K U)|fail)<;>conv=>whnf)
 refine(l8 a f (by omega)).use (rest:=[]) (by simpa using hs) ?_;clear hs;rintro r post Z ⟨v,rfl,rfl⟩ hs;refine zz ?_;(repeat clear U K);repeat intro K U
 refine B4 b.length (fun k v=>[(5,v),(12,eI (A7 k))]) (fun k v=>[.own v 7 (Dt (Cv a (b.take k)))]) (fun _ _=>True) v rfl trivial hs ?_;clear hs;rintro k v Z hk - hs;have hml:=S4 a (b.take k);rw[Je]at hml;rcases A9 b hk with⟨x,hxk,hlt⟩|hke
 .have hsn:=Y9 a (b.take k) x
  rw[<-AU hxk]at hsn;have hxg:=hlb x (B6 hxk)
  have hmem: ∀y∈Cv a (b.take k),DS w y:=fun y hy=>by
   rcases S3 _ _ _ hy with h|h
   .exact hla y h
   .exact hlb y (List.mem_of_mem_take h)
  generalize Cv a (b.take k)=m at *
  have hany:m.any (SK x)=m.any (CW x):=by
   rw[Hl,GY,GY];exact⟨fun⟨y,hy,h⟩=>⟨y,hy,by rw[<-Z8 hxg (hmem y hy)];exact h⟩,fun⟨y,hy,h⟩=>⟨y,hy,by rw[Z8 hxg (hmem y hy)];exact h⟩⟩
  conv=>whnf
  repeat'((first|clear U K|apply st|(apply zk;intro K U)|refine zY ?_|refine zs fun Z hs=>?_|refine zo fun nn hnn Z hs=>?_|fail)<;>conv=>whnf)
  generalize nn=n7 at *;have hs2:Sat Z [.own v 7 (Dt m),.box n7 (Ja x)]:=hs.perm (.swap _ _ _);clear hs hnn;refine(OG 209 [] [.p n7 0] (fun _:Unit=>[.box n7 (Ja x)]) (rz (SK x)) (fun y _=>Zm y) ((nz x (Sz hxg) n7).more [_]) (by omega) () (Hs fun y hy _=>Sz (hmem y hy))).use (rest:=[]) hs2 ?_;clear hs2;rintro r post Z ⟨rfl,rfl⟩ hs;rw[M5,hany];cases hy:m.any (CW x)
  .rw[hy,if_neg Bool.false_ne_true]at hsn
   refine zz ?_;(repeat clear U K);repeat intro K U
   refine G5 (GO (x:=x) (xs:=m) (enc:=Ja) hs 0 rfl (by omega) UB fun v Z hs hsl=>?_);refine zz ?_;(repeat clear U K);repeat intro K U
   exact⟨hlt,v,rfl,trivial,by rw[hsn];exact hs.less (.cons₂ _ (Oq _))⟩
  .rw[hy,if_pos rfl]at hsn
   refine zz ?_;(repeat clear U K);repeat intro K U
   exact⟨hlt,v,rfl,trivial,by rw[hsn];exact hs.less (.cons₂ _ (Oq _))⟩
 .refine zz ?_;(repeat clear U K);repeat intro K U
  exact fB (G0 hs 0 rfl (vf:= .l (Dt (Cv a b)) false) (by rw[BA hke])) fun r Z h=>h.1
end Go.Gl
