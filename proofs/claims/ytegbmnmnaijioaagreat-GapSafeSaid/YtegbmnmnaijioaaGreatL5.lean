import Derived.Laws.BitsLemmas
import Derived.RecoverIn
import Derived.WalkKit
import Derived.ProofKit
import Derived.OpenShut
import Derived.Test.YtegbmnmnaijioaaGreatL3
import Derived.Test.YtegbmnmnaijioaaGreatL4
set_option linter.all false
set_option linter.defProp false
noncomputable section
namespace Go.Gl
variable {P:Program} {σ:AH} {env env':Env}
def B3 {v vf:V} (h:Ff σ emp v vf):Am σ v (fun r σ'=>r= .ret vf/\σ'=emp):=⟨vf,emp,fun n o ho=>(by cases ho),h,rfl,rfl⟩
def AS {v vf:V} (h:v=vf):Am σ v (fun r σ'=>r= .ret vf/\σ'=emp):=B3 (h ▸ .refl v)
def Mu {K K':Env->AH->Prop} {kp kp':Env->V->AH->Prop} (hm: ∀env σ,K env σ->K' env σ) (hp: ∀env v σ,kp env v σ->kp' env v σ): ∀ {os:List Aq} {env:Env} {σ:AH},IW P os K kp env σ->IW P os K' kp' env σ
 | [],_,_,h=>hm _ _ h
 | _::_,_,_,h=>B9 h (fun _ _ h=>Mu hm hp h) (hp _)
def KZ {K K':Env->AH->Prop} {kp kp':V->AH->Prop} (hm: ∀env σ,K env σ->K' env σ) (hp: ∀v σ,kp v σ->kp' v σ): ∀ {os:List CZ} {env:Env} {σ:AH},DC P os K kp env σ->DC P os K' kp' env σ
 | [],_,_,h=>hm _ _ h
 | _::_,_,_,h=>B9 h (fun _ _ h=>⟨h.1,KZ hm hp h.2⟩) hp
end Go.Gl
namespace Go.Gl
variable {P:Program} {σ:AH} {env env':Env}
def uC {A B:Prop} (h:A):(true=true->A)/\(true=false->B):=⟨fun _=>h,fun e=>by cases e⟩
def uD {A B:Prop} (h:B):(false=true->A)/\(false=false->B):=⟨fun e=>(by cases e),fun _=>h⟩
def m4 {A B:Prop} (h:A):(false=false->A)/\(false=true->B):=⟨fun _=>h,fun e=>by cases e⟩
def mz {A B:Prop} (h:B):(true=false->A)/\(true=true->B):=⟨fun e=>(by cases e),fun _=>h⟩
def fork {p:Prop} [Decidable p] {A B:Prop} (h1:p->A) (h2: ¬p->B):(decide p=true->A)/\(decide p=false->B):=⟨fun h=>h1 (of_decide_eq_true h),fun h=>h2 (of_decide_eq_false h)⟩
def wrap64 {n:Int} (h1: -9223372036854775808<=n) (h2:n<=9223372036854775807):IntKind.i64.wrap n=n:=by rw[IntKind.wrap_i64];omega
def qZ {α:Type} {enc:α->List V} {xs:List α} {k:Nat} (h:(k:Int)<((xs.map enc).length:Nat)):k<xs.length:=by
 rw[Bu]at h;omega
def mO {α:Type} {enc:α->List V} {xs:List α} {k:Nat} (hk:k<=xs.length) (h: ¬(k:Int)<((xs.map enc).length:Nat)):k=xs.length:=by
 rw[Bu]at h;omega
def gX {α:Type} {enc:α->List V} {xs:List α} {f:Bool} {sz:Nat} {ki:IntKind} {j:Int} {K:V->AH->Prop} (l:Nat) (hj:j=l) (hl:l<=xs.length) (hs: ∀x,(enc x).length=sz) (h:K (.l ((xs.drop l).map enc) f) σ) :
    AP σ sz (.l (xs.map enc) f) (some (.i ki j)) none none K:=by
 subst hj;refine⟨fun e he=>?_,?_⟩
 .obtain⟨x,_,rfl⟩:=Iz.1 he
  exact hs x
 .simp only[Nr,Bu]
  refine⟨by omega,by omega,by omega,?_⟩;rw[Hd,Hd,List.take_of_length_le (by simp)];simpa using h
def exitTo (B:Nat) (J:Env->AH->Prop) (Q:Ah->Env->AH->Prop):Ah->Env->AH->Prop
 | .exit id,env,σ=>bif Nat.beq id B then J env σ else Q (.exit id) env σ
 | .normal,env,σ=>Q .normal env σ
 | .ret,env,σ=>Q .ret env σ
 | .BZ v,env,σ=>Q (.BZ v) env σ
end Go.Gl
namespace Go.Gl
variable {P:Program} {Λ:Nat->Prop} {pu:List FuncId} {fz:List Nat}
inductive RS where
 | t (n:Nat)
 | c (n:Nat) (agg:Option Nat)
def L4 (P:Program):List ResultVar->Option (List RS)
 | []=>some []
 | .tmp t::r=>(L4 P r).map (.t t:: ·)
 | .cell a t::r=>match ID P t,L4 P r with|some g,some l=>some (.c a g::l)|_,_=>none
def Tj (σ:AH) (env:Env):List RS->(List V->Prop)->Prop
 | [],k=>k []
 | .t n::r,k=>wv (get n env) fun v=>Tj σ env r fun vs=>k (v::vs)
 | .c n g::r,k=>wv (get n env) fun a=>AW σ g a fun v=>Tj σ env r fun vs=>k (v::vs)
def ET:List V->V
 | [v]=>v
 | vs=> .t vs
def UI (AI:List RS) (Q:R->AH->Prop):Ah->Env->AH->Prop
 | .normal,env,σ| .ret,env,σ=>Tj σ env AI fun vs=>Am σ (ET vs) Q
 | .BZ v,_,σ=>Ac σ v Q
 | .exit _,_,_=>False
def bD {t:TypeId} {agg:Option Nat} (Y:ID P t=some agg) {σ:AH} {w:World} (G:Rel Λ σ w) {vx:V} {c:Value} (hx:Ag (Hh Λ σ w) vx c) {K:V->Prop} (h:AW σ agg vx K) :
    ∃v d,(do loadVar t (<-asAddr c):Sem Value).run P w= .ok d w/\Ag (Hh Λ σ w) v d/\K v:=by
 unfold AW at h;split at h
 .rename_i cs
  obtain⟨b,o,rfl,hv⟩:=hx;obtain⟨v,c,h1,h2,h3⟩:=Ez (P:=P) (w:=w) (b:=b) (off:=0) Y (fun i c hc=>(Fk hc).2.2) hv h;refine⟨v,c,?_,h2,h3⟩;simp only[C6,asAddr,EY,Result.andThen,Nat.add_zero]at h1 ⊢;exact h1
 .rename_i n off
  simp only[Ag]at hx;subst hx;unfold OQ at h;split at h
  .rename_i vs hs
   obtain⟨c,e,h1,h2,h3⟩:=JS G hs;obtain⟨v,c',h4,h5,h6⟩:=Ez (P:=P) (w:=w) (b:=n) (off:=off) Y (fun i c hc=>by rw[DG h1];exact hc) h3 h;refine⟨v,c',?_,h5,h6⟩;simp only[C6,asAddr,EY,Result.andThen,GM]at h4 ⊢;exact h4
  .exact h.elim
 .rename_i n sz i off
  simp only[Ag]at hx;subst hx;unfold OR at h;split at h
  .rename_i sz' es cap hs
   obtain⟨rfl,h⟩:=h;split at h
   .rename_i e he
    obtain⟨c,e',h1,_,_,_,h3⟩:=Eh G hs;obtain⟨h7,h8⟩:=A9.1 h3 i e he;obtain⟨v,c',h4,h5,h6⟩:=Ez (P:=P) (w:=w) (b:=n) (off:=off) Y (fun i c hc=>by rw[DG h1];exact hc) h8 h;refine⟨v,c',?_,h5,h6⟩;simp only[C6,asAddr,EY,Result.andThen,GM]at h4 ⊢;exact h4
   .exact h.elim
  .exact h.elim
 .exact h.elim
def Lk {fn:Func} {AI:List RS} (hr:L4 P fn.results.toList=some AI) {σ:AH} {w:World} (G:Rel Λ σ w) {env:Env} {tmps:Array Value} (he:CE (Hh Λ σ w) env tmps) {K:List V->Prop} (hv:Tj σ env AI K) :
    ∃c vs,(results fn tmps).run P w= .ok c w/\Ag (Hh Λ σ w) (ET vs) c/\K vs:=by
 have key: ∀(l:List ResultVar) (AI:List RS),L4 P l=some AI-> ∀K,Tj σ env AI K->
  ∃(cs:List Value) (vs:List V),(l.mapM (nH tmps)).run P w= .ok cs w/\cs.length=vs.length/\BO (Hh Λ σ w) (fun i=>cs[i]?) 0 vs/\K vs:=by
  intro l
  induction l with
  | nil=>
    intro AI hs K hv;cases hs;exact⟨[],[],by simp,rfl,trivial,hv⟩
  | cons x l ih=>
    intro AI hs K hv;cases x with
    | cell a t=>
      simp only[L4]at hs;split at hs
      .rename_i g s' h0 h1
       cases hs;obtain⟨va,h2,hv⟩:=UK hv;obtain⟨ca,h7,h8⟩:=he a va h2;obtain⟨v,d,h9,h10,hv⟩:=bD (P:=P) h0 G h8 hv;obtain⟨cs,vs,h4,h5,h6,hk⟩:=ih s' h1 _ hv;refine⟨d::cs,v::vs,?_,by simp[h5],⟨d,rfl,h10⟩ |> fun h=>⟨h,A7 h6 (fun i _=>by rw[show 0+1+i=i+1 by omega];simp)⟩,hk⟩;rw[List.mapM_cons];simp only[C6,nH]at h9 ⊢;simp only[Array.getD_eq_getD_getElem?,h7,Option.getD_some,h9,GH,h4,EY]
      .cases hs
    | tmp t=>
      simp only[L4]at hs;obtain⟨s',h1,rfl⟩:=Aj hs;obtain⟨u,h2,hv⟩:=UK hv;obtain⟨cs,vs,h4,h5,h6,hk⟩:=ih s' h1 _ hv;obtain⟨c,h7,h8⟩:=he t u h2;refine⟨c::cs,u::vs,?_,by simp[h5],⟨⟨c,rfl,h8⟩,A7 h6 (fun i _=>by rw[show 0+1+i=i+1 by omega];simp)⟩,hk⟩;rw[List.mapM_cons];simp only[nH,C6,EY,GH,h4,Array.getD_eq_getD_getElem?,h7,Option.getD_some]
 obtain⟨cs,vs,h1,h2,h3,hk⟩:=key _ _ hr K hv
 have hrun:(fn.results.mapM (nH tmps)).run P w= .ok cs.toArray w:=by
  rw[Array.mapM_eq_mapM_toList];simp[h1]
 rw[KG];simp only[C6];refine⟨if h:cs.toArray.size=1 then cs.toArray[0]else .tuple cs.toArray,vs,?_,?_,hk⟩
 .rw[hrun]
  rfl
 .by_cases h1':cs.length=1
  .rw [dif_pos (by simpa using h1')]
   match cs,h1',h2,h3 with
   | [c],_,h2,h3=>
     match vs,h2,h3 with
     | [u],_,h3=>
       obtain⟨⟨d,hd,hr⟩,_⟩:=h3;simp at hd;subst hd;exact hr
  .rw[dif_neg (by simpa using h1')]
   have hv':ET vs= .t vs:=by
    match vs with
    | []=>rfl
    | [u]=>simp at h2;exact absurd h2 h1'
    | u::u'::r=>rfl
   rw[hv'];exact⟨_,rfl,by simpa using h2,A7 h3 (fun i _=>by simp)⟩
def cA {f:FuncId} {fn:Func} {c:Code} {ac:AX} {AI:List RS} (hf:P.funcs[f]? =some fn) (hok:okF P f=true) (hb:fn.body=some c) (hr:L4 P fn.results.toList=some AI)
    {args:List V} (hn:args.length<=fn.ntmps) (hc:res P fn.ntmps pu fz c=some (erase ac)) {σ:AH} {Q:R->AH->Prop} (h:T P ac (UI AI Q) (A3 0 args) σ):As P f args σ Q:=by
 refine⟨hok,fun Λ w cs G hv=>?_⟩;refine callsIn_wide (n:=0) |>.1 (GG hf hb ?_)
 have he:CE (Hh Λ σ w) (A3 0 args) (cs++Array.replicate (fn.ntmps - cs.size) undef):=by
  intro k v hg;obtain⟨_,h2⟩:=F9 args 0 k v hg;simp only[Nat.sub_zero]at h2;obtain⟨d,h3,h4⟩:=BV.1 hv.2 k v h2;simp only[GM]at h3;refine⟨d,?_,h4⟩;rw[Array.getElem?_append_left (by have:=(oT.1 h3).1;exact this)];exact h3
 have hsz:(cs++Array.replicate (fn.ntmps - cs.size) undef).size=fn.ntmps:=by
  simp only[Array.size_append,Array.size_replicate];have:=hv.1;omega
 refine CI (Ei (r:=none) (a:={tmps:=cs++Array.replicate (fn.ntmps - cs.size) undef,defers:=[]}) hc h he G hsz Ct.none) ?_;rintro e a' w' ⟨ex,env,σ',hq,hx,he',hR',Y,hN,ms,hms,hnd,hD,_⟩;simp only[Ep]at hms
 have fin:Tj σ' env AI (fun vs=>Am σ' (ET vs) Q)->LeavesInM (wide none) 0 P fn a'.tmps (fun e w'=> ∃r σ',Q r σ'/\UJ (Hh Λ σ' w') r e/\Rel Λ σ' w'/\B2 Λ σ w σ' w') a'.defers .returning w':=fun h1=>by
  rw[hms,<-Ep (ms.map D7)];refine C5 (by simp) ms w' hnd hD hR' Y fun w2 q1 q2 q3=>?_
  obtain⟨c,vs,h5,h6,vf,σ'',h2,h3,h4⟩:=Lk (P:=P) hr q1 (he'.mono q3) h1;exact⟨c,h5,.ret vf,σ'',h4,⟨c,rfl,h3.rel q1 h2 h6⟩,q1.drop h2,q2.trans (B2.drop w2 h2)⟩
 cases ex with
 | normal=>simp only[Dj]at hx;subst hx;exact fin hq
 | ret=>simp only[Dj]at hx;subst hx;exact fin hq
 | exit id=>exact hq.elim
 | BZ v=>
   obtain⟨c,rfl,hv'⟩:=hx;obtain⟨vf,σ'',h2,h3,h4⟩:=hq;show LeavesInM _ _ _ _ _ _ a'.defers (.panicking _) w';rw[hms,<-Ep (ms.map D7)];refine C5 (by simp) ms w' hnd hD hR' Y fun w2 q1 q2 q3=>?_
   exact⟨.BZ vf,σ'',h4,⟨c,rfl,h3.rel q1 h2 (hv'.mono q3)⟩,q1.drop h2,q2.trans (B2.drop w2 h2)⟩
def ER {f:FuncId} {fn:Func} {ac:AX} {AI:List RS} (hf:P.funcs[f]? =some fn) (hok:okF P f=true) (hb:fn.body.bind (res P fn.ntmps pu fz)=some (erase ac)) (hr:L4 P fn.results.toList=some AI)
    {args:List V} (hn:args.length<=fn.ntmps) {σ:AH} {Q:R->AH->Prop} (h:T P ac (UI AI Q) (A3 0 args) σ):As P f args σ Q:=by
 cases hc:fn.body with
 | none=>rw[hc]at hb;cases hb
 | some c=>rw[hc]at hb;exact cA hf hok hc hr hn hb h
end Go.Gl
namespace Go.Gl
variable {P:Program} {Λ:Nat->Prop} {σ:AH}
def EC:List Nat->List V->Env->Env
 | p::ps,v::vs,env=>EC ps vs (put (some p) v env)
 | _,_,env=>env
def Oo (L:Nat) (env:Env) (ok:FuncId->Array Tmp->Code->Code->Nat->Prop) (Q:R->AH->Prop):Ah->Env->AH->Prop
 | .normal,_,σ'=>Q (.ret (.b true)) (A6 σ' L (.loop .ready env ok))
 | .ret,_,σ'=>Q (.ret (.b false)) (A6 σ' L (.loop .ret env ok))
 | .exit id,_,σ'=>Q (.ret (.b false)) (A6 σ' L (.loop (.exit id) env ok))
 | .BZ v,_,σ'=>Q (.BZ v) σ'
def CK (K:Env->AH->Prop):Ah->Env->AH->Prop
 | .normal,env,σ=>K env σ
 | _,_,_=>False
def get_mem: ∀ {env:Env} {k:Nat} {v:V},get k env=some v->(k,v)∈env
 | [],_,_,h=>by cases h
 | (j,u)::r,k,v,h=>by
   simp only[get]at h;cases hb:Nat.beq j k with
   | true=>
     rw[hb]at h;simp only[cond_true,II]at h;rw[Ti hb,h];exact .head _
   | false=>
     rw[hb]at h;exact .tail _ (get_mem h)
def CE.binds {H:Nat->Nat->Option Value} {N:Nat}: ∀(ps:List Nat) (vs:List V) (cs:List Value) (env:Env) (tmps:Array Value),CE H env tmps->tmps.size=N->(∀p∈ps,p<N)->vs.length=ps.length->cs.length=vs.length->
    BO H (fun i=>cs[i]?) 0 vs->CE H (EC ps vs env) ((ps.zip cs).foldl (fun t pa=>t.setIfInBounds pa.1 pa.2) tmps)/\((ps.zip cs).foldl (fun t pa=>t.setIfInBounds pa.1 pa.2) tmps).size=N
 | [],[],[],env,tmps,he,hN,_,_,_,_=>⟨he,hN⟩
 | p ::ps,v::vs,c::cs,env,tmps,he,hN,hp,hl,hc,hv=>by
   simp only[List.zip_cons_cons,List.foldl_cons,EC];obtain⟨⟨d,hd,hr⟩,hv'⟩:=hv;simp at hd;subst hd
   refine CE.binds ps vs cs _ _ (CE.put (a:={tmps:=tmps,defers:=[]}) he hN (d:=some p) (fun x hx=>by cases hx;exact hp p (.head _)) hr) (by simpa using hN) (fun q hq=>hp q (.tail _ hq)) (by simpa using hl) (by simpa using hc)
    (A7 hv' fun i _=>by rw[show 0+1+i=i+1 by omega];simp)
 | [],_::_,_,_,_,_,_,_,hl,_,_=>by simp at hl
 | _::_,[],_,_,_,_,_,_,hl,_,_=>by simp at hl
 | _::_,_::_,[],_,_,_,_,_,_,hc,_=>by simp at hc
 | [],[],_::_,_,_,_,_,_,_,hc,_=>by simp at hc
def Pu {L : Nat} {env:Env} {ps:List Nat} {a b:AX} (hσ:σ L=some (.loop .ready env (Bb P ps a b))) {args:List V} (hl:args.length=ps.length) {Q:R->AH->Prop}
    (h:T P a (CK (T P b (fun ex env' σ'=>σ' L=none->Oo L env (Bb P ps a b) Q ex env' σ'))) (EC ps args env) (del σ L)):L9 P L args σ Q:=by
 intro Λ w cs G hv;obtain⟨hnl,ob,hob,lp,rfl,⟨hst,hpe⟩,htm,hfn,hps,hplt,pu,fz,hra,hrb⟩:=G.own L _ hσ;have hsub:=Fi σ L;have hAd:B2 Λ σ w (del σ L) w:=B2.drop w hsub;have hcs:cs.size=lp.params.size:=by rw[hv.1,hl,<-hps];simp
 refine⟨lp.fn,_,lp.assign,lp.body,run_yield hob hcs,?_⟩
 have hfold:(lp.params.zip cs).foldl (fun tmps (t,a)=>tmps.setIfInBounds t a) lp.tmps=(ps.zip cs.toList).foldl (fun t pa=>t.setIfInBounds pa.1 pa.2) lp.tmps:=by
  rw[<-hps,<-Array.foldl_toList,Array.toList_zip]
 obtain⟨he0,hN0⟩:=CE.binds (H:=Hh Λ (del σ L) w) ps args cs.toList env lp.tmps (fun k v hg=>let⟨c,h1,h2⟩:=htm k v (get_mem hg);⟨c,h1,h2.mono hAd.hle⟩) rfl hplt hl (by simpa using hv.1) (A7 (BO.mono hAd.hle (fun _ _ e=>e) _ _ hv.2) fun i _=>by simp);have hrd:Ct (some L) (del σ L) w:=fun l e=>by cases e;exact⟨DF σ L,lp,hob⟩
 refine P5 hfn ?_;rw[hfold];refine CI (Ei (r:=some L) (a:={tmps:=(ps.zip cs.toList).foldl (fun t pa=>t.setIfInBounds pa.1 pa.2) lp.tmps,defers:=[]}) hra h he0 (G.drop hsub) hN0 hrd) ?_;rintro e a1 w1 ⟨ex,env1,σ1,hq,hx,he1,hR1,hA1,hN1,hM1⟩;have hrd1:=hrd.GJ hA1
 have hd1:a1.defers= []:=by
  obtain⟨ms,h1,_,_,h2⟩:=hM1;rw[h1,h2 (by simp)];rfl
 cases ex with
 | exit id=>exact hq.elim
 | ret=>exact hq.elim
 | BZ v=>exact hq.elim
 | normal=>
   simp only[Dj]at hx;subst hx;obtain⟨hL1,_⟩:=hrd1 L rfl;have hob1:w1.heap[L]? =some (.loop lp):=(hA1.frame L (Dd hob) (DF σ L)).trans hob;refine⟨_,run_beginRound hob1 hst,?_⟩;have hlt1:=Dd hob1;have hR1':=hR1.put (ob':= .loop {lp with state:= .busy}) hL1 hob1 rfl;have hob1':(w1.putObj L (.loop {lp with state:= .busy})).heap[L]? =some (.loop {lp with state:= .busy}):=World.putObj_heap_same hlt1;have hrd1':Ct (some L) σ1 (w1.putObj L (.loop {lp with state:= .busy})):=fun l e=>by cases e;exact⟨hL1,_,hob1'⟩
   refine CI (Ei (r:=some L) hrb hq (he1.mono (TE hob1 rfl)) hR1' hN1 hrd1') ?_;rintro e2 a2 w2 ⟨ex2,env2,σ2,hq2,hx2,he2,hR2,hA2,hN2,hM2⟩
   have hd2:a2.defers= []:=by
    obtain⟨ms,h1,_,_,h2⟩:=hM2;rw[h1,h2 (by simp),hd1];rfl
   have hL2:σ2 L=none:=((hrd1'.GJ hA2) L rfl).1;have hq2:=hq2 hL2;have hob2:w2.heap[L]? =some (.loop {lp with state:= .busy}):=(hA2.frame L (Dd hob1') hL1).trans hob1';have hne: ∀ {n:Nat},σ n=none->n≠L:=fun {n} hn e=>by rw[e,hσ]at hn;cases hn
   have hsz:w.heap.size<=w2.heap.size:=by
    have h1:=hA1.size;have h2:=hA2.size;simp at h2;omega
   have hfr: ∀n,n<w.heap.size->σ n=none->w2.heap[n]? =w.heap[n]? /\σ2 n=none:=fun n hn h0=>by
    have h1:=hsub.none h0;have h2:=hA1.names n h1 hn;have hs1:=hA1.size;have h3:=hA2.frame n (by simp;omega) h2;exact⟨h3.trans ((World.putObj_heap_other (hne h0)).trans (hA1.frame n hn h1)),hA2.names n h2 (by simp;omega)⟩
   have fin: ∀(st:od) (lp3:Loop),lp3.tmps=lp.tmps->lp3.fn=lp.fn->lp3.params=lp.params->lp3.assign=lp.assign->lp3.body=lp.body->ot st lp3->
    Rel Λ (A6 σ2 L (.loop st env (Bb P ps a b))) (w2.putObj L (.loop lp3))/\B2 Λ σ w (A6 σ2 L (.loop st env (Bb P ps a b))) (w2.putObj L (.loop lp3)):=fun st lp3 q1 q2 q3 q4 q5 q6=>by
    have hle:YJ (Hh Λ σ2 w2) (Hh Λ (A6 σ2 L (.loop st env (Bb P ps a b))) (w2.putObj L (.loop lp3))):=by
     intro b' o c hb;obtain⟨h1,h2,h3⟩:=Fk hb
     have hbL:b'≠L:=fun e=>by
      subst e;rw[ZV hob2 rfl]at h3;cases h3
     rw[NB h1 (by rw[Jz (Ne.symm hbL)];exact h2),<-h3];exact World.cell?_of_block (w:=w2) (World.putObj_heap_other hbL)
    have Y:B2 Λ σ w (A6 σ2 L (.loop st env (Bb P ps a b))) (w2.putObj L (.loop lp3)):=by
     refine⟨fun n hn h0=>(World.putObj_heap_other (hne h0)).trans (hfr n hn h0).1,by simpa using hsz,?_,?_,?_,fun n h0 hn=>by rw[Jz (Ne.symm (hne h0))];exact(hfr n hn h0).2⟩
     .exact hA2.os.trans hA1.os
     .exact hA2.tape.trans hA1.tape
     .exact hA2.output.trans hA1.output
    refine⟨⟨fun n o ho=>?_,fun n hn=>by have:=hR2.lock n hn;simpa using this⟩,Y⟩;by_cases hn:n=L
    .subst hn
     have:A6 σ2 n (.loop st env (Bb P ps a b)) n=some (.loop st env (Bb P ps a b)):=by simp[A6]
     rw[this]at ho;cases ho;refine⟨hnl,_,World.putObj_heap_same (Dd hob2),lp3,rfl,q6,fun k v hm=>?_,?_⟩
     .obtain⟨c,h1,h2⟩:=htm k v hm
      exact⟨c,by rw[q1];exact h1,h2.mono Y.hle⟩
     .rw[q1,q2,q3,q4,q5]
      exact⟨hfn,hps,hplt,pu,fz,hra,hrb⟩
    .rw[Jz (Ne.symm hn)]at ho
     obtain⟨h1,o',h2,h3⟩:=hR2.own n o ho;exact⟨h1,o',(World.putObj_heap_other hn).trans h2,h3.mono hle⟩
   cases ex2 with
   | normal=>
     simp only[Dj]at hx2;subst hx2;obtain⟨q1,q2⟩:=fin .ready {lp with state:= .ready,pending:=none} rfl rfl rfl rfl rfl ⟨rfl,rfl⟩;exact⟨_,_,run_endRound none hob2,.ret (.b true),_,hq2,⟨_,rfl,rfl⟩,q1,q2⟩
   | ret=>
     simp only[Dj]at hx2;subst hx2;obtain⟨q1,q2⟩:=fin .ret {lp with state:= .done,pending:=some .ret} rfl rfl rfl rfl rfl ⟨rfl,rfl⟩;exact⟨_,_,run_endRound (some .ret) hob2,.ret (.b false),_,hq2,⟨_,rfl,rfl⟩,q1,q2⟩
   | exit id=>
     simp only[Dj]at hx2;subst hx2;obtain⟨q1,q2⟩:=fin (.exit id) {lp with state:= .done,pending:=some (.exit id)} rfl rfl rfl rfl rfl ⟨rfl,rfl⟩;exact⟨_,_,run_endRound (some (.exit id)) hob2,.ret (.b false),_,hq2,⟨_,rfl,rfl⟩,q1,q2⟩
   | BZ v=>
     obtain⟨c,rfl,hvr⟩:=hx2;refine⟨hd2,.BZ v,σ2,hq2,⟨c,rfl,hvr⟩,hR2,?_⟩;exact⟨fun n hn h0=>(hfr n hn h0).1,hsz,hA2.os.trans hA1.os,hA2.tape.trans hA1.tape,hA2.output.trans hA1.output,fun n h0 hn=>(hfr n hn h0).2⟩
end Go.Gl
namespace Go.Gl
variable {P:Program} {Λ:Nat->Prop} {σ:AH} {pu:List FuncId} {fz:List Nat} {N n:Nat} {r:Option Nat} {ds:List Deferred}
def MX {ops:Array Oper} {K:Env->AH->Prop} {kp:Env->V->AH->Prop} {QQ:Exit->Act->World->Prop} {σ₀:AH} {w₀:World} {L:List Nat}
    (U: ∀env σ a w,K env σ->CE (Hh Λ σ w) env a.tmps->Rel Λ σ w->B2 Λ σ₀ w₀ σ w->a.tmps.size=N->a.defers=ds->wpOpsIn (wide r) n P ops QQ L a w)
    (hkp: ∀env v σ c a w,kp env v σ->Ag (Hh Λ σ w) v c->CE (Hh Λ σ w) env a.tmps->Rel Λ σ w->B2 Λ σ₀ w₀ σ w->a.tmps.size=N->a.defers=ds->QQ (.panic [{v:=c,recovered:=false}]) a w) :
    ∀(as:List Aq) (j:Nat),(∀(i:Nat) (ao:Aq),as[i]? =some ao-> ∃o,ops[j+i]? =some o/\M3 P N ops o=some ao)->
    ∀(env:Env) (σ:AH) (a:Act) (w:World),IW P (as.map (Cv pu fz)) K kp env σ->CE (Hh Λ σ w) env a.tmps->Rel Λ σ w->B2 Λ σ₀ w₀ σ w->a.tmps.size=N->a.defers=ds->
    wpOpsIn (wide r) n P ops QQ (List.range' j as.length++L) a w
 | [],j,_,env,σ,a,w,h,he,G,Y,hN,hd=>by
   simp only[List.length_nil,List.range'_zero,List.nil_append];exact U env σ a w h he G Y hN hd
 | ao::as,j,hget,env,σ,a,w,h,he,G,Y,hN,hd=>by
   simp only[Lz,List.range'_succ,List.cons_append,wpOpsIn];obtain⟨o,hj,h2⟩:=hget 0 ao rfl;simp only[Nat.add_zero]at hj;simp only[hj]
   refine KK (K:=IW P (as.map (Cv pu fz)) K kp) (kp:=kp env) h2 he G hN (by
    simp only[E4,IW]at h;have:=Ka h
    rwa [KI]at this) (fun env' σ' c w' hk he' hR' hA'=>?_) (fun v σ' c w' hk hv hR' hA'=>?_)
   .exact MX U hkp as (j+1) (fun i x hx=>by
     obtain⟨o',h3,h4⟩:=hget (i+1) x (by simpa using hx)
     exact⟨o',by rw[<-h3];congr 1;omega,h4⟩) env' σ' _ w' hk he' hR' (Y.trans hA') (by rw[LM];exact hN) (by rw[put_defers];exact hd)
   .exact hkp env v σ' c a w' hk hv (he.mono hA'.hle) hR' (Y.trans hA') hN hd
def YS (o:Oper):Option Bg:=
 match o.op,o.guard,o.dst with
 | .defer c,none,none=>match c.callee,c.args.toList with
   | .value x,[]=>BL x
   | _,_=>none
 | _,_,_=>none
def Ky (P:Program) (N:Nat) (pu:List FuncId) (fz:List Nat):Code->Option (AX×List Aq×Bg×AX)
 | .seq a (.seq (.region _ ops false) c)=>match res P N pu fz a,ops.toList.getLast?.bind YS,Gh P N ops ops.toList.dropLast,res P N pu fz c with
   | some a',some x,some os,some c'=>some (a',os.map (Cv pu fz),x,c')
   | _,_,_,_=>none
 | _=>none
def Yn (P:Program) (N:Nat) (pu:List FuncId) (fz:List Nat):Code->Option (AX×List Aq×Bg×AX)
 | .seq a b=>match res P N pu fz a,Ky P N pu fz b with
   | some a',some (b',os,x,c')=>some (.seq [] a' b',os,x,c')
   | _,_=>none
 | _=>none
def J1 (P:Program) (N:Nat) (pu:List FuncId) (fz:List Nat) (c:Code):Option (AX×List Aq×Bg×AX):=
 match Ky P N pu fz c with
 | some r=>some r
 | none=>Yn P N pu fz c
def isRec (o:Oper):Option Nat:=
 match o.op,o.guard,o.dst with
 | .call c,none,some k=>match c.callee,c.args.toList with
   | .builtin .recover,[]=>some k
   | _,_=>none
 | _,_,_=>none
def resRec (P:Program) (N:Nat) (pu:List FuncId) (fz:List Nat):Code->Option (Nat×List Aq×AX)
 | .seq (.region _ ops false) c=>match ops.toList with
   | o::l=>match isRec o,Gh P N ops l,res P N pu fz c with
     | some k,some os,some c'=>if k<N then some (k,os.map (Cv pu fz),c')else none
     | _,_,_=>none
   | []=>none
 | _=>none
def Vy {c : Code} {k:Nat} {os:List Aq} {ac:AX} (h:resRec P N pu fz c=some (k,os,ac)): ∃id ops c2 o ol os',c= .seq (.region id ops false) c2/\ops.toList=o::ol/\isRec o=some k/\Gh P N ops ol=some os'/\os=os'.map (Cv pu fz)/\
    res P N pu fz c2=some ac/\k<N:=by
 unfold resRec at h;split at h
 .rename_i id ops c2
  split at h
  .rename_i o ol hops
   split at h
   .rename_i k os' c' h1 h2 h3
    split at h
    .rename_i hk
     simp only[II,Prod.mk.injEq]at h;obtain⟨rfl,rfl,rfl⟩:=h;exact⟨id,ops,c2,o,ol,os',rfl,hops,h1,h2,rfl,h3,hk⟩
    .cases h
   .cases h
  .cases h
 .cases h
def Ll {c:Code} {a c':AX} {os:List Aq} {x:Bg} (h:Ky P N pu fz c=some (a,os,x,c')): ∃ca id ops cc o os',c= .seq ca (.seq (.region id ops false) cc)/\ops.toList.getLast? =some o/\YS o=some x/\Gh P N ops ops.toList.dropLast=some os'/\os=os'.map (Cv pu fz)/\
    res P N pu fz ca=some a/\res P N pu fz cc=some c':=by
 unfold Ky at h;split at h
 .rename_i ca id ops cc
  split at h
  .rename_i a1 x1 os' c1 h1 h2 h3 h4
   simp only[II,Prod.mk.injEq]at h;obtain⟨rfl,rfl,rfl,rfl⟩:=h;obtain⟨o,h5,h6⟩:=Option.bind_eq_some_iff.1 h2;exact⟨ca,id,ops,cc,o,os',rfl,h5,h6,h3,rfl,h1,h4⟩
  .cases h
 .cases h
def Pre (P:Program) (N:Nat) (pu:List FuncId) (fz:List Nat) (c:Code) (a:AX) (X:Code):Prop:=
 (∃ca,c= .seq ca X/\res P N pu fz ca=some a)\/ ∃c1 c2 a1 a2,c= .seq c1 (.seq c2 X)/\res P N pu fz c1=some a1/\res P N pu fz c2=some a2/\a= .seq [] a1 a2
def Vz {c:Code} {a c':AX} {os:List Aq} {x:Bg} (h:J1 P N pu fz c=some (a,os,x,c')): ∃id ops cc o os',Pre P N pu fz c a (.seq (.region id ops false) cc)/\ops.toList.getLast? =some o/\YS o=some x/\Gh P N ops ops.toList.dropLast=some os'/\os=os'.map (Cv pu fz)/\
    res P N pu fz cc=some c':=by
 unfold J1 at h;split at h
 .rename_i r hr
  cases h;obtain⟨ca,id,ops,cc,o,os',rfl,h1,h2,h3,h4,h5,h6⟩:=Ll hr;exact⟨id,ops,cc,o,os',.inl ⟨ca,rfl,h5⟩,h1,h2,h3,h4,h6⟩
 .cases c<;>simp only[Yn,reduceCtorEq]at h
  rename_i c1 b _;cases h1:res P N pu fz c1 with
  | none=>rw[h1]at h;cases h
  | some a1=>
    cases h2:Ky P N pu fz b with
    | none=>rw[h1,h2]at h;cases h
    | some r=>
      obtain⟨b1,os1,x1,c2⟩:=r;rw[h1,h2]at h;cases h;obtain⟨ca,id,ops,cc,o,os',rfl,k1,k2,k3,k4,k5,k6⟩:=Ll h2;exact⟨id,ops,cc,o,os',.inr ⟨c1,ca,a1,b1,rfl,h1,k5,rfl⟩,k1,k2,k3,k4,k6⟩
def aw {r:Option Nat} {c X:Code} {ac:AX} (hp:Pre P N pu fz c (erase ac) X) {Q:Ah->Env->AH->Prop} {env:Env} {σ:AH} {a:Act} {w:World} (h:T P ac Q env σ) (he:CE (Hh Λ σ w) env a.tmps) (G:Rel Λ σ w) (hN:a.tmps.size=N) (hrd:Ct r σ w) {Q0:Exit->Act->World->Prop}
    (H: ∀e a1 w1,GR r Λ σ w N a.defers Q e a1 w1->Exit.then (NV r P X Q0) Q0 e a1 w1):NV r P c Q0 a w:=by
 rcases hp with⟨ca,rfl,h1⟩|⟨c1,c2,a1,a2,rfl,h1,h2,h3⟩
 .exact I2 (CI (Ei (r:=r) h1 h he G hN hrd) H)
 .cases ac<;>simp only[erase,reduceCtorEq,AX.seq.injEq]at h3
  rename_i l b1 b2;obtain⟨_,e1,e2⟩:=h3;subst e1;subst e2;simp only[T]at h;refine I2 (CI (Ei (r:=r) h1 h he G hN hrd) ?_);rintro e a' w' ⟨ex,env',σ',hq,hx,he',hR',Y,hN',hM'⟩;cases ex with
  | normal=>
    simp only[Dj]at hx;subst hx;simp only[Ah.andThen]at hq;rcases hq with hq|⟨env2,σ2,f1,f2,hq⟩
    .exact I2 (CI (Ei (r:=r) h2 hq (he'.prune l) hR' hN' (hrd.GJ Y)) fun e a w hp=>H e a w (hp.trans Y hM'))
    .have hA2:=Y.trans (B2.fz w' f1)
     exact I2 (CI (Ei (r:=r) h2 hq ((he'.prune l).fz hR' f1 f2) (hR'.fz f1) hN' (hrd.GJ hA2)) fun e a w hp=>H e a w (hp.trans hA2 (hM'.GJ (B2.fz (Λ:=Λ) w' f1))))
  | ret=>
    simp only[Dj]at hx;subst hx;exact H _ _ _ ⟨.ret,env',σ',hq,rfl,he',hR',Y,hN',hM'⟩
  | exit id=>
    simp only[Dj]at hx;subst hx;exact H _ _ _ ⟨.exit id,env',σ',hq,rfl,he',hR',Y,hN',hM'⟩
  | BZ v=>
    obtain⟨c,rfl,hv⟩:=hx;exact H _ _ _ ⟨.BZ v,env',σ',hq,⟨c,rfl,hv⟩,he',hR',Y,hN',hM'⟩
def eG {σ₀:AH} {w₀:World} {cs:List Frame}: ∀(ms:List Nat) (fr:Frame) (w:World),ms.Nodup->(∀D∈ms,w₀.heap.size<=D/\σ D=none/\w.heap[D]? =some (.deferred (some [])))->fr.mode≠ .run->fr.defers=ms.map D7->
    Rel Λ σ w->B2 Λ σ₀ w₀ σ w-> ∃w',StepsIn (Machine.fenced P (wide none)) P (lone fr cs w) (lone {fr with defers:=[]} cs w')/\Rel Λ σ w'/\B2 Λ σ₀ w₀ σ w'
 | [],fr,w,_,_,_,hd,G,Y=>by
   have:({fr with defers:=[]}:Frame)=fr:=by cases fr;simp_all
   exact⟨w,by rw[this];exact .refl _,G,Y⟩
 | D ::ms,fr,w,hnd,hms,hm,hd,G,Y=>by
   obtain⟨h1,h2,h3⟩:=hms D (.head _);have hnd':=List.nodup_cons.1 hnd;have hs:=step_collected (P:=P) (fr:=fr) (cs:=cs) (d:=D7 D) (ds:=ms.map D7) (r:=D) hm hd rfl (run_takeDeferred h3)
   obtain⟨w',q1,q2,q3⟩:=eG (σ₀:=σ₀) (w₀:=w₀) (cs:=cs) ms {fr with defers:=[]++ms.map D7} (w.putObj D (.deferred none)) hnd'.2 (fun E hE=>by
    obtain⟨h4,h5,h6⟩:=hms E (.tail _ hE)
    exact⟨h4,h5,(World.putObj_heap_other (fun e=>hnd'.1 (by rw[<-e];exact hE))).trans h6⟩) hm rfl (G.put h2 h3 rfl) (Y.Ys h1)
   exact⟨w',.head (fenced_lone (.inl trivial) (fun _ _=>trivial) Gg) hs q1,q2,q3⟩
def G5 (P:Program) (f:FuncId) (args:List V) (m:Option V) (σ:AH) (Q:AH->Prop):Prop:=
 okF P f=true/\ ∀(Λ:Nat->Prop) (w:World) (cs:Array Value) (u:FrameMode),Rel Λ σ w->cw (Hh Λ σ w) args cs->
  (match m with|none=>u= .returning|some v=> ∃c,Ag (Hh Λ σ w) v c/\u= .panicking [{v:=c,recovered:=false}])->
  CallsDIn (wide none) 0 P f cs u w fun e u' w'=>(∃v,e= .returned v)/\settle u'= .returning/\ ∃σ',Q σ'/\Rel Λ σ' w'/\B2 Λ σ w σ' w'
def Ni (Q:AH->Prop):Ah->Env->AH->Prop
 | .normal,_,σ| .ret,_,σ=>Q σ
 | _,_,_=>False
def JQ {f:FuncId} {fn:Func} {k:Nat} {os:List Aq} {l:List Nat} {ac:AX} (hf:P.funcs[f]? =some fn) (hok:okF P f=true) (hb:fn.body.bind (resRec P fn.ntmps pu fz)=some (k,os,erase ac)) (hr:fn.results= #[])
    {args:List V} (hn:args.length<=fn.ntmps) {m:Option V} {σ:AH} {Q:AH->Prop} (h:T P (.seq l (.Cs os) ac) (Ni Q) (put (some k) (m.getD .DW) (A3 0 args)) σ):G5 P f args m σ Q:=by
 refine⟨hok,fun Λ w cs u G hv hu=>?_⟩;obtain⟨c,hc,hb⟩:=Option.bind_eq_some_iff.1 hb;obtain⟨id,ops,c2,o,ol,os',rfl,hops,h1,h2,rfl,h3,hkN⟩:=Vy hb
 have ho0:ops[0]? =some o:=by
  rw[<-Array.getElem?_toList,hops];rfl
 have hsz:ops.size=1+ol.length:=by
  rw[<-Array.length_toList,hops];simp;omega
 obtain⟨hl1,hl2⟩:=F8 h2
 obtain⟨rv,u',hrv,hu',hst⟩: ∃(rv:Value) (u':FrameMode),Ag (Hh Λ σ w) (m.getD .DW) rv/\(∀(c₀:Frame) (fs:List Frame),c₀.mode=u->(recoverD (c₀::fs)=some (rv,{c₀ with mode:=u'}::fs)\/(recoverD (c₀::fs)=none/\rv= .nilIface/\u'=u)))/\settle u'= .returning:=by
  cases m with
  | none=>
    simp only at hu;subst hu;exact⟨.nilIface,.returning,rfl,fun c₀ fs hm=> .inr ⟨by simp[recoverD,hm],rfl,rfl⟩,rfl⟩
  | some v=>
    obtain⟨d,hd,rfl⟩:=hu;exact⟨d,.panicking [{v:=d,recovered:=true}],hd,fun c₀ fs hm=> .inl (by simp[recoverD,hm]),rfl⟩
 have he:CE (Hh Λ σ w) (A3 0 args) (cs++Array.replicate (fn.ntmps - cs.size) undef):=by
  intro k v hg;obtain⟨_,h2⟩:=F9 args 0 k v hg;simp only[Nat.sub_zero]at h2;obtain⟨d,h3,h4⟩:=BV.1 hv.2 k v h2;simp only[GM]at h3;refine⟨d,?_,h4⟩;rw[Array.getElem?_append_left (by have:=(oT.1 h3).1;exact this)];exact h3
 have hsz0:(cs++Array.replicate (fn.ntmps - cs.size) undef).size=fn.ntmps:=by
  simp only[Array.size_append,Array.size_replicate];have:=hv.1;omega
 obtain⟨cc,hop,hg,hd⟩: ∃cc,o.op= .call cc/\o.guard=none/\o.dst=some k/\cc.callee= .builtin .recover/\cc.args= #[]:=by
  unfold isRec at h1;split at h1
  .rename_i cc k2 e1 e2 e3
   split at h1
   .rename_i e4 e5
    cases h1;exact⟨cc,e1,e2,e3,e4,Array.toList_eq_nil_iff.1 e5⟩
   .cases h1
  .cases h1
 obtain⟨hd,hcal,hargs⟩:=hd
 have he1:CE (Hh Λ σ w) (put (some k) (m.getD .DW) (A3 0 args)) (({tmps:=cs++Array.replicate (fn.ntmps - cs.size) undef,defers:=[]}:Act).put (some k) rv).tmps:=
  he.put (a:={tmps:=cs++Array.replicate (fn.ntmps - cs.size) undef,defers:=[]}) hsz0 (d:=some k) (fun x hx=>by cases hx;exact hkN) hrv
 simp only[T]at h
 have hW:=MX (P:=P) (Λ:=Λ) (r:=none) (n:=0) (ds:=[]) (σ₀:=σ) (w₀:=w) (L:=[]) (pu:=pu) (fz:=fz) (ops:=ops) (QQ:=Exit.then (NV none P c2 (fun e a' w'=>GR none Λ σ w fn.ntmps [] (Ni Q) e a' w')) (fun e a' w'=>GR none Λ σ w fn.ntmps [] (Ni Q) e a' w'))
  (N:=fn.ntmps)
  (K:=fun env σ=>Ah.andThen (fun env σ=>Fz (Gl.prune l env) σ (T P ac (Ni Q))) (Ni Q) .normal env σ) (kp:=fun env v σ=>Ah.andThen (fun env σ=>Fz (Gl.prune l env) σ (T P ac (Ni Q))) (Ni Q) (.BZ v) env σ)
  (fun env σ1 a1 w1 hk he hR1 hA1 hN1 hd1=>by
   simp only[wpOpsIn,Exit.then];simp only[Ah.andThen]at hk;rcases hk with hk|⟨env2,σ2,f1,f2,hk⟩
   .refine CI (Ei (r:=none) h3 hk (he.prune l) hR1 hN1 Ct.none) fun e a' w' ht=>?_
    exact GR.trans hA1 (by rw[hd1];exact Marks.refl _ _ _ _ _) ht
   .refine CI (Ei (r:=none) h3 hk ((he.prune l).fz hR1 f1 f2) (hR1.fz f1) hN1 Ct.none) fun e a' w' ht=>?_
    exact GR.trans (hA1.trans (B2.fz w1 f1)) (by rw[hd1];exact Marks.refl _ _ _ _ _) ht)
  (fun env v σ1 c1 a1 w1 hk hv1 he1 hR1 hA1 hN1 hd1=>hk.elim)
  os' 1 (fun i ao hao=>by
   have hlt:i<ol.length:=by
    rw[hl1];exact(JX.1 hao).1
   obtain⟨x,hx,hy⟩:=hl2 i ol[i] (by simp[hlt]);rw[hao]at hx;cases hx;refine⟨ol[i],?_,hy⟩;rw[<-Array.getElem?_toList,hops,show 1+i=i+1 by omega]
   simp[hlt])
  _ σ _ w h he1 G (B2.refl _ _ _) (by rw[LM];exact hsz0) rfl
 simp only[Ep]at hW;refine⟨trivial,fun c₀ fs hu0 hroom=>?_⟩
 let b:Frame:={(default:Frame)with fn:=f,kind:= .deferred,roundOf:=none}
 have henter:Frame.enter P f cs .deferred =
  b.atR {tmps:=cs++Array.replicate (fn.ntmps - cs.size) undef,defers:=[]} [.code (.seq (.region id ops false) c2)]:=by
  simp[Frame.enter,Frame.atR,hf,hc,b]
 let a0:Act:={tmps:=cs++Array.replicate (fn.ntmps - cs.size) undef,defers:=[]}
 have s1:StepsIn (Machine.fenced P (wide none)) P (lone (b.atR a0 [.code (.seq (.region id ops false) c2)]) (c₀::fs) w) (lone (b.atR a0 [.code (.region id ops false),.code c2]) (c₀::fs) w):= .one (Fe rfl) stepR_seq;have s2:StepsIn (Machine.fenced P (wide none)) P (lone (b.atR a0 [.code (.region id ops false),.code c2]) (c₀::fs) w) (lone (b.atR a0 [.inRegion ops (List.range ops.size),.code c2]) (c₀::fs) w):= .one (Fe rfl) stepR_region
 have hrange:List.range ops.size=0::List.range' 1 os'.length:=by
  rw[List.range_eq_range',hsz,hl1,show 1+os'.length=os'.length+1 by omega,List.range'_succ]
 have hwant:Region.wanted o (yielded ops a0.tmps)=true:=by simp[Region.wanted,hg]
 have hrun:(execOp a0.eval o).run P w= .ok .recover w:=by
  unfold execOp;simp only[hop];simp only[resolve,hcal,hargs,invoke,builtin,C6,EY,GH]
 have s3:StepsIn (Machine.fenced P (wide none)) P (lone (b.atR a0 [.inRegion ops (0::List.range' 1 os'.length),.code c2]) (c₀::fs) w) (lone (b.atR (a0.put (some k) rv) [.inRegion ops (List.range' 1 os'.length),.code c2]) ({c₀ with mode:=u'}::fs) w):=by
  refine .one (fenced_lone (.inl trivial) (fun _ _=>trivial) Gg) (step_lone_go ?_);have hgop:=stepGR_op (P:=P) (b:=b) (a:=a0) (k:=[.code c2]) (cs:=c₀::fs) (w:=w) (rest:=List.range' 1 os'.length) ho0 hwant;rw[show b.roundOf=none from rfl,Oper.semAt_none]at hgop;rw[hgop]
  have hfin: ∀v,(b.atR a0 (.inRegion ops (0::List.range' 1 os'.length):: [.code c2])).finish v=b.atR (a0.put (some k) v) (.inRegion ops (List.range' 1 os'.length):: [.code c2]):=by
   intro v;rw[Frame.finish_atR,ho0];simp only[Option.bind_some,hd]
  have htr:=tryRecover_deferred (fr:=b.atR a0 (.inRegion ops (0::List.range' 1 os'.length):: [.code c2])) rfl (c₀::fs);have hrn:(b.atR a0 (.inRegion ops (0::List.range' 1 os'.length):: [.code c2])).roundOf=none:=rfl;rw[<-hfin];rcases hu' c₀ fs hu0 with hrec|⟨hrec,rfl,rfl⟩
  .rw[hrec]at htr
   simp[stepG.apply,hrun,htr,hrn]
  .rw[hrec]at htr
   have hcm:({c₀ with mode:=u'}:Frame)=c₀:=by cases c₀;simp_all
   rw[hcm];simp[stepG.apply,hrun,htr,hrn]
 have hres0: ∀(tm:Array Value) (w:World),(results fn tm).run P w= .ok (.tuple #[]) w:=fun tm w=>by
  rw[KG,hr];simp
 have out: ∀(m0:Machine) (a2:Act) (w2:World) (todo:List Item) (σ2:AH),StepsIn (Machine.fenced P (wide none)) P m0 (lone {b.atR a2 todo with mode:= .returning} ({c₀ with mode:=u'}::fs) w2)->Q σ2->Rel Λ σ2 w2->B2 Λ σ w σ2 w2->
  Marks none w σ2 w2 [] a2.defers-> ∃e u'' w' fr,((∃v,e=Ending.returned v)/\settle u''= .returning/\ ∃σ',Q σ'/\Rel Λ σ' w'/\B2 Λ σ w σ' w')/\
   ComesIn (Machine.fenced P (wide none)) P m0 (lone fr ({c₀ with mode:=u''}::fs) w') e/\fr.kind= .deferred/\fr.fn=f/\fr.going P w' e:=fun m0 a2 w2 todo σ2 hs hq hR2 hA2 ⟨ms,hms,hnd,hD,_⟩=>by
  obtain⟨w',q1,q2,q3⟩:=eG (P:=P) (cs:={c₀ with mode:=u'}::fs) ms {b.atR a2 todo with mode:= .returning} w2 hnd hD (by simp) (by simpa[Frame.atR]using hms) hR2 hA2;exact⟨.returned (.tuple #[]),u',w',_,⟨⟨_,rfl⟩,hst,σ2,hq,q2,q3⟩,hs.trans q1,rfl,rfl,rfl,rfl,fn,hf,hres0 _ _⟩
 have fin: ∀(m0:Machine) (e:Exit) (a2:Act) (w2:World),GR none Λ σ w fn.ntmps [] (Ni Q) e a2 w2->ArrivesIn (Machine.fenced P (wide none)) P m0 b [] ({c₀ with mode:=u'}::fs) e a2 w2->
  ∃ e u'' w' fr,((∃v,e=Ending.returned v)/\settle u''= .returning/\ ∃σ',Q σ'/\Rel Λ σ' w'/\B2 Λ σ w σ' w')/\
    ComesIn (Machine.fenced P (wide none)) P m0 (lone fr ({c₀ with mode:=u''}::fs) w') e/\fr.kind= .deferred/\fr.fn=f/\fr.going P w' e:=fun m0 e a2 w2 ⟨ex,env,σ2,hq,hx,he2,hR2,hA2,hN2,hM2⟩ harr=>by
  cases ex with
  | exit id=>exact hq.elim
  | BZ v=>exact hq.elim
  | normal=>
    simp only[Dj]at hx;subst hx;exact out m0 a2 w2 [] σ2 (StepsIn.trans harr (.one (Fe rfl) (stepR_end rfl))) hq hR2 hA2 hM2
  | ret=>
    simp only[Dj]at hx;subst hx;obtain⟨todo,hs⟩:=harr.1 rfl;exact out m0 a2 w2 todo σ2 hs hq hR2 hA2 hM2
 obtain⟨e,a1,w1,hq,harr⟩:=wp_opsIn _ _ _ hW b [.code c2] ({c₀ with mode:=u'}::fs) rfl trivial Gg;rw[henter];have s123:=(s1.trans s2).trans (hrange ▸ s3);have fin': ∀ {m1:Machine},StepsIn (Machine.fenced P (wide none)) P m1 m1:=fun {m1}=> .refl m1
 cases e with
 | normal=>
   obtain⟨e2,a2,w2,hq2,harr2⟩:=hq b [] ({c₀ with mode:=u'}::fs) rfl ⟨fn,hf⟩;exact fin _ e2 a2 w2 hq2 (.of_steps (s123.trans harr) harr2)
 | ret=>
   obtain⟨ex,env,σ2,hq,hx,he2,hR2,hA2,hN2,hM2⟩:=hq;obtain⟨todo,hs⟩:=harr.1 rfl;refine out _ a1 w1 todo σ2 (s123.trans hs) ?_ hR2 hA2 hM2;cases ex<;>first|exact hq|exact hq.elim
 | exit id=>
   obtain⟨ex,env,σ2,hq,hx,_⟩:=hq;cases ex<;>first|exact hq.elim|(simp[Dj]at hx)
 | panic ch=>
   obtain⟨ex,env,σ2,hq,hx,_⟩:=hq;cases ex<;>first|exact hq.elim|(simp[Dj]at hx)
 | goto l=>
   obtain⟨ex,env,σ2,hq,hx,_⟩:=hq;cases ex<;>first|exact hq.elim|(simp[Dj]at hx)
 | outgrown=>
   obtain⟨ex,env,σ2,hq,hx,_⟩:=hq;cases ex<;>first|exact hq.elim|(simp[Dj]at hx)
end Go.Gl
namespace Go.Gl
variable {P:Program} {Λ:Nat->Prop} {σ:AH} {pu:List FuncId} {fz:List Nat} {N n:Nat} {r:Option Nat} {ds:List Deferred}
def pT (P:Program) (g:FuncId) (cap:List V) (AI:List RS) (Q:R->AH->Prop):Ah->Env->AH->Prop
 | .normal,env,σ| .ret,env,σ=>G5 P g cap none σ fun σ'=>Tj σ' env AI fun vs=>Am σ' (ET vs) Q
 | .BZ v,env,σ=>G5 P g cap (some v) σ fun σ'=>Tj σ' env AI fun vs=>Am σ' (ET vs) Q
 | .exit _,_,_=>False
def OI (P:Program) (x:Bg) (l:List Nat) (ac:AX) (AI:List RS) (Q:R->AH->Prop) (env:Env) (σ:AH):Prop:=
 wv (ev env x) fun vf=>match vf with
  | .f (.func g) [] cap=>T P ac (pT P g cap AI Q) (prune l env) σ
  | _=>False
def Hw {f : FuncId} {fn:Func} {aA aC:AX} {os:List Aq} {x:Bg} {l1 l2:List Nat} {AI:List RS} (hf:P.funcs[f]? =some fn) (hok:okF P f=true)
    (hb:fn.body.bind (J1 P fn.ntmps pu fz)=some (erase aA,os,x,erase aC)) (hr:L4 P fn.results.toList=some AI)
    {args:List V} (hn:args.length<=fn.ntmps) {σ:AH} {Q:R->AH->Prop} (h:T P (.seq l1 aA (.Cs os)) (CK (OI P x l2 aC AI Q)) (A3 0 args) σ):As P f args σ Q:=by
 refine⟨hok,fun Λ w cs G hv=>?_⟩;obtain⟨c,hc,hb⟩:=Option.bind_eq_some_iff.1 hb;obtain⟨id,ops,cc,o,os',hra,hlast,hdf,hos,rfl,hrc⟩:=Vz hb;refine callsIn_wide (n:=0) |>.1 (GG hf hc ?_)
 have he:CE (Hh Λ σ w) (A3 0 args) (cs++Array.replicate (fn.ntmps - cs.size) undef):=by
  intro k v hg;obtain⟨_,h2⟩:=F9 args 0 k v hg;simp only[Nat.sub_zero]at h2;obtain⟨d,h3,h4⟩:=BV.1 hv.2 k v h2;simp only[GM]at h3;refine⟨d,?_,h4⟩;rw[Array.getElem?_append_left (by have:=(oT.1 h3).1;exact this)];exact h3
 have hsz:(cs++Array.replicate (fn.ntmps - cs.size) undef).size=fn.ntmps:=by
  simp only[Array.size_append,Array.size_replicate];have:=hv.1;omega
 obtain⟨cl,xo,hop,hg,hd,hcal,hargs,hxo⟩: ∃cl xo,o.op= .defer cl/\o.guard=none/\o.dst=none/\cl.callee= .value xo/\cl.args= #[]/\BL xo=some x:=by
  unfold YS at hdf;split at hdf
  .rename_i cl e1 e2 e3
   split at hdf
   .rename_i xo e4 e5
    exact⟨cl,xo,e1,e2,e3,e4,Array.toList_eq_nil_iff.1 e5,hdf⟩
   .cases hdf
  .cases hdf
 obtain⟨hl1,hl2⟩:=F8 hos;have hne:ops.toList≠[]:=fun e=>by rw[e]at hlast;cases hlast
 have hsplit:ops.toList=ops.toList.dropLast++[o]:=by
  have h1:=List.dropLast_concat_getLast hne;rw[List.getLast?_eq_some_getLast hne]at hlast;simp only[II]at hlast;rw[hlast]at h1;exact h1.symm
 have hsize:ops.size=os'.length+1:=by
  rw[<-Array.length_toList,hsplit];simp[<-hl1]
 have hlasto:ops[os'.length]? =some o:=by
  rw[<-Array.getElem?_toList,hsplit,<-hl1];simp
 simp only[T]at h;refine aw (r:=none) (a:={tmps:=cs++Array.replicate (fn.ntmps - cs.size) undef,defers:=[]}) hra h he G hsz Ct.none ?_;rintro e a1 w1 ⟨ex,env1,σ1,hq,hx,he1,hR1,hA1,hN1,hM1⟩;cases ex with
 | exit id=>exact hq.elim
 | ret=>exact hq.elim
 | BZ v=>exact hq.elim
 | normal=>
   simp only[Dj]at hx;subst hx;simp only[Ah.andThen]at hq
   obtain⟨env1,σ1,he1,hR1,hA1,hM1,hq⟩: ∃env2 σ2,CE (Hh Λ σ2 w1) env2 a1.tmps/\Rel Λ σ2 w1/\B2 Λ σ w σ2 w1/\Marks none w σ2 w1 [] a1.defers/\IW P (os'.map (Cv pu fz)) (fun env σ=>CK (OI P x l2 aC AI Q) .normal env σ) (fun env v σ=>CK (OI P x l2 aC AI Q) (.BZ v) env σ) env2 σ2:=by
    rcases hq with hq|⟨env2,σ2,f1,f2,hq⟩
    .exact⟨_,_,he1.prune l1,hR1,hA1,hM1,hq⟩
    .exact⟨env2,σ2,(he1.prune l1).fz hR1 f1 f2,hR1.fz f1,hA1.trans (B2.fz w1 f1),hM1.GJ (B2.fz (Λ:=Λ) w1 f1),hq⟩
   refine I2 (Hj (n:=0) (wpIn_region ?_));rw[List.range_eq_range',hsize,<-List.range'_append_1];simp only[List.range'_one,GM]
   refine MX (P:=P) (Λ:=Λ) (r:=none) (n:=0) (ds:=a1.defers) (σ₀:=σ1) (w₀:=w1) (pu:=pu) (fz:=fz) (N:=fn.ntmps) (K:=fun env σ=>CK (OI P x l2 aC AI Q) .normal env σ)
    (kp :=fun env v σ=>CK (OI P x l2 aC AI Q) (.BZ v) env σ) (fun env2 σ2 a2 w2 hk he2 hR2 hA2 hN2 hd2=>?_) (fun _ _ _ _ _ _ h=>h.elim) os' 0 (fun i ao hao=>by
     have hlt:i<ops.toList.dropLast.length:=by
      rw[hl1];exact(JX.1 hao).1
     obtain⟨y,hx,hy⟩:=hl2 i _ (ES hlt);rw[hao]at hx;cases hx;refine⟨_,?_,hy⟩;rw[<-Array.getElem?_toList,GM];have e1:ops.toList[i]? =(ops.toList.dropLast++[o])[i]? :=congrArg (fun l=>l[i]?) hsplit
     rw[e1,jO hlt,ES hlt]) _ σ1 a1 w1 hq he1 hR1 (B2.refl _ _ _) hN1 rfl
   obtain⟨vf,hvf,hk⟩:=UK hk
   obtain⟨g,cap,rfl,hk⟩: ∃g cap,vf= .f (.func g) [] cap/\T P aC (pT P g cap AI Q) (prune l2 env2) σ2:=by
    split at hk
    .exact⟨_,_,rfl,hk⟩
    .exact hk.elim
   obtain⟨f',c',e1,e2,e3,e4,e5⟩:=Ap he2 hxo hvf;have e2':f'= #[]:=Array.size_eq_zero_iff.1 e2;subst e2';have hwant:Region.wanted o (yielded ops a2.tmps)=true:=by simp[Region.wanted,hg]
   simp only[wpOpsIn,hlasto];rw[if_pos hwant];refine⟨fun _ _=>trivial,?_⟩
   have hrun:(o.semAt (wide none).round a2.eval).run P w2= .ok (.defer {target:= .fn (.func g) c',args:= #[]}) w2:=by
    show(execOp a2.eval o).run P w2=_;unfold execOp;simp only[hop,resolve,hcal,hargs,e1,Deferred.ofValue,C6,EY,GH];simp
   rw[hrun];simp only[Oper.uponIn,hd,Act.put,Exit.then];obtain⟨m1,hm1,hnd1,hD1,_⟩:=hM1;simp only[Ep]at hm1;refine CI (Ei (r:=none) hrc hk (he2.prune l2) hR2 hN2 Ct.none) ?_;rintro e a3 w3 ⟨ex,env3,σ3,hq3,hx3,he3,hR3,hA3,hN3,m3,hm3,hnd3,hD3,_⟩;simp only[hd2,hm1]at hm3
   have last: ∀(w5:World) (σ5:AH),B2 Λ σ2 w2 σ5 w5->YJ (Hh Λ σ3 w3) (Hh Λ σ5 w5)->Rel Λ σ5 w5->(Tj σ5 env3 AI fun vs=>Am σ5 (ET vs) Q)->
    LeavesInM (wide none) 0 P fn a3.tmps (fun e w'=> ∃r σ',Q r σ'/\UJ (Hh Λ σ' w') r e/\Rel Λ σ' w'/\B2 Λ σ w σ' w') (m1.map D7) .returning w5:=fun w5 σ5 hA5 hle hR5 hw=>by
    rw[<-Ep (m1.map D7)];have hA25:=hA2.trans hA5;refine C5 (σ₀:=σ) (w₀:=w) (by simp) m1 w5 hnd1 (fun D hD=>?_) hR5 (hA1.trans hA25) fun w6 q1 q2 q3=>?_
    .obtain⟨h4,h5,h6⟩:=hD1 D hD
     exact⟨h4,hA25.names D h5 (Dd h6),(hA25.frame D (Dd h6) h5).trans h6⟩
    .obtain⟨c,vs,h5,h6,vf,σ'',h2,h3,h4⟩:=Lk (P:=P) hr q1 ((he3.mono hle).mono q3) hw
     exact⟨c,h5,.ret vf,σ'',h4,⟨c,rfl,h3.rel q1 h2 h6⟩,q1.drop h2,q2.trans (B2.drop w6 h2)⟩
   have main: ∀(m:Option V) (u:FrameMode),u≠ .run->(G5 P g cap m σ3 fun σ'=>Tj σ' env3 AI fun vs=>Am σ' (ET vs) Q)->
    (∀w4,YJ (Hh Λ σ3 w3) (Hh Λ σ3 w4)->(match m with|none=>u= .returning|some v=> ∃c,Ag (Hh Λ σ3 w4) v c/\u= .panicking [{v:=c,recovered:=false}]))->
    LeavesInM (wide none) 0 P fn a3.tmps (fun e w'=> ∃r σ',Q r σ'/\UJ (Hh Λ σ' w') r e/\Rel Λ σ' w'/\B2 Λ σ w σ' w') a3.defers u w3:=fun m u hu hD hm=>by
    rw[hm3];refine C5 (σ₀:=σ2) (w₀:=w2) hu m3 w3 hnd3 hD3 hR3 hA3 fun w4 q1 q2 q3=>?_
    refine⟨hu,.inr ⟨fun hd=>by simp[wide,Fence.wide]at hd,.func g,c',g,c',rfl,?_,fun _ _=>trivial,?_⟩⟩
    .simp only[invoke,Array.empty_append]
     exact Hz hD.1 _ _
    .obtain⟨k1,k2⟩:=hD.2 Λ w4 c' u q1 ⟨e4,BO.mono q3 (fun _ _ e=>e) _ _ (BO.mono hA3.hle (fun _ _ e=>e) _ _ e5)⟩ (hm w4 q3)
     refine⟨k1,fun c cs hcu hroom=>?_⟩;obtain⟨e,u',w5,fr,⟨⟨v,rfl⟩,hst,σ5,hw,hR5,hA5⟩,hrest⟩:=k2 c cs hcu hroom;refine⟨.returned v,u',w5,fr,?_,hrest⟩;simp only;rw[hst];exact last w5 σ5 (q2.trans hA5) (fun b o c hc=>hA5.hle b o c (q3 b o c hc)) hR5 hw
   cases ex with
   | exit id=>exact hq3.elim
   | normal=>
     simp only[Dj]at hx3;subst hx3;exact main none .returning (by simp) hq3 fun _ _=>rfl
   | ret=>
     simp only[Dj]at hx3;subst hx3;exact main none .returning (by simp) hq3 fun _ _=>rfl
   | BZ v=>
     obtain⟨c,rfl,hv3⟩:=hx3;exact main (some v) (.panicking [{v:=c,recovered:=false}]) (by simp) hq3 fun w4 hle=>⟨c,hv3.mono hle,rfl⟩
end Go.Gl
namespace Go.Gl
variable {P:Program} {σ:AH} {env env':Env}
abbrev pk:List Nat->Env->(Env->Prop)->Prop
 | [],_,k=>k []
 | s::r,env,k=>match get s env with
   | some v=>pk r env fun e=>k ((s,v)::e)
   | none=>pk r env k
def Fy: ∀ {l:List Nat} {env:Env} {k:Env->Prop},pk l env k=k (prune l env)
 | [],_,_=>rfl
 | s::r,env,k=>by
   simp only[pk,prune];cases get s env with
   | none=>exact Fy (l:=r)
   | some v=>exact Fy (l:=r)
abbrev WM:=(Ah->Env->AH->Prop)->Env->AH->Prop
def WT (P:Program) (ops:List Aq) (K:Env->AH->Prop) (kp:Env->V->AH->Prop):Env->AH->Prop:=
 List.rec (motive:=fun _=>Env->AH->Prop) K (fun o _ ih env σ=>Hg P o env σ (fun v σ'=>ih (put o.dst v env) σ') (kp env)) ops
def oM {P:Program} {K:Env->AH->Prop} {kp:Env->V->AH->Prop}: ∀(ops:List Aq) (env:Env) (σ:AH),WT P ops K kp env σ=IW P ops K kp env σ
 | [],_,_=>rfl
 | o::r,env,σ=>by
   have:(fun(v:V) (σ':AH)=>WT P r K kp (put o.dst v env) σ')=fun v σ'=>IW P r K kp (put o.dst v env) σ':=funext fun v=>funext fun σ'=>oM r _ _
   show Hg P o env σ (fun v σ'=>WT P r K kp (put o.dst v env) σ') (kp env)=_;rw[this];rfl
def WD (P:Program) (ops:List CZ) (K:Env->AH->Prop) (kp:V->AH->Prop):Env->AH->Prop:=
 List.rec (motive:=fun _=>Env->AH->Prop) K (fun d _ ih env σ=>Hg P d.o env σ (fun v σ'=>ED P d.re (put d.o.dst v env) σ'/\ih (put d.o.dst v env) σ') kp) ops
def oN {P:Program} {K:Env->AH->Prop} {kp:V->AH->Prop}: ∀(ops:List CZ) (env:Env) (σ:AH),WD P ops K kp env σ=DC P ops K kp env σ
 | [],_,_=>rfl
 | d::r,env,σ=>by
   have:(fun(v:V) (σ':AH)=>ED P d.re (put d.o.dst v env) σ'/\WD P r K kp (put d.o.dst v env) σ')=fun v σ'=>ED P d.re (put d.o.dst v env) σ'/\DC P r K kp (put d.o.dst v env) σ':=funext fun v=>funext fun σ'=>by rw[oN r]
   show Hg P d.o env σ (fun v σ'=>ED P d.re (put d.o.dst v env) σ'/\WD P r K kp (put d.o.dst v env) σ') kp=_;rw[this];rfl
def xK (l:List Nat) (iha ihb:WM):WM:=fun Q env σ=>iha (Ah.andThen (fun env σ=>pk l env fun E=>Fz E σ (ihb Q)) Q) env σ
def vG (c:Bg) (iha ihb:WM):WM:=fun Q env σ=>match ev env c with
    | some (.b t)=>(t=true->iha Q env σ)/\(t=false->ihb Q env σ)
    | _=>False
def Ad (l:List Nat) (_:AX) (iha:WM) (Q:Ah->Env->AH->Prop) (E:Env) (σ:AH):Prop:= ∃AG:Nat->Env->AH->Prop,(∃n,AG n E σ)/\
 ∀n env σ,AG n env σ->iha (Ah.andThen (fun env σ=>pk l env fun E'=> ∃m,m<n/\AG m E' σ) Q) env σ
def vF (l:List Nat) (a:AX) (iha:WM):WM:=fun Q env σ=>pk l env fun E=>Ad l a iha Q E σ
def pU (P:Program) (l:List Nat) (g:Bg) (ps:List Nat) (a b:AX):WM:=fun Q env σ=>match ev env g with
    | some (.f (.func gf) [] cap)=>pk l env fun E=> ∀L,σ L=none->As P gf (.f (.yield L) [] []::cap) (A6 σ L (.loop .ready E (Bb P ps a b))) (Ij L Q env)
    | _=>False
def W (P:Program) (c:AX):WM:=
 AX.rec (motive:=fun _=>WM)
  (fun Q env σ=>Q .normal env σ)
  (fun ops Q env σ=>WT P ops (fun env σ=>Q .normal env σ) (fun env v σ=>Q (.BZ v) env σ) env σ)
  (fun l ops Q env σ=>WD P ops (fun env σ=>pk l env fun E=>Q .normal E σ) (fun v σ=> ∀σ',Sub σ σ'->Q (.BZ v) [] σ') env σ)
  (fun l _ _ iha ihb=>xK l iha ihb)
  (fun c _ _ iha ihb=>vG c iha ihb)
  (fun id _ ih Q env σ=>ih (Ah.inBlock id Q) env σ)
  (fun l a ih=>vF l a ih)
  (fun id Q env σ=>Q (.exit id) env σ)
  (fun Q env σ=>Q .ret env σ)
  (fun _ ih=>ih)
  (fun l g ps a b _ _=>pU P l g ps a b) c
def gA {c:Bg} {a b:AX} {Q:Ah->Env->AH->Prop}:W P (.cond c a b) Q env σ=match ev env c with
    | some (.b t)=>(t=true->W P a Q env σ)/\(t=false->W P b Q env σ)
    | _=>False:=rfl
def fw {l:List Nat} {a:AX} {Q:Ah->Env->AH->Prop}:W P (.loop l a) Q env σ=pk l env fun E=> ∃AG:Nat->Env->AH->Prop,(∃n,AG n E σ)/\
 ∀n env σ,AG n env σ->W P a (Ah.andThen (fun env σ=>pk l env fun E'=> ∃m,m<n/\AG m E' σ) Q) env σ:=rfl
def oL {ops:List Aq} {Q:Ah->Env->AH->Prop}:W P (.Cs ops) Q env σ=IW P ops (fun env σ=>Q .normal env σ) (fun env v σ=>Q (.BZ v) env σ) env σ:=oM ops env σ
def fy {l:List Nat} {ops:List CZ} {Q:Ah->Env->AH->Prop}:W P (.G2 l ops) Q env σ=DC P ops (fun env σ=>pk l env fun E=>Q .normal E σ) (fun v σ=> ∀σ',Sub σ σ'->Q (.BZ v) [] σ') env σ:=oN ops env σ
def Vo {l:List Nat} {g:Bg} {ps:List Nat} {a b:AX} {Q:Ah->Env->AH->Prop}:W P (.Da l g ps a b) Q env σ=match ev env g with
    | some (.f (.func gf) [] cap)=>pk l env fun E=> ∀L,σ L=none->As P gf (.f (.yield L) [] []::cap) (A6 σ L (.loop .ready E (Bb P ps a b))) (Ij L Q env)
    | _=>False:=rfl
def XR: ∀ {c:AX} {Q Q':Ah->Env->AH->Prop} {env:Env} {σ:AH},W P c Q env σ->(∀ex env σ,Q ex env σ->Q' ex env σ)->T P c Q' env σ:=by
 intro c
 induction c with
 | skip=>intro Q Q' env σ h hm;exact hm _ _ _ h
 | ret=>intro Q Q' env σ h hm;exact hm _ _ _ h
 | exit id=>intro Q Q' env σ h hm;exact hm _ _ _ h
 | Cs ops=>intro Q Q' env σ h hm;rw[oL]at h;exact Mu (fun _ _ h=>hm _ _ _ h) (fun _ _ _ h=>hm _ _ _ h) h
 | G2 l ops=>intro Q Q' env σ h hm;rw[fy]at h;exact KZ (fun _ _ h=>hm _ _ _ (by rw[Fy]at h;exact h)) (fun _ _ h σ' hs=>hm _ _ _ (h σ' hs)) h
 | seq l a b iha ihb=>
   intro Q Q' env σ h hm;refine iha h fun ex env σ hq=>?_
   cases ex with
   | normal=>simp only[Ah.andThen]at *;rw[Fy]at hq;exact Fz.mono hq fun _ _ h=>ihb h hm
   | exit id=>exact hm _ _ _ hq
   | ret=>exact hm _ _ _ hq
   | BZ v=>exact hm _ _ _ hq
 | cond c a b iha ihb=>
   intro Q Q' env σ h hm;simp only[T,gA]at *;split at h
   .rename_i he
    rw[he];exact⟨fun e=>iha (h.1 e) hm,fun e=>ihb (h.2 e) hm⟩
   .exact h.elim
 | block id a ih=>
   intro Q Q' env σ h hm;refine ih h fun ex env σ hq=>?_
   cases ex with
   | normal=>exact hm _ _ _ hq
   | exit id'=>
     simp only[Ah.inBlock]at *;cases hb:Nat.beq id' id<;>rw[hb]at hq<;>exact hm _ _ _ hq
   | ret=>exact hm _ _ _ hq
   | BZ v=>exact hm _ _ _ hq
 | scope a ih=>intro Q Q' env σ h hm;exact ih h hm
 | loop l a ih=>
   intro Q Q' env σ h hm;rw[fw,Fy]at h;obtain⟨AG,h0,hr⟩:=h;refine⟨AG,h0,fun n env σ hI=>ih (hr n env σ hI) fun ex env σ hq=>?_⟩;cases ex with
   | normal=>simp only[Ah.andThen]at *;rw[Fy]at hq;exact hq
   | exit id=>exact hm _ _ _ hq
   | ret=>exact hm _ _ _ hq
   | BZ v=>exact hm _ _ _ hq
 | Da l g ps a b _ _=>
   intro Q Q' env σ h hm;simp only[T,Vo]at *;split at h
   .rename_i he
    rw[Fy]at h;rw[he];refine fun L hL=>(h L hL).mono fun r σ' hq=>?_
    cases r with
    | ret v=>
      obtain⟨st,env1,ok,h1,h2⟩:=hq;refine⟨st,env1,ok,h1,?_⟩;cases st<;>exact hm _ _ _ h2
    | BZ v=>exact hm _ _ _ hq
   .exact h.elim
def jc {c:AX} {Q:Ah->Env->AH->Prop} (h:W P c Q env σ):T P c Q env σ:=XR h fun _ _ _ h=>h
def fv: ∀ {c:AX} {Q Q':Ah->Env->AH->Prop} {env:Env} {σ:AH},W P c Q env σ->(∀ex env σ,Q ex env σ->Q' ex env σ)->W P c Q' env σ:=by
 intro c
 induction c with
 | skip=>intro Q Q' env σ h hm;exact hm _ _ _ h
 | ret=>intro Q Q' env σ h hm;exact hm _ _ _ h
 | exit id=>intro Q Q' env σ h hm;exact hm _ _ _ h
 | Cs ops=>intro Q Q' env σ h hm;rw[oL]at *;exact Mu (fun _ _ h=>hm _ _ _ h) (fun _ _ _ h=>hm _ _ _ h) h
 | G2 l ops=>intro Q Q' env σ h hm;rw[fy]at *;exact KZ (fun _ _ h=>by rw[Fy]at *;exact hm _ _ _ h) (fun _ _ h σ' hs=>hm _ _ _ (h σ' hs)) h
 | seq l a b iha ihb=>
   intro Q Q' env σ h hm;refine iha h fun ex env σ hq=>?_
   cases ex with
   | normal=>simp only[Ah.andThen]at *;rw[Fy]at *;exact Fz.mono hq fun _ _ h=>ihb h hm
   | exit id=>exact hm _ _ _ hq
   | ret=>exact hm _ _ _ hq
   | BZ v=>exact hm _ _ _ hq
 | cond c a b iha ihb=>
   intro Q Q' env σ h hm;simp only[gA]at *;split at h
   .exact⟨fun e=>iha (h.1 e) hm,fun e=>ihb (h.2 e) hm⟩
   .exact h.elim
 | block id a ih=>
   intro Q Q' env σ h hm;refine ih h fun ex env σ hq=>?_
   cases ex with
   | normal=>exact hm _ _ _ hq
   | exit id'=>
     simp only[Ah.inBlock]at *;cases hb:Nat.beq id' id<;>rw[hb]at hq<;>exact hm _ _ _ hq
   | ret=>exact hm _ _ _ hq
   | BZ v=>exact hm _ _ _ hq
 | scope a ih=>intro Q Q' env σ h hm;exact ih h hm
 | loop l a ih=>
   intro Q Q' env σ h hm;simp only[fw]at *;rw[Fy]at *;obtain⟨AG,h0,hr⟩:=h;refine⟨AG,h0,fun n env σ hI=>ih (hr n env σ hI) fun ex env σ hq=>?_⟩;cases ex with
   | normal=>exact hq
   | exit id=>exact hm _ _ _ hq
   | ret=>exact hm _ _ _ hq
   | BZ v=>exact hm _ _ _ hq
 | Da l g ps a b _ _=>
   intro Q Q' env σ h hm;simp only[Vo]at *;split at h
   .rw[Fy]at *
    refine fun L hL=>(h L hL).mono fun r σ' hq=>?_
    cases r with
    | ret v=>
      obtain⟨st,env1,ok,h1,h2⟩:=hq;refine⟨st,env1,ok,h1,?_⟩;cases st<;>exact hm _ _ _ h2
    | BZ v=>exact hm _ _ _ hq
   .exact h.elim
abbrev dv (P:Program) (l:List Nat) (a:AX) (Q:Ah->Env->AH->Prop) (E:Env) (σ:AH):Prop:=Ad l a (W P a) Q E σ
def upW {l:List Nat} {a:AX} {Q:Ah->Env->AH->Prop} {E:Env} (len:Nat) (AG:Nat->Env->AH->Prop) (h0:AG 0 E σ)
    (h: ∀k env σ,k<=len->AG k env σ->W P a (Ah.andThen (fun env σ=>pk l env fun E'=>k<len/\AG (k+1) E' σ) Q) env σ):dv P l a Q E σ:=by
 refine⟨fun n env σ=> ∃k,k<=len/\n=len - k/\AG k env σ,⟨len,0,Nat.zero_le _,by omega,h0⟩,fun n env σ ⟨k,hk,hn,hI⟩=>?_⟩;refine fv (h k env σ hk hI) fun ex env' σ' hq=>?_
 cases ex with
 | normal=>
   simp only[Ah.andThen]at *;rw[Fy]at *;exact⟨len - (k+1),by have:=hq.1;omega,k+1,hq.1,rfl,hq.2⟩
 | exit id=>exact hq
 | ret=>exact hq
 | BZ v=>exact hq
def dQ (P:Program) (x:Bg) (l:List Nat) (ac:AX) (AI:List RS) (Q:R->AH->Prop) (env:Env) (σ:AH):Prop:=
 wv (ev env x) fun vf=>match vf with
  | .f (.func g) [] cap=>pk l env fun E=>W P ac (pT P g cap AI Q) E σ
  | _=>False
def rC {x:Bg} {l:List Nat} {ac:AX} {AI:List RS} {Q:R->AH->Prop} (h:dQ P x l ac AI Q env σ):OI P x l ac AI Q env σ:=by
 unfold dQ at h;unfold OI;refine Bm h fun vf h=>?_
 split at h
 .rw[Fy]at h;exact jc h
 .exact h.elim
def Jp {K K':Env->AH->Prop} (h: ∀env σ,K env σ->K' env σ): ∀ex env σ,CK K ex env σ->CK K' ex env σ:=fun ex env σ hq=>by
 cases ex<;>first|exact h _ _ hq|exact hq.elim
def oO {c:AX} {x:Bg} {l:List Nat} {ac:AX} {AI:List RS} {Q:R->AH->Prop} (h:W P c (CK (dQ P x l ac AI Q)) env σ):T P c (CK (OI P x l ac AI Q)) env σ:=
 XR h (Jp fun _ _ h=>rC h)
def Sm {l:List Nat} {a b:AX} {Q:Ah->Env->AH->Prop} (h: ∀K:Env->AH->Prop,(∀env σ,(pk l env fun E=>W P b Q E σ)->K env σ)->W P a (Ah.andThen K Q) env σ):W P (.seq l a b) Q env σ:=
 h _ fun _ _ h=>by rw[Fy]at *;exact .inl h
def Sp {ops:List Aq} {Q:Ah->Env->AH->Prop} (h: ∀(I:Env->AH->Prop) (C:Env->V->AH->Prop),(∀env σ,Q .normal env σ->I env σ)->(∀env v σ,Q (.BZ v) env σ->C env v σ)->WT P ops I C env σ):W P (.Cs ops) Q env σ:=
 h _ _ (fun _ _ h=>h) (fun _ _ _ h=>h)
def nG {l:List Nat} {ops:List CZ} {Q:Ah->Env->AH->Prop} (h: ∀(I:Env->AH->Prop) (C:V->AH->Prop),(∀env σ,(pk l env fun E=>Q .normal E σ)->I env σ)->(∀v σ,(∀σ',Sub σ σ'->Q (.BZ v) [] σ')->C v σ)->WD P ops I C env σ):W P (.G2 l ops) Q env σ:=
 h _ _ (fun _ _ h=>h) (fun _ _ h=>h)
def Zj {c:Bg} {a b:AX} {Q:Ah->Env->AH->Prop} (h:match ev env c with
    | some (.b t)=>(t=true->W P a Q env σ)/\(t=false->W P b Q env σ)
    | _=>False):W P (.cond c a b) Q env σ:=h
def jJ {id:Nat} {a:AX} {Q:Ah->Env->AH->Prop} (h:W P a (Ah.inBlock id Q) env σ):W P (.block id a) Q env σ:=h
def nD {l:List Nat} {a:AX} {Q:Ah->Env->AH->Prop} (h:pk l env fun E=>Ad l a (W P a) Q E σ):W P (.loop l a) Q env σ:=h
def nE {id:Nat} {Q:Ah->Env->AH->Prop} (h:Q (.exit id) env σ):W P (.exit id) Q env σ:=h
def XQ {Q:Ah->Env->AH->Prop} (h:Q .ret env σ):W P .ret Q env σ:=h
def Zi {Q:Ah->Env->AH->Prop} (h:Q .normal env σ):W P .skip Q env σ:=h
def jG {a:AX} {Q:Ah->Env->AH->Prop} (h:W P a Q env σ):W P (.scope a) Q env σ:=h
def jH {l:List Nat} {g:Bg} {ps:List Nat} {a b:AX} {Q:Ah->Env->AH->Prop} (h:match ev env g with
    | some (.f (.func gf) [] cap)=>pk l env fun E=> ∀L,σ L=none->As P gf (.f (.yield L) [] []::cap) (A6 σ L (.loop .ready E (Bb P ps a b))) (Ij L Q env)
    | _=>False):W P (.Da l g ps a b) Q env σ:=h
end Go.Gl
namespace Go.Gl
variable {P:Program} {Λ:Nat->Prop} {σ σ':AH} {env:Env}
def Own (σ:AH) (v:V) (sz:Nat) (es:List (List V)):Prop:=(v= .l es true/\ ∀e∈es,e.length=sz)\/ ∃n cap,v= .sl n es.length cap/\σ n=some (.arr sz es cap)
def Own.IJ {v:V} {sz:Nat} {es:List (List V)} (h:Own σ v sz es):Ff σ emp v (.l es false):=by
 rcases h with⟨rfl,_⟩|⟨n,cap,rfl,hn⟩
 .exact .l (fun h=>(by cases h)) (.refl _ _ _)
 .exact .arr hn rfl rfl (.refl _ _ _)
inductive At where
 | obj (n:Nat) (o:O)
 | own (v:V) (sz:Nat) (es:List (List V))
abbrev At.box (n:Nat) (vs:List V):At:= .obj n (.cs vs)
abbrev At.map (n:Nat) (kvs:List (V×V)):At:= .obj n (.map kvs)
def Cg:V->Option Nat
 | .sl n _ _=>some n
 | _=>none
def At.uX:At->Option Nat
 | .obj n _=>some n
 | .own v _ _=>Cg v
def At.ok (σ:AH):At->Prop
 | .obj n o=>σ n=some o
 | .own v sz es=>Own σ v sz es
def apart (a b:At):Prop:= ∀n,a.uX=some n->b.uX≠some n
def apart.symm {a b:At} (h:apart a b):apart b a:=fun n hb ha=>h n ha hb
def Sat (σ:AH) (l:List At):Prop:=(∀a∈l,a.ok σ)/\l.Pairwise apart
def Sat.nil:Sat σ []:=⟨fun _ h=>(by cases h),.nil⟩
def Sat.get {l:List At} (h:Sat σ l) {i:Nat} {a:At} (hi:l[i]? =some a):a.ok σ:=h.1 a (Dm hi)
def TW {l:List At} (h:l.Pairwise apart): ∀ {i:Nat} {a a':At},l[i]? =some a->(∀b∈l,apart a b->apart a' b)->(l.set i a').Pairwise apart:=by
 induction h with
 | nil=>intro i a a' hi;cases hi
 | cons hx hl ih=>
   rename_i x r;intro i a a' hi hb;cases i with
   | zero=>
     simp only[oU,II]at hi;subst hi;exact .cons (fun b hm=>hb b (.tail _ hm) (hx b hm)) hl
   | succ i=>
     simp only[uO]at hi;refine .cons (fun b hm=>?_) (ih hi fun b hm=>hb b (.tail _ hm));rcases List.mem_or_eq_of_mem_set hm with hm|rfl
     .exact hx b hm
     .exact(hb x (.head _) (hx a (Dm hi)).symm).symm
def En {l:List At} (h:l.Pairwise apart): ∀ {i:Nat} {a:At},l[i]? =some a-> ∀b∈l.eraseIdx i,apart a b:=by
 induction h with
 | nil=>intro i a hi;cases hi
 | cons hx hl ih=>
   rename_i x r;intro i a hi b hb;cases i with
   | zero=>
     simp only[oU,II]at hi;subst hi;exact hx b (by simpa using hb)
   | succ i=>
     simp only[uO]at hi;simp only[List.eraseIdx_cons_succ,Fq]at hb;rcases hb with rfl|hb
     .exact(hx a (Dm hi)).symm
     .exact ih hi b hb
def Xm {l:List At} {i:Nat} {a b:At} (h:b∈l.set i a):b=a\/b∈l.eraseIdx i:=by
 induction l generalizing i with
 | nil=>simp at h
 | cons x r ih=>
   cases i with
   | zero=>simp at h;rcases h with rfl|h;exact .inl rfl;exact .inr (by simpa using h)
   | succ i=>
     simp only[List.set_cons_succ,Fq,List.eraseIdx_cons_succ]at *;rcases h with rfl|h
     .exact .inr (.inl rfl)
     .rcases ih h with h|h
      .exact .inl h
      .exact .inr (.inr h)
def Sat.change {l:List At} (h:Sat σ l) {i:Nat} {a a':At} (hi:l[i]? =some a) (ho: ∀b:At,b.ok σ->apart a b->b.ok σ') (hd: ∀b:At,b.ok σ->apart a b->apart a' b) (ha:a'.ok σ'):Sat σ' (l.set i a'):=by
 refine⟨fun b hb=>?_,TW h.2 hi fun b hb=>hd b (h.1 b hb)⟩;rcases Xm hb with rfl|hb
 .exact ha
 .exact ho b (h.1 b (List.mem_of_mem_eraseIdx hb)) (En h.2 hi b hb)
def DE {a:At} {n:Nat} (h:a.ok σ) (hn:a.uX=some n): ∃o,σ n=some o:=by
 cases a with
 | obj m o=>cases hn;exact⟨o,h⟩
 | own v sz es=>
   rcases h with⟨rfl,_⟩|⟨m,cap,rfl,hm⟩
   .cases hn
   .cases hn;exact⟨_,hm⟩
def FH {a:At} (h:a.ok σ) (hs: ∀n,a.uX=some n->σ' n=σ n):a.ok σ':=by
 cases a with
 | obj m o=>exact(hs m rfl).trans h
 | own v sz es=>
   rcases h with⟨rfl,he⟩|⟨m,cap,rfl,hm⟩
   .exact .inl ⟨rfl,he⟩
   .exact .inr ⟨m,cap,rfl,(hs m rfl).trans hm⟩
def Sat.add {l:List At} (h:Sat σ l) {a:At} (ho: ∀b:At,b.ok σ->b.ok σ') (hd: ∀b:At,b.ok σ->apart a b) (ha:a.ok σ'):Sat σ' (l++[a]):=by
 refine⟨fun b hb=>?_,List.pairwise_append.2 ⟨h.2,List.pairwise_singleton _ _,fun x hx y hy=>?_⟩⟩
 .rcases Dr.1 hb with hb|hb
  .exact ho b (h.1 b hb)
  .rw[My.1 hb];exact ha
 .rw[My.1 hy]
  exact(hd x (h.1 x hx)).symm
def Sat.less {l l':List At} (h:Sat σ l) (hs:l'.Sublist l):Sat σ l':=⟨fun a ha=>h.1 a (hs.subset ha),h.2.sublist hs⟩
def Sat.perm {l l':List At} (h:Sat σ l) (hp:l.Perm l'):Sat σ l':=⟨fun a ha=>h.1 a (hp.mem_iff.2 ha),(hp.pairwise_iff (fun {_ _}=>apart.symm)).1 h.2⟩
def pG {l:List At} (h:Sat σ l) {n:Nat} (hn:σ n=none) {o:O}:Sat (A6 σ n o) (l++[.obj n o]):=by
 refine h.add (fun b hb=>FH hb fun m hm=>?_) (fun b hb m hm hb'=>?_) (Cz _ _ _)
 .obtain⟨o,ho⟩:=DE hb hm
  rw[Ca];intro e;subst e;rw[hn]at ho;cases ho
 .cases hm
  obtain⟨o,ho⟩:=DE hb hb';rw[hn]at ho;cases ho
def OF {l:List At} (h:Sat σ l) (sz:Nat):Sat σ (l++[.own (.l [] true) sz []]):=
 h.add (fun _ hb=>hb) (fun b hb n hn=>by cases hn) (.inl ⟨rfl,fun _ h=>by cases h⟩)
def xV {l:List At} (h:Sat σ l) {sz:Nat} {es:List (List V)} (hs: ∀e∈es,e.length=sz):Sat σ (l++[.own (.l es true) sz es]):=
 h.add (fun _ hb=>hb) (fun b hb n hn=>by cases hn) (.inl ⟨rfl,hs⟩)
def pF {l:List At} (h:Sat σ l) {i n:Nat} {o:O} (hi:l[i]? =some (.obj n o)) (o':O):Sat (A6 σ n o') (l.set i (.obj n o')):=by
 refine h.change hi (fun b hb ha=>FH hb fun m hm=>?_) (fun b hb ha m hm=>ha m hm) (Cz _ _ _);rw[Ca];intro e;subst e;exact ha m rfl hm
def MH {l:List At} (h:Sat σ l) (i:Nat) {n off sz:Nat} {vs vc:List V} {x:V} {K:AH->Prop} (hi:l[i]? =some (.box n vs)) (hc:cellsOf x=some vc) (hl:vc.length=sz) (h1:vc.all CA=true) (ho:off+sz<=vs.length)
    (hk: ∀σ',Sat σ' (l.set i (.box n (putAt vs off vc)))->K σ'):AR σ sz (.p n off) x K:=by
 unfold AR;rw[hc];refine⟨hl,h1,?_⟩;have:=h.get hi;simp only[At.ok]at this;simp only[this];exact⟨ho,hk _ (pF h hi _)⟩
def nu {l:List At} (h:Sat σ l) (i:Nat) {n off:Nat} {agg:Option Nat} {vs:List V} {K:V->Prop} (hi:l[i]? =some (.box n vs)) (hk:cut agg vs off K):AW σ agg (.p n off) K:=by
 have:=h.get hi;simp only[At.ok]at this;simp only[AW,OQ,this];exact hk
def hAppend {l:List At} (h:Sat σ l) (i:Nat) {v:V} {sz:Nat} {es ys:List (List V)} {f:Bool} {K:V->AH->Prop} (hi:l[i]? =some (.own v sz es)) {b:Nat} (hl:es.length+ys.length<=Ay/\(es.length+ys.length)*b<=140737488355328) (hys: ∀e∈ys,e.length=sz) (ho: ∀e∈ys,∀v∈e,CA v=true)
    (hk: ∀v' σ',Sat σ' (l.set i (.own v' sz (es++ys)))->K v' σ'):AM b σ sz v (.l ys f) K:=by
 refine⟨hys,ho,?_⟩;rcases h.get hi with⟨rfl,hel⟩|⟨n,cap,rfl,hn⟩
 .refine⟨hel,hl,fun e=>hk _ _ ?_,fun _=>⟨rfl,fun n cap hn hc=>hk _ _ ?_⟩⟩
  .subst e
   exact h.change hi (fun _ hb _=>hb) (fun _ _ ha=>ha) (.inl ⟨by simp,by simpa using hel⟩)
  .refine h.change hi (fun b hb _=>FH hb fun m hm=>?_) (fun b hb _ m hm hb'=>?_) (.inr ⟨n,cap,by simp,by simp[A6]⟩)
   .obtain⟨o,ho⟩:=DE hb hm
    rw[Ca];intro e;subst e;rw[hn]at ho;cases ho
   .cases hm
    obtain⟨o,ho⟩:=DE hb hb';rw[hn]at ho;cases ho
 .simp only
  rw[hn];refine⟨rfl,rfl,rfl,hl,fun n' cap' hn' _=>hk _ _ ?_⟩;refine h.change hi (fun b hb ha=>FH hb fun m hm=>?_) (fun b hb ha m hm hb'=>?_) (.inr ⟨n',cap',by simp,by simp[A6]⟩)
  .have hmn:m≠n:=fun e=>by subst e;exact ha m rfl hm
   obtain⟨o,ho⟩:=DE hb hm;have hmn':m≠n':=fun e=>by subst e;rw[Gp _ hmn,ho]at hn';cases hn'
   rw[Ca _ _ hmn',Gp _ hmn]
  .cases hm
   have hmn:n'≠n:=fun e=>by subst e;exact ha n' rfl hb'
   obtain⟨o,ho⟩:=DE hb hb';rw[Gp _ hmn,ho]at hn';cases hn'
def nq {es:List (List V)} {f:Bool} {K:V->Prop} (h:K (.i .i64 es.length)):Au (.l es f) K:=h
def IS {l:List At} (h:Sat σ l) (i:Nat) {v:V} {sz:Nat} {es:List (List V)} (hi:l[i]? =some (.own v sz es)):CA v=true:=by
 rcases h.get hi with⟨rfl,_⟩|⟨n,cap,rfl,hn⟩<;>rfl
@[simp] theorem AAC {es:List (List V)} {f:Bool}:CA (.l es f)=true:=rfl
@[simp] theorem AAD {k:IntKind} {n:Int}:CA (.i k n)=true:=rfl
@[simp] theorem AAF {b:Bool}:CA (.b b)=true:=rfl
@[simp] theorem AAA {n o:Nat}:CA (.p n o)=true:=rfl
@[simp] theorem wm {cs:List V}:CA (.rp cs)=true:=rfl
@[simp] theorem AAB {n:Nat}:CA (.m n)=true:=rfl
@[simp] theorem AAE {fn:Fn} {a b:List V}:CA (.f fn a b)=true:=rfl
@[simp] theorem wk {a b c:Nat}:CA (.sl a b c)=true:=rfl
@[simp] theorem wq:CA .pn=true:=rfl
@[simp] theorem wu:CA .mn=true:=rfl
@[simp] theorem uc:CA .DW=true:=rfl
@[simp] theorem wT {t:TypeId} {v:V}:CA (.Eo t v)=true:=rfl
def cF {v:V} (h:CA v=true):cellsOf v=some [v]:=by cases v<;>first|rfl|cases h
def N3 {l:List At} (h:Sat σ l) (i:Nat) {n off:Nat} {vs:List V} {x:V} {K:AH->Prop} (hi:l[i]? =some (.box n vs)) (h1:CA x=true) (ho:off+1<=vs.length)
    (hk: ∀σ',Sat σ' (l.set i (.box n (vs.set off x)))->K σ'):AR σ 1 (.p n off) x K:=
 MH h i hi (cF h1) rfl (by simp[h1]) ho hk
def Sat.IJ {l:List At} (h:Sat σ l) (i:Nat) {v:V} {sz:Nat} {es:List (List V)} (hi:l[i]? =some (.own v sz es)):Ff σ emp v (.l es false):=(h.get hi).IJ
def Sat.jq {l:List At} (h:Sat σ l) (i:Nat) {n:Nat} {vs vs':List V} (hi:l[i]? =some (.box n vs)) (hf:C7 σ emp vs vs'):Ff σ emp (.p n 0) (.rp vs'):= .cs (h.get hi) rfl hf
def Ji {l:List At} (h:Sat σ l) (i:Nat) {v:V} {sz:Nat} {es:List (List V)} (hi:l[i]? =some (.own v sz es)): ∃σ2,Sub σ2 σ/\Ff σ σ2 v (.l es false)/\Sat σ2 (l.eraseIdx i):=by
 rcases h.get hi with⟨rfl,_⟩|⟨n,cap,rfl,hn⟩
 .exact⟨σ,fun _ _ h=>h,.l (fun h=>(by cases h)) (.refl _ _ _),h.less (List.eraseIdx_sublist _ _)⟩
 .refine⟨del σ n,Fi σ n,.arr hn (DF σ n) rfl (.refl _ _ _),?_⟩
  refine⟨fun b hb=>?_,h.2.sublist (List.eraseIdx_sublist _ _)⟩;refine FH (h.1 b (List.mem_of_mem_eraseIdx hb)) fun m hm=>?_
  rw[Gp];intro e;subst e;exact En h.2 hi b hb m rfl hm
def JC {v vf:V} {σ2:AH} {Q:R->AH->Prop} (hs:Sub σ2 σ) (hf:Ff σ σ2 v vf) (hq:Q (.ret vf) σ2):Am σ v Q:=⟨vf,σ2,hs,hf,hq⟩
def A4 {l l':List At} (h:Sat σ l) (hl:l'.Sublist l) {v vf:V} {Q:R->AH->Prop} (hf:Ff σ σ v vf) (hq: ∀σ',Sat σ' l'->Q (.ret vf) σ'):Am σ v Q:=⟨vf,σ,fun _ _ h=>h,hf,hq σ (h.less hl)⟩
def xW {l:List At} (h:Sat σ l) (i:Nat) {v:V} {sz:Nat} {es:List (List V)} (hi:l[i]? =some (.own v sz es)) {K:V->AH->Prop} (hk: ∀σ',Sat σ' (l.eraseIdx i)->K (.l es false) σ'): ∃vf σ2,Sub σ2 σ/\Ff σ σ2 v vf/\K vf σ2:=by
 obtain⟨σ2,h1,h2,h3⟩:=Ji h i hi;exact⟨_,σ2,h1,h2,hk σ2 h3⟩
def u6 {l:List At} (h:Sat σ l) (i:Nat) {v:V} {sz:Nat} {es:List (List V)} (hi:l[i]? =some (.own v sz es)) (hm:es.length<=Ay) {K:V->Prop} (hk:K (.i .i64 es.length)):Au v K:=by
 rcases h.get hi with⟨rfl,_⟩|⟨n,cap,rfl,hn⟩
 .exact hk
 .exact⟨hm,hk⟩
def GQ (v:V) (sz j:Nat):V:=match v with| .sl n _ _=> .pe n sz j 0| .l es _=> .rp (es.getD j [])|_=> .pn
def xC {l:List At} (h:Sat σ l) (i:Nat) {v:V} {sz:Nat} {es:List (List V)} {ki:IntKind} {j:Int} (k:Nat) (hi:l[i]? =some (.own v sz es)) (hj:j=k) (hlt:k<es.length) {K:V->Prop} (hk:K (GQ v sz k)) :
    AQ sz none v (.i ki j) K:=by
 subst hj;rcases h.get hi with⟨rfl,hel⟩|⟨n,cap,rfl,hn⟩
 .refine⟨Int.natCast_nonneg k,es[k],by simp[hlt],hel _ (List.getElem_mem hlt),?_⟩
  simpa[GQ,hlt]using hk
 .exact⟨Int.natCast_nonneg k,by omega,by simpa[GQ]using hk⟩
def ZA {l:List At} (h:Sat σ l) (i:Nat) {v:V} {sz k:Nat} {es:List (List V)} {e:List V} {agg:Option Nat} (hi:l[i]? =some (.own v sz es)) (he:es[k]? =some e) {K:V->Prop} (hk:cut agg e 0 K):AW σ agg (GQ v sz k) K:=by
 rcases h.get hi with⟨rfl,_⟩|⟨n',cap',rfl,hn⟩
 .simp only[GQ,AW,Ds,he]
  exact hk
 .simp only[GQ,AW,OR,hn,he]
  exact⟨trivial,hk⟩
def iN {l : List At} (h:Sat σ l) (i:Nat) {v x:V} {sz k:Nat} {es:List (List V)} {e vc:List V} (hi:l[i]? =some (.own v sz es)) (he:es[k]? =some e) (hc:cellsOf x=some vc) (hl:vc.length=sz) (h1:vc.all CA=true) (hel:e.length=sz) (hv:(Cg v).isSome=true) {K:AH->Prop}
    (hk: ∀σ',Sat σ' (l.set i (.own v sz (es.set k vc)))->K σ'):AR σ sz (GQ v sz k) x K:=by
 rcases h.get hi with⟨rfl,_⟩|⟨n,cap,rfl,hn⟩
 .cases hv
 .unfold AR
  rw[hc];refine⟨hl,h1,?_⟩;simp only[GQ,hn,he];refine⟨trivial,by omega,hk _ ?_⟩
  have hput: ∀(vs vc:List V),vc.length=vs.length->putAt vs 0 vc=vc:=by
   have gen: ∀(vc pre vs:List V),vc.length=vs.length->putAt (pre++vs) pre.length vc=pre++vc:=by
    intro vc
    induction vc with
    | nil=>intro pre vs hl;cases vs with
      | nil=>rfl
      | cons _ _=>cases hl
    | cons x vc ih=>
      intro pre vs hl;cases vs with
      | nil=>cases hl
      | cons y vs=>
        simp only[putAt];rw[List.set_append_right _ _ (IN _),Nat.sub_self,List.set_cons_zero];have:=ih (pre++[x]) vs (by simpa using hl);simp only[R0,Lz,List.length_nil,GM,P7,List.singleton_append]at this;exact this
   intro vs vc hl;exact gen vc [] vs hl
  rw[hput e vc (by omega)];refine h.change hi (fun b hb ha=>FH hb fun m hm=>?_) (fun b hb ha m hm=>ha m hm) (.inr ⟨n,cap,by simp,by simp[A6]⟩);rw[Ca];intro e;subst e;exact ha m rfl hm
def I6 {l:List At} (h:Sat σ l) (i:Nat) {n:Nat} {kvs:List (V×V)} {ks:KS} {z vk:V} {ok:Bool} (hi:l[i]? =some (.map n kvs)) (hk:BI ks vk=true) (hks: ∀kv∈kvs,BI ks kv.1=true) {K:V->Prop} (h':K (found z ok (CU vk kvs))) :
    AN σ ks z ok (.m n) vk K:=by
 refine⟨hk,?_⟩;have:=h.get hi;simp only[At.ok]at this;simp only[this];exact⟨hks,h'⟩
def Hp {l:List At} (h:Sat σ l) (i:Nat) {n:Nat} {kvs:List (V×V)} {ks:KS} {vk vv:V} (hi:l[i]? =some (.map n kvs)) (hk:BI ks vk=true) (hks: ∀kv∈kvs,BI ks kv.1=true) {K:AH->Prop}
    (h': ∀σ',Sat σ' (l.set i (.map n (DA vk vv kvs)))->K σ'):AO σ ks (.m n) vk vv K:=by
 refine⟨hk,?_⟩;have:=h.get hi;simp only[At.ok]at this;simp only[this];exact⟨hks,h' _ (pF h hi _)⟩
def BK (P:Program) (f:FuncId) (args:List V) (pre:List At) (Φ:R->List At->Prop):Prop:= ∀σ,Sat σ pre->As P f args σ fun r σ'=> ∃post,Φ r post/\Sat σ' post
def lB {a:At} {σ1 τ:AH} (h:a.ok σ1):a.ok (join σ1 τ):=FH h fun n hn=>by
 obtain⟨o,ho⟩:=DE h hn;simp[join,ho]
def BK.use {f:FuncId} {args:List V} {pre rest:List At} {Φ:R->List At->Prop} (h:BK P f args pre Φ) (hs:Sat σ (pre++rest)) {Q:R->AH->Prop} (hk: ∀r post σ',Φ r post->Sat σ' (post++rest)->Q r σ'):As P f args σ Q:=by
 have hpre:Sat σ pre:=hs.less (List.sublist_append_left _ _);have hrest:Sat σ rest:=hs.less (List.sublist_append_right _ _);have hap:=(List.pairwise_append.1 hs.2).2.2
 let D:Nat->Prop:=fun n=> ∀b∈rest,b.uX≠some n
 have h1:Sat (GN σ D) pre:=⟨fun a ha=>FH (hpre.1 a ha) fun n hn=>DD fun b hb=>hap a ha b hb n hn,hpre.2⟩
 refine As.mono (As.frame D (h _ h1)) fun r σ' ⟨σ1,⟨post,hp,hsp⟩,hfr,he⟩=>hk r post σ' hp ?_
 subst he
 have hrn: ∀b∈rest,∀n,b.uX=some n->σ1 n=none/\GN σ (fun n=> ¬D n) n=σ n:=fun b hb n hn=>by
  have hnd: ¬D n:=fun h=>h b hb hn
  obtain⟨o,ho⟩:=DE (hrest.1 b hb) hn;exact⟨hfr n hnd (by rw[ho];simp),DD hnd⟩
 refine⟨fun a ha=>?_,List.pairwise_append.2 ⟨hsp.2,hrest.2,fun a ha b hb n hn hb'=>?_⟩⟩
 .rcases Dr.1 ha with ha|ha
  .exact lB (hsp.1 a ha)
  .refine FH (hrest.1 a ha) fun n hn=>?_
   obtain⟨k1,k2⟩:=hrn a ha n hn;simp only[join,k1,k2]
 .obtain⟨o,ho⟩:=DE (hsp.1 a ha) hn
  rw[(hrn b hb n hb').1]at ho;cases ho
def QD:List (Nat×V)->Env->Env
 | _,[]=>[]
 | f,(k,v)::r=>(k,(get k f).getD v)::QD f r
def sk:List (Nat×V)->Env->(Env->Prop)->Prop
 | _,[],k=>k []
 | f,(n,v)::r,k=>match get n f with
   | some u=>sk f r fun e=>k ((n,u)::e)
   | none=>sk f r fun e=>k ((n,v)::e)
def YN {f:List (Nat×V)}: ∀ {E:Env} {k:Env->Prop},sk f E k=k (QD f E)
 | [],_=>rfl
 | (n,v)::r,k=>by
   simp only[sk,QD];cases get n f with
   | none=>exact YN (E:=r)
   | some u=>exact YN (E:=r)
def D3 {l:List Nat} {a:AX} {Q:Ah->Env->AH->Prop} {E:Env} (len:Nat) {X:Type} (f:Nat->X->List (Nat×V)) (H:Nat->X->List At) (Φ:Nat->X->Prop) (x0:X) (h0:E=QD (f 0 x0) E) (hΦ:Φ 0 x0) (hs:Sat σ (H 0 x0))
    (h: ∀k x σ,k<=len->Φ k x->Sat σ (H k x)->sk (f k x) E fun E1=>W P a (Ah.andThen (fun env' σ'=>pk l env' fun E'=>k<len/\ ∃x',E'=QD (f (k+1) x') E/\Φ (k+1) x'/\Sat σ' (H (k+1) x')) Q) E1 σ):dv P l a Q E σ:=by
 refine upW len (fun k env' σ'=> ∃x,env'=QD (f k x) E/\Φ k x/\Sat σ' (H k x)) ⟨x0,h0,hΦ,hs⟩ ?_;rintro k _ σ hk ⟨x,rfl,h1,h2⟩;have:=h k x σ hk h1 h2;rw[YN]at this;exact this
def Gf {l:List Nat} {a:AX} {Q:Ah->Env->AH->Prop} {E:Env} {X:Type} (μ:X->Nat) (f:X->List (Nat×V)) (H:X->List At) (Φ:X->Prop) (x0:X) (h0:E=QD (f x0) E) (hΦ:Φ x0) (hs:Sat σ (H x0))
    (h: ∀x σ,Φ x->Sat σ (H x)->sk (f x) E fun E1=>W P a (Ah.andThen (fun env' σ'=>pk l env' fun E'=> ∃x',μ x'<μ x/\E'=QD (f x') E/\Φ x'/\Sat σ' (H x')) Q) E1 σ):dv P l a Q E σ:=by
 refine⟨fun n env σ=> ∃x,n=μ x/\env=QD (f x) E/\Φ x/\Sat σ (H x),⟨_,x0,rfl,h0,hΦ,hs⟩,?_⟩;rintro n _ σ ⟨x,rfl,rfl,h1,h2⟩;have h:=h x σ h1 h2;rw[YN]at h;refine fv h fun ex env' σ' hq=>?_
 cases ex with
 | normal=>
   simp only[Ah.andThen]at *;rw[Fy]at *;obtain⟨x',k1,k2⟩:=hq;exact⟨_,k1,x',rfl,k2⟩
 | exit id=>exact hq
 | ret=>exact hq
 | BZ v=>exact hq
end Go.Gl
namespace Go.Gl
def Sn:Sat emp []:=Sat.nil
def Mx:Ay=17592186044416:=rfl
end Go.Gl
namespace Go.Gl
open Go.ChangeShapes Go.WideShapes Go.ChangeAt Go.RowKit
variable {P:Program}
def iv {f:FuncId} {args:List V} {v:V} (h:Pure P f args v) {w:World} {cs:Array Value} (hc:cw (Hh (fun _=>False) emp w) args cs) :
    Calls P f cs w fun e w'=>(∃c,e= .returned c/\Ag (Hh (fun _=>False) emp w') v c)/\B2 (fun _=>False) emp w emp w':=by
 refine Calls.mono (h.2 (fun _=>False) w cs (Yo _ fun _ h=>h.elim) hc) fun e w' ⟨r,σ',⟨h1,h2⟩,h3,_,h4⟩=>?_
 subst h1;subst h2;exact⟨h3,h4⟩
end Go.Gl
namespace Go.Gl
variable {P:Program} {σ:AH} {env:Env}
abbrev iL (xs:List Int):List (List V):=xs.map fun x=>[.i .i64 x]
abbrev JY (ls:List (List Int)):List (List V):=ls.map fun l=>[.l (iL l) false]
def FI {α:Type} (enc:α->List V) (sz:Nat):Prop:= ∀x,(enc x).length=sz/\ ∀v∈enc x,CA v=true
def Eg:FI (fun x:Int=>[V.i .i64 x]) 1:=fun x=>⟨rfl,fun v hv=>by simp at hv;subst hv;rfl⟩
def Ir:FI (fun l:List Int=>[V.l (iL l) false]) 1:=fun x=>⟨rfl,fun v hv=>by simp at hv;subst hv;rfl⟩
def TF:FI (fun x:Bool=>[V.b x]) 1:=fun x=>⟨rfl,fun v hv=>by simp at hv;subst hv;rfl⟩
def EN {α:Type} {enc:α->List V} {sz:Nat} (hg:FI enc sz) (xs:List α):(∀e∈xs.map enc,e.length=sz)/\ ∀e∈xs.map enc,∀v∈e,CA v=true:=by
 refine⟨fun e he=>?_,fun e he=>?_⟩<;>obtain⟨x,_,rfl⟩:=Iz.1 he
 .exact(hg x).1
 .exact(hg x).2
def vt {α:Type} {enc:α->List V} {sz:Nat} {xs ys:List α} {f g:Bool} {K:V->Prop} (hg:FI enc sz) {b:Nat} (hl:xs.length+ys.length<=Ay/\(xs.length+ys.length)*b<=140737488355328) (hf:f=true) (hk:K (.l ((xs++ys).map enc) false)):Ab b σ sz (.l (xs.map enc) f) (.l (ys.map enc) g) K:=by
 obtain⟨h1,h2⟩:=EN hg ys;refine⟨h1,h2,(EN hg xs).1,by simpa using hl,fun _=>hf,?_⟩;rw[<-YF];exact hk
def qp {α:Type} {enc:α->List V} {sz:Nat} {ys:List α} {g:Bool} {K:V->Prop} (hg:FI enc sz) {b:Nat} (hl:ys.length<=Ay/\ys.length*b<=140737488355328) (hk:K (.l (ys.map enc) false)):Ab b σ sz (.l [] true) (.l (ys.map enc) g) K:=
 vt (xs:=[]) hg (by simpa using hl) rfl hk
def YU {l:List At} (h:Sat σ l) (i:Nat) {α:Type} {enc:α->List V} {sz:Nat} {xs:List α} {x:α} {v:V} {f:Bool} {e:List V} {K:V->AH->Prop} (hi:l[i]? =some (.own v sz (xs.map enc))) {b:Nat} (hl:xs.length<Ay/\(xs.length+1)*b<=140737488355328) (hg:FI enc sz)
    (hk: ∀v' σ',Sat σ' (l.set i (.own v' sz ((xs++[x]).map enc)))->K v' σ') (he:e=enc x:=by rfl):AM b σ sz v (.l [e] f) K:=by
 subst he;refine hAppend h i hi (by simp;omega) (fun e he=>by simp at he;subst he;exact(hg x).1) (fun e he=>by simp at he;subst he;exact(hg x).2) fun v' σ' hs=>hk v' σ' ?_
 rw[YF];exact hs
def OV {l:List At} (h:Sat σ l) (i:Nat) {α:Type} {enc:α->List V} {sz:Nat} {xs ys:List α} {v:V} {f:Bool} {K:V->AH->Prop} (hi:l[i]? =some (.own v sz (xs.map enc))) {b:Nat} (hl:xs.length+ys.length<=Ay/\(xs.length+ys.length)*b<=140737488355328) (hg:FI enc sz)
    (hk: ∀v' σ',Sat σ' (l.set i (.own v' sz ((xs++ys).map enc)))->K v' σ'):AM b σ sz v (.l (ys.map enc) f) K:=by
 obtain⟨h1,h2⟩:=EN hg ys;refine hAppend h i hi (by simpa using hl) h1 h2 fun v' σ' hs=>hk v' σ' ?_
 rw[YF];exact hs
def PL {l:List At} (h:Sat σ l) (i:Nat) {v:V} {sz:Nat} {es:List (List V)} (hi:l[i]? =some (.own v sz es)) {vf:V} (he:V.l es false=vf):Am σ v (fun r σ'=>r= .ret vf/\σ'=emp):=
 B3 (he ▸ h.IJ i hi)
def Ar {α:Type} {xs:List α} {k:Nat} {x:α} (h:xs[k]? =some x):xs.take (k+1)=xs.take k++[x]:=by
 rw[List.take_add_one,h];rfl
def pO {α:Type} {enc:α->List V} {xs:List α} {f:Bool} {sz:Nat} {K:V->Prop} {ki:IntKind} {j:Int} (k:Nat) {x:α} (hx:xs[k]? =some x) (hj:j=k) (hs:(enc x).length=sz) (h:K (.rp (enc x))) :
    AQ sz none (.l (xs.map enc) f) (.i ki j) K:=by
 subst hj;refine⟨Int.natCast_nonneg k,enc x,?_,hs,h⟩;rw[Hd,P8,hx];rfl
def mH {α:Type} {enc:α->List V} {xs:List α} {k:Nat} {A B:Prop} (hk:k<=xs.length) (h1: ∀x,xs[k]? =some x->k<xs.length->A) (h2:k=xs.length->B) :
    (decide ((k:Int)<((xs.map enc).length:Nat))=true->A)/\(decide ((k:Int)<((xs.map enc).length:Nat))=false->B):=
 fork (fun h=>by
  have hlt:=qZ h
  exact h1 _ (ES hlt) hlt) fun h=>h2 (mO hk h)
def QG (a:Int):Nat->Int
 | 0=>a
 | k+1=>IntKind.i64.wrap (QG a k+1)
abbrev Bq (k:Nat):Int:=QG 0 k
def TO {a:Int} (ha: -4611686018427387904<=a): ∀ {k:Nat},a+k<=4611686018427387904->QG a k=a+k
 | 0,_=>by simp[QG]
 | k+1,h=>by
   rw[QG,TO ha (by omega),wrap64 (by omega) (by omega)];omega
def AV {k:Nat} (h:k<=Ay+8):Bq k=k:=by
 rw[Bq,TO (by omega) (by simp only[Ay]at h;omega)];omega
def fD {α:Type} {enc:α->List V} {xs:List α} {k:Nat} {A B:Prop} (hk:k<=xs.length) (hm:xs.length<=Ay) (h1: ∀x,xs[k]? =some x->k<xs.length->A) (h2:k=xs.length->B) :
    (decide (Bq k<((xs.map enc).length:Nat))=true->A)/\(decide (Bq k<((xs.map enc).length:Nat))=false->B):=by
 rw[AV (by omega)];exact mH hk h1 h2
def vC {α:Type} {enc:α->List V} {xs:List α} {f:Bool} {sz:Nat} {K:V->Prop} {ki:IntKind} {k:Nat} {x:α} (hx:xs[k]? =some x) (hm:xs.length<=Ay) (hs:(enc x).length=sz) (h:K (.rp (enc x))) :
    AQ sz none (.l (xs.map enc) f) (.i ki (Bq k)) K:=
 pO k hx (AV (by have:=(JX.1 hx).1;omega)) hs h
def CJ {α:Type} {xs:List α} {k:Nat} (h:k=xs.length):xs.take k=xs:=by rw[h,List.take_length]
end Go.Gl
namespace Go.Gl
structure QA where
 parents:List Int
 AI:List Int
 inits:List (Int×Int)
 deriving DecidableEq,Inhabited
structure Node where
 op:Int
 n:Int
 kids:List Int
 deriving DecidableEq,Inhabited
inductive Fact where
 | mk (op arg:Int) (path:List Int) (cls n:Int) (kids:List Fact)
 deriving Inhabited
namespace Fact
def op:Fact->Int|mk o _ _ _ _ _=>o
def arg:Fact->Int|mk _ a _ _ _ _=>a
def path:Fact->List Int|mk _ _ p _ _ _=>p
def cls:Fact->Int|mk _ _ _ c _ _=>c
def n:Fact->Int|mk _ _ _ _ n _=>n
def kids:Fact->List Fact|mk _ _ _ _ _ k=>k
mutual
def G4 {α:Type} (g:Fact->List α->α):Fact->α
 | .mk o a p c n k=>g (.mk o a p c n k) (YY g k)
 termination_by structural f=>f
def YY {α:Type} (g:Fact->List α->α):List Fact->List α
 | []=>[]
 | x::r=>G4 g x::YY g r
 termination_by structural l=>l
end
def ik {α:Type} (g:Fact->List α->α) (l:List Fact):YY g l=l.map (G4 g):=by
 induction l with
 | nil=>rfl
 | cons x r ih=>simp[YY,ih]
def DT {α:Type} (g:Fact->List α->α) (f:Fact):G4 g f=g f (f.kids.map (G4 g)):=by
 cases f with
 | mk o a p c n k=>simp[G4,ik,kids]
def ind {motive:Fact->Prop} (h: ∀f,(∀k∈f.kids,motive k)->motive f) (f:Fact):motive f:=by
 refine Fact.rec (motive_1:=motive) (motive_2:=fun l=> ∀k∈l,motive k) (fun o a p c n k ih=>h _ ih) (fun _ h=>by cases h) (fun x r hx hr k hk=>?_) f;rcases Fq.1 hk with rfl|hk
 .exact hx
 .exact hr k hk
def size (f:Fact):Nat:=G4 (fun f l=>1+f.path.length+f.kids.length+l.sum) f
end Fact
structure Ng where
 kind:Int
 gen:Int
 fact:Fact
 node:Int
 deriving Inhabited
structure Prog where
 AZ:List QA
 AI:Int
 EV:List Int
 methods:List Ng
 nodes:List Node
 main:Int
 deriving Inhabited
structure AJ where
 parents:List (List Int)
 owner:List Int
 deriving DecidableEq,Inhabited
abbrev eI (n:Int):V:= .i .i64 n
def UC (c:QA):List V:=[.l (iL c.parents) false,.l (iL c.AI) false,.l (c.inits.map fun p=>[eI p.1,eI p.2]) false]
def M8 (x:Node):List V:=[eI x.op,eI x.n,.l (iL x.kids) false]
def F0 (f:Fact):List V:=f.G4 fun f l=>[eI f.op,eI f.arg,.l (iL f.path) false,eI f.cls,eI f.n,.l l false]
abbrev xF (f:Fact):List V:=[eI f.op,eI f.arg,.l (iL f.path) false,eI f.cls,eI f.n,.l (f.kids.map F0) false]
def CT (f:Fact):F0 f=xF f:=Fact.DT _ f
abbrev facts (l:List Fact):List (List V):=l.map F0
def dk (m:Ng):List V:=[eI m.kind,eI m.gen,eI m.fact.op,eI m.fact.arg,.l (iL m.fact.path) false,eI m.fact.cls,eI m.fact.n,.l (facts m.fact.kids) false,eI m.node]
def Ba (p:Prog):List V:=[.l (p.AZ.map UC) false,eI p.AI,.l (iL p.EV) false,.l (p.methods.map dk) false,.l (p.nodes.map M8) false,eI p.main]
def CW (w:AJ):List V:=[.l (JY w.parents) false,.l (iL w.owner) false]
end Go.Gl
