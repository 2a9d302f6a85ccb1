import Derived.RecoverIn
import Derived.WalkKit
import Derived.ProofKit
import Derived.OpenShut
import Derived.Test.YtegbmnmnaijioaaGreatY2
set_option linter.all false
set_option linter.defProp false
set_option maxHeartbeats 8000000
noncomputable section
namespace Go.Gl
variable {P:Program} {F:Nat->Prop} {pu:List FuncId} {fz:List Nat}
inductive RS where
 | t (n:Nat)
 | c (n:Nat) (agg:Option Nat)
def Np (P:Program):List ResultVar->Option (List RS)
 | []=>some []
 | .tmp t::r=>(Np P r).map (.t t:: ·)
 | .cell a t::r=>match Ja P t,Np P r with|some g,some l=>some (.c a g::l)|_,_=>none
def Vt (Z:AE) (env:Env):List RS->(List V->Prop)->Prop
 | [],k=>k []
 | .t n::r,k=>wv (get n env) fun v=>Vt Z env r fun vs=>k (v::vs)
 | .c n g::r,k=>wv (get n env) fun a=>AU Z g a fun v=>Vt Z env r fun vs=>k (v::vs)
def FC:List V->V
 | [v]=>v
 | vs=> .t vs
def WK (AG:List RS) (Q:R->AE->Prop):Ac->Env->AE->Prop
 | .normal,env,Z| .ret,env,Z=>Vt Z env AG fun vs=>Am Z (FC vs) Q
 | .Bk v,_,Z=>Ae Z v Q
 | .exit _,_,_=>False
def eS {t:TypeId} {agg:Option Nat} (hA:Ja P t=some agg) {Z:AE} {w:World} (hR:Rel F Z w) {vx:V} {c:Value} (hx:Ah (Hh F Z w) vx c) {K:V->Prop} (h:AU Z agg vx K) :
    ∃v d,(do loadVar t (<-asAddr c):Sem Value).run P w= .ok d w/\Ah (Hh F Z w) v d/\K v:=by
 unfold AU at h;split at h
 .rename_i cs
  obtain⟨b,o,rfl,hv⟩:=hx;obtain⟨v,c,h1,h2,h3⟩:=Fs (P:=P) (w:=w) (b:=b) (off:=0) hA (fun i c hc=>(Ga hc).2.2) hv h;refine⟨v,c,?_,h2,h3⟩;simp only[DU,asAddr,FF,Result.andThen,Nat.add_zero]at h1 ⊢;exact h1
 .rename_i n off
  simp only[Ah]at hx;subst hx;unfold QW at h;split at h
  .rename_i vs hs
   obtain⟨c,e,h1,h2,h3⟩:=K1 hR hs;obtain⟨v,c',h4,h5,h6⟩:=Fs (P:=P) (w:=w) (b:=n) (off:=off) hA (fun i c hc=>by rw[Df h1];exact hc) h3 h;refine⟨v,c',?_,h5,h6⟩;simp only[DU,asAddr,FF,Result.andThen,HG]at h4 ⊢;exact h4
  .exact h.elim
 .rename_i n sz i off
  simp only[Ah]at hx;subst hx;unfold QX at h;split at h
  .rename_i sz' es cap hs
   obtain⟨rfl,h⟩:=h;split at h
   .rename_i e he
    obtain⟨c,e',h1,_,_,_,h3⟩:=FL hR hs;obtain⟨h7,h8⟩:=BH.1 h3 i e he;obtain⟨v,c',h4,h5,h6⟩:=Fs (P:=P) (w:=w) (b:=n) (off:=off) hA (fun i c hc=>by rw[Df h1];exact hc) h8 h;refine⟨v,c',?_,h5,h6⟩;simp only[DU,asAddr,FF,Result.andThen,HG]at h4 ⊢;exact h4
   .exact h.elim
  .exact h.elim
 .exact h.elim
def NR {fn:Func} {AG:List RS} (hr:Np P fn.results.toList=some AG) {Z:AE} {w:World} (hR:Rel F Z w) {env:Env} {tmps:Array Value} (he:CY (Hh F Z w) env tmps) {K:List V->Prop} (hv:Vt Z env AG K) :
    ∃c vs,(results fn tmps).run P w= .ok c w/\Ah (Hh F Z w) (FC vs) c/\K vs:=by
 have key: ∀(l:List ResultVar) (AG:List RS),Np P l=some AG-> ∀K,Vt Z env AG K->
  ∃(cs:List Value) (vs:List V),(l.mapM (rT tmps)).run P w= .ok cs w/\cs.length=vs.length/\Ba (Hh F Z w) (fun i=>cs[i]?) 0 vs/\K vs:=by
  intro l
  induction l with
  | nil=>
    intro AG hs K hv;cases hs;exact⟨[],[],by simp,rfl,trivial,hv⟩
  | cons x l ih=>
    intro AG hs K hv;cases x with
    | cell a t=>
      simp only[Np]at hs;split at hs
      .rename_i g s' h0 h1
       cases hs;obtain⟨va,h2,hv⟩:=WO hv;obtain⟨ca,h7,h8⟩:=he a va h2;obtain⟨v,d,h9,h10,hv⟩:=eS (P:=P) h0 hR h8 hv;obtain⟨cs,vs,h4,h5,h6,hk⟩:=ih s' h1 _ hv;refine⟨d::cs,v::vs,?_,by simp[h5],⟨d,rfl,h10⟩ |> fun h=>⟨h,BF h6 (fun i _=>by rw[show 0+1+i=i+1 by omega];simp)⟩,hk⟩;rw[List.mapM_cons];simp only[DU,rT]at h9 ⊢;simp only[Array.getD_eq_getD_getElem?,h7,Option.getD_some,h9,G9,h4,FF]
      .cases hs
    | tmp t=>
      simp only[Np]at hs;obtain⟨s',h1,rfl⟩:=Aj hs;obtain⟨u,h2,hv⟩:=WO hv;obtain⟨cs,vs,h4,h5,h6,hk⟩:=ih s' h1 _ hv;obtain⟨c,h7,h8⟩:=he t u h2;refine⟨c::cs,u::vs,?_,by simp[h5],⟨⟨c,rfl,h8⟩,BF h6 (fun i _=>by rw[show 0+1+i=i+1 by omega];simp)⟩,hk⟩;rw[List.mapM_cons];simp only[rT,DU,FF,G9,h4,Array.getD_eq_getD_getElem?,h7,Option.getD_some]
 obtain⟨cs,vs,h1,h2,h3,hk⟩:=key _ _ hr K hv
 have hrun:(fn.results.mapM (rT tmps)).run P w= .ok cs.toArray w:=by
  rw[Array.mapM_eq_mapM_toList];simp[h1]
 rw[Lu];simp only[DU];refine⟨if h:cs.toArray.size=1 then cs.toArray[0]else .tuple cs.toArray,vs,?_,?_,hk⟩
 .rw[hrun]
  rfl
 .by_cases h1':cs.length=1
  .rw [dif_pos (by simpa using h1')]
   match cs,h1',h2,h3 with
   | [c],_,h2,h3=>
     match vs,h2,h3 with
     | [u],_,h3=>
       obtain⟨⟨d,hd,hr⟩,_⟩:=h3;simp at hd;subst hd;exact hr
  .rw[dif_neg (by simpa using h1')]
   have hv':FC vs= .t vs:=by
    match vs with
    | []=>rfl
    | [u]=>simp at h2;exact absurd h2 h1'
    | u::u'::r=>rfl
   rw[hv'];exact⟨_,rfl,by simpa using h2,BF h3 (fun i _=>by simp)⟩
def ff {f:FuncId} {fn:Func} {c:Code} {ac:AV} {AG:List RS} (hf:P.funcs[f]? =some fn) (hok:okF P f=true) (hb:fn.body=some c) (hr:Np P fn.results.toList=some AG)
    {args:List V} (hn:args.length<=fn.ntmps) (hc:res P fn.ntmps pu fz c=some (erase ac)) {Z:AE} {Q:R->AE->Prop} (h:T P ac (WK AG Q) (BA 0 args) Z):Au P f args Z Q:=by
 refine⟨hok,fun F w cs hR hv=>?_⟩;refine callsIn_wide (n:=0) |>.1 (G8 hf hb ?_)
 have he:CY (Hh F Z w) (BA 0 args) (cs++Array.replicate (fn.ntmps - cs.size) undef):=by
  intro k v hg;obtain⟨_,h2⟩:=G1 args 0 k v hg;simp only[Nat.sub_zero]at h2;obtain⟨d,h3,h4⟩:=Bj.1 hv.2 k v h2;simp only[HG]at h3;refine⟨d,?_,h4⟩;rw[Array.getElem?_append_left (by have:=(sm.1 h3).1;exact this)];exact h3
 have hsz:(cs++Array.replicate (fn.ntmps - cs.size) undef).size=fn.ntmps:=by
  simp only[Array.size_append,Array.size_replicate];have:=hv.1;omega
 refine Cc (FO (r:=none) (a:={tmps:=cs++Array.replicate (fn.ntmps - cs.size) undef,defers:=[]}) hc h he hR hsz DC.none) ?_;rintro e a' w' ⟨ex,env,Z',hq,hx,he',hR',hA,hN,ms,hms,hnd,hD,_⟩;simp only[Ez]at hms
 have fin:Vt Z' env AG (fun vs=>Am Z' (FC vs) Q)->LeavesInM (wide none) 0 P fn a'.tmps (fun e w'=> ∃r Z',Q r Z'/\WL (Hh F Z' w') r e/\Rel F Z' w'/\CD F Z w Z' w') a'.defers .returning w':=fun h1=>by
  rw[hms,<-Ez (ms.map El)];refine DT (by simp) ms w' hnd hD hR' hA fun w2 q1 q2 q3=>?_
  obtain⟨c,vs,h5,h6,vf,Z'',h2,h3,h4⟩:=NR (P:=P) hr q1 (he'.mono q3) h1;exact⟨c,h5,.ret vf,Z'',h4,⟨c,rfl,h3.rel q1 h2 h6⟩,q1.drop h2,q2.trans (CD.drop w2 h2)⟩
 cases ex with
 | normal=>simp only[EH]at hx;subst hx;exact fin hq
 | ret=>simp only[EH]at hx;subst hx;exact fin hq
 | exit id=>exact hq.elim
 | Bk v=>
   obtain⟨c,rfl,hv'⟩:=hx;obtain⟨vf,Z'',h2,h3,h4⟩:=hq;show LeavesInM _ _ _ _ _ _ a'.defers (.panicking _) w';rw[hms,<-Ez (ms.map El)];refine DT (by simp) ms w' hnd hD hR' hA fun w2 q1 q2 q3=>?_
   exact⟨.Bk vf,Z'',h4,⟨c,rfl,h3.rel q1 h2 (hv'.mono q3)⟩,q1.drop h2,q2.trans (CD.drop w2 h2)⟩
def E8 {f:FuncId} {fn:Func} {ac:AV} {AG:List RS} (hf:P.funcs[f]? =some fn) (hok:okF P f=true) (hb:fn.body.bind (res P fn.ntmps pu fz)=some (erase ac)) (hr:Np P fn.results.toList=some AG)
    {args:List V} (hn:args.length<=fn.ntmps) {Z:AE} {Q:R->AE->Prop} (h:T P ac (WK AG Q) (BA 0 args) Z):Au P f args Z Q:=by
 cases hc:fn.body with
 | none=>rw[hc]at hb;cases hb
 | some c=>rw[hc]at hb;exact ff hf hok hc hr hn hb h
end Go.Gl
namespace Go.Gl
variable {P:Program} {F:Nat->Prop} {Z:AE}
def Et:List Nat->List V->Env->Env
 | p::ps,v::vs,env=>Et ps vs (put (some p) v env)
 | _,_,env=>env
def Qp (L:Nat) (env:Env) (ok:FuncId->Array Tmp->Code->Code->Nat->Prop) (Q:R->AE->Prop):Ac->Env->AE->Prop
 | .normal,_,Z'=>Q (.ret (.b true)) (B7 Z' L (.loop .ready env ok))
 | .ret,_,Z'=>Q (.ret (.b false)) (B7 Z' L (.loop .ret env ok))
 | .exit id,_,Z'=>Q (.ret (.b false)) (B7 Z' L (.loop (.exit id) env ok))
 | .Bk v,_,Z'=>Q (.Bk v) Z'
def Cd (K:Env->AE->Prop):Ac->Env->AE->Prop
 | .normal,env,Z=>K env Z
 | _,_,_=>False
def get_mem: ∀ {env:Env} {k:Nat} {v:V},get k env=some v->(k,v)∈env
 | [],_,_,h=>by cases h
 | (j,u)::r,k,v,h=>by
   simp only[get]at h;cases hb:Nat.beq j k with
   | true=>
     rw[hb]at h;simp only[cond_true,JM]at h;rw[Vs hb,h];exact .head _
   | false=>
     rw[hb]at h;exact .tail _ (get_mem h)
def CY.binds {H:Nat->Nat->Option Value} {N:Nat}: ∀(ps:List Nat) (vs:List V) (cs:List Value) (env:Env) (tmps:Array Value),CY H env tmps->tmps.size=N->(∀p∈ps,p<N)->vs.length=ps.length->cs.length=vs.length->
    Ba H (fun i=>cs[i]?) 0 vs->CY H (Et ps vs env) ((ps.zip cs).foldl (fun t pa=>t.setIfInBounds pa.1 pa.2) tmps)/\((ps.zip cs).foldl (fun t pa=>t.setIfInBounds pa.1 pa.2) tmps).size=N
 | [],[],[],env,tmps,he,hN,_,_,_,_=>⟨he,hN⟩
 | p ::ps,v::vs,c::cs,env,tmps,he,hN,hp,hl,hc,hv=>by
   simp only[List.zip_cons_cons,List.foldl_cons,Et];obtain⟨⟨d,hd,hr⟩,hv'⟩:=hv;simp at hd;subst hd
   refine CY.binds ps vs cs _ _ (CY.put (a:={tmps:=tmps,defers:=[]}) he hN (d:=some p) (fun x hx=>by cases hx;exact hp p (.head _)) hr) (by simpa using hN) (fun q hq=>hp q (.tail _ hq)) (by simpa using hl) (by simpa using hc)
    (BF hv' fun i _=>by rw[show 0+1+i=i+1 by omega];simp)
 | [],_::_,_,_,_,_,_,_,hl,_,_=>by simp at hl
 | _::_,[],_,_,_,_,_,_,hl,_,_=>by simp at hl
 | _::_,_::_,[],_,_,_,_,_,_,hc,_=>by simp at hc
 | [],[],_::_,_,_,_,_,_,_,hc,_=>by simp at hc
def SD {L : Nat} {env:Env} {ps:List Nat} {a b:AV} (hσ:Z L=some (.loop .ready env (Bm P ps a b))) {args:List V} (hl:args.length=ps.length) {Q:R->AE->Prop}
    (h:T P a (Cd (T P b (fun ex env' Z'=>Z' L=none->Qp L env (Bm P ps a b) Q ex env' Z'))) (Et ps args env) (del Z L)):Ny P L args Z Q:=by
 intro F w cs hR hv;obtain⟨hnl,ob,hob,lp,rfl,⟨hst,hpe⟩,htm,hfn,hps,hplt,pu,fz,hra,hrb⟩:=hR.own L _ hσ;have hsub:=GY Z L;have hAd:CD F Z w (del Z L) w:=CD.drop w hsub;have hcs:cs.size=lp.params.size:=by rw[hv.1,hl,<-hps];simp
 refine⟨lp.fn,_,lp.assign,lp.body,run_yield hob hcs,?_⟩
 have hfold:(lp.params.zip cs).foldl (fun tmps (t,a)=>tmps.setIfInBounds t a) lp.tmps=(ps.zip cs.toList).foldl (fun t pa=>t.setIfInBounds pa.1 pa.2) lp.tmps:=by
  rw[<-hps,<-Array.foldl_toList,Array.toList_zip]
 obtain⟨he0,hN0⟩:=CY.binds (H:=Hh F (del Z L) w) ps args cs.toList env lp.tmps (fun k v hg=>let⟨c,h1,h2⟩:=htm k v (get_mem hg);⟨c,h1,h2.mono hAd.hle⟩) rfl hplt hl (by simpa using hv.1) (BF (Ba.mono hAd.hle (fun _ _ e=>e) _ _ hv.2) fun i _=>by simp);have hrd:DC (some L) (del Z L) w:=fun l e=>by cases e;exact⟨De Z L,lp,hob⟩
 refine SQ hfn ?_;rw[hfold];refine Cc (FO (r:=some L) (a:={tmps:=(ps.zip cs.toList).foldl (fun t pa=>t.setIfInBounds pa.1 pa.2) lp.tmps,defers:=[]}) hra h he0 (hR.drop hsub) hN0 hrd) ?_;rintro e a1 w1 ⟨ex,env1,Z1,hq,hx,he1,hR1,hA1,hN1,hM1⟩;have hrd1:=hrd.HC hA1
 have hd1:a1.defers= []:=by
  obtain⟨ms,h1,_,_,h2⟩:=hM1;rw[h1,h2 (by simp)];rfl
 cases ex with
 | exit id=>exact hq.elim
 | ret=>exact hq.elim
 | Bk v=>exact hq.elim
 | normal=>
   simp only[EH]at hx;subst hx;obtain⟨hL1,_⟩:=hrd1 L rfl;have hob1:w1.heap[L]? =some (.loop lp):=(hA1.frame L (EB hob) (De Z L)).trans hob;refine⟨_,run_beginRound hob1 hst,?_⟩;have hlt1:=EB hob1;have hR1':=hR1.put (ob':= .loop {lp with state:= .busy}) hL1 hob1 rfl;have hob1':(w1.putObj L (.loop {lp with state:= .busy})).heap[L]? =some (.loop {lp with state:= .busy}):=World.putObj_heap_same hlt1;have hrd1':DC (some L) Z1 (w1.putObj L (.loop {lp with state:= .busy})):=fun l e=>by cases e;exact⟨hL1,_,hob1'⟩
   refine Cc (FO (r:=some L) hrb hq (he1.mono (VO hob1 rfl)) hR1' hN1 hrd1') ?_;rintro e2 a2 w2 ⟨ex2,env2,Z2,hq2,hx2,he2,hR2,hA2,hN2,hM2⟩
   have hd2:a2.defers= []:=by
    obtain⟨ms,h1,_,_,h2⟩:=hM2;rw[h1,h2 (by simp),hd1];rfl
   have hL2:Z2 L=none:=((hrd1'.HC hA2) L rfl).1;have hq2:=hq2 hL2;have hob2:w2.heap[L]? =some (.loop {lp with state:= .busy}):=(hA2.frame L (EB hob1') hL1).trans hob1';have hne: ∀ {n:Nat},Z n=none->n≠L:=fun {n} hn e=>by rw[e,hσ]at hn;cases hn
   have hsz:w.heap.size<=w2.heap.size:=by
    have h1:=hA1.size;have h2:=hA2.size;simp at h2;omega
   have hfr: ∀n,n<w.heap.size->Z n=none->w2.heap[n]? =w.heap[n]? /\Z2 n=none:=fun n hn h0=>by
    have h1:=hsub.none h0;have h2:=hA1.names n h1 hn;have hs1:=hA1.size;have h3:=hA2.frame n (by simp;omega) h2;exact⟨h3.trans ((World.putObj_heap_other (hne h0)).trans (hA1.frame n hn h1)),hA2.names n h2 (by simp;omega)⟩
   have fin: ∀(st:s9) (lp3:Loop),lp3.tmps=lp.tmps->lp3.fn=lp.fn->lp3.params=lp.params->lp3.assign=lp.assign->lp3.body=lp.body->tG st lp3->
    Rel F (B7 Z2 L (.loop st env (Bm P ps a b))) (w2.putObj L (.loop lp3))/\CD F Z w (B7 Z2 L (.loop st env (Bm P ps a b))) (w2.putObj L (.loop lp3)):=fun st lp3 q1 q2 q3 q4 q5 q6=>by
    have hle:aH (Hh F Z2 w2) (Hh F (B7 Z2 L (.loop st env (Bm P ps a b))) (w2.putObj L (.loop lp3))):=by
     intro b' o c hb;obtain⟨h1,h2,h3⟩:=Ga hb
     have hbL:b'≠L:=fun e=>by
      subst e;rw[cQ hob2 rfl]at h3;cases h3
     rw[O6 h1 (by rw[Le (Ne.symm hbL)];exact h2),<-h3];exact World.cell?_of_block (w:=w2) (World.putObj_heap_other hbL)
    have hA:CD F Z w (B7 Z2 L (.loop st env (Bm P ps a b))) (w2.putObj L (.loop lp3)):=by
     refine⟨fun n hn h0=>(World.putObj_heap_other (hne h0)).trans (hfr n hn h0).1,by simpa using hsz,?_,?_,?_,fun n h0 hn=>by rw[Le (Ne.symm (hne h0))];exact(hfr n hn h0).2⟩
     .exact hA2.os.trans hA1.os
     .exact hA2.tape.trans hA1.tape
     .exact hA2.output.trans hA1.output
    refine⟨⟨fun n o ho=>?_,fun n hn=>by have:=hR2.lock n hn;simpa using this⟩,hA⟩;by_cases hn:n=L
    .subst hn
     have:B7 Z2 n (.loop st env (Bm P ps a b)) n=some (.loop st env (Bm P ps a b)):=by simp[B7]
     rw[this]at ho;cases ho;refine⟨hnl,_,World.putObj_heap_same (EB hob2),lp3,rfl,q6,fun k v hm=>?_,?_⟩
     .obtain⟨c,h1,h2⟩:=htm k v hm
      exact⟨c,by rw[q1];exact h1,h2.mono hA.hle⟩
     .rw[q1,q2,q3,q4,q5]
      exact⟨hfn,hps,hplt,pu,fz,hra,hrb⟩
    .rw[Le (Ne.symm hn)]at ho
     obtain⟨h1,o',h2,h3⟩:=hR2.own n o ho;exact⟨h1,o',(World.putObj_heap_other hn).trans h2,h3.mono hle⟩
   cases ex2 with
   | normal=>
     simp only[EH]at hx2;subst hx2;obtain⟨q1,q2⟩:=fin .ready {lp with state:= .ready,pending:=none} rfl rfl rfl rfl rfl ⟨rfl,rfl⟩;exact⟨_,_,run_endRound none hob2,.ret (.b true),_,hq2,⟨_,rfl,rfl⟩,q1,q2⟩
   | ret=>
     simp only[EH]at hx2;subst hx2;obtain⟨q1,q2⟩:=fin .ret {lp with state:= .done,pending:=some .ret} rfl rfl rfl rfl rfl ⟨rfl,rfl⟩;exact⟨_,_,run_endRound (some .ret) hob2,.ret (.b false),_,hq2,⟨_,rfl,rfl⟩,q1,q2⟩
   | exit id=>
     simp only[EH]at hx2;subst hx2;obtain⟨q1,q2⟩:=fin (.exit id) {lp with state:= .done,pending:=some (.exit id)} rfl rfl rfl rfl rfl ⟨rfl,rfl⟩;exact⟨_,_,run_endRound (some (.exit id)) hob2,.ret (.b false),_,hq2,⟨_,rfl,rfl⟩,q1,q2⟩
   | Bk v=>
     obtain⟨c,rfl,hvr⟩:=hx2;refine⟨hd2,.Bk v,Z2,hq2,⟨c,rfl,hvr⟩,hR2,?_⟩;exact⟨fun n hn h0=>(hfr n hn h0).1,hsz,hA2.os.trans hA1.os,hA2.tape.trans hA1.tape,hA2.output.trans hA1.output,fun n h0 hn=>(hfr n hn h0).2⟩
end Go.Gl
namespace Go.Gl
variable {P:Program} {F:Nat->Prop} {Z:AE} {pu:List FuncId} {fz:List Nat} {N n:Nat} {r:Option Nat} {ds:List Deferred}
def OM {ops:Array Oper} {K:Env->AE->Prop} {kp:Env->V->AE->Prop} {QQ:Exit->Act->World->Prop} {Z₀:AE} {w₀:World} {L:List Nat}
    (U: ∀env Z a w,K env Z->CY (Hh F Z w) env a.tmps->Rel F Z w->CD F Z₀ w₀ Z w->a.tmps.size=N->a.defers=ds->wpOpsIn (wide r) n P ops QQ L a w)
    (hkp: ∀env v Z c a w,kp env v Z->Ah (Hh F Z w) v c->CY (Hh F Z w) env a.tmps->Rel F Z w->CD F Z₀ w₀ Z w->a.tmps.size=N->a.defers=ds->QQ (.panic [{v:=c,recovered:=false}]) a w) :
    ∀(as:List Ar) (j:Nat),(∀(i:Nat) (ao:Ar),as[i]? =some ao-> ∃o,ops[j+i]? =some o/\Ox P N ops o=some ao)->
    ∀(env:Env) (Z:AE) (a:Act) (w:World),Jw P (as.map (DH pu fz)) K kp env Z->CY (Hh F Z w) env a.tmps->Rel F Z w->CD F Z₀ w₀ Z w->a.tmps.size=N->a.defers=ds->
    wpOpsIn (wide r) n P ops QQ (List.range' j as.length++L) a w
 | [],j,_,env,Z,a,w,h,he,hR,hA,hN,hd=>by
   simp only[List.length_nil,List.range'_zero,List.nil_append];exact U env Z a w h he hR hA hN hd
 | ao::as,j,hget,env,Z,a,w,h,he,hR,hA,hN,hd=>by
   simp only[LF,List.range'_succ,List.cons_append,wpOpsIn];obtain⟨o,hj,h2⟩:=hget 0 ao rfl;simp only[Nat.add_zero]at hj;simp only[hj]
   refine Lx (K:=Jw P (as.map (DH pu fz)) K kp) (kp:=kp env) h2 he hR hN (by
    simp only[FA,Jw]at h;have:=MC h
    rwa [Lw]at this) (fun env' Z' c w' hk he' hR' hA'=>?_) (fun v Z' c w' hk hv hR' hA'=>?_)
   .exact OM U hkp as (j+1) (fun i x hx=>by
     obtain⟨o',h3,h4⟩:=hget (i+1) x (by simpa using hx)
     exact⟨o',by rw[<-h3];congr 1;omega,h4⟩) env' Z' _ w' hk he' hR' (hA.trans hA') (by rw[M4];exact hN) (by rw[put_defers];exact hd)
   .exact hkp env v Z' c a w' hk hv (he.mono hA'.hle) hR' (hA.trans hA') hN hd
def aP (o:Oper):Option Bq:=
 match o.op,o.guard,o.dst with
 | .defer c,none,none=>match c.callee,c.args.toList with
   | .value x,[]=>BY x
   | _,_=>none
 | _,_,_=>none
def Mc (P:Program) (N:Nat) (pu:List FuncId) (fz:List Nat):Code->Option (AV×List Ar×Bq×AV)
 | .seq a (.seq (.region _ ops false) c)=>match res P N pu fz a,ops.toList.getLast?.bind aP,Hi P N ops ops.toList.dropLast,res P N pu fz c with
   | some a',some x,some os,some c'=>some (a',os.map (DH pu fz),x,c')
   | _,_,_,_=>none
 | _=>none
def bA (P:Program) (N:Nat) (pu:List FuncId) (fz:List Nat):Code->Option (AV×List Ar×Bq×AV)
 | .seq a b=>match res P N pu fz a,Mc P N pu fz b with
   | some a',some (b',os,x,c')=>some (.seq [] a' b',os,x,c')
   | _,_=>none
 | _=>none
def Lg (P:Program) (N:Nat) (pu:List FuncId) (fz:List Nat) (c:Code):Option (AV×List Ar×Bq×AV):=
 match Mc P N pu fz c with
 | some r=>some r
 | none=>bA P N pu fz c
def isRec (o:Oper):Option Nat:=
 match o.op,o.guard,o.dst with
 | .call c,none,some k=>match c.callee,c.args.toList with
   | .builtin .recover,[]=>some k
   | _,_=>none
 | _,_,_=>none
def resRec (P:Program) (N:Nat) (pu:List FuncId) (fz:List Nat):Code->Option (Nat×List Ar×AV)
 | .seq (.region _ ops false) c=>match ops.toList with
   | o::l=>match isRec o,Hi P N ops l,res P N pu fz c with
     | some k,some os,some c'=>if k<N then some (k,os.map (DH pu fz),c')else none
     | _,_,_=>none
   | []=>none
 | _=>none
def X3 {c : Code} {k:Nat} {os:List Ar} {ac:AV} (h:resRec P N pu fz c=some (k,os,ac)): ∃id ops c2 o ol os',c= .seq (.region id ops false) c2/\ops.toList=o::ol/\isRec o=some k/\Hi P N ops ol=some os'/\os=os'.map (DH pu fz)/\
    res P N pu fz c2=some ac/\k<N:=by
 unfold resRec at h;split at h
 .rename_i id ops c2
  split at h
  .rename_i o ol hops
   split at h
   .rename_i k os' c' h1 h2 h3
    split at h
    .rename_i hk
     simp only[JM,Prod.mk.injEq]at h;obtain⟨rfl,rfl,rfl⟩:=h;exact⟨id,ops,c2,o,ol,os',rfl,hops,h1,h2,rfl,h3,hk⟩
    .cases h
   .cases h
  .cases h
 .cases h
def NS {c:Code} {a c':AV} {os:List Ar} {x:Bq} (h:Mc P N pu fz c=some (a,os,x,c')): ∃ca id ops cc o os',c= .seq ca (.seq (.region id ops false) cc)/\ops.toList.getLast? =some o/\aP o=some x/\Hi P N ops ops.toList.dropLast=some os'/\os=os'.map (DH pu fz)/\
    res P N pu fz ca=some a/\res P N pu fz cc=some c':=by
 unfold Mc at h;split at h
 .rename_i ca id ops cc
  split at h
  .rename_i a1 x1 os' c1 h1 h2 h3 h4
   simp only[JM,Prod.mk.injEq]at h;obtain⟨rfl,rfl,rfl,rfl⟩:=h;obtain⟨o,h5,h6⟩:=Option.bind_eq_some_iff.1 h2;exact⟨ca,id,ops,cc,o,os',rfl,h5,h6,h3,rfl,h1,h4⟩
  .cases h
 .cases h
def Pre (P:Program) (N:Nat) (pu:List FuncId) (fz:List Nat) (c:Code) (a:AV) (X:Code):Prop:=
 (∃ca,c= .seq ca X/\res P N pu fz ca=some a)\/ ∃c1 c2 a1 a2,c= .seq c1 (.seq c2 X)/\res P N pu fz c1=some a1/\res P N pu fz c2=some a2/\a= .seq [] a1 a2
def X4 {c:Code} {a c':AV} {os:List Ar} {x:Bq} (h:Lg P N pu fz c=some (a,os,x,c')): ∃id ops cc o os',Pre P N pu fz c a (.seq (.region id ops false) cc)/\ops.toList.getLast? =some o/\aP o=some x/\Hi P N ops ops.toList.dropLast=some os'/\os=os'.map (DH pu fz)/\
    res P N pu fz cc=some c':=by
 unfold Lg at h;split at h
 .rename_i r hr
  cases h;obtain⟨ca,id,ops,cc,o,os',rfl,h1,h2,h3,h4,h5,h6⟩:=NS hr;exact⟨id,ops,cc,o,os',.inl ⟨ca,rfl,h5⟩,h1,h2,h3,h4,h6⟩
 .cases c<;>simp only[bA,reduceCtorEq]at h
  rename_i c1 b _;cases h1:res P N pu fz c1 with
  | none=>rw[h1]at h;cases h
  | some a1=>
    cases h2:Mc P N pu fz b with
    | none=>rw[h1,h2]at h;cases h
    | some r=>
      obtain⟨b1,os1,x1,c2⟩:=r;rw[h1,h2]at h;cases h;obtain⟨ca,id,ops,cc,o,os',rfl,k1,k2,k3,k4,k5,k6⟩:=NS h2;exact⟨id,ops,cc,o,os',.inr ⟨c1,ca,a1,b1,rfl,h1,k5,rfl⟩,k1,k2,k3,k4,k6⟩
def dz {r:Option Nat} {c X:Code} {ac:AV} (hp:Pre P N pu fz c (erase ac) X) {Q:Ac->Env->AE->Prop} {env:Env} {Z:AE} {a:Act} {w:World} (h:T P ac Q env Z) (he:CY (Hh F Z w) env a.tmps) (hR:Rel F Z w) (hN:a.tmps.size=N) (hrd:DC r Z w) {Q0:Exit->Act->World->Prop}
    (H: ∀e a1 w1,HM r F Z w N a.defers Q e a1 w1->Exit.then (PS r P X Q0) Q0 e a1 w1):PS r P c Q0 a w:=by
 rcases hp with⟨ca,rfl,h1⟩|⟨c1,c2,a1,a2,rfl,h1,h2,h3⟩
 .exact KY (Cc (FO (r:=r) h1 h he hR hN hrd) H)
 .cases ac<;>simp only[erase,reduceCtorEq,AV.seq.injEq]at h3
  rename_i l b1 b2;obtain⟨_,e1,e2⟩:=h3;subst e1;subst e2;simp only[T]at h;refine KY (Cc (FO (r:=r) h1 h he hR hN hrd) ?_);rintro e a' w' ⟨ex,env',Z',hq,hx,he',hR',hA,hN',hM'⟩;cases ex with
  | normal=>
    simp only[EH]at hx;subst hx;simp only[Ac.andThen]at hq;rcases hq with hq|⟨env2,Z2,f1,f2,hq⟩
    .exact KY (Cc (FO (r:=r) h2 hq (he'.prune l) hR' hN' (hrd.HC hA)) fun e a w hp=>H e a w (hp.trans hA hM'))
    .have hA2:=hA.trans (CD.fz w' f1)
     exact KY (Cc (FO (r:=r) h2 hq ((he'.prune l).fz hR' f1 f2) (hR'.fz f1) hN' (hrd.HC hA2)) fun e a w hp=>H e a w (hp.trans hA2 (hM'.HC (CD.fz (F:=F) w' f1))))
  | ret=>
    simp only[EH]at hx;subst hx;exact H _ _ _ ⟨.ret,env',Z',hq,rfl,he',hR',hA,hN',hM'⟩
  | exit id=>
    simp only[EH]at hx;subst hx;exact H _ _ _ ⟨.exit id,env',Z',hq,rfl,he',hR',hA,hN',hM'⟩
  | Bk v=>
    obtain⟨c,rfl,hv⟩:=hx;exact H _ _ _ ⟨.Bk v,env',Z',hq,⟨c,rfl,hv⟩,he',hR',hA,hN',hM'⟩
def ik {Z₀:AE} {w₀:World} {cs:List Frame}: ∀(ms:List Nat) (fr:Frame) (w:World),ms.Nodup->(∀D∈ms,w₀.heap.size<=D/\Z D=none/\w.heap[D]? =some (.deferred (some [])))->fr.mode≠ .run->fr.defers=ms.map El->
    Rel F Z w->CD F Z₀ w₀ Z w-> ∃w',StepsIn (Machine.fenced P (wide none)) P (lone fr cs w) (lone {fr with defers:=[]} cs w')/\Rel F Z w'/\CD F Z₀ w₀ Z w'
 | [],fr,w,_,_,_,hd,hR,hA=>by
   have:({fr with defers:=[]}:Frame)=fr:=by cases fr;simp_all
   exact⟨w,by rw[this];exact .refl _,hR,hA⟩
 | D ::ms,fr,w,hnd,hms,hm,hd,hR,hA=>by
   obtain⟨h1,h2,h3⟩:=hms D (.head _);have hnd':=List.nodup_cons.1 hnd;have hs:=step_collected (P:=P) (fr:=fr) (cs:=cs) (d:=El D) (ds:=ms.map El) (r:=D) hm hd rfl (run_takeDeferred h3)
   obtain⟨w',q1,q2,q3⟩:=ik (Z₀:=Z₀) (w₀:=w₀) (cs:=cs) ms {fr with defers:=[]++ms.map El} (w.putObj D (.deferred none)) hnd'.2 (fun E hE=>by
    obtain⟨h4,h5,h6⟩:=hms E (.tail _ hE)
    exact⟨h4,h5,(World.putObj_heap_other (fun e=>hnd'.1 (by rw[<-e];exact hE))).trans h6⟩) hm rfl (hR.put h2 h3 rfl) (hA.bF h1)
   exact⟨w',.head (fenced_lone (.inl trivial) (fun _ _=>trivial) Hg) hs q1,q2,q3⟩
def H7 (P:Program) (f:FuncId) (args:List V) (m:Option V) (Z:AE) (Q:AE->Prop):Prop:=
 okF P f=true/\ ∀(F:Nat->Prop) (w:World) (cs:Array Value) (u:FrameMode),Rel F Z w->gT (Hh F Z w) args cs->
  (match m with|none=>u= .returning|some v=> ∃c,Ah (Hh F Z w) v c/\u= .panicking [{v:=c,recovered:=false}])->
  CallsDIn (wide none) 0 P f cs u w fun e u' w'=>(∃v,e= .returned v)/\settle u'= .returning/\ ∃Z',Q Z'/\Rel F Z' w'/\CD F Z w Z' w'
def Pd (Q:AE->Prop):Ac->Env->AE->Prop
 | .normal,_,Z| .ret,_,Z=>Q Z
 | _,_,_=>False
def K0 {f:FuncId} {fn:Func} {k:Nat} {os:List Ar} {l:List Nat} {ac:AV} (hf:P.funcs[f]? =some fn) (hok:okF P f=true) (hb:fn.body.bind (resRec P fn.ntmps pu fz)=some (k,os,erase ac)) (hr:fn.results= #[])
    {args:List V} (hn:args.length<=fn.ntmps) {m:Option V} {Z:AE} {Q:AE->Prop} (h:T P (.seq l (.DB os) ac) (Pd Q) (put (some k) (m.getD .D0) (BA 0 args)) Z):H7 P f args m Z Q:=by
 refine⟨hok,fun F w cs u hR hv hu=>?_⟩;obtain⟨c,hc,hb⟩:=Option.bind_eq_some_iff.1 hb;obtain⟨id,ops,c2,o,ol,os',rfl,hops,h1,h2,rfl,h3,hkN⟩:=X3 hb
 have ho0:ops[0]? =some o:=by
  rw[<-Array.getElem?_toList,hops];rfl
 have hsz:ops.size=1+ol.length:=by
  rw[<-Array.length_toList,hops];simp;omega
 obtain⟨hl1,hl2⟩:=Gz h2
 obtain⟨rv,u',hrv,hu',hst⟩: ∃(rv:Value) (u':FrameMode),Ah (Hh F Z w) (m.getD .D0) rv/\(∀(c₀:Frame) (fs:List Frame),c₀.mode=u->(recoverD (c₀::fs)=some (rv,{c₀ with mode:=u'}::fs)\/(recoverD (c₀::fs)=none/\rv= .nilIface/\u'=u)))/\settle u'= .returning:=by
  cases m with
  | none=>
    simp only at hu;subst hu;exact⟨.nilIface,.returning,rfl,fun c₀ fs hm=> .inr ⟨by simp[recoverD,hm],rfl,rfl⟩,rfl⟩
  | some v=>
    obtain⟨d,hd,rfl⟩:=hu;exact⟨d,.panicking [{v:=d,recovered:=true}],hd,fun c₀ fs hm=> .inl (by simp[recoverD,hm]),rfl⟩
 have he:CY (Hh F Z w) (BA 0 args) (cs++Array.replicate (fn.ntmps - cs.size) undef):=by
  intro k v hg;obtain⟨_,h2⟩:=G1 args 0 k v hg;simp only[Nat.sub_zero]at h2;obtain⟨d,h3,h4⟩:=Bj.1 hv.2 k v h2;simp only[HG]at h3;refine⟨d,?_,h4⟩;rw[Array.getElem?_append_left (by have:=(sm.1 h3).1;exact this)];exact h3
 have hsz0:(cs++Array.replicate (fn.ntmps - cs.size) undef).size=fn.ntmps:=by
  simp only[Array.size_append,Array.size_replicate];have:=hv.1;omega
 obtain⟨cc,hop,hg,hd⟩: ∃cc,o.op= .call cc/\o.guard=none/\o.dst=some k/\cc.callee= .builtin .recover/\cc.args= #[]:=by
  unfold isRec at h1;split at h1
  .rename_i cc k2 e1 e2 e3
   split at h1
   .rename_i e4 e5
    cases h1;exact⟨cc,e1,e2,e3,e4,Array.toList_eq_nil_iff.1 e5⟩
   .cases h1
  .cases h1
 obtain⟨hd,hcal,hargs⟩:=hd
 have he1:CY (Hh F Z w) (put (some k) (m.getD .D0) (BA 0 args)) (({tmps:=cs++Array.replicate (fn.ntmps - cs.size) undef,defers:=[]}:Act).put (some k) rv).tmps:=
  he.put (a:={tmps:=cs++Array.replicate (fn.ntmps - cs.size) undef,defers:=[]}) hsz0 (d:=some k) (fun x hx=>by cases hx;exact hkN) hrv
 simp only[T]at h
 have hW:=OM (P:=P) (F:=F) (r:=none) (n:=0) (ds:=[]) (Z₀:=Z) (w₀:=w) (L:=[]) (pu:=pu) (fz:=fz) (ops:=ops) (QQ:=Exit.then (PS none P c2 (fun e a' w'=>HM none F Z w fn.ntmps [] (Pd Q) e a' w')) (fun e a' w'=>HM none F Z w fn.ntmps [] (Pd Q) e a' w'))
  (N:=fn.ntmps)
  (K:=fun env Z=>Ac.andThen (fun env Z=>Fz (Gl.prune l env) Z (T P ac (Pd Q))) (Pd Q) .normal env Z) (kp:=fun env v Z=>Ac.andThen (fun env Z=>Fz (Gl.prune l env) Z (T P ac (Pd Q))) (Pd Q) (.Bk v) env Z)
  (fun env Z1 a1 w1 hk he hR1 hA1 hN1 hd1=>by
   simp only[wpOpsIn,Exit.then];simp only[Ac.andThen]at hk;rcases hk with hk|⟨env2,Z2,f1,f2,hk⟩
   .refine Cc (FO (r:=none) h3 hk (he.prune l) hR1 hN1 DC.none) fun e a' w' ht=>?_
    exact HM.trans hA1 (by rw[hd1];exact Marks.refl _ _ _ _ _) ht
   .refine Cc (FO (r:=none) h3 hk ((he.prune l).fz hR1 f1 f2) (hR1.fz f1) hN1 DC.none) fun e a' w' ht=>?_
    exact HM.trans (hA1.trans (CD.fz w1 f1)) (by rw[hd1];exact Marks.refl _ _ _ _ _) ht)
  (fun env v Z1 c1 a1 w1 hk hv1 he1 hR1 hA1 hN1 hd1=>hk.elim)
  os' 1 (fun i ao hao=>by
   have hlt:i<ol.length:=by
    rw[hl1];exact(JL.1 hao).1
   obtain⟨x,hx,hy⟩:=hl2 i ol[i] (by simp[hlt]);rw[hao]at hx;cases hx;refine⟨ol[i],?_,hy⟩;rw[<-Array.getElem?_toList,hops,show 1+i=i+1 by omega]
   simp[hlt])
  _ Z _ w h he1 hR (CD.refl _ _ _) (by rw[M4];exact hsz0) rfl
 simp only[Ez]at hW;refine⟨trivial,fun c₀ fs hu0 hroom=>?_⟩
 let b:Frame:={(default:Frame)with fn:=f,kind:= .deferred,roundOf:=none}
 have henter:Frame.enter P f cs .deferred =
  b.atR {tmps:=cs++Array.replicate (fn.ntmps - cs.size) undef,defers:=[]} [.code (.seq (.region id ops false) c2)]:=by
  simp[Frame.enter,Frame.atR,hf,hc,b]
 let a0:Act:={tmps:=cs++Array.replicate (fn.ntmps - cs.size) undef,defers:=[]}
 have s1:StepsIn (Machine.fenced P (wide none)) P (lone (b.atR a0 [.code (.seq (.region id ops false) c2)]) (c₀::fs) w) (lone (b.atR a0 [.code (.region id ops false),.code c2]) (c₀::fs) w):= .one (GV rfl) stepR_seq;have s2:StepsIn (Machine.fenced P (wide none)) P (lone (b.atR a0 [.code (.region id ops false),.code c2]) (c₀::fs) w) (lone (b.atR a0 [.inRegion ops (List.range ops.size),.code c2]) (c₀::fs) w):= .one (GV rfl) stepR_region
 have hrange:List.range ops.size=0::List.range' 1 os'.length:=by
  rw[List.range_eq_range',hsz,hl1,show 1+os'.length=os'.length+1 by omega,List.range'_succ]
 have hwant:Region.wanted o (yielded ops a0.tmps)=true:=by simp[Region.wanted,hg]
 have hrun:(execOp a0.eval o).run P w= .ok .recover w:=by
  unfold execOp;simp only[hop];simp only[resolve,hcal,hargs,invoke,builtin,DU,FF,G9]
 have s3:StepsIn (Machine.fenced P (wide none)) P (lone (b.atR a0 [.inRegion ops (0::List.range' 1 os'.length),.code c2]) (c₀::fs) w) (lone (b.atR (a0.put (some k) rv) [.inRegion ops (List.range' 1 os'.length),.code c2]) ({c₀ with mode:=u'}::fs) w):=by
  refine .one (fenced_lone (.inl trivial) (fun _ _=>trivial) Hg) (step_lone_go ?_);have hgop:=stepGR_op (P:=P) (b:=b) (a:=a0) (k:=[.code c2]) (cs:=c₀::fs) (w:=w) (rest:=List.range' 1 os'.length) ho0 hwant;rw[show b.roundOf=none from rfl,Oper.semAt_none]at hgop;rw[hgop]
  have hfin: ∀v,(b.atR a0 (.inRegion ops (0::List.range' 1 os'.length):: [.code c2])).finish v=b.atR (a0.put (some k) v) (.inRegion ops (List.range' 1 os'.length):: [.code c2]):=by
   intro v;rw[Frame.finish_atR,ho0];simp only[Option.bind_some,hd]
  have htr:=tryRecover_deferred (fr:=b.atR a0 (.inRegion ops (0::List.range' 1 os'.length):: [.code c2])) rfl (c₀::fs);have hrn:(b.atR a0 (.inRegion ops (0::List.range' 1 os'.length):: [.code c2])).roundOf=none:=rfl;rw[<-hfin];rcases hu' c₀ fs hu0 with hrec|⟨hrec,rfl,rfl⟩
  .rw[hrec]at htr
   simp[stepG.apply,hrun,htr,hrn]
  .rw[hrec]at htr
   have hcm:({c₀ with mode:=u'}:Frame)=c₀:=by cases c₀;simp_all
   rw[hcm];simp[stepG.apply,hrun,htr,hrn]
 have hres0: ∀(tm:Array Value) (w:World),(results fn tm).run P w= .ok (.tuple #[]) w:=fun tm w=>by
  rw[Lu,hr];simp
 have out: ∀(m0:Machine) (a2:Act) (w2:World) (todo:List Item) (Z2:AE),StepsIn (Machine.fenced P (wide none)) P m0 (lone {b.atR a2 todo with mode:= .returning} ({c₀ with mode:=u'}::fs) w2)->Q Z2->Rel F Z2 w2->CD F Z w Z2 w2->
  Marks none w Z2 w2 [] a2.defers-> ∃e u'' w' fr,((∃v,e=Ending.returned v)/\settle u''= .returning/\ ∃Z',Q Z'/\Rel F Z' w'/\CD F Z w Z' w')/\
   ComesIn (Machine.fenced P (wide none)) P m0 (lone fr ({c₀ with mode:=u''}::fs) w') e/\fr.kind= .deferred/\fr.fn=f/\fr.going P w' e:=fun m0 a2 w2 todo Z2 hs hq hR2 hA2 ⟨ms,hms,hnd,hD,_⟩=>by
  obtain⟨w',q1,q2,q3⟩:=ik (P:=P) (cs:={c₀ with mode:=u'}::fs) ms {b.atR a2 todo with mode:= .returning} w2 hnd hD (by simp) (by simpa[Frame.atR]using hms) hR2 hA2;exact⟨.returned (.tuple #[]),u',w',_,⟨⟨_,rfl⟩,hst,Z2,hq,q2,q3⟩,hs.trans q1,rfl,rfl,rfl,rfl,fn,hf,hres0 _ _⟩
 have fin: ∀(m0:Machine) (e:Exit) (a2:Act) (w2:World),HM none F Z w fn.ntmps [] (Pd Q) e a2 w2->ArrivesIn (Machine.fenced P (wide none)) P m0 b [] ({c₀ with mode:=u'}::fs) e a2 w2->
  ∃ e u'' w' fr,((∃v,e=Ending.returned v)/\settle u''= .returning/\ ∃Z',Q Z'/\Rel F Z' w'/\CD F Z w Z' w')/\
    ComesIn (Machine.fenced P (wide none)) P m0 (lone fr ({c₀ with mode:=u''}::fs) w') e/\fr.kind= .deferred/\fr.fn=f/\fr.going P w' e:=fun m0 e a2 w2 ⟨ex,env,Z2,hq,hx,he2,hR2,hA2,hN2,hM2⟩ harr=>by
  cases ex with
  | exit id=>exact hq.elim
  | Bk v=>exact hq.elim
  | normal=>
    simp only[EH]at hx;subst hx;exact out m0 a2 w2 [] Z2 (StepsIn.trans harr (.one (GV rfl) (stepR_end rfl))) hq hR2 hA2 hM2
  | ret=>
    simp only[EH]at hx;subst hx;obtain⟨todo,hs⟩:=harr.1 rfl;exact out m0 a2 w2 todo Z2 hs hq hR2 hA2 hM2
 obtain⟨e,a1,w1,hq,harr⟩:=wp_opsIn _ _ _ hW b [.code c2] ({c₀ with mode:=u'}::fs) rfl trivial Hg;rw[henter];have s123:=(s1.trans s2).trans (hrange ▸ s3);have fin': ∀ {m1:Machine},StepsIn (Machine.fenced P (wide none)) P m1 m1:=fun {m1}=> .refl m1
 cases e with
 | normal=>
   obtain⟨e2,a2,w2,hq2,harr2⟩:=hq b [] ({c₀ with mode:=u'}::fs) rfl ⟨fn,hf⟩;exact fin _ e2 a2 w2 hq2 (.of_steps (s123.trans harr) harr2)
 | ret=>
   obtain⟨ex,env,Z2,hq,hx,he2,hR2,hA2,hN2,hM2⟩:=hq;obtain⟨todo,hs⟩:=harr.1 rfl;refine out _ a1 w1 todo Z2 (s123.trans hs) ?_ hR2 hA2 hM2;cases ex<;>first|exact hq|exact hq.elim
 | exit id=>
   obtain⟨ex,env,Z2,hq,hx,_⟩:=hq;cases ex<;>first|exact hq.elim|(simp[EH]at hx)
 | panic ch=>
   obtain⟨ex,env,Z2,hq,hx,_⟩:=hq;cases ex<;>first|exact hq.elim|(simp[EH]at hx)
 | goto l=>
   obtain⟨ex,env,Z2,hq,hx,_⟩:=hq;cases ex<;>first|exact hq.elim|(simp[EH]at hx)
 | outgrown=>
   obtain⟨ex,env,Z2,hq,hx,_⟩:=hq;cases ex<;>first|exact hq.elim|(simp[EH]at hx)
end Go.Gl
namespace Go.Gl
variable {P:Program} {F:Nat->Prop} {Z:AE} {pu:List FuncId} {fz:List Nat} {N n:Nat} {r:Option Nat} {ds:List Deferred}
def te (P:Program) (g:FuncId) (cap:List V) (AG:List RS) (Q:R->AE->Prop):Ac->Env->AE->Prop
 | .normal,env,Z| .ret,env,Z=>H7 P g cap none Z fun Z'=>Vt Z' env AG fun vs=>Am Z' (FC vs) Q
 | .Bk v,env,Z=>H7 P g cap (some v) Z fun Z'=>Vt Z' env AG fun vs=>Am Z' (FC vs) Q
 | .exit _,_,_=>False
def QP (P:Program) (x:Bq) (l:List Nat) (ac:AV) (AG:List RS) (Q:R->AE->Prop) (env:Env) (Z:AE):Prop:=
 wv (ev env x) fun vf=>match vf with
  | .f (.func g) [] cap=>T P ac (te P g cap AG Q) (prune l env) Z
  | _=>False
def JE {f : FuncId} {fn:Func} {aA aC:AV} {os:List Ar} {x:Bq} {l1 l2:List Nat} {AG:List RS} (hf:P.funcs[f]? =some fn) (hok:okF P f=true)
    (hb:fn.body.bind (Lg P fn.ntmps pu fz)=some (erase aA,os,x,erase aC)) (hr:Np P fn.results.toList=some AG)
    {args:List V} (hn:args.length<=fn.ntmps) {Z:AE} {Q:R->AE->Prop} (h:T P (.seq l1 aA (.DB os)) (Cd (QP P x l2 aC AG Q)) (BA 0 args) Z):Au P f args Z Q:=by
 refine⟨hok,fun F w cs hR hv=>?_⟩;obtain⟨c,hc,hb⟩:=Option.bind_eq_some_iff.1 hb;obtain⟨id,ops,cc,o,os',hra,hlast,hdf,hos,rfl,hrc⟩:=X4 hb;refine callsIn_wide (n:=0) |>.1 (G8 hf hc ?_)
 have he:CY (Hh F Z w) (BA 0 args) (cs++Array.replicate (fn.ntmps - cs.size) undef):=by
  intro k v hg;obtain⟨_,h2⟩:=G1 args 0 k v hg;simp only[Nat.sub_zero]at h2;obtain⟨d,h3,h4⟩:=Bj.1 hv.2 k v h2;simp only[HG]at h3;refine⟨d,?_,h4⟩;rw[Array.getElem?_append_left (by have:=(sm.1 h3).1;exact this)];exact h3
 have hsz:(cs++Array.replicate (fn.ntmps - cs.size) undef).size=fn.ntmps:=by
  simp only[Array.size_append,Array.size_replicate];have:=hv.1;omega
 obtain⟨cl,xo,hop,hg,hd,hcal,hargs,hxo⟩: ∃cl xo,o.op= .defer cl/\o.guard=none/\o.dst=none/\cl.callee= .value xo/\cl.args= #[]/\BY xo=some x:=by
  unfold aP at hdf;split at hdf
  .rename_i cl e1 e2 e3
   split at hdf
   .rename_i xo e4 e5
    exact⟨cl,xo,e1,e2,e3,e4,Array.toList_eq_nil_iff.1 e5,hdf⟩
   .cases hdf
  .cases hdf
 obtain⟨hl1,hl2⟩:=Gz hos;have hne:ops.toList≠[]:=fun e=>by rw[e]at hlast;cases hlast
 have hsplit:ops.toList=ops.toList.dropLast++[o]:=by
  have h1:=List.dropLast_concat_getLast hne;rw[List.getLast?_eq_some_getLast hne]at hlast;simp only[JM]at hlast;rw[hlast]at h1;exact h1.symm
 have hsize:ops.size=os'.length+1:=by
  rw[<-Array.length_toList,hsplit];simp[<-hl1]
 have hlasto:ops[os'.length]? =some o:=by
  rw[<-Array.getElem?_toList,hsplit,<-hl1];simp
 simp only[T]at h;refine dz (r:=none) (a:={tmps:=cs++Array.replicate (fn.ntmps - cs.size) undef,defers:=[]}) hra h he hR hsz DC.none ?_;rintro e a1 w1 ⟨ex,env1,Z1,hq,hx,he1,hR1,hA1,hN1,hM1⟩;cases ex with
 | exit id=>exact hq.elim
 | ret=>exact hq.elim
 | Bk v=>exact hq.elim
 | normal=>
   simp only[EH]at hx;subst hx;simp only[Ac.andThen]at hq
   obtain⟨env1,Z1,he1,hR1,hA1,hM1,hq⟩: ∃env2 Z2,CY (Hh F Z2 w1) env2 a1.tmps/\Rel F Z2 w1/\CD F Z w Z2 w1/\Marks none w Z2 w1 [] a1.defers/\Jw P (os'.map (DH pu fz)) (fun env Z=>Cd (QP P x l2 aC AG Q) .normal env Z) (fun env v Z=>Cd (QP P x l2 aC AG Q) (.Bk v) env Z) env2 Z2:=by
    rcases hq with hq|⟨env2,Z2,f1,f2,hq⟩
    .exact⟨_,_,he1.prune l1,hR1,hA1,hM1,hq⟩
    .exact⟨env2,Z2,(he1.prune l1).fz hR1 f1 f2,hR1.fz f1,hA1.trans (CD.fz w1 f1),hM1.HC (CD.fz (F:=F) w1 f1),hq⟩
   refine KY (Ip (n:=0) (wpIn_region ?_));rw[List.range_eq_range',hsize,<-List.range'_append_1];simp only[List.range'_one,HG]
   refine OM (P:=P) (F:=F) (r:=none) (n:=0) (ds:=a1.defers) (Z₀:=Z1) (w₀:=w1) (pu:=pu) (fz:=fz) (N:=fn.ntmps) (K:=fun env Z=>Cd (QP P x l2 aC AG Q) .normal env Z)
    (kp :=fun env v Z=>Cd (QP P x l2 aC AG Q) (.Bk v) env Z) (fun env2 Z2 a2 w2 hk he2 hR2 hA2 hN2 hd2=>?_) (fun _ _ _ _ _ _ h=>h.elim) os' 0 (fun i ao hao=>by
     have hlt:i<ops.toList.dropLast.length:=by
      rw[hl1];exact(JL.1 hao).1
     obtain⟨y,hx,hy⟩:=hl2 i _ (Cs hlt);rw[hao]at hx;cases hx;refine⟨_,?_,hy⟩;rw[<-Array.getElem?_toList,HG];have e1:ops.toList[i]? =(ops.toList.dropLast++[o])[i]? :=congrArg (fun l=>l[i]?) hsplit
     rw[e1,cz hlt,Cs hlt]) _ Z1 a1 w1 hq he1 hR1 (CD.refl _ _ _) hN1 rfl
   obtain⟨vf,hvf,hk⟩:=WO hk
   obtain⟨g,cap,rfl,hk⟩: ∃g cap,vf= .f (.func g) [] cap/\T P aC (te P g cap AG Q) (prune l2 env2) Z2:=by
    split at hk
    .exact⟨_,_,rfl,hk⟩
    .exact hk.elim
   obtain⟨f',c',e1,e2,e3,e4,e5⟩:=Ap he2 hxo hvf;have e2':f'= #[]:=Array.size_eq_zero_iff.1 e2;subst e2';have hwant:Region.wanted o (yielded ops a2.tmps)=true:=by simp[Region.wanted,hg]
   simp only[wpOpsIn,hlasto];rw[if_pos hwant];refine⟨fun _ _=>trivial,?_⟩
   have hrun:(o.semAt (wide none).round a2.eval).run P w2= .ok (.defer {target:= .fn (.func g) c',args:= #[]}) w2:=by
    show(execOp a2.eval o).run P w2=_;unfold execOp;simp only[hop,resolve,hcal,hargs,e1,Deferred.ofValue,DU,FF,G9];simp
   rw[hrun];simp only[Oper.uponIn,hd,Act.put,Exit.then];obtain⟨m1,hm1,hnd1,hD1,_⟩:=hM1;simp only[Ez]at hm1;refine Cc (FO (r:=none) hrc hk (he2.prune l2) hR2 hN2 DC.none) ?_;rintro e a3 w3 ⟨ex,env3,Z3,hq3,hx3,he3,hR3,hA3,hN3,m3,hm3,hnd3,hD3,_⟩;simp only[hd2,hm1]at hm3
   have last: ∀(w5:World) (Z5:AE),CD F Z2 w2 Z5 w5->aH (Hh F Z3 w3) (Hh F Z5 w5)->Rel F Z5 w5->(Vt Z5 env3 AG fun vs=>Am Z5 (FC vs) Q)->
    LeavesInM (wide none) 0 P fn a3.tmps (fun e w'=> ∃r Z',Q r Z'/\WL (Hh F Z' w') r e/\Rel F Z' w'/\CD F Z w Z' w') (m1.map El) .returning w5:=fun w5 Z5 hA5 hle hR5 hw=>by
    rw[<-Ez (m1.map El)];have hA25:=hA2.trans hA5;refine DT (Z₀:=Z) (w₀:=w) (by simp) m1 w5 hnd1 (fun D hD=>?_) hR5 (hA1.trans hA25) fun w6 q1 q2 q3=>?_
    .obtain⟨h4,h5,h6⟩:=hD1 D hD
     exact⟨h4,hA25.names D h5 (EB h6),(hA25.frame D (EB h6) h5).trans h6⟩
    .obtain⟨c,vs,h5,h6,vf,Z'',h2,h3,h4⟩:=NR (P:=P) hr q1 ((he3.mono hle).mono q3) hw
     exact⟨c,h5,.ret vf,Z'',h4,⟨c,rfl,h3.rel q1 h2 h6⟩,q1.drop h2,q2.trans (CD.drop w6 h2)⟩
   have main: ∀(m:Option V) (u:FrameMode),u≠ .run->(H7 P g cap m Z3 fun Z'=>Vt Z' env3 AG fun vs=>Am Z' (FC vs) Q)->
    (∀w4,aH (Hh F Z3 w3) (Hh F Z3 w4)->(match m with|none=>u= .returning|some v=> ∃c,Ah (Hh F Z3 w4) v c/\u= .panicking [{v:=c,recovered:=false}]))->
    LeavesInM (wide none) 0 P fn a3.tmps (fun e w'=> ∃r Z',Q r Z'/\WL (Hh F Z' w') r e/\Rel F Z' w'/\CD F Z w Z' w') a3.defers u w3:=fun m u hu hD hm=>by
    rw[hm3];refine DT (Z₀:=Z2) (w₀:=w2) hu m3 w3 hnd3 hD3 hR3 hA3 fun w4 q1 q2 q3=>?_
    refine⟨hu,.inr ⟨fun hd=>by simp[wide,Fence.wide]at hd,.func g,c',g,c',rfl,?_,fun _ _=>trivial,?_⟩⟩
    .simp only[invoke,Array.empty_append]
     exact JG hD.1 _ _
    .obtain⟨k1,k2⟩:=hD.2 F w4 c' u q1 ⟨e4,Ba.mono q3 (fun _ _ e=>e) _ _ (Ba.mono hA3.hle (fun _ _ e=>e) _ _ e5)⟩ (hm w4 q3)
     refine⟨k1,fun c cs hcu hroom=>?_⟩;obtain⟨e,u',w5,fr,⟨⟨v,rfl⟩,hst,Z5,hw,hR5,hA5⟩,hrest⟩:=k2 c cs hcu hroom;refine⟨.returned v,u',w5,fr,?_,hrest⟩;simp only;rw[hst];exact last w5 Z5 (q2.trans hA5) (fun b o c hc=>hA5.hle b o c (q3 b o c hc)) hR5 hw
   cases ex with
   | exit id=>exact hq3.elim
   | normal=>
     simp only[EH]at hx3;subst hx3;exact main none .returning (by simp) hq3 fun _ _=>rfl
   | ret=>
     simp only[EH]at hx3;subst hx3;exact main none .returning (by simp) hq3 fun _ _=>rfl
   | Bk v=>
     obtain⟨c,rfl,hv3⟩:=hx3;exact main (some v) (.panicking [{v:=c,recovered:=false}]) (by simp) hq3 fun w4 hle=>⟨c,hv3.mono hle,rfl⟩
end Go.Gl
namespace Go.Gl
variable {P:Program} {Z:AE} {env env':Env}
abbrev pk:List Nat->Env->(Env->Prop)->Prop
 | [],_,k=>k []
 | s::r,env,k=>match get s env with
   | some v=>pk r env fun e=>k ((s,v)::e)
   | none=>pk r env k
def GP: ∀ {l:List Nat} {env:Env} {k:Env->Prop},pk l env k=k (prune l env)
 | [],_,_=>rfl
 | s::r,env,k=>by
   simp only[pk,prune];cases get s env with
   | none=>exact GP (l:=r)
   | some v=>exact GP (l:=r)
abbrev WM:=(Ac->Env->AE->Prop)->Env->AE->Prop
def WT (P:Program) (ops:List Ar) (K:Env->AE->Prop) (kp:Env->V->AE->Prop):Env->AE->Prop:=
 List.rec (motive:=fun _=>Env->AE->Prop) K (fun o _ ih env Z=>Im P o env Z (fun v Z'=>ih (put o.dst v env) Z') (kp env)) ops
def sb {P:Program} {K:Env->AE->Prop} {kp:Env->V->AE->Prop}: ∀(ops:List Ar) (env:Env) (Z:AE),WT P ops K kp env Z=Jw P ops K kp env Z
 | [],_,_=>rfl
 | o::r,env,Z=>by
   have:(fun(v:V) (Z':AE)=>WT P r K kp (put o.dst v env) Z')=fun v Z'=>Jw P r K kp (put o.dst v env) Z':=funext fun v=>funext fun Z'=>sb r _ _
   show Im P o env Z (fun v Z'=>WT P r K kp (put o.dst v env) Z') (kp env)=_;rw[this];rfl
def WD (P:Program) (ops:List Cr) (K:Env->AE->Prop) (kp:V->AE->Prop):Env->AE->Prop:=
 List.rec (motive:=fun _=>Env->AE->Prop) K (fun d _ ih env Z=>Im P d.o env Z (fun v Z'=>EX P d.re (put d.o.dst v env) Z'/\ih (put d.o.dst v env) Z') kp) ops
def sc {P:Program} {K:Env->AE->Prop} {kp:V->AE->Prop}: ∀(ops:List Cr) (env:Env) (Z:AE),WD P ops K kp env Z=Dc P ops K kp env Z
 | [],_,_=>rfl
 | d::r,env,Z=>by
   have:(fun(v:V) (Z':AE)=>EX P d.re (put d.o.dst v env) Z'/\WD P r K kp (put d.o.dst v env) Z')=fun v Z'=>EX P d.re (put d.o.dst v env) Z'/\Dc P r K kp (put d.o.dst v env) Z':=funext fun v=>funext fun Z'=>by rw[sc r]
   show Im P d.o env Z (fun v Z'=>EX P d.re (put d.o.dst v env) Z'/\WD P r K kp (put d.o.dst v env) Z') kp=_;rw[this];rfl
def wSeq (l:List Nat) (iha ihb:WM):WM:=fun Q env Z=>iha (Ac.andThen (fun env Z=>pk l env fun E=>Fz E Z (ihb Q)) Q) env Z
def AAZ (c:Bq) (iha ihb:WM):WM:=fun Q env Z=>match ev env c with
    | some (.b t)=>(t=true->iha Q env Z)/\(t=false->ihb Q env Z)
    | _=>False
def Af (l:List Nat) (_:AV) (iha:WM) (Q:Ac->Env->AE->Prop) (E:Env) (Z:AE):Prop:= ∃I:Nat->Env->AE->Prop,(∃n,I n E Z)/\
 ∀n env Z,I n env Z->iha (Ac.andThen (fun env Z=>pk l env fun E'=> ∃m,m<n/\I m E' Z) Q) env Z
def AAY (l:List Nat) (a:AV) (iha:WM):WM:=fun Q env Z=>pk l env fun E=>Af l a iha Q E Z
def tf (P:Program) (l:List Nat) (g:Bq) (ps:List Nat) (a b:AV):WM:=fun Q env Z=>match ev env g with
    | some (.f (.func gf) [] cap)=>pk l env fun E=> ∀L,Z L=none->Au P gf (.f (.yield L) [] []::cap) (B7 Z L (.loop .ready E (Bm P ps a b))) (Lp L Q env)
    | _=>False
def W (P:Program) (c:AV):WM:=
 AV.rec (motive:=fun _=>WM)
  (fun Q env Z=>Q .normal env Z)
  (fun ops Q env Z=>WT P ops (fun env Z=>Q .normal env Z) (fun env v Z=>Q (.Bk v) env Z) env Z)
  (fun l ops Q env Z=>WD P ops (fun env Z=>pk l env fun E=>Q .normal E Z) (fun v Z=> ∀Z',Sub Z Z'->Q (.Bk v) [] Z') env Z)
  (fun l _ _ iha ihb=>wSeq l iha ihb)
  (fun c _ _ iha ihb=>AAZ c iha ihb)
  (fun id _ ih Q env Z=>ih (Ac.inBlock id Q) env Z)
  (fun l a ih=>AAY l a ih)
  (fun id Q env Z=>Q (.exit id) env Z)
  (fun Q env Z=>Q .ret env Z)
  (fun _ ih=>ih)
  (fun l g ps a b _ _=>tf P l g ps a b) c
def kW {c:Bq} {a b:AV} {Q:Ac->Env->AE->Prop}:W P (.cond c a b) Q env Z=match ev env c with
    | some (.b t)=>(t=true->W P a Q env Z)/\(t=false->W P b Q env Z)
    | _=>False:=rfl
def kU {l:List Nat} {a:AV} {Q:Ac->Env->AE->Prop}:W P (.loop l a) Q env Z=pk l env fun E=> ∃I:Nat->Env->AE->Prop,(∃n,I n E Z)/\
 ∀n env Z,I n env Z->W P a (Ac.andThen (fun env Z=>pk l env fun E'=> ∃m,m<n/\I m E' Z) Q) env Z:=rfl
def sa {ops:List Ar} {Q:Ac->Env->AE->Prop}:W P (.DB ops) Q env Z=Jw P ops (fun env Z=>Q .normal env Z) (fun env v Z=>Q (.Bk v) env Z) env Z:=sb ops env Z
def kV {l:List Nat} {ops:List Cr} {Q:Ac->Env->AE->Prop}:W P (.He l ops) Q env Z=Dc P ops (fun env Z=>pk l env fun E=>Q .normal E Z) (fun v Z=> ∀Z',Sub Z Z'->Q (.Bk v) [] Z') env Z:=sc ops env Z
def Xs {l:List Nat} {g:Bq} {ps:List Nat} {a b:AV} {Q:Ac->Env->AE->Prop}:W P (.D8 l g ps a b) Q env Z=match ev env g with
    | some (.f (.func gf) [] cap)=>pk l env fun E=> ∀L,Z L=none->Au P gf (.f (.yield L) [] []::cap) (B7 Z L (.loop .ready E (Bm P ps a b))) (Lp L Q env)
    | _=>False:=rfl
def ZH: ∀ {c:AV} {Q Q':Ac->Env->AE->Prop} {env:Env} {Z:AE},W P c Q env Z->(∀ex env Z,Q ex env Z->Q' ex env Z)->T P c Q' env Z:=by
 intro c
 induction c with
 | skip=>intro Q Q' env Z h hm;exact hm _ _ _ h
 | ret=>intro Q Q' env Z h hm;exact hm _ _ _ h
 | exit id=>intro Q Q' env Z h hm;exact hm _ _ _ h
 | DB ops=>intro Q Q' env Z h hm;rw[sa]at h;exact Oo (fun _ _ h=>hm _ _ _ h) (fun _ _ _ h=>hm _ _ _ h) h
 | He l ops=>intro Q Q' env Z h hm;rw[kV]at h;exact MB (fun _ _ h=>hm _ _ _ (by rw[GP]at h;exact h)) (fun _ _ h Z' hs=>hm _ _ _ (h Z' hs)) h
 | seq l a b iha ihb=>
   intro Q Q' env Z h hm;refine iha h fun ex env Z hq=>?_
   cases ex with
   | normal=>simp only[Ac.andThen]at *;rw[GP]at hq;exact Fz.mono hq fun _ _ h=>ihb h hm
   | exit id=>exact hm _ _ _ hq
   | ret=>exact hm _ _ _ hq
   | Bk v=>exact hm _ _ _ hq
 | cond c a b iha ihb=>
   intro Q Q' env Z h hm;simp only[T,kW]at *;split at h
   .rename_i he
    rw[he];exact⟨fun e=>iha (h.1 e) hm,fun e=>ihb (h.2 e) hm⟩
   .exact h.elim
 | block id a ih=>
   intro Q Q' env Z h hm;refine ih h fun ex env Z hq=>?_
   cases ex with
   | normal=>exact hm _ _ _ hq
   | exit id'=>
     simp only[Ac.inBlock]at *;cases hb:Nat.beq id' id<;>rw[hb]at hq<;>exact hm _ _ _ hq
   | ret=>exact hm _ _ _ hq
   | Bk v=>exact hm _ _ _ hq
 | scope a ih=>intro Q Q' env Z h hm;exact ih h hm
 | loop l a ih=>
   intro Q Q' env Z h hm;rw[kU,GP]at h;obtain⟨I,h0,hr⟩:=h;refine⟨I,h0,fun n env Z hI=>ih (hr n env Z hI) fun ex env Z hq=>?_⟩;cases ex with
   | normal=>simp only[Ac.andThen]at *;rw[GP]at hq;exact hq
   | exit id=>exact hm _ _ _ hq
   | ret=>exact hm _ _ _ hq
   | Bk v=>exact hm _ _ _ hq
 | D8 l g ps a b _ _=>
   intro Q Q' env Z h hm;simp only[T,Xs]at *;split at h
   .rename_i he
    rw[GP]at h;rw[he];refine fun L hL=>(h L hL).mono fun r Z' hq=>?_
    cases r with
    | ret v=>
      obtain⟨st,env1,ok,h1,h2⟩:=hq;refine⟨st,env1,ok,h1,?_⟩;cases st<;>exact hm _ _ _ h2
    | Bk v=>exact hm _ _ _ hq
   .exact h.elim
def np {c:AV} {Q:Ac->Env->AE->Prop} (h:W P c Q env Z):T P c Q env Z:=ZH h fun _ _ _ h=>h
def kT: ∀ {c:AV} {Q Q':Ac->Env->AE->Prop} {env:Env} {Z:AE},W P c Q env Z->(∀ex env Z,Q ex env Z->Q' ex env Z)->W P c Q' env Z:=by
 intro c
 induction c with
 | skip=>intro Q Q' env Z h hm;exact hm _ _ _ h
 | ret=>intro Q Q' env Z h hm;exact hm _ _ _ h
 | exit id=>intro Q Q' env Z h hm;exact hm _ _ _ h
 | DB ops=>intro Q Q' env Z h hm;rw[sa]at *;exact Oo (fun _ _ h=>hm _ _ _ h) (fun _ _ _ h=>hm _ _ _ h) h
 | He l ops=>intro Q Q' env Z h hm;rw[kV]at *;exact MB (fun _ _ h=>by rw[GP]at *;exact hm _ _ _ h) (fun _ _ h Z' hs=>hm _ _ _ (h Z' hs)) h
 | seq l a b iha ihb=>
   intro Q Q' env Z h hm;refine iha h fun ex env Z hq=>?_
   cases ex with
   | normal=>simp only[Ac.andThen]at *;rw[GP]at *;exact Fz.mono hq fun _ _ h=>ihb h hm
   | exit id=>exact hm _ _ _ hq
   | ret=>exact hm _ _ _ hq
   | Bk v=>exact hm _ _ _ hq
 | cond c a b iha ihb=>
   intro Q Q' env Z h hm;simp only[kW]at *;split at h
   .exact⟨fun e=>iha (h.1 e) hm,fun e=>ihb (h.2 e) hm⟩
   .exact h.elim
 | block id a ih=>
   intro Q Q' env Z h hm;refine ih h fun ex env Z hq=>?_
   cases ex with
   | normal=>exact hm _ _ _ hq
   | exit id'=>
     simp only[Ac.inBlock]at *;cases hb:Nat.beq id' id<;>rw[hb]at hq<;>exact hm _ _ _ hq
   | ret=>exact hm _ _ _ hq
   | Bk v=>exact hm _ _ _ hq
 | scope a ih=>intro Q Q' env Z h hm;exact ih h hm
 | loop l a ih=>
   intro Q Q' env Z h hm;simp only[kU]at *;rw[GP]at *;obtain⟨I,h0,hr⟩:=h;refine⟨I,h0,fun n env Z hI=>ih (hr n env Z hI) fun ex env Z hq=>?_⟩;cases ex with
   | normal=>exact hq
   | exit id=>exact hm _ _ _ hq
   | ret=>exact hm _ _ _ hq
   | Bk v=>exact hm _ _ _ hq
 | D8 l g ps a b _ _=>
   intro Q Q' env Z h hm;simp only[Xs]at *;split at h
   .rw[GP]at *
    refine fun L hL=>(h L hL).mono fun r Z' hq=>?_
    cases r with
    | ret v=>
      obtain⟨st,env1,ok,h1,h2⟩:=hq;refine⟨st,env1,ok,h1,?_⟩;cases st<;>exact hm _ _ _ h2
    | Bk v=>exact hm _ _ _ hq
   .exact h.elim
abbrev iX (P:Program) (l:List Nat) (a:AV) (Q:Ac->Env->AE->Prop) (E:Env) (Z:AE):Prop:=Af l a (W P a) Q E Z
def upW {l:List Nat} {a:AV} {Q:Ac->Env->AE->Prop} {E:Env} (len:Nat) (I:Nat->Env->AE->Prop) (h0:I 0 E Z)
    (h: ∀k env Z,k<=len->I k env Z->W P a (Ac.andThen (fun env Z=>pk l env fun E'=>k<len/\I (k+1) E' Z) Q) env Z):iX P l a Q E Z:=by
 refine⟨fun n env Z=> ∃k,k<=len/\n=len - k/\I k env Z,⟨len,0,Nat.zero_le _,by omega,h0⟩,fun n env Z ⟨k,hk,hn,hI⟩=>?_⟩;refine kT (h k env Z hk hI) fun ex env' Z' hq=>?_
 cases ex with
 | normal=>
   simp only[Ac.andThen]at *;rw[GP]at *;exact⟨len - (k+1),by have:=hq.1;omega,k+1,hq.1,rfl,hq.2⟩
 | exit id=>exact hq
 | ret=>exact hq
 | Bk v=>exact hq
def gy (P:Program) (x:Bq) (l:List Nat) (ac:AV) (AG:List RS) (Q:R->AE->Prop) (env:Env) (Z:AE):Prop:=
 wv (ev env x) fun vf=>match vf with
  | .f (.func g) [] cap=>pk l env fun E=>W P ac (te P g cap AG Q) E Z
  | _=>False
def vL {x:Bq} {l:List Nat} {ac:AV} {AG:List RS} {Q:R->AE->Prop} (h:gy P x l ac AG Q env Z):QP P x l ac AG Q env Z:=by
 unfold gy at h;unfold QP;refine Bw h fun vf h=>?_
 split at h
 .rw[GP]at h;exact np h
 .exact h.elim
def LQ {K K':Env->AE->Prop} (h: ∀env Z,K env Z->K' env Z): ∀ex env Z,Cd K ex env Z->Cd K' ex env Z:=fun ex env Z hq=>by
 cases ex<;>first|exact h _ _ hq|exact hq.elim
def sd {c:AV} {x:Bq} {l:List Nat} {ac:AV} {AG:List RS} {Q:R->AE->Prop} (h:W P c (Cd (gy P x l ac AG Q)) env Z):T P c (Cd (QP P x l ac AG Q)) env Z:=
 ZH h (LQ fun _ _ h=>vL h)
def GL {l:List Nat} {a b:AV} {Q:Ac->Env->AE->Prop} (h: ∀K:Env->AE->Prop,(∀env Z,(pk l env fun E=>W P b Q E Z)->K env Z)->W P a (Ac.andThen K Q) env Z):W P (.seq l a b) Q env Z:=
 h _ fun _ _ h=>by rw[GP]at *;exact .inl h
def zO {l:List Nat} {a b:AV} {Q:Ac->Env->AE->Prop} (h: ∀K:Env->AE->Prop,(∀env Z,(pk l env fun E=>Fz E Z (W P b Q))->K env Z)->W P a (Ac.andThen K Q) env Z):W P (.seq l a b) Q env Z:=
 h _ fun _ _ h=>h
def DP {ops:List Ar} {Q:Ac->Env->AE->Prop} (h: ∀(KR:Env->AE->Prop) (KP:Env->V->AE->Prop),(∀env Z,Q .normal env Z->KR env Z)->(∀env v Z,Q (.Bk v) env Z->KP env v Z)->WT P ops KR KP env Z):W P (.DB ops) Q env Z:=
 h _ _ (fun _ _ h=>h) (fun _ _ _ h=>h)
def ct {l:List Nat} {ops:List Cr} {Q:Ac->Env->AE->Prop} (h: ∀(KR:Env->AE->Prop) (KP:V->AE->Prop),(∀env Z,(pk l env fun E=>Q .normal E Z)->KR env Z)->(∀v Z,(∀Z',Sub Z Z'->Q (.Bk v) [] Z')->KP v Z)->WD P ops KR KP env Z):W P (.He l ops) Q env Z:=
 h _ _ (fun _ _ h=>h) (fun _ _ h=>h)
def I2 {c:Bq} {a b:AV} {Q:Ac->Env->AE->Prop} (h:match ev env c with
    | some (.b t)=>(t=true->W P a Q env Z)/\(t=false->W P b Q env Z)
    | _=>False):W P (.cond c a b) Q env Z:=h
def IU {id:Nat} {a:AV} {Q:Ac->Env->AE->Prop} (h:W P a (Ac.inBlock id Q) env Z):W P (.block id a) Q env Z:=h
def QC {l:List Nat} {a:AV} {Q:Ac->Env->AE->Prop} (h:pk l env fun E=>Af l a (W P a) Q E Z):W P (.loop l a) Q env Z:=h
def QD {id:Nat} {Q:Ac->Env->AE->Prop} (h:Q (.exit id) env Z):W P (.exit id) Q env Z:=h
def kS {Q:Ac->Env->AE->Prop} (h:Q .ret env Z):W P .ret Q env Z:=h
def Ki {Q:Ac->Env->AE->Prop} (h:Q .normal env Z):W P .skip Q env Z:=h
def nH {a:AV} {Q:Ac->Env->AE->Prop} (h:W P a Q env Z):W P (.scope a) Q env Z:=h
def nI {l:List Nat} {g:Bq} {ps:List Nat} {a b:AV} {Q:Ac->Env->AE->Prop} (h:match ev env g with
    | some (.f (.func gf) [] cap)=>pk l env fun E=> ∀L,Z L=none->Au P gf (.f (.yield L) [] []::cap) (B7 Z L (.loop .ready E (Bm P ps a b))) (Lp L Q env)
    | _=>False):W P (.D8 l g ps a b) Q env Z:=h
end Go.Gl
namespace Go.Gl
variable {P:Program} {F:Nat->Prop} {Z Z':AE} {env:Env}
def Own (Z:AE) (v:V) (sz:Nat) (es:List (List V)):Prop:=(v= .l es true/\ ∀e∈es,e.length=sz)\/ ∃n cap,v= .sl n es.length cap/\Z n=some (.arr sz es cap)
def Own.GG {v:V} {sz:Nat} {es:List (List V)} (h:Own Z v sz es):F3 Z emp v (.l es false):=by
 rcases h with⟨rfl,_⟩|⟨n,cap,rfl,hn⟩
 .exact .l (fun h=>(by cases h)) (.refl _ _ _)
 .exact .arr hn rfl rfl (.refl _ _ _)
inductive At where
 | obj (n:Nat) (o:O)
 | own (v:V) (sz:Nat) (es:List (List V))
abbrev At.box (n:Nat) (vs:List V):At:= .obj n (.cs vs)
abbrev At.map (n:Nat) (kvs:List (V×V)):At:= .obj n (.map kvs)
def CC:V->Option Nat
 | .sl n _ _=>some n
 | _=>none
def At.dom:At->Option Nat
 | .obj n _=>some n
 | .own v _ _=>CC v
def At.ok (Z:AE):At->Prop
 | .obj n o=>Z n=some o
 | .own v sz es=>Own Z v sz es
def apart (a b:At):Prop:= ∀n,a.dom=some n->b.dom≠some n
def apart.symm {a b:At} (h:apart a b):apart b a:=fun n hb ha=>h n ha hb
def Sat (Z:AE) (l:List At):Prop:=(∀a∈l,a.ok Z)/\l.Pairwise apart
def Sat.nil:Sat Z []:=⟨fun _ h=>(by cases h),.nil⟩
def Sat.get {l:List At} (h:Sat Z l) {i:Nat} {a:At} (hi:l[i]? =some a):a.ok Z:=h.1 a (Bp hi)
def Ve {l:List At} (h:l.Pairwise apart): ∀ {i:Nat} {a a':At},l[i]? =some a->(∀b∈l,apart a b->apart a' b)->(l.set i a').Pairwise apart:=by
 induction h with
 | nil=>intro i a a' hi;cases hi
 | cons hx hl ih=>
   rename_i x r;intro i a a' hi hb;cases i with
   | zero=>
     simp only[sr,JM]at hi;subst hi;exact .cons (fun b hm=>hb b (.tail _ hm) (hx b hm)) hl
   | succ i=>
     simp only[zi]at hi;refine .cons (fun b hm=>?_) (ih hi fun b hm=>hb b (.tail _ hm));rcases List.mem_or_eq_of_mem_set hm with hm|rfl
     .exact hx b hm
     .exact(hb x (.head _) (hx a (Bp hi)).symm).symm
def FU {l:List At} (h:l.Pairwise apart): ∀ {i:Nat} {a:At},l[i]? =some a-> ∀b∈l.eraseIdx i,apart a b:=by
 induction h with
 | nil=>intro i a hi;cases hi
 | cons hx hl ih=>
   rename_i x r;intro i a hi b hb;cases i with
   | zero=>
     simp only[sr,JM]at hi;subst hi;exact hx b (by simpa using hb)
   | succ i=>
     simp only[zi]at hi;simp only[List.eraseIdx_cons_succ,GM]at hb;rcases hb with rfl|hb
     .exact(hx a (Bp hi)).symm
     .exact ih hi b hb
def Zf {l:List At} {i:Nat} {a b:At} (h:b∈l.set i a):b=a\/b∈l.eraseIdx i:=by
 induction l generalizing i with
 | nil=>simp at h
 | cons x r ih=>
   cases i with
   | zero=>simp at h;rcases h with rfl|h;exact .inl rfl;exact .inr (by simpa using h)
   | succ i=>
     simp only[List.set_cons_succ,GM,List.eraseIdx_cons_succ]at *;rcases h with rfl|h
     .exact .inr (.inl rfl)
     .rcases ih h with h|h
      .exact .inl h
      .exact .inr (.inr h)
def Sat.change {l:List At} (h:Sat Z l) {i:Nat} {a a':At} (hi:l[i]? =some a) (ho: ∀b:At,b.ok Z->apart a b->b.ok Z') (hd: ∀b:At,b.ok Z->apart a b->apart a' b) (ha:a'.ok Z'):Sat Z' (l.set i a'):=by
 refine⟨fun b hb=>?_,Ve h.2 hi fun b hb=>hd b (h.1 b hb)⟩;rcases Zf hb with rfl|hb
 .exact ha
 .exact ho b (h.1 b (List.mem_of_mem_eraseIdx hb)) (FU h.2 hi b hb)
def C2 {a:At} {n:Nat} (h:a.ok Z) (hn:a.dom=some n): ∃o,Z n=some o:=by
 cases a with
 | obj m o=>cases hn;exact⟨o,h⟩
 | own v sz es=>
   rcases h with⟨rfl,_⟩|⟨m,cap,rfl,hm⟩
   .cases hn
   .cases hn;exact⟨_,hm⟩
def Fc {a:At} (h:a.ok Z) (hs: ∀n,a.dom=some n->Z' n=Z n):a.ok Z':=by
 cases a with
 | obj m o=>exact(hs m rfl).trans h
 | own v sz es=>
   rcases h with⟨rfl,he⟩|⟨m,cap,rfl,hm⟩
   .exact .inl ⟨rfl,he⟩
   .exact .inr ⟨m,cap,rfl,(hs m rfl).trans hm⟩
def Sat.add {l:List At} (h:Sat Z l) {a:At} (ho: ∀b:At,b.ok Z->b.ok Z') (hd: ∀b:At,b.ok Z->apart a b) (ha:a.ok Z'):Sat Z' (l++[a]):=by
 refine⟨fun b hb=>?_,List.pairwise_append.2 ⟨h.2,List.pairwise_singleton _ _,fun x hx y hy=>?_⟩⟩
 .rcases Dy.1 hb with hb|hb
  .exact ho b (h.1 b hb)
  .rw[KV.1 hb];exact ha
 .rw[KV.1 hy]
  exact(hd x (h.1 x hx)).symm
def Sat.less {l l':List At} (h:Sat Z l) (hs:l'.Sublist l):Sat Z l':=⟨fun a ha=>h.1 a (hs.subset ha),h.2.sublist hs⟩
def Sat.perm {l l':List At} (h:Sat Z l) (hp:l.Perm l'):Sat Z l':=⟨fun a ha=>h.1 a (hp.mem_iff.2 ha),(hp.pairwise_iff (fun {_ _}=>apart.symm)).1 h.2⟩
def gp {l:List At} (h:Sat Z l) {n:Nat} (hn:Z n=none) {o:O}:Sat (B7 Z n o) (l++[.obj n o]):=by
 refine h.add (fun b hb=>Fc hb fun m hm=>?_) (fun b hb m hm hb'=>?_) (DJ _ _ _)
 .obtain⟨o,ho⟩:=C2 hb hm
  rw[Cm];intro e;subst e;rw[hn]at ho;cases ho
 .cases hm
  obtain⟨o,ho⟩:=C2 hb hb';rw[hn]at ho;cases ho
def D1 {l:List At} (h:Sat Z l) (sz:Nat):Sat Z (l++[.own (.l [] true) sz []]):=
 h.add (fun _ hb=>hb) (fun b hb n hn=>by cases hn) (.inl ⟨rfl,fun _ h=>by cases h⟩)
def oE {l:List At} (h:Sat Z l) {sz:Nat} {es:List (List V)} (hs: ∀e∈es,e.length=sz):Sat Z (l++[.own (.l es true) sz es]):=
 h.add (fun _ hb=>hb) (fun b hb n hn=>by cases hn) (.inl ⟨rfl,hs⟩)
def tU {l:List At} (h:Sat Z l) {i n:Nat} {o:O} (hi:l[i]? =some (.obj n o)) (o':O):Sat (B7 Z n o') (l.set i (.obj n o')):=by
 refine h.change hi (fun b hb ha=>Fc hb fun m hm=>?_) (fun b hb ha m hm=>ha m hm) (DJ _ _ _);rw[Cm];intro e;subst e;exact ha m rfl hm
def Ir {l:List At} (h:Sat Z l) (i:Nat) {n off sz:Nat} {vs vc:List V} {x:V} {K:AE->Prop} (hi:l[i]? =some (.box n vs)) (hc:cellsOf x=some vc) (hl:vc.length=sz) (h1:vc.all CR=true) (ho:off+sz<=vs.length)
    (hk: ∀Z',Sat Z' (l.set i (.box n (putAt vs off vc)))->K Z'):AS Z sz (.p n off) x K:=by
 unfold AS;rw[hc];refine⟨hl,h1,?_⟩;have:=h.get hi;simp only[At.ok]at this;simp only[this];exact⟨ho,hk _ (tU h hi _)⟩
def WX {l:List At} (h:Sat Z l) (i:Nat) {n off:Nat} {agg:Option Nat} {vs:List V} {K:V->Prop} (hi:l[i]? =some (.box n vs)) (hk:cut agg vs off K):AU Z agg (.p n off) K:=by
 have:=h.get hi;simp only[At.ok]at this;simp only[AU,QW,this];exact hk
def hAppend {l:List At} (h:Sat Z l) (i:Nat) {v:V} {sz:Nat} {es ys:List (List V)} {f:Bool} {K:V->AE->Prop} (hi:l[i]? =some (.own v sz es)) {b:Nat} (hl:es.length+ys.length<=Aa/\(es.length+ys.length)*b<=140737488355328) (hys: ∀e∈ys,e.length=sz) (ho: ∀e∈ys,∀v∈e,CR v=true)
    (hk: ∀v' Z',Sat Z' (l.set i (.own v' sz (es++ys)))->K v' Z'):AK b Z sz v (.l ys f) K:=by
 refine⟨hys,ho,?_⟩;rcases h.get hi with⟨rfl,hel⟩|⟨n,cap,rfl,hn⟩
 .refine⟨hel,hl,fun e=>hk _ _ ?_,fun _=>⟨rfl,fun n cap hn hc=>hk _ _ ?_⟩⟩
  .subst e
   exact h.change hi (fun _ hb _=>hb) (fun _ _ ha=>ha) (.inl ⟨by simp,by simpa using hel⟩)
  .refine h.change hi (fun b hb _=>Fc hb fun m hm=>?_) (fun b hb _ m hm hb'=>?_) (.inr ⟨n,cap,by simp,by simp[B7]⟩)
   .obtain⟨o,ho⟩:=C2 hb hm
    rw[Cm];intro e;subst e;rw[hn]at ho;cases ho
   .cases hm
    obtain⟨o,ho⟩:=C2 hb hb';rw[hn]at ho;cases ho
 .simp only
  rw[hn];refine⟨rfl,rfl,rfl,hl,fun n' cap' hn' _=>hk _ _ ?_⟩;refine h.change hi (fun b hb ha=>Fc hb fun m hm=>?_) (fun b hb ha m hm hb'=>?_) (.inr ⟨n',cap',by simp,by simp[B7]⟩)
  .have hmn:m≠n:=fun e=>by subst e;exact ha m rfl hm
   obtain⟨o,ho⟩:=C2 hb hm;have hmn':m≠n':=fun e=>by subst e;rw[Hp _ hmn,ho]at hn';cases hn'
   rw[Cm _ _ hmn',Hp _ hmn]
  .cases hm
   have hmn:n'≠n:=fun e=>by subst e;exact ha n' rfl hb'
   obtain⟨o,ho⟩:=C2 hb hb';rw[Hp _ hmn,ho]at hn';cases hn'
def hMk {l:List At} (h:Sat Z l) {sz:Nat} {z:List V} {n:Nat} {K:V->AE->Prop} (hn:n<=1073741824) (hk: ∀v Z',Sat Z' (l++[.own v sz (List.replicate n z)])->(∃id,v= .sl id n n)->K v Z') {ki kj:IntKind} :
    AJ Z sz z (.i ki (n:Int)) (.i kj (n:Int)) K:=by
 refine⟨by omega,by omega,by omega,fun id hid=>?_⟩;simp only[Fi];refine hk _ _ (h.add (fun b hb=>Fc hb fun m hm=>?_) (fun b hb m hm hb'=>?_) (.inr ⟨id,n,by simp,by simp[B7]⟩)) ⟨id,rfl⟩
 .obtain⟨o,ho⟩:=C2 hb hm
  rw[Cm];intro e;subst e;rw[hid]at ho;cases ho
 .cases hm
  obtain⟨o,ho⟩:=C2 hb hb';rw[hid]at ho;cases ho
def Ka {agg:Option Nat} {cs:List V} {K:V->Prop} (h:cut agg cs 0 K):AU Z agg (.rp cs) K:=h
def WV {es:List (List V)} {f:Bool} {K:V->Prop} (h:K (.i .i64 es.length)):Ay (.l es f) K:=h
def H4 {l:List At} (h:Sat Z l) (i:Nat) {v:V} {sz:Nat} {es:List (List V)} (hi:l[i]? =some (.own v sz es)):CR v=true:=by
 rcases h.get hi with⟨rfl,_⟩|⟨n,cap,rfl,hn⟩<;>rfl
@[simp] theorem ABp {es:List (List V)} {f:Bool}:CR (.l es f)=true:=rfl
@[simp] theorem ABq {k:IntKind} {n:Int}:CR (.i k n)=true:=rfl
@[simp] theorem ABs {b:Bool}:CR (.b b)=true:=rfl
@[simp] theorem ABn {n o:Nat}:CR (.p n o)=true:=rfl
@[simp] theorem ABk {cs:List V}:CR (.rp cs)=true:=rfl
@[simp] theorem ABo {n:Nat}:CR (.m n)=true:=rfl
@[simp] theorem ABr {fn:Fn} {a b:List V}:CR (.f fn a b)=true:=rfl
@[simp] theorem ABj {a b c:Nat}:CR (.sl a b c)=true:=rfl
@[simp] theorem ABl:CR .pn=true:=rfl
@[simp] theorem ABm:CR .mn=true:=rfl
@[simp] theorem AAA:CR .D0=true:=rfl
@[simp] theorem ABf {t:TypeId} {v:V}:CR (.FV t v)=true:=rfl
def fm {v:V} (h:CR v=true):cellsOf v=some [v]:=by cases v<;>first|rfl|cases h
def Mg {l:List At} (h:Sat Z l) (i:Nat) {n off:Nat} {vs:List V} {x:V} {K:AE->Prop} (hi:l[i]? =some (.box n vs)) (h1:CR x=true) (ho:off+1<=vs.length)
    (hk: ∀Z',Sat Z' (l.set i (.box n (vs.set off x)))->K Z'):AS Z 1 (.p n off) x K:=
 Ir h i hi (fm h1) rfl (by simp[h1]) ho hk
def Sat.GG {l:List At} (h:Sat Z l) (i:Nat) {v:V} {sz:Nat} {es:List (List V)} (hi:l[i]? =some (.own v sz es)):F3 Z emp v (.l es false):=(h.get hi).GG
def Sat.oG {l:List At} (h:Sat Z l) (i:Nat) {n:Nat} {vs vs':List V} (hi:l[i]? =some (.box n vs)) (hf:DW Z emp vs vs'):F3 Z emp (.p n 0) (.rp vs'):= .cs (h.get hi) rfl hf
def HI {l:List At} (h:Sat Z l) (i:Nat) {v:V} {sz:Nat} {es:List (List V)} (hi:l[i]? =some (.own v sz es)): ∃Z2,Sub Z2 Z/\F3 Z Z2 v (.l es false)/\Sat Z2 (l.eraseIdx i):=by
 rcases h.get hi with⟨rfl,_⟩|⟨n,cap,rfl,hn⟩
 .exact⟨Z,fun _ _ h=>h,.l (fun h=>(by cases h)) (.refl _ _ _),h.less (List.eraseIdx_sublist _ _)⟩
 .refine⟨del Z n,GY Z n,.arr hn (De Z n) rfl (.refl _ _ _),?_⟩
  refine⟨fun b hb=>?_,h.2.sublist (List.eraseIdx_sublist _ _)⟩;refine Fc (h.1 b (List.mem_of_mem_eraseIdx hb)) fun m hm=>?_
  rw[Hp];intro e;subst e;exact FU h.2 hi b hb m rfl hm
def HW {v vf:V} {Z2:AE} {Q:R->AE->Prop} (hs:Sub Z2 Z) (hf:F3 Z Z2 v vf) (hq:Q (.ret vf) Z2):Am Z v Q:=⟨vf,Z2,hs,hf,hq⟩
def As {l l':List At} (h:Sat Z l) (hl:l'.Sublist l) {v vf:V} {Q:R->AE->Prop} (hf:F3 Z Z v vf) (hq: ∀Z',Sat Z' l'->Q (.ret vf) Z'):Am Z v Q:=⟨vf,Z,fun _ _ h=>h,hf,hq Z (h.less hl)⟩
def tV {l:List At} (h:Sat Z l) (i:Nat) {v:V} {sz:Nat} {es:List (List V)} (hi:l[i]? =some (.own v sz es)) {K:V->AE->Prop} (hk: ∀Z',Sat Z' (l.eraseIdx i)->K (.l es false) Z'): ∃vf Z2,Sub Z2 Z/\F3 Z Z2 v vf/\K vf Z2:=by
 obtain⟨Z2,h1,h2,h3⟩:=HI h i hi;exact⟨_,Z2,h1,h2,hk Z2 h3⟩
def AAO {l:List At} (h:Sat Z l) (i:Nat) {v:V} {sz:Nat} {es:List (List V)} (hi:l[i]? =some (.own v sz es)) (hm:es.length<=Aa) {K:V->Prop} (hk:K (.i .i64 es.length)):Ay v K:=by
 rcases h.get hi with⟨rfl,_⟩|⟨n,cap,rfl,hn⟩
 .exact hk
 .exact⟨hm,hk⟩
def Fg (v:V) (sz j:Nat):V:=match v with| .sl n _ _=> .pe n sz j 0| .l es _=> .rp (es.getD j [])|_=> .pn
def gS {l:List At} (h:Sat Z l) (i:Nat) {v:V} {sz:Nat} {es:List (List V)} {ki:IntKind} {j:Int} (k:Nat) (hi:l[i]? =some (.own v sz es)) (hj:j=k) (hlt:k<es.length) {K:V->Prop} (hk:K (Fg v sz k)) :
    AR sz none v (.i ki j) K:=by
 subst hj;rcases h.get hi with⟨rfl,hel⟩|⟨n,cap,rfl,hn⟩
 .refine⟨Int.natCast_nonneg k,es[k],by simp[hlt],hel _ (List.getElem_mem hlt),?_⟩
  simpa[Fg,hlt]using hk
 .exact⟨Int.natCast_nonneg k,by omega,by simpa[Fg]using hk⟩
def I0 {l:List At} (h:Sat Z l) (i:Nat) {v:V} {sz k:Nat} {es:List (List V)} {e:List V} {agg:Option Nat} (hi:l[i]? =some (.own v sz es)) (he:es[k]? =some e) {K:V->Prop} (hk:cut agg e 0 K):AU Z agg (Fg v sz k) K:=by
 rcases h.get hi with⟨rfl,_⟩|⟨n',cap',rfl,hn⟩
 .simp only[Fg,AU,C6,he]
  exact hk
 .simp only[Fg,AU,QX,hn,he]
  exact⟨trivial,hk⟩
def NF {l : List At} (h:Sat Z l) (i:Nat) {v x:V} {sz k:Nat} {es:List (List V)} {e vc:List V} (hi:l[i]? =some (.own v sz es)) (he:es[k]? =some e) (hc:cellsOf x=some vc) (hl:vc.length=sz) (h1:vc.all CR=true) (hel:e.length=sz) (hv:(CC v).isSome=true) {K:AE->Prop}
    (hk: ∀Z',Sat Z' (l.set i (.own v sz (es.set k vc)))->K Z'):AS Z sz (Fg v sz k) x K:=by
 rcases h.get hi with⟨rfl,_⟩|⟨n,cap,rfl,hn⟩
 .cases hv
 .unfold AS
  rw[hc];refine⟨hl,h1,?_⟩;simp only[Fg,hn,he];refine⟨trivial,by omega,hk _ ?_⟩
  have hput: ∀(vs vc:List V),vc.length=vs.length->putAt vs 0 vc=vc:=by
   have gen: ∀(vc pre vs:List V),vc.length=vs.length->putAt (pre++vs) pre.length vc=pre++vc:=by
    intro vc
    induction vc with
    | nil=>intro pre vs hl;cases vs with
      | nil=>rfl
      | cons _ _=>cases hl
    | cons x vc ih=>
      intro pre vs hl;cases vs with
      | nil=>cases hl
      | cons y vs=>
        simp only[putAt];rw[List.set_append_right _ _ (Hz _),Nat.sub_self,List.set_cons_zero];have:=ih (pre++[x]) vs (by simpa using hl);simp only[Nl,LF,List.length_nil,HG,PR,List.singleton_append]at this;exact this
   intro vs vc hl;exact gen vc [] vs hl
  rw[hput e vc (by omega)];refine h.change hi (fun b hb ha=>Fc hb fun m hm=>?_) (fun b hb ha m hm=>ha m hm) (.inr ⟨n,cap,by simp,by simp[B7]⟩);rw[Cm];intro e;subst e;exact ha m rfl hm
def Kb {l:List At} (h:Sat Z l) (i:Nat) {n:Nat} {kvs:List (V×V)} {ks:KS} {z vk:V} {ok:Bool} (hi:l[i]? =some (.map n kvs)) (hk:BW ks vk=true) (hks: ∀kv∈kvs,BW ks kv.1=true) {K:V->Prop} (h':K (found z ok (Cn vk kvs))) :
    AM Z ks z ok (.m n) vk K:=by
 refine⟨hk,?_⟩;have:=h.get hi;simp only[At.ok]at this;simp only[this];exact⟨hks,h'⟩
def Iz {l:List At} (h:Sat Z l) (i:Nat) {n:Nat} {kvs:List (V×V)} {ks:KS} {vk vv:V} (hi:l[i]? =some (.map n kvs)) (hk:BW ks vk=true) (hks: ∀kv∈kvs,BW ks kv.1=true) {K:AE->Prop}
    (h': ∀Z',Sat Z' (l.set i (.map n (DZ vk vv kvs)))->K Z'):AO Z ks (.m n) vk vv K:=by
 refine⟨hk,?_⟩;have:=h.get hi;simp only[At.ok]at this;simp only[this];exact⟨hks,h' _ (tU h hi _)⟩
def BQ (P:Program) (f:FuncId) (args:List V) (pre:List At) (Φ:R->List At->Prop):Prop:= ∀Z,Sat Z pre->Au P f args Z fun r Z'=> ∃post,Φ r post/\Sat Z' post
def pQ {a:At} {Z1 τ:AE} (h:a.ok Z1):a.ok (join Z1 τ):=Fc h fun n hn=>by
 obtain⟨o,ho⟩:=C2 h hn;simp[join,ho]
def BQ.use {f:FuncId} {args:List V} {pre rest:List At} {Φ:R->List At->Prop} (h:BQ P f args pre Φ) (hs:Sat Z (pre++rest)) {Q:R->AE->Prop} (hk: ∀r post Z',Φ r post->Sat Z' (post++rest)->Q r Z'):Au P f args Z Q:=by
 have hpre:Sat Z pre:=hs.less (List.sublist_append_left _ _);have hrest:Sat Z rest:=hs.less (List.sublist_append_right _ _);have hap:=(List.pairwise_append.1 hs.2).2.2
 let D:Nat->Prop:=fun n=> ∀b∈rest,b.dom≠some n
 have h1:Sat (HH Z D) pre:=⟨fun a ha=>Fc (hpre.1 a ha) fun n hn=>Dd fun b hb=>hap a ha b hb n hn,hpre.2⟩
 refine Au.mono (Au.frame D (h _ h1)) fun r Z' ⟨Z1,⟨post,hp,hsp⟩,hfr,he⟩=>hk r post Z' hp ?_
 subst he
 have hrn: ∀b∈rest,∀n,b.dom=some n->Z1 n=none/\HH Z (fun n=> ¬D n) n=Z n:=fun b hb n hn=>by
  have hnd: ¬D n:=fun h=>h b hb hn
  obtain⟨o,ho⟩:=C2 (hrest.1 b hb) hn;exact⟨hfr n hnd (by rw[ho];simp),Dd hnd⟩
 refine⟨fun a ha=>?_,List.pairwise_append.2 ⟨hsp.2,hrest.2,fun a ha b hb n hn hb'=>?_⟩⟩
 .rcases Dy.1 ha with ha|ha
  .exact pQ (hsp.1 a ha)
  .refine Fc (hrest.1 a ha) fun n hn=>?_
   obtain⟨k1,k2⟩:=hrn a ha n hn;simp only[join,k1,k2]
 .obtain⟨o,ho⟩:=C2 (hsp.1 a ha) hn
  rw[(hrn b hb n hb').1]at ho;cases ho
def QK:List (Nat×V)->Env->Env
 | _,[]=>[]
 | f,(k,v)::r=>(k,(get k f).getD v)::QK f r
def sk:List (Nat×V)->Env->(Env->Prop)->Prop
 | _,[],k=>k []
 | f,(n,v)::r,k=>match get n f with
   | some u=>sk f r fun e=>k ((n,u)::e)
   | none=>sk f r fun e=>k ((n,v)::e)
def WQ {f:List (Nat×V)}: ∀ {E:Env} {k:Env->Prop},sk f E k=k (QK f E)
 | [],_=>rfl
 | (n,v)::r,k=>by
   simp only[sk,QK];cases get n f with
   | none=>exact WQ (E:=r)
   | some u=>exact WQ (E:=r)
def B1 {l:List Nat} {a:AV} {Q:Ac->Env->AE->Prop} {E:Env} (len:Nat) {X:Type} (f:Nat->X->List (Nat×V)) (H:Nat->X->List At) (Φ:Nat->X->Prop) (x0:X) (h0:E=QK (f 0 x0) E) (hΦ:Φ 0 x0) (hs:Sat Z (H 0 x0))
    (h: ∀k x Z,k<=len->Φ k x->Sat Z (H k x)->sk (f k x) E fun E1=>W P a (Ac.andThen (fun env' Z'=>pk l env' fun E'=>k<len/\ ∃x',E'=QK (f (k+1) x') E/\Φ (k+1) x'/\Sat Z' (H (k+1) x')) Q) E1 Z):iX P l a Q E Z:=by
 refine upW len (fun k env' Z'=> ∃x,env'=QK (f k x) E/\Φ k x/\Sat Z' (H k x)) ⟨x0,h0,hΦ,hs⟩ ?_;rintro k _ Z hk ⟨x,rfl,h1,h2⟩;have:=h k x Z hk h1 h2;rw[WQ]at this;exact this
def D7 {l:List Nat} {a:AV} {Q:Ac->Env->AE->Prop} {E:Env} {X:Type} (μ:X->Nat) (f:X->List (Nat×V)) (H:X->List At) (Φ:X->Prop) (x0:X) (h0:E=QK (f x0) E) (hΦ:Φ x0) (hs:Sat Z (H x0))
    (h: ∀x Z,Φ x->Sat Z (H x)->sk (f x) E fun E1=>W P a (Ac.andThen (fun env' Z'=>pk l env' fun E'=> ∃x',μ x'<μ x/\E'=QK (f x') E/\Φ x'/\Sat Z' (H x')) Q) E1 Z):iX P l a Q E Z:=by
 refine⟨fun n env Z=> ∃x,n=μ x/\env=QK (f x) E/\Φ x/\Sat Z (H x),⟨_,x0,rfl,h0,hΦ,hs⟩,?_⟩;rintro n _ Z ⟨x,rfl,rfl,h1,h2⟩;have h:=h x Z h1 h2;rw[WQ]at h;refine kT h fun ex env' Z' hq=>?_
 cases ex with
 | normal=>
   simp only[Ac.andThen]at *;rw[GP]at *;obtain⟨x',k1,k2⟩:=hq;exact⟨_,k1,x',rfl,k2⟩
 | exit id=>exact hq
 | ret=>exact hq
 | Bk v=>exact hq
def S3 {K A:Env->AE->Prop} {lx:List Nat} (U: ∀env Z,(pk lx env fun E=>A E Z)->K env Z) {AB:Type} (fJ:AB->List (Nat×V)) (HJ:AB->List At) (ΦJ:AB->Prop) (EJ:Env)
    (hJ: ∀y Z,ΦJ y->Sat Z (HJ y)->sk (fJ y) EJ fun E1=>A E1 Z): ∀y env Z,(pk lx env fun E=>E=QK (fJ y) EJ)->ΦJ y->Sat Z (HJ y)->K env Z:=by
 intro y env Z he h1 h2;apply U;rw[GP]at *;have:=hJ y Z h1 h2;rw[WQ,<-he]at this;exact this
end Go.Gl
namespace Go.Gl
def Sn:Sat emp []:=Sat.nil
def Mx:Aa=17592186044416:=rfl
end Go.Gl
namespace Go.Gl
open Go.ChangeShapes Go.WideShapes Go.ChangeAt Go.RowKit
variable {P:Program}
def m5 {f:FuncId} {args:List V} {v:V} (h:Pure P f args v) {w:World} {cs:Array Value} (hc:gT (Hh (fun _=>False) emp w) args cs) :
    Calls P f cs w fun e w'=>(∃c,e= .returned c/\Ah (Hh (fun _=>False) emp w') v c)/\CD (fun _=>False) emp w emp w':=by
 refine Calls.mono (h.2 (fun _=>False) w cs (bB _ fun _ h=>h.elim) hc) fun e w' ⟨r,Z',⟨h1,h2⟩,h3,_,h4⟩=>?_
 subst h1;subst h2;exact⟨h3,h4⟩
end Go.Gl
namespace Go.Gl
variable {P:Program} {Z:AE} {env:Env}
abbrev iL (xs:List Int):List (List V):=xs.map fun x=>[.i .i64 x]
abbrev EN (ls:List (List Int)):List (List V):=ls.map fun l=>[.l (iL l) false]
abbrev bL (xs:List Bool):List (List V):=xs.map fun x=>[.b x]
def Ec {α:Type} (enc:α->List V) (sz:Nat):Prop:= ∀x,(enc x).length=sz/\ ∀v∈enc x,CR v=true
def Bo:Ec (fun x:Int=>[V.i .i64 x]) 1:=fun x=>⟨rfl,fun v hv=>by simp at hv;subst hv;rfl⟩
def DK:Ec (fun l:List Int=>[V.l (iL l) false]) 1:=fun x=>⟨rfl,fun v hv=>by simp at hv;subst hv;rfl⟩
def P4:Ec (fun x:Bool=>[V.b x]) 1:=fun x=>⟨rfl,fun v hv=>by simp at hv;subst hv;rfl⟩
def DL {α:Type} {enc:α->List V} {sz:Nat} (hg:Ec enc sz) (xs:List α):(∀e∈xs.map enc,e.length=sz)/\ ∀e∈xs.map enc,∀v∈e,CR v=true:=by
 refine⟨fun e he=>?_,fun e he=>?_⟩<;>obtain⟨x,_,rfl⟩:=Il.1 he
 .exact(hg x).1
 .exact(hg x).2
def AA3 {α:Type} {enc:α->List V} {sz:Nat} {xs ys:List α} {f g:Bool} {K:V->Prop} (hg:Ec enc sz) {b:Nat} (hl:xs.length+ys.length<=Aa/\(xs.length+ys.length)*b<=140737488355328) (hf:f=true) (hk:K (.l ((xs++ys).map enc) false)):AY b Z sz (.l (xs.map enc) f) (.l (ys.map enc) g) K:=by
 obtain⟨h1,h2⟩:=DL hg ys;refine⟨h1,h2,(DL hg xs).1,by simpa using hl,fun _=>hf,?_⟩;rw[<-SU];exact hk
def jX {α:Type} {enc:α->List V} {sz:Nat} {ys:List α} {g:Bool} {K:V->Prop} (hg:Ec enc sz) {b:Nat} (hl:ys.length<=Aa/\ys.length*b<=140737488355328) (hk:K (.l (ys.map enc) false)):AY b Z sz (.l [] true) (.l (ys.map enc) g) K:=
 AA3 (xs:=[]) hg (by simpa using hl) rfl hk
def GR {l:List At} (h:Sat Z l) (i:Nat) {α:Type} {enc:α->List V} {sz:Nat} {xs:List α} {x:α} {v:V} {f:Bool} {e:List V} {K:V->AE->Prop} (hi:l[i]? =some (.own v sz (xs.map enc))) {b:Nat} (hl:xs.length<Aa/\(xs.length+1)*b<=140737488355328) (hg:Ec enc sz)
    (hk: ∀v' Z',Sat Z' (l.set i (.own v' sz ((xs++[x]).map enc)))->K v' Z') (he:e=enc x:=by rfl):AK b Z sz v (.l [e] f) K:=by
 subst he;refine hAppend h i hi (by simp;omega) (fun e he=>by simp at he;subst he;exact(hg x).1) (fun e he=>by simp at he;subst he;exact(hg x).2) fun v' Z' hs=>hk v' Z' ?_
 rw[SU];exact hs
def Fe {l:List At} (h:Sat Z l) (i:Nat) {α:Type} {enc:α->List V} {sz:Nat} {xs ys:List α} {v:V} {f:Bool} {K:V->AE->Prop} (hi:l[i]? =some (.own v sz (xs.map enc))) {b:Nat} (hl:xs.length+ys.length<=Aa/\(xs.length+ys.length)*b<=140737488355328) (hg:Ec enc sz)
    (hk: ∀v' Z',Sat Z' (l.set i (.own v' sz ((xs++ys).map enc)))->K v' Z'):AK b Z sz v (.l (ys.map enc) f) K:=by
 obtain⟨h1,h2⟩:=DL hg ys;refine hAppend h i hi (by simpa using hl) h1 h2 fun v' Z' hs=>hk v' Z' ?_
 rw[SU];exact hs
def Eg {l:List At} (h:Sat Z l) (i:Nat) {v:V} {sz:Nat} {es:List (List V)} (hi:l[i]? =some (.own v sz es)) {vf:V} (he:V.l es false=vf):Am Z v (fun r Z'=>r= .ret vf/\Z'=emp):=
 A7 (he ▸ h.GG i hi)
def AN {α:Type} {xs:List α} {k:Nat} {x:α} (h:xs[k]? =some x):xs.take (k+1)=xs.take k++[x]:=by
 rw[List.take_add_one,h];rfl
def WI {α:Type} {enc:α->List V} {xs:List α} {f:Bool} {sz:Nat} {K:V->Prop} {ki:IntKind} {j:Int} (k:Nat) {x:α} (hx:xs[k]? =some x) (hj:j=k) (hs:(enc x).length=sz) (h:K (.rp (enc x))) :
    AR sz none (.l (xs.map enc) f) (.i ki j) K:=by
 subst hj;refine⟨Int.natCast_nonneg k,enc x,?_,hs,h⟩;rw[Fi,Jm,hx];rfl
def qa {α:Type} {enc:α->List V} {xs:List α} {k:Nat} {A B:Prop} (hk:k<=xs.length) (h1: ∀x,xs[k]? =some x->k<xs.length->A) (h2:k=xs.length->B) :
    (decide ((k:Int)<((xs.map enc).length:Nat))=true->A)/\(decide ((k:Int)<((xs.map enc).length:Nat))=false->B):=
 fork (fun h=>by
  have hlt:=jO h
  exact h1 _ (Cs hlt) hlt) fun h=>h2 (cH hk h)
def MN (a:Int):Nat->Int
 | 0=>a
 | k+1=>IntKind.i64.wrap (MN a k+1)
abbrev A4 (k:Nat):Int:=MN 0 k
def P8 {a:Int} (ha: -4611686018427387904<=a): ∀ {k:Nat},a+k<=4611686018427387904->MN a k=a+k
 | 0,_=>by simp[MN]
 | k+1,h=>by
   rw[MN,P8 ha (by omega),wrap64 (by omega) (by omega)];omega
def Ag {k:Nat} (h:k<=Aa+8):A4 k=k:=by
 rw[A4,P8 (by omega) (by simp only[Aa]at h;omega)];omega
def PW (a:Int):Nat->Int
 | 0=>a
 | k+1=>IntKind.i64.wrap (PW a k - 1)
def VW {a:Int} (ha:a<=4611686018427387904): ∀ {k:Nat},-4611686018427387904<=a - k->PW a k=a - k
 | 0,_=>by simp[PW]
 | k+1,h=>by
   rw[PW,VW ha (by omega),wrap64 (by omega) (by omega)];omega
def Gu {α:Type} {enc:α->List V} {xs:List α} {k:Nat} {A B:Prop} (hk:k<=xs.length) (hm:xs.length<=Aa) (h1: ∀x,xs[k]? =some x->k<xs.length->A) (h2:k=xs.length->B) :
    (decide (A4 k<((xs.map enc).length:Nat))=true->A)/\(decide (A4 k<((xs.map enc).length:Nat))=false->B):=by
 rw[Ag (by omega)];exact qa hk h1 h2
def Jv {α:Type} {enc:α->List V} {xs:List α} {f:Bool} {sz:Nat} {K:V->Prop} {ki:IntKind} {k:Nat} {x:α} (hx:xs[k]? =some x) (hm:xs.length<=Aa) (hs:(enc x).length=sz) (h:K (.rp (enc x))) :
    AR sz none (.l (xs.map enc) f) (.i ki (A4 k)) K:=
 WI k hx (Ag (by have:=(JL.1 hx).1;omega)) hs h
def Aq {α:Type} {xs:List α} {k:Nat} (h:k=xs.length):xs.take k=xs:=by rw[h,List.take_length]
end Go.Gl
namespace Go.Gl
structure Sb where
 parents:List Int
 AG:List Int
 inits:List (Int×Int)
 deriving DecidableEq,Inhabited
structure Node where
 op:Int
 n:Int
 kids:List Int
 deriving DecidableEq,Inhabited
inductive Fact where
 | mk (op arg:Int) (path:List Int) (cls n:Int) (kids:List Fact)
 deriving Inhabited
namespace Fact
def op:Fact->Int|mk o _ _ _ _ _=>o
def arg:Fact->Int|mk _ a _ _ _ _=>a
def path:Fact->List Int|mk _ _ p _ _ _=>p
def cls:Fact->Int|mk _ _ _ c _ _=>c
def n:Fact->Int|mk _ _ _ _ n _=>n
def kids:Fact->List Fact|mk _ _ _ _ _ k=>k
mutual
def H6 {α:Type} (g:Fact->List α->α):Fact->α
 | .mk o a p c n k=>g (.mk o a p c n k) (aU g k)
 termination_by structural f=>f
def aU {α:Type} (g:Fact->List α->α):List Fact->List α
 | []=>[]
 | x::r=>H6 g x::aU g r
 termination_by structural l=>l
end
def mq {α:Type} (g:Fact->List α->α) (l:List Fact):aU g l=l.map (H6 g):=by
 induction l with
 | nil=>rfl
 | cons x r ih=>simp[aU,ih]
def Dw {α:Type} (g:Fact->List α->α) (f:Fact):H6 g f=g f (f.kids.map (H6 g)):=by
 cases f with
 | mk o a p c n k=>simp[H6,mq,kids]
def ind {motive:Fact->Prop} (h: ∀f,(∀k∈f.kids,motive k)->motive f) (f:Fact):motive f:=by
 refine Fact.rec (motive_1:=motive) (motive_2:=fun l=> ∀k∈l,motive k) (fun o a p c n k ih=>h _ ih) (fun _ h=>by cases h) (fun x r hx hr k hk=>?_) f;rcases GM.1 hk with rfl|hk
 .exact hx
 .exact hr k hk
def size (f:Fact):Nat:=H6 (fun f l=>1+f.path.length+f.kids.length+l.sum) f
end Fact
structure Nx where
 kind:Int
 gen:Int
 fact:Fact
 node:Int
 deriving Inhabited
structure Prog where
 AP:List Sb
 AG:Int
 Dx:List Int
 methods:List Nx
 nodes:List Node
 main:Int
 deriving Inhabited
structure AF where
 parents:List (List Int)
 owner:List Int
 deriving DecidableEq,Inhabited
abbrev eI (n:Int):V:= .i .i64 n
def WC (c:Sb):List V:=[.l (iL c.parents) false,.l (iL c.AG) false,.l (c.inits.map fun p=>[eI p.1,eI p.2]) false]
def J5 (x:Node):List V:=[eI x.op,eI x.n,.l (iL x.kids) false]
def Fh (f:Fact):List V:=f.H6 fun f l=>[eI f.op,eI f.arg,.l (iL f.path) false,eI f.cls,eI f.n,.l l false]
abbrev xF (f:Fact):List V:=[eI f.op,eI f.arg,.l (iL f.path) false,eI f.cls,eI f.n,.l (f.kids.map Fh) false]
def Bh (f:Fact):Fh f=xF f:=Fact.Dw _ f
abbrev facts (l:List Fact):List (List V):=l.map Fh
def iR (m:Nx):List V:=[eI m.kind,eI m.gen,eI m.fact.op,eI m.fact.arg,.l (iL m.fact.path) false,eI m.fact.cls,eI m.fact.n,.l (facts m.fact.kids) false,eI m.node]
def BG (p:Prog):List V:=[.l (p.AP.map WC) false,eI p.AG,.l (iL p.Dx) false,.l (p.methods.map iR) false,.l (p.nodes.map J5) false,eI p.main]
def Az (w:AF):List V:=[.l (EN w.parents) false,.l (iL w.owner) false]
end Go.Gl
