import Derived.Laws.BitsLemmas
import Derived.RecoverIn
import Derived.WalkKit
import Derived.ProofKit
import Derived.OpenShut
import Derived.Test.YtegbmnmnaijioaaGreatH3
import Derived.Test.YtegbmnmnaijioaaGreatH4
set_option linter.all false
set_option linter.defProp false
noncomputable section
namespace Go.Gl
variable {P:Program} {σ:AH} {env env':Env}
def A8 {v vf:V} (h:Fj σ emp v vf):Ap σ v (fun r σ'=>r= .ret vf∧σ'=emp):=⟨vf,emp,fun n o ho=>(by cases ho),h,rfl,rfl⟩
def AI {v vf:V} (h:v=vf):Ap σ v (fun r σ'=>r= .ret vf∧σ'=emp):=A8 (h ▸ .refl v)
def NK {K K':Env→AH→Prop} {kp kp':Env→V→AH→Prop} (hm: ∀env σ,K env σ→K' env σ) (hp: ∀env v σ,kp env v σ→kp' env v σ): ∀ {os:List Av} {env:Env} {σ:AH},I4 P os K kp env σ→I4 P os K' kp' env σ
 | [],_,_,h=>hm _ _ h
 | _::_,_,_,h=>CK h (fun _ _ h=>NK hm hp h) (hp _)
def Kx {K K':Env→AH→Prop} {kp kp':V→AH→Prop} (hm: ∀env σ,K env σ→K' env σ) (hp: ∀v σ,kp v σ→kp' v σ): ∀ {os:List Cv} {env:Env} {σ:AH},Dc P os K kp env σ→Dc P os K' kp' env σ
 | [],_,_,h=>hm _ _ h
 | _::_,_,_,h=>CK h (fun _ _ h=>⟨h.1,Kx hm hp h.2⟩) hp
end Go.Gl
namespace Go.Gl
variable {P:Program} {σ:AH} {env env':Env}
def Mo {A B:Prop} (h:A):(true=true→A)∧(true=false→B):=⟨fun _=>h,fun e=>by cases e⟩
def TI {A B:Prop} (h:B):(false=true→A)∧(false=false→B):=⟨fun e=>(by cases e),fun _=>h⟩
def Tu {A B:Prop} (h:A):(false=false→A)∧(false=true→B):=⟨fun _=>h,fun e=>by cases e⟩
def aW {A B:Prop} (h:B):(true=false→A)∧(true=true→B):=⟨fun e=>(by cases e),fun _=>h⟩
def fork {p:Prop} [Decidable p] {A B:Prop} (h1:p→A) (h2: ¬p→B):(decide p=true→A)∧(decide p=false→B):=⟨fun h=>h1 (of_decide_eq_true h),fun h=>h2 (of_decide_eq_false h)⟩
def Z5 {a b:Int} {A B:Prop} (h1:a=b→A) (h2:a≠b→B):((a==b)=true→A)∧((a==b)=false→B):=⟨fun h=>h1 (by simpa using h),fun h=>h2 (by simpa using h)⟩
def nK {a b:Int} {A B:Prop} (h1:a≠b→A) (h2:a=b→B):((a != b)=true→A)∧((a != b)=false→B):=⟨fun h=>h1 (by simpa using h),fun h=>h2 (by simpa using h)⟩
def wrap64 {n:Int} (h1: -9223372036854775808≤n) (h2:n≤9223372036854775807):IntKind.i64.wrap n=n:=by rw[IntKind.wrap_i64];omega
def fm {α:Type} {enc:α→List V} {xs:List α} {k:Nat} (h:(k:Int)<((xs.map enc).length:Nat)):k<xs.length:=by
 rw[BT]at h;omega
def aE {α:Type} {enc:α→List V} {xs:List α} {k:Nat} (hk:k≤xs.length) (h: ¬(k:Int)<((xs.map enc).length:Nat)):k=xs.length:=by
 rw[BT]at h;omega
def VY {α:Type} {enc:α→List V} {xs:List α} {f:Bool} {sz:Nat} {ki:IntKind} {j:Int} {K:V→AH→Prop} (l:Nat) (hj:j=l) (hl:l≤xs.length) (hs: ∀x,(enc x).length=sz) (h:K (.l ((xs.drop l).map enc) f) σ) :
    AS σ sz (.l (xs.map enc) f) (some (.i ki j)) none none K:=by
 subst hj;refine⟨fun e he=>?_,?_⟩
 ·obtain⟨x,_,rfl⟩:=KE.1 he
  exact hs x
 ·simp only[Ql,BT]
  refine⟨by omega,by omega,by omega,?_⟩;rw[MH,MH,List.take_of_length_le (by simp)];simpa using h
def exitTo (B:Nat) (J:Env→AH→Prop) (Q:Ag→Env→AH→Prop):Ag→Env→AH→Prop
 | .exit id,env,σ=>bif Nat.beq id B then J env σ else Q (.exit id) env σ
 | .normal,env,σ=>Q .normal env σ
 | .ret,env,σ=>Q .ret env σ
 | .Bo v,env,σ=>Q (.Bo v) env σ
end Go.Gl
namespace Go.Gl
variable {P:Program} {Λ:Nat→Prop} {pu:List FuncId} {fz:List Nat}
inductive RS where
 | t (n:Nat)
 | c (n:Nat) (agg:Option Nat)
def MP (P:Program):List ResultVar→Option (List RS)
 | []=>some []
 | .tmp t::r=>(MP P r).map (.t t:: ·)
 | .cell a t::r=>match Ih P t,MP P r with|some g,some l=>some (.c a g::l)|_,_=>none
def UD (σ:AH) (env:Env):List RS→(List V→Prop)→Prop
 | [],k=>k []
 | .t n::r,k=>wv (get n env) fun v=>UD σ env r fun vs=>k (v::vs)
 | .c n g::r,k=>wv (get n env) fun a=>AX σ g a fun v=>UD σ env r fun vs=>k (v::vs)
def Ex:List V→V
 | [v]=>v
 | vs=> .t vs
def Un (AK:List RS) (Q:R→AH→Prop):Ag→Env→AH→Prop
 | .normal,env,σ| .ret,env,σ=>UD σ env AK fun vs=>Ap σ (Ex vs) Q
 | .Bo v,_,σ=>Af σ v Q
 | .exit _,_,_=>False
def cH {t:TypeId} {agg:Option Nat} (Y:Ih P t=some agg) {σ:AH} {w:World} (G:Rel Λ σ w) {vx:V} {c:Value} (hx:Ai (Hh Λ σ w) vx c) {K:V→Prop} (h:AX σ agg vx K) :
    ∃v d,(do loadVar t (←asAddr c):Sem Value).run P w= .ok d w∧Ai (Hh Λ σ w) v d∧K v:=by
 unfold AX at h;split at h
 ·rename_i cs
  obtain⟨b,o,rfl,hv⟩:=hx;obtain⟨v,c,h1,h2,h3⟩:=Fc (P:=P) (w:=w) (b:=b) (off:=0) Y (fun i c hc=>(GL hc).2.2) hv h;refine⟨v,c,?_,h2,h3⟩;simp only[DZ,asAddr,E2,Result.andThen,Nat.add_zero]at h1 ⊢;exact h1
 ·rename_i n off
  simp only[Ai]at hx;subst hx;unfold Ou at h;split at h
  ·rename_i vs hs
   obtain⟨c,e,h1,h2,h3⟩:=Jo G hs;obtain⟨v,c',h4,h5,h6⟩:=Fc (P:=P) (w:=w) (b:=n) (off:=off) Y (fun i c hc=>by rw[Df h1];exact hc) h3 h;refine⟨v,c',?_,h5,h6⟩;simp only[DZ,asAddr,E2,Result.andThen,G7]at h4 ⊢;exact h4
  ·exact h.elim
 ·rename_i n sz i off
  simp only[Ai]at hx;subst hx;unfold Ov at h;split at h
  ·rename_i sz' es cap hs
   obtain⟨rfl,h⟩:=h;split at h
   ·rename_i e he
    obtain⟨c,e',h1,_,_,_,h3⟩:=FA G hs;obtain⟨h7,h8⟩:=BJ.1 h3 i e he;obtain⟨v,c',h4,h5,h6⟩:=Fc (P:=P) (w:=w) (b:=n) (off:=off) Y (fun i c hc=>by rw[Df h1];exact hc) h8 h;refine⟨v,c',?_,h5,h6⟩;simp only[DZ,asAddr,E2,Result.andThen,G7]at h4 ⊢;exact h4
   ·exact h.elim
  ·exact h.elim
 ·exact h.elim
def L2 {fn:Func} {AK:List RS} (hr:MP P fn.results.toList=some AK) {σ:AH} {w:World} (G:Rel Λ σ w) {env:Env} {tmps:Array Value} (he:CT (Hh Λ σ w) env tmps) {K:List V→Prop} (hv:UD σ env AK K) :
    ∃c vs,(results fn tmps).run P w= .ok c w∧Ai (Hh Λ σ w) (Ex vs) c∧K vs:=by
 have key: ∀(l:List ResultVar) (AK:List RS),MP P l=some AK→ ∀K,UD σ env AK K→
  ∃(cs:List Value) (vs:List V),(l.mapM (oP tmps)).run P w= .ok cs w∧cs.length=vs.length∧Bb (Hh Λ σ w) (fun i=>cs[i]?) 0 vs∧K vs:=by
  intro l
  induction l with
  | nil=>
    intro AK hs K hv;cases hs;exact⟨[],[],by simp,rfl,trivial,hv⟩
  | cons x l ih=>
    intro AK hs K hv;cases x with
    | cell a t=>
      simp only[MP]at hs;split at hs
      ·rename_i g s' h0 h1
       cases hs;obtain⟨va,h2,hv⟩:=Up hv;obtain⟨ca,h7,h8⟩:=he a va h2;obtain⟨v,d,h9,h10,hv⟩:=cH (P:=P) h0 G h8 hv;obtain⟨cs,vs,h4,h5,h6,hk⟩:=ih s' h1 _ hv;refine⟨d::cs,v::vs,?_,by simp[h5],⟨d,rfl,h10⟩ |> fun h=>⟨h,BH h6 (fun i _=>by rw[show 0+1+i=i+1 by omega];simp)⟩,hk⟩;rw[List.mapM_cons];simp only[DZ,oP]at h9 ⊢;simp only[Array.getD_eq_getD_getElem?,h7,Option.getD_some,h9,Gr,h4,E2]
      ·cases hs
    | tmp t=>
      simp only[MP]at hs;obtain⟨s',h1,rfl⟩:=Ak hs;obtain⟨u,h2,hv⟩:=Up hv;obtain⟨cs,vs,h4,h5,h6,hk⟩:=ih s' h1 _ hv;obtain⟨c,h7,h8⟩:=he t u h2;refine⟨c::cs,u::vs,?_,by simp[h5],⟨⟨c,rfl,h8⟩,BH h6 (fun i _=>by rw[show 0+1+i=i+1 by omega];simp)⟩,hk⟩;rw[List.mapM_cons];simp only[oP,DZ,E2,Gr,h4,Array.getD_eq_getD_getElem?,h7,Option.getD_some]
 obtain⟨cs,vs,h1,h2,h3,hk⟩:=key _ _ hr K hv
 have hrun:(fn.results.mapM (oP tmps)).run P w= .ok cs.toArray w:=by
  rw[Array.mapM_eq_mapM_toList];simp[h1]
 rw[Kl];simp only[DZ];refine⟨if h:cs.toArray.size=1 then cs.toArray[0]else .tuple cs.toArray,vs,?_,?_,hk⟩
 ·rw[hrun]
  rfl
 ·by_cases h1':cs.length=1
  ·rw [dif_pos (by simpa using h1')]
   match cs,h1',h2,h3 with
   | [c],_,h2,h3=>
     match vs,h2,h3 with
     | [u],_,h3=>
       obtain⟨⟨d,hd,hr⟩,_⟩:=h3;simp at hd;subst hd;exact hr
  ·rw[dif_neg (by simpa using h1')]
   have hv':Ex vs= .t vs:=by
    match vs with
    | []=>rfl
    | [u]=>simp at h2;exact absurd h2 h1'
    | u::u'::r=>rfl
   rw[hv'];exact⟨_,rfl,by simpa using h2,BH h3 (fun i _=>by simp)⟩
def dH {f:FuncId} {fn:Func} {c:Code} {ac:AY} {AK:List RS} (hf:P.funcs[f]? =some fn) (hok:okF P f=true) (hb:fn.body=some c) (hr:MP P fn.results.toList=some AK)
    {args:List V} (hn:args.length≤fn.ntmps) (hc:res P fn.ntmps pu fz c=some (erase ac)) {σ:AH} {Q:R→AH→Prop} (h:T P ac (Un AK Q) (BD 0 args) σ):A7 P f args σ Q:=by
 refine⟨hok,fun Λ w cs G hv=>?_⟩;refine callsIn_wide (n:=0) |>.1 (Gq hf hb ?_)
 have he:CT (Hh Λ σ w) (BD 0 args) (cs++Array.replicate (fn.ntmps - cs.size) undef):=by
  intro k v hg;obtain⟨_,h2⟩:=Gi args 0 k v hg;simp only[Nat.sub_zero]at h2;obtain⟨d,h3,h4⟩:=Bm.1 hv.2 k v h2;simp only[G7]at h3;refine⟨d,?_,h4⟩;rw[Array.getElem?_append_left (by have:=(pb.1 h3).1;exact this)];exact h3
 have hsz:(cs++Array.replicate (fn.ntmps - cs.size) undef).size=fn.ntmps:=by
  simp only[Array.size_append,Array.size_replicate];have:=hv.1;omega
 refine CX (FC (r:=none) (a:={tmps:=cs++Array.replicate (fn.ntmps - cs.size) undef,defers:=[]}) hc h he G hsz DM.none) ?_;rintro e a' w' ⟨ex,env,σ',hq,hx,he',hR',Y,hN,ms,hms,hnd,hD,_⟩;simp only[KD]at hms
 have fin:UD σ' env AK (fun vs=>Ap σ' (Ex vs) Q)→LeavesInM (wide none) 0 P fn a'.tmps (fun e w'=> ∃r σ',Q r σ'∧Uo (Hh Λ σ' w') r e∧Rel Λ σ' w'∧B8 Λ σ w σ' w') a'.defers .returning w':=fun h1=>by
  rw[hms,←KD (ms.map Ea)];refine DY (by simp) ms w' hnd hD hR' Y fun w2 q1 q2 q3=>?_
  obtain⟨c,vs,h5,h6,vf,σ'',h2,h3,h4⟩:=L2 (P:=P) hr q1 (he'.mono q3) h1;exact⟨c,h5,.ret vf,σ'',h4,⟨c,rfl,h3.rel q1 h2 h6⟩,q1.drop h2,q2.trans (B8.drop w2 h2)⟩
 cases ex with
 | normal=>simp only[EA]at hx;subst hx;exact fin hq
 | ret=>simp only[EA]at hx;subst hx;exact fin hq
 | exit id=>exact hq.elim
 | Bo v=>
   obtain⟨c,rfl,hv'⟩:=hx;obtain⟨vf,σ'',h2,h3,h4⟩:=hq;show LeavesInM _ _ _ _ _ _ a'.defers (.panicking _) w';rw[hms,←KD (ms.map Ea)];refine DY (by simp) ms w' hnd hD hR' Y fun w2 q1 q2 q3=>?_
   exact⟨.Bo vf,σ'',h4,⟨c,rfl,h3.rel q1 h2 (hv'.mono q3)⟩,q1.drop h2,q2.trans (B8.drop w2 h2)⟩
def Eu {f:FuncId} {fn:Func} {ac:AY} {AK:List RS} (hf:P.funcs[f]? =some fn) (hok:okF P f=true) (hb:fn.body.bind (res P fn.ntmps pu fz)=some (erase ac)) (hr:MP P fn.results.toList=some AK)
    {args:List V} (hn:args.length≤fn.ntmps) {σ:AH} {Q:R→AH→Prop} (h:T P ac (Un AK Q) (BD 0 args) σ):A7 P f args σ Q:=by
 cases hc:fn.body with
 | none=>rw[hc]at hb;cases hb
 | some c=>rw[hc]at hb;exact dH hf hok hc hr hn hb h
end Go.Gl
namespace Go.Gl
variable {P:Program} {Λ:Nat→Prop} {σ:AH}
def E7:List Nat→List V→Env→Env
 | p::ps,v::vs,env=>E7 ps vs (put (some p) v env)
 | _,_,env=>env
def TK (L:Nat) (env:Env) (ok:FuncId→Array Tmp→Code→Code→Nat→Prop) (Q:R→AH→Prop):Ag→Env→AH→Prop
 | .normal,_,σ'=>Q (.ret (.b true)) (A5 σ' L (.loop .ready env ok))
 | .ret,_,σ'=>Q (.ret (.b false)) (A5 σ' L (.loop .ret env ok))
 | .exit id,_,σ'=>Q (.ret (.b false)) (A5 σ' L (.loop (.exit id) env ok))
 | .Bo v,_,σ'=>Q (.Bo v) σ'
def Ck (K:Env→AH→Prop):Ag→Env→AH→Prop
 | .normal,env,σ=>K env σ
 | _,_,_=>False
def get_mem: ∀ {env:Env} {k:Nat} {v:V},get k env=some v→(k,v)∈env
 | [],_,_,h=>by cases h
 | (j,u)::r,k,v,h=>by
   simp only[get]at h;cases hb:Nat.beq j k with
   | true=>
     rw[hb]at h;simp only[cond_true,IU]at h;rw[UC hb,h];exact .head _
   | false=>
     rw[hb]at h;exact .tail _ (get_mem h)
def CT.binds {H:Nat→Nat→Option Value} {N:Nat}: ∀(ps:List Nat) (vs:List V) (cs:List Value) (env:Env) (tmps:Array Value),CT H env tmps→tmps.size=N→(∀p∈ps,p<N)→vs.length=ps.length→cs.length=vs.length→
    Bb H (fun i=>cs[i]?) 0 vs→CT H (E7 ps vs env) ((ps.zip cs).foldl (fun t pa=>t.setIfInBounds pa.1 pa.2) tmps)∧((ps.zip cs).foldl (fun t pa=>t.setIfInBounds pa.1 pa.2) tmps).size=N
 | [],[],[],env,tmps,he,hN,_,_,_,_=>⟨he,hN⟩
 | p ::ps,v::vs,c::cs,env,tmps,he,hN,hp,hl,hc,hv=>by
   simp only[List.zip_cons_cons,List.foldl_cons,E7];obtain⟨⟨d,hd,hr⟩,hv'⟩:=hv;simp at hd;subst hd
   refine CT.binds ps vs cs _ _ (CT.put (a:={tmps:=tmps,defers:=[]}) he hN (d:=some p) (fun x hx=>by cases hx;exact hp p (.head _)) hr) (by simpa using hN) (fun q hq=>hp q (.tail _ hq)) (by simpa using hl) (by simpa using hc)
    (BH hv' fun i _=>by rw[show 0+1+i=i+1 by omega];simp)
 | [],_::_,_,_,_,_,_,_,hl,_,_=>by simp at hl
 | _::_,[],_,_,_,_,_,_,hl,_,_=>by simp at hl
 | _::_,_::_,[],_,_,_,_,_,_,hc,_=>by simp at hc
 | [],[],_::_,_,_,_,_,_,_,hc,_=>by simp at hc
def Qa {L : Nat} {env:Env} {ps:List Nat} {a b:AY} (hσ:σ L=some (.loop .ready env (B6 P ps a b))) {args:List V} (hl:args.length=ps.length) {Q:R→AH→Prop}
    (h:T P a (Ck (T P b (fun ex env' σ'=>σ' L=none→TK L env (B6 P ps a b) Q ex env' σ'))) (E7 ps args env) (del σ L)):N7 P L args σ Q:=by
 intro Λ w cs G hv;obtain⟨hnl,ob,hob,lp,rfl,⟨hst,hpe⟩,htm,hfn,hps,hplt,pu,fz,hra,hrb⟩:=G.own L _ hσ;have hsub:=GG σ L;have hAd:B8 Λ σ w (del σ L) w:=B8.drop w hsub;have hcs:cs.size=lp.params.size:=by rw[hv.1,hl,←hps];simp
 refine⟨lp.fn,_,lp.assign,lp.body,run_yield hob hcs,?_⟩
 have hfold:(lp.params.zip cs).foldl (fun tmps (t,a)=>tmps.setIfInBounds t a) lp.tmps=(ps.zip cs.toList).foldl (fun t pa=>t.setIfInBounds pa.1 pa.2) lp.tmps:=by
  rw[←hps,←Array.foldl_toList,Array.toList_zip]
 obtain⟨he0,hN0⟩:=CT.binds (H:=Hh Λ (del σ L) w) ps args cs.toList env lp.tmps (fun k v hg=>let⟨c,h1,h2⟩:=htm k v (get_mem hg);⟨c,h1,h2.mono hAd.hle⟩) rfl hplt hl (by simpa using hv.1) (BH (Bb.mono hAd.hle (fun _ _ e=>e) _ _ hv.2) fun i _=>by simp);have hrd:DM (some L) (del σ L) w:=fun l e=>by cases e;exact⟨De σ L,lp,hob⟩
 refine Qg hfn ?_;rw[hfold];refine CX (FC (r:=some L) (a:={tmps:=(ps.zip cs.toList).foldl (fun t pa=>t.setIfInBounds pa.1 pa.2) lp.tmps,defers:=[]}) hra h he0 (G.drop hsub) hN0 hrd) ?_;rintro e a1 w1 ⟨ex,env1,σ1,hq,hx,he1,hR1,hA1,hN1,hM1⟩;have hrd1:=hrd.HM hA1
 have hd1:a1.defers= []:=by
  obtain⟨ms,h1,_,_,h2⟩:=hM1;rw[h1,h2 (by simp)];rfl
 cases ex with
 | exit id=>exact hq.elim
 | ret=>exact hq.elim
 | Bo v=>exact hq.elim
 | normal=>
   simp only[EA]at hx;subst hx;obtain⟨hL1,_⟩:=hrd1 L rfl;have hob1:w1.heap[L]? =some (.loop lp):=(hA1.frame L (D4 hob) (De σ L)).trans hob;refine⟨_,run_beginRound hob1 hst,?_⟩;have hlt1:=D4 hob1;have hR1':=hR1.put (ob':= .loop {lp with state:= .busy}) hL1 hob1 rfl;have hob1':(w1.putObj L (.loop {lp with state:= .busy})).heap[L]? =some (.loop {lp with state:= .busy}):=World.putObj_heap_same hlt1;have hrd1':DM (some L) σ1 (w1.putObj L (.loop {lp with state:= .busy})):=fun l e=>by cases e;exact⟨hL1,_,hob1'⟩
   refine CX (FC (r:=some L) hrb hq (he1.mono (Tg hob1 rfl)) hR1' hN1 hrd1') ?_;rintro e2 a2 w2 ⟨ex2,env2,σ2,hq2,hx2,he2,hR2,hA2,hN2,hM2⟩
   have hd2:a2.defers= []:=by
    obtain⟨ms,h1,_,_,h2⟩:=hM2;rw[h1,h2 (by simp),hd1];rfl
   have hL2:σ2 L=none:=((hrd1'.HM hA2) L rfl).1;have hq2:=hq2 hL2;have hob2:w2.heap[L]? =some (.loop {lp with state:= .busy}):=(hA2.frame L (D4 hob1') hL1).trans hob1';have hne: ∀ {n:Nat},σ n=none→n≠L:=fun {n} hn e=>by rw[e,hσ]at hn;cases hn
   have hsz:w.heap.size≤w2.heap.size:=by
    have h1:=hA1.size;have h2:=hA2.size;simp at h2;omega
   have hfr: ∀n,n<w.heap.size→σ n=none→w2.heap[n]? =w.heap[n]? ∧σ2 n=none:=fun n hn h0=>by
    have h1:=hsub.none h0;have h2:=hA1.names n h1 hn;have hs1:=hA1.size;have h3:=hA2.frame n (by simp;omega) h2;exact⟨h3.trans ((World.putObj_heap_other (hne h0)).trans (hA1.frame n hn h1)),hA2.names n h2 (by simp;omega)⟩
   have fin: ∀(st:wG) (lp3:Loop),lp3.tmps=lp.tmps→lp3.fn=lp.fn→lp3.params=lp.params→lp3.assign=lp.assign→lp3.body=lp.body→pz st lp3→
    Rel Λ (A5 σ2 L (.loop st env (B6 P ps a b))) (w2.putObj L (.loop lp3))∧B8 Λ σ w (A5 σ2 L (.loop st env (B6 P ps a b))) (w2.putObj L (.loop lp3)):=fun st lp3 q1 q2 q3 q4 q5 q6=>by
    have hle:Yx (Hh Λ σ2 w2) (Hh Λ (A5 σ2 L (.loop st env (B6 P ps a b))) (w2.putObj L (.loop lp3))):=by
     intro b' o c hb;obtain⟨h1,h2,h3⟩:=GL hb
     have hbL:b'≠L:=fun e=>by
      subst e;rw[aQ hob2 rfl]at h3;cases h3
     rw[Nb h1 (by rw[KK (Ne.symm hbL)];exact h2),←h3];exact World.cell?_of_block (w:=w2) (World.putObj_heap_other hbL)
    have Y:B8 Λ σ w (A5 σ2 L (.loop st env (B6 P ps a b))) (w2.putObj L (.loop lp3)):=by
     refine⟨fun n hn h0=>(World.putObj_heap_other (hne h0)).trans (hfr n hn h0).1,by simpa using hsz,?_,?_,?_,fun n h0 hn=>by rw[KK (Ne.symm (hne h0))];exact(hfr n hn h0).2⟩
     ·exact hA2.os.trans hA1.os
     ·exact hA2.tape.trans hA1.tape
     ·exact hA2.output.trans hA1.output
    refine⟨⟨fun n o ho=>?_,fun n hn=>by have:=hR2.lock n hn;simpa using this⟩,Y⟩;by_cases hn:n=L
    ·subst hn
     have:A5 σ2 n (.loop st env (B6 P ps a b)) n=some (.loop st env (B6 P ps a b)):=by simp[A5]
     rw[this]at ho;cases ho;refine⟨hnl,_,World.putObj_heap_same (D4 hob2),lp3,rfl,q6,fun k v hm=>?_,?_⟩
     ·obtain⟨c,h1,h2⟩:=htm k v hm
      exact⟨c,by rw[q1];exact h1,h2.mono Y.hle⟩
     ·rw[q1,q2,q3,q4,q5]
      exact⟨hfn,hps,hplt,pu,fz,hra,hrb⟩
    ·rw[KK (Ne.symm hn)]at ho
     obtain⟨h1,o',h2,h3⟩:=hR2.own n o ho;exact⟨h1,o',(World.putObj_heap_other hn).trans h2,h3.mono hle⟩
   cases ex2 with
   | normal=>
     simp only[EA]at hx2;subst hx2;obtain⟨q1,q2⟩:=fin .ready {lp with state:= .ready,pending:=none} rfl rfl rfl rfl rfl ⟨rfl,rfl⟩;exact⟨_,_,run_endRound none hob2,.ret (.b true),_,hq2,⟨_,rfl,rfl⟩,q1,q2⟩
   | ret=>
     simp only[EA]at hx2;subst hx2;obtain⟨q1,q2⟩:=fin .ret {lp with state:= .done,pending:=some .ret} rfl rfl rfl rfl rfl ⟨rfl,rfl⟩;exact⟨_,_,run_endRound (some .ret) hob2,.ret (.b false),_,hq2,⟨_,rfl,rfl⟩,q1,q2⟩
   | exit id=>
     simp only[EA]at hx2;subst hx2;obtain⟨q1,q2⟩:=fin (.exit id) {lp with state:= .done,pending:=some (.exit id)} rfl rfl rfl rfl rfl ⟨rfl,rfl⟩;exact⟨_,_,run_endRound (some (.exit id)) hob2,.ret (.b false),_,hq2,⟨_,rfl,rfl⟩,q1,q2⟩
   | Bo v=>
     obtain⟨c,rfl,hvr⟩:=hx2;refine⟨hd2,.Bo v,σ2,hq2,⟨c,rfl,hvr⟩,hR2,?_⟩;exact⟨fun n hn h0=>(hfr n hn h0).1,hsz,hA2.os.trans hA1.os,hA2.tape.trans hA1.tape,hA2.output.trans hA1.output,fun n h0 hn=>(hfr n hn h0).2⟩
end Go.Gl
namespace Go.Gl
variable {P:Program} {Λ:Nat→Prop} {σ:AH} {pu:List FuncId} {fz:List Nat} {N n:Nat} {r:Option Nat} {ds:List Deferred}
def Ms {ops:Array Oper} {K:Env→AH→Prop} {kp:Env→V→AH→Prop} {QQ:Exit→Act→World→Prop} {σ₀:AH} {w₀:World} {L:List Nat}
    (U: ∀env σ a w,K env σ→CT (Hh Λ σ w) env a.tmps→Rel Λ σ w→B8 Λ σ₀ w₀ σ w→a.tmps.size=N→a.defers=ds→wpOpsIn (wide r) n P ops QQ L a w)
    (hkp: ∀env v σ c a w,kp env v σ→Ai (Hh Λ σ w) v c→CT (Hh Λ σ w) env a.tmps→Rel Λ σ w→B8 Λ σ₀ w₀ σ w→a.tmps.size=N→a.defers=ds→QQ (.panic [{v:=c,recovered:=false}]) a w) :
    ∀(as:List Av) (j:Nat),(∀(i:Nat) (ao:Av),as[i]? =some ao→ ∃o,ops[j+i]? =some o∧NQ P N ops o=some ao)→
    ∀(env:Env) (σ:AH) (a:Act) (w:World),I4 P (as.map (DO pu fz)) K kp env σ→CT (Hh Λ σ w) env a.tmps→Rel Λ σ w→B8 Λ σ₀ w₀ σ w→a.tmps.size=N→a.defers=ds→
    wpOpsIn (wide r) n P ops QQ (List.range' j as.length++L) a w
 | [],j,_,env,σ,a,w,h,he,G,Y,hN,hd=>by
   simp only[List.length_nil,List.range'_zero,List.nil_append];exact U env σ a w h he G Y hN hd
 | ao::as,j,hget,env,σ,a,w,h,he,G,Y,hN,hd=>by
   simp only[K1,List.range'_succ,List.cons_append,wpOpsIn];obtain⟨o,hj,h2⟩:=hget 0 ao rfl;simp only[Nat.add_zero]at hj;simp only[hj]
   refine Kq (K:=I4 P (as.map (DO pu fz)) K kp) (kp:=kp env) h2 he G hN (by
    simp only[Ct,I4]at h;have:=Ky h
    rwa [Ko]at this) (fun env' σ' c w' hk he' hR' hA'=>?_) (fun v σ' c w' hk hv hR' hA'=>?_)
   ·exact Ms U hkp as (j+1) (fun i x hx=>by
     obtain⟨o',h3,h4⟩:=hget (i+1) x (by simpa using hx)
     exact⟨o',by rw[←h3];congr 1;omega,h4⟩) env' σ' _ w' hk he' hR' (Y.trans hA') (by rw[Lh];exact hN) (by rw[put_defers];exact hd)
   ·exact hkp env v σ' c a w' hk hv (he.mono hA'.hle) hR' (Y.trans hA') hN hd
def Y7 (o:Oper):Option Bt:=
 match o.op,o.guard,o.dst with
 | .defer c,none,none=>match c.callee,c.args.toList with
   | .value x,[]=>BX x
   | _,_=>none
 | _,_,_=>none
def LO (P:Program) (N:Nat) (pu:List FuncId) (fz:List Nat):Code→Option (AY×List Av×Bt×AY)
 | .seq a (.seq (.region _ ops false) c)=>match res P N pu fz a,ops.toList.getLast?.bind Y7,HB P N ops ops.toList.dropLast,res P N pu fz c with
   | some a',some x,some os,some c'=>some (a',os.map (DO pu fz),x,c')
   | _,_,_,_=>none
 | _=>none
def ZU (P:Program) (N:Nat) (pu:List FuncId) (fz:List Nat):Code→Option (AY×List Av×Bt×AY)
 | .seq a b=>match res P N pu fz a,LO P N pu fz b with
   | some a',some (b',os,x,c')=>some (.seq [] a' b',os,x,c')
   | _,_=>none
 | _=>none
def KN (P:Program) (N:Nat) (pu:List FuncId) (fz:List Nat) (c:Code):Option (AY×List Av×Bt×AY):=
 match LO P N pu fz c with
 | some r=>some r
 | none=>ZU P N pu fz c
def isRec (o:Oper):Option Nat:=
 match o.op,o.guard,o.dst with
 | .call c,none,some k=>match c.callee,c.args.toList with
   | .builtin .recover,[]=>some k
   | _,_=>none
 | _,_,_=>none
def resRec (P:Program) (N:Nat) (pu:List FuncId) (fz:List Nat):Code→Option (Nat×List Av×AY)
 | .seq (.region _ ops false) c=>match ops.toList with
   | o::l=>match isRec o,HB P N ops l,res P N pu fz c with
     | some k,some os,some c'=>if k<N then some (k,os.map (DO pu fz),c')else none
     | _,_,_=>none
   | []=>none
 | _=>none
def WW {c : Code} {k:Nat} {os:List Av} {ac:AY} (h:resRec P N pu fz c=some (k,os,ac)): ∃id ops c2 o ol os',c= .seq (.region id ops false) c2∧ops.toList=o::ol∧isRec o=some k∧HB P N ops ol=some os'∧os=os'.map (DO pu fz)∧
    res P N pu fz c2=some ac∧k<N:=by
 unfold resRec at h;split at h
 ·rename_i id ops c2
  split at h
  ·rename_i o ol hops
   split at h
   ·rename_i k os' c' h1 h2 h3
    split at h
    ·rename_i hk
     simp only[IU,Prod.mk.injEq]at h;obtain⟨rfl,rfl,rfl⟩:=h;exact⟨id,ops,c2,o,ol,os',rfl,hops,h1,h2,rfl,h3,hk⟩
    ·cases h
   ·cases h
  ·cases h
 ·cases h
def L3 {c:Code} {a c':AY} {os:List Av} {x:Bt} (h:LO P N pu fz c=some (a,os,x,c')): ∃ca id ops cc o os',c= .seq ca (.seq (.region id ops false) cc)∧ops.toList.getLast? =some o∧Y7 o=some x∧HB P N ops ops.toList.dropLast=some os'∧os=os'.map (DO pu fz)∧
    res P N pu fz ca=some a∧res P N pu fz cc=some c':=by
 unfold LO at h;split at h
 ·rename_i ca id ops cc
  split at h
  ·rename_i a1 x1 os' c1 h1 h2 h3 h4
   simp only[IU,Prod.mk.injEq]at h;obtain⟨rfl,rfl,rfl,rfl⟩:=h;obtain⟨o,h5,h6⟩:=Option.bind_eq_some_iff.1 h2;exact⟨ca,id,ops,cc,o,os',rfl,h5,h6,h3,rfl,h1,h4⟩
  ·cases h
 ·cases h
def Pre (P:Program) (N:Nat) (pu:List FuncId) (fz:List Nat) (c:Code) (a:AY) (X:Code):Prop:=
 (∃ca,c= .seq ca X∧res P N pu fz ca=some a)∨ ∃c1 c2 a1 a2,c= .seq c1 (.seq c2 X)∧res P N pu fz c1=some a1∧res P N pu fz c2=some a2∧a= .seq [] a1 a2
def WX {c:Code} {a c':AY} {os:List Av} {x:Bt} (h:KN P N pu fz c=some (a,os,x,c')): ∃id ops cc o os',Pre P N pu fz c a (.seq (.region id ops false) cc)∧ops.toList.getLast? =some o∧Y7 o=some x∧HB P N ops ops.toList.dropLast=some os'∧os=os'.map (DO pu fz)∧
    res P N pu fz cc=some c':=by
 unfold KN at h;split at h
 ·rename_i r hr
  cases h;obtain⟨ca,id,ops,cc,o,os',rfl,h1,h2,h3,h4,h5,h6⟩:=L3 hr;exact⟨id,ops,cc,o,os',.inl ⟨ca,rfl,h5⟩,h1,h2,h3,h4,h6⟩
 ·cases c<;>simp only[ZU,reduceCtorEq]at h
  rename_i c1 b _;cases h1:res P N pu fz c1 with
  | none=>rw[h1]at h;cases h
  | some a1=>
    cases h2:LO P N pu fz b with
    | none=>rw[h1,h2]at h;cases h
    | some r=>
      obtain⟨b1,os1,x1,c2⟩:=r;rw[h1,h2]at h;cases h;obtain⟨ca,id,ops,cc,o,os',rfl,k1,k2,k3,k4,k5,k6⟩:=L3 h2;exact⟨id,ops,cc,o,os',.inr ⟨c1,ca,a1,b1,rfl,h1,k5,rfl⟩,k1,k2,k3,k4,k6⟩
def bt {r:Option Nat} {c X:Code} {ac:AY} (hp:Pre P N pu fz c (erase ac) X) {Q:Ag→Env→AH→Prop} {env:Env} {σ:AH} {a:Act} {w:World} (h:T P ac Q env σ) (he:CT (Hh Λ σ w) env a.tmps) (G:Rel Λ σ w) (hN:a.tmps.size=N) (hrd:DM r σ w) {Q0:Exit→Act→World→Prop}
    (H: ∀e a1 w1,Gy r Λ σ w N a.defers Q e a1 w1→Exit.then (Nz r P X Q0) Q0 e a1 w1):Nz r P c Q0 a w:=by
 rcases hp with⟨ca,rfl,h1⟩|⟨c1,c2,a1,a2,rfl,h1,h2,h3⟩
 ·exact JU (CX (FC (r:=r) h1 h he G hN hrd) H)
 ·cases ac<;>simp only[erase,reduceCtorEq,AY.seq.injEq]at h3
  rename_i l b1 b2;obtain⟨_,e1,e2⟩:=h3;subst e1;subst e2;simp only[T]at h;refine JU (CX (FC (r:=r) h1 h he G hN hrd) ?_);rintro e a' w' ⟨ex,env',σ',hq,hx,he',hR',Y,hN',hM'⟩;cases ex with
  | normal=>
    simp only[EA]at hx;subst hx;simp only[Ag.andThen]at hq;rcases hq with hq|⟨env2,σ2,f1,f2,hq⟩
    ·exact JU (CX (FC (r:=r) h2 hq (he'.prune l) hR' hN' (hrd.HM Y)) fun e a w hp=>H e a w (hp.trans Y hM'))
    ·have hA2:=Y.trans (B8.fz w' f1)
     exact JU (CX (FC (r:=r) h2 hq ((he'.prune l).fz hR' f1 f2) (hR'.fz f1) hN' (hrd.HM hA2)) fun e a w hp=>H e a w (hp.trans hA2 (hM'.HM (B8.fz (Λ:=Λ) w' f1))))
  | ret=>
    simp only[EA]at hx;subst hx;exact H _ _ _ ⟨.ret,env',σ',hq,rfl,he',hR',Y,hN',hM'⟩
  | exit id=>
    simp only[EA]at hx;subst hx;exact H _ _ _ ⟨.exit id,env',σ',hq,rfl,he',hR',Y,hN',hM'⟩
  | Bo v=>
    obtain⟨c,rfl,hv⟩:=hx;exact H _ _ _ ⟨.Bo v,env',σ',hq,⟨c,rfl,hv⟩,he',hR',Y,hN',hM'⟩
def fO {σ₀:AH} {w₀:World} {cs:List Frame}: ∀(ms:List Nat) (fr:Frame) (w:World),ms.Nodup→(∀D∈ms,w₀.heap.size≤D∧σ D=none∧w.heap[D]? =some (.deferred (some [])))→fr.mode≠ .run→fr.defers=ms.map Ea→
    Rel Λ σ w→B8 Λ σ₀ w₀ σ w→ ∃w',StepsIn (Machine.fenced P (wide none)) P (lone fr cs w) (lone {fr with defers:=[]} cs w')∧Rel Λ σ w'∧B8 Λ σ₀ w₀ σ w'
 | [],fr,w,_,_,_,hd,G,Y=>by
   have:({fr with defers:=[]}:Frame)=fr:=by cases fr;simp_all
   exact⟨w,by rw[this];exact .refl _,G,Y⟩
 | D ::ms,fr,w,hnd,hms,hm,hd,G,Y=>by
   obtain⟨h1,h2,h3⟩:=hms D (.head _);have hnd':=List.nodup_cons.1 hnd;have hs:=step_collected (P:=P) (fr:=fr) (cs:=cs) (d:=Ea D) (ds:=ms.map Ea) (r:=D) hm hd rfl (run_takeDeferred h3)
   obtain⟨w',q1,q2,q3⟩:=fO (σ₀:=σ₀) (w₀:=w₀) (cs:=cs) ms {fr with defers:=[]++ms.map Ea} (w.putObj D (.deferred none)) hnd'.2 (fun E hE=>by
    obtain⟨h4,h5,h6⟩:=hms E (.tail _ hE)
    exact⟨h4,h5,(World.putObj_heap_other (fun e=>hnd'.1 (by rw[←e];exact hE))).trans h6⟩) hm rfl (G.put h2 h3 rfl) (Y.ZX h1)
   exact⟨w',.head (fenced_lone (.inl trivial) (fun _ _=>trivial) HA) hs q1,q2,q3⟩
def HS (P:Program) (f:FuncId) (args:List V) (m:Option V) (σ:AH) (Q:AH→Prop):Prop:=
 okF P f=true∧ ∀(Λ:Nat→Prop) (w:World) (cs:Array Value) (u:FrameMode),Rel Λ σ w→dx (Hh Λ σ w) args cs→
  (match m with|none=>u= .returning|some v=> ∃c,Ai (Hh Λ σ w) v c∧u= .panicking [{v:=c,recovered:=false}])→
  CallsDIn (wide none) 0 P f cs u w fun e u' w'=>(∃v,e= .returned v)∧settle u'= .returning∧ ∃σ',Q σ'∧Rel Λ σ' w'∧B8 Λ σ w σ' w'
def N6 (Q:AH→Prop):Ag→Env→AH→Prop
 | .normal,_,σ| .ret,_,σ=>Q σ
 | _,_,_=>False
def Jm {f:FuncId} {fn:Func} {k:Nat} {os:List Av} {l:List Nat} {ac:AY} (hf:P.funcs[f]? =some fn) (hok:okF P f=true) (hb:fn.body.bind (resRec P fn.ntmps pu fz)=some (k,os,erase ac)) (hr:fn.results= #[])
    {args:List V} (hn:args.length≤fn.ntmps) {m:Option V} {σ:AH} {Q:AH→Prop} (h:T P (.seq l (.DT os) ac) (N6 Q) (put (some k) (m.getD .Dv) (BD 0 args)) σ):HS P f args m σ Q:=by
 refine⟨hok,fun Λ w cs u G hv hu=>?_⟩;obtain⟨c,hc,hb⟩:=Option.bind_eq_some_iff.1 hb;obtain⟨id,ops,c2,o,ol,os',rfl,hops,h1,h2,rfl,h3,hkN⟩:=WW hb
 have ho0:ops[0]? =some o:=by
  rw[←Array.getElem?_toList,hops];rfl
 have hsz:ops.size=1+ol.length:=by
  rw[←Array.length_toList,hops];simp;omega
 obtain⟨hl1,hl2⟩:=Gf h2
 obtain⟨rv,u',hrv,hu',hst⟩: ∃(rv:Value) (u':FrameMode),Ai (Hh Λ σ w) (m.getD .Dv) rv∧(∀(c₀:Frame) (fs:List Frame),c₀.mode=u→(recoverD (c₀::fs)=some (rv,{c₀ with mode:=u'}::fs)∨(recoverD (c₀::fs)=none∧rv= .nilIface∧u'=u)))∧settle u'= .returning:=by
  cases m with
  | none=>
    simp only at hu;subst hu;exact⟨.nilIface,.returning,rfl,fun c₀ fs hm=> .inr ⟨by simp[recoverD,hm],rfl,rfl⟩,rfl⟩
  | some v=>
    obtain⟨d,hd,rfl⟩:=hu;exact⟨d,.panicking [{v:=d,recovered:=true}],hd,fun c₀ fs hm=> .inl (by simp[recoverD,hm]),rfl⟩
 have he:CT (Hh Λ σ w) (BD 0 args) (cs++Array.replicate (fn.ntmps - cs.size) undef):=by
  intro k v hg;obtain⟨_,h2⟩:=Gi args 0 k v hg;simp only[Nat.sub_zero]at h2;obtain⟨d,h3,h4⟩:=Bm.1 hv.2 k v h2;simp only[G7]at h3;refine⟨d,?_,h4⟩;rw[Array.getElem?_append_left (by have:=(pb.1 h3).1;exact this)];exact h3
 have hsz0:(cs++Array.replicate (fn.ntmps - cs.size) undef).size=fn.ntmps:=by
  simp only[Array.size_append,Array.size_replicate];have:=hv.1;omega
 obtain⟨cc,hop,hg,hd⟩: ∃cc,o.op= .call cc∧o.guard=none∧o.dst=some k∧cc.callee= .builtin .recover∧cc.args= #[]:=by
  unfold isRec at h1;split at h1
  ·rename_i cc k2 e1 e2 e3
   split at h1
   ·rename_i e4 e5
    cases h1;exact⟨cc,e1,e2,e3,e4,Array.toList_eq_nil_iff.1 e5⟩
   ·cases h1
  ·cases h1
 obtain⟨hd,hcal,hargs⟩:=hd
 have he1:CT (Hh Λ σ w) (put (some k) (m.getD .Dv) (BD 0 args)) (({tmps:=cs++Array.replicate (fn.ntmps - cs.size) undef,defers:=[]}:Act).put (some k) rv).tmps:=
  he.put (a:={tmps:=cs++Array.replicate (fn.ntmps - cs.size) undef,defers:=[]}) hsz0 (d:=some k) (fun x hx=>by cases hx;exact hkN) hrv
 simp only[T]at h
 have hW:=Ms (P:=P) (Λ:=Λ) (r:=none) (n:=0) (ds:=[]) (σ₀:=σ) (w₀:=w) (L:=[]) (pu:=pu) (fz:=fz) (ops:=ops) (QQ:=Exit.then (Nz none P c2 (fun e a' w'=>Gy none Λ σ w fn.ntmps [] (N6 Q) e a' w')) (fun e a' w'=>Gy none Λ σ w fn.ntmps [] (N6 Q) e a' w'))
  (N:=fn.ntmps)
  (K:=fun env σ=>Ag.andThen (fun env σ=>Fz (Gl.prune l env) σ (T P ac (N6 Q))) (N6 Q) .normal env σ) (kp:=fun env v σ=>Ag.andThen (fun env σ=>Fz (Gl.prune l env) σ (T P ac (N6 Q))) (N6 Q) (.Bo v) env σ)
  (fun env σ1 a1 w1 hk he hR1 hA1 hN1 hd1=>by
   simp only[wpOpsIn,Exit.then];simp only[Ag.andThen]at hk;rcases hk with hk|⟨env2,σ2,f1,f2,hk⟩
   ·refine CX (FC (r:=none) h3 hk (he.prune l) hR1 hN1 DM.none) fun e a' w' ht=>?_
    exact Gy.trans hA1 (by rw[hd1];exact Marks.refl _ _ _ _ _) ht
   ·refine CX (FC (r:=none) h3 hk ((he.prune l).fz hR1 f1 f2) (hR1.fz f1) hN1 DM.none) fun e a' w' ht=>?_
    exact Gy.trans (hA1.trans (B8.fz w1 f1)) (by rw[hd1];exact Marks.refl _ _ _ _ _) ht)
  (fun env v σ1 c1 a1 w1 hk hv1 he1 hR1 hA1 hN1 hd1=>hk.elim)
  os' 1 (fun i ao hao=>by
   have hlt:i<ol.length:=by
    rw[hl1];exact(MK.1 hao).1
   obtain⟨x,hx,hy⟩:=hl2 i ol[i] (by simp[hlt]);rw[hao]at hx;cases hx;refine⟨ol[i],?_,hy⟩;rw[←Array.getElem?_toList,hops,show 1+i=i+1 by omega]
   simp[hlt])
  _ σ _ w h he1 G (B8.refl _ _ _) (by rw[Lh];exact hsz0) rfl
 simp only[KD]at hW;refine⟨trivial,fun c₀ fs hu0 hroom=>?_⟩
 let b:Frame:={(default:Frame)with fn:=f,kind:= .deferred,roundOf:=none}
 have henter:Frame.enter P f cs .deferred =
  b.atR {tmps:=cs++Array.replicate (fn.ntmps - cs.size) undef,defers:=[]} [.code (.seq (.region id ops false) c2)]:=by
  simp[Frame.enter,Frame.atR,hf,hc,b]
 let a0:Act:={tmps:=cs++Array.replicate (fn.ntmps - cs.size) undef,defers:=[]}
 have s1:StepsIn (Machine.fenced P (wide none)) P (lone (b.atR a0 [.code (.seq (.region id ops false) c2)]) (c₀::fs) w) (lone (b.atR a0 [.code (.region id ops false),.code c2]) (c₀::fs) w):= .one (GF rfl) stepR_seq;have s2:StepsIn (Machine.fenced P (wide none)) P (lone (b.atR a0 [.code (.region id ops false),.code c2]) (c₀::fs) w) (lone (b.atR a0 [.inRegion ops (List.range ops.size),.code c2]) (c₀::fs) w):= .one (GF rfl) stepR_region
 have hrange:List.range ops.size=0::List.range' 1 os'.length:=by
  rw[List.range_eq_range',hsz,hl1,show 1+os'.length=os'.length+1 by omega,List.range'_succ]
 have hwant:Region.wanted o (yielded ops a0.tmps)=true:=by simp[Region.wanted,hg]
 have hrun:(execOp a0.eval o).run P w= .ok .recover w:=by
  unfold execOp;simp only[hop];simp only[resolve,hcal,hargs,invoke,builtin,DZ,E2,Gr]
 have s3:StepsIn (Machine.fenced P (wide none)) P (lone (b.atR a0 [.inRegion ops (0::List.range' 1 os'.length),.code c2]) (c₀::fs) w) (lone (b.atR (a0.put (some k) rv) [.inRegion ops (List.range' 1 os'.length),.code c2]) ({c₀ with mode:=u'}::fs) w):=by
  refine .one (fenced_lone (.inl trivial) (fun _ _=>trivial) HA) (step_lone_go ?_);have hgop:=stepGR_op (P:=P) (b:=b) (a:=a0) (k:=[.code c2]) (cs:=c₀::fs) (w:=w) (rest:=List.range' 1 os'.length) ho0 hwant;rw[show b.roundOf=none from rfl,Oper.semAt_none]at hgop;rw[hgop]
  have hfin: ∀v,(b.atR a0 (.inRegion ops (0::List.range' 1 os'.length):: [.code c2])).finish v=b.atR (a0.put (some k) v) (.inRegion ops (List.range' 1 os'.length):: [.code c2]):=by
   intro v;rw[Frame.finish_atR,ho0];simp only[Option.bind_some,hd]
  have htr:=tryRecover_deferred (fr:=b.atR a0 (.inRegion ops (0::List.range' 1 os'.length):: [.code c2])) rfl (c₀::fs);have hrn:(b.atR a0 (.inRegion ops (0::List.range' 1 os'.length):: [.code c2])).roundOf=none:=rfl;rw[←hfin];rcases hu' c₀ fs hu0 with hrec|⟨hrec,rfl,rfl⟩
  ·rw[hrec]at htr
   simp[stepG.apply,hrun,htr,hrn]
  ·rw[hrec]at htr
   have hcm:({c₀ with mode:=u'}:Frame)=c₀:=by cases c₀;simp_all
   rw[hcm];simp[stepG.apply,hrun,htr,hrn]
 have hres0: ∀(tm:Array Value) (w:World),(results fn tm).run P w= .ok (.tuple #[]) w:=fun tm w=>by
  rw[Kl,hr];simp
 have out: ∀(m0:Machine) (a2:Act) (w2:World) (todo:List Item) (σ2:AH),StepsIn (Machine.fenced P (wide none)) P m0 (lone {b.atR a2 todo with mode:= .returning} ({c₀ with mode:=u'}::fs) w2)→Q σ2→Rel Λ σ2 w2→B8 Λ σ w σ2 w2→
  Marks none w σ2 w2 [] a2.defers→ ∃e u'' w' fr,((∃v,e=Ending.returned v)∧settle u''= .returning∧ ∃σ',Q σ'∧Rel Λ σ' w'∧B8 Λ σ w σ' w')∧
   ComesIn (Machine.fenced P (wide none)) P m0 (lone fr ({c₀ with mode:=u''}::fs) w') e∧fr.kind= .deferred∧fr.fn=f∧fr.going P w' e:=fun m0 a2 w2 todo σ2 hs hq hR2 hA2 ⟨ms,hms,hnd,hD,_⟩=>by
  obtain⟨w',q1,q2,q3⟩:=fO (P:=P) (cs:={c₀ with mode:=u'}::fs) ms {b.atR a2 todo with mode:= .returning} w2 hnd hD (by simp) (by simpa[Frame.atR]using hms) hR2 hA2;exact⟨.returned (.tuple #[]),u',w',_,⟨⟨_,rfl⟩,hst,σ2,hq,q2,q3⟩,hs.trans q1,rfl,rfl,rfl,rfl,fn,hf,hres0 _ _⟩
 have fin: ∀(m0:Machine) (e:Exit) (a2:Act) (w2:World),Gy none Λ σ w fn.ntmps [] (N6 Q) e a2 w2→ArrivesIn (Machine.fenced P (wide none)) P m0 b [] ({c₀ with mode:=u'}::fs) e a2 w2→
  ∃ e u'' w' fr,((∃v,e=Ending.returned v)∧settle u''= .returning∧ ∃σ',Q σ'∧Rel Λ σ' w'∧B8 Λ σ w σ' w')∧
    ComesIn (Machine.fenced P (wide none)) P m0 (lone fr ({c₀ with mode:=u''}::fs) w') e∧fr.kind= .deferred∧fr.fn=f∧fr.going P w' e:=fun m0 e a2 w2 ⟨ex,env,σ2,hq,hx,he2,hR2,hA2,hN2,hM2⟩ harr=>by
  cases ex with
  | exit id=>exact hq.elim
  | Bo v=>exact hq.elim
  | normal=>
    simp only[EA]at hx;subst hx;exact out m0 a2 w2 [] σ2 (StepsIn.trans harr (.one (GF rfl) (stepR_end rfl))) hq hR2 hA2 hM2
  | ret=>
    simp only[EA]at hx;subst hx;obtain⟨todo,hs⟩:=harr.1 rfl;exact out m0 a2 w2 todo σ2 hs hq hR2 hA2 hM2
 obtain⟨e,a1,w1,hq,harr⟩:=wp_opsIn _ _ _ hW b [.code c2] ({c₀ with mode:=u'}::fs) rfl trivial HA;rw[henter];have s123:=(s1.trans s2).trans (hrange ▸ s3);have fin': ∀ {m1:Machine},StepsIn (Machine.fenced P (wide none)) P m1 m1:=fun {m1}=> .refl m1
 cases e with
 | normal=>
   obtain⟨e2,a2,w2,hq2,harr2⟩:=hq b [] ({c₀ with mode:=u'}::fs) rfl ⟨fn,hf⟩;exact fin _ e2 a2 w2 hq2 (.of_steps (s123.trans harr) harr2)
 | ret=>
   obtain⟨ex,env,σ2,hq,hx,he2,hR2,hA2,hN2,hM2⟩:=hq;obtain⟨todo,hs⟩:=harr.1 rfl;refine out _ a1 w1 todo σ2 (s123.trans hs) ?_ hR2 hA2 hM2;cases ex<;>first|exact hq|exact hq.elim
 | exit id=>
   obtain⟨ex,env,σ2,hq,hx,_⟩:=hq;cases ex<;>first|exact hq.elim|(simp[EA]at hx)
 | panic ch=>
   obtain⟨ex,env,σ2,hq,hx,_⟩:=hq;cases ex<;>first|exact hq.elim|(simp[EA]at hx)
 | goto l=>
   obtain⟨ex,env,σ2,hq,hx,_⟩:=hq;cases ex<;>first|exact hq.elim|(simp[EA]at hx)
 | outgrown=>
   obtain⟨ex,env,σ2,hq,hx,_⟩:=hq;cases ex<;>first|exact hq.elim|(simp[EA]at hx)
end Go.Gl
namespace Go.Gl
variable {P:Program} {Λ:Nat→Prop} {σ:AH} {pu:List FuncId} {fz:List Nat} {N n:Nat} {r:Option Nat} {ds:List Deferred}
def qY (P:Program) (g:FuncId) (cap:List V) (AK:List RS) (Q:R→AH→Prop):Ag→Env→AH→Prop
 | .normal,env,σ| .ret,env,σ=>HS P g cap none σ fun σ'=>UD σ' env AK fun vs=>Ap σ' (Ex vs) Q
 | .Bo v,env,σ=>HS P g cap (some v) σ fun σ'=>UD σ' env AK fun vs=>Ap σ' (Ex vs) Q
 | .exit _,_,_=>False
def Oi (P:Program) (x:Bt) (l:List Nat) (ac:AY) (AK:List RS) (Q:R→AH→Prop) (env:Env) (σ:AH):Prop:=
 wv (ev env x) fun vf=>match vf with
  | .f (.func g) [] cap=>T P ac (qY P g cap AK Q) (prune l env) σ
  | _=>False
def IP {f : FuncId} {fn:Func} {aA aC:AY} {os:List Av} {x:Bt} {l1 l2:List Nat} {AK:List RS} (hf:P.funcs[f]? =some fn) (hok:okF P f=true)
    (hb:fn.body.bind (KN P fn.ntmps pu fz)=some (erase aA,os,x,erase aC)) (hr:MP P fn.results.toList=some AK)
    {args:List V} (hn:args.length≤fn.ntmps) {σ:AH} {Q:R→AH→Prop} (h:T P (.seq l1 aA (.DT os)) (Ck (Oi P x l2 aC AK Q)) (BD 0 args) σ):A7 P f args σ Q:=by
 refine⟨hok,fun Λ w cs G hv=>?_⟩;obtain⟨c,hc,hb⟩:=Option.bind_eq_some_iff.1 hb;obtain⟨id,ops,cc,o,os',hra,hlast,hdf,hos,rfl,hrc⟩:=WX hb;refine callsIn_wide (n:=0) |>.1 (Gq hf hc ?_)
 have he:CT (Hh Λ σ w) (BD 0 args) (cs++Array.replicate (fn.ntmps - cs.size) undef):=by
  intro k v hg;obtain⟨_,h2⟩:=Gi args 0 k v hg;simp only[Nat.sub_zero]at h2;obtain⟨d,h3,h4⟩:=Bm.1 hv.2 k v h2;simp only[G7]at h3;refine⟨d,?_,h4⟩;rw[Array.getElem?_append_left (by have:=(pb.1 h3).1;exact this)];exact h3
 have hsz:(cs++Array.replicate (fn.ntmps - cs.size) undef).size=fn.ntmps:=by
  simp only[Array.size_append,Array.size_replicate];have:=hv.1;omega
 obtain⟨cl,xo,hop,hg,hd,hcal,hargs,hxo⟩: ∃cl xo,o.op= .defer cl∧o.guard=none∧o.dst=none∧cl.callee= .value xo∧cl.args= #[]∧BX xo=some x:=by
  unfold Y7 at hdf;split at hdf
  ·rename_i cl e1 e2 e3
   split at hdf
   ·rename_i xo e4 e5
    exact⟨cl,xo,e1,e2,e3,e4,Array.toList_eq_nil_iff.1 e5,hdf⟩
   ·cases hdf
  ·cases hdf
 obtain⟨hl1,hl2⟩:=Gf hos;have hne:ops.toList≠[]:=fun e=>by rw[e]at hlast;cases hlast
 have hsplit:ops.toList=ops.toList.dropLast++[o]:=by
  have h1:=List.dropLast_concat_getLast hne;rw[List.getLast?_eq_some_getLast hne]at hlast;simp only[IU]at hlast;rw[hlast]at h1;exact h1.symm
 have hsize:ops.size=os'.length+1:=by
  rw[←Array.length_toList,hsplit];simp[←hl1]
 have hlasto:ops[os'.length]? =some o:=by
  rw[←Array.getElem?_toList,hsplit,←hl1];simp
 simp only[T]at h;refine bt (r:=none) (a:={tmps:=cs++Array.replicate (fn.ntmps - cs.size) undef,defers:=[]}) hra h he G hsz DM.none ?_;rintro e a1 w1 ⟨ex,env1,σ1,hq,hx,he1,hR1,hA1,hN1,hM1⟩;cases ex with
 | exit id=>exact hq.elim
 | ret=>exact hq.elim
 | Bo v=>exact hq.elim
 | normal=>
   simp only[EA]at hx;subst hx;simp only[Ag.andThen]at hq
   obtain⟨env1,σ1,he1,hR1,hA1,hM1,hq⟩: ∃env2 σ2,CT (Hh Λ σ2 w1) env2 a1.tmps∧Rel Λ σ2 w1∧B8 Λ σ w σ2 w1∧Marks none w σ2 w1 [] a1.defers∧I4 P (os'.map (DO pu fz)) (fun env σ=>Ck (Oi P x l2 aC AK Q) .normal env σ) (fun env v σ=>Ck (Oi P x l2 aC AK Q) (.Bo v) env σ) env2 σ2:=by
    rcases hq with hq|⟨env2,σ2,f1,f2,hq⟩
    ·exact⟨_,_,he1.prune l1,hR1,hA1,hM1,hq⟩
    ·exact⟨env2,σ2,(he1.prune l1).fz hR1 f1 f2,hR1.fz f1,hA1.trans (B8.fz w1 f1),hM1.HM (B8.fz (Λ:=Λ) w1 f1),hq⟩
   refine JU (Hz (n:=0) (wpIn_region ?_));rw[List.range_eq_range',hsize,←List.range'_append_1];simp only[List.range'_one,G7]
   refine Ms (P:=P) (Λ:=Λ) (r:=none) (n:=0) (ds:=a1.defers) (σ₀:=σ1) (w₀:=w1) (pu:=pu) (fz:=fz) (N:=fn.ntmps) (K:=fun env σ=>Ck (Oi P x l2 aC AK Q) .normal env σ)
    (kp :=fun env v σ=>Ck (Oi P x l2 aC AK Q) (.Bo v) env σ) (fun env2 σ2 a2 w2 hk he2 hR2 hA2 hN2 hd2=>?_) (fun _ _ _ _ _ _ h=>h.elim) os' 0 (fun i ao hao=>by
     have hlt:i<ops.toList.dropLast.length:=by
      rw[hl1];exact(MK.1 hao).1
     obtain⟨y,hx,hy⟩:=hl2 i _ (EN hlt);rw[hao]at hx;cases hx;refine⟨_,?_,hy⟩;rw[←Array.getElem?_toList,G7];have e1:ops.toList[i]? =(ops.toList.dropLast++[o])[i]? :=congrArg (fun l=>l[i]?) hsplit
     rw[e1,oN hlt,EN hlt]) _ σ1 a1 w1 hq he1 hR1 (B8.refl _ _ _) hN1 rfl
   obtain⟨vf,hvf,hk⟩:=Up hk
   obtain⟨g,cap,rfl,hk⟩: ∃g cap,vf= .f (.func g) [] cap∧T P aC (qY P g cap AK Q) (prune l2 env2) σ2:=by
    split at hk
    ·exact⟨_,_,rfl,hk⟩
    ·exact hk.elim
   obtain⟨f',c',e1,e2,e3,e4,e5⟩:=As he2 hxo hvf;have e2':f'= #[]:=Array.size_eq_zero_iff.1 e2;subst e2';have hwant:Region.wanted o (yielded ops a2.tmps)=true:=by simp[Region.wanted,hg]
   simp only[wpOpsIn,hlasto];rw[if_pos hwant];refine⟨fun _ _=>trivial,?_⟩
   have hrun:(o.semAt (wide none).round a2.eval).run P w2= .ok (.defer {target:= .fn (.func g) c',args:= #[]}) w2:=by
    show(execOp a2.eval o).run P w2=_;unfold execOp;simp only[hop,resolve,hcal,hargs,e1,Deferred.ofValue,DZ,E2,Gr];simp
   rw[hrun];simp only[Oper.uponIn,hd,Act.put,Exit.then];obtain⟨m1,hm1,hnd1,hD1,_⟩:=hM1;simp only[KD]at hm1;refine CX (FC (r:=none) hrc hk (he2.prune l2) hR2 hN2 DM.none) ?_;rintro e a3 w3 ⟨ex,env3,σ3,hq3,hx3,he3,hR3,hA3,hN3,m3,hm3,hnd3,hD3,_⟩;simp only[hd2,hm1]at hm3
   have last: ∀(w5:World) (σ5:AH),B8 Λ σ2 w2 σ5 w5→Yx (Hh Λ σ3 w3) (Hh Λ σ5 w5)→Rel Λ σ5 w5→(UD σ5 env3 AK fun vs=>Ap σ5 (Ex vs) Q)→
    LeavesInM (wide none) 0 P fn a3.tmps (fun e w'=> ∃r σ',Q r σ'∧Uo (Hh Λ σ' w') r e∧Rel Λ σ' w'∧B8 Λ σ w σ' w') (m1.map Ea) .returning w5:=fun w5 σ5 hA5 hle hR5 hw=>by
    rw[←KD (m1.map Ea)];have hA25:=hA2.trans hA5;refine DY (σ₀:=σ) (w₀:=w) (by simp) m1 w5 hnd1 (fun D hD=>?_) hR5 (hA1.trans hA25) fun w6 q1 q2 q3=>?_
    ·obtain⟨h4,h5,h6⟩:=hD1 D hD
     exact⟨h4,hA25.names D h5 (D4 h6),(hA25.frame D (D4 h6) h5).trans h6⟩
    ·obtain⟨c,vs,h5,h6,vf,σ'',h2,h3,h4⟩:=L2 (P:=P) hr q1 ((he3.mono hle).mono q3) hw
     exact⟨c,h5,.ret vf,σ'',h4,⟨c,rfl,h3.rel q1 h2 h6⟩,q1.drop h2,q2.trans (B8.drop w6 h2)⟩
   have main: ∀(m:Option V) (u:FrameMode),u≠ .run→(HS P g cap m σ3 fun σ'=>UD σ' env3 AK fun vs=>Ap σ' (Ex vs) Q)→
    (∀w4,Yx (Hh Λ σ3 w3) (Hh Λ σ3 w4)→(match m with|none=>u= .returning|some v=> ∃c,Ai (Hh Λ σ3 w4) v c∧u= .panicking [{v:=c,recovered:=false}]))→
    LeavesInM (wide none) 0 P fn a3.tmps (fun e w'=> ∃r σ',Q r σ'∧Uo (Hh Λ σ' w') r e∧Rel Λ σ' w'∧B8 Λ σ w σ' w') a3.defers u w3:=fun m u hu hD hm=>by
    rw[hm3];refine DY (σ₀:=σ2) (w₀:=w2) hu m3 w3 hnd3 hD3 hR3 hA3 fun w4 q1 q2 q3=>?_
    refine⟨hu,.inr ⟨fun hd=>by simp[wide,Fence.wide]at hd,.func g,c',g,c',rfl,?_,fun _ _=>trivial,?_⟩⟩
    ·simp only[invoke,Array.empty_append]
     exact IS hD.1 _ _
    ·obtain⟨k1,k2⟩:=hD.2 Λ w4 c' u q1 ⟨e4,Bb.mono q3 (fun _ _ e=>e) _ _ (Bb.mono hA3.hle (fun _ _ e=>e) _ _ e5)⟩ (hm w4 q3)
     refine⟨k1,fun c cs hcu hroom=>?_⟩;obtain⟨e,u',w5,fr,⟨⟨v,rfl⟩,hst,σ5,hw,hR5,hA5⟩,hrest⟩:=k2 c cs hcu hroom;refine⟨.returned v,u',w5,fr,?_,hrest⟩;simp only;rw[hst];exact last w5 σ5 (q2.trans hA5) (fun b o c hc=>hA5.hle b o c (q3 b o c hc)) hR5 hw
   cases ex with
   | exit id=>exact hq3.elim
   | normal=>
     simp only[EA]at hx3;subst hx3;exact main none .returning (by simp) hq3 fun _ _=>rfl
   | ret=>
     simp only[EA]at hx3;subst hx3;exact main none .returning (by simp) hq3 fun _ _=>rfl
   | Bo v=>
     obtain⟨c,rfl,hv3⟩:=hx3;exact main (some v) (.panicking [{v:=c,recovered:=false}]) (by simp) hq3 fun w4 hle=>⟨c,hv3.mono hle,rfl⟩
end Go.Gl
namespace Go.Gl
variable {P:Program} {σ:AH} {env env':Env}
abbrev pk:List Nat→Env→(Env→Prop)→Prop
 | [],_,k=>k []
 | s::r,env,k=>match get s env with
   | some v=>pk r env fun e=>k ((s,v)::e)
   | none=>pk r env k
def GB: ∀ {l:List Nat} {env:Env} {k:Env→Prop},pk l env k=k (prune l env)
 | [],_,_=>rfl
 | s::r,env,k=>by
   simp only[pk,prune];cases get s env with
   | none=>exact GB (l:=r)
   | some v=>exact GB (l:=r)
abbrev WM:=(Ag→Env→AH→Prop)→Env→AH→Prop
def WT (P:Program) (ops:List Av) (K:Env→AH→Prop) (kp:Env→V→AH→Prop):Env→AH→Prop:=
 List.rec (motive:=fun _=>Env→AH→Prop) K (fun o _ ih env σ=>Hw P o env σ (fun v σ'=>ih (put o.dst v env) σ') (kp env)) ops
def pV {P:Program} {K:Env→AH→Prop} {kp:Env→V→AH→Prop}: ∀(ops:List Av) (env:Env) (σ:AH),WT P ops K kp env σ=I4 P ops K kp env σ
 | [],_,_=>rfl
 | o::r,env,σ=>by
   have:(fun(v:V) (σ':AH)=>WT P r K kp (put o.dst v env) σ')=fun v σ'=>I4 P r K kp (put o.dst v env) σ':=funext fun v=>funext fun σ'=>pV r _ _
   show Hw P o env σ (fun v σ'=>WT P r K kp (put o.dst v env) σ') (kp env)=_;rw[this];rfl
def WD (P:Program) (ops:List Cv) (K:Env→AH→Prop) (kp:V→AH→Prop):Env→AH→Prop:=
 List.rec (motive:=fun _=>Env→AH→Prop) K (fun d _ ih env σ=>Hw P d.o env σ (fun v σ'=>Ed P d.re (put d.o.dst v env) σ'∧ih (put d.o.dst v env) σ') kp) ops
def pW {P:Program} {K:Env→AH→Prop} {kp:V→AH→Prop}: ∀(ops:List Cv) (env:Env) (σ:AH),WD P ops K kp env σ=Dc P ops K kp env σ
 | [],_,_=>rfl
 | d::r,env,σ=>by
   have:(fun(v:V) (σ':AH)=>Ed P d.re (put d.o.dst v env) σ'∧WD P r K kp (put d.o.dst v env) σ')=fun v σ'=>Ed P d.re (put d.o.dst v env) σ'∧Dc P r K kp (put d.o.dst v env) σ':=funext fun v=>funext fun σ'=>by rw[pW r]
   show Hw P d.o env σ (fun v σ'=>Ed P d.re (put d.o.dst v env) σ'∧WD P r K kp (put d.o.dst v env) σ') kp=_;rw[this];rfl
def yn (l:List Nat) (iha ihb:WM):WM:=fun Q env σ=>iha (Ag.andThen (fun env σ=>pk l env fun E=>Fz E σ (ihb Q)) Q) env σ
def wz (c:Bt) (iha ihb:WM):WM:=fun Q env σ=>match ev env c with
    | some (.b t)=>(t=true→iha Q env σ)∧(t=false→ihb Q env σ)
    | _=>False
def Ah (l:List Nat) (_:AY) (iha:WM) (Q:Ag→Env→AH→Prop) (E:Env) (σ:AH):Prop:= ∃AG:Nat→Env→AH→Prop,(∃n,AG n E σ)∧
 ∀n env σ,AG n env σ→iha (Ag.andThen (fun env σ=>pk l env fun E'=> ∃m,m<n∧AG m E' σ) Q) env σ
def wy (l:List Nat) (a:AY) (iha:WM):WM:=fun Q env σ=>pk l env fun E=>Ah l a iha Q E σ
def qZ (P:Program) (l:List Nat) (g:Bt) (ps:List Nat) (a b:AY):WM:=fun Q env σ=>match ev env g with
    | some (.f (.func gf) [] cap)=>pk l env fun E=> ∀L,σ L=none→A7 P gf (.f (.yield L) [] []::cap) (A5 σ L (.loop .ready E (B6 P ps a b))) (Kg L Q env)
    | _=>False
def W (P:Program) (c:AY):WM:=
 AY.rec (motive:=fun _=>WM)
  (fun Q env σ=>Q .normal env σ)
  (fun ops Q env σ=>WT P ops (fun env σ=>Q .normal env σ) (fun env v σ=>Q (.Bo v) env σ) env σ)
  (fun l ops Q env σ=>WD P ops (fun env σ=>pk l env fun E=>Q .normal E σ) (fun v σ=> ∀σ',Sub σ σ'→Q (.Bo v) [] σ') env σ)
  (fun l _ _ iha ihb=>yn l iha ihb)
  (fun c _ _ iha ihb=>wz c iha ihb)
  (fun id _ ih Q env σ=>ih (Ag.inBlock id Q) env σ)
  (fun l a ih=>wy l a ih)
  (fun id Q env σ=>Q (.exit id) env σ)
  (fun Q env σ=>Q .ret env σ)
  (fun _ ih=>ih)
  (fun l g ps a b _ _=>qZ P l g ps a b) c
def iC {c:Bt} {a b:AY} {Q:Ag→Env→AH→Prop}:W P (.cond c a b) Q env σ=match ev env c with
    | some (.b t)=>(t=true→W P a Q env σ)∧(t=false→W P b Q env σ)
    | _=>False:=rfl
def iA {l:List Nat} {a:AY} {Q:Ag→Env→AH→Prop}:W P (.loop l a) Q env σ=pk l env fun E=> ∃AG:Nat→Env→AH→Prop,(∃n,AG n E σ)∧
 ∀n env σ,AG n env σ→W P a (Ag.andThen (fun env σ=>pk l env fun E'=> ∃m,m<n∧AG m E' σ) Q) env σ:=rfl
def pU {ops:List Av} {Q:Ag→Env→AH→Prop}:W P (.DT ops) Q env σ=I4 P ops (fun env σ=>Q .normal env σ) (fun env v σ=>Q (.Bo v) env σ) env σ:=pV ops env σ
def iB {l:List Nat} {ops:List Cv} {Q:Ag→Env→AH→Prop}:W P (.HQ l ops) Q env σ=Dc P ops (fun env σ=>pk l env fun E=>Q .normal E σ) (fun v σ=> ∀σ',Sub σ σ'→Q (.Bo v) [] σ') env σ:=pW ops env σ
def WJ {l:List Nat} {g:Bt} {ps:List Nat} {a b:AY} {Q:Ag→Env→AH→Prop}:W P (.D0 l g ps a b) Q env σ=match ev env g with
    | some (.f (.func gf) [] cap)=>pk l env fun E=> ∀L,σ L=none→A7 P gf (.f (.yield L) [] []::cap) (A5 σ L (.loop .ready E (B6 P ps a b))) (Kg L Q env)
    | _=>False:=rfl
def Xx: ∀ {c:AY} {Q Q':Ag→Env→AH→Prop} {env:Env} {σ:AH},W P c Q env σ→(∀ex env σ,Q ex env σ→Q' ex env σ)→T P c Q' env σ:=by
 intro c
 induction c with
 | skip=>intro Q Q' env σ h hm;exact hm _ _ _ h
 | ret=>intro Q Q' env σ h hm;exact hm _ _ _ h
 | exit id=>intro Q Q' env σ h hm;exact hm _ _ _ h
 | DT ops=>intro Q Q' env σ h hm;rw[pU]at h;exact NK (fun _ _ h=>hm _ _ _ h) (fun _ _ _ h=>hm _ _ _ h) h
 | HQ l ops=>intro Q Q' env σ h hm;rw[iB]at h;exact Kx (fun _ _ h=>hm _ _ _ (by rw[GB]at h;exact h)) (fun _ _ h σ' hs=>hm _ _ _ (h σ' hs)) h
 | seq l a b iha ihb=>
   intro Q Q' env σ h hm;refine iha h fun ex env σ hq=>?_
   cases ex with
   | normal=>simp only[Ag.andThen]at *;rw[GB]at hq;exact Fz.mono hq fun _ _ h=>ihb h hm
   | exit id=>exact hm _ _ _ hq
   | ret=>exact hm _ _ _ hq
   | Bo v=>exact hm _ _ _ hq
 | cond c a b iha ihb=>
   intro Q Q' env σ h hm;simp only[T,iC]at *;split at h
   ·rename_i he
    rw[he];exact⟨fun e=>iha (h.1 e) hm,fun e=>ihb (h.2 e) hm⟩
   ·exact h.elim
 | block id a ih=>
   intro Q Q' env σ h hm;refine ih h fun ex env σ hq=>?_
   cases ex with
   | normal=>exact hm _ _ _ hq
   | exit id'=>
     simp only[Ag.inBlock]at *;cases hb:Nat.beq id' id<;>rw[hb]at hq<;>exact hm _ _ _ hq
   | ret=>exact hm _ _ _ hq
   | Bo v=>exact hm _ _ _ hq
 | scope a ih=>intro Q Q' env σ h hm;exact ih h hm
 | loop l a ih=>
   intro Q Q' env σ h hm;rw[iA,GB]at h;obtain⟨AG,h0,hr⟩:=h;refine⟨AG,h0,fun n env σ hI=>ih (hr n env σ hI) fun ex env σ hq=>?_⟩;cases ex with
   | normal=>simp only[Ag.andThen]at *;rw[GB]at hq;exact hq
   | exit id=>exact hm _ _ _ hq
   | ret=>exact hm _ _ _ hq
   | Bo v=>exact hm _ _ _ hq
 | D0 l g ps a b _ _=>
   intro Q Q' env σ h hm;simp only[T,WJ]at *;split at h
   ·rename_i he
    rw[GB]at h;rw[he];refine fun L hL=>(h L hL).mono fun r σ' hq=>?_
    cases r with
    | ret v=>
      obtain⟨st,env1,ok,h1,h2⟩:=hq;refine⟨st,env1,ok,h1,?_⟩;cases st<;>exact hm _ _ _ h2
    | Bo v=>exact hm _ _ _ hq
   ·exact h.elim
def oU {c:AY} {Q:Ag→Env→AH→Prop} (h:W P c Q env σ):T P c Q env σ:=Xx h fun _ _ _ h=>h
def hZ: ∀ {c:AY} {Q Q':Ag→Env→AH→Prop} {env:Env} {σ:AH},W P c Q env σ→(∀ex env σ,Q ex env σ→Q' ex env σ)→W P c Q' env σ:=by
 intro c
 induction c with
 | skip=>intro Q Q' env σ h hm;exact hm _ _ _ h
 | ret=>intro Q Q' env σ h hm;exact hm _ _ _ h
 | exit id=>intro Q Q' env σ h hm;exact hm _ _ _ h
 | DT ops=>intro Q Q' env σ h hm;rw[pU]at *;exact NK (fun _ _ h=>hm _ _ _ h) (fun _ _ _ h=>hm _ _ _ h) h
 | HQ l ops=>intro Q Q' env σ h hm;rw[iB]at *;exact Kx (fun _ _ h=>by rw[GB]at *;exact hm _ _ _ h) (fun _ _ h σ' hs=>hm _ _ _ (h σ' hs)) h
 | seq l a b iha ihb=>
   intro Q Q' env σ h hm;refine iha h fun ex env σ hq=>?_
   cases ex with
   | normal=>simp only[Ag.andThen]at *;rw[GB]at *;exact Fz.mono hq fun _ _ h=>ihb h hm
   | exit id=>exact hm _ _ _ hq
   | ret=>exact hm _ _ _ hq
   | Bo v=>exact hm _ _ _ hq
 | cond c a b iha ihb=>
   intro Q Q' env σ h hm;simp only[iC]at *;split at h
   ·exact⟨fun e=>iha (h.1 e) hm,fun e=>ihb (h.2 e) hm⟩
   ·exact h.elim
 | block id a ih=>
   intro Q Q' env σ h hm;refine ih h fun ex env σ hq=>?_
   cases ex with
   | normal=>exact hm _ _ _ hq
   | exit id'=>
     simp only[Ag.inBlock]at *;cases hb:Nat.beq id' id<;>rw[hb]at hq<;>exact hm _ _ _ hq
   | ret=>exact hm _ _ _ hq
   | Bo v=>exact hm _ _ _ hq
 | scope a ih=>intro Q Q' env σ h hm;exact ih h hm
 | loop l a ih=>
   intro Q Q' env σ h hm;simp only[iA]at *;rw[GB]at *;obtain⟨AG,h0,hr⟩:=h;refine⟨AG,h0,fun n env σ hI=>ih (hr n env σ hI) fun ex env σ hq=>?_⟩;cases ex with
   | normal=>exact hq
   | exit id=>exact hm _ _ _ hq
   | ret=>exact hm _ _ _ hq
   | Bo v=>exact hm _ _ _ hq
 | D0 l g ps a b _ _=>
   intro Q Q' env σ h hm;simp only[WJ]at *;split at h
   ·rw[GB]at *
    refine fun L hL=>(h L hL).mono fun r σ' hq=>?_
    cases r with
    | ret v=>
      obtain⟨st,env1,ok,h1,h2⟩:=hq;refine⟨st,env1,ok,h1,?_⟩;cases st<;>exact hm _ _ _ h2
    | Bo v=>exact hm _ _ _ hq
   ·exact h.elim
abbrev fG (P:Program) (l:List Nat) (a:AY) (Q:Ag→Env→AH→Prop) (E:Env) (σ:AH):Prop:=Ah l a (W P a) Q E σ
def upW {l:List Nat} {a:AY} {Q:Ag→Env→AH→Prop} {E:Env} (len:Nat) (AG:Nat→Env→AH→Prop) (h0:AG 0 E σ)
    (h: ∀k env σ,k≤len→AG k env σ→W P a (Ag.andThen (fun env σ=>pk l env fun E'=>k<len∧AG (k+1) E' σ) Q) env σ):fG P l a Q E σ:=by
 refine⟨fun n env σ=> ∃k,k≤len∧n=len - k∧AG k env σ,⟨len,0,Nat.zero_le _,by omega,h0⟩,fun n env σ ⟨k,hk,hn,hI⟩=>?_⟩;refine hZ (h k env σ hk hI) fun ex env' σ' hq=>?_
 cases ex with
 | normal=>
   simp only[Ag.andThen]at *;rw[GB]at *;exact⟨len - (k+1),by have:=hq.1;omega,k+1,hq.1,rfl,hq.2⟩
 | exit id=>exact hq
 | ret=>exact hq
 | Bo v=>exact hq
def eY (P:Program) (x:Bt) (l:List Nat) (ac:AY) (AK:List RS) (Q:R→AH→Prop) (env:Env) (σ:AH):Prop:=
 wv (ev env x) fun vf=>match vf with
  | .f (.func g) [] cap=>pk l env fun E=>W P ac (qY P g cap AK Q) E σ
  | _=>False
def sM {x:Bt} {l:List Nat} {ac:AY} {AK:List RS} {Q:R→AH→Prop} (h:eY P x l ac AK Q env σ):Oi P x l ac AK Q env σ:=by
 unfold eY at h;unfold Oi;refine Bv h fun vf h=>?_
 split at h
 ·rw[GB]at h;exact oU h
 ·exact h.elim
def J8 {K K':Env→AH→Prop} (h: ∀env σ,K env σ→K' env σ): ∀ex env σ,Ck K ex env σ→Ck K' ex env σ:=fun ex env σ hq=>by
 cases ex<;>first|exact h _ _ hq|exact hq.elim
def pX {c:AY} {x:Bt} {l:List Nat} {ac:AY} {AK:List RS} {Q:R→AH→Prop} (h:W P c (Ck (eY P x l ac AK Q)) env σ):T P c (Ck (Oi P x l ac AK Q)) env σ:=
 Xx h (J8 fun _ _ h=>sM h)
def Ar {l:List Nat} {a b:AY} {Q:Ag→Env→AH→Prop} (h: ∀K:Env→AH→Prop,(∀env σ,(pk l env fun E=>W P b Q E σ)→K env σ)→W P a (Ag.andThen K Q) env σ):W P (.seq l a b) Q env σ:=
 h _ fun _ _ h=>by rw[GB]at *;exact .inl h
def vg {l:List Nat} {a b:AY} {Q:Ag→Env→AH→Prop} (h: ∀K:Env→AH→Prop,(∀env σ,(pk l env fun E=>Fz E σ (W P b Q))→K env σ)→W P a (Ag.andThen K Q) env σ):W P (.seq l a b) Q env σ:=
 h _ fun _ _ h=>h
def Ab {ops:List Av} {Q:Ag→Env→AH→Prop} (h: ∀(I:Env→AH→Prop) (C:Env→V→AH→Prop),(∀env σ,Q .normal env σ→I env σ)→(∀env v σ,Q (.Bo v) env σ→C env v σ)→WT P ops I C env σ):W P (.DT ops) Q env σ:=
 h _ _ (fun _ _ h=>h) (fun _ _ _ h=>h)
def oM {l:List Nat} {ops:List Cv} {Q:Ag→Env→AH→Prop} (h: ∀(I:Env→AH→Prop) (C:V→AH→Prop),(∀env σ,(pk l env fun E=>Q .normal E σ)→I env σ)→(∀v σ,(∀σ',Sub σ σ'→Q (.Bo v) [] σ')→C v σ)→WD P ops I C env σ):W P (.HQ l ops) Q env σ:=
 h _ _ (fun _ _ h=>h) (fun _ _ h=>h)
def Bq {c:Bt} {a b:AY} {Q:Ag→Env→AH→Prop} (h:match ev env c with
    | some (.b t)=>(t=true→W P a Q env σ)∧(t=false→W P b Q env σ)
    | _=>False):W P (.cond c a b) Q env σ:=h
def Bi {id:Nat} {a:AY} {Q:Ag→Env→AH→Prop} (h:W P a (Ag.inBlock id Q) env σ):W P (.block id a) Q env σ:=h
def Dt {l:List Nat} {a:AY} {Q:Ag→Env→AH→Prop} (h:pk l env fun E=>Ah l a (W P a) Q E σ):W P (.loop l a) Q env σ:=h
def Du {id:Nat} {Q:Ag→Env→AH→Prop} (h:Q (.exit id) env σ):W P (.exit id) Q env σ:=h
def Dp {Q:Ag→Env→AH→Prop} (h:Q .ret env σ):W P .ret Q env σ:=h
def B2 {Q:Ag→Env→AH→Prop} (h:Q .normal env σ):W P .skip Q env σ:=h
def kI {a:AY} {Q:Ag→Env→AH→Prop} (h:W P a Q env σ):W P (.scope a) Q env σ:=h
def kJ {l:List Nat} {g:Bt} {ps:List Nat} {a b:AY} {Q:Ag→Env→AH→Prop} (h:match ev env g with
    | some (.f (.func gf) [] cap)=>pk l env fun E=> ∀L,σ L=none→A7 P gf (.f (.yield L) [] []::cap) (A5 σ L (.loop .ready E (B6 P ps a b))) (Kg L Q env)
    | _=>False):W P (.D0 l g ps a b) Q env σ:=h
end Go.Gl
namespace Go.Gl
variable {P:Program} {Λ:Nat→Prop} {σ σ':AH} {env:Env}
def Own (σ:AH) (v:V) (sz:Nat) (es:List (List V)):Prop:=(v= .l es true∧ ∀e∈es,e.length=sz)∨ ∃n cap,v= .sl n es.length cap∧σ n=some (.arr sz es cap)
def Own.IV {v:V} {sz:Nat} {es:List (List V)} (h:Own σ v sz es):Fj σ emp v (.l es false):=by
 rcases h with⟨rfl,_⟩|⟨n,cap,rfl,hn⟩
 ·exact .l (fun h=>(by cases h)) (.refl _ _ _)
 ·exact .arr hn rfl rfl (.refl _ _ _)
inductive At where
 | obj (n:Nat) (o:O)
 | own (v:V) (sz:Nat) (es:List (List V))
abbrev At.box (n:Nat) (vs:List V):At:= .obj n (.cs vs)
abbrev At.map (n:Nat) (kvs:List (V×V)):At:= .obj n (.map kvs)
def EI:V→Option Nat
 | .sl n _ _=>some n
 | _=>none
def At.wB:At→Option Nat
 | .obj n _=>some n
 | .own v _ _=>EI v
def At.ok (σ:AH):At→Prop
 | .obj n o=>σ n=some o
 | .own v sz es=>Own σ v sz es
def apart (a b:At):Prop:= ∀n,a.wB=some n→b.wB≠some n
def apart.symm {a b:At} (h:apart a b):apart b a:=fun n hb ha=>h n ha hb
def Sat (σ:AH) (l:List At):Prop:=(∀a∈l,a.ok σ)∧l.Pairwise apart
def Sat.nil:Sat σ []:=⟨fun _ h=>(by cases h),.nil⟩
def Sat.get {l:List At} (h:Sat σ l) {i:Nat} {a:At} (hi:l[i]? =some a):a.ok σ:=h.1 a (DL hi)
def Tz {l:List At} (h:l.Pairwise apart): ∀ {i:Nat} {a a':At},l[i]? =some a→(∀b∈l,apart a b→apart a' b)→(l.set i a').Pairwise apart:=by
 induction h with
 | nil=>intro i a a' hi;cases hi
 | cons hx hl ih=>
   rename_i x r;intro i a a' hi hb;cases i with
   | zero=>
     simp only[pc,IU]at hi;subst hi;exact .cons (fun b hm=>hb b (.tail _ hm) (hx b hm)) hl
   | succ i=>
     simp only[vq]at hi;refine .cons (fun b hm=>?_) (ih hi fun b hm=>hb b (.tail _ hm));rcases List.mem_or_eq_of_mem_set hm with hm|rfl
     ·exact hx b hm
     ·exact(hb x (.head _) (hx a (DL hi)).symm).symm
def FH {l:List At} (h:l.Pairwise apart): ∀ {i:Nat} {a:At},l[i]? =some a→ ∀b∈l.eraseIdx i,apart a b:=by
 induction h with
 | nil=>intro i a hi;cases hi
 | cons hx hl ih=>
   rename_i x r;intro i a hi b hb;cases i with
   | zero=>
     simp only[pc,IU]at hi;subst hi;exact hx b (by simpa using hb)
   | succ i=>
     simp only[vq]at hi;simp only[List.eraseIdx_cons_succ,F7]at hb;rcases hb with rfl|hb
     ·exact(hx a (DL hi)).symm
     ·exact ih hi b hb
def YM {l:List At} {i:Nat} {a b:At} (h:b∈l.set i a):b=a∨b∈l.eraseIdx i:=by
 induction l generalizing i with
 | nil=>simp at h
 | cons x r ih=>
   cases i with
   | zero=>simp at h;rcases h with rfl|h;exact .inl rfl;exact .inr (by simpa using h)
   | succ i=>
     simp only[List.set_cons_succ,F7,List.eraseIdx_cons_succ]at *;rcases h with rfl|h
     ·exact .inr (.inl rfl)
     ·rcases ih h with h|h
      ·exact .inl h
      ·exact .inr (.inr h)
def Sat.change {l:List At} (h:Sat σ l) {i:Nat} {a a':At} (hi:l[i]? =some a) (ho: ∀b:At,b.ok σ→apart a b→b.ok σ') (hd: ∀b:At,b.ok σ→apart a b→apart a' b) (ha:a'.ok σ'):Sat σ' (l.set i a'):=by
 refine⟨fun b hb=>?_,Tz h.2 hi fun b hb=>hd b (h.1 b hb)⟩;rcases YM hb with rfl|hb
 ·exact ha
 ·exact ho b (h.1 b (List.mem_of_mem_eraseIdx hb)) (FH h.2 hi b hb)
def DB {a:At} {n:Nat} (h:a.ok σ) (hn:a.wB=some n): ∃o,σ n=some o:=by
 cases a with
 | obj m o=>cases hn;exact⟨o,h⟩
 | own v sz es=>
   rcases h with⟨rfl,_⟩|⟨m,cap,rfl,hm⟩
   ·cases hn
   ·cases hn;exact⟨_,hm⟩
def Fq {a:At} (h:a.ok σ) (hs: ∀n,a.wB=some n→σ' n=σ n):a.ok σ':=by
 cases a with
 | obj m o=>exact(hs m rfl).trans h
 | own v sz es=>
   rcases h with⟨rfl,he⟩|⟨m,cap,rfl,hm⟩
   ·exact .inl ⟨rfl,he⟩
   ·exact .inr ⟨m,cap,rfl,(hs m rfl).trans hm⟩
def Sat.add {l:List At} (h:Sat σ l) {a:At} (ho: ∀b:At,b.ok σ→b.ok σ') (hd: ∀b:At,b.ok σ→apart a b) (ha:a.ok σ'):Sat σ' (l++[a]):=by
 refine⟨fun b hb=>?_,List.pairwise_append.2 ⟨h.2,List.pairwise_singleton _ _,fun x hx y hy=>?_⟩⟩
 ·rcases FK.1 hb with hb|hb
  ·exact ho b (h.1 b hb)
  ·rw[Nx.1 hb];exact ha
 ·rw[Nx.1 hy]
  exact(hd x (h.1 x hx)).symm
def Sat.less {l l':List At} (h:Sat σ l) (hs:l'.Sublist l):Sat σ l':=⟨fun a ha=>h.1 a (hs.subset ha),h.2.sublist hs⟩
def Sat.perm {l l':List At} (h:Sat σ l) (hp:l.Perm l'):Sat σ l':=⟨fun a ha=>h.1 a (hp.mem_iff.2 ha),(hp.pairwise_iff (fun {_ _}=>apart.symm)).1 h.2⟩
def eP {l:List At} (h:Sat σ l) {n:Nat} (hn:σ n=none) {o:O}:Sat (A5 σ n o) (l++[.obj n o]):=by
 refine h.add (fun b hb=>Fq hb fun m hm=>?_) (fun b hb m hm hb'=>?_) (DQ _ _ _)
 ·obtain⟨o,ho⟩:=DB hb hm
  rw[Cl];intro e;subst e;rw[hn]at ho;cases ho
 ·cases hm
  obtain⟨o,ho⟩:=DB hb hb';rw[hn]at ho;cases ho
def GV {l:List At} (h:Sat σ l) (sz:Nat):Sat σ (l++[.own (.l [] true) sz []]):=
 h.add (fun _ hb=>hb) (fun b hb n hn=>by cases hn) (.inl ⟨rfl,fun _ h=>by cases h⟩)
def qK {l:List At} (h:Sat σ l) {sz:Nat} {es:List (List V)} (hs: ∀e∈es,e.length=sz):Sat σ (l++[.own (.l es true) sz es]):=
 h.add (fun _ hb=>hb) (fun b hb n hn=>by cases hn) (.inl ⟨rfl,hs⟩)
def lC {l:List At} (h:Sat σ l) {i n:Nat} {o:O} (hi:l[i]? =some (.obj n o)) (o':O):Sat (A5 σ n o') (l.set i (.obj n o')):=by
 refine h.change hi (fun b hb ha=>Fq hb fun m hm=>?_) (fun b hb ha m hm=>ha m hm) (DQ _ _ _);rw[Cl];intro e;subst e;exact ha m rfl hm
def H5 {l:List At} (h:Sat σ l) (i:Nat) {n off sz:Nat} {vs vc:List V} {x:V} {K:AH→Prop} (hi:l[i]? =some (.box n vs)) (hc:cellsOf x=some vc) (hl:vc.length=sz) (h1:vc.all CO=true) (ho:off+sz≤vs.length)
    (hk: ∀σ',Sat σ' (l.set i (.box n (putAt vs off vc)))→K σ'):AU σ sz (.p n off) x K:=by
 unfold AU;rw[hc];refine⟨hl,h1,?_⟩;have:=h.get hi;simp only[At.ok]at this;simp only[this];exact⟨ho,hk _ (lC h hi _)⟩
def Y8 {l:List At} (h:Sat σ l) (i:Nat) {n off:Nat} {agg:Option Nat} {vs:List V} {K:V→Prop} (hi:l[i]? =some (.box n vs)) (hk:cut agg vs off K):AX σ agg (.p n off) K:=by
 have:=h.get hi;simp only[At.ok]at this;simp only[AX,Ou,this];exact hk
def hAppend {l:List At} (h:Sat σ l) (i:Nat) {v:V} {sz:Nat} {es ys:List (List V)} {f:Bool} {K:V→AH→Prop} (hi:l[i]? =some (.own v sz es)) {b:Nat} (hl:es.length+ys.length≤Aj∧(es.length+ys.length)*b≤140737488355328) (hys: ∀e∈ys,e.length=sz) (ho: ∀e∈ys,∀v∈e,CO v=true)
    (hk: ∀v' σ',Sat σ' (l.set i (.own v' sz (es++ys)))→K v' σ'):AM b σ sz v (.l ys f) K:=by
 refine⟨hys,ho,?_⟩;rcases h.get hi with⟨rfl,hel⟩|⟨n,cap,rfl,hn⟩
 ·refine⟨hel,hl,fun e=>hk _ _ ?_,fun _=>⟨rfl,fun n cap hn hc=>hk _ _ ?_⟩⟩
  ·subst e
   exact h.change hi (fun _ hb _=>hb) (fun _ _ ha=>ha) (.inl ⟨by simp,by simpa using hel⟩)
  ·refine h.change hi (fun b hb _=>Fq hb fun m hm=>?_) (fun b hb _ m hm hb'=>?_) (.inr ⟨n,cap,by simp,by simp[A5]⟩)
   ·obtain⟨o,ho⟩:=DB hb hm
    rw[Cl];intro e;subst e;rw[hn]at ho;cases ho
   ·cases hm
    obtain⟨o,ho⟩:=DB hb hb';rw[hn]at ho;cases ho
 ·simp only
  rw[hn];refine⟨rfl,rfl,rfl,hl,fun n' cap' hn' _=>hk _ _ ?_⟩;refine h.change hi (fun b hb ha=>Fq hb fun m hm=>?_) (fun b hb ha m hm hb'=>?_) (.inr ⟨n',cap',by simp,by simp[A5]⟩)
  ·have hmn:m≠n:=fun e=>by subst e;exact ha m rfl hm
   obtain⟨o,ho⟩:=DB hb hm;have hmn':m≠n':=fun e=>by subst e;rw[HD _ hmn,ho]at hn';cases hn'
   rw[Cl _ _ hmn',HD _ hmn]
  ·cases hm
   have hmn:n'≠n:=fun e=>by subst e;exact ha n' rfl hb'
   obtain⟨o,ho⟩:=DB hb hb';rw[HD _ hmn,ho]at hn';cases hn'
def hMk {l:List At} (h:Sat σ l) {sz:Nat} {z:List V} {n:Nat} {K:V→AH→Prop} (hn:n≤1073741824) (hk: ∀v σ',Sat σ' (l++[.own v sz (List.replicate n z)])→(∃id,v= .sl id n n)→K v σ') {ki kj:IntKind} :
    AL σ sz z (.i ki (n:Int)) (.i kj (n:Int)) K:=by
 refine⟨by omega,by omega,by omega,fun id hid=>?_⟩;simp only[MH];refine hk _ _ (h.add (fun b hb=>Fq hb fun m hm=>?_) (fun b hb m hm hb'=>?_) (.inr ⟨id,n,by simp,by simp[A5]⟩)) ⟨id,rfl⟩
 ·obtain⟨o,ho⟩:=DB hb hm
  rw[Cl];intro e;subst e;rw[hid]at ho;cases ho
 ·cases hm
  obtain⟨o,ho⟩:=DB hb hb';rw[hid]at ho;cases ho
def Bw {agg:Option Nat} {cs:List V} {K:V→Prop} (h:cut agg cs 0 K):AX σ agg (.rp cs) K:=h
def FO {es:List (List V)} {f:Bool} {K:V→Prop} (h:K (.i .i64 es.length)):Az (.l es f) K:=h
def G9 {l:List At} (h:Sat σ l) (i:Nat) {v:V} {sz:Nat} {es:List (List V)} (hi:l[i]? =some (.own v sz es)):CO v=true:=by
 rcases h.get hi with⟨rfl,_⟩|⟨n,cap,rfl,hn⟩<;>rfl
@[simp] theorem AAC {es:List (List V)} {f:Bool}:CO (.l es f)=true:=rfl
@[simp] theorem AAD {k:IntKind} {n:Int}:CO (.i k n)=true:=rfl
@[simp] theorem AAF {b:Bool}:CO (.b b)=true:=rfl
@[simp] theorem AAA {n o:Nat}:CO (.p n o)=true:=rfl
@[simp] theorem yW {cs:List V}:CO (.rp cs)=true:=rfl
@[simp] theorem AAB {n:Nat}:CO (.m n)=true:=rfl
@[simp] theorem AAE {fn:Fn} {a b:List V}:CO (.f fn a b)=true:=rfl
@[simp] theorem yV {a b c:Nat}:CO (.sl a b c)=true:=rfl
@[simp] theorem yX:CO .pn=true:=rfl
@[simp] theorem yY:CO .mn=true:=rfl
@[simp] theorem wI:CO .Dv=true:=rfl
@[simp] theorem yF {t:TypeId} {v:V}:CO (.FJ t v)=true:=rfl
def dR {v:V} (h:CO v=true):cellsOf v=some [v]:=by cases v<;>first|rfl|cases h
def LR {l:List At} (h:Sat σ l) (i:Nat) {n off:Nat} {vs:List V} {x:V} {K:AH→Prop} (hi:l[i]? =some (.box n vs)) (h1:CO x=true) (ho:off+1≤vs.length)
    (hk: ∀σ',Sat σ' (l.set i (.box n (vs.set off x)))→K σ'):AU σ 1 (.p n off) x K:=
 H5 h i hi (dR h1) rfl (by simp[h1]) ho hk
def Sat.IV {l:List At} (h:Sat σ l) (i:Nat) {v:V} {sz:Nat} {es:List (List V)} (hi:l[i]? =some (.own v sz es)):Fj σ emp v (.l es false):=(h.get hi).IV
def Sat.y7 {l:List At} (h:Sat σ l) (i:Nat) {n:Nat} {vs vs':List V} (hi:l[i]? =some (.box n vs)) (hf:Da σ emp vs vs'):Fj σ emp (.p n 0) (.rp vs'):= .cs (h.get hi) rfl hf
def NX {l:List At} (h:Sat σ l) (i:Nat) {v:V} {sz:Nat} {es:List (List V)} (hi:l[i]? =some (.own v sz es)): ∃σ2,Sub σ2 σ∧Fj σ σ2 v (.l es false)∧Sat σ2 (l.eraseIdx i):=by
 rcases h.get hi with⟨rfl,_⟩|⟨n,cap,rfl,hn⟩
 ·exact⟨σ,fun _ _ h=>h,.l (fun h=>(by cases h)) (.refl _ _ _),h.less (List.eraseIdx_sublist _ _)⟩
 ·refine⟨del σ n,GG σ n,.arr hn (De σ n) rfl (.refl _ _ _),?_⟩
  refine⟨fun b hb=>?_,h.2.sublist (List.eraseIdx_sublist _ _)⟩;refine Fq (h.1 b (List.mem_of_mem_eraseIdx hb)) fun m hm=>?_
  rw[HD];intro e;subst e;exact FH h.2 hi b hb m rfl hm
def Jc {v vf:V} {σ2:AH} {Q:R→AH→Prop} (hs:Sub σ2 σ) (hf:Fj σ σ2 v vf) (hq:Q (.ret vf) σ2):Ap σ v Q:=⟨vf,σ2,hs,hf,hq⟩
def A4 {l l':List At} (h:Sat σ l) (hl:l'.Sublist l) {v vf:V} {Q:R→AH→Prop} (hf:Fj σ σ v vf) (hq: ∀σ',Sat σ' l'→Q (.ret vf) σ'):Ap σ v Q:=⟨vf,σ,fun _ _ h=>h,hf,hq σ (h.less hl)⟩
def qL {l:List At} (h:Sat σ l) (i:Nat) {v:V} {sz:Nat} {es:List (List V)} (hi:l[i]? =some (.own v sz es)) {K:V→AH→Prop} (hk: ∀σ',Sat σ' (l.eraseIdx i)→K (.l es false) σ'): ∃vf σ2,Sub σ2 σ∧Fj σ σ2 v vf∧K vf σ2:=by
 obtain⟨σ2,h1,h2,h3⟩:=NX h i hi;exact⟨_,σ2,h1,h2,hk σ2 h3⟩
def wi {l:List At} (h:Sat σ l) (i:Nat) {v:V} {sz:Nat} {es:List (List V)} (hi:l[i]? =some (.own v sz es)) (hm:es.length≤Aj) {K:V→Prop} (hk:K (.i .i64 es.length)):Az v K:=by
 rcases h.get hi with⟨rfl,_⟩|⟨n,cap,rfl,hn⟩
 ·exact hk
 ·exact⟨hm,hk⟩
def Gx (v:V) (sz j:Nat):V:=match v with| .sl n _ _=> .pe n sz j 0| .l es _=> .rp (es.getD j [])|_=> .pn
def kX {l:List At} (h:Sat σ l) (i:Nat) {v:V} {sz:Nat} {es:List (List V)} {ki:IntKind} {j:Int} (k:Nat) (hi:l[i]? =some (.own v sz es)) (hj:j=k) (hlt:k<es.length) {K:V→Prop} (hk:K (Gx v sz k)) :
    AT sz none v (.i ki j) K:=by
 subst hj;rcases h.get hi with⟨rfl,hel⟩|⟨n,cap,rfl,hn⟩
 ·refine⟨Int.natCast_nonneg k,es[k],by simp[hlt],hel _ (List.getElem_mem hlt),?_⟩
  simpa[Gx,hlt]using hk
 ·exact⟨Int.natCast_nonneg k,by omega,by simpa[Gx]using hk⟩
def ID {l:List At} (h:Sat σ l) (i:Nat) {v:V} {sz k:Nat} {es:List (List V)} {e:List V} {agg:Option Nat} (hi:l[i]? =some (.own v sz es)) (he:es[k]? =some e) {K:V→Prop} (hk:cut agg e 0 K):AX σ agg (Gx v sz k) K:=by
 rcases h.get hi with⟨rfl,_⟩|⟨n',cap',rfl,hn⟩
 ·simp only[Gx,AX,D9,he]
  exact hk
 ·simp only[Gx,AX,Ov,hn,he]
  exact⟨trivial,hk⟩
def Lq {l : List At} (h:Sat σ l) (i:Nat) {v x:V} {sz k:Nat} {es:List (List V)} {e vc:List V} (hi:l[i]? =some (.own v sz es)) (he:es[k]? =some e) (hc:cellsOf x=some vc) (hl:vc.length=sz) (h1:vc.all CO=true) (hel:e.length=sz) (hv:(EI v).isSome=true) {K:AH→Prop}
    (hk: ∀σ',Sat σ' (l.set i (.own v sz (es.set k vc)))→K σ'):AU σ sz (Gx v sz k) x K:=by
 rcases h.get hi with⟨rfl,_⟩|⟨n,cap,rfl,hn⟩
 ·cases hv
 ·unfold AU
  rw[hc];refine⟨hl,h1,?_⟩;simp only[Gx,hn,he];refine⟨trivial,by omega,hk _ ?_⟩
  have hput: ∀(vs vc:List V),vc.length=vs.length→putAt vs 0 vc=vc:=by
   have gen: ∀(vc pre vs:List V),vc.length=vs.length→putAt (pre++vs) pre.length vc=pre++vc:=by
    intro vc
    induction vc with
    | nil=>intro pre vs hl;cases vs with
      | nil=>rfl
      | cons _ _=>cases hl
    | cons x vc ih=>
      intro pre vs hl;cases vs with
      | nil=>cases hl
      | cons y vs=>
        simp only[putAt];rw[List.set_append_right _ _ (Ht _),Nat.sub_self,List.set_cons_zero];have:=ih (pre++[x]) vs (by simpa using hl);simp only[Qi,K1,List.length_nil,G7,W5,List.singleton_append]at this;exact this
   intro vs vc hl;exact gen vc [] vs hl
  rw[hput e vc (by omega)];refine h.change hi (fun b hb ha=>Fq hb fun m hm=>?_) (fun b hb ha m hm=>ha m hm) (.inr ⟨n,cap,by simp,by simp[A5]⟩);rw[Cl];intro e;subst e;exact ha m rfl hm
def Th {l:List At} (h:Sat σ l) (i:Nat) {n:Nat} {kvs:List (V×V)} {ks:KS} {z vk:V} {ok:Bool} (hi:l[i]? =some (.map n kvs)) (hk:BW ks vk=true) (hks: ∀kv∈kvs,BW ks kv.1=true) {K:V→Prop} (h':K (found z ok (C6 vk kvs))) :
    AO σ ks z ok (.m n) vk K:=by
 refine⟨hk,?_⟩;have:=h.get hi;simp only[At.ok]at this;simp only[this];exact⟨hks,h'⟩
def OS {l:List At} (h:Sat σ l) (i:Nat) {n:Nat} {kvs:List (V×V)} {ks:KS} {vk vv:V} (hi:l[i]? =some (.map n kvs)) (hk:BW ks vk=true) (hks: ∀kv∈kvs,BW ks kv.1=true) {K:AH→Prop}
    (h': ∀σ',Sat σ' (l.set i (.map n (Em vk vv kvs)))→K σ'):AP σ ks (.m n) vk vv K:=by
 refine⟨hk,?_⟩;have:=h.get hi;simp only[At.ok]at this;simp only[this];exact⟨hks,h' _ (lC h hi _)⟩
def B3 (P:Program) (f:FuncId) (args:List V) (pre:List At) (Φ:R→List At→Prop):Prop:= ∀σ,Sat σ pre→A7 P f args σ fun r σ'=> ∃post,Φ r post∧Sat σ' post
def mI {a:At} {σ1 τ:AH} (h:a.ok σ1):a.ok (join σ1 τ):=Fq h fun n hn=>by
 obtain⟨o,ho⟩:=DB h hn;simp[join,ho]
def B3.use {f:FuncId} {args:List V} {pre rest:List At} {Φ:R→List At→Prop} (h:B3 P f args pre Φ) (hs:Sat σ (pre++rest)) {Q:R→AH→Prop} (hk: ∀r post σ',Φ r post→Sat σ' (post++rest)→Q r σ'):A7 P f args σ Q:=by
 have hpre:Sat σ pre:=hs.less (List.sublist_append_left _ _);have hrest:Sat σ rest:=hs.less (List.sublist_append_right _ _);have hap:=(List.pairwise_append.1 hs.2).2.2
 let D:Nat→Prop:=fun n=> ∀b∈rest,b.wB≠some n
 have h1:Sat (Gv σ D) pre:=⟨fun a ha=>Fq (hpre.1 a ha) fun n hn=>Dd fun b hb=>hap a ha b hb n hn,hpre.2⟩
 refine A7.mono (A7.frame D (h _ h1)) fun r σ' ⟨σ1,⟨post,hp,hsp⟩,hfr,he⟩=>hk r post σ' hp ?_
 subst he
 have hrn: ∀b∈rest,∀n,b.wB=some n→σ1 n=none∧Gv σ (fun n=> ¬D n) n=σ n:=fun b hb n hn=>by
  have hnd: ¬D n:=fun h=>h b hb hn
  obtain⟨o,ho⟩:=DB (hrest.1 b hb) hn;exact⟨hfr n hnd (by rw[ho];simp),Dd hnd⟩
 refine⟨fun a ha=>?_,List.pairwise_append.2 ⟨hsp.2,hrest.2,fun a ha b hb n hn hb'=>?_⟩⟩
 ·rcases FK.1 ha with ha|ha
  ·exact mI (hsp.1 a ha)
  ·refine Fq (hrest.1 a ha) fun n hn=>?_
   obtain⟨k1,k2⟩:=hrn a ha n hn;simp only[join,k1,k2]
 ·obtain⟨o,ho⟩:=DB (hsp.1 a ha) hn
  rw[(hrn b hb n hb').1]at ho;cases ho
def Oc:List (Nat×V)→Env→Env
 | _,[]=>[]
 | f,(k,v)::r=>(k,(get k f).getD v)::Oc f r
def sk:List (Nat×V)→Env→(Env→Prop)→Prop
 | _,[],k=>k []
 | f,(n,v)::r,k=>match get n f with
   | some u=>sk f r fun e=>k ((n,u)::e)
   | none=>sk f r fun e=>k ((n,v)::e)
def Ut {f:List (Nat×V)}: ∀ {E:Env} {k:Env→Prop},sk f E k=k (Oc f E)
 | [],_=>rfl
 | (n,v)::r,k=>by
   simp only[sk,Oc];cases get n f with
   | none=>exact Ut (E:=r)
   | some u=>exact Ut (E:=r)
def C3 {l:List Nat} {a:AY} {Q:Ag→Env→AH→Prop} {E:Env} (len:Nat) {X:Type} (f:Nat→X→List (Nat×V)) (H:Nat→X→List At) (Φ:Nat→X→Prop) (x0:X) (h0:E=Oc (f 0 x0) E) (hΦ:Φ 0 x0) (hs:Sat σ (H 0 x0))
    (h: ∀k x σ,k≤len→Φ k x→Sat σ (H k x)→sk (f k x) E fun E1=>W P a (Ag.andThen (fun env' σ'=>pk l env' fun E'=>k<len∧ ∃x',E'=Oc (f (k+1) x') E∧Φ (k+1) x'∧Sat σ' (H (k+1) x')) Q) E1 σ):fG P l a Q E σ:=by
 refine upW len (fun k env' σ'=> ∃x,env'=Oc (f k x) E∧Φ k x∧Sat σ' (H k x)) ⟨x0,h0,hΦ,hs⟩ ?_;rintro k _ σ hk ⟨x,rfl,h1,h2⟩;have:=h k x σ hk h1 h2;rw[Ut]at this;exact this
def KI {l:List Nat} {a:AY} {Q:Ag→Env→AH→Prop} {E:Env} {X:Type} (μ:X→Nat) (f:X→List (Nat×V)) (H:X→List At) (Φ:X→Prop) (x0:X) (h0:E=Oc (f x0) E) (hΦ:Φ x0) (hs:Sat σ (H x0))
    (h: ∀x σ,Φ x→Sat σ (H x)→sk (f x) E fun E1=>W P a (Ag.andThen (fun env' σ'=>pk l env' fun E'=> ∃x',μ x'<μ x∧E'=Oc (f x') E∧Φ x'∧Sat σ' (H x')) Q) E1 σ):fG P l a Q E σ:=by
 refine⟨fun n env σ=> ∃x,n=μ x∧env=Oc (f x) E∧Φ x∧Sat σ (H x),⟨_,x0,rfl,h0,hΦ,hs⟩,?_⟩;rintro n _ σ ⟨x,rfl,rfl,h1,h2⟩;have h:=h x σ h1 h2;rw[Ut]at h;refine hZ h fun ex env' σ' hq=>?_
 cases ex with
 | normal=>
   simp only[Ag.andThen]at *;rw[GB]at *;obtain⟨x',k1,k2⟩:=hq;exact⟨_,k1,x',rfl,k2⟩
 | exit id=>exact hq
 | ret=>exact hq
 | Bo v=>exact hq
def RI {K A:Env→AH→Prop} {lx:List Nat} (U: ∀env σ,(pk lx env fun E=>A E σ)→K env σ) {AA:Type} (fJ:AA→List (Nat×V)) (HJ:AA→List At) (ΦJ:AA→Prop) (EJ:Env)
    (hJ: ∀y σ,ΦJ y→Sat σ (HJ y)→sk (fJ y) EJ fun E1=>A E1 σ): ∀y env σ,(pk lx env fun E=>E=Oc (fJ y) EJ)→ΦJ y→Sat σ (HJ y)→K env σ:=by
 intro y env σ he h1 h2;apply U;rw[GB]at *;have:=hJ y σ h1 h2;rw[Ut,←he]at this;exact this
end Go.Gl
namespace Go.Gl
def Sn:Sat emp []:=Sat.nil
def Mx:Aj=17592186044416:=rfl
end Go.Gl
namespace Go.Gl
open Go.ChangeShapes Go.WideShapes Go.ChangeAt Go.RowKit
variable {P:Program}
def jx {f:FuncId} {args:List V} {v:V} (h:Pure P f args v) {w:World} {cs:Array Value} (hc:dx (Hh (fun _=>False) emp w) args cs) :
    Calls P f cs w fun e w'=>(∃c,e= .returned c∧Ai (Hh (fun _=>False) emp w') v c)∧B8 (fun _=>False) emp w emp w':=by
 refine Calls.mono (h.2 (fun _=>False) w cs (ZV _ fun _ h=>h.elim) hc) fun e w' ⟨r,σ',⟨h1,h2⟩,h3,_,h4⟩=>?_
 subst h1;subst h2;exact⟨h3,h4⟩
end Go.Gl
namespace Go.Gl
variable {P:Program} {σ:AH} {env:Env}
abbrev iL (xs:List Int):List (List V):=xs.map fun x=>[.i .i64 x]
abbrev E3 (ls:List (List Int)):List (List V):=ls.map fun l=>[.l (iL l) false]
abbrev bL (xs:List Bool):List (List V):=xs.map fun x=>[.b x]
def GX {α:Type} (enc:α→List V) (sz:Nat):Prop:= ∀x,(enc x).length=sz∧ ∀v∈enc x,CO v=true
def DV:GX (fun x:Int=>[V.i .i64 x]) 1:=fun x=>⟨rfl,fun v hv=>by simp at hv;subst hv;rfl⟩
def D5:GX (fun l:List Int=>[V.l (iL l) false]) 1:=fun x=>⟨rfl,fun v hv=>by simp at hv;subst hv;rfl⟩
def Zz:GX (fun x:Bool=>[V.b x]) 1:=fun x=>⟨rfl,fun v hv=>by simp at hv;subst hv;rfl⟩
def Ep {α:Type} {enc:α→List V} {sz:Nat} (hg:GX enc sz) (xs:List α):(∀e∈xs.map enc,e.length=sz)∧ ∀e∈xs.map enc,∀v∈e,CO v=true:=by
 refine⟨fun e he=>?_,fun e he=>?_⟩<;>obtain⟨x,_,rfl⟩:=KE.1 he
 ·exact(hg x).1
 ·exact(hg x).2
def xa {α:Type} {enc:α→List V} {sz:Nat} {xs ys:List α} {f g:Bool} {K:V→Prop} (hg:GX enc sz) {b:Nat} (hl:xs.length+ys.length≤Aj∧(xs.length+ys.length)*b≤140737488355328) (hf:f=true) (hk:K (.l ((xs++ys).map enc) false)):Ae b σ sz (.l (xs.map enc) f) (.l (ys.map enc) g) K:=by
 obtain⟨h1,h2⟩:=Ep hg ys;refine⟨h1,h2,(Ep hg xs).1,by simpa using hl,fun _=>hf,?_⟩;rw[←Qn];exact hk
def sB {α:Type} {enc:α→List V} {sz:Nat} {ys:List α} {g:Bool} {K:V→Prop} (hg:GX enc sz) {b:Nat} (hl:ys.length≤Aj∧ys.length*b≤140737488355328) (hk:K (.l (ys.map enc) false)):Ae b σ sz (.l [] true) (.l (ys.map enc) g) K:=
 xa (xs:=[]) hg (by simpa using hl) rfl hk
def GC {l:List At} (h:Sat σ l) (i:Nat) {α:Type} {enc:α→List V} {sz:Nat} {xs:List α} {x:α} {v:V} {f:Bool} {e:List V} {K:V→AH→Prop} (hi:l[i]? =some (.own v sz (xs.map enc))) {b:Nat} (hl:xs.length<Aj∧(xs.length+1)*b≤140737488355328) (hg:GX enc sz)
    (hk: ∀v' σ',Sat σ' (l.set i (.own v' sz ((xs++[x]).map enc)))→K v' σ') (he:e=enc x:=by rfl):AM b σ sz v (.l [e] f) K:=by
 subst he;refine hAppend h i hi (by simp;omega) (fun e he=>by simp at he;subst he;exact(hg x).1) (fun e he=>by simp at he;subst he;exact(hg x).2) fun v' σ' hs=>hk v' σ' ?_
 rw[Qn];exact hs
def J2 {l:List At} (h:Sat σ l) (i:Nat) {α:Type} {enc:α→List V} {sz:Nat} {xs ys:List α} {v:V} {f:Bool} {K:V→AH→Prop} (hi:l[i]? =some (.own v sz (xs.map enc))) {b:Nat} (hl:xs.length+ys.length≤Aj∧(xs.length+ys.length)*b≤140737488355328) (hg:GX enc sz)
    (hk: ∀v' σ',Sat σ' (l.set i (.own v' sz ((xs++ys).map enc)))→K v' σ'):AM b σ sz v (.l (ys.map enc) f) K:=by
 obtain⟨h1,h2⟩:=Ep hg ys;refine hAppend h i hi (by simpa using hl) h1 h2 fun v' σ' hs=>hk v' σ' ?_
 rw[Qn];exact hs
def Ge {l:List At} (h:Sat σ l) (i:Nat) {v:V} {sz:Nat} {es:List (List V)} (hi:l[i]? =some (.own v sz es)) {vf:V} (he:V.l es false=vf):Ap σ v (fun r σ'=>r= .ret vf∧σ'=emp):=
 A8 (he ▸ h.IV i hi)
def Aa {α:Type} {xs:List α} {k:Nat} {x:α} (h:xs[k]? =some x):xs.take (k+1)=xs.take k++[x]:=by
 rw[List.take_add_one,h];rfl
def Ul {α:Type} {enc:α→List V} {xs:List α} {f:Bool} {sz:Nat} {K:V→Prop} {ki:IntKind} {j:Int} (k:Nat) {x:α} (hx:xs[k]? =some x) (hj:j=k) (hs:(enc x).length=sz) (h:K (.rp (enc x))) :
    AT sz none (.l (xs.map enc) f) (.i ki j) K:=by
 subst hj;refine⟨Int.natCast_nonneg k,enc x,?_,hs,h⟩;rw[MH,Q8,hx];rfl
def nM {α:Type} {enc:α→List V} {xs:List α} {k:Nat} {A B:Prop} (hk:k≤xs.length) (h1: ∀x,xs[k]? =some x→k<xs.length→A) (h2:k=xs.length→B) :
    (decide ((k:Int)<((xs.map enc).length:Nat))=true→A)∧(decide ((k:Int)<((xs.map enc).length:Nat))=false→B):=
 fork (fun h=>by
  have hlt:=fm h
  exact h1 _ (EN hlt) hlt) fun h=>h2 (aE hk h)
def K8 (a:Int):Nat→Int
 | 0=>a
 | k+1=>IntKind.i64.wrap (K8 a k+1)
abbrev Bc (k:Nat):Int:=K8 0 k
def OV {a:Int} (ha: -4611686018427387904≤a): ∀ {k:Nat},a+k≤4611686018427387904→K8 a k=a+k
 | 0,_=>by simp[K8]
 | k+1,h=>by
   rw[K8,OV ha (by omega),wrap64 (by omega) (by omega)];omega
def AN {k:Nat} (h:k≤Aj+8):Bc k=k:=by
 rw[Bc,OV (by omega) (by simp only[Aj]at h;omega)];omega
def bM (a:Int):Nat→Int
 | 0=>a
 | k+1=>IntKind.i64.wrap (bM a k - 1)
def aI {a:Int} (ha:a≤4611686018427387904): ∀ {k:Nat},-4611686018427387904≤a - k→bM a k=a - k
 | 0,_=>by simp[bM]
 | k+1,h=>by
   rw[bM,aI ha (by omega),wrap64 (by omega) (by omega)];omega
def GZ {α:Type} {enc:α→List V} {xs:List α} {k:Nat} {A B:Prop} (hk:k≤xs.length) (hm:xs.length≤Aj) (h1: ∀x,xs[k]? =some x→k<xs.length→A) (h2:k=xs.length→B) :
    (decide (Bc k<((xs.map enc).length:Nat))=true→A)∧(decide (Bc k<((xs.map enc).length:Nat))=false→B):=by
 rw[AN (by omega)];exact nM hk h1 h2
def I3 {α:Type} {enc:α→List V} {xs:List α} {f:Bool} {sz:Nat} {K:V→Prop} {ki:IntKind} {k:Nat} {x:α} (hx:xs[k]? =some x) (hm:xs.length≤Aj) (hs:(enc x).length=sz) (h:K (.rp (enc x))) :
    AT sz none (.l (xs.map enc) f) (.i ki (Bc k)) K:=
 Ul k hx (AN (by have:=(MK.1 hx).1;omega)) hs h
def BI {α:Type} {xs:List α} {k:Nat} (h:k=xs.length):xs.take k=xs:=by rw[h,List.take_length]
end Go.Gl
