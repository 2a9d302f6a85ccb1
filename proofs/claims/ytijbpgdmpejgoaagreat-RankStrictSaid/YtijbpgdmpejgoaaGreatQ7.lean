import Derived.RangeFuncLeaves
import Derived.Laws.BitsLemmas
import Derived.RecoverIn
import Derived.Test.YtijbpgdmpejgoaaGreatQ6
set_option linter.all false
set_option linter.unusedVariables false
set_option linter.unusedSimpArgs false
namespace Go.Gl
variable {P:Program} {Λ:Nat→Prop} {pu:List FuncId} {fz:List Nat} {ds:List Deferred}
def Fe:List ResultVar→Option (List Nat)
 | []=>some []
 | .tmp t::r=>(Fe r).map (t:: ·)
 | .cell _ _::_=>none
def ZV (env:Env):List Nat→Option (List V)
 | []=>some []
 | s::r=>match get s env,ZV env r with
   | some v,some vs=>some (v::vs)
   | _,_=>none
def dG (AL:List Nat) (env:Env):Option V:=
 match ZV env AL with
 | some [v]=>some v
 | some vs=>some (.t vs)
 | none=>none
def BJ (σ:AG) (v:V) (Q:R→AG→Prop):Prop:= ∃vf σ',Sub σ' σ∧F6 σ σ' v vf∧Q (.ret vf) σ'
def A5 (σ:AG) (v:V) (Q:R→AG→Prop):Prop:= ∃vf σ',Sub σ' σ∧F6 σ σ' v vf∧Q (.Bi vf) σ'
def dZ (AL:List Nat) (Q:R→AG→Prop):Ae→Env→AG→Prop
 | .normal,env,σ| .ret,env,σ=>wv (dG AL env) fun v=>BJ σ v Q
 | .Bi v,_,σ=>A5 σ v Q
 | .exit _,_,_=>False
def A0:Nat→List V→Env
 | _,[]=>[]
 | i,v::vs=>(i,v)::A0 (i+1) vs
theorem SI {o:Option V} {k:V→Prop} (h:wv o k): ∃v,o=some v∧k v:=by
 cases o with
 | none=>exact h.elim
 | some v=>exact⟨v,rfl,h⟩
theorem Fh: ∀(vs:List V) (i k:Nat) (v:V),get k (A0 i vs)=some v→i≤k∧vs[k - i]? =some v
 | [],_,_,_,h=>by cases h
 | u ::vs,i,k,v,h=>by
   simp only[A0,get]at h;cases hb:Nat.beq i k with
   | true=>
     rw[hb]at h;simp only[cond_true]at h;cases h;have:i=k:=Nat.eq_of_beq_eq_true hb;subst this;exact⟨Nat.le_refl _,by simp⟩
   | false=>
     rw[hb]at h;simp only[cond_false]at h;have hne:i≠k:=Nat.ne_of_beq_eq_false hb;obtain⟨h1,h2⟩:=Fh vs (i+1) k v h;refine⟨by omega,?_⟩;rw[show k - i=k - (i+1)+1 by omega];simpa using h2
def kH (tmps:Array Value):ResultVar→Sem Value
 | .tmp t=>pure (tmps.getD t undef)
 | .cell a t=>do loadVar t (←asAddr (tmps.getD a undef))
theorem JS (fn:Func) (tmps:Array Value):results fn tmps=(do
 let vs←fn.results.mapM (kH tmps)
 pure (if h:vs.size=1 then vs[0]else .tuple vs)):=by
 unfold results;congr 1
theorem Th {fn:Func} {AL:List Nat} (hr:Fe fn.results.toList=some AL) {H:Nat→Nat→Option Value} {env:Env} {tmps:Array Value} (he:CQ H env tmps) {v:V} (hv:dG AL env=some v) (w:World) :
 ∃c,(results fn tmps).run P w= .ok c w∧AZ H v c:=by
 have key: ∀(l:List ResultVar) (AL:List Nat),Fe l=some AL→ ∀vs,ZV env AL=some vs→
  ∃cs:List Value,(l.mapM (kH tmps)).run P w= .ok cs w∧cs.length=vs.length∧BV H (fun i=>cs[i]?) 0 vs:=by
  intro l
  induction l with
  | nil=>
    intro AL hs vs hv;cases hs;cases hv;exact⟨[],by simp,rfl,trivial⟩
  | cons x l ih=>
    intro AL hs vs hv;cases x with
    | cell a t=>cases hs
    | tmp t=>
      simp only[Fe]at hs;obtain⟨s',h1,rfl⟩:=Ag hs;simp only[ZV]at hv;split at hv
      ·rename_i u us h2 h3
       cases hv;obtain⟨cs,h4,h5,h6⟩:=ih s' h1 us h3;obtain⟨c,h7,h8⟩:=he t u h2;refine⟨c::cs,?_,by simp[h5],⟨c,rfl,h8⟩,A3 h6 (fun i _=>by rw[show 0+1+i=i+1 by omega];simp)⟩;rw[List.mapM_cons];simp only[kH,Sem.run_bind,Sem.run_pure,Result.andThen_ok,h4,Array.getD_eq_getD_getElem?,h7,Option.getD_some]
      ·cases hv
 unfold dG at hv;cases hg:ZV env AL with
 | none=>rw[hg]at hv;cases hv
 | some vs =>
   obtain⟨cs,h1,h2,h3⟩:=key _ _ hr vs hg
   have hrun:(fn.results.mapM (kH tmps)).run P w= .ok cs.toArray w:=by
    rw[Array.mapM_eq_mapM_toList];simp[h1]
   rw[JS];simp only[Sem.run_bind];refine⟨if h:cs.toArray.size=1 then cs.toArray[0]else .tuple cs.toArray,?_,?_⟩
   ·rw[hrun]
    rfl
   ·rw [hg]at hv
    by_cases h1':cs.length=1
    ·rw [dif_pos (by simpa using h1')]
     match cs,h1',h2,h3 with
     | [c],_,h2,h3=>
       match vs,h2,h3,hv with
       | [u],_,h3,hv=>
         cases hv;obtain⟨⟨d,hd,hr⟩,_⟩:=h3;simp at hd;subst hd;exact hr
    ·rw[dif_neg (by simpa using h1')]
     have hv':v= .t vs:=by
      match vs,hv with
      | [],hv=>cases hv;rfl
      | [u],hv=>simp at h2;exact absurd h2 h1'
      | u::u'::r,hv=>cases hv;rfl
     subst hv';exact⟨_,rfl,by simpa using h2,A3 h3 (fun i _=>by simp)⟩
theorem B5.We {σ₀ σ:AG} {w₀ w:World} {D:Nat} {ob:Obj} (h:B5 Λ σ₀ w₀ σ w) (hD:w₀.heap.size≤D):B5 Λ σ₀ w₀ σ (w.putObj D ob) where
 frame n hn h0:=(World.putObj_heap_other (by omega)).trans (h.frame n hn h0)
 size:=by simpa using h.size
 os:=h.os
 tape:=h.tape
 output:=h.output
 names:=h.names
theorem C8 {AD:Fence} {n:Nat} {fn:Func} {tmps:Array Value} {R:Ending→World→Prop} {u:FrameMode} (hu:u≠ .run) {σ₀ σ:AG} {w₀:World}: ∀(ms:List Nat) (w:World),ms.Nodup→
 (∀D∈ms,w₀.heap.size≤D∧σ D=none∧w.heap[D]? =some (.deferred (some [])))→Rel Λ σ w→B5 Λ σ₀ w₀ σ w→(∀w',Rel Λ σ w'→B5 Λ σ₀ w₀ σ w'→V7 (Hh Λ σ w) (Hh Λ σ w')→LeavesInM AD n P fn tmps R ds u w')→
 LeavesInM AD n P fn tmps R (ms.map Du++ds) u w
 | [],w,_,_,G,Y,h=>h w G Y fun _ _ _ h=>h
 | D::ms,w,hnd,hms,G,Y,h=>by
   obtain⟨h1,h2,h3⟩:=hms D (.head _);have hnd':=List.nodup_cons.1 hnd;refine⟨hu,.inl ⟨D,_,rfl,run_takeDeferred h3,?_⟩⟩;have hle:=RG (Λ:=Λ) (σ:=σ) (ob':= .deferred none) h3 rfl;refine C8 hu ms _ hnd'.2 (fun E hE=>?_) (G.put h2 h3 rfl) (Y.We h1) fun w' q1 q2 q3=>h w' q1 q2 fun b o c hc=>q3 b o c (hle b o c hc)
   obtain⟨h4,h5,h6⟩:=hms E (.tail _ hE);exact⟨h4,h5,(World.putObj_heap_other (fun e=>hnd'.1 (by rw[←e];exact hE))).trans h6⟩
theorem Fm {n:Nat} {f:FuncId} {fn:Func} {c:Code} {args:Array Value} {w:World} {R:Ending→World→Prop}
 (hf:P.funcs[f]? =some fn) (hb:fn.body=some c)
 (h:MK none P c (bodyPostM (wide none) n P fn R) {tmps:=args++Array.replicate (fn.ntmps - args.size) undef,defers:=[]} w):CallsIn (wide none) n P f args w R:=by
 refine⟨trivial,fun cs hr=>?_⟩
 let b:Frame:={(default:Frame)with fn:=f,kind:= .normal,roundOf:=none}
 have henter:Frame.enter P f args .normal =
  b.atR {tmps:=args++Array.replicate (fn.ntmps - args.size) undef,defers:=[]} [.code c]:=by
  simp[Frame.enter,Frame.atR,hf,hb,b]
 obtain⟨e,a',w',hq,harr⟩:=h b [] cs rfl ⟨fn,hf⟩;rw[←henter]at harr;cases e with
 | normal=>
   obtain⟨e',w'',fr',G,hs,hfn,hl⟩:=leaves_stepsInM a'.defers .returning w' {b.atR a' []with mode:= .returning} cs rfl rfl rfl hf rfl trivial hr hq;exact⟨e',w'',fr',G,ComesIn.of_steps (StepsIn.trans harr (.one (fenced_calm (fr:=b.atR a' []) trivial hr rfl) (stepR_end rfl))) hs,hfn,hl⟩
 | ret=>
   obtain⟨todo,hs₀⟩:=harr.1 rfl;obtain⟨e',w'',fr',G,hs,hfn,hl⟩:=leaves_stepsInM a'.defers .returning w' {b.atR a' todo with mode:= .returning} cs rfl rfl rfl hf rfl trivial hr hq;exact⟨e',w'',fr',G,ComesIn.of_steps hs₀ hs,hfn,hl⟩
 | panic chain=>
   obtain⟨todo,hs₀⟩:=harr;obtain⟨e',w'',fr',G,hs,hfn,hl⟩:=leaves_stepsInM a'.defers (.panicking chain) w' {b.atR a' todo with mode:= .panicking chain} cs rfl rfl rfl hf rfl trivial hr hq;exact⟨e',w'',fr',G,ComesIn.of_steps hs₀ hs,hfn,hl⟩
 | exit id=>exact hq.elim
 | goto l=>exact hq.elim
 | outgrown=>exact⟨.outgrown,w',b,hq,harr.resolve_left (by simp[b]),rfl,trivial⟩
theorem cL {f:FuncId} {fn:Func} {c:Code} {ac:AJ} {AL:List Nat} (hf:P.funcs[f]? =some fn) (hok:okF P f=true) (hb:fn.body=some c) (hr:Fe fn.results.toList=some AL)
 {args:List V} (hn:args.length≤fn.ntmps) (hc:res P fn.ntmps pu fz c=some (erase ac)) {σ:AG} {Q:R→AG→Prop} (h:T P ac (dZ AL Q) (A0 0 args) σ):BQ P f args σ Q:=by
 refine⟨hok,fun Λ w cs G hv=>?_⟩;refine callsIn_wide (n:=0) |>.1 (Fm hf hb ?_)
 have he:CQ (Hh Λ σ w) (A0 0 args) (cs++Array.replicate (fn.ntmps - cs.size) undef):=by
  intro k v hg;obtain⟨_,h2⟩:=Fh args 0 k v hg;simp only[Nat.sub_zero]at h2;obtain⟨d,h3,h4⟩:=Bb.1 hv.2 k v h2;simp only[Nat.zero_add]at h3;refine⟨d,?_,h4⟩;rw[Array.getElem?_append_left (by have:=(qt.1 h3).1;exact this)];exact h3
 have hsz:(cs++Array.replicate (fn.ntmps - cs.size) undef).size=fn.ntmps:=by
  simp only[Array.size_append,Array.size_replicate];have:=hv.1;omega
 refine Cl (FL (r:=none) (a:={tmps:=cs++Array.replicate (fn.ntmps - cs.size) undef,defers:=[]}) hc h he G hsz C5.none) ?_;rintro e a' w' ⟨ex,env,σ',hq,hx,he',hR',Y,hN,ms,hms,hnd,hD,_⟩;simp only[List.append_nil]at hms
 have fin: ∀v vf σ'',dG AL env=some v→Sub σ'' σ'→F6 σ' σ'' v vf→Q (.ret vf) σ''→LeavesInM (wide none) 0 P fn a'.tmps (fun e w'=> ∃r σ',Q r σ'∧SH (Hh Λ σ' w') r e∧Rel Λ σ' w'∧B5 Λ σ w σ' w') a'.defers .returning w':=fun v vf σ'' h1 h2 h3 h4=>by
  rw[hms,←List.append_nil (ms.map Du)];refine C8 (by simp) ms w' hnd hD hR' Y fun w2 q1 q2 q3=>?_
  obtain⟨c,h5,h6⟩:=Th (P:=P) hr (he'.mono q3) h1 w2;exact⟨c,h5,.ret vf,σ'',h4,⟨c,rfl,h3.rel q1 h2 h6⟩,q1.drop h2,q2.trans (B5.drop w2 h2)⟩
 cases ex with
 | normal=>
   simp only[De]at hx;subst hx;obtain⟨v,h1,vf,σ'',h2,h3,h4⟩:=SI hq;exact fin v vf σ'' h1 h2 h3 h4
 | ret=>
   simp only[De]at hx;subst hx;obtain⟨v,h1,vf,σ'',h2,h3,h4⟩:=SI hq;exact fin v vf σ'' h1 h2 h3 h4
 | exit id=>exact hq.elim
 | Bi v=>
   obtain⟨c,rfl,hv'⟩:=hx;obtain⟨vf,σ'',h2,h3,h4⟩:=hq;show LeavesInM _ _ _ _ _ _ a'.defers (.panicking _) w';rw[hms,←List.append_nil (ms.map Du)];refine C8 (by simp) ms w' hnd hD hR' Y fun w2 q1 q2 q3=>?_
   exact⟨.Bi vf,σ'',h4,⟨c,rfl,h3.rel q1 h2 (hv'.mono q3)⟩,q1.drop h2,q2.trans (B5.drop w2 h2)⟩
theorem OR {f:FuncId} {fn:Func} {ac:AJ} {AL:List Nat} (hf:P.funcs[f]? =some fn) (hok:okF P f=true) (hb:fn.body.bind (res P fn.ntmps pu fz)=some (erase ac)) (hr:Fe fn.results.toList=some AL)
 {args:List V} (hn:args.length≤fn.ntmps) {σ:AG} {Q:R→AG→Prop} (h:T P ac (dZ AL Q) (A0 0 args) σ):BQ P f args σ Q:=by
 cases hc:fn.body with
 | none=>rw[hc]at hb;cases hb
 | some c=>rw[hc]at hb;exact cL hf hok hc hr hn hb h
def scalar:V→Bool
 | .b _=>true
 | .i _ _=>true
 | .t vs=>vs.all fun| .b _=>true| .i _ _=>true|_=>false
 | _=>false
theorem VH {H H':Nat→Nat→Option Value} {v:V} {c:Value} (hs:scalar v=true) (h:AZ H v c):AZ H' v c:=by
 cases v<;>try(simp[scalar]at hs;done)
 ·exact h
 ·exact h
 ·rename_i vs
  obtain⟨c',rfl,h1,h2⟩:=h;refine⟨c',rfl,h1,?_⟩;rw[Bb]at *;intro i v hv;obtain⟨d,hd,hr⟩:=h2 i v hv;refine⟨d,hd,?_⟩;simp only[scalar,GL]at hs;have:=hs v (Fo hv);cases v<;>first|(simp at this;done)|exact hr
theorem Pure.ZT {f:FuncId} {args args':List V} {v:V} (h:Pure P f args' v) {σ:AG} (hf:EE σ emp args args') (hs:scalar v=true) {k kp:V→AG→Prop} (hk:k v σ):BQ P f args σ (qk k kp):=by
 refine⟨h.1,fun Λ w cs G hv=>?_⟩;have hsub:Sub emp σ:=fun n o ho=>by cases ho
 refine Calls.mono (h.2 Λ w cs (G.drop hsub) ⟨by rw[hf.length];exact hv.1,hf.rel G hsub (fun _ _ e=>e) hv.2⟩) fun e w' ⟨r,σ',⟨hr,hs'⟩,h1,h2,h3⟩=>?_
 subst hr;subst hs';obtain⟨c,rfl,hv'⟩:=h1;exact⟨.ret v,σ,hk,⟨c,rfl,VH hs hv'⟩,PX G h3,RX h3⟩
end Go.Gl
namespace Go.Gl
variable {P:Program} {σ:AG} {env env':Env}
theorem Dj {v vf:V} (h:F6 σ emp v vf):BJ σ v (fun r σ'=>r= .ret vf∧σ'=emp):=⟨vf,emp,fun n o ho=>(by cases ho),h,rfl,rfl⟩
theorem AY {v vf:V} (h:v=vf):BJ σ v (fun r σ'=>r= .ret vf∧σ'=emp):=Dj (h ▸ .refl v)
theorem Lp {K K':Env→AG→Prop} {kp kp':Env→V→AG→Prop} (hm: ∀env σ,K env σ→K' env σ) (hp: ∀env v σ,kp env v σ→kp' env v σ): ∀ {os:List AS} {env:Env} {σ:AG},Il P os K kp env σ→Il P os K' kp' env σ
 | [],_,_,h=>hm _ _ h
 | _::_,_,_,h=>B4 h (fun _ _ h=>Lp hm hp h) (hp _)
theorem Je {K K':Env→AG→Prop} {kp kp':V→AG→Prop} (hm: ∀env σ,K env σ→K' env σ) (hp: ∀v σ,kp v σ→kp' v σ): ∀ {os:List CD} {env:Env} {σ:AG},DC P os K kp env σ→DC P os K' kp' env σ
 | [],_,_,h=>hm _ _ h
 | _::_,_,_,h=>B4 h (fun _ _ h=>⟨h.1,Je hm hp h.2⟩) hp
end Go.Gl
namespace Go.Gl
variable {P:Program} {σ:AG} {env env':Env}
theorem LK {A B:Prop} (h:A):(true=true→A)∧(true=false→B):=⟨fun _=>h,fun e=>by cases e⟩
theorem LL {A B:Prop} (h:B):(false=true→A)∧(false=false→B):=⟨fun e=>(by cases e),fun _=>h⟩
theorem IJ {A B:Prop} (h:A):(false=false→A)∧(false=true→B):=⟨fun _=>h,fun e=>by cases e⟩
theorem II {A B:Prop} (h:B):(true=false→A)∧(true=true→B):=⟨fun e=>(by cases e),fun _=>h⟩
theorem fork {p:Prop} [Decidable p] {A B:Prop} (h1:p→A) (h2: ¬p→B):(decide p=true→A)∧(decide p=false→B):=⟨fun h=>h1 (of_decide_eq_true h),fun h=>h2 (of_decide_eq_false h)⟩
theorem wrap64 {n:Int} (h1: -9223372036854775808≤n) (h2:n≤9223372036854775807):IntKind.i64.wrap n=n:=by rw[IntKind.wrap_i64];omega
theorem sY {α:Type} {enc:α→List V} {xs:List α} {k:Nat} (h:(k:Int)<((xs.map enc).length:Nat)):k<xs.length:=by
 rw[Ce]at h;omega
theorem jk {α:Type} {enc:α→List V} {xs:List α} {k:Nat} (hk:k≤xs.length) (h: ¬(k:Int)<((xs.map enc).length:Nat)):k=xs.length:=by
 rw[Ce]at h;omega
theorem bS {α:Type} {enc:α→List V} {xs:List α} {f:Bool} {sz:Nat} {ki:IntKind} {j:Int} {K:V→AG→Prop} (l:Nat) (hj:j=l) (hl:l≤xs.length) (hs: ∀x,(enc x).length=sz) (h:K (.l ((xs.drop l).map enc) f) σ) :
 Ac σ sz (.l (xs.map enc) f) (some (.i ki j)) none none K:=by
 subst hj;refine⟨fun e he=>?_,?_⟩
 ·obtain⟨x,_,rfl⟩:=Oe.1 he
  exact hs x
 ·simp only[Oh,Ce]
  refine⟨by omega,by omega,by omega,?_⟩;rw[Int.toNat_natCast,Int.toNat_natCast,List.take_of_length_le (by simp)];simpa using h
def exitTo (B:Nat) (J:Env→AG→Prop) (Q:Ae→Env→AG→Prop):Ae→Env→AG→Prop
 | .exit id,env,σ=>bif Nat.beq id B then J env σ else Q (.exit id) env σ
 | .normal,env,σ=>Q .normal env σ
 | .ret,env,σ=>Q .ret env σ
 | .Bi v,env,σ=>Q (.Bi v) env σ
end Go.Gl
namespace Go.Gl
variable {P:Program} {Λ:Nat→Prop} {pu:List FuncId} {fz:List Nat}
inductive RS where
 | t (n:Nat)
 | c (n:Nat) (agg:Option Nat)
def MN (P:Program):List ResultVar→Option (List RS)
 | []=>some []
 | .tmp t::r=>(MN P r).map (.t t:: ·)
 | .cell a t::r=>match HX P t,MN P r with|some g,some l=>some (.c a g::l)|_,_=>none
def Rp (σ:AG) (env:Env):List RS→(List V→Prop)→Prop
 | [],k=>k []
 | .t n::r,k=>wv (get n env) fun v=>Rp σ env r fun vs=>k (v::vs)
 | .c n g::r,k=>wv (get n env) fun a=>An σ g a fun v=>Rp σ env r fun vs=>k (v::vs)
def D9:List V→V
 | [v]=>v
 | vs=> .t vs
def SG (AL:List RS) (Q:R→AG→Prop):Ae→Env→AG→Prop
 | .normal,env,σ| .ret,env,σ=>Rp σ env AL fun vs=>BJ σ (D9 vs) Q
 | .Bi v,_,σ=>A5 σ v Q
 | .exit _,_,_=>False
theorem YD {t:TypeId} {agg:Option Nat} (Y:HX P t=some agg) {σ:AG} {w:World} (G:Rel Λ σ w) {vx:V} {c:Value} (hx:AZ (Hh Λ σ w) vx c) {K:V→Prop} (h:An σ agg vx K) :
 ∃v d,(do loadVar t (←asAddr c):Sem Value).run P w= .ok d w∧AZ (Hh Λ σ w) v d∧K v:=by
 unfold An at h;split at h
 ·rename_i cs
  obtain⟨b,o,rfl,hv⟩:=hx;obtain⟨v,c,h1,h2,h3⟩:=Ed (P:=P) (w:=w) (b:=b) (off:=0) Y (fun i c hc=>(FM hc).2.2) hv h;refine⟨v,c,?_,h2,h3⟩;simp only[Sem.run_bind,asAddr,Sem.run_pure,Result.andThen,Nat.add_zero]at h1 ⊢;exact h1
 ·rename_i n off
  simp only[AZ]at hx;subst hx;unfold NG at h;split at h
  ·rename_i vs hs
   obtain⟨c,e,h1,h2,h3⟩:=Ib G hs;obtain⟨v,c',h4,h5,h6⟩:=Ed (P:=P) (w:=w) (b:=n) (off:=off) Y (fun i c hc=>by rw[DJ h1];exact hc) h3 h;refine⟨v,c',?_,h5,h6⟩;simp only[Sem.run_bind,asAddr,Sem.run_pure,Result.andThen,Nat.zero_add]at h4 ⊢;exact h4
  ·exact h.elim
 ·rename_i n sz i off
  simp only[AZ]at hx;subst hx;unfold NH at h;split at h
  ·rename_i sz' es cap hs
   obtain⟨rfl,h⟩:=h;split at h
   ·rename_i e he
    obtain⟨c,e',h1,_,_,_,h3⟩:=EL G hs;obtain⟨h7,h8⟩:=A7.1 h3 i e he;obtain⟨v,c',h4,h5,h6⟩:=Ed (P:=P) (w:=w) (b:=n) (off:=off) Y (fun i c hc=>by rw[DJ h1];exact hc) h8 h;refine⟨v,c',?_,h5,h6⟩;simp only[Sem.run_bind,asAddr,Sem.run_pure,Result.andThen,Nat.zero_add]at h4 ⊢;exact h4
   ·exact h.elim
  ·exact h.elim
 ·exact h.elim
theorem Kg {fn:Func} {AL:List RS} (hr:MN P fn.results.toList=some AL) {σ:AG} {w:World} (G:Rel Λ σ w) {env:Env} {tmps:Array Value} (he:CQ (Hh Λ σ w) env tmps) {K:List V→Prop} (hv:Rp σ env AL K) :
 ∃c vs,(results fn tmps).run P w= .ok c w∧AZ (Hh Λ σ w) (D9 vs) c∧K vs:=by
 have key: ∀(l:List ResultVar) (AL:List RS),MN P l=some AL→ ∀K,Rp σ env AL K→
  ∃(cs:List Value) (vs:List V),(l.mapM (kH tmps)).run P w= .ok cs w∧cs.length=vs.length∧BV (Hh Λ σ w) (fun i=>cs[i]?) 0 vs∧K vs:=by
  intro l
  induction l with
  | nil=>
    intro AL hs K hv;cases hs;exact⟨[],[],by simp,rfl,trivial,hv⟩
  | cons x l ih=>
    intro AL hs K hv;cases x with
    | cell a t=>
      simp only[MN]at hs;split at hs
      ·rename_i g s' h0 h1
       cases hs;obtain⟨va,h2,hv⟩:=SI hv;obtain⟨ca,h7,h8⟩:=he a va h2;obtain⟨v,d,h9,h10,hv⟩:=YD (P:=P) h0 G h8 hv;obtain⟨cs,vs,h4,h5,h6,hk⟩:=ih s' h1 _ hv;refine⟨d::cs,v::vs,?_,by simp[h5],⟨d,rfl,h10⟩ |> fun h=>⟨h,A3 h6 (fun i _=>by rw[show 0+1+i=i+1 by omega];simp)⟩,hk⟩;rw[List.mapM_cons];simp only[Sem.run_bind,kH]at h9 ⊢;simp only[Array.getD_eq_getD_getElem?,h7,Option.getD_some,h9,Result.andThen_ok,h4,Sem.run_pure]
      ·cases hs
    | tmp t=>
      simp only[MN]at hs;obtain⟨s',h1,rfl⟩:=Ag hs;obtain⟨u,h2,hv⟩:=SI hv;obtain⟨cs,vs,h4,h5,h6,hk⟩:=ih s' h1 _ hv;obtain⟨c,h7,h8⟩:=he t u h2;refine⟨c::cs,u::vs,?_,by simp[h5],⟨⟨c,rfl,h8⟩,A3 h6 (fun i _=>by rw[show 0+1+i=i+1 by omega];simp)⟩,hk⟩;rw[List.mapM_cons];simp only[kH,Sem.run_bind,Sem.run_pure,Result.andThen_ok,h4,Array.getD_eq_getD_getElem?,h7,Option.getD_some]
 obtain⟨cs,vs,h1,h2,h3,hk⟩:=key _ _ hr K hv
 have hrun:(fn.results.mapM (kH tmps)).run P w= .ok cs.toArray w:=by
  rw[Array.mapM_eq_mapM_toList];simp[h1]
 rw[JS];simp only[Sem.run_bind];refine⟨if h:cs.toArray.size=1 then cs.toArray[0]else .tuple cs.toArray,vs,?_,?_,hk⟩
 ·rw[hrun]
  rfl
 ·by_cases h1':cs.length=1
  ·rw [dif_pos (by simpa using h1')]
   match cs,h1',h2,h3 with
   | [c],_,h2,h3=>
     match vs,h2,h3 with
     | [u],_,h3=>
       obtain⟨⟨d,hd,hr⟩,_⟩:=h3;simp at hd;subst hd;exact hr
  ·rw[dif_neg (by simpa using h1')]
   have hv':D9 vs= .t vs:=by
    match vs with
    | []=>rfl
    | [u]=>simp at h2;exact absurd h2 h1'
    | u::u'::r=>rfl
   rw[hv'];exact⟨_,rfl,by simpa using h2,A3 h3 (fun i _=>by simp)⟩
theorem Ym {f:FuncId} {fn:Func} {c:Code} {ac:AJ} {AL:List RS} (hf:P.funcs[f]? =some fn) (hok:okF P f=true) (hb:fn.body=some c) (hr:MN P fn.results.toList=some AL)
 {args:List V} (hn:args.length≤fn.ntmps) (hc:res P fn.ntmps pu fz c=some (erase ac)) {σ:AG} {Q:R→AG→Prop} (h:T P ac (SG AL Q) (A0 0 args) σ):BQ P f args σ Q:=by
 refine⟨hok,fun Λ w cs G hv=>?_⟩;refine callsIn_wide (n:=0) |>.1 (Fm hf hb ?_)
 have he:CQ (Hh Λ σ w) (A0 0 args) (cs++Array.replicate (fn.ntmps - cs.size) undef):=by
  intro k v hg;obtain⟨_,h2⟩:=Fh args 0 k v hg;simp only[Nat.sub_zero]at h2;obtain⟨d,h3,h4⟩:=Bb.1 hv.2 k v h2;simp only[Nat.zero_add]at h3;refine⟨d,?_,h4⟩;rw[Array.getElem?_append_left (by have:=(qt.1 h3).1;exact this)];exact h3
 have hsz:(cs++Array.replicate (fn.ntmps - cs.size) undef).size=fn.ntmps:=by
  simp only[Array.size_append,Array.size_replicate];have:=hv.1;omega
 refine Cl (FL (r:=none) (a:={tmps:=cs++Array.replicate (fn.ntmps - cs.size) undef,defers:=[]}) hc h he G hsz C5.none) ?_;rintro e a' w' ⟨ex,env,σ',hq,hx,he',hR',Y,hN,ms,hms,hnd,hD,_⟩;simp only[List.append_nil]at hms
 have fin:Rp σ' env AL (fun vs=>BJ σ' (D9 vs) Q)→LeavesInM (wide none) 0 P fn a'.tmps (fun e w'=> ∃r σ',Q r σ'∧SH (Hh Λ σ' w') r e∧Rel Λ σ' w'∧B5 Λ σ w σ' w') a'.defers .returning w':=fun h1=>by
  rw[hms,←List.append_nil (ms.map Du)];refine C8 (by simp) ms w' hnd hD hR' Y fun w2 q1 q2 q3=>?_
  obtain⟨c,vs,h5,h6,vf,σ'',h2,h3,h4⟩:=Kg (P:=P) hr q1 (he'.mono q3) h1;exact⟨c,h5,.ret vf,σ'',h4,⟨c,rfl,h3.rel q1 h2 h6⟩,q1.drop h2,q2.trans (B5.drop w2 h2)⟩
 cases ex with
 | normal=>simp only[De]at hx;subst hx;exact fin hq
 | ret=>simp only[De]at hx;subst hx;exact fin hq
 | exit id=>exact hq.elim
 | Bi v=>
   obtain⟨c,rfl,hv'⟩:=hx;obtain⟨vf,σ'',h2,h3,h4⟩:=hq;show LeavesInM _ _ _ _ _ _ a'.defers (.panicking _) w';rw[hms,←List.append_nil (ms.map Du)];refine C8 (by simp) ms w' hnd hD hR' Y fun w2 q1 q2 q3=>?_
   exact⟨.Bi vf,σ'',h4,⟨c,rfl,h3.rel q1 h2 (hv'.mono q3)⟩,q1.drop h2,q2.trans (B5.drop w2 h2)⟩
theorem Ez {f:FuncId} {fn:Func} {ac:AJ} {AL:List RS} (hf:P.funcs[f]? =some fn) (hok:okF P f=true) (hb:fn.body.bind (res P fn.ntmps pu fz)=some (erase ac)) (hr:MN P fn.results.toList=some AL)
 {args:List V} (hn:args.length≤fn.ntmps) {σ:AG} {Q:R→AG→Prop} (h:T P ac (SG AL Q) (A0 0 args) σ):BQ P f args σ Q:=by
 cases hc:fn.body with
 | none=>rw[hc]at hb;cases hb
 | some c=>rw[hc]at hb;exact Ym hf hok hc hr hn hb h
end Go.Gl
namespace Go.Gl
variable {P:Program} {Λ:Nat→Prop} {σ:AG}
def EI:List Nat→List V→Env→Env
 | p::ps,v::vs,env=>EI ps vs (put (some p) v env)
 | _,_,env=>env
def Qt (L:Nat) (env:Env) (ok:FuncId→Array Tmp→Code→Code→Nat→Prop) (Q:R→AG→Prop):Ae→Env→AG→Prop
 | .normal,_,σ'=>Q (.ret (.b true)) (BI σ' L (.loop .ready env ok))
 | .ret,_,σ'=>Q (.ret (.b false)) (BI σ' L (.loop .ret env ok))
 | .exit id,_,σ'=>Q (.ret (.b false)) (BI σ' L (.loop (.exit id) env ok))
 | .Bi v,_,σ'=>Q (.Bi v) σ'
def Cm (K:Env→AG→Prop):Ae→Env→AG→Prop
 | .normal,env,σ=>K env σ
 | _,_,_=>False
theorem get_mem: ∀ {env:Env} {k:Nat} {v:V},get k env=some v→(k,v)∈env
 | [],_,_,h=>by cases h
 | (j,u)::r,k,v,h=>by
   simp only[get]at h;cases hb:Nat.beq j k with
   | true=>
     rw[hb]at h;simp only[cond_true,Ha]at h;rw[Nat.eq_of_beq_eq_true hb,h];exact .head _
   | false=>
     rw[hb]at h;exact .tail _ (get_mem h)
theorem CQ.binds {H:Nat→Nat→Option Value} {N:Nat}: ∀(ps:List Nat) (vs:List V) (cs:List Value) (env:Env) (tmps:Array Value),CQ H env tmps→tmps.size=N→(∀p∈ps,p<N)→vs.length=ps.length→cs.length=vs.length→
 BV H (fun i=>cs[i]?) 0 vs→CQ H (EI ps vs env) ((ps.zip cs).foldl (fun t pa=>t.setIfInBounds pa.1 pa.2) tmps)∧((ps.zip cs).foldl (fun t pa=>t.setIfInBounds pa.1 pa.2) tmps).size=N
 | [],[],[],env,tmps,he,hN,_,_,_,_=>⟨he,hN⟩
 | p ::ps,v::vs,c::cs,env,tmps,he,hN,hp,hl,hc,hv=>by
   simp only[List.zip_cons_cons,List.foldl_cons,EI];obtain⟨⟨d,hd,hr⟩,hv'⟩:=hv;simp at hd;subst hd
   refine CQ.binds ps vs cs _ _ (CQ.put (a:={tmps:=tmps,defers:=[]}) he hN (d:=some p) (fun x hx=>by cases hx;exact hp p (.head _)) hr) (by simpa using hN) (fun q hq=>hp q (.tail _ hq)) (by simpa using hl) (by simpa using hc)
    (A3 hv' fun i _=>by rw[show 0+1+i=i+1 by omega];simp)
 | [],_::_,_,_,_,_,_,_,hl,_,_=>by simp at hl
 | _::_,[],_,_,_,_,_,_,hl,_,_=>by simp at hl
 | _::_,_::_,[],_,_,_,_,_,_,hc,_=>by simp at hc
 | [],[],_::_,_,_,_,_,_,_,hc,_=>by simp at hc
theorem OT {L:Nat} {env:Env} {ps:List Nat} {a b:AJ} (hσ:σ L=some (.loop .ready env (By P ps a b))) {args:List V} (hl:args.length=ps.length) {Q:R→AG→Prop}
 (h:T P a (Cm (T P b (fun ex env' σ'=>σ' L=none→Qt L env (By P ps a b) Q ex env' σ'))) (EI ps args env) (del σ L)):MV P L args σ Q:=by
 intro Λ w cs G hv;obtain⟨hnl,ob,hob,lp,rfl,⟨hst,hpe⟩,htm,hfn,hps,hplt,pu,fz,hra,hrb⟩:=G.own L _ hσ;have hsub:=FI σ L;have hAd:B5 Λ σ w (del σ L) w:=B5.drop w hsub;have hcs:cs.size=lp.params.size:=by rw[hv.1,hl,←hps];simp
 refine⟨lp.fn,_,lp.assign,lp.body,run_yield hob hcs,?_⟩
 have hfold:(lp.params.zip cs).foldl (fun tmps (t,a)=>tmps.setIfInBounds t a) lp.tmps=(ps.zip cs.toList).foldl (fun t pa=>t.setIfInBounds pa.1 pa.2) lp.tmps:=by
  rw[←hps,←Array.foldl_toList,Array.toList_zip]
 obtain⟨he0,hN0⟩:=CQ.binds (H:=Hh Λ (del σ L) w) ps args cs.toList env lp.tmps (fun k v hg=>let⟨c,h1,h2⟩:=htm k v (get_mem hg);⟨c,h1,h2.mono hAd.hle⟩) rfl hplt hl (by simpa using hv.1) (A3 (BV.mono hAd.hle (fun _ _ e=>e) _ _ hv.2) fun i _=>by simp);have hrd:C5 (some L) (del σ L) w:=fun l e=>by cases e;exact⟨DI σ L,lp,hob⟩
 refine Ob hfn ?_;rw[hfold];refine Cl (FL (r:=some L) (a:={tmps:=(ps.zip cs.toList).foldl (fun t pa=>t.setIfInBounds pa.1 pa.2) lp.tmps,defers:=[]}) hra h he0 (G.drop hsub) hN0 hrd) ?_;rintro e a1 w1 ⟨ex,env1,σ1,hq,hx,he1,hR1,hA1,hN1,hM1⟩;have hrd1:=hrd.Hb hA1
 have hd1:a1.defers= []:=by
  obtain⟨ms,h1,_,_,h2⟩:=hM1;rw[h1,h2 (by simp)];rfl
 cases ex with
 | exit id=>exact hq.elim
 | ret=>exact hq.elim
 | Bi v=>exact hq.elim
 | normal=>
   simp only[De]at hx;subst hx;obtain⟨hL1,_⟩:=hrd1 L rfl;have hob1:w1.heap[L]? =some (.loop lp):=(hA1.frame L (Db hob) (DI σ L)).trans hob;refine⟨_,run_beginRound hob1 hst,?_⟩;have hlt1:=Db hob1;have hR1':=hR1.put (ob':= .loop {lp with state:= .busy}) hL1 hob1 rfl;have hob1':(w1.putObj L (.loop {lp with state:= .busy})).heap[L]? =some (.loop {lp with state:= .busy}):=World.putObj_heap_same hlt1;have hrd1':C5 (some L) σ1 (w1.putObj L (.loop {lp with state:= .busy})):=fun l e=>by cases e;exact⟨hL1,_,hob1'⟩
   refine Cl (FL (r:=some L) hrb hq (he1.mono (RG hob1 rfl)) hR1' hN1 hrd1') ?_;rintro e2 a2 w2 ⟨ex2,env2,σ2,hq2,hx2,he2,hR2,hA2,hN2,hM2⟩
   have hd2:a2.defers= []:=by
    obtain⟨ms,h1,_,_,h2⟩:=hM2;rw[h1,h2 (by simp),hd1];rfl
   have hL2:σ2 L=none:=((hrd1'.Hb hA2) L rfl).1;have hq2:=hq2 hL2;have hob2:w2.heap[L]? =some (.loop {lp with state:= .busy}):=(hA2.frame L (Db hob1') hL1).trans hob1';have hne: ∀ {n:Nat},σ n=none→n≠L:=fun {n} hn e=>by rw[e,hσ]at hn;cases hn
   have hsz:w.heap.size≤w2.heap.size:=by
    have h1:=hA1.size;have h2:=hA2.size;simp at h2;omega
   have hfr: ∀n,n<w.heap.size→σ n=none→w2.heap[n]? =w.heap[n]? ∧σ2 n=none:=fun n hn h0=>by
    have h1:=hsub.none h0;have h2:=hA1.names n h1 hn;have hs1:=hA1.size;have h3:=hA2.frame n (by simp;omega) h2;exact⟨h3.trans ((World.putObj_heap_other (hne h0)).trans (hA1.frame n hn h1)),hA2.names n h2 (by simp;omega)⟩
   have fin: ∀(st:wO) (lp3:Loop),lp3.tmps=lp.tmps→lp3.fn=lp.fn→lp3.params=lp.params→lp3.assign=lp.assign→lp3.body=lp.body→rB st lp3→
    Rel Λ (BI σ2 L (.loop st env (By P ps a b))) (w2.putObj L (.loop lp3))∧B5 Λ σ w (BI σ2 L (.loop st env (By P ps a b))) (w2.putObj L (.loop lp3)):=fun st lp3 q1 q2 q3 q4 q5 q6=>by
    have hle:V7 (Hh Λ σ2 w2) (Hh Λ (BI σ2 L (.loop st env (By P ps a b))) (w2.putObj L (.loop lp3))):=by
     intro b' o c hb;obtain⟨h1,h2,h3⟩:=FM hb
     have hbL:b'≠L:=fun e=>by
      subst e;rw[XG hob2 rfl]at h3;cases h3
     rw[L2 h1 (by rw[JA (Ne.symm hbL)];exact h2),←h3];exact World.cell?_of_block (w:=w2) (World.putObj_heap_other hbL)
    have Y:B5 Λ σ w (BI σ2 L (.loop st env (By P ps a b))) (w2.putObj L (.loop lp3)):=by
     refine⟨fun n hn h0=>(World.putObj_heap_other (hne h0)).trans (hfr n hn h0).1,by simpa using hsz,?_,?_,?_,fun n h0 hn=>by rw[JA (Ne.symm (hne h0))];exact(hfr n hn h0).2⟩
     ·exact hA2.os.trans hA1.os
     ·exact hA2.tape.trans hA1.tape
     ·exact hA2.output.trans hA1.output
    refine⟨⟨fun n o ho=>?_,fun n hn=>by have:=hR2.lock n hn;simpa using this⟩,Y⟩;by_cases hn:n=L
    ·subst hn
     have:BI σ2 n (.loop st env (By P ps a b)) n=some (.loop st env (By P ps a b)):=by simp[BI]
     rw[this]at ho;cases ho;refine⟨hnl,_,World.putObj_heap_same (Db hob2),lp3,rfl,q6,fun k v hm=>?_,?_⟩
     ·obtain⟨c,h1,h2⟩:=htm k v hm
      exact⟨c,by rw[q1];exact h1,h2.mono Y.hle⟩
     ·rw[q1,q2,q3,q4,q5]
      exact⟨hfn,hps,hplt,pu,fz,hra,hrb⟩
    ·rw[JA (Ne.symm hn)]at ho
     obtain⟨h1,o',h2,h3⟩:=hR2.own n o ho;exact⟨h1,o',(World.putObj_heap_other hn).trans h2,h3.mono hle⟩
   cases ex2 with
   | normal=>
     simp only[De]at hx2;subst hx2;obtain⟨q1,q2⟩:=fin .ready {lp with state:= .ready,pending:=none} rfl rfl rfl rfl rfl ⟨rfl,rfl⟩;exact⟨_,_,run_endRound none hob2,.ret (.b true),_,hq2,⟨_,rfl,rfl⟩,q1,q2⟩
   | ret=>
     simp only[De]at hx2;subst hx2;obtain⟨q1,q2⟩:=fin .ret {lp with state:= .done,pending:=some .ret} rfl rfl rfl rfl rfl ⟨rfl,rfl⟩;exact⟨_,_,run_endRound (some .ret) hob2,.ret (.b false),_,hq2,⟨_,rfl,rfl⟩,q1,q2⟩
   | exit id=>
     simp only[De]at hx2;subst hx2;obtain⟨q1,q2⟩:=fin (.exit id) {lp with state:= .done,pending:=some (.exit id)} rfl rfl rfl rfl rfl ⟨rfl,rfl⟩;exact⟨_,_,run_endRound (some (.exit id)) hob2,.ret (.b false),_,hq2,⟨_,rfl,rfl⟩,q1,q2⟩
   | Bi v=>
     obtain⟨c,rfl,hvr⟩:=hx2;refine⟨hd2,.Bi v,σ2,hq2,⟨c,rfl,hvr⟩,hR2,?_⟩;exact⟨fun n hn h0=>(hfr n hn h0).1,hsz,hA2.os.trans hA1.os,hA2.tape.trans hA1.tape,hA2.output.trans hA1.output,fun n h0 hn=>(hfr n hn h0).2⟩
end Go.Gl
namespace Go.Gl
variable {P:Program} {Λ:Nat→Prop} {σ:AG} {pu:List FuncId} {fz:List Nat} {N n:Nat} {r:Option Nat} {ds:List Deferred}
theorem LS {ops:Array Oper} {K:Env→AG→Prop} {kp:Env→V→AG→Prop} {QQ:Exit→Act→World→Prop} {σ₀:AG} {w₀:World} {L:List Nat}
 (U: ∀env σ a w,K env σ→CQ (Hh Λ σ w) env a.tmps→Rel Λ σ w→B5 Λ σ₀ w₀ σ w→a.tmps.size=N→a.defers=ds→wpOpsIn (wide r) n P ops QQ L a w)
 (hkp: ∀env v σ c a w,kp env v σ→AZ (Hh Λ σ w) v c→CQ (Hh Λ σ w) env a.tmps→Rel Λ σ w→B5 Λ σ₀ w₀ σ w→a.tmps.size=N→a.defers=ds→QQ (.panic [{v:=c,recovered:=false}]) a w) :
 ∀(as:List AS) (j:Nat),(∀(i:Nat) (ao:AS),as[i]? =some ao→ ∃o,ops[j+i]? =some o∧Lv P N ops o=some ao)→
 ∀(env:Env) (σ:AG) (a:Act) (w:World),Il P (as.map (C4 pu fz)) K kp env σ→CQ (Hh Λ σ w) env a.tmps→Rel Λ σ w→B5 Λ σ₀ w₀ σ w→a.tmps.size=N→a.defers=ds→
 wpOpsIn (wide r) n P ops QQ (List.range' j as.length++L) a w
 | [],j,_,env,σ,a,w,h,he,G,Y,hN,hd=>by
   simp only[List.length_nil,List.range'_zero,List.nil_append];exact U env σ a w h he G Y hN hd
 | ao::as,j,hget,env,σ,a,w,h,he,G,Y,hN,hd=>by
   simp only[Mu,List.range'_succ,List.cons_append,wpOpsIn];obtain⟨o,hj,h2⟩:=hget 0 ao rfl;simp only[Nat.add_zero]at hj;simp only[hj]
   refine JX (K:=Il P (as.map (C4 pu fz)) K kp) (kp:=kp env) h2 he G hN (by
    simp only[List.map_cons,Il]at h;have:=Jf h
    rwa [JV]at this) (fun env' σ' c w' hk he' hR' hA'=>?_) (fun v σ' c w' hk hv hR' hA'=>?_)
   ·exact LS U hkp as (j+1) (fun i x hx=>by
     obtain⟨o',h3,h4⟩:=hget (i+1) x (by simpa using hx)
     exact⟨o',by rw[←h3];congr 1;omega,h4⟩) env' σ' _ w' hk he' hR' (Y.trans hA') (by rw[KJ];exact hN) (by rw[put_defers];exact hd)
   ·exact hkp env v σ' c a w' hk hv (he.mono hA'.hle) hR' (Y.trans hA') hN hd
def WJ (o:Oper):Option Bj:=
 match o.op,o.guard,o.dst with
 | .defer c,none,none=>match c.callee,c.args.toList with
   | .value x,[]=>BR x
   | _,_=>none
 | _,_,_=>none
def Jy (P:Program) (N:Nat) (pu:List FuncId) (fz:List Nat):Code→Option (AJ×List AS×Bj×AJ)
 | .seq a (.seq (.region _ ops false) c)=>match res P N pu fz a,ops.toList.getLast?.bind WJ,GA P N ops ops.toList.dropLast,res P N pu fz c with
   | some a',some x,some os,some c'=>some (a',os.map (C4 pu fz),x,c')
   | _,_,_,_=>none
 | _=>none
def Wa (P:Program) (N:Nat) (pu:List FuncId) (fz:List Nat):Code→Option (AJ×List AS×Bj×AJ)
 | .seq a b=>match res P N pu fz a,Jy P N pu fz b with
   | some a',some (b',os,x,c')=>some (.seq [] a' b',os,x,c')
   | _,_=>none
 | _=>none
def JC (P:Program) (N:Nat) (pu:List FuncId) (fz:List Nat) (c:Code):Option (AJ×List AS×Bj×AJ):=
 match Jy P N pu fz c with
 | some r=>some r
 | none=>Wa P N pu fz c
def isRec (o:Oper):Option Nat:=
 match o.op,o.guard,o.dst with
 | .call c,none,some k=>match c.callee,c.args.toList with
   | .builtin .recover,[]=>some k
   | _,_=>none
 | _,_,_=>none
def resRec (P:Program) (N:Nat) (pu:List FuncId) (fz:List Nat):Code→Option (Nat×List AS×AJ)
 | .seq (.region _ ops false) c=>match ops.toList with
   | o::l=>match isRec o,GA P N ops l,res P N pu fz c with
     | some k,some os,some c'=>if k<N then some (k,os.map (C4 pu fz),c')else none
     | _,_,_=>none
   | []=>none
 | _=>none
theorem Ti {c:Code} {k:Nat} {os:List AS} {ac:AJ} (h:resRec P N pu fz c=some (k,os,ac)): ∃id ops c2 o ol os',c= .seq (.region id ops false) c2∧ops.toList=o::ol∧isRec o=some k∧GA P N ops ol=some os'∧os=os'.map (C4 pu fz)∧
 res P N pu fz c2=some ac∧k<N:=by
 unfold resRec at h;split at h
 ·rename_i id ops c2
  split at h
  ·rename_i o ol hops
   split at h
   ·rename_i k os' c' h1 h2 h3
    split at h
    ·rename_i hk
     simp only[Ha,Prod.mk.injEq]at h;obtain⟨rfl,rfl,rfl⟩:=h;exact⟨id,ops,c2,o,ol,os',rfl,hops,h1,h2,rfl,h3,hk⟩
    ·cases h
   ·cases h
  ·cases h
 ·cases h
theorem Kh {c:Code} {a c':AJ} {os:List AS} {x:Bj} (h:Jy P N pu fz c=some (a,os,x,c')): ∃ca id ops cc o os',c= .seq ca (.seq (.region id ops false) cc)∧ops.toList.getLast? =some o∧WJ o=some x∧GA P N ops ops.toList.dropLast=some os'∧os=os'.map (C4 pu fz)∧
 res P N pu fz ca=some a∧res P N pu fz cc=some c':=by
 unfold Jy at h;split at h
 ·rename_i ca id ops cc
  split at h
  ·rename_i a1 x1 os' c1 h1 h2 h3 h4
   simp only[Ha,Prod.mk.injEq]at h;obtain⟨rfl,rfl,rfl,rfl⟩:=h;obtain⟨o,h5,h6⟩:=Option.bind_eq_some_iff.1 h2;exact⟨ca,id,ops,cc,o,os',rfl,h5,h6,h3,rfl,h1,h4⟩
  ·cases h
 ·cases h
def Pre (P:Program) (N:Nat) (pu:List FuncId) (fz:List Nat) (c:Code) (a:AJ) (X:Code):Prop:=
 (∃ca,c= .seq ca X∧res P N pu fz ca=some a)∨ ∃c1 c2 a1 a2,c= .seq c1 (.seq c2 X)∧res P N pu fz c1=some a1∧res P N pu fz c2=some a2∧a= .seq [] a1 a2
theorem Tj {c:Code} {a c':AJ} {os:List AS} {x:Bj} (h:JC P N pu fz c=some (a,os,x,c')): ∃id ops cc o os',Pre P N pu fz c a (.seq (.region id ops false) cc)∧ops.toList.getLast? =some o∧WJ o=some x∧GA P N ops ops.toList.dropLast=some os'∧os=os'.map (C4 pu fz)∧
 res P N pu fz cc=some c':=by
 unfold JC at h;split at h
 ·rename_i r hr
  cases h;obtain⟨ca,id,ops,cc,o,os',rfl,h1,h2,h3,h4,h5,h6⟩:=Kh hr;exact⟨id,ops,cc,o,os',.inl ⟨ca,rfl,h5⟩,h1,h2,h3,h4,h6⟩
 ·cases c<;>simp only[Wa,reduceCtorEq]at h
  rename_i c1 b _;cases h1:res P N pu fz c1 with
  | none=>rw[h1]at h;cases h
  | some a1=>
    cases h2:Jy P N pu fz b with
    | none=>rw[h1,h2]at h;cases h
    | some r=>
      obtain⟨b1,os1,x1,c2⟩:=r;rw[h1,h2]at h;cases h;obtain⟨ca,id,ops,cc,o,os',rfl,k1,k2,k3,k4,k5,k6⟩:=Kh h2;exact⟨id,ops,cc,o,os',.inr ⟨c1,ca,a1,b1,rfl,h1,k5,rfl⟩,k1,k2,k3,k4,k6⟩
theorem X5 {r:Option Nat} {c X:Code} {ac:AJ} (hp:Pre P N pu fz c (erase ac) X) {Q:Ae→Env→AG→Prop} {env:Env} {σ:AG} {a:Act} {w:World} (h:T P ac Q env σ) (he:CQ (Hh Λ σ w) env a.tmps) (G:Rel Λ σ w) (hN:a.tmps.size=N) (hrd:C5 r σ w) {Q0:Exit→Act→World→Prop}
 (H: ∀e a1 w1,Gc r Λ σ w N a.defers Q e a1 w1→Exit.then (MK r P X Q0) Q0 e a1 w1):MK r P c Q0 a w:=by
 rcases hp with⟨ca,rfl,h1⟩|⟨c1,c2,a1,a2,rfl,h1,h2,h3⟩
 ·exact Jx (Cl (FL (r:=r) h1 h he G hN hrd) H)
 ·cases ac<;>simp only[erase,reduceCtorEq,AJ.seq.injEq]at h3
  rename_i l b1 b2;obtain⟨_,e1,e2⟩:=h3;subst e1;subst e2;simp only[T]at h;refine Jx (Cl (FL (r:=r) h1 h he G hN hrd) ?_);rintro e a' w' ⟨ex,env',σ',hq,hx,he',hR',Y,hN',hM'⟩;cases ex with
  | normal=>
    simp only[De]at hx;subst hx;exact Jx (Cl (FL (r:=r) h2 hq (he'.prune l) hR' hN' (hrd.Hb Y)) fun e a w hp=>H e a w (hp.trans Y hM'))
  | ret=>
    simp only[De]at hx;subst hx;exact H _ _ _ ⟨.ret,env',σ',hq,rfl,he',hR',Y,hN',hM'⟩
  | exit id=>
    simp only[De]at hx;subst hx;exact H _ _ _ ⟨.exit id,env',σ',hq,rfl,he',hR',Y,hN',hM'⟩
  | Bi v=>
    obtain⟨c,rfl,hv⟩:=hx;exact H _ _ _ ⟨.Bi v,env',σ',hq,⟨c,rfl,hv⟩,he',hR',Y,hN',hM'⟩
theorem Zx {σ₀:AG} {w₀:World} {cs:List Frame}: ∀(ms:List Nat) (fr:Frame) (w:World),ms.Nodup→(∀D∈ms,w₀.heap.size≤D∧σ D=none∧w.heap[D]? =some (.deferred (some [])))→fr.mode≠ .run→fr.defers=ms.map Du→
 Rel Λ σ w→B5 Λ σ₀ w₀ σ w→ ∃w',StepsIn (Machine.fenced P (wide none)) P (lone fr cs w) (lone {fr with defers:=[]} cs w')∧Rel Λ σ w'∧B5 Λ σ₀ w₀ σ w'
 | [],fr,w,_,_,_,hd,G,Y=>by
   have:({fr with defers:=[]}:Frame)=fr:=by cases fr;simp_all
   exact⟨w,by rw[this];exact .refl _,G,Y⟩
 | D ::ms,fr,w,hnd,hms,hm,hd,G,Y=>by
   obtain⟨h1,h2,h3⟩:=hms D (.head _);have hnd':=List.nodup_cons.1 hnd;have hs:=step_collected (P:=P) (fr:=fr) (cs:=cs) (d:=Du D) (ds:=ms.map Du) (r:=D) hm hd rfl (run_takeDeferred h3)
   obtain⟨w',q1,q2,q3⟩:=Zx (σ₀:=σ₀) (w₀:=w₀) (cs:=cs) ms {fr with defers:=[]++ms.map Du} (w.putObj D (.deferred none)) hnd'.2 (fun E hE=>by
    obtain⟨h4,h5,h6⟩:=hms E (.tail _ hE)
    exact⟨h4,h5,(World.putObj_heap_other (fun e=>hnd'.1 (by rw[←e];exact hE))).trans h6⟩) hm rfl (G.put h2 h3 rfl) (Y.We h1)
   exact⟨w',.head (fenced_lone (.inl trivial) (fun _ _=>trivial) F9) hs q1,q2,q3⟩
def GR (P:Program) (f:FuncId) (args:List V) (m:Option V) (σ:AG) (Q:AG→Prop):Prop:=
 okF P f=true∧ ∀(Λ:Nat→Prop) (w:World) (cs:Array Value) (u:FrameMode),Rel Λ σ w→ZH (Hh Λ σ w) args cs→
  (match m with|none=>u= .returning|some v=> ∃c,AZ (Hh Λ σ w) v c∧u= .panicking [{v:=c,recovered:=false}])→
  CallsDIn (wide none) 0 P f cs u w fun e u' w'=>(∃v,e= .returned v)∧settle u'= .returning∧ ∃σ',Q σ'∧Rel Λ σ' w'∧B5 Λ σ w σ' w'
def MU (Q:AG→Prop):Ae→Env→AG→Prop
 | .normal,_,σ| .ret,_,σ=>Q σ
 | _,_,_=>False
theorem IZ {f:FuncId} {fn:Func} {k:Nat} {os:List AS} {l:List Nat} {ac:AJ} (hf:P.funcs[f]? =some fn) (hok:okF P f=true) (hb:fn.body.bind (resRec P fn.ntmps pu fz)=some (k,os,erase ac)) (hr:fn.results= #[])
 {args:List V} (hn:args.length≤fn.ntmps) {m:Option V} {σ:AG} {Q:AG→Prop} (h:T P (.seq l (.A2 os) ac) (MU Q) (put (some k) (m.getD .DN) (A0 0 args)) σ):GR P f args m σ Q:=by
 refine⟨hok,fun Λ w cs u G hv hu=>?_⟩;obtain⟨c,hc,hb⟩:=Option.bind_eq_some_iff.1 hb;obtain⟨id,ops,c2,o,ol,os',rfl,hops,h1,h2,rfl,h3,hkN⟩:=Ti hb
 have ho0:ops[0]? =some o:=by
  rw[←Array.getElem?_toList,hops];rfl
 have hsz:ops.size=1+ol.length:=by
  rw[←Array.length_toList,hops];simp;omega
 obtain⟨hl1,hl2⟩:=Fg h2
 obtain⟨rv,u',hrv,hu',hst⟩: ∃(rv:Value) (u':FrameMode),AZ (Hh Λ σ w) (m.getD .DN) rv∧(∀(c₀:Frame) (fs:List Frame),c₀.mode=u→(recoverD (c₀::fs)=some (rv,{c₀ with mode:=u'}::fs)∨(recoverD (c₀::fs)=none∧rv= .nilIface∧u'=u)))∧settle u'= .returning:=by
  cases m with
  | none=>
    simp only at hu;subst hu;exact⟨.nilIface,.returning,rfl,fun c₀ fs hm=> .inr ⟨by simp[recoverD,hm],rfl,rfl⟩,rfl⟩
  | some v=>
    obtain⟨d,hd,rfl⟩:=hu;exact⟨d,.panicking [{v:=d,recovered:=true}],hd,fun c₀ fs hm=> .inl (by simp[recoverD,hm]),rfl⟩
 have he:CQ (Hh Λ σ w) (A0 0 args) (cs++Array.replicate (fn.ntmps - cs.size) undef):=by
  intro k v hg;obtain⟨_,h2⟩:=Fh args 0 k v hg;simp only[Nat.sub_zero]at h2;obtain⟨d,h3,h4⟩:=Bb.1 hv.2 k v h2;simp only[Nat.zero_add]at h3;refine⟨d,?_,h4⟩;rw[Array.getElem?_append_left (by have:=(qt.1 h3).1;exact this)];exact h3
 have hsz0:(cs++Array.replicate (fn.ntmps - cs.size) undef).size=fn.ntmps:=by
  simp only[Array.size_append,Array.size_replicate];have:=hv.1;omega
 obtain⟨cc,hop,hg,hd⟩: ∃cc,o.op= .call cc∧o.guard=none∧o.dst=some k∧cc.callee= .builtin .recover∧cc.args= #[]:=by
  unfold isRec at h1;split at h1
  ·rename_i cc k2 e1 e2 e3
   split at h1
   ·rename_i e4 e5
    cases h1;exact⟨cc,e1,e2,e3,e4,Array.toList_eq_nil_iff.1 e5⟩
   ·cases h1
  ·cases h1
 obtain⟨hd,hcal,hargs⟩:=hd
 have he1:CQ (Hh Λ σ w) (put (some k) (m.getD .DN) (A0 0 args)) (({tmps:=cs++Array.replicate (fn.ntmps - cs.size) undef,defers:=[]}:Act).put (some k) rv).tmps:=
  he.put (a:={tmps:=cs++Array.replicate (fn.ntmps - cs.size) undef,defers:=[]}) hsz0 (d:=some k) (fun x hx=>by cases hx;exact hkN) hrv
 simp only[T]at h
 have hW:=LS (P:=P) (Λ:=Λ) (r:=none) (n:=0) (ds:=[]) (σ₀:=σ) (w₀:=w) (L:=[]) (pu:=pu) (fz:=fz) (ops:=ops) (QQ:=Exit.then (MK none P c2 (fun e a' w'=>Gc none Λ σ w fn.ntmps [] (MU Q) e a' w')) (fun e a' w'=>Gc none Λ σ w fn.ntmps [] (MU Q) e a' w'))
  (N:=fn.ntmps)
  (K:=fun env σ=>Ae.andThen (fun env σ=>T P ac (MU Q) (Gl.prune l env) σ) (MU Q) .normal env σ) (kp:=fun env v σ=>Ae.andThen (fun env σ=>T P ac (MU Q) (Gl.prune l env) σ) (MU Q) (.Bi v) env σ)
  (fun env σ1 a1 w1 hk he hR1 hA1 hN1 hd1=>by
   simp only[wpOpsIn,Exit.then];refine Cl (FL (r:=none) h3 hk (he.prune l) hR1 hN1 C5.none) fun e a' w' ht=>?_
   exact Gc.trans hA1 (by rw[hd1];exact Marks.refl _ _ _ _ _) ht)
  (fun env v σ1 c1 a1 w1 hk hv1 he1 hR1 hA1 hN1 hd1=>hk.elim)
  os' 1 (fun i ao hao=>by
   have hlt:i<ol.length:=by
    rw[hl1];exact(List.getElem?_eq_some_iff.1 hao).1
   obtain⟨x,hx,hy⟩:=hl2 i ol[i] (by simp[hlt]);rw[hao]at hx;cases hx;refine⟨ol[i],?_,hy⟩;rw[←Array.getElem?_toList,hops,show 1+i=i+1 by omega]
   simp[hlt])
  _ σ _ w h he1 G (B5.refl _ _ _) (by rw[KJ];exact hsz0) rfl
 simp only[List.append_nil]at hW;refine⟨trivial,fun c₀ fs hu0 hroom=>?_⟩
 let b:Frame:={(default:Frame)with fn:=f,kind:= .deferred,roundOf:=none}
 have henter:Frame.enter P f cs .deferred =
  b.atR {tmps:=cs++Array.replicate (fn.ntmps - cs.size) undef,defers:=[]} [.code (.seq (.region id ops false) c2)]:=by
  simp[Frame.enter,Frame.atR,hf,hc,b]
 let a0:Act:={tmps:=cs++Array.replicate (fn.ntmps - cs.size) undef,defers:=[]}
 have s1:StepsIn (Machine.fenced P (wide none)) P (lone (b.atR a0 [.code (.seq (.region id ops false) c2)]) (c₀::fs) w) (lone (b.atR a0 [.code (.region id ops false),.code c2]) (c₀::fs) w):= .one (FG rfl) stepR_seq;have s2:StepsIn (Machine.fenced P (wide none)) P (lone (b.atR a0 [.code (.region id ops false),.code c2]) (c₀::fs) w) (lone (b.atR a0 [.inRegion ops (List.range ops.size),.code c2]) (c₀::fs) w):= .one (FG rfl) stepR_region
 have hrange:List.range ops.size=0::List.range' 1 os'.length:=by
  rw[List.range_eq_range',hsz,hl1,show 1+os'.length=os'.length+1 by omega,List.range'_succ]
 have hwant:Region.wanted o (yielded ops a0.tmps)=true:=by simp[Region.wanted,hg]
 have hrun:(execOp a0.eval o).run P w= .ok .recover w:=by
  unfold execOp;simp only[hop];simp only[resolve,hcal,hargs,invoke,builtin,Sem.run_bind,Sem.run_pure,Result.andThen_ok]
 have s3:StepsIn (Machine.fenced P (wide none)) P (lone (b.atR a0 [.inRegion ops (0::List.range' 1 os'.length),.code c2]) (c₀::fs) w) (lone (b.atR (a0.put (some k) rv) [.inRegion ops (List.range' 1 os'.length),.code c2]) ({c₀ with mode:=u'}::fs) w):=by
  refine .one (fenced_lone (.inl trivial) (fun _ _=>trivial) F9) (step_lone_go ?_);have hgop:=stepGR_op (P:=P) (b:=b) (a:=a0) (k:=[.code c2]) (cs:=c₀::fs) (w:=w) (rest:=List.range' 1 os'.length) ho0 hwant;rw[show b.roundOf=none from rfl,Oper.semAt_none]at hgop;rw[hgop]
  have hfin: ∀v,(b.atR a0 (.inRegion ops (0::List.range' 1 os'.length):: [.code c2])).finish v=b.atR (a0.put (some k) v) (.inRegion ops (List.range' 1 os'.length):: [.code c2]):=by
   intro v;rw[Frame.finish_atR,ho0];simp only[Option.bind_some,hd]
  have htr:=tryRecover_deferred (fr:=b.atR a0 (.inRegion ops (0::List.range' 1 os'.length):: [.code c2])) rfl (c₀::fs);have hrn:(b.atR a0 (.inRegion ops (0::List.range' 1 os'.length):: [.code c2])).roundOf=none:=rfl;rw[←hfin];rcases hu' c₀ fs hu0 with hrec|⟨hrec,rfl,rfl⟩
  ·rw[hrec]at htr
   simp[stepG.apply,hrun,htr,hrn]
  ·rw[hrec]at htr
   have hcm:({c₀ with mode:=u'}:Frame)=c₀:=by cases c₀;simp_all
   rw[hcm];simp[stepG.apply,hrun,htr,hrn]
 have hres0: ∀(tm:Array Value) (w:World),(results fn tm).run P w= .ok (.tuple #[]) w:=fun tm w=>by
  rw[JS,hr];simp
 have out: ∀(m0:Machine) (a2:Act) (w2:World) (todo:List Item) (σ2:AG),StepsIn (Machine.fenced P (wide none)) P m0 (lone {b.atR a2 todo with mode:= .returning} ({c₀ with mode:=u'}::fs) w2)→Q σ2→Rel Λ σ2 w2→B5 Λ σ w σ2 w2→
  Marks none w σ2 w2 [] a2.defers→ ∃e u'' w' fr,((∃v,e=Ending.returned v)∧settle u''= .returning∧ ∃σ',Q σ'∧Rel Λ σ' w'∧B5 Λ σ w σ' w')∧
   ComesIn (Machine.fenced P (wide none)) P m0 (lone fr ({c₀ with mode:=u''}::fs) w') e∧fr.kind= .deferred∧fr.fn=f∧fr.going P w' e:=fun m0 a2 w2 todo σ2 hs hq hR2 hA2 ⟨ms,hms,hnd,hD,_⟩=>by
  obtain⟨w',q1,q2,q3⟩:=Zx (P:=P) (cs:={c₀ with mode:=u'}::fs) ms {b.atR a2 todo with mode:= .returning} w2 hnd hD (by simp) (by simpa[Frame.atR]using hms) hR2 hA2;exact⟨.returned (.tuple #[]),u',w',_,⟨⟨_,rfl⟩,hst,σ2,hq,q2,q3⟩,hs.trans q1,rfl,rfl,rfl,rfl,fn,hf,hres0 _ _⟩
 have fin: ∀(m0:Machine) (e:Exit) (a2:Act) (w2:World),Gc none Λ σ w fn.ntmps [] (MU Q) e a2 w2→ArrivesIn (Machine.fenced P (wide none)) P m0 b [] ({c₀ with mode:=u'}::fs) e a2 w2→
  ∃ e u'' w' fr,((∃v,e=Ending.returned v)∧settle u''= .returning∧ ∃σ',Q σ'∧Rel Λ σ' w'∧B5 Λ σ w σ' w')∧
    ComesIn (Machine.fenced P (wide none)) P m0 (lone fr ({c₀ with mode:=u''}::fs) w') e∧fr.kind= .deferred∧fr.fn=f∧fr.going P w' e:=fun m0 e a2 w2 ⟨ex,env,σ2,hq,hx,he2,hR2,hA2,hN2,hM2⟩ harr=>by
  cases ex with
  | exit id=>exact hq.elim
  | Bi v=>exact hq.elim
  | normal=>
    simp only[De]at hx;subst hx;exact out m0 a2 w2 [] σ2 (StepsIn.trans harr (.one (FG rfl) (stepR_end rfl))) hq hR2 hA2 hM2
  | ret=>
    simp only[De]at hx;subst hx;obtain⟨todo,hs⟩:=harr.1 rfl;exact out m0 a2 w2 todo σ2 hs hq hR2 hA2 hM2
 obtain⟨e,a1,w1,hq,harr⟩:=wp_opsIn _ _ _ hW b [.code c2] ({c₀ with mode:=u'}::fs) rfl trivial F9;rw[henter];have s123:=(s1.trans s2).trans (hrange ▸ s3);have fin': ∀ {m1:Machine},StepsIn (Machine.fenced P (wide none)) P m1 m1:=fun {m1}=> .refl m1
 cases e with
 | normal=>
   obtain⟨e2,a2,w2,hq2,harr2⟩:=hq b [] ({c₀ with mode:=u'}::fs) rfl ⟨fn,hf⟩;exact fin _ e2 a2 w2 hq2 (.of_steps (s123.trans harr) harr2)
 | ret=>
   obtain⟨ex,env,σ2,hq,hx,he2,hR2,hA2,hN2,hM2⟩:=hq;obtain⟨todo,hs⟩:=harr.1 rfl;refine out _ a1 w1 todo σ2 (s123.trans hs) ?_ hR2 hA2 hM2;cases ex<;>first|exact hq|exact hq.elim
 | exit id=>
   obtain⟨ex,env,σ2,hq,hx,_⟩:=hq;cases ex<;>first|exact hq.elim|(simp[De]at hx)
 | panic ch=>
   obtain⟨ex,env,σ2,hq,hx,_⟩:=hq;cases ex<;>first|exact hq.elim|(simp[De]at hx)
 | goto l=>
   obtain⟨ex,env,σ2,hq,hx,_⟩:=hq;cases ex<;>first|exact hq.elim|(simp[De]at hx)
 | outgrown=>
   obtain⟨ex,env,σ2,hq,hx,_⟩:=hq;cases ex<;>first|exact hq.elim|(simp[De]at hx)
end Go.Gl
namespace Go.Gl
variable {P:Program} {Λ:Nat→Prop} {σ:AG} {pu:List FuncId} {fz:List Nat} {N n:Nat} {r:Option Nat} {ds:List Deferred}
def rW (P:Program) (g:FuncId) (cap:List V) (AL:List RS) (Q:R→AG→Prop):Ae→Env→AG→Prop
 | .normal,env,σ| .ret,env,σ=>GR P g cap none σ fun σ'=>Rp σ' env AL fun vs=>BJ σ' (D9 vs) Q
 | .Bi v,env,σ=>GR P g cap (some v) σ fun σ'=>Rp σ' env AL fun vs=>BJ σ' (D9 vs) Q
 | .exit _,_,_=>False
def QU (P:Program) (x:Bj) (l:List Nat) (ac:AJ) (AL:List RS) (Q:R→AG→Prop) (env:Env) (σ:AG):Prop:=
 wv (ev env x) fun vf=>match vf with
  | .f (.func g) [] cap=>T P ac (rW P g cap AL Q) (prune l env) σ
  | _=>False
theorem HN {f:FuncId} {fn:Func} {aA aC:AJ} {os:List AS} {x:Bj} {l1 l2:List Nat} {AL:List RS} (hf:P.funcs[f]? =some fn) (hok:okF P f=true)
 (hb:fn.body.bind (JC P fn.ntmps pu fz)=some (erase aA,os,x,erase aC)) (hr:MN P fn.results.toList=some AL)
 {args:List V} (hn:args.length≤fn.ntmps) {σ:AG} {Q:R→AG→Prop} (h:T P (.seq l1 aA (.A2 os)) (Cm (QU P x l2 aC AL Q)) (A0 0 args) σ):BQ P f args σ Q:=by
 refine⟨hok,fun Λ w cs G hv=>?_⟩;obtain⟨c,hc,hb⟩:=Option.bind_eq_some_iff.1 hb;obtain⟨id,ops,cc,o,os',hra,hlast,hdf,hos,rfl,hrc⟩:=Tj hb;refine callsIn_wide (n:=0) |>.1 (Fm hf hc ?_)
 have he:CQ (Hh Λ σ w) (A0 0 args) (cs++Array.replicate (fn.ntmps - cs.size) undef):=by
  intro k v hg;obtain⟨_,h2⟩:=Fh args 0 k v hg;simp only[Nat.sub_zero]at h2;obtain⟨d,h3,h4⟩:=Bb.1 hv.2 k v h2;simp only[Nat.zero_add]at h3;refine⟨d,?_,h4⟩;rw[Array.getElem?_append_left (by have:=(qt.1 h3).1;exact this)];exact h3
 have hsz:(cs++Array.replicate (fn.ntmps - cs.size) undef).size=fn.ntmps:=by
  simp only[Array.size_append,Array.size_replicate];have:=hv.1;omega
 obtain⟨cl,xo,hop,hg,hd,hcal,hargs,hxo⟩: ∃cl xo,o.op= .defer cl∧o.guard=none∧o.dst=none∧cl.callee= .value xo∧cl.args= #[]∧BR xo=some x:=by
  unfold WJ at hdf;split at hdf
  ·rename_i cl e1 e2 e3
   split at hdf
   ·rename_i xo e4 e5
    exact⟨cl,xo,e1,e2,e3,e4,Array.toList_eq_nil_iff.1 e5,hdf⟩
   ·cases hdf
  ·cases hdf
 obtain⟨hl1,hl2⟩:=Fg hos;have hne:ops.toList≠[]:=fun e=>by rw[e]at hlast;cases hlast
 have hsplit:ops.toList=ops.toList.dropLast++[o]:=by
  have h1:=List.dropLast_concat_getLast hne;rw[List.getLast?_eq_some_getLast hne]at hlast;simp only[Ha]at hlast;rw[hlast]at h1;exact h1.symm
 have hsize:ops.size=os'.length+1:=by
  rw[←Array.length_toList,hsplit];simp[←hl1]
 have hlasto:ops[os'.length]? =some o:=by
  rw[←Array.getElem?_toList,hsplit,←hl1];simp
 simp only[T]at h;refine X5 (r:=none) (a:={tmps:=cs++Array.replicate (fn.ntmps - cs.size) undef,defers:=[]}) hra h he G hsz C5.none ?_;rintro e a1 w1 ⟨ex,env1,σ1,hq,hx,he1,hR1,hA1,hN1,hM1⟩;cases ex with
 | exit id=>exact hq.elim
 | ret=>exact hq.elim
 | Bi v=>exact hq.elim
 | normal=>
   simp only[De]at hx;subst hx;refine Jx (G9 (n:=0) (wpIn_region ?_));rw[List.range_eq_range',hsize,←List.range'_append_1];simp only[List.range'_one,Nat.zero_add]
   refine LS (P:=P) (Λ:=Λ) (r:=none) (n:=0) (ds:=a1.defers) (σ₀:=σ1) (w₀:=w1) (pu:=pu) (fz:=fz) (N:=fn.ntmps) (K:=fun env σ=>Cm (QU P x l2 aC AL Q) .normal env σ)
    (kp :=fun env v σ=>Cm (QU P x l2 aC AL Q) (.Bi v) env σ) (fun env2 σ2 a2 w2 hk he2 hR2 hA2 hN2 hd2=>?_) (fun _ _ _ _ _ _ h=>h.elim) os' 0 (fun i ao hao=>by
     have hlt:i<ops.toList.dropLast.length:=by
      rw[hl1];exact(List.getElem?_eq_some_iff.1 hao).1
     obtain⟨y,hx,hy⟩:=hl2 i _ (Fs hlt);rw[hao]at hx;cases hx;refine⟨_,?_,hy⟩;rw[←Array.getElem?_toList,Nat.zero_add];have e1:ops.toList[i]? =(ops.toList.dropLast++[o])[i]? :=congrArg (fun l=>l[i]?) hsplit
     rw[e1,qv hlt,Fs hlt]) _ σ1 a1 w1 hq (he1.prune l1) hR1 (B5.refl _ _ _) hN1 rfl
   obtain⟨vf,hvf,hk⟩:=SI hk
   obtain⟨g,cap,rfl,hk⟩: ∃g cap,vf= .f (.func g) [] cap∧T P aC (rW P g cap AL Q) (prune l2 env2) σ2:=by
    split at hk
    ·exact⟨_,_,rfl,hk⟩
    ·exact hk.elim
   obtain⟨f',c',e1,e2,e3,e4,e5⟩:=Al he2 hxo hvf;have e2':f'= #[]:=Array.size_eq_zero_iff.1 e2;subst e2';have hwant:Region.wanted o (yielded ops a2.tmps)=true:=by simp[Region.wanted,hg]
   simp only[wpOpsIn,hlasto];rw[if_pos hwant];refine⟨fun _ _=>trivial,?_⟩
   have hrun:(o.semAt (wide none).round a2.eval).run P w2= .ok (.defer {target:= .fn (.func g) c',args:= #[]}) w2:=by
    show(execOp a2.eval o).run P w2=_;unfold execOp;simp only[hop,resolve,hcal,hargs,e1,Deferred.ofValue,Sem.run_bind,Sem.run_pure,Result.andThen_ok];simp
   rw[hrun];simp only[Oper.uponIn,hd,Act.put,Exit.then];obtain⟨m1,hm1,hnd1,hD1,_⟩:=hM1;simp only[List.append_nil]at hm1;refine Cl (FL (r:=none) hrc hk (he2.prune l2) hR2 hN2 C5.none) ?_;rintro e a3 w3 ⟨ex,env3,σ3,hq3,hx3,he3,hR3,hA3,hN3,m3,hm3,hnd3,hD3,_⟩;simp only[hd2,hm1]at hm3
   have last: ∀(w5:World) (σ5:AG),B5 Λ σ2 w2 σ5 w5→V7 (Hh Λ σ3 w3) (Hh Λ σ5 w5)→Rel Λ σ5 w5→(Rp σ5 env3 AL fun vs=>BJ σ5 (D9 vs) Q)→
    LeavesInM (wide none) 0 P fn a3.tmps (fun e w'=> ∃r σ',Q r σ'∧SH (Hh Λ σ' w') r e∧Rel Λ σ' w'∧B5 Λ σ w σ' w') (m1.map Du) .returning w5:=fun w5 σ5 hA5 hle hR5 hw=>by
    rw[←List.append_nil (m1.map Du)];have hA25:=hA2.trans hA5;refine C8 (σ₀:=σ) (w₀:=w) (by simp) m1 w5 hnd1 (fun D hD=>?_) hR5 (hA1.trans hA25) fun w6 q1 q2 q3=>?_
    ·obtain⟨h4,h5,h6⟩:=hD1 D hD
     exact⟨h4,hA25.names D h5 (Db h6),(hA25.frame D (Db h6) h5).trans h6⟩
    ·obtain⟨c,vs,h5,h6,vf,σ'',h2,h3,h4⟩:=Kg (P:=P) hr q1 ((he3.mono hle).mono q3) hw
     exact⟨c,h5,.ret vf,σ'',h4,⟨c,rfl,h3.rel q1 h2 h6⟩,q1.drop h2,q2.trans (B5.drop w6 h2)⟩
   have main: ∀(m:Option V) (u:FrameMode),u≠ .run→(GR P g cap m σ3 fun σ'=>Rp σ' env3 AL fun vs=>BJ σ' (D9 vs) Q)→
    (∀w4,V7 (Hh Λ σ3 w3) (Hh Λ σ3 w4)→(match m with|none=>u= .returning|some v=> ∃c,AZ (Hh Λ σ3 w4) v c∧u= .panicking [{v:=c,recovered:=false}]))→
    LeavesInM (wide none) 0 P fn a3.tmps (fun e w'=> ∃r σ',Q r σ'∧SH (Hh Λ σ' w') r e∧Rel Λ σ' w'∧B5 Λ σ w σ' w') a3.defers u w3:=fun m u hu hD hm=>by
    rw[hm3];refine C8 (σ₀:=σ2) (w₀:=w2) hu m3 w3 hnd3 hD3 hR3 hA3 fun w4 q1 q2 q3=>?_
    refine⟨hu,.inr ⟨fun hd=>by simp[wide,Fence.wide]at hd,.func g,c',g,c',rfl,?_,fun _ _=>trivial,?_⟩⟩
    ·simp only[invoke,Array.empty_append]
     exact HQ hD.1 _ _
    ·obtain⟨k1,k2⟩:=hD.2 Λ w4 c' u q1 ⟨e4,BV.mono q3 (fun _ _ e=>e) _ _ (BV.mono hA3.hle (fun _ _ e=>e) _ _ e5)⟩ (hm w4 q3)
     refine⟨k1,fun c cs hcu hroom=>?_⟩;obtain⟨e,u',w5,fr,⟨⟨v,rfl⟩,hst,σ5,hw,hR5,hA5⟩,hrest⟩:=k2 c cs hcu hroom;refine⟨.returned v,u',w5,fr,?_,hrest⟩;simp only;rw[hst];exact last w5 σ5 (q2.trans hA5) (fun b o c hc=>hA5.hle b o c (q3 b o c hc)) hR5 hw
   cases ex with
   | exit id=>exact hq3.elim
   | normal=>
     simp only[De]at hx3;subst hx3;exact main none .returning (by simp) hq3 fun _ _=>rfl
   | ret=>
     simp only[De]at hx3;subst hx3;exact main none .returning (by simp) hq3 fun _ _=>rfl
   | Bi v=>
     obtain⟨c,rfl,hv3⟩:=hx3;exact main (some v) (.panicking [{v:=c,recovered:=false}]) (by simp) hq3 fun w4 hle=>⟨c,hv3.mono hle,rfl⟩
end Go.Gl
