import Derived.RangeFuncLeaves
import Derived.Laws.BitsLemmas
import Derived.Test.YtnidfcmdimehdaaGreatV9
set_option linter.all false
set_option linter.defProp false
set_option maxHeartbeats 8000000
noncomputable section
namespace Go.Gl
variable {P:Program} {F:Nat->Prop} {pu:List FuncId} {fz:List Nat} {ds:List Deferred}
def Gc:List ResultVar->Option (List Nat)
 | []=>some []
 | .tmp t::r=>(Gc r).map (t:: ·)
 | .cell _ _::_=>none
def fg (env:Env):List Nat->Option (List V)
 | []=>some []
 | s::r=>match get s env,fg env r with
   | some v,some vs=>some (v::vs)
   | _,_=>none
def mP (AF:List Nat) (env:Env):Option V:=
 match fg env AF with
 | some [v]=>some v
 | some vs=>some (.t vs)
 | none=>none
def An (Z:AE) (v:V) (Q:R->AE->Prop):Prop:= ∃vf Z',Sub Z' Z/\FH Z Z' v vf/\Q (.ret vf) Z'
def Af (Z:AE) (v:V) (Q:R->AE->Prop):Prop:= ∃vf Z',Sub Z' Z/\FH Z Z' v vf/\Q (.Bf vf) Z'
def fp (AF:List Nat) (Q:R->AE->Prop):Aa->Env->AE->Prop
 | .normal,env,Z| .ret,env,Z=>wv (mP AF env) fun v=>An Z v Q
 | .Bf v,_,Z=>Af Z v Q
 | .exit _,_,_=>False
def A5:Nat->List V->Env
 | _,[]=>[]
 | i,v::vs=>(i,v)::A5 (i+1) vs
def Vd {o:Option V} {k:V->Prop} (h:wv o k): ∃v,o=some v/\k v:=by
 cases o with
 | none=>exact h.elim
 | some v=>exact⟨v,rfl,h⟩
def Gh: ∀(vs:List V) (i k:Nat) (v:V),get k (A5 i vs)=some v->i<=k/\vs[k - i]? =some v
 | [],_,_,_,h=>by cases h
 | u ::vs,i,k,v,h=>by
   simp only[A5,get]at h;cases hb:Nat.beq i k with
   | true=>
     rw[hb]at h;simp only[cond_true]at h;cases h;have:i=k:=U7 hb;subst this;exact⟨IS _,by simp⟩
   | false=>
     rw[hb]at h;simp only[cond_false]at h;have hne:i≠k:=Nat.ne_of_beq_eq_false hb;obtain⟨h1,h2⟩:=Gh vs (i+1) k v h;refine⟨by omega,?_⟩;rw[show k - i=k - (i+1)+1 by omega];simpa using h2
def qE (tmps:Array Value):ResultVar->Sem Value
 | .tmp t=>pure (tmps.getD t undef)
 | .cell a t=>do loadVar t (<-asAddr (tmps.getD a undef))
def La (fn:Func) (tmps:Array Value):results fn tmps=(do
    let vs<-fn.results.mapM (qE tmps)
    pure (if h:vs.size=1 then vs[0]else .tuple vs)):=by
 unfold results;congr 1
def XN {fn:Func} {AF:List Nat} (hr:Gc fn.results.toList=some AF) {H:Nat->Nat->Option Value} {env:Env} {tmps:Array Value} (he:CO H env tmps) {v:V} (hv:mP AF env=some v) (w:World) :
    ∃c,(results fn tmps).run P w= .ok c w/\AY H v c:=by
 have key: ∀(l:List ResultVar) (AF:List Nat),Gc l=some AF-> ∀vs,fg env AF=some vs->
  ∃cs:List Value,(l.mapM (qE tmps)).run P w= .ok cs w/\cs.length=vs.length/\BV H (fun i=>cs[i]?) 0 vs:=by
  intro l
  induction l with
  | nil=>
    intro AF hs vs hv;cases hs;cases hv;exact⟨[],by simp,rfl,trivial⟩
  | cons x l ih=>
    intro AF hs vs hv;cases x with
    | cell a t=>cases hs
    | tmp t=>
      simp only[Gc]at hs;obtain⟨s',h1,rfl⟩:=Ai hs;simp only[fg]at hv;split at hv
      .rename_i u us h2 h3
       cases hv;obtain⟨cs,h4,h5,h6⟩:=ih s' h1 us h3;obtain⟨c,h7,h8⟩:=he t u h2;refine⟨c::cs,?_,by simp[h5],⟨c,rfl,h8⟩,BA h6 (fun i _=>by rw[show 0+1+i=i+1 by omega];simp)⟩;rw[List.mapM_cons];simp only[qE,DQ,Ew,Gr,h4,Array.getD_eq_getD_getElem?,h7,Option.getD_some]
      .cases hv
 unfold mP at hv;cases hg:fg env AF with
 | none=>rw[hg]at hv;cases hv
 | some vs =>
   obtain⟨cs,h1,h2,h3⟩:=key _ _ hr vs hg
   have hrun:(fn.results.mapM (qE tmps)).run P w= .ok cs.toArray w:=by
    rw[Array.mapM_eq_mapM_toList];simp[h1]
   rw[La];simp only[DQ];refine⟨if h:cs.toArray.size=1 then cs.toArray[0]else .tuple cs.toArray,?_,?_⟩
   .rw[hrun]
    rfl
   .rw [hg]at hv
    by_cases h1':cs.length=1
    .rw [dif_pos (by simpa using h1')]
     match cs,h1',h2,h3 with
     | [c],_,h2,h3=>
       match vs,h2,h3,hv with
       | [u],_,h3,hv=>
         cases hv;obtain⟨⟨d,hd,hr⟩,_⟩:=h3;simp at hd;subst hd;exact hr
    .rw[dif_neg (by simpa using h1')]
     have hv':v= .t vs:=by
      match vs,hv with
      | [],hv=>cases hv;rfl
      | [u],hv=>simp at h2;exact absurd h2 h1'
      | u::u'::r,hv=>cases hv;rfl
     subst hv';exact⟨_,rfl,by simpa using h2,BA h3 (fun i _=>by simp)⟩
def B7.Z7 {Z₀ Z:AE} {w₀ w:World} {D:Nat} {ob:Obj} (h:B7 F Z₀ w₀ Z w) (hD:w₀.heap.size<=D):B7 F Z₀ w₀ Z (w.putObj D ob) where
 frame n hn h0:=(World.putObj_heap_other (by omega)).trans (h.frame n hn h0)
 size:=by simpa using h.size
 os:=h.os
 tape:=h.tape
 output:=h.output
 names:=h.names
def DP {AD:Fence} {n:Nat} {fn:Func} {tmps:Array Value} {R:Ending->World->Prop} {u:FrameMode} (hu:u≠ .run) {Z₀ Z:AE} {w₀:World}: ∀(ms:List Nat) (w:World),ms.Nodup->
    (∀D∈ms,w₀.heap.size<=D/\Z D=none/\w.heap[D]? =some (.deferred (some [])))->Rel F Z w->B7 F Z₀ w₀ Z w->(∀w',Rel F Z w'->B7 F Z₀ w₀ Z w'->ZW (Hh F Z w) (Hh F Z w')->LeavesInM AD n P fn tmps R ds u w')->
    LeavesInM AD n P fn tmps R (ms.map Ec++ds) u w
 | [],w,_,_,hR,hA,h=>h w hR hA fun _ _ _ h=>h
 | D::ms,w,hnd,hms,hR,hA,h=>by
   obtain⟨h1,h2,h3⟩:=hms D (.head _);have hnd':=List.nodup_cons.1 hnd;refine⟨hu,.inl ⟨D,_,rfl,run_takeDeferred h3,?_⟩⟩;have hle:=Uf (F:=F) (Z:=Z) (ob':= .deferred none) h3 rfl;refine DP hu ms _ hnd'.2 (fun E hE=>?_) (hR.put h2 h3 rfl) (hA.Z7 h1) fun w' q1 q2 q3=>h w' q1 q2 fun b o c hc=>q3 b o c (hle b o c hc)
   obtain⟨h4,h5,h6⟩:=hms E (.tail _ hE);exact⟨h4,h5,(World.putObj_heap_other (fun e=>hnd'.1 (by rw[<-e];exact hE))).trans h6⟩
def Gp {n:Nat} {f:FuncId} {fn:Func} {c:Code} {args:Array Value} {w:World} {R:Ending->World->Prop}
    (hf:P.funcs[f]? =some fn) (hb:fn.body=some c)
    (h:O0 none P c (bodyPostM (wide none) n P fn R) {tmps:=args++Array.replicate (fn.ntmps - args.size) undef,defers:=[]} w):CallsIn (wide none) n P f args w R:=by
 refine⟨trivial,fun cs hr=>?_⟩
 let b:Frame:={(default:Frame)with fn:=f,kind:= .normal,roundOf:=none}
 have henter:Frame.enter P f args .normal =
  b.atR {tmps:=args++Array.replicate (fn.ntmps - args.size) undef,defers:=[]} [.code c]:=by
  simp[Frame.enter,Frame.atR,hf,hb,b]
 obtain⟨e,a',w',hq,harr⟩:=h b [] cs rfl ⟨fn,hf⟩;rw[<-henter]at harr;cases e with
 | normal=>
   obtain⟨e',w'',fr',hR,hs,hfn,hl⟩:=leaves_stepsInM a'.defers .returning w' {b.atR a' []with mode:= .returning} cs rfl rfl rfl hf rfl trivial hr hq;exact⟨e',w'',fr',hR,ComesIn.of_steps (StepsIn.trans harr (.one (fenced_calm (fr:=b.atR a' []) trivial hr rfl) (stepR_end rfl))) hs,hfn,hl⟩
 | ret=>
   obtain⟨todo,hs₀⟩:=harr.1 rfl;obtain⟨e',w'',fr',hR,hs,hfn,hl⟩:=leaves_stepsInM a'.defers .returning w' {b.atR a' todo with mode:= .returning} cs rfl rfl rfl hf rfl trivial hr hq;exact⟨e',w'',fr',hR,ComesIn.of_steps hs₀ hs,hfn,hl⟩
 | panic chain=>
   obtain⟨todo,hs₀⟩:=harr;obtain⟨e',w'',fr',hR,hs,hfn,hl⟩:=leaves_stepsInM a'.defers (.panicking chain) w' {b.atR a' todo with mode:= .panicking chain} cs rfl rfl rfl hf rfl trivial hr hq;exact⟨e',w'',fr',hR,ComesIn.of_steps hs₀ hs,hfn,hl⟩
 | exit id=>exact hq.elim
 | goto l=>exact hq.elim
 | outgrown=>exact⟨.outgrown,w',b,hq,harr.resolve_left (by simp[b]),rfl,trivial⟩
def lL {f:FuncId} {fn:Func} {c:Code} {ac:AT} {AF:List Nat} (hf:P.funcs[f]? =some fn) (hok:okF P f=true) (hb:fn.body=some c) (hr:Gc fn.results.toList=some AF)
    {args:List V} (hn:args.length<=fn.ntmps) (hc:res P fn.ntmps pu fz c=some (erase ac)) {Z:AE} {Q:R->AE->Prop} (h:T P ac (fp AF Q) (A5 0 args) Z):Av P f args Z Q:=by
 refine⟨hok,fun F w cs hR hv=>?_⟩;refine callsIn_wide (n:=0) |>.1 (Gp hf hb ?_)
 have he:CO (Hh F Z w) (A5 0 args) (cs++Array.replicate (fn.ntmps - cs.size) undef):=by
  intro k v hg;obtain⟨_,h2⟩:=Gh args 0 k v hg;simp only[Nat.sub_zero]at h2;obtain⟨d,h3,h4⟩:=BY.1 hv.2 k v h2;simp only[Gq]at h3;refine⟨d,?_,h4⟩;rw[Array.getElem?_append_left (by have:=(rL.1 h3).1;exact this)];exact h3
 have hsz:(cs++Array.replicate (fn.ntmps - cs.size) undef).size=fn.ntmps:=by
  simp only[Array.size_append,Array.size_replicate];have:=hv.1;omega
 refine CT (E7 (r:=none) (a:={tmps:=cs++Array.replicate (fn.ntmps - cs.size) undef,defers:=[]}) hc h he hR hsz DC.none) ?_;rintro e a' w' ⟨ex,env,Z',hq,hx,he',hR',hA,hN,ms,hms,hnd,hD,_⟩;simp only[FE]at hms
 have fin: ∀v vf Z'',mP AF env=some v->Sub Z'' Z'->FH Z' Z'' v vf->Q (.ret vf) Z''->LeavesInM (wide none) 0 P fn a'.tmps (fun e w'=> ∃r Z',Q r Z'/\Va (Hh F Z' w') r e/\Rel F Z' w'/\B7 F Z w Z' w') a'.defers .returning w':=fun v vf Z'' h1 h2 h3 h4=>by
  rw[hms,<-FE (ms.map Ec)];refine DP (by simp) ms w' hnd hD hR' hA fun w2 q1 q2 q3=>?_
  obtain⟨c,h5,h6⟩:=XN (P:=P) hr (he'.mono q3) h1 w2;exact⟨c,h5,.ret vf,Z'',h4,⟨c,rfl,h3.rel q1 h2 h6⟩,q1.drop h2,q2.trans (B7.drop w2 h2)⟩
 cases ex with
 | normal=>
   simp only[EC]at hx;subst hx;obtain⟨v,h1,vf,Z'',h2,h3,h4⟩:=Vd hq;exact fin v vf Z'' h1 h2 h3 h4
 | ret=>
   simp only[EC]at hx;subst hx;obtain⟨v,h1,vf,Z'',h2,h3,h4⟩:=Vd hq;exact fin v vf Z'' h1 h2 h3 h4
 | exit id=>exact hq.elim
 | Bf v=>
   obtain⟨c,rfl,hv'⟩:=hx;obtain⟨vf,Z'',h2,h3,h4⟩:=hq;show LeavesInM _ _ _ _ _ _ a'.defers (.panicking _) w';rw[hms,<-FE (ms.map Ec)];refine DP (by simp) ms w' hnd hD hR' hA fun w2 q1 q2 q3=>?_
   exact⟨.Bf vf,Z'',h4,⟨c,rfl,h3.rel q1 h2 (hv'.mono q3)⟩,q1.drop h2,q2.trans (B7.drop w2 h2)⟩
def Lk {f:FuncId} {fn:Func} {ac:AT} {AF:List Nat} (hf:P.funcs[f]? =some fn) (hok:okF P f=true) (hb:fn.body.bind (res P fn.ntmps pu fz)=some (erase ac)) (hr:Gc fn.results.toList=some AF)
    {args:List V} (hn:args.length<=fn.ntmps) {Z:AE} {Q:R->AE->Prop} (h:T P ac (fp AF Q) (A5 0 args) Z):Av P f args Z Q:=by
 cases hc:fn.body with
 | none=>rw[hc]at hb;cases hb
 | some c=>rw[hc]at hb;exact lL hf hok hc hr hn hb h
def scalar:V->Bool
 | .b _=>true
 | .i _ _=>true
 | .t vs=>vs.all fun| .b _=>true| .i _ _=>true|_=>false
 | _=>false
def Yj {H H':Nat->Nat->Option Value} {v:V} {c:Value} (hs:scalar v=true) (h:AY H v c):AY H' v c:=by
 cases v<;>try(simp[scalar]at hs;done)
 .exact h
 .exact h
 .rename_i vs
  obtain⟨c',rfl,h1,h2⟩:=h;refine⟨c',rfl,h1,?_⟩;rw[BY]at *;intro i v hv;obtain⟨d,hd,hr⟩:=h2 i v hv;refine⟨d,hd,?_⟩;simp only[scalar,Dj]at hs;have:=hs v (Cm hv);cases v<;>first|(simp at this;done)|exact hr
def Pure.Rv {f:FuncId} {args args':List V} {v:V} (h:Pure P f args' v) {Z:AE} (hf:DD Z emp args args') (hs:scalar v=true) {k kp:V->AE->Prop} (hk:k v Z):Av P f args Z (qk k kp):=by
 refine⟨h.1,fun F w cs hR hv=>?_⟩;have hsub:Sub emp Z:=fun n o ho=>by cases ho
 refine Calls.mono (h.2 F w cs (hR.drop hsub) ⟨by rw[hf.length];exact hv.1,hf.rel hR hsub (fun _ _ e=>e) hv.2⟩) fun e w' ⟨r,Z',⟨hr,hs'⟩,h1,h2,h3⟩=>?_
 subst hr;subst hs';obtain⟨c,rfl,hv'⟩:=h1;exact⟨.ret v,Z,hk,⟨c,rfl,Yj hs hv'⟩,Sf hR h3,Ur h3⟩
end Go.Gl
namespace Go.Gl
variable {P:Program} {Z:AE} {env env':Env}
def Be {v vf:V} (h:FH Z emp v vf):An Z v (fun r Z'=>r= .ret vf/\Z'=emp):=⟨vf,emp,fun n o ho=>(by cases ho),h,rfl,rfl⟩
def AJ {v vf:V} (h:v=vf):An Z v (fun r Z'=>r= .ret vf/\Z'=emp):=Be (h ▸ .refl v)
def OP {K K':Env->AE->Prop} {kp kp':Env->V->AE->Prop} (hm: ∀env Z,K env Z->K' env Z) (hp: ∀env v Z,kp env v Z->kp' env v Z): ∀ {os:List Ao} {env:Env} {Z:AE},JW P os K kp env Z->JW P os K' kp' env Z
 | [],_,_,h=>hm _ _ h
 | _::_,_,_,h=>CI h (fun _ _ h=>OP hm hp h) (hp _)
def Lr {K K':Env->AE->Prop} {kp kp':V->AE->Prop} (hm: ∀env Z,K env Z->K' env Z) (hp: ∀v Z,kp v Z->kp' v Z): ∀ {os:List Ck} {env:Env} {Z:AE},DW P os K kp env Z->DW P os K' kp' env Z
 | [],_,_,h=>hm _ _ h
 | _::_,_,_,h=>CI h (fun _ _ h=>⟨h.1,Lr hm hp h.2⟩) hp
end Go.Gl
namespace Go.Gl
variable {P:Program} {Z:AE} {env env':Env}
def LR {A B:Prop} (h:A):(true=true->A)/\(true=false->B):=⟨fun _=>h,fun e=>by cases e⟩
def LS {A B:Prop} (h:B):(false=true->A)/\(false=false->B):=⟨fun e=>(by cases e),fun _=>h⟩
def KF {A B:Prop} (h:A):(false=false->A)/\(false=true->B):=⟨fun _=>h,fun e=>by cases e⟩
def KE {A B:Prop} (h:B):(true=false->A)/\(true=true->B):=⟨fun e=>(by cases e),fun _=>h⟩
def fork {p:Prop} [Decidable p] {A B:Prop} (h1:p->A) (h2: ¬p->B):(decide p=true->A)/\(decide p=false->B):=⟨fun h=>h1 (of_decide_eq_true h),fun h=>h2 (of_decide_eq_false h)⟩
def an {a b:Int} {A B:Prop} (h1:a=b->A) (h2:a≠b->B):((a==b)=true->A)/\((a==b)=false->B):=⟨fun h=>h1 (by simpa using h),fun h=>h2 (by simpa using h)⟩
def o6 {a b:Int} {A B:Prop} (h1:a≠b->A) (h2:a=b->B):((a != b)=true->A)/\((a != b)=false->B):=⟨fun h=>h1 (by simpa using h),fun h=>h2 (by simpa using h)⟩
def wrap64 {n:Int} (h1: -9223372036854775808<=n) (h2:n<=9223372036854775807):IntKind.i64.wrap n=n:=by rw[IntKind.wrap_i64];omega
def gy {α:Type} {enc:α->List V} {xs:List α} {k:Nat} (h:(k:Int)<((xs.map enc).length:Nat)):k<xs.length:=by
 rw[CW]at h;omega
def a8 {α:Type} {enc:α->List V} {xs:List α} {k:Nat} (hk:k<=xs.length) (h: ¬(k:Int)<((xs.map enc).length:Nat)):k=xs.length:=by
 rw[CW]at h;omega
def WL {α:Type} {enc:α->List V} {xs:List α} {f:Bool} {sz:Nat} {ki:IntKind} {j:Int} {K:V->AE->Prop} (l:Nat) (hj:j=l) (hl:l<=xs.length) (hs: ∀x,(enc x).length=sz) (h:K (.l ((xs.drop l).map enc) f) Z) :
    AP Z sz (.l (xs.map enc) f) (some (.i ki j)) none none K:=by
 subst hj;refine⟨fun e he=>?_,?_⟩
 .obtain⟨x,_,rfl⟩:=Hc.1 he
  exact hs x
 .simp only[O2,CW]
  refine⟨by omega,by omega,by omega,?_⟩;rw[HX,HX,List.take_of_length_le (by simp)];simpa using h
def exitTo (B:Nat) (J:Env->AE->Prop) (Q:Aa->Env->AE->Prop):Aa->Env->AE->Prop
 | .exit id,env,Z=>bif Nat.beq id B then J env Z else Q (.exit id) env Z
 | .normal,env,Z=>Q .normal env Z
 | .ret,env,Z=>Q .ret env Z
 | .Bf v,env,Z=>Q (.Bf v) env Z
end Go.Gl
namespace Go.Gl
variable {P:Program} {F:Nat->Prop} {pu:List FuncId} {fz:List Nat}
inductive RS where
 | t (n:Nat)
 | c (n:Nat) (agg:Option Nat)
def NT (P:Program):List ResultVar->Option (List RS)
 | []=>some []
 | .tmp t::r=>(NT P r).map (.t t:: ·)
 | .cell a t::r=>match JD P t,NT P r with|some g,some l=>some (.c a g::l)|_,_=>none
def U8 (Z:AE) (env:Env):List RS->(List V->Prop)->Prop
 | [],k=>k []
 | .t n::r,k=>wv (get n env) fun v=>U8 Z env r fun vs=>k (v::vs)
 | .c n g::r,k=>wv (get n env) fun a=>AV Z g a fun v=>U8 Z env r fun vs=>k (v::vs)
def Et:List V->V
 | [v]=>v
 | vs=> .t vs
def VZ (AF:List RS) (Q:R->AE->Prop):Aa->Env->AE->Prop
 | .normal,env,Z| .ret,env,Z=>U8 Z env AF fun vs=>An Z (Et vs) Q
 | .Bf v,_,Z=>Af Z v Q
 | .exit _,_,_=>False
def dE {t:TypeId} {agg:Option Nat} (hA:JD P t=some agg) {Z:AE} {w:World} (hR:Rel F Z w) {vx:V} {c:Value} (hx:AY (Hh F Z w) vx c) {K:V->Prop} (h:AV Z agg vx K) :
    ∃v d,(do loadVar t (<-asAddr c):Sem Value).run P w= .ok d w/\AY (Hh F Z w) v d/\K v:=by
 unfold AV at h;split at h
 .rename_i cs
  obtain⟨b,o,rfl,hv⟩:=hx;obtain⟨v,c,h1,h2,h3⟩:=FT (P:=P) (w:=w) (b:=b) (off:=0) hA (fun i c hc=>(GG hc).2.2) hv h;refine⟨v,c,?_,h2,h3⟩;simp only[DQ,asAddr,Ew,Result.andThen,Nat.add_zero]at h1 ⊢;exact h1
 .rename_i n off
  simp only[AY]at hx;subst hx;unfold Py at h;split at h
  .rename_i vs hs
   obtain⟨c,e,h1,h2,h3⟩:=Kf hR hs;obtain⟨v,c',h4,h5,h6⟩:=FT (P:=P) (w:=w) (b:=n) (off:=off) hA (fun i c hc=>by rw[DZ h1];exact hc) h3 h;refine⟨v,c',?_,h5,h6⟩;simp only[DQ,asAddr,Ew,Result.andThen,Gq]at h4 ⊢;exact h4
  .exact h.elim
 .rename_i n sz i off
  simp only[AY]at hx;subst hx;unfold Pz at h;split at h
  .rename_i sz' es cap hs
   obtain⟨rfl,h⟩:=h;split at h
   .rename_i e he
    obtain⟨c,e',h1,_,_,_,h3⟩:=E5 hR hs;obtain⟨h7,h8⟩:=BC.1 h3 i e he;obtain⟨v,c',h4,h5,h6⟩:=FT (P:=P) (w:=w) (b:=n) (off:=off) hA (fun i c hc=>by rw[DZ h1];exact hc) h8 h;refine⟨v,c',?_,h5,h6⟩;simp only[DQ,asAddr,Ew,Result.andThen,Gq]at h4 ⊢;exact h4
   .exact h.elim
  .exact h.elim
 .exact h.elim
def M5 {fn:Func} {AF:List RS} (hr:NT P fn.results.toList=some AF) {Z:AE} {w:World} (hR:Rel F Z w) {env:Env} {tmps:Array Value} (he:CO (Hh F Z w) env tmps) {K:List V->Prop} (hv:U8 Z env AF K) :
    ∃c vs,(results fn tmps).run P w= .ok c w/\AY (Hh F Z w) (Et vs) c/\K vs:=by
 have key: ∀(l:List ResultVar) (AF:List RS),NT P l=some AF-> ∀K,U8 Z env AF K->
  ∃(cs:List Value) (vs:List V),(l.mapM (qE tmps)).run P w= .ok cs w/\cs.length=vs.length/\BV (Hh F Z w) (fun i=>cs[i]?) 0 vs/\K vs:=by
  intro l
  induction l with
  | nil=>
    intro AF hs K hv;cases hs;exact⟨[],[],by simp,rfl,trivial,hv⟩
  | cons x l ih=>
    intro AF hs K hv;cases x with
    | cell a t=>
      simp only[NT]at hs;split at hs
      .rename_i g s' h0 h1
       cases hs;obtain⟨va,h2,hv⟩:=Vd hv;obtain⟨ca,h7,h8⟩:=he a va h2;obtain⟨v,d,h9,h10,hv⟩:=dE (P:=P) h0 hR h8 hv;obtain⟨cs,vs,h4,h5,h6,hk⟩:=ih s' h1 _ hv;refine⟨d::cs,v::vs,?_,by simp[h5],⟨d,rfl,h10⟩ |> fun h=>⟨h,BA h6 (fun i _=>by rw[show 0+1+i=i+1 by omega];simp)⟩,hk⟩;rw[List.mapM_cons];simp only[DQ,qE]at h9 ⊢;simp only[Array.getD_eq_getD_getElem?,h7,Option.getD_some,h9,Gr,h4,Ew]
      .cases hs
    | tmp t=>
      simp only[NT]at hs;obtain⟨s',h1,rfl⟩:=Ai hs;obtain⟨u,h2,hv⟩:=Vd hv;obtain⟨cs,vs,h4,h5,h6,hk⟩:=ih s' h1 _ hv;obtain⟨c,h7,h8⟩:=he t u h2;refine⟨c::cs,u::vs,?_,by simp[h5],⟨⟨c,rfl,h8⟩,BA h6 (fun i _=>by rw[show 0+1+i=i+1 by omega];simp)⟩,hk⟩;rw[List.mapM_cons];simp only[qE,DQ,Ew,Gr,h4,Array.getD_eq_getD_getElem?,h7,Option.getD_some]
 obtain⟨cs,vs,h1,h2,h3,hk⟩:=key _ _ hr K hv
 have hrun:(fn.results.mapM (qE tmps)).run P w= .ok cs.toArray w:=by
  rw[Array.mapM_eq_mapM_toList];simp[h1]
 rw[La];simp only[DQ];refine⟨if h:cs.toArray.size=1 then cs.toArray[0]else .tuple cs.toArray,vs,?_,?_,hk⟩
 .rw[hrun]
  rfl
 .by_cases h1':cs.length=1
  .rw [dif_pos (by simpa using h1')]
   match cs,h1',h2,h3 with
   | [c],_,h2,h3=>
     match vs,h2,h3 with
     | [u],_,h3=>
       obtain⟨⟨d,hd,hr⟩,_⟩:=h3;simp at hd;subst hd;exact hr
  .rw[dif_neg (by simpa using h1')]
   have hv':Et vs= .t vs:=by
    match vs with
    | []=>rfl
    | [u]=>simp at h2;exact absurd h2 h1'
    | u::u'::r=>rfl
   rw[hv'];exact⟨_,rfl,by simpa using h2,BA h3 (fun i _=>by simp)⟩
def dx {f:FuncId} {fn:Func} {c:Code} {ac:AT} {AF:List RS} (hf:P.funcs[f]? =some fn) (hok:okF P f=true) (hb:fn.body=some c) (hr:NT P fn.results.toList=some AF)
    {args:List V} (hn:args.length<=fn.ntmps) (hc:res P fn.ntmps pu fz c=some (erase ac)) {Z:AE} {Q:R->AE->Prop} (h:T P ac (VZ AF Q) (A5 0 args) Z):Av P f args Z Q:=by
 refine⟨hok,fun F w cs hR hv=>?_⟩;refine callsIn_wide (n:=0) |>.1 (Gp hf hb ?_)
 have he:CO (Hh F Z w) (A5 0 args) (cs++Array.replicate (fn.ntmps - cs.size) undef):=by
  intro k v hg;obtain⟨_,h2⟩:=Gh args 0 k v hg;simp only[Nat.sub_zero]at h2;obtain⟨d,h3,h4⟩:=BY.1 hv.2 k v h2;simp only[Gq]at h3;refine⟨d,?_,h4⟩;rw[Array.getElem?_append_left (by have:=(rL.1 h3).1;exact this)];exact h3
 have hsz:(cs++Array.replicate (fn.ntmps - cs.size) undef).size=fn.ntmps:=by
  simp only[Array.size_append,Array.size_replicate];have:=hv.1;omega
 refine CT (E7 (r:=none) (a:={tmps:=cs++Array.replicate (fn.ntmps - cs.size) undef,defers:=[]}) hc h he hR hsz DC.none) ?_;rintro e a' w' ⟨ex,env,Z',hq,hx,he',hR',hA,hN,ms,hms,hnd,hD,_⟩;simp only[FE]at hms
 have fin:U8 Z' env AF (fun vs=>An Z' (Et vs) Q)->LeavesInM (wide none) 0 P fn a'.tmps (fun e w'=> ∃r Z',Q r Z'/\Va (Hh F Z' w') r e/\Rel F Z' w'/\B7 F Z w Z' w') a'.defers .returning w':=fun h1=>by
  rw[hms,<-FE (ms.map Ec)];refine DP (by simp) ms w' hnd hD hR' hA fun w2 q1 q2 q3=>?_
  obtain⟨c,vs,h5,h6,vf,Z'',h2,h3,h4⟩:=M5 (P:=P) hr q1 (he'.mono q3) h1;exact⟨c,h5,.ret vf,Z'',h4,⟨c,rfl,h3.rel q1 h2 h6⟩,q1.drop h2,q2.trans (B7.drop w2 h2)⟩
 cases ex with
 | normal=>simp only[EC]at hx;subst hx;exact fin hq
 | ret=>simp only[EC]at hx;subst hx;exact fin hq
 | exit id=>exact hq.elim
 | Bf v=>
   obtain⟨c,rfl,hv'⟩:=hx;obtain⟨vf,Z'',h2,h3,h4⟩:=hq;show LeavesInM _ _ _ _ _ _ a'.defers (.panicking _) w';rw[hms,<-FE (ms.map Ec)];refine DP (by simp) ms w' hnd hD hR' hA fun w2 q1 q2 q3=>?_
   exact⟨.Bf vf,Z'',h4,⟨c,rfl,h3.rel q1 h2 (hv'.mono q3)⟩,q1.drop h2,q2.trans (B7.drop w2 h2)⟩
def Er {f:FuncId} {fn:Func} {ac:AT} {AF:List RS} (hf:P.funcs[f]? =some fn) (hok:okF P f=true) (hb:fn.body.bind (res P fn.ntmps pu fz)=some (erase ac)) (hr:NT P fn.results.toList=some AF)
    {args:List V} (hn:args.length<=fn.ntmps) {Z:AE} {Q:R->AE->Prop} (h:T P ac (VZ AF Q) (A5 0 args) Z):Av P f args Z Q:=by
 cases hc:fn.body with
 | none=>rw[hc]at hb;cases hb
 | some c=>rw[hc]at hb;exact dx hf hok hc hr hn hb h
end Go.Gl
namespace Go.Gl
variable {P:Program} {F:Nat->Prop} {Z:AE}
def Eh:List Nat->List V->Env->Env
 | p::ps,v::vs,env=>Eh ps vs (put (some p) v env)
 | _,_,env=>env
def QG (L:Nat) (env:Env) (ok:FuncId->Array Tmp->Code->Code->Nat->Prop) (Q:R->AE->Prop):Aa->Env->AE->Prop
 | .normal,_,Z'=>Q (.ret (.b true)) (Bu Z' L (.loop .ready env ok))
 | .ret,_,Z'=>Q (.ret (.b false)) (Bu Z' L (.loop .ret env ok))
 | .exit id,_,Z'=>Q (.ret (.b false)) (Bu Z' L (.loop (.exit id) env ok))
 | .Bf v,_,Z'=>Q (.Bf v) Z'
def CU (K:Env->AE->Prop):Aa->Env->AE->Prop
 | .normal,env,Z=>K env Z
 | _,_,_=>False
def get_mem: ∀ {env:Env} {k:Nat} {v:V},get k env=some v->(k,v)∈env
 | [],_,_,h=>by cases h
 | (j,u)::r,k,v,h=>by
   simp only[get]at h;cases hb:Nat.beq j k with
   | true=>
     rw[hb]at h;simp only[cond_true,Iy]at h;rw[U7 hb,h];exact .head _
   | false=>
     rw[hb]at h;exact .tail _ (get_mem h)
def CO.binds {H:Nat->Nat->Option Value} {N:Nat}: ∀(ps:List Nat) (vs:List V) (cs:List Value) (env:Env) (tmps:Array Value),CO H env tmps->tmps.size=N->(∀p∈ps,p<N)->vs.length=ps.length->cs.length=vs.length->
    BV H (fun i=>cs[i]?) 0 vs->CO H (Eh ps vs env) ((ps.zip cs).foldl (fun t pa=>t.setIfInBounds pa.1 pa.2) tmps)/\((ps.zip cs).foldl (fun t pa=>t.setIfInBounds pa.1 pa.2) tmps).size=N
 | [],[],[],env,tmps,he,hN,_,_,_,_=>⟨he,hN⟩
 | p ::ps,v::vs,c::cs,env,tmps,he,hN,hp,hl,hc,hv=>by
   simp only[List.zip_cons_cons,List.foldl_cons,Eh];obtain⟨⟨d,hd,hr⟩,hv'⟩:=hv;simp at hd;subst hd
   refine CO.binds ps vs cs _ _ (CO.put (a:={tmps:=tmps,defers:=[]}) he hN (d:=some p) (fun x hx=>by cases hx;exact hp p (.head _)) hr) (by simpa using hN) (fun q hq=>hp q (.tail _ hq)) (by simpa using hl) (by simpa using hc)
    (BA hv' fun i _=>by rw[show 0+1+i=i+1 by omega];simp)
 | [],_::_,_,_,_,_,_,_,hl,_,_=>by simp at hl
 | _::_,[],_,_,_,_,_,_,hl,_,_=>by simp at hl
 | _::_,_::_,[],_,_,_,_,_,_,hc,_=>by simp at hc
 | [],[],_::_,_,_,_,_,_,_,hc,_=>by simp at hc
def RP {L : Nat} {env:Env} {ps:List Nat} {a b:AT} (hσ:Z L=some (.loop .ready env (Bg P ps a b))) {args:List V} (hl:args.length=ps.length) {Q:R->AE->Prop}
    (h:T P a (CU (T P b (fun ex env' Z'=>Z' L=none->QG L env (Bg P ps a b) Q ex env' Z'))) (Eh ps args env) (del Z L)):Nd P L args Z Q:=by
 intro F w cs hR hv;obtain⟨hnl,ob,hob,lp,rfl,⟨hst,hpe⟩,htm,hfn,hps,hplt,pu,fz,hra,hrb⟩:=hR.own L _ hσ;have hsub:=GB Z L;have hAd:B7 F Z w (del Z L) w:=B7.drop w hsub;have hcs:cs.size=lp.params.size:=by rw[hv.1,hl,<-hps];simp
 refine⟨lp.fn,_,lp.assign,lp.body,run_yield hob hcs,?_⟩
 have hfold:(lp.params.zip cs).foldl (fun tmps (t,a)=>tmps.setIfInBounds t a) lp.tmps=(ps.zip cs.toList).foldl (fun t pa=>t.setIfInBounds pa.1 pa.2) lp.tmps:=by
  rw[<-hps,<-Array.foldl_toList,Array.toList_zip]
 obtain⟨he0,hN0⟩:=CO.binds (H:=Hh F (del Z L) w) ps args cs.toList env lp.tmps (fun k v hg=>let⟨c,h1,h2⟩:=htm k v (get_mem hg);⟨c,h1,h2.mono hAd.hle⟩) rfl hplt hl (by simpa using hv.1) (BA (BV.mono hAd.hle (fun _ _ e=>e) _ _ hv.2) fun i _=>by simp);have hrd:DC (some L) (del Z L) w:=fun l e=>by cases e;exact⟨DY Z L,lp,hob⟩
 refine Rg hfn ?_;rw[hfold];refine CT (E7 (r:=some L) (a:={tmps:=(ps.zip cs.toList).foldl (fun t pa=>t.setIfInBounds pa.1 pa.2) lp.tmps,defers:=[]}) hra h he0 (hR.drop hsub) hN0 hrd) ?_;rintro e a1 w1 ⟨ex,env1,Z1,hq,hx,he1,hR1,hA1,hN1,hM1⟩;have hrd1:=hrd.Gs hA1
 have hd1:a1.defers= []:=by
  obtain⟨ms,h1,_,_,h2⟩:=hM1;rw[h1,h2 (by simp)];rfl
 cases ex with
 | exit id=>exact hq.elim
 | ret=>exact hq.elim
 | Bf v=>exact hq.elim
 | normal=>
   simp only[EC]at hx;subst hx;obtain⟨hL1,_⟩:=hrd1 L rfl;have hob1:w1.heap[L]? =some (.loop lp):=(hA1.frame L (D5 hob) (DY Z L)).trans hob;refine⟨_,run_beginRound hob1 hst,?_⟩;have hlt1:=D5 hob1;have hR1':=hR1.put (ob':= .loop {lp with state:= .busy}) hL1 hob1 rfl;have hob1':(w1.putObj L (.loop {lp with state:= .busy})).heap[L]? =some (.loop {lp with state:= .busy}):=World.putObj_heap_same hlt1;have hrd1':DC (some L) Z1 (w1.putObj L (.loop {lp with state:= .busy})):=fun l e=>by cases e;exact⟨hL1,_,hob1'⟩
   refine CT (E7 (r:=some L) hrb hq (he1.mono (Uf hob1 rfl)) hR1' hN1 hrd1') ?_;rintro e2 a2 w2 ⟨ex2,env2,Z2,hq2,hx2,he2,hR2,hA2,hN2,hM2⟩
   have hd2:a2.defers= []:=by
    obtain⟨ms,h1,_,_,h2⟩:=hM2;rw[h1,h2 (by simp),hd1];rfl
   have hL2:Z2 L=none:=((hrd1'.Gs hA2) L rfl).1;have hq2:=hq2 hL2;have hob2:w2.heap[L]? =some (.loop {lp with state:= .busy}):=(hA2.frame L (D5 hob1') hL1).trans hob1';have hne: ∀ {n:Nat},Z n=none->n≠L:=fun {n} hn e=>by rw[e,hσ]at hn;cases hn
   have hsz:w.heap.size<=w2.heap.size:=by
    have h1:=hA1.size;have h2:=hA2.size;simp at h2;omega
   have hfr: ∀n,n<w.heap.size->Z n=none->w2.heap[n]? =w.heap[n]? /\Z2 n=none:=fun n hn h0=>by
    have h1:=hsub.none h0;have h2:=hA1.names n h1 hn;have hs1:=hA1.size;have h3:=hA2.frame n (by simp;omega) h2;exact⟨h3.trans ((World.putObj_heap_other (hne h0)).trans (hA1.frame n hn h1)),hA2.names n h2 (by simp;omega)⟩
   have fin: ∀(st:rU) (lp3:Loop),lp3.tmps=lp.tmps->lp3.fn=lp.fn->lp3.params=lp.params->lp3.assign=lp.assign->lp3.body=lp.body->rf st lp3->
    Rel F (Bu Z2 L (.loop st env (Bg P ps a b))) (w2.putObj L (.loop lp3))/\B7 F Z w (Bu Z2 L (.loop st env (Bg P ps a b))) (w2.putObj L (.loop lp3)):=fun st lp3 q1 q2 q3 q4 q5 q6=>by
    have hle:ZW (Hh F Z2 w2) (Hh F (Bu Z2 L (.loop st env (Bg P ps a b))) (w2.putObj L (.loop lp3))):=by
     intro b' o c hb;obtain⟨h1,h2,h3⟩:=GG hb
     have hbL:b'≠L:=fun e=>by
      subst e;rw[bI hob2 rfl]at h3;cases h3
     rw[Og h1 (by rw[LG (Ne.symm hbL)];exact h2),<-h3];exact World.cell?_of_block (w:=w2) (World.putObj_heap_other hbL)
    have hA:B7 F Z w (Bu Z2 L (.loop st env (Bg P ps a b))) (w2.putObj L (.loop lp3)):=by
     refine⟨fun n hn h0=>(World.putObj_heap_other (hne h0)).trans (hfr n hn h0).1,by simpa using hsz,?_,?_,?_,fun n h0 hn=>by rw[LG (Ne.symm (hne h0))];exact(hfr n hn h0).2⟩
     .exact hA2.os.trans hA1.os
     .exact hA2.tape.trans hA1.tape
     .exact hA2.output.trans hA1.output
    refine⟨⟨fun n o ho=>?_,fun n hn=>by have:=hR2.lock n hn;simpa using this⟩,hA⟩;by_cases hn:n=L
    .subst hn
     have:Bu Z2 n (.loop st env (Bg P ps a b)) n=some (.loop st env (Bg P ps a b)):=by simp[Bu]
     rw[this]at ho;cases ho;refine⟨hnl,_,World.putObj_heap_same (D5 hob2),lp3,rfl,q6,fun k v hm=>?_,?_⟩
     .obtain⟨c,h1,h2⟩:=htm k v hm
      exact⟨c,by rw[q1];exact h1,h2.mono hA.hle⟩
     .rw[q1,q2,q3,q4,q5]
      exact⟨hfn,hps,hplt,pu,fz,hra,hrb⟩
    .rw[LG (Ne.symm hn)]at ho
     obtain⟨h1,o',h2,h3⟩:=hR2.own n o ho;exact⟨h1,o',(World.putObj_heap_other hn).trans h2,h3.mono hle⟩
   cases ex2 with
   | normal=>
     simp only[EC]at hx2;subst hx2;obtain⟨q1,q2⟩:=fin .ready {lp with state:= .ready,pending:=none} rfl rfl rfl rfl rfl ⟨rfl,rfl⟩;exact⟨_,_,run_endRound none hob2,.ret (.b true),_,hq2,⟨_,rfl,rfl⟩,q1,q2⟩
   | ret=>
     simp only[EC]at hx2;subst hx2;obtain⟨q1,q2⟩:=fin .ret {lp with state:= .done,pending:=some .ret} rfl rfl rfl rfl rfl ⟨rfl,rfl⟩;exact⟨_,_,run_endRound (some .ret) hob2,.ret (.b false),_,hq2,⟨_,rfl,rfl⟩,q1,q2⟩
   | exit id=>
     simp only[EC]at hx2;subst hx2;obtain⟨q1,q2⟩:=fin (.exit id) {lp with state:= .done,pending:=some (.exit id)} rfl rfl rfl rfl rfl ⟨rfl,rfl⟩;exact⟨_,_,run_endRound (some (.exit id)) hob2,.ret (.b false),_,hq2,⟨_,rfl,rfl⟩,q1,q2⟩
   | Bf v=>
     obtain⟨c,rfl,hvr⟩:=hx2;refine⟨hd2,.Bf v,Z2,hq2,⟨c,rfl,hvr⟩,hR2,?_⟩;exact⟨fun n hn h0=>(hfr n hn h0).1,hsz,hA2.os.trans hA1.os,hA2.tape.trans hA1.tape,hA2.output.trans hA1.output,fun n h0 hn=>(hfr n hn h0).2⟩
end Go.Gl
