import Derived.RangeFuncLeaves
import Derived.Laws.BitsLemmas
import Derived.Test.YtcfkfhaedllcpaaGreatW9
set_option linter.all false
set_option linter.defProp false
set_option maxHeartbeats 8000000
noncomputable section
namespace Go.Gl
variable {P:Program} {F:Nat->Prop} {pu:List FuncId} {fz:List Nat} {ds:List Deferred}
def GF:List ResultVar->Option (List Nat)
 | []=>some []
 | .tmp t::r=>(GF r).map (t:: ·)
 | .cell _ _::_=>none
def dx (env:Env):List Nat->Option (List V)
 | []=>some []
 | s::r=>match get s env,dx env r with
   | some v,some vs=>some (v::vs)
   | _,_=>none
def kI (AG:List Nat) (env:Env):Option V:=
 match dx env AG with
 | some [v]=>some v
 | some vs=>some (.t vs)
 | none=>none
def Aq (Z:AE) (v:V) (Q:R->AE->Prop):Prop:= ∃vf Z',Sub Z' Z/\Ez Z Z' v vf/\Q (.ret vf) Z'
def Af (Z:AE) (v:V) (Q:R->AE->Prop):Prop:= ∃vf Z',Sub Z' Z/\Ez Z Z' v vf/\Q (.Bb vf) Z'
def kX (AG:List Nat) (Q:R->AE->Prop):Aa->Env->AE->Prop
 | .normal,env,Z| .ret,env,Z=>wv (kI AG env) fun v=>Aq Z v Q
 | .Bb v,_,Z=>Af Z v Q
 | .exit _,_,_=>False
def A2:Nat->List V->Env
 | _,[]=>[]
 | i,v::vs=>(i,v)::A2 (i+1) vs
def U2 {o:Option V} {k:V->Prop} (h:wv o k): ∃v,o=some v/\k v:=by
 cases o with
 | none=>exact h.elim
 | some v=>exact⟨v,rfl,h⟩
def FO: ∀(vs:List V) (i k:Nat) (v:V),get k (A2 i vs)=some v->i<=k/\vs[k - i]? =some v
 | [],_,_,_,h=>by cases h
 | u ::vs,i,k,v,h=>by
   simp only[A2,get]at h;cases hb:Nat.beq i k with
   | true=>
     rw[hb]at h;simp only[cond_true]at h;cases h;have:i=k:=UX hb;subst this;exact⟨Io _,by simp⟩
   | false=>
     rw[hb]at h;simp only[cond_false]at h;have hne:i≠k:=Nat.ne_of_beq_eq_false hb;obtain⟨h1,h2⟩:=FO vs (i+1) k v h;refine⟨by omega,?_⟩;rw[show k - i=k - (i+1)+1 by omega];simpa using h2
def nu (tmps:Array Value):ResultVar->Sem Value
 | .tmp t=>pure (tmps.getD t undef)
 | .cell a t=>do loadVar t (<-asAddr (tmps.getD a undef))
def H9 (fn:Func) (tmps:Array Value):results fn tmps=(do
    let vs<-fn.results.mapM (nu tmps)
    pure (if h:vs.size=1 then vs[0]else .tuple vs)):=by
 unfold results;congr 1
def WR {fn:Func} {AG:List Nat} (hr:GF fn.results.toList=some AG) {H:Nat->Nat->Option Value} {env:Env} {tmps:Array Value} (he:CD H env tmps) {v:V} (hv:kI AG env=some v) (w:World) :
    ∃c,(results fn tmps).run P w= .ok c w/\Ab H v c:=by
 have key: ∀(l:List ResultVar) (AG:List Nat),GF l=some AG-> ∀vs,dx env AG=some vs->
  ∃cs:List Value,(l.mapM (nu tmps)).run P w= .ok cs w/\cs.length=vs.length/\BT H (fun i=>cs[i]?) 0 vs:=by
  intro l
  induction l with
  | nil=>
    intro AG hs vs hv;cases hs;cases hv;exact⟨[],by simp,rfl,trivial⟩
  | cons x l ih=>
    intro AG hs vs hv;cases x with
    | cell a t=>cases hs
    | tmp t=>
      simp only[GF]at hs;obtain⟨s',h1,rfl⟩:=Ag hs;simp only[dx]at hv;split at hv
      .rename_i u us h2 h3
       cases hv;obtain⟨cs,h4,h5,h6⟩:=ih s' h1 us h3;obtain⟨c,h7,h8⟩:=he t u h2;refine⟨c::cs,?_,by simp[h5],⟨c,rfl,h8⟩,BA h6 (fun i _=>by rw[show 0+1+i=i+1 by omega];simp)⟩;rw[List.mapM_cons];simp only[nu,DG,Ej,GS,h4,Array.getD_eq_getD_getElem?,h7,Option.getD_some]
      .cases hv
 unfold kI at hv;cases hg:dx env AG with
 | none=>rw[hg]at hv;cases hv
 | some vs =>
   obtain⟨cs,h1,h2,h3⟩:=key _ _ hr vs hg
   have hrun:(fn.results.mapM (nu tmps)).run P w= .ok cs.toArray w:=by
    rw[Array.mapM_eq_mapM_toList];simp[h1]
   rw[H9];simp only[DG];refine⟨if h:cs.toArray.size=1 then cs.toArray[0]else .tuple cs.toArray,?_,?_⟩
   .rw[hrun]
    rfl
   .rw [hg]at hv
    by_cases h1':cs.length=1
    .rw [dif_pos (by simpa using h1')]
     match cs,h1',h2,h3 with
     | [c],_,h2,h3=>
       match vs,h2,h3,hv with
       | [u],_,h3,hv=>
         cases hv;obtain⟨⟨d,hd,hr⟩,_⟩:=h3;simp at hd;subst hd;exact hr
    .rw[dif_neg (by simpa using h1')]
     have hv':v= .t vs:=by
      match vs,hv with
      | [],hv=>cases hv;rfl
      | [u],hv=>simp at h2;exact absurd h2 h1'
      | u::u'::r,hv=>cases hv;rfl
     subst hv';exact⟨_,rfl,by simpa using h2,BA h3 (fun i _=>by simp)⟩
def Bu.ZM {Z₀ Z:AE} {w₀ w:World} {D:Nat} {ob:Obj} (h:Bu F Z₀ w₀ Z w) (hD:w₀.heap.size<=D):Bu F Z₀ w₀ Z (w.putObj D ob) where
 frame n hn h0:=(World.putObj_heap_other (by omega)).trans (h.frame n hn h0)
 size:=by simpa using h.size
 os:=h.os
 tape:=h.tape
 output:=h.output
 names:=h.names
def DF {AD:Fence} {n:Nat} {fn:Func} {tmps:Array Value} {R:Ending->World->Prop} {u:FrameMode} (hu:u≠ .run) {Z₀ Z:AE} {w₀:World}: ∀(ms:List Nat) (w:World),ms.Nodup->
    (∀D∈ms,w₀.heap.size<=D/\Z D=none/\w.heap[D]? =some (.deferred (some [])))->Rel F Z w->Bu F Z₀ w₀ Z w->(∀w',Rel F Z w'->Bu F Z₀ w₀ Z w'->Ym (Hh F Z w) (Hh F Z w')->LeavesInM AD n P fn tmps R ds u w')->
    LeavesInM AD n P fn tmps R (ms.map EI++ds) u w
 | [],w,_,_,hR,hA,h=>h w hR hA fun _ _ _ h=>h
 | D::ms,w,hnd,hms,hR,hA,h=>by
   obtain⟨h1,h2,h3⟩:=hms D (.head _);have hnd':=List.nodup_cons.1 hnd;refine⟨hu,.inl ⟨D,_,rfl,run_takeDeferred h3,?_⟩⟩;have hle:=T5 (F:=F) (Z:=Z) (ob':= .deferred none) h3 rfl;refine DF hu ms _ hnd'.2 (fun E hE=>?_) (hR.put h2 h3 rfl) (hA.ZM h1) fun w' q1 q2 q3=>h w' q1 q2 fun b o c hc=>q3 b o c (hle b o c hc)
   obtain⟨h4,h5,h6⟩:=hms E (.tail _ hE);exact⟨h4,h5,(World.putObj_heap_other (fun e=>hnd'.1 (by rw[<-e];exact hE))).trans h6⟩
def GR {n:Nat} {f:FuncId} {fn:Func} {c:Code} {args:Array Value} {w:World} {R:Ending->World->Prop}
    (hf:P.funcs[f]? =some fn) (hb:fn.body=some c)
    (h:OJ none P c (bodyPostM (wide none) n P fn R) {tmps:=args++Array.replicate (fn.ntmps - args.size) undef,defers:=[]} w):CallsIn (wide none) n P f args w R:=by
 refine⟨trivial,fun cs hr=>?_⟩
 let b:Frame:={(default:Frame)with fn:=f,kind:= .normal,roundOf:=none}
 have henter:Frame.enter P f args .normal =
  b.atR {tmps:=args++Array.replicate (fn.ntmps - args.size) undef,defers:=[]} [.code c]:=by
  simp[Frame.enter,Frame.atR,hf,hb,b]
 obtain⟨e,a',w',hq,harr⟩:=h b [] cs rfl ⟨fn,hf⟩;rw[<-henter]at harr;cases e with
 | normal=>
   obtain⟨e',w'',fr',hR,hs,hfn,hl⟩:=leaves_stepsInM a'.defers .returning w' {b.atR a' []with mode:= .returning} cs rfl rfl rfl hf rfl trivial hr hq;exact⟨e',w'',fr',hR,ComesIn.of_steps (StepsIn.trans harr (.one (fenced_calm (fr:=b.atR a' []) trivial hr rfl) (stepR_end rfl))) hs,hfn,hl⟩
 | ret=>
   obtain⟨todo,hs₀⟩:=harr.1 rfl;obtain⟨e',w'',fr',hR,hs,hfn,hl⟩:=leaves_stepsInM a'.defers .returning w' {b.atR a' todo with mode:= .returning} cs rfl rfl rfl hf rfl trivial hr hq;exact⟨e',w'',fr',hR,ComesIn.of_steps hs₀ hs,hfn,hl⟩
 | panic chain=>
   obtain⟨todo,hs₀⟩:=harr;obtain⟨e',w'',fr',hR,hs,hfn,hl⟩:=leaves_stepsInM a'.defers (.panicking chain) w' {b.atR a' todo with mode:= .panicking chain} cs rfl rfl rfl hf rfl trivial hr hq;exact⟨e',w'',fr',hR,ComesIn.of_steps hs₀ hs,hfn,hl⟩
 | exit id=>exact hq.elim
 | goto l=>exact hq.elim
 | outgrown=>exact⟨.outgrown,w',b,hq,harr.resolve_left (by simp[b]),rfl,trivial⟩
def jS {f:FuncId} {fn:Func} {c:Code} {ac:AV} {AG:List Nat} (hf:P.funcs[f]? =some fn) (hok:okF P f=true) (hb:fn.body=some c) (hr:GF fn.results.toList=some AG)
    {args:List V} (hn:args.length<=fn.ntmps) (hc:res P fn.ntmps pu fz c=some (erase ac)) {Z:AE} {Q:R->AE->Prop} (h:T P ac (kX AG Q) (A2 0 args) Z):A3 P f args Z Q:=by
 refine⟨hok,fun F w cs hR hv=>?_⟩;refine callsIn_wide (n:=0) |>.1 (GR hf hb ?_)
 have he:CD (Hh F Z w) (A2 0 args) (cs++Array.replicate (fn.ntmps - cs.size) undef):=by
  intro k v hg;obtain⟨_,h2⟩:=FO args 0 k v hg;simp only[Nat.sub_zero]at h2;obtain⟨d,h3,h4⟩:=BW.1 hv.2 k v h2;simp only[Gj]at h3;refine⟨d,?_,h4⟩;rw[Array.getElem?_append_left (by have:=(nq.1 h3).1;exact this)];exact h3
 have hsz:(cs++Array.replicate (fn.ntmps - cs.size) undef).size=fn.ntmps:=by
  simp only[Array.size_append,Array.size_replicate];have:=hv.1;omega
 refine CK (EF (r:=none) (a:={tmps:=cs++Array.replicate (fn.ntmps - cs.size) undef,defers:=[]}) hc h he hR hsz Co.none) ?_;rintro e a' w' ⟨ex,env,Z',hq,hx,he',hR',hA,hN,ms,hms,hnd,hD,_⟩;simp only[Ip]at hms
 have fin: ∀v vf Z'',kI AG env=some v->Sub Z'' Z'->Ez Z' Z'' v vf->Q (.ret vf) Z''->LeavesInM (wide none) 0 P fn a'.tmps (fun e w'=> ∃r Z',Q r Z'/\U1 (Hh F Z' w') r e/\Rel F Z' w'/\Bu F Z w Z' w') a'.defers .returning w':=fun v vf Z'' h1 h2 h3 h4=>by
  rw[hms,<-Ip (ms.map EI)];refine DF (by simp) ms w' hnd hD hR' hA fun w2 q1 q2 q3=>?_
  obtain⟨c,h5,h6⟩:=WR (P:=P) hr (he'.mono q3) h1 w2;exact⟨c,h5,.ret vf,Z'',h4,⟨c,rfl,h3.rel q1 h2 h6⟩,q1.drop h2,q2.trans (Bu.drop w2 h2)⟩
 cases ex with
 | normal=>
   simp only[DX]at hx;subst hx;obtain⟨v,h1,vf,Z'',h2,h3,h4⟩:=U2 hq;exact fin v vf Z'' h1 h2 h3 h4
 | ret=>
   simp only[DX]at hx;subst hx;obtain⟨v,h1,vf,Z'',h2,h3,h4⟩:=U2 hq;exact fin v vf Z'' h1 h2 h3 h4
 | exit id=>exact hq.elim
 | Bb v=>
   obtain⟨c,rfl,hv'⟩:=hx;obtain⟨vf,Z'',h2,h3,h4⟩:=hq;show LeavesInM _ _ _ _ _ _ a'.defers (.panicking _) w';rw[hms,<-Ip (ms.map EI)];refine DF (by simp) ms w' hnd hD hR' hA fun w2 q1 q2 q3=>?_
   exact⟨.Bb vf,Z'',h4,⟨c,rfl,h3.rel q1 h2 (hv'.mono q3)⟩,q1.drop h2,q2.trans (Bu.drop w2 h2)⟩
def Qf {f:FuncId} {fn:Func} {ac:AV} {AG:List Nat} (hf:P.funcs[f]? =some fn) (hok:okF P f=true) (hb:fn.body.bind (res P fn.ntmps pu fz)=some (erase ac)) (hr:GF fn.results.toList=some AG)
    {args:List V} (hn:args.length<=fn.ntmps) {Z:AE} {Q:R->AE->Prop} (h:T P ac (kX AG Q) (A2 0 args) Z):A3 P f args Z Q:=by
 cases hc:fn.body with
 | none=>rw[hc]at hb;cases hb
 | some c=>rw[hc]at hb;exact jS hf hok hc hr hn hb h
def scalar:V->Bool
 | .b _=>true
 | .i _ _=>true
 | .t vs=>vs.all fun| .b _=>true| .i _ _=>true|_=>false
 | _=>false
def Xr {H H':Nat->Nat->Option Value} {v:V} {c:Value} (hs:scalar v=true) (h:Ab H v c):Ab H' v c:=by
 cases v<;>try(simp[scalar]at hs;done)
 .exact h
 .exact h
 .rename_i vs
  obtain⟨c',rfl,h1,h2⟩:=h;refine⟨c',rfl,h1,?_⟩;rw[BW]at *;intro i v hv;obtain⟨d,hd,hr⟩:=h2 i v hv;refine⟨d,hd,?_⟩;simp only[scalar,E3]at hs;have:=hs v (B1 hv);cases v<;>first|(simp at this;done)|exact hr
def Pure.an {f:FuncId} {args args':List V} {v:V} (h:Pure P f args' v) {Z:AE} (hf:DA Z emp args args') (hs:scalar v=true) {k kp:V->AE->Prop} (hk:k v Z):A3 P f args Z (qk k kp):=by
 refine⟨h.1,fun F w cs hR hv=>?_⟩;have hsub:Sub emp Z:=fun n o ho=>by cases ho
 refine Calls.mono (h.2 F w cs (hR.drop hsub) ⟨by rw[hf.length];exact hv.1,hf.rel hR hsub (fun _ _ e=>e) hv.2⟩) fun e w' ⟨r,Z',⟨hr,hs'⟩,h1,h2,h3⟩=>?_
 subst hr;subst hs';obtain⟨c,rfl,hv'⟩:=h1;exact⟨.ret v,Z,hk,⟨c,rfl,Xr hs hv'⟩,R3 hR h3,UG h3⟩
end Go.Gl
namespace Go.Gl
variable {P:Program} {Z:AE} {env env':Env}
def Ap {v vf:V} (h:Ez Z emp v vf):Aq Z v (fun r Z'=>r= .ret vf/\Z'=emp):=⟨vf,emp,fun n o ho=>(by cases ho),h,rfl,rfl⟩
def AF {v vf:V} (h:v=vf):Aq Z v (fun r Z'=>r= .ret vf/\Z'=emp):=Ap (h ▸ .refl v)
def Nj {K K':Env->AE->Prop} {kp kp':Env->V->AE->Prop} (hm: ∀env Z,K env Z->K' env Z) (hp: ∀env v Z,kp env v Z->kp' env v Z): ∀ {os:List Am} {env:Env} {Z:AE},I3 P os K kp env Z->I3 P os K' kp' env Z
 | [],_,_,h=>hm _ _ h
 | _::_,_,_,h=>CA h (fun _ _ h=>Nj hm hp h) (hp _)
def K7 {K K':Env->AE->Prop} {kp kp':V->AE->Prop} (hm: ∀env Z,K env Z->K' env Z) (hp: ∀v Z,kp v Z->kp' v Z): ∀ {os:List Cd} {env:Env} {Z:AE},DJ P os K kp env Z->DJ P os K' kp' env Z
 | [],_,_,h=>hm _ _ h
 | _::_,_,_,h=>CA h (fun _ _ h=>⟨h.1,K7 hm hp h.2⟩) hp
end Go.Gl
namespace Go.Gl
variable {P:Program} {Z:AE} {env env':Env}
def Kk {A B:Prop} (h:A):(true=true->A)/\(true=false->B):=⟨fun _=>h,fun e=>by cases e⟩
def Kl {A B:Prop} (h:B):(false=true->A)/\(false=false->B):=⟨fun e=>(by cases e),fun _=>h⟩
def Ji {A B:Prop} (h:A):(false=false->A)/\(false=true->B):=⟨fun _=>h,fun e=>by cases e⟩
def Jh {A B:Prop} (h:B):(true=false->A)/\(true=true->B):=⟨fun e=>(by cases e),fun _=>h⟩
def fork {p:Prop} [Decidable p] {A B:Prop} (h1:p->A) (h2: ¬p->B):(decide p=true->A)/\(decide p=false->B):=⟨fun h=>h1 (of_decide_eq_true h),fun h=>h2 (of_decide_eq_false h)⟩
def Zq {a b:Int} {A B:Prop} (h1:a=b->A) (h2:a≠b->B):((a==b)=true->A)/\((a==b)=false->B):=⟨fun h=>h1 (by simpa using h),fun h=>h2 (by simpa using h)⟩
def mq {a b:Int} {A B:Prop} (h1:a≠b->A) (h2:a=b->B):((a != b)=true->A)/\((a != b)=false->B):=⟨fun h=>h1 (by simpa using h),fun h=>h2 (by simpa using h)⟩
def wrap64 {n:Int} (h1: -9223372036854775808<=n) (h2:n<=9223372036854775807):IntKind.i64.wrap n=n:=by rw[IntKind.wrap_i64];omega
def fU {α:Type} {enc:α->List V} {xs:List α} {k:Nat} (h:(k:Int)<((xs.map enc).length:Nat)):k<xs.length:=by
 rw[BU]at h;omega
def Zx {α:Type} {enc:α->List V} {xs:List α} {k:Nat} (hk:k<=xs.length) (h: ¬(k:Int)<((xs.map enc).length:Nat)):k=xs.length:=by
 rw[BU]at h;omega
def VY {α:Type} {enc:α->List V} {xs:List α} {f:Bool} {sz:Nat} {ki:IntKind} {j:Int} {K:V->AE->Prop} (l:Nat) (hj:j=l) (hl:l<=xs.length) (hs: ∀x,(enc x).length=sz) (h:K (.l ((xs.drop l).map enc) f) Z) :
    AQ Z sz (.l (xs.map enc) f) (some (.i ki j)) none none K:=by
 subst hj;refine⟨fun e he=>?_,?_⟩
 .obtain⟨x,_,rfl⟩:=Mg.1 he
  exact hs x
 .simp only[OL,BU]
  refine⟨by omega,by omega,by omega,?_⟩;rw[JP,JP,List.take_of_length_le (by simp)];simpa using h
def exitTo (B:Nat) (J:Env->AE->Prop) (Q:Aa->Env->AE->Prop):Aa->Env->AE->Prop
 | .exit id,env,Z=>bif Nat.beq id B then J env Z else Q (.exit id) env Z
 | .normal,env,Z=>Q .normal env Z
 | .ret,env,Z=>Q .ret env Z
 | .Bb v,env,Z=>Q (.Bb v) env Z
end Go.Gl
namespace Go.Gl
variable {P:Program} {F:Nat->Prop} {pu:List FuncId} {fz:List Nat}
inductive RS where
 | t (n:Nat)
 | c (n:Nat) (agg:Option Nat)
def Mi (P:Program):List ResultVar->Option (List RS)
 | []=>some []
 | .tmp t::r=>(Mi P r).map (.t t:: ·)
 | .cell a t::r=>match Ii P t,Mi P r with|some g,some l=>some (.c a g::l)|_,_=>none
def UY (Z:AE) (env:Env):List RS->(List V->Prop)->Prop
 | [],k=>k []
 | .t n::r,k=>wv (get n env) fun v=>UY Z env r fun vs=>k (v::vs)
 | .c n g::r,k=>wv (get n env) fun a=>AX Z g a fun v=>UY Z env r fun vs=>k (v::vs)
def Ef:List V->V
 | [v]=>v
 | vs=> .t vs
def U0 (AG:List RS) (Q:R->AE->Prop):Aa->Env->AE->Prop
 | .normal,env,Z| .ret,env,Z=>UY Z env AG fun vs=>Aq Z (Ef vs) Q
 | .Bb v,_,Z=>Af Z v Q
 | .exit _,_,_=>False
def b6 {t:TypeId} {agg:Option Nat} (hA:Ii P t=some agg) {Z:AE} {w:World} (hR:Rel F Z w) {vx:V} {c:Value} (hx:Ab (Hh F Z w) vx c) {K:V->Prop} (h:AX Z agg vx K) :
    ∃v d,(do loadVar t (<-asAddr c):Sem Value).run P w= .ok d w/\Ab (Hh F Z w) v d/\K v:=by
 unfold AX at h;split at h
 .rename_i cs
  obtain⟨b,o,rfl,hv⟩:=hx;obtain⟨v,c,h1,h2,h3⟩:=FL (P:=P) (w:=w) (b:=b) (off:=0) hA (fun i c hc=>(Fu hc).2.2) hv h;refine⟨v,c,?_,h2,h3⟩;simp only[DG,asAddr,Ej,Result.andThen,Nat.add_zero]at h1 ⊢;exact h1
 .rename_i n off
  simp only[Ab]at hx;subst hx;unfold PA at h;split at h
  .rename_i vs hs
   obtain⟨c,e,h1,h2,h3⟩:=Js hR hs;obtain⟨v,c',h4,h5,h6⟩:=FL (P:=P) (w:=w) (b:=n) (off:=off) hA (fun i c hc=>by rw[DM h1];exact hc) h3 h;refine⟨v,c',?_,h5,h6⟩;simp only[DG,asAddr,Ej,Result.andThen,Gj]at h4 ⊢;exact h4
  .exact h.elim
 .rename_i n sz i off
  simp only[Ab]at hx;subst hx;unfold PB at h;split at h
  .rename_i sz' es cap hs
   obtain⟨rfl,h⟩:=h;split at h
   .rename_i e he
    obtain⟨c,e',h1,_,_,_,h3⟩:=Er hR hs;obtain⟨h7,h8⟩:=BE.1 h3 i e he;obtain⟨v,c',h4,h5,h6⟩:=FL (P:=P) (w:=w) (b:=n) (off:=off) hA (fun i c hc=>by rw[DM h1];exact hc) h8 h;refine⟨v,c',?_,h5,h6⟩;simp only[DG,asAddr,Ej,Result.andThen,Gj]at h4 ⊢;exact h4
   .exact h.elim
  .exact h.elim
 .exact h.elim
def MK {fn:Func} {AG:List RS} (hr:Mi P fn.results.toList=some AG) {Z:AE} {w:World} (hR:Rel F Z w) {env:Env} {tmps:Array Value} (he:CD (Hh F Z w) env tmps) {K:List V->Prop} (hv:UY Z env AG K) :
    ∃c vs,(results fn tmps).run P w= .ok c w/\Ab (Hh F Z w) (Ef vs) c/\K vs:=by
 have key: ∀(l:List ResultVar) (AG:List RS),Mi P l=some AG-> ∀K,UY Z env AG K->
  ∃(cs:List Value) (vs:List V),(l.mapM (nu tmps)).run P w= .ok cs w/\cs.length=vs.length/\BT (Hh F Z w) (fun i=>cs[i]?) 0 vs/\K vs:=by
  intro l
  induction l with
  | nil=>
    intro AG hs K hv;cases hs;exact⟨[],[],by simp,rfl,trivial,hv⟩
  | cons x l ih=>
    intro AG hs K hv;cases x with
    | cell a t=>
      simp only[Mi]at hs;split at hs
      .rename_i g s' h0 h1
       cases hs;obtain⟨va,h2,hv⟩:=U2 hv;obtain⟨ca,h7,h8⟩:=he a va h2;obtain⟨v,d,h9,h10,hv⟩:=b6 (P:=P) h0 hR h8 hv;obtain⟨cs,vs,h4,h5,h6,hk⟩:=ih s' h1 _ hv;refine⟨d::cs,v::vs,?_,by simp[h5],⟨d,rfl,h10⟩ |> fun h=>⟨h,BA h6 (fun i _=>by rw[show 0+1+i=i+1 by omega];simp)⟩,hk⟩;rw[List.mapM_cons];simp only[DG,nu]at h9 ⊢;simp only[Array.getD_eq_getD_getElem?,h7,Option.getD_some,h9,GS,h4,Ej]
      .cases hs
    | tmp t=>
      simp only[Mi]at hs;obtain⟨s',h1,rfl⟩:=Ag hs;obtain⟨u,h2,hv⟩:=U2 hv;obtain⟨cs,vs,h4,h5,h6,hk⟩:=ih s' h1 _ hv;obtain⟨c,h7,h8⟩:=he t u h2;refine⟨c::cs,u::vs,?_,by simp[h5],⟨⟨c,rfl,h8⟩,BA h6 (fun i _=>by rw[show 0+1+i=i+1 by omega];simp)⟩,hk⟩;rw[List.mapM_cons];simp only[nu,DG,Ej,GS,h4,Array.getD_eq_getD_getElem?,h7,Option.getD_some]
 obtain⟨cs,vs,h1,h2,h3,hk⟩:=key _ _ hr K hv
 have hrun:(fn.results.mapM (nu tmps)).run P w= .ok cs.toArray w:=by
  rw[Array.mapM_eq_mapM_toList];simp[h1]
 rw[H9];simp only[DG];refine⟨if h:cs.toArray.size=1 then cs.toArray[0]else .tuple cs.toArray,vs,?_,?_,hk⟩
 .rw[hrun]
  rfl
 .by_cases h1':cs.length=1
  .rw [dif_pos (by simpa using h1')]
   match cs,h1',h2,h3 with
   | [c],_,h2,h3=>
     match vs,h2,h3 with
     | [u],_,h3=>
       obtain⟨⟨d,hd,hr⟩,_⟩:=h3;simp at hd;subst hd;exact hr
  .rw[dif_neg (by simpa using h1')]
   have hv':Ef vs= .t vs:=by
    match vs with
    | []=>rfl
    | [u]=>simp at h2;exact absurd h2 h1'
    | u::u'::r=>rfl
   rw[hv'];exact⟨_,rfl,by simpa using h2,BA h3 (fun i _=>by simp)⟩
def c9 {f:FuncId} {fn:Func} {c:Code} {ac:AV} {AG:List RS} (hf:P.funcs[f]? =some fn) (hok:okF P f=true) (hb:fn.body=some c) (hr:Mi P fn.results.toList=some AG)
    {args:List V} (hn:args.length<=fn.ntmps) (hc:res P fn.ntmps pu fz c=some (erase ac)) {Z:AE} {Q:R->AE->Prop} (h:T P ac (U0 AG Q) (A2 0 args) Z):A3 P f args Z Q:=by
 refine⟨hok,fun F w cs hR hv=>?_⟩;refine callsIn_wide (n:=0) |>.1 (GR hf hb ?_)
 have he:CD (Hh F Z w) (A2 0 args) (cs++Array.replicate (fn.ntmps - cs.size) undef):=by
  intro k v hg;obtain⟨_,h2⟩:=FO args 0 k v hg;simp only[Nat.sub_zero]at h2;obtain⟨d,h3,h4⟩:=BW.1 hv.2 k v h2;simp only[Gj]at h3;refine⟨d,?_,h4⟩;rw[Array.getElem?_append_left (by have:=(nq.1 h3).1;exact this)];exact h3
 have hsz:(cs++Array.replicate (fn.ntmps - cs.size) undef).size=fn.ntmps:=by
  simp only[Array.size_append,Array.size_replicate];have:=hv.1;omega
 refine CK (EF (r:=none) (a:={tmps:=cs++Array.replicate (fn.ntmps - cs.size) undef,defers:=[]}) hc h he hR hsz Co.none) ?_;rintro e a' w' ⟨ex,env,Z',hq,hx,he',hR',hA,hN,ms,hms,hnd,hD,_⟩;simp only[Ip]at hms
 have fin:UY Z' env AG (fun vs=>Aq Z' (Ef vs) Q)->LeavesInM (wide none) 0 P fn a'.tmps (fun e w'=> ∃r Z',Q r Z'/\U1 (Hh F Z' w') r e/\Rel F Z' w'/\Bu F Z w Z' w') a'.defers .returning w':=fun h1=>by
  rw[hms,<-Ip (ms.map EI)];refine DF (by simp) ms w' hnd hD hR' hA fun w2 q1 q2 q3=>?_
  obtain⟨c,vs,h5,h6,vf,Z'',h2,h3,h4⟩:=MK (P:=P) hr q1 (he'.mono q3) h1;exact⟨c,h5,.ret vf,Z'',h4,⟨c,rfl,h3.rel q1 h2 h6⟩,q1.drop h2,q2.trans (Bu.drop w2 h2)⟩
 cases ex with
 | normal=>simp only[DX]at hx;subst hx;exact fin hq
 | ret=>simp only[DX]at hx;subst hx;exact fin hq
 | exit id=>exact hq.elim
 | Bb v=>
   obtain⟨c,rfl,hv'⟩:=hx;obtain⟨vf,Z'',h2,h3,h4⟩:=hq;show LeavesInM _ _ _ _ _ _ a'.defers (.panicking _) w';rw[hms,<-Ip (ms.map EI)];refine DF (by simp) ms w' hnd hD hR' hA fun w2 q1 q2 q3=>?_
   exact⟨.Bb vf,Z'',h4,⟨c,rfl,h3.rel q1 h2 (hv'.mono q3)⟩,q1.drop h2,q2.trans (Bu.drop w2 h2)⟩
def C8 {f:FuncId} {fn:Func} {ac:AV} {AG:List RS} (hf:P.funcs[f]? =some fn) (hok:okF P f=true) (hb:fn.body.bind (res P fn.ntmps pu fz)=some (erase ac)) (hr:Mi P fn.results.toList=some AG)
    {args:List V} (hn:args.length<=fn.ntmps) {Z:AE} {Q:R->AE->Prop} (h:T P ac (U0 AG Q) (A2 0 args) Z):A3 P f args Z Q:=by
 cases hc:fn.body with
 | none=>rw[hc]at hb;cases hb
 | some c=>rw[hc]at hb;exact c9 hf hok hc hr hn hb h
end Go.Gl
namespace Go.Gl
variable {P:Program} {F:Nat->Prop} {Z:AE}
def En:List Nat->List V->Env->Env
 | p::ps,v::vs,env=>En ps vs (put (some p) v env)
 | _,_,env=>env
def Ti (L:Nat) (env:Env) (ok:FuncId->Array Tmp->Code->Code->Nat->Prop) (Q:R->AE->Prop):Aa->Env->AE->Prop
 | .normal,_,Z'=>Q (.ret (.b true)) (Bd Z' L (.loop .ready env ok))
 | .ret,_,Z'=>Q (.ret (.b false)) (Bd Z' L (.loop .ret env ok))
 | .exit id,_,Z'=>Q (.ret (.b false)) (Bd Z' L (.loop (.exit id) env ok))
 | .Bb v,_,Z'=>Q (.Bb v) Z'
def CX (K:Env->AE->Prop):Aa->Env->AE->Prop
 | .normal,env,Z=>K env Z
 | _,_,_=>False
def get_mem: ∀ {env:Env} {k:Nat} {v:V},get k env=some v->(k,v)∈env
 | [],_,_,h=>by cases h
 | (j,u)::r,k,v,h=>by
   simp only[get]at h;cases hb:Nat.beq j k with
   | true=>
     rw[hb]at h;simp only[cond_true,Hl]at h;rw[UX hb,h];exact .head _
   | false=>
     rw[hb]at h;exact .tail _ (get_mem h)
def CD.binds {H:Nat->Nat->Option Value} {N:Nat}: ∀(ps:List Nat) (vs:List V) (cs:List Value) (env:Env) (tmps:Array Value),CD H env tmps->tmps.size=N->(∀p∈ps,p<N)->vs.length=ps.length->cs.length=vs.length->
    BT H (fun i=>cs[i]?) 0 vs->CD H (En ps vs env) ((ps.zip cs).foldl (fun t pa=>t.setIfInBounds pa.1 pa.2) tmps)/\((ps.zip cs).foldl (fun t pa=>t.setIfInBounds pa.1 pa.2) tmps).size=N
 | [],[],[],env,tmps,he,hN,_,_,_,_=>⟨he,hN⟩
 | p ::ps,v::vs,c::cs,env,tmps,he,hN,hp,hl,hc,hv=>by
   simp only[List.zip_cons_cons,List.foldl_cons,En];obtain⟨⟨d,hd,hr⟩,hv'⟩:=hv;simp at hd;subst hd
   refine CD.binds ps vs cs _ _ (CD.put (a:={tmps:=tmps,defers:=[]}) he hN (d:=some p) (fun x hx=>by cases hx;exact hp p (.head _)) hr) (by simpa using hN) (fun q hq=>hp q (.tail _ hq)) (by simpa using hl) (by simpa using hc)
    (BA hv' fun i _=>by rw[show 0+1+i=i+1 by omega];simp)
 | [],_::_,_,_,_,_,_,_,hl,_,_=>by simp at hl
 | _::_,[],_,_,_,_,_,_,hl,_,_=>by simp at hl
 | _::_,_::_,[],_,_,_,_,_,_,hc,_=>by simp at hc
 | [],[],_::_,_,_,_,_,_,_,hc,_=>by simp at hc
def Qh {L : Nat} {env:Env} {ps:List Nat} {a b:AV} (hσ:Z L=some (.loop .ready env (Bt P ps a b))) {args:List V} (hl:args.length=ps.length) {Q:R->AE->Prop}
    (h:T P a (CX (T P b (fun ex env' Z'=>Z' L=none->Ti L env (Bt P ps a b) Q ex env' Z'))) (En ps args env) (del Z L)):LR P L args Z Q:=by
 intro F w cs hR hv;obtain⟨hnl,ob,hob,lp,rfl,⟨hst,hpe⟩,htm,hfn,hps,hplt,pu,fz,hra,hrb⟩:=hR.own L _ hσ;have hsub:=Fo Z L;have hAd:Bu F Z w (del Z L) w:=Bu.drop w hsub;have hcs:cs.size=lp.params.size:=by rw[hv.1,hl,<-hps];simp
 refine⟨lp.fn,_,lp.assign,lp.body,run_yield hob hcs,?_⟩
 have hfold:(lp.params.zip cs).foldl (fun tmps (t,a)=>tmps.setIfInBounds t a) lp.tmps=(ps.zip cs.toList).foldl (fun t pa=>t.setIfInBounds pa.1 pa.2) lp.tmps:=by
  rw[<-hps,<-Array.foldl_toList,Array.toList_zip]
 obtain⟨he0,hN0⟩:=CD.binds (H:=Hh F (del Z L) w) ps args cs.toList env lp.tmps (fun k v hg=>let⟨c,h1,h2⟩:=htm k v (get_mem hg);⟨c,h1,h2.mono hAd.hle⟩) rfl hplt hl (by simpa using hv.1) (BA (BT.mono hAd.hle (fun _ _ e=>e) _ _ hv.2) fun i _=>by simp);have hrd:Co (some L) (del Z L) w:=fun l e=>by cases e;exact⟨DL Z L,lp,hob⟩
 refine Qq hfn ?_;rw[hfold];refine CK (EF (r:=some L) (a:={tmps:=(ps.zip cs.toList).foldl (fun t pa=>t.setIfInBounds pa.1 pa.2) lp.tmps,defers:=[]}) hra h he0 (hR.drop hsub) hN0 hrd) ?_;rintro e a1 w1 ⟨ex,env1,Z1,hq,hx,he1,hR1,hA1,hN1,hM1⟩;have hrd1:=hrd.G9 hA1
 have hd1:a1.defers= []:=by
  obtain⟨ms,h1,_,_,h2⟩:=hM1;rw[h1,h2 (by simp)];rfl
 cases ex with
 | exit id=>exact hq.elim
 | ret=>exact hq.elim
 | Bb v=>exact hq.elim
 | normal=>
   simp only[DX]at hx;subst hx;obtain⟨hL1,_⟩:=hrd1 L rfl;have hob1:w1.heap[L]? =some (.loop lp):=(hA1.frame L (Dl hob) (DL Z L)).trans hob;refine⟨_,run_beginRound hob1 hst,?_⟩;have hlt1:=Dl hob1;have hR1':=hR1.put (ob':= .loop {lp with state:= .busy}) hL1 hob1 rfl;have hob1':(w1.putObj L (.loop {lp with state:= .busy})).heap[L]? =some (.loop {lp with state:= .busy}):=World.putObj_heap_same hlt1;have hrd1':Co (some L) Z1 (w1.putObj L (.loop {lp with state:= .busy})):=fun l e=>by cases e;exact⟨hL1,_,hob1'⟩
   refine CK (EF (r:=some L) hrb hq (he1.mono (T5 hob1 rfl)) hR1' hN1 hrd1') ?_;rintro e2 a2 w2 ⟨ex2,env2,Z2,hq2,hx2,he2,hR2,hA2,hN2,hM2⟩
   have hd2:a2.defers= []:=by
    obtain⟨ms,h1,_,_,h2⟩:=hM2;rw[h1,h2 (by simp),hd1];rfl
   have hL2:Z2 L=none:=((hrd1'.G9 hA2) L rfl).1;have hq2:=hq2 hL2;have hob2:w2.heap[L]? =some (.loop {lp with state:= .busy}):=(hA2.frame L (Dl hob1') hL1).trans hob1';have hne: ∀ {n:Nat},Z n=none->n≠L:=fun {n} hn e=>by rw[e,hσ]at hn;cases hn
   have hsz:w.heap.size<=w2.heap.size:=by
    have h1:=hA1.size;have h2:=hA2.size;simp at h2;omega
   have hfr: ∀n,n<w.heap.size->Z n=none->w2.heap[n]? =w.heap[n]? /\Z2 n=none:=fun n hn h0=>by
    have h1:=hsub.none h0;have h2:=hA1.names n h1 hn;have hs1:=hA1.size;have h3:=hA2.frame n (by simp;omega) h2;exact⟨h3.trans ((World.putObj_heap_other (hne h0)).trans (hA1.frame n hn h1)),hA2.names n h2 (by simp;omega)⟩
   have fin: ∀(st:vj) (lp3:Loop),lp3.tmps=lp.tmps->lp3.fn=lp.fn->lp3.params=lp.params->lp3.assign=lp.assign->lp3.body=lp.body->pW st lp3->
    Rel F (Bd Z2 L (.loop st env (Bt P ps a b))) (w2.putObj L (.loop lp3))/\Bu F Z w (Bd Z2 L (.loop st env (Bt P ps a b))) (w2.putObj L (.loop lp3)):=fun st lp3 q1 q2 q3 q4 q5 q6=>by
    have hle:Ym (Hh F Z2 w2) (Hh F (Bd Z2 L (.loop st env (Bt P ps a b))) (w2.putObj L (.loop lp3))):=by
     intro b' o c hb;obtain⟨h1,h2,h3⟩:=Fu hb
     have hbL:b'≠L:=fun e=>by
      subst e;rw[Z6 hob2 rfl]at h3;cases h3
     rw[N0 h1 (by rw[KV (Ne.symm hbL)];exact h2),<-h3];exact World.cell?_of_block (w:=w2) (World.putObj_heap_other hbL)
    have hA:Bu F Z w (Bd Z2 L (.loop st env (Bt P ps a b))) (w2.putObj L (.loop lp3)):=by
     refine⟨fun n hn h0=>(World.putObj_heap_other (hne h0)).trans (hfr n hn h0).1,by simpa using hsz,?_,?_,?_,fun n h0 hn=>by rw[KV (Ne.symm (hne h0))];exact(hfr n hn h0).2⟩
     .exact hA2.os.trans hA1.os
     .exact hA2.tape.trans hA1.tape
     .exact hA2.output.trans hA1.output
    refine⟨⟨fun n o ho=>?_,fun n hn=>by have:=hR2.lock n hn;simpa using this⟩,hA⟩;by_cases hn:n=L
    .subst hn
     have:Bd Z2 n (.loop st env (Bt P ps a b)) n=some (.loop st env (Bt P ps a b)):=by simp[Bd]
     rw[this]at ho;cases ho;refine⟨hnl,_,World.putObj_heap_same (Dl hob2),lp3,rfl,q6,fun k v hm=>?_,?_⟩
     .obtain⟨c,h1,h2⟩:=htm k v hm
      exact⟨c,by rw[q1];exact h1,h2.mono hA.hle⟩
     .rw[q1,q2,q3,q4,q5]
      exact⟨hfn,hps,hplt,pu,fz,hra,hrb⟩
    .rw[KV (Ne.symm hn)]at ho
     obtain⟨h1,o',h2,h3⟩:=hR2.own n o ho;exact⟨h1,o',(World.putObj_heap_other hn).trans h2,h3.mono hle⟩
   cases ex2 with
   | normal=>
     simp only[DX]at hx2;subst hx2;obtain⟨q1,q2⟩:=fin .ready {lp with state:= .ready,pending:=none} rfl rfl rfl rfl rfl ⟨rfl,rfl⟩;exact⟨_,_,run_endRound none hob2,.ret (.b true),_,hq2,⟨_,rfl,rfl⟩,q1,q2⟩
   | ret=>
     simp only[DX]at hx2;subst hx2;obtain⟨q1,q2⟩:=fin .ret {lp with state:= .done,pending:=some .ret} rfl rfl rfl rfl rfl ⟨rfl,rfl⟩;exact⟨_,_,run_endRound (some .ret) hob2,.ret (.b false),_,hq2,⟨_,rfl,rfl⟩,q1,q2⟩
   | exit id=>
     simp only[DX]at hx2;subst hx2;obtain⟨q1,q2⟩:=fin (.exit id) {lp with state:= .done,pending:=some (.exit id)} rfl rfl rfl rfl rfl ⟨rfl,rfl⟩;exact⟨_,_,run_endRound (some (.exit id)) hob2,.ret (.b false),_,hq2,⟨_,rfl,rfl⟩,q1,q2⟩
   | Bb v=>
     obtain⟨c,rfl,hvr⟩:=hx2;refine⟨hd2,.Bb v,Z2,hq2,⟨c,rfl,hvr⟩,hR2,?_⟩;exact⟨fun n hn h0=>(hfr n hn h0).1,hsz,hA2.os.trans hA1.os,hA2.tape.trans hA1.tape,hA2.output.trans hA1.output,fun n h0 hn=>(hfr n hn h0).2⟩
end Go.Gl
