import Derived.RangeFuncLeaves
import Derived.Laws.BitsLemmas
import Derived.Test.YtcfkfhaedllcpaaGreatU9
set_option linter.all false
set_option linter.defProp false
set_option maxHeartbeats 8000000
noncomputable section
namespace Go.Gl
variable {P:Program} {F:Nat->Prop} {pu:List FuncId} {fz:List Nat} {ds:List Deferred}
def Ek:List ResultVar->Option (List Nat)
 | []=>some []
 | .tmp t::r=>(Ek r).map (t:: ·)
 | .cell _ _::_=>none
def VC (env:Env):List Nat->Option (List V)
 | []=>some []
 | s::r=>match get s env,VC env r with
   | some v,some vs=>some (v::vs)
   | _,_=>none
def Xr (AH:List Nat) (env:Env):Option V:=
 match VC env AH with
 | some [v]=>some v
 | some vs=>some (.t vs)
 | none=>none
def A3 (Z:AE) (v:V) (Q:R->AE->Prop):Prop:= ∃vf Z',Sub Z' Z/\EL Z Z' v vf/\Q (.ret vf) Z'
def Au (Z:AE) (v:V) (Q:R->AE->Prop):Prop:= ∃vf Z',Sub Z' Z/\EL Z Z' v vf/\Q (.BL vf) Z'
def X2 (AH:List Nat) (Q:R->AE->Prop):AR->Env->AE->Prop
 | .normal,env,Z| .ret,env,Z=>wv (Xr AH env) fun v=>A3 Z v Q
 | .BL v,_,Z=>Au Z v Q
 | .exit _,_,_=>False
def Al:Nat->List V->Env
 | _,[]=>[]
 | i,v::vs=>(i,v)::Al (i+1) vs
def O8 {o:Option V} {k:V->Prop} (h:wv o k): ∃v,o=some v/\k v:=by
 cases o with
 | none=>exact h.elim
 | some v=>exact⟨v,rfl,h⟩
def Dw: ∀(vs:List V) (i k:Nat) (v:V),get k (Al i vs)=some v->i<=k/\vs[k - i]? =some v
 | [],_,_,_,h=>by cases h
 | u ::vs,i,k,v,h=>by
   simp only[Al,get]at h;cases hb:Nat.beq i k with
   | true=>
     rw[hb]at h;simp only[cond_true]at h;cases h;have:i=k:=Oe hb;subst this;exact⟨JE _,by simp⟩
   | false=>
     rw[hb]at h;simp only[cond_false]at h;have hne:i≠k:=Nat.ne_of_beq_eq_false hb;obtain⟨h1,h2⟩:=Dw vs (i+1) k v h;refine⟨by omega,?_⟩;rw[show k - i=k - (i+1)+1 by omega];simpa using h2
def Zf (tmps:Array Value):ResultVar->Sem Value
 | .tmp t=>pure (tmps.getD t undef)
 | .cell a t=>do loadVar t (<-asAddr (tmps.getD a undef))
def GC (fn:Func) (tmps:Array Value):results fn tmps=(do
    let vs<-fn.results.mapM (Zf tmps)
    pure (if h:vs.size=1 then vs[0]else .tuple vs)):=by
 unfold results;congr 1
def QC {fn:Func} {AH:List Nat} (hr:Ek fn.results.toList=some AH) {H:Nat->Nat->Option Value} {env:Env} {tmps:Array Value} (he:Bk H env tmps) {v:V} (hv:Xr AH env=some v) (w:World) :
    ∃c,(results fn tmps).run P w= .ok c w/\AQ H v c:=by
 have key: ∀(l:List ResultVar) (AH:List Nat),Ek l=some AH-> ∀vs,VC env AH=some vs->
  ∃cs:List Value,(l.mapM (Zf tmps)).run P w= .ok cs w/\cs.length=vs.length/\A8 H (fun i=>cs[i]?) 0 vs:=by
  intro l
  induction l with
  | nil=>
    intro AH hs vs hv;cases hs;cases hv;exact⟨[],by simp,rfl,trivial⟩
  | cons x l ih=>
    intro AH hs vs hv;cases x with
    | cell a t=>cases hs
    | tmp t=>
      simp only[Ek]at hs;obtain⟨s',h1,rfl⟩:=AW hs;simp only[VC]at hv;split at hv
      .rename_i u us h2 h3
       cases hv;obtain⟨cs,h4,h5,h6⟩:=ih s' h1 us h3;obtain⟨c,h7,h8⟩:=he t u h2;refine⟨c::cs,?_,by simp[h5],⟨c,rfl,h8⟩,As h6 (fun i _=>by rw[show 0+1+i=i+1 by omega];simp)⟩;rw[List.mapM_cons];simp only[Zf,CT,DV,Ev,h4,Array.getD_eq_getD_getElem?,h7,Option.getD_some]
      .cases hv
 unfold Xr at hv;cases hg:VC env AH with
 | none=>rw[hg]at hv;cases hv
 | some vs =>
   obtain⟨cs,h1,h2,h3⟩:=key _ _ hr vs hg
   have hrun:(fn.results.mapM (Zf tmps)).run P w= .ok cs.toArray w:=by
    rw[Array.mapM_eq_mapM_toList];simp[h1]
   rw[GC];simp only[CT];refine⟨if h:cs.toArray.size=1 then cs.toArray[0]else .tuple cs.toArray,?_,?_⟩
   .rw[hrun]
    rfl
   .rw [hg]at hv
    by_cases h1':cs.length=1
    .rw [dif_pos (by simpa using h1')]
     match cs,h1',h2,h3 with
     | [c],_,h2,h3=>
       match vs,h2,h3,hv with
       | [u],_,h3,hv=>
         cases hv;obtain⟨⟨d,hd,hr⟩,_⟩:=h3;simp at hd;subst hd;exact hr
    .rw[dif_neg (by simpa using h1')]
     have hv':v= .t vs:=by
      match vs,hv with
      | [],hv=>cases hv;rfl
      | [u],hv=>simp at h2;exact absurd h2 h1'
      | u::u'::r,hv=>cases hv;rfl
     subst hv';exact⟨_,rfl,by simpa using h2,As h3 (fun i _=>by simp)⟩
def Bb.Sf {Z₀ Z:AE} {w₀ w:World} {D:Nat} {ob:Obj} (h:Bb F Z₀ w₀ Z w) (hD:w₀.heap.size<=D):Bb F Z₀ w₀ Z (w.putObj D ob) where
 frame n hn h0:=(World.putObj_heap_other (by omega)).trans (h.frame n hn h0)
 size:=by simpa using h.size
 os:=h.os
 tape:=h.tape
 output:=h.output
 names:=h.names
def CS {AD:Fence} {n:Nat} {fn:Func} {tmps:Array Value} {R:Ending->World->Prop} {u:FrameMode} (hu:u≠ .run) {Z₀ Z:AE} {w₀:World}: ∀(ms:List Nat) (w:World),ms.Nodup->
    (∀D∈ms,w₀.heap.size<=D/\Z D=none/\w.heap[D]? =some (.deferred (some [])))->Rel F Z w->Bb F Z₀ w₀ Z w->(∀w',Rel F Z w'->Bb F Z₀ w₀ Z w'->SB (Hh F Z w) (Hh F Z w')->LeavesInM AD n P fn tmps R ds u w')->
    LeavesInM AD n P fn tmps R (ms.map DJ++ds) u w
 | [],w,_,_,hR,hA,h=>h w hR hA fun _ _ _ h=>h
 | D::ms,w,hnd,hms,hR,hA,h=>by
   obtain⟨h1,h2,h3⟩:=hms D (.head _);have hnd':=List.nodup_cons.1 hnd;refine⟨hu,.inl ⟨D,_,rfl,run_takeDeferred h3,?_⟩⟩;have hle:=OJ (F:=F) (Z:=Z) (ob':= .deferred none) h3 rfl;refine CS hu ms _ hnd'.2 (fun E hE=>?_) (hR.put h2 h3 rfl) (hA.Sf h1) fun w' q1 q2 q3=>h w' q1 q2 fun b o c hc=>q3 b o c (hle b o c hc)
   obtain⟨h4,h5,h6⟩:=hms E (.tail _ hE);exact⟨h4,h5,(World.putObj_heap_other (fun e=>hnd'.1 (by rw[<-e];exact hE))).trans h6⟩
def Eu {n:Nat} {f:FuncId} {fn:Func} {c:Code} {args:Array Value} {w:World} {R:Ending->World->Prop}
    (hf:P.funcs[f]? =some fn) (hb:fn.body=some c)
    (h:KU none P c (bodyPostM (wide none) n P fn R) {tmps:=args++Array.replicate (fn.ntmps - args.size) undef,defers:=[]} w):CallsIn (wide none) n P f args w R:=by
 refine⟨trivial,fun cs hr=>?_⟩
 let b:Frame:={(default:Frame)with fn:=f,kind:= .normal,roundOf:=none}
 have henter:Frame.enter P f args .normal =
  b.atR {tmps:=args++Array.replicate (fn.ntmps - args.size) undef,defers:=[]} [.code c]:=by
  simp[Frame.enter,Frame.atR,hf,hb,b]
 obtain⟨e,a',w',hq,harr⟩:=h b [] cs rfl ⟨fn,hf⟩;rw[<-henter]at harr;cases e with
 | normal=>
   obtain⟨e',w'',fr',hR,hs,hfn,hl⟩:=leaves_stepsInM a'.defers .returning w' {b.atR a' []with mode:= .returning} cs rfl rfl rfl hf rfl trivial hr hq;exact⟨e',w'',fr',hR,ComesIn.of_steps (StepsIn.trans harr (.one (fenced_calm (fr:=b.atR a' []) trivial hr rfl) (stepR_end rfl))) hs,hfn,hl⟩
 | ret=>
   obtain⟨todo,hs₀⟩:=harr.1 rfl;obtain⟨e',w'',fr',hR,hs,hfn,hl⟩:=leaves_stepsInM a'.defers .returning w' {b.atR a' todo with mode:= .returning} cs rfl rfl rfl hf rfl trivial hr hq;exact⟨e',w'',fr',hR,ComesIn.of_steps hs₀ hs,hfn,hl⟩
 | panic chain=>
   obtain⟨todo,hs₀⟩:=harr;obtain⟨e',w'',fr',hR,hs,hfn,hl⟩:=leaves_stepsInM a'.defers (.panicking chain) w' {b.atR a' todo with mode:= .panicking chain} cs rfl rfl rfl hf rfl trivial hr hq;exact⟨e',w'',fr',hR,ComesIn.of_steps hs₀ hs,hfn,hl⟩
 | exit id=>exact hq.elim
 | goto l=>exact hq.elim
 | outgrown=>exact⟨.outgrown,w',b,hq,harr.resolve_left (by simp[b]),rfl,trivial⟩
def XJ {f:FuncId} {fn:Func} {c:Code} {ac:AK} {AH:List Nat} (hf:P.funcs[f]? =some fn) (hok:okF P f=true) (hb:fn.body=some c) (hr:Ek fn.results.toList=some AH)
    {args:List V} (hn:args.length<=fn.ntmps) (hc:res P fn.ntmps pu fz c=some (erase ac)) {Z:AE} {Q:R->AE->Prop} (h:T P ac (X2 AH Q) (Al 0 args) Z):BD P f args Z Q:=by
 refine⟨hok,fun F w cs hR hv=>?_⟩;refine callsIn_wide (n:=0) |>.1 (Eu hf hb ?_)
 have he:Bk (Hh F Z w) (Al 0 args) (cs++Array.replicate (fn.ntmps - cs.size) undef):=by
  intro k v hg;obtain⟨_,h2⟩:=Dw args 0 k v hg;simp only[Nat.sub_zero]at h2;obtain⟨d,h3,h4⟩:=BG.1 hv.2 k v h2;simp only[Ex]at h3;refine⟨d,?_,h4⟩;rw[Array.getElem?_append_left (by have:=(Ze.1 h3).1;exact this)];exact h3
 have hsz:(cs++Array.replicate (fn.ntmps - cs.size) undef).size=fn.ntmps:=by
  simp only[Array.size_append,Array.size_replicate];have:=hv.1;omega
 refine Bq (DF (r:=none) (a:={tmps:=cs++Array.replicate (fn.ntmps - cs.size) undef,defers:=[]}) hc h he hR hsz B9.none) ?_;rintro e a' w' ⟨ex,env,Z',hq,hx,he',hR',hA,hN,ms,hms,hnd,hD,_⟩;simp only[Qi]at hms
 have fin: ∀v vf Z'',Xr AH env=some v->Sub Z'' Z'->EL Z' Z'' v vf->Q (.ret vf) Z''->LeavesInM (wide none) 0 P fn a'.tmps (fun e w'=> ∃r Z',Q r Z'/\O7 (Hh F Z' w') r e/\Rel F Z' w'/\Bb F Z w Z' w') a'.defers .returning w':=fun v vf Z'' h1 h2 h3 h4=>by
  rw[hms,<-Qi (ms.map DJ)];refine CS (by simp) ms w' hnd hD hR' hA fun w2 q1 q2 q3=>?_
  obtain⟨c,h5,h6⟩:=QC (P:=P) hr (he'.mono q3) h1 w2;exact⟨c,h5,.ret vf,Z'',h4,⟨c,rfl,h3.rel q1 h2 h6⟩,q1.drop h2,q2.trans (Bb.drop w2 h2)⟩
 cases ex with
 | normal=>
   simp only[Ck]at hx;subst hx;obtain⟨v,h1,vf,Z'',h2,h3,h4⟩:=O8 hq;exact fin v vf Z'' h1 h2 h3 h4
 | ret=>
   simp only[Ck]at hx;subst hx;obtain⟨v,h1,vf,Z'',h2,h3,h4⟩:=O8 hq;exact fin v vf Z'' h1 h2 h3 h4
 | exit id=>exact hq.elim
 | BL v=>
   obtain⟨c,rfl,hv'⟩:=hx;obtain⟨vf,Z'',h2,h3,h4⟩:=hq;show LeavesInM _ _ _ _ _ _ a'.defers (.panicking _) w';rw[hms,<-Qi (ms.map DJ)];refine CS (by simp) ms w' hnd hD hR' hA fun w2 q1 q2 q3=>?_
   exact⟨.BL vf,Z'',h4,⟨c,rfl,h3.rel q1 h2 (hv'.mono q3)⟩,q1.drop h2,q2.trans (Bb.drop w2 h2)⟩
def L4 {f:FuncId} {fn:Func} {ac:AK} {AH:List Nat} (hf:P.funcs[f]? =some fn) (hok:okF P f=true) (hb:fn.body.bind (res P fn.ntmps pu fz)=some (erase ac)) (hr:Ek fn.results.toList=some AH)
    {args:List V} (hn:args.length<=fn.ntmps) {Z:AE} {Q:R->AE->Prop} (h:T P ac (X2 AH Q) (Al 0 args) Z):BD P f args Z Q:=by
 cases hc:fn.body with
 | none=>rw[hc]at hb;cases hb
 | some c=>rw[hc]at hb;exact XJ hf hok hc hr hn hb h
def scalar:V->Bool
 | .b _=>true
 | .i _ _=>true
 | .t vs=>vs.all fun| .b _=>true| .i _ _=>true|_=>false
 | _=>false
def RQ {H H':Nat->Nat->Option Value} {v:V} {c:Value} (hs:scalar v=true) (h:AQ H v c):AQ H' v c:=by
 cases v<;>try(simp[scalar]at hs;done)
 .exact h
 .exact h
 .rename_i vs
  obtain⟨c',rfl,h1,h2⟩:=h;refine⟨c',rfl,h1,?_⟩;rw[BG]at *;intro i v hv;obtain⟨d,hd,hr⟩:=h2 i v hv;refine⟨d,hd,?_⟩;simp only[scalar,JD]at hs;have:=hs v (Dx hv);cases v<;>first|(simp at this;done)|exact hr
def Pure.gE {f:FuncId} {args args':List V} {v:V} (h:Pure P f args' v) {Z:AE} (hf:CU Z emp args args') (hs:scalar v=true) {k kp:V->AE->Prop} (hk:k v Z):BD P f args Z (qk k kp):=by
 refine⟨h.1,fun F w cs hR hv=>?_⟩;have hsub:Sub emp Z:=fun n o ho=>by cases ho
 refine Calls.mono (h.2 F w cs (hR.drop hsub) ⟨by rw[hf.length];exact hv.1,hf.rel hR hsub (fun _ _ e=>e) hv.2⟩) fun e w' ⟨r,Z',⟨hr,hs'⟩,h1,h2,h3⟩=>?_
 subst hr;subst hs';obtain⟨c,rfl,hv'⟩:=h1;exact⟨.ret v,Z,hk,⟨c,rfl,RQ hs hv'⟩,Mz hR h3,OT h3⟩
end Go.Gl
namespace Go.Gl
variable {P:Program} {Z:AE} {env env':Env}
def B1 {v vf:V} (h:EL Z emp v vf):A3 Z v (fun r Z'=>r= .ret vf/\Z'=emp):=⟨vf,emp,fun n o ho=>(by cases ho),h,rfl,rfl⟩
def AF {v vf:V} (h:v=vf):A3 Z v (fun r Z'=>r= .ret vf/\Z'=emp):=B1 (h ▸ .refl v)
def Jy {K K':Env->AE->Prop} {kp kp':Env->V->AE->Prop} (hm: ∀env Z,K env Z->K' env Z) (hp: ∀env v Z,kp env v Z->kp' env v Z): ∀ {os:List Ad} {env:Env} {Z:AE},Gj P os K kp env Z->Gj P os K' kp' env Z
 | [],_,_,h=>hm _ _ h
 | _::_,_,_,h=>Bj h (fun _ _ h=>Jy hm hp h) (hp _)
def IE {K K':Env->AE->Prop} {kp kp':V->AE->Prop} (hm: ∀env Z,K env Z->K' env Z) (hp: ∀v Z,kp v Z->kp' v Z): ∀ {os:List B0} {env:Env} {Z:AE},CX P os K kp env Z->CX P os K' kp' env Z
 | [],_,_,h=>hm _ _ h
 | _::_,_,_,h=>Bj h (fun _ _ h=>⟨h.1,IE hm hp h.2⟩) hp
end Go.Gl
namespace Go.Gl
variable {P:Program} {Z:AE} {env env':Env}
def Hx {A B:Prop} (h:A):(true=true->A)/\(true=false->B):=⟨fun _=>h,fun e=>by cases e⟩
def Hy {A B:Prop} (h:B):(false=true->A)/\(false=false->B):=⟨fun e=>(by cases e),fun _=>h⟩
def HC {A B:Prop} (h:A):(false=false->A)/\(false=true->B):=⟨fun _=>h,fun e=>by cases e⟩
def HB {A B:Prop} (h:B):(true=false->A)/\(true=true->B):=⟨fun e=>(by cases e),fun _=>h⟩
def fork {p:Prop} [Decidable p] {A B:Prop} (h1:p->A) (h2: ¬p->B):(decide p=true->A)/\(decide p=false->B):=⟨fun h=>h1 (of_decide_eq_true h),fun h=>h2 (of_decide_eq_false h)⟩
def Sy {a b:Int} {A B:Prop} (h1:a=b->A) (h2:a≠b->B):((a==b)=true->A)/\((a==b)=false->B):=⟨fun h=>h1 (by simpa using h),fun h=>h2 (by simpa using h)⟩
def ZC {a b:Int} {A B:Prop} (h1:a≠b->A) (h2:a=b->B):((a != b)=true->A)/\((a != b)=false->B):=⟨fun h=>h1 (by simpa using h),fun h=>h2 (by simpa using h)⟩
def wrap64 {n:Int} (h1: -9223372036854775808<=n) (h2:n<=9223372036854775807):IntKind.i64.wrap n=n:=by rw[IntKind.wrap_i64];omega
def Vm {α:Type} {enc:α->List V} {xs:List α} {k:Nat} (h:(k:Int)<((xs.map enc).length:Nat)):k<xs.length:=by
 rw[BW]at h;omega
def S1 {α:Type} {enc:α->List V} {xs:List α} {k:Nat} (hk:k<=xs.length) (h: ¬(k:Int)<((xs.map enc).length:Nat)):k=xs.length:=by
 rw[BW]at h;omega
def Pa {α:Type} {enc:α->List V} {xs:List α} {f:Bool} {sz:Nat} {ki:IntKind} {j:Int} {K:V->AE->Prop} (l:Nat) (hj:j=l) (hl:l<=xs.length) (hs: ∀x,(enc x).length=sz) (h:K (.l ((xs.drop l).map enc) f) Z) :
    AU Z sz (.l (xs.map enc) f) (some (.i ki j)) none none K:=by
 subst hj;refine⟨fun e he=>?_,?_⟩
 .obtain⟨x,_,rfl⟩:=Ol.1 he
  exact hs x
 .simp only[MC,BW]
  refine⟨by omega,by omega,by omega,?_⟩;rw[MF,MF,List.take_of_length_le (by simp)];simpa using h
def exitTo (B:Nat) (J:Env->AE->Prop) (Q:AR->Env->AE->Prop):AR->Env->AE->Prop
 | .exit id,env,Z=>bif Nat.beq id B then J env Z else Q (.exit id) env Z
 | .normal,env,Z=>Q .normal env Z
 | .ret,env,Z=>Q .ret env Z
 | .BL v,env,Z=>Q (.BL v) env Z
end Go.Gl
namespace Go.Gl
variable {P:Program} {F:Nat->Prop} {pu:List FuncId} {fz:List Nat}
inductive RS where
 | t (n:Nat)
 | c (n:Nat) (agg:Option Nat)
def JH (P:Program):List ResultVar->Option (List RS)
 | []=>some []
 | .tmp t::r=>(JH P r).map (.t t:: ·)
 | .cell a t::r=>match GU P t,JH P r with|some g,some l=>some (.c a g::l)|_,_=>none
def Og (Z:AE) (env:Env):List RS->(List V->Prop)->Prop
 | [],k=>k []
 | .t n::r,k=>wv (get n env) fun v=>Og Z env r fun vs=>k (v::vs)
 | .c n g::r,k=>wv (get n env) fun a=>Af Z g a fun v=>Og Z env r fun vs=>k (v::vs)
def DR:List V->V
 | [v]=>v
 | vs=> .t vs
def O6 (AH:List RS) (Q:R->AE->Prop):AR->Env->AE->Prop
 | .normal,env,Z| .ret,env,Z=>Og Z env AH fun vs=>A3 Z (DR vs) Q
 | .BL v,_,Z=>Au Z v Q
 | .exit _,_,_=>False
def T5 {t:TypeId} {agg:Option Nat} (hA:GU P t=some agg) {Z:AE} {w:World} (hR:Rel F Z w) {vx:V} {c:Value} (hx:AQ (Hh F Z w) vx c) {K:V->Prop} (h:Af Z agg vx K) :
    ∃v d,(do loadVar t (<-asAddr c):Sem Value).run P w= .ok d w/\AQ (Hh F Z w) v d/\K v:=by
 unfold Af at h;split at h
 .rename_i cs
  obtain⟨b,o,rfl,hv⟩:=hx;obtain⟨v,c,h1,h2,h3⟩:=Dt (P:=P) (w:=w) (b:=b) (off:=0) hA (fun i c hc=>(EY hc).2.2) hv h;refine⟨v,c,?_,h2,h3⟩;simp only[CT,asAddr,DV,Result.andThen,Nat.add_zero]at h1 ⊢;exact h1
 .rename_i n off
  simp only[AQ]at hx;subst hx;unfold K4 at h;split at h
  .rename_i vs hs
   obtain⟨c,e,h1,h2,h3⟩:=HN hR hs;obtain⟨v,c',h4,h5,h6⟩:=Dt (P:=P) (w:=w) (b:=n) (off:=off) hA (fun i c hc=>by rw[Cb h1];exact hc) h3 h;refine⟨v,c',?_,h5,h6⟩;simp only[CT,asAddr,DV,Result.andThen,Ex]at h4 ⊢;exact h4
  .exact h.elim
 .rename_i n sz i off
  simp only[AQ]at hx;subst hx;unfold K5 at h;split at h
  .rename_i sz' es cap hs
   obtain⟨rfl,h⟩:=h;split at h
   .rename_i e he
    obtain⟨c,e',h1,_,_,_,h3⟩:=DY hR hs;obtain⟨h7,h8⟩:=Av.1 h3 i e he;obtain⟨v,c',h4,h5,h6⟩:=Dt (P:=P) (w:=w) (b:=n) (off:=off) hA (fun i c hc=>by rw[Cb h1];exact hc) h8 h;refine⟨v,c',?_,h5,h6⟩;simp only[CT,asAddr,DV,Result.andThen,Ex]at h4 ⊢;exact h4
   .exact h.elim
  .exact h.elim
 .exact h.elim
def Iy {fn:Func} {AH:List RS} (hr:JH P fn.results.toList=some AH) {Z:AE} {w:World} (hR:Rel F Z w) {env:Env} {tmps:Array Value} (he:Bk (Hh F Z w) env tmps) {K:List V->Prop} (hv:Og Z env AH K) :
    ∃c vs,(results fn tmps).run P w= .ok c w/\AQ (Hh F Z w) (DR vs) c/\K vs:=by
 have key: ∀(l:List ResultVar) (AH:List RS),JH P l=some AH-> ∀K,Og Z env AH K->
  ∃(cs:List Value) (vs:List V),(l.mapM (Zf tmps)).run P w= .ok cs w/\cs.length=vs.length/\A8 (Hh F Z w) (fun i=>cs[i]?) 0 vs/\K vs:=by
  intro l
  induction l with
  | nil=>
    intro AH hs K hv;cases hs;exact⟨[],[],by simp,rfl,trivial,hv⟩
  | cons x l ih=>
    intro AH hs K hv;cases x with
    | cell a t=>
      simp only[JH]at hs;split at hs
      .rename_i g s' h0 h1
       cases hs;obtain⟨va,h2,hv⟩:=O8 hv;obtain⟨ca,h7,h8⟩:=he a va h2;obtain⟨v,d,h9,h10,hv⟩:=T5 (P:=P) h0 hR h8 hv;obtain⟨cs,vs,h4,h5,h6,hk⟩:=ih s' h1 _ hv;refine⟨d::cs,v::vs,?_,by simp[h5],⟨d,rfl,h10⟩ |> fun h=>⟨h,As h6 (fun i _=>by rw[show 0+1+i=i+1 by omega];simp)⟩,hk⟩;rw[List.mapM_cons];simp only[CT,Zf]at h9 ⊢;simp only[Array.getD_eq_getD_getElem?,h7,Option.getD_some,h9,Ev,h4,DV]
      .cases hs
    | tmp t=>
      simp only[JH]at hs;obtain⟨s',h1,rfl⟩:=AW hs;obtain⟨u,h2,hv⟩:=O8 hv;obtain⟨cs,vs,h4,h5,h6,hk⟩:=ih s' h1 _ hv;obtain⟨c,h7,h8⟩:=he t u h2;refine⟨c::cs,u::vs,?_,by simp[h5],⟨⟨c,rfl,h8⟩,As h6 (fun i _=>by rw[show 0+1+i=i+1 by omega];simp)⟩,hk⟩;rw[List.mapM_cons];simp only[Zf,CT,DV,Ev,h4,Array.getD_eq_getD_getElem?,h7,Option.getD_some]
 obtain⟨cs,vs,h1,h2,h3,hk⟩:=key _ _ hr K hv
 have hrun:(fn.results.mapM (Zf tmps)).run P w= .ok cs.toArray w:=by
  rw[Array.mapM_eq_mapM_toList];simp[h1]
 rw[GC];simp only[CT];refine⟨if h:cs.toArray.size=1 then cs.toArray[0]else .tuple cs.toArray,vs,?_,?_,hk⟩
 .rw[hrun]
  rfl
 .by_cases h1':cs.length=1
  .rw [dif_pos (by simpa using h1')]
   match cs,h1',h2,h3 with
   | [c],_,h2,h3=>
     match vs,h2,h3 with
     | [u],_,h3=>
       obtain⟨⟨d,hd,hr⟩,_⟩:=h3;simp at hd;subst hd;exact hr
  .rw[dif_neg (by simpa using h1')]
   have hv':DR vs= .t vs:=by
    match vs with
    | []=>rfl
    | [u]=>simp at h2;exact absurd h2 h1'
    | u::u'::r=>rfl
   rw[hv'];exact⟨_,rfl,by simpa using h2,As h3 (fun i _=>by simp)⟩
def Uc {f:FuncId} {fn:Func} {c:Code} {ac:AK} {AH:List RS} (hf:P.funcs[f]? =some fn) (hok:okF P f=true) (hb:fn.body=some c) (hr:JH P fn.results.toList=some AH)
    {args:List V} (hn:args.length<=fn.ntmps) (hc:res P fn.ntmps pu fz c=some (erase ac)) {Z:AE} {Q:R->AE->Prop} (h:T P ac (O6 AH Q) (Al 0 args) Z):BD P f args Z Q:=by
 refine⟨hok,fun F w cs hR hv=>?_⟩;refine callsIn_wide (n:=0) |>.1 (Eu hf hb ?_)
 have he:Bk (Hh F Z w) (Al 0 args) (cs++Array.replicate (fn.ntmps - cs.size) undef):=by
  intro k v hg;obtain⟨_,h2⟩:=Dw args 0 k v hg;simp only[Nat.sub_zero]at h2;obtain⟨d,h3,h4⟩:=BG.1 hv.2 k v h2;simp only[Ex]at h3;refine⟨d,?_,h4⟩;rw[Array.getElem?_append_left (by have:=(Ze.1 h3).1;exact this)];exact h3
 have hsz:(cs++Array.replicate (fn.ntmps - cs.size) undef).size=fn.ntmps:=by
  simp only[Array.size_append,Array.size_replicate];have:=hv.1;omega
 refine Bq (DF (r:=none) (a:={tmps:=cs++Array.replicate (fn.ntmps - cs.size) undef,defers:=[]}) hc h he hR hsz B9.none) ?_;rintro e a' w' ⟨ex,env,Z',hq,hx,he',hR',hA,hN,ms,hms,hnd,hD,_⟩;simp only[Qi]at hms
 have fin:Og Z' env AH (fun vs=>A3 Z' (DR vs) Q)->LeavesInM (wide none) 0 P fn a'.tmps (fun e w'=> ∃r Z',Q r Z'/\O7 (Hh F Z' w') r e/\Rel F Z' w'/\Bb F Z w Z' w') a'.defers .returning w':=fun h1=>by
  rw[hms,<-Qi (ms.map DJ)];refine CS (by simp) ms w' hnd hD hR' hA fun w2 q1 q2 q3=>?_
  obtain⟨c,vs,h5,h6,vf,Z'',h2,h3,h4⟩:=Iy (P:=P) hr q1 (he'.mono q3) h1;exact⟨c,h5,.ret vf,Z'',h4,⟨c,rfl,h3.rel q1 h2 h6⟩,q1.drop h2,q2.trans (Bb.drop w2 h2)⟩
 cases ex with
 | normal=>simp only[Ck]at hx;subst hx;exact fin hq
 | ret=>simp only[Ck]at hx;subst hx;exact fin hq
 | exit id=>exact hq.elim
 | BL v=>
   obtain⟨c,rfl,hv'⟩:=hx;obtain⟨vf,Z'',h2,h3,h4⟩:=hq;show LeavesInM _ _ _ _ _ _ a'.defers (.panicking _) w';rw[hms,<-Qi (ms.map DJ)];refine CS (by simp) ms w' hnd hD hR' hA fun w2 q1 q2 q3=>?_
   exact⟨.BL vf,Z'',h4,⟨c,rfl,h3.rel q1 h2 (hv'.mono q3)⟩,q1.drop h2,q2.trans (Bb.drop w2 h2)⟩
def CO {f:FuncId} {fn:Func} {ac:AK} {AH:List RS} (hf:P.funcs[f]? =some fn) (hok:okF P f=true) (hb:fn.body.bind (res P fn.ntmps pu fz)=some (erase ac)) (hr:JH P fn.results.toList=some AH)
    {args:List V} (hn:args.length<=fn.ntmps) {Z:AE} {Q:R->AE->Prop} (h:T P ac (O6 AH Q) (Al 0 args) Z):BD P f args Z Q:=by
 cases hc:fn.body with
 | none=>rw[hc]at hb;cases hb
 | some c=>rw[hc]at hb;exact Uc hf hok hc hr hn hb h
end Go.Gl
namespace Go.Gl
variable {P:Program} {F:Nat->Prop} {Z:AE}
def Dq:List Nat->List V->Env->Env
 | p::ps,v::vs,env=>Dq ps vs (put (some p) v env)
 | _,_,env=>env
def RI (L:Nat) (env:Env) (ok:FuncId->Array Tmp->Code->Code->Nat->Prop) (Q:R->AE->Prop):AR->Env->AE->Prop
 | .normal,_,Z'=>Q (.ret (.b true)) (BO Z' L (.loop .ready env ok))
 | .ret,_,Z'=>Q (.ret (.b false)) (BO Z' L (.loop .ret env ok))
 | .exit id,_,Z'=>Q (.ret (.b false)) (BO Z' L (.loop (.exit id) env ok))
 | .BL v,_,Z'=>Q (.BL v) Z'
def CA (K:Env->AE->Prop):AR->Env->AE->Prop
 | .normal,env,Z=>K env Z
 | _,_,_=>False
def get_mem: ∀ {env:Env} {k:Nat} {v:V},get k env=some v->(k,v)∈env
 | [],_,_,h=>by cases h
 | (j,u)::r,k,v,h=>by
   simp only[get]at h;cases hb:Nat.beq j k with
   | true=>
     rw[hb]at h;simp only[cond_true,HQ]at h;rw[Oe hb,h];exact .head _
   | false=>
     rw[hb]at h;exact .tail _ (get_mem h)
def Bk.binds {H:Nat->Nat->Option Value} {N:Nat}: ∀(ps:List Nat) (vs:List V) (cs:List Value) (env:Env) (tmps:Array Value),Bk H env tmps->tmps.size=N->(∀p∈ps,p<N)->vs.length=ps.length->cs.length=vs.length->
    A8 H (fun i=>cs[i]?) 0 vs->Bk H (Dq ps vs env) ((ps.zip cs).foldl (fun t pa=>t.setIfInBounds pa.1 pa.2) tmps)/\((ps.zip cs).foldl (fun t pa=>t.setIfInBounds pa.1 pa.2) tmps).size=N
 | [],[],[],env,tmps,he,hN,_,_,_,_=>⟨he,hN⟩
 | p ::ps,v::vs,c::cs,env,tmps,he,hN,hp,hl,hc,hv=>by
   simp only[List.zip_cons_cons,List.foldl_cons,Dq];obtain⟨⟨d,hd,hr⟩,hv'⟩:=hv;simp at hd;subst hd
   refine Bk.binds ps vs cs _ _ (Bk.put (a:={tmps:=tmps,defers:=[]}) he hN (d:=some p) (fun x hx=>by cases hx;exact hp p (.head _)) hr) (by simpa using hN) (fun q hq=>hp q (.tail _ hq)) (by simpa using hl) (by simpa using hc)
    (As hv' fun i _=>by rw[show 0+1+i=i+1 by omega];simp)
 | [],_::_,_,_,_,_,_,_,hl,_,_=>by simp at hl
 | _::_,[],_,_,_,_,_,_,hl,_,_=>by simp at hl
 | _::_,_::_,[],_,_,_,_,_,_,hc,_=>by simp at hc
 | [],[],_::_,_,_,_,_,_,_,hc,_=>by simp at hc
def L5 {L : Nat} {env:Env} {ps:List Nat} {a b:AK} (hσ:Z L=some (.loop .ready env (Bg P ps a b))) {args:List V} (hl:args.length=ps.length) {Q:R->AE->Prop}
    (h:T P a (CA (T P b (fun ex env' Z'=>Z' L=none->RI L env (Bg P ps a b) Q ex env' Z'))) (Dq ps args env) (del Z L)):Nq P L args Z Q:=by
 intro F w cs hR hv;obtain⟨hnl,ob,hob,lp,rfl,⟨hst,hpe⟩,htm,hfn,hps,hplt,pu,fz,hra,hrb⟩:=hR.own L _ hσ;have hsub:=ER Z L;have hAd:Bb F Z w (del Z L) w:=Bb.drop w hsub;have hcs:cs.size=lp.params.size:=by rw[hv.1,hl,<-hps];simp
 refine⟨lp.fn,_,lp.assign,lp.body,run_yield hob hcs,?_⟩
 have hfold:(lp.params.zip cs).foldl (fun tmps (t,a)=>tmps.setIfInBounds t a) lp.tmps=(ps.zip cs.toList).foldl (fun t pa=>t.setIfInBounds pa.1 pa.2) lp.tmps:=by
  rw[<-hps,<-Array.foldl_toList,Array.toList_zip]
 obtain⟨he0,hN0⟩:=Bk.binds (H:=Hh F (del Z L) w) ps args cs.toList env lp.tmps (fun k v hg=>let⟨c,h1,h2⟩:=htm k v (get_mem hg);⟨c,h1,h2.mono hAd.hle⟩) rfl hplt hl (by simpa using hv.1) (As (A8.mono hAd.hle (fun _ _ e=>e) _ _ hv.2) fun i _=>by simp);have hrd:B9 (some L) (del Z L) w:=fun l e=>by cases e;exact⟨Ca Z L,lp,hob⟩
 refine MA hfn ?_;rw[hfold];refine Bq (DF (r:=some L) (a:={tmps:=(ps.zip cs.toList).foldl (fun t pa=>t.setIfInBounds pa.1 pa.2) lp.tmps,defers:=[]}) hra h he0 (hR.drop hsub) hN0 hrd) ?_;rintro e a1 w1 ⟨ex,env1,Z1,hq,hx,he1,hR1,hA1,hN1,hM1⟩;have hrd1:=hrd.Kt hA1
 have hd1:a1.defers= []:=by
  obtain⟨ms,h1,_,_,h2⟩:=hM1;rw[h1,h2 (by simp)];rfl
 cases ex with
 | exit id=>exact hq.elim
 | ret=>exact hq.elim
 | BL v=>exact hq.elim
 | normal=>
   simp only[Ck]at hx;subst hx;obtain⟨hL1,_⟩:=hrd1 L rfl;have hob1:w1.heap[L]? =some (.loop lp):=(hA1.frame L (Cv hob) (Ca Z L)).trans hob;refine⟨_,run_beginRound hob1 hst,?_⟩;have hlt1:=Cv hob1;have hR1':=hR1.put (ob':= .loop {lp with state:= .busy}) hL1 hob1 rfl;have hob1':(w1.putObj L (.loop {lp with state:= .busy})).heap[L]? =some (.loop {lp with state:= .busy}):=World.putObj_heap_same hlt1;have hrd1':B9 (some L) Z1 (w1.putObj L (.loop {lp with state:= .busy})):=fun l e=>by cases e;exact⟨hL1,_,hob1'⟩
   refine Bq (DF (r:=some L) hrb hq (he1.mono (OJ hob1 rfl)) hR1' hN1 hrd1') ?_;rintro e2 a2 w2 ⟨ex2,env2,Z2,hq2,hx2,he2,hR2,hA2,hN2,hM2⟩
   have hd2:a2.defers= []:=by
    obtain⟨ms,h1,_,_,h2⟩:=hM2;rw[h1,h2 (by simp),hd1];rfl
   have hL2:Z2 L=none:=((hrd1'.Kt hA2) L rfl).1;have hq2:=hq2 hL2;have hob2:w2.heap[L]? =some (.loop {lp with state:= .busy}):=(hA2.frame L (Cv hob1') hL1).trans hob1';have hne: ∀ {n:Nat},Z n=none->n≠L:=fun {n} hn e=>by rw[e,hσ]at hn;cases hn
   have hsz:w.heap.size<=w2.heap.size:=by
    have h1:=hA1.size;have h2:=hA2.size;simp at h2;omega
   have hfr: ∀n,n<w.heap.size->Z n=none->w2.heap[n]? =w.heap[n]? /\Z2 n=none:=fun n hn h0=>by
    have h1:=hsub.none h0;have h2:=hA1.names n h1 hn;have hs1:=hA1.size;have h3:=hA2.frame n (by simp;omega) h2;exact⟨h3.trans ((World.putObj_heap_other (hne h0)).trans (hA1.frame n hn h1)),hA2.names n h2 (by simp;omega)⟩
   have fin: ∀(st:ft) (lp3:Loop),lp3.tmps=lp.tmps->lp3.fn=lp.fn->lp3.params=lp.params->lp3.assign=lp.assign->lp3.body=lp.body->ar st lp3->
    Rel F (BO Z2 L (.loop st env (Bg P ps a b))) (w2.putObj L (.loop lp3))/\Bb F Z w (BO Z2 L (.loop st env (Bg P ps a b))) (w2.putObj L (.loop lp3)):=fun st lp3 q1 q2 q3 q4 q5 q6=>by
    have hle:SB (Hh F Z2 w2) (Hh F (BO Z2 L (.loop st env (Bg P ps a b))) (w2.putObj L (.loop lp3))):=by
     intro b' o c hb;obtain⟨h1,h2,h3⟩:=EY hb
     have hbL:b'≠L:=fun e=>by
      subst e;rw[S9 hob2 rfl]at h3;cases h3
     rw[J7 h1 (by rw[Ho (Ne.symm hbL)];exact h2),<-h3];exact World.cell?_of_block (w:=w2) (World.putObj_heap_other hbL)
    have hA:Bb F Z w (BO Z2 L (.loop st env (Bg P ps a b))) (w2.putObj L (.loop lp3)):=by
     refine⟨fun n hn h0=>(World.putObj_heap_other (hne h0)).trans (hfr n hn h0).1,by simpa using hsz,?_,?_,?_,fun n h0 hn=>by rw[Ho (Ne.symm (hne h0))];exact(hfr n hn h0).2⟩
     .exact hA2.os.trans hA1.os
     .exact hA2.tape.trans hA1.tape
     .exact hA2.output.trans hA1.output
    refine⟨⟨fun n o ho=>?_,fun n hn=>by have:=hR2.lock n hn;simpa using this⟩,hA⟩;by_cases hn:n=L
    .subst hn
     have:BO Z2 n (.loop st env (Bg P ps a b)) n=some (.loop st env (Bg P ps a b)):=by simp[BO]
     rw[this]at ho;cases ho;refine⟨hnl,_,World.putObj_heap_same (Cv hob2),lp3,rfl,q6,fun k v hm=>?_,?_⟩
     .obtain⟨c,h1,h2⟩:=htm k v hm
      exact⟨c,by rw[q1];exact h1,h2.mono hA.hle⟩
     .rw[q1,q2,q3,q4,q5]
      exact⟨hfn,hps,hplt,pu,fz,hra,hrb⟩
    .rw[Ho (Ne.symm hn)]at ho
     obtain⟨h1,o',h2,h3⟩:=hR2.own n o ho;exact⟨h1,o',(World.putObj_heap_other hn).trans h2,h3.mono hle⟩
   cases ex2 with
   | normal=>
     simp only[Ck]at hx2;subst hx2;obtain⟨q1,q2⟩:=fin .ready {lp with state:= .ready,pending:=none} rfl rfl rfl rfl rfl ⟨rfl,rfl⟩;exact⟨_,_,run_endRound none hob2,.ret (.b true),_,hq2,⟨_,rfl,rfl⟩,q1,q2⟩
   | ret=>
     simp only[Ck]at hx2;subst hx2;obtain⟨q1,q2⟩:=fin .ret {lp with state:= .done,pending:=some .ret} rfl rfl rfl rfl rfl ⟨rfl,rfl⟩;exact⟨_,_,run_endRound (some .ret) hob2,.ret (.b false),_,hq2,⟨_,rfl,rfl⟩,q1,q2⟩
   | exit id=>
     simp only[Ck]at hx2;subst hx2;obtain⟨q1,q2⟩:=fin (.exit id) {lp with state:= .done,pending:=some (.exit id)} rfl rfl rfl rfl rfl ⟨rfl,rfl⟩;exact⟨_,_,run_endRound (some (.exit id)) hob2,.ret (.b false),_,hq2,⟨_,rfl,rfl⟩,q1,q2⟩
   | BL v=>
     obtain⟨c,rfl,hvr⟩:=hx2;refine⟨hd2,.BL v,Z2,hq2,⟨c,rfl,hvr⟩,hR2,?_⟩;exact⟨fun n hn h0=>(hfr n hn h0).1,hsz,hA2.os.trans hA1.os,hA2.tape.trans hA1.tape,hA2.output.trans hA1.output,fun n h0 hn=>(hfr n hn h0).2⟩
end Go.Gl
