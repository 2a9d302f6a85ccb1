import Derived.RecoverIn
import Derived.Test.YtcfkfhaedllcpaaGreatW10
set_option linter.all false
set_option linter.defProp false
set_option maxHeartbeats 8000000
noncomputable section
namespace Go.Gl
variable {P:Program} {F:Nat->Prop} {Z:AE} {pu:List FuncId} {fz:List Nat} {N n:Nat} {r:Option Nat} {ds:List Deferred}
def NF {ops:Array Oper} {K:Env->AE->Prop} {kp:Env->V->AE->Prop} {QQ:Exit->Act->World->Prop} {Z₀:AE} {w₀:World} {L:List Nat}
    (U: ∀env Z a w,K env Z->CD (Hh F Z w) env a.tmps->Rel F Z w->Bu F Z₀ w₀ Z w->a.tmps.size=N->a.defers=ds->wpOpsIn (wide r) n P ops QQ L a w)
    (hkp: ∀env v Z c a w,kp env v Z->Ab (Hh F Z w) v c->CD (Hh F Z w) env a.tmps->Rel F Z w->Bu F Z₀ w₀ Z w->a.tmps.size=N->a.defers=ds->QQ (.panic [{v:=c,recovered:=false}]) a w) :
    ∀(as:List Am) (j:Nat),(∀(i:Nat) (ao:Am),as[i]? =some ao-> ∃o,ops[j+i]? =some o/\Nn P N ops o=some ao)->
    ∀(env:Env) (Z:AE) (a:Act) (w:World),I3 P (as.map (C0 pu fz)) K kp env Z->CD (Hh F Z w) env a.tmps->Rel F Z w->Bu F Z₀ w₀ Z w->a.tmps.size=N->a.defers=ds->
    wpOpsIn (wide r) n P ops QQ (List.range' j as.length++L) a w
 | [],j,_,env,Z,a,w,h,he,hR,hA,hN,hd=>by
   simp only[List.length_nil,List.range'_zero,List.nil_append];exact U env Z a w h he hR hA hN hd
 | ao::as,j,hget,env,Z,a,w,h,he,hR,hA,hN,hd=>by
   simp only[LF,List.range'_succ,List.cons_append,wpOpsIn];obtain⟨o,hj,h2⟩:=hget 0 ao rfl;simp only[Nat.add_zero]at hj;simp only[hj]
   refine Kx (K:=I3 P (as.map (C0 pu fz)) K kp) (kp:=kp env) h2 he hR hN (by
    simp only[Ex,I3]at h;have:=K8 h
    rwa [Kw]at this) (fun env' Z' c w' hk he' hR' hA'=>?_) (fun v Z' c w' hk hv hR' hA'=>?_)
   .exact NF U hkp as (j+1) (fun i x hx=>by
     obtain⟨o',h3,h4⟩:=hget (i+1) x (by simpa using hx)
     exact⟨o',by rw[<-h3];congr 1;omega,h4⟩) env' Z' _ w' hk he' hR' (hA.trans hA') (by rw[Lz];exact hN) (by rw[put_defers];exact hd)
   .exact hkp env v Z' c a w' hk hv (he.mono hA'.hle) hR' (hA.trans hA') hN hd
def Yw (o:Oper):Option Bf:=
 match o.op,o.guard,o.dst with
 | .defer c,none,none=>match c.callee,c.args.toList with
   | .value x,[]=>BR x
   | _,_=>none
 | _,_,_=>none
def Le (P:Program) (N:Nat) (pu:List FuncId) (fz:List Nat):Code->Option (AV×List Am×Bf×AV)
 | .seq a (.seq (.region _ ops false) c)=>match res P N pu fz a,ops.toList.getLast?.bind Yw,Gv P N ops ops.toList.dropLast,res P N pu fz c with
   | some a',some x,some os,some c'=>some (a',os.map (C0 pu fz),x,c')
   | _,_,_,_=>none
 | _=>none
def ZH (P:Program) (N:Nat) (pu:List FuncId) (fz:List Nat):Code->Option (AV×List Am×Bf×AV)
 | .seq a b=>match res P N pu fz a,Le P N pu fz b with
   | some a',some (b',os,x,c')=>some (.seq [] a' b',os,x,c')
   | _,_=>none
 | _=>none
def Hr (P:Program) (N:Nat) (pu:List FuncId) (fz:List Nat) (c:Code):Option (AV×List Am×Bf×AV):=
 match Le P N pu fz c with
 | some r=>some r
 | none=>ZH P N pu fz c
def isRec (o:Oper):Option Nat:=
 match o.op,o.guard,o.dst with
 | .call c,none,some k=>match c.callee,c.args.toList with
   | .builtin .recover,[]=>some k
   | _,_=>none
 | _,_,_=>none
def resRec (P:Program) (N:Nat) (pu:List FuncId) (fz:List Nat):Code->Option (Nat×List Am×AV)
 | .seq (.region _ ops false) c=>match ops.toList with
   | o::l=>match isRec o,Gv P N ops l,res P N pu fz c with
     | some k,some os,some c'=>if k<N then some (k,os.map (C0 pu fz),c')else none
     | _,_,_=>none
   | []=>none
 | _=>none
def WU {c : Code} {k:Nat} {os:List Am} {ac:AV} (h:resRec P N pu fz c=some (k,os,ac)): ∃id ops c2 o ol os',c= .seq (.region id ops false) c2/\ops.toList=o::ol/\isRec o=some k/\Gv P N ops ol=some os'/\os=os'.map (C0 pu fz)/\
    res P N pu fz c2=some ac/\k<N:=by
 unfold resRec at h;split at h
 .rename_i id ops c2
  split at h
  .rename_i o ol hops
   split at h
   .rename_i k os' c' h1 h2 h3
    split at h
    .rename_i hk
     simp only[Hl,Prod.mk.injEq]at h;obtain⟨rfl,rfl,rfl⟩:=h;exact⟨id,ops,c2,o,ol,os',rfl,hops,h1,h2,rfl,h3,hk⟩
    .cases h
   .cases h
  .cases h
 .cases h
def ML {c:Code} {a c':AV} {os:List Am} {x:Bf} (h:Le P N pu fz c=some (a,os,x,c')): ∃ca id ops cc o os',c= .seq ca (.seq (.region id ops false) cc)/\ops.toList.getLast? =some o/\Yw o=some x/\Gv P N ops ops.toList.dropLast=some os'/\os=os'.map (C0 pu fz)/\
    res P N pu fz ca=some a/\res P N pu fz cc=some c':=by
 unfold Le at h;split at h
 .rename_i ca id ops cc
  split at h
  .rename_i a1 x1 os' c1 h1 h2 h3 h4
   simp only[Hl,Prod.mk.injEq]at h;obtain⟨rfl,rfl,rfl,rfl⟩:=h;obtain⟨o,h5,h6⟩:=Option.bind_eq_some_iff.1 h2;exact⟨ca,id,ops,cc,o,os',rfl,h5,h6,h3,rfl,h1,h4⟩
  .cases h
 .cases h
def Pre (P:Program) (N:Nat) (pu:List FuncId) (fz:List Nat) (c:Code) (a:AV) (X:Code):Prop:=
 (∃ca,c= .seq ca X/\res P N pu fz ca=some a)\/ ∃c1 c2 a1 a2,c= .seq c1 (.seq c2 X)/\res P N pu fz c1=some a1/\res P N pu fz c2=some a2/\a= .seq [] a1 a2
def WV {c:Code} {a c':AV} {os:List Am} {x:Bf} (h:Hr P N pu fz c=some (a,os,x,c')): ∃id ops cc o os',Pre P N pu fz c a (.seq (.region id ops false) cc)/\ops.toList.getLast? =some o/\Yw o=some x/\Gv P N ops ops.toList.dropLast=some os'/\os=os'.map (C0 pu fz)/\
    res P N pu fz cc=some c':=by
 unfold Hr at h;split at h
 .rename_i r hr
  cases h;obtain⟨ca,id,ops,cc,o,os',rfl,h1,h2,h3,h4,h5,h6⟩:=ML hr;exact⟨id,ops,cc,o,os',.inl ⟨ca,rfl,h5⟩,h1,h2,h3,h4,h6⟩
 .cases c<;>simp only[ZH,reduceCtorEq]at h
  rename_i c1 b _;cases h1:res P N pu fz c1 with
  | none=>rw[h1]at h;cases h
  | some a1=>
    cases h2:Le P N pu fz b with
    | none=>rw[h1,h2]at h;cases h
    | some r=>
      obtain⟨b1,os1,x1,c2⟩:=r;rw[h1,h2]at h;cases h;obtain⟨ca,id,ops,cc,o,os',rfl,k1,k2,k3,k4,k5,k6⟩:=ML h2;exact⟨id,ops,cc,o,os',.inr ⟨c1,ca,a1,b1,rfl,h1,k5,rfl⟩,k1,k2,k3,k4,k6⟩
def bf {r:Option Nat} {c X:Code} {ac:AV} (hp:Pre P N pu fz c (erase ac) X) {Q:Aa->Env->AE->Prop} {env:Env} {Z:AE} {a:Act} {w:World} (h:T P ac Q env Z) (he:CD (Hh F Z w) env a.tmps) (hR:Rel F Z w) (hN:a.tmps.size=N) (hrd:Co r Z w) {Q0:Exit->Act->World->Prop}
    (H: ∀e a1 w1,GZ r F Z w N a.defers Q e a1 w1->Exit.then (OJ r P X Q0) Q0 e a1 w1):OJ r P c Q0 a w:=by
 rcases hp with⟨ca,rfl,h1⟩|⟨c1,c2,a1,a2,rfl,h1,h2,h3⟩
 .exact JT (CK (EF (r:=r) h1 h he hR hN hrd) H)
 .cases ac<;>simp only[erase,reduceCtorEq,AV.seq.injEq]at h3
  rename_i l b1 b2;obtain⟨_,e1,e2⟩:=h3;subst e1;subst e2;simp only[T]at h;refine JT (CK (EF (r:=r) h1 h he hR hN hrd) ?_);rintro e a' w' ⟨ex,env',Z',hq,hx,he',hR',hA,hN',hM'⟩;cases ex with
  | normal=>
    simp only[DX]at hx;subst hx;simp only[Aa.andThen]at hq;rcases hq with hq|⟨env2,Z2,f1,f2,hq⟩
    .exact JT (CK (EF (r:=r) h2 hq (he'.prune l) hR' hN' (hrd.G9 hA)) fun e a w hp=>H e a w (hp.trans hA hM'))
    .have hA2:=hA.trans (Bu.fz w' f1)
     exact JT (CK (EF (r:=r) h2 hq ((he'.prune l).fz hR' f1 f2) (hR'.fz f1) hN' (hrd.G9 hA2)) fun e a w hp=>H e a w (hp.trans hA2 (hM'.G9 (Bu.fz (F:=F) w' f1))))
  | ret=>
    simp only[DX]at hx;subst hx;exact H _ _ _ ⟨.ret,env',Z',hq,rfl,he',hR',hA,hN',hM'⟩
  | exit id=>
    simp only[DX]at hx;subst hx;exact H _ _ _ ⟨.exit id,env',Z',hq,rfl,he',hR',hA,hN',hM'⟩
  | Bb v=>
    obtain⟨c,rfl,hv⟩:=hx;exact H _ _ _ ⟨.Bb v,env',Z',hq,⟨c,rfl,hv⟩,he',hR',hA,hN',hM'⟩
def XP {Z₀:AE} {w₀:World} {cs:List Frame}: ∀(ms:List Nat) (fr:Frame) (w:World),ms.Nodup->(∀D∈ms,w₀.heap.size<=D/\Z D=none/\w.heap[D]? =some (.deferred (some [])))->fr.mode≠ .run->fr.defers=ms.map EI->
    Rel F Z w->Bu F Z₀ w₀ Z w-> ∃w',StepsIn (Machine.fenced P (wide none)) P (lone fr cs w) (lone {fr with defers:=[]} cs w')/\Rel F Z w'/\Bu F Z₀ w₀ Z w'
 | [],fr,w,_,_,_,hd,hR,hA=>by
   have:({fr with defers:=[]}:Frame)=fr:=by cases fr;simp_all
   exact⟨w,by rw[this];exact .refl _,hR,hA⟩
 | D ::ms,fr,w,hnd,hms,hm,hd,hR,hA=>by
   obtain⟨h1,h2,h3⟩:=hms D (.head _);have hnd':=List.nodup_cons.1 hnd;have hs:=step_collected (P:=P) (fr:=fr) (cs:=cs) (d:=EI D) (ds:=ms.map EI) (r:=D) hm hd rfl (run_takeDeferred h3)
   obtain⟨w',q1,q2,q3⟩:=XP (Z₀:=Z₀) (w₀:=w₀) (cs:=cs) ms {fr with defers:=[]++ms.map EI} (w.putObj D (.deferred none)) hnd'.2 (fun E hE=>by
    obtain⟨h4,h5,h6⟩:=hms E (.tail _ hE)
    exact⟨h4,h5,(World.putObj_heap_other (fun e=>hnd'.1 (by rw[<-e];exact hE))).trans h6⟩) hm rfl (hR.put h2 h3 rfl) (hA.ZM h1)
   exact⟨w',.head (fenced_lone (.inl trivial) (fun _ _=>trivial) Gu) hs q1,q2,q3⟩
def Gs (P:Program) (f:FuncId) (args:List V) (m:Option V) (Z:AE) (Q:AE->Prop):Prop:=
 okF P f=true/\ ∀(F:Nat->Prop) (w:World) (cs:Array Value) (u:FrameMode),Rel F Z w->dg (Hh F Z w) args cs->
  (match m with|none=>u= .returning|some v=> ∃c,Ab (Hh F Z w) v c/\u= .panicking [{v:=c,recovered:=false}])->
  CallsDIn (wide none) 0 P f cs u w fun e u' w'=>(∃v,e= .returned v)/\settle u'= .returning/\ ∃Z',Q Z'/\Rel F Z' w'/\Bu F Z w Z' w'
def Ms (Q:AE->Prop):Aa->Env->AE->Prop
 | .normal,_,Z| .ret,_,Z=>Q Z
 | _,_,_=>False
def Hi {f:FuncId} {fn:Func} {k:Nat} {os:List Am} {l:List Nat} {ac:AV} (hf:P.funcs[f]? =some fn) (hok:okF P f=true) (hb:fn.body.bind (resRec P fn.ntmps pu fz)=some (k,os,erase ac)) (hr:fn.results= #[])
    {args:List V} (hn:args.length<=fn.ntmps) {m:Option V} {Z:AE} {Q:AE->Prop} (h:T P (.seq l (.B5 os) ac) (Ms Q) (put (some k) (m.getD .DZ) (A2 0 args)) Z):Gs P f args m Z Q:=by
 refine⟨hok,fun F w cs u hR hv hu=>?_⟩;obtain⟨c,hc,hb⟩:=Option.bind_eq_some_iff.1 hb;obtain⟨id,ops,c2,o,ol,os',rfl,hops,h1,h2,rfl,h3,hkN⟩:=WU hb
 have ho0:ops[0]? =some o:=by
  rw[<-Array.getElem?_toList,hops];rfl
 have hsz:ops.size=1+ol.length:=by
  rw[<-Array.length_toList,hops];simp;omega
 obtain⟨hl1,hl2⟩:=GJ h2
 obtain⟨rv,u',hrv,hu',hst⟩: ∃(rv:Value) (u':FrameMode),Ab (Hh F Z w) (m.getD .DZ) rv/\(∀(c₀:Frame) (fs:List Frame),c₀.mode=u->(recoverD (c₀::fs)=some (rv,{c₀ with mode:=u'}::fs)\/(recoverD (c₀::fs)=none/\rv= .nilIface/\u'=u)))/\settle u'= .returning:=by
  cases m with
  | none=>
    simp only at hu;subst hu;exact⟨.nilIface,.returning,rfl,fun c₀ fs hm=> .inr ⟨by simp[recoverD,hm],rfl,rfl⟩,rfl⟩
  | some v=>
    obtain⟨d,hd,rfl⟩:=hu;exact⟨d,.panicking [{v:=d,recovered:=true}],hd,fun c₀ fs hm=> .inl (by simp[recoverD,hm]),rfl⟩
 have he:CD (Hh F Z w) (A2 0 args) (cs++Array.replicate (fn.ntmps - cs.size) undef):=by
  intro k v hg;obtain⟨_,h2⟩:=FO args 0 k v hg;simp only[Nat.sub_zero]at h2;obtain⟨d,h3,h4⟩:=BW.1 hv.2 k v h2;simp only[Gj]at h3;refine⟨d,?_,h4⟩;rw[Array.getElem?_append_left (by have:=(nq.1 h3).1;exact this)];exact h3
 have hsz0:(cs++Array.replicate (fn.ntmps - cs.size) undef).size=fn.ntmps:=by
  simp only[Array.size_append,Array.size_replicate];have:=hv.1;omega
 obtain⟨cc,hop,hg,hd⟩: ∃cc,o.op= .call cc/\o.guard=none/\o.dst=some k/\cc.callee= .builtin .recover/\cc.args= #[]:=by
  unfold isRec at h1;split at h1
  .rename_i cc k2 e1 e2 e3
   split at h1
   .rename_i e4 e5
    cases h1;exact⟨cc,e1,e2,e3,e4,Array.toList_eq_nil_iff.1 e5⟩
   .cases h1
  .cases h1
 obtain⟨hd,hcal,hargs⟩:=hd
 have he1:CD (Hh F Z w) (put (some k) (m.getD .DZ) (A2 0 args)) (({tmps:=cs++Array.replicate (fn.ntmps - cs.size) undef,defers:=[]}:Act).put (some k) rv).tmps:=
  he.put (a:={tmps:=cs++Array.replicate (fn.ntmps - cs.size) undef,defers:=[]}) hsz0 (d:=some k) (fun x hx=>by cases hx;exact hkN) hrv
 simp only[T]at h
 have hW:=NF (P:=P) (F:=F) (r:=none) (n:=0) (ds:=[]) (Z₀:=Z) (w₀:=w) (L:=[]) (pu:=pu) (fz:=fz) (ops:=ops) (QQ:=Exit.then (OJ none P c2 (fun e a' w'=>GZ none F Z w fn.ntmps [] (Ms Q) e a' w')) (fun e a' w'=>GZ none F Z w fn.ntmps [] (Ms Q) e a' w'))
  (N:=fn.ntmps)
  (K:=fun env Z=>Aa.andThen (fun env Z=>Fz (Gl.prune l env) Z (T P ac (Ms Q))) (Ms Q) .normal env Z) (kp:=fun env v Z=>Aa.andThen (fun env Z=>Fz (Gl.prune l env) Z (T P ac (Ms Q))) (Ms Q) (.Bb v) env Z)
  (fun env Z1 a1 w1 hk he hR1 hA1 hN1 hd1=>by
   simp only[wpOpsIn,Exit.then];simp only[Aa.andThen]at hk;rcases hk with hk|⟨env2,Z2,f1,f2,hk⟩
   .refine CK (EF (r:=none) h3 hk (he.prune l) hR1 hN1 Co.none) fun e a' w' ht=>?_
    exact GZ.trans hA1 (by rw[hd1];exact Marks.refl _ _ _ _ _) ht
   .refine CK (EF (r:=none) h3 hk ((he.prune l).fz hR1 f1 f2) (hR1.fz f1) hN1 Co.none) fun e a' w' ht=>?_
    exact GZ.trans (hA1.trans (Bu.fz w1 f1)) (by rw[hd1];exact Marks.refl _ _ _ _ _) ht)
  (fun env v Z1 c1 a1 w1 hk hv1 he1 hR1 hA1 hN1 hd1=>hk.elim)
  os' 1 (fun i ao hao=>by
   have hlt:i<ol.length:=by
    rw[hl1];exact(IN.1 hao).1
   obtain⟨x,hx,hy⟩:=hl2 i ol[i] (by simp[hlt]);rw[hao]at hx;cases hx;refine⟨ol[i],?_,hy⟩;rw[<-Array.getElem?_toList,hops,show 1+i=i+1 by omega]
   simp[hlt])
  _ Z _ w h he1 hR (Bu.refl _ _ _) (by rw[Lz];exact hsz0) rfl
 simp only[Ip]at hW;refine⟨trivial,fun c₀ fs hu0 hroom=>?_⟩
 let b:Frame:={(default:Frame)with fn:=f,kind:= .deferred,roundOf:=none}
 have henter:Frame.enter P f cs .deferred =
  b.atR {tmps:=cs++Array.replicate (fn.ntmps - cs.size) undef,defers:=[]} [.code (.seq (.region id ops false) c2)]:=by
  simp[Frame.enter,Frame.atR,hf,hc,b]
 let a0:Act:={tmps:=cs++Array.replicate (fn.ntmps - cs.size) undef,defers:=[]}
 have s1:StepsIn (Machine.fenced P (wide none)) P (lone (b.atR a0 [.code (.seq (.region id ops false) c2)]) (c₀::fs) w) (lone (b.atR a0 [.code (.region id ops false),.code c2]) (c₀::fs) w):= .one (FZ rfl) stepR_seq;have s2:StepsIn (Machine.fenced P (wide none)) P (lone (b.atR a0 [.code (.region id ops false),.code c2]) (c₀::fs) w) (lone (b.atR a0 [.inRegion ops (List.range ops.size),.code c2]) (c₀::fs) w):= .one (FZ rfl) stepR_region
 have hrange:List.range ops.size=0::List.range' 1 os'.length:=by
  rw[List.range_eq_range',hsz,hl1,show 1+os'.length=os'.length+1 by omega,List.range'_succ]
 have hwant:Region.wanted o (yielded ops a0.tmps)=true:=by simp[Region.wanted,hg]
 have hrun:(execOp a0.eval o).run P w= .ok .recover w:=by
  unfold execOp;simp only[hop];simp only[resolve,hcal,hargs,invoke,builtin,DG,Ej,GS]
 have s3:StepsIn (Machine.fenced P (wide none)) P (lone (b.atR a0 [.inRegion ops (0::List.range' 1 os'.length),.code c2]) (c₀::fs) w) (lone (b.atR (a0.put (some k) rv) [.inRegion ops (List.range' 1 os'.length),.code c2]) ({c₀ with mode:=u'}::fs) w):=by
  refine .one (fenced_lone (.inl trivial) (fun _ _=>trivial) Gu) (step_lone_go ?_);have hgop:=stepGR_op (P:=P) (b:=b) (a:=a0) (k:=[.code c2]) (cs:=c₀::fs) (w:=w) (rest:=List.range' 1 os'.length) ho0 hwant;rw[show b.roundOf=none from rfl,Oper.semAt_none]at hgop;rw[hgop]
  have hfin: ∀v,(b.atR a0 (.inRegion ops (0::List.range' 1 os'.length):: [.code c2])).finish v=b.atR (a0.put (some k) v) (.inRegion ops (List.range' 1 os'.length):: [.code c2]):=by
   intro v;rw[Frame.finish_atR,ho0];simp only[Option.bind_some,hd]
  have htr:=tryRecover_deferred (fr:=b.atR a0 (.inRegion ops (0::List.range' 1 os'.length):: [.code c2])) rfl (c₀::fs);have hrn:(b.atR a0 (.inRegion ops (0::List.range' 1 os'.length):: [.code c2])).roundOf=none:=rfl;rw[<-hfin];rcases hu' c₀ fs hu0 with hrec|⟨hrec,rfl,rfl⟩
  .rw[hrec]at htr
   simp[stepG.apply,hrun,htr,hrn]
  .rw[hrec]at htr
   have hcm:({c₀ with mode:=u'}:Frame)=c₀:=by cases c₀;simp_all
   rw[hcm];simp[stepG.apply,hrun,htr,hrn]
 have hres0: ∀(tm:Array Value) (w:World),(results fn tm).run P w= .ok (.tuple #[]) w:=fun tm w=>by
  rw[H9,hr];simp
 have out: ∀(m0:Machine) (a2:Act) (w2:World) (todo:List Item) (Z2:AE),StepsIn (Machine.fenced P (wide none)) P m0 (lone {b.atR a2 todo with mode:= .returning} ({c₀ with mode:=u'}::fs) w2)->Q Z2->Rel F Z2 w2->Bu F Z w Z2 w2->
  Marks none w Z2 w2 [] a2.defers-> ∃e u'' w' fr,((∃v,e=Ending.returned v)/\settle u''= .returning/\ ∃Z',Q Z'/\Rel F Z' w'/\Bu F Z w Z' w')/\
   ComesIn (Machine.fenced P (wide none)) P m0 (lone fr ({c₀ with mode:=u''}::fs) w') e/\fr.kind= .deferred/\fr.fn=f/\fr.going P w' e:=fun m0 a2 w2 todo Z2 hs hq hR2 hA2 ⟨ms,hms,hnd,hD,_⟩=>by
  obtain⟨w',q1,q2,q3⟩:=XP (P:=P) (cs:={c₀ with mode:=u'}::fs) ms {b.atR a2 todo with mode:= .returning} w2 hnd hD (by simp) (by simpa[Frame.atR]using hms) hR2 hA2;exact⟨.returned (.tuple #[]),u',w',_,⟨⟨_,rfl⟩,hst,Z2,hq,q2,q3⟩,hs.trans q1,rfl,rfl,rfl,rfl,fn,hf,hres0 _ _⟩
 have fin: ∀(m0:Machine) (e:Exit) (a2:Act) (w2:World),GZ none F Z w fn.ntmps [] (Ms Q) e a2 w2->ArrivesIn (Machine.fenced P (wide none)) P m0 b [] ({c₀ with mode:=u'}::fs) e a2 w2->
  ∃ e u'' w' fr,((∃v,e=Ending.returned v)/\settle u''= .returning/\ ∃Z',Q Z'/\Rel F Z' w'/\Bu F Z w Z' w')/\
    ComesIn (Machine.fenced P (wide none)) P m0 (lone fr ({c₀ with mode:=u''}::fs) w') e/\fr.kind= .deferred/\fr.fn=f/\fr.going P w' e:=fun m0 e a2 w2 ⟨ex,env,Z2,hq,hx,he2,hR2,hA2,hN2,hM2⟩ harr=>by
  cases ex with
  | exit id=>exact hq.elim
  | Bb v=>exact hq.elim
  | normal=>
    simp only[DX]at hx;subst hx;exact out m0 a2 w2 [] Z2 (StepsIn.trans harr (.one (FZ rfl) (stepR_end rfl))) hq hR2 hA2 hM2
  | ret=>
    simp only[DX]at hx;subst hx;obtain⟨todo,hs⟩:=harr.1 rfl;exact out m0 a2 w2 todo Z2 hs hq hR2 hA2 hM2
 obtain⟨e,a1,w1,hq,harr⟩:=wp_opsIn _ _ _ hW b [.code c2] ({c₀ with mode:=u'}::fs) rfl trivial Gu;rw[henter];have s123:=(s1.trans s2).trans (hrange ▸ s3);have fin': ∀ {m1:Machine},StepsIn (Machine.fenced P (wide none)) P m1 m1:=fun {m1}=> .refl m1
 cases e with
 | normal=>
   obtain⟨e2,a2,w2,hq2,harr2⟩:=hq b [] ({c₀ with mode:=u'}::fs) rfl ⟨fn,hf⟩;exact fin _ e2 a2 w2 hq2 (.of_steps (s123.trans harr) harr2)
 | ret=>
   obtain⟨ex,env,Z2,hq,hx,he2,hR2,hA2,hN2,hM2⟩:=hq;obtain⟨todo,hs⟩:=harr.1 rfl;refine out _ a1 w1 todo Z2 (s123.trans hs) ?_ hR2 hA2 hM2;cases ex<;>first|exact hq|exact hq.elim
 | exit id=>
   obtain⟨ex,env,Z2,hq,hx,_⟩:=hq;cases ex<;>first|exact hq.elim|(simp[DX]at hx)
 | panic ch=>
   obtain⟨ex,env,Z2,hq,hx,_⟩:=hq;cases ex<;>first|exact hq.elim|(simp[DX]at hx)
 | goto l=>
   obtain⟨ex,env,Z2,hq,hx,_⟩:=hq;cases ex<;>first|exact hq.elim|(simp[DX]at hx)
 | outgrown=>
   obtain⟨ex,env,Z2,hq,hx,_⟩:=hq;cases ex<;>first|exact hq.elim|(simp[DX]at hx)
end Go.Gl
namespace Go.Gl
variable {P:Program} {F:Nat->Prop} {Z:AE} {pu:List FuncId} {fz:List Nat} {N n:Nat} {r:Option Nat} {ds:List Deferred}
def qA (P:Program) (g:FuncId) (cap:List V) (AG:List RS) (Q:R->AE->Prop):Aa->Env->AE->Prop
 | .normal,env,Z| .ret,env,Z=>Gs P g cap none Z fun Z'=>UY Z' env AG fun vs=>Aq Z' (Ef vs) Q
 | .Bb v,env,Z=>Gs P g cap (some v) Z fun Z'=>UY Z' env AG fun vs=>Aq Z' (Ef vs) Q
 | .exit _,_,_=>False
def O6 (P:Program) (x:Bf) (l:List Nat) (ac:AV) (AG:List RS) (Q:R->AE->Prop) (env:Env) (Z:AE):Prop:=
 wv (ev env x) fun vf=>match vf with
  | .f (.func g) [] cap=>T P ac (qA P g cap AG Q) (prune l env) Z
  | _=>False
def FP {f : FuncId} {fn:Func} {aA aC:AV} {os:List Am} {x:Bf} {l1 l2:List Nat} {AG:List RS} (hf:P.funcs[f]? =some fn) (hok:okF P f=true)
    (hb:fn.body.bind (Hr P fn.ntmps pu fz)=some (erase aA,os,x,erase aC)) (hr:Mi P fn.results.toList=some AG)
    {args:List V} (hn:args.length<=fn.ntmps) {Z:AE} {Q:R->AE->Prop} (h:T P (.seq l1 aA (.B5 os)) (CX (O6 P x l2 aC AG Q)) (A2 0 args) Z):A3 P f args Z Q:=by
 refine⟨hok,fun F w cs hR hv=>?_⟩;obtain⟨c,hc,hb⟩:=Option.bind_eq_some_iff.1 hb;obtain⟨id,ops,cc,o,os',hra,hlast,hdf,hos,rfl,hrc⟩:=WV hb;refine callsIn_wide (n:=0) |>.1 (GR hf hc ?_)
 have he:CD (Hh F Z w) (A2 0 args) (cs++Array.replicate (fn.ntmps - cs.size) undef):=by
  intro k v hg;obtain⟨_,h2⟩:=FO args 0 k v hg;simp only[Nat.sub_zero]at h2;obtain⟨d,h3,h4⟩:=BW.1 hv.2 k v h2;simp only[Gj]at h3;refine⟨d,?_,h4⟩;rw[Array.getElem?_append_left (by have:=(nq.1 h3).1;exact this)];exact h3
 have hsz:(cs++Array.replicate (fn.ntmps - cs.size) undef).size=fn.ntmps:=by
  simp only[Array.size_append,Array.size_replicate];have:=hv.1;omega
 obtain⟨cl,xo,hop,hg,hd,hcal,hargs,hxo⟩: ∃cl xo,o.op= .defer cl/\o.guard=none/\o.dst=none/\cl.callee= .value xo/\cl.args= #[]/\BR xo=some x:=by
  unfold Yw at hdf;split at hdf
  .rename_i cl e1 e2 e3
   split at hdf
   .rename_i xo e4 e5
    exact⟨cl,xo,e1,e2,e3,e4,Array.toList_eq_nil_iff.1 e5,hdf⟩
   .cases hdf
  .cases hdf
 obtain⟨hl1,hl2⟩:=GJ hos;have hne:ops.toList≠[]:=fun e=>by rw[e]at hlast;cases hlast
 have hsplit:ops.toList=ops.toList.dropLast++[o]:=by
  have h1:=List.dropLast_concat_getLast hne;rw[List.getLast?_eq_some_getLast hne]at hlast;simp only[Hl]at hlast;rw[hlast]at h1;exact h1.symm
 have hsize:ops.size=os'.length+1:=by
  rw[<-Array.length_toList,hsplit];simp[<-hl1]
 have hlasto:ops[os'.length]? =some o:=by
  rw[<-Array.getElem?_toList,hsplit,<-hl1];simp
 simp only[T]at h;refine bf (r:=none) (a:={tmps:=cs++Array.replicate (fn.ntmps - cs.size) undef,defers:=[]}) hra h he hR hsz Co.none ?_;rintro e a1 w1 ⟨ex,env1,Z1,hq,hx,he1,hR1,hA1,hN1,hM1⟩;cases ex with
 | exit id=>exact hq.elim
 | ret=>exact hq.elim
 | Bb v=>exact hq.elim
 | normal=>
   simp only[DX]at hx;subst hx;simp only[Aa.andThen]at hq
   obtain⟨env1,Z1,he1,hR1,hA1,hM1,hq⟩: ∃env2 Z2,CD (Hh F Z2 w1) env2 a1.tmps/\Rel F Z2 w1/\Bu F Z w Z2 w1/\Marks none w Z2 w1 [] a1.defers/\I3 P (os'.map (C0 pu fz)) (fun env Z=>CX (O6 P x l2 aC AG Q) .normal env Z) (fun env v Z=>CX (O6 P x l2 aC AG Q) (.Bb v) env Z) env2 Z2:=by
    rcases hq with hq|⟨env2,Z2,f1,f2,hq⟩
    .exact⟨_,_,he1.prune l1,hR1,hA1,hM1,hq⟩
    .exact⟨env2,Z2,(he1.prune l1).fz hR1 f1 f2,hR1.fz f1,hA1.trans (Bu.fz w1 f1),hM1.G9 (Bu.fz (F:=F) w1 f1),hq⟩
   refine JT (Hq (n:=0) (wpIn_region ?_));rw[List.range_eq_range',hsize,<-List.range'_append_1];simp only[List.range'_one,Gj]
   refine NF (P:=P) (F:=F) (r:=none) (n:=0) (ds:=a1.defers) (Z₀:=Z1) (w₀:=w1) (pu:=pu) (fz:=fz) (N:=fn.ntmps) (K:=fun env Z=>CX (O6 P x l2 aC AG Q) .normal env Z)
    (kp :=fun env v Z=>CX (O6 P x l2 aC AG Q) (.Bb v) env Z) (fun env2 Z2 a2 w2 hk he2 hR2 hA2 hN2 hd2=>?_) (fun _ _ _ _ _ _ h=>h.elim) os' 0 (fun i ao hao=>by
     have hlt:i<ops.toList.dropLast.length:=by
      rw[hl1];exact(IN.1 hao).1
     obtain⟨y,hx,hy⟩:=hl2 i _ (Cy hlt);rw[hao]at hx;cases hx;refine⟨_,?_,hy⟩;rw[<-Array.getElem?_toList,Gj];have e1:ops.toList[i]? =(ops.toList.dropLast++[o])[i]? :=congrArg (fun l=>l[i]?) hsplit
     rw[e1,jq hlt,Cy hlt]) _ Z1 a1 w1 hq he1 hR1 (Bu.refl _ _ _) hN1 rfl
   obtain⟨vf,hvf,hk⟩:=U2 hk
   obtain⟨g,cap,rfl,hk⟩: ∃g cap,vf= .f (.func g) [] cap/\T P aC (qA P g cap AG Q) (prune l2 env2) Z2:=by
    split at hk
    .exact⟨_,_,rfl,hk⟩
    .exact hk.elim
   obtain⟨f',c',e1,e2,e3,e4,e5⟩:=An he2 hxo hvf;have e2':f'= #[]:=Array.size_eq_zero_iff.1 e2;subst e2';have hwant:Region.wanted o (yielded ops a2.tmps)=true:=by simp[Region.wanted,hg]
   simp only[wpOpsIn,hlasto];rw[if_pos hwant];refine⟨fun _ _=>trivial,?_⟩
   have hrun:(o.semAt (wide none).round a2.eval).run P w2= .ok (.defer {target:= .fn (.func g) c',args:= #[]}) w2:=by
    show(execOp a2.eval o).run P w2=_;unfold execOp;simp only[hop,resolve,hcal,hargs,e1,Deferred.ofValue,DG,Ej,GS];simp
   rw[hrun];simp only[Oper.uponIn,hd,Act.put,Exit.then];obtain⟨m1,hm1,hnd1,hD1,_⟩:=hM1;simp only[Ip]at hm1;refine CK (EF (r:=none) hrc hk (he2.prune l2) hR2 hN2 Co.none) ?_;rintro e a3 w3 ⟨ex,env3,Z3,hq3,hx3,he3,hR3,hA3,hN3,m3,hm3,hnd3,hD3,_⟩;simp only[hd2,hm1]at hm3
   have last: ∀(w5:World) (Z5:AE),Bu F Z2 w2 Z5 w5->Ym (Hh F Z3 w3) (Hh F Z5 w5)->Rel F Z5 w5->(UY Z5 env3 AG fun vs=>Aq Z5 (Ef vs) Q)->
    LeavesInM (wide none) 0 P fn a3.tmps (fun e w'=> ∃r Z',Q r Z'/\U1 (Hh F Z' w') r e/\Rel F Z' w'/\Bu F Z w Z' w') (m1.map EI) .returning w5:=fun w5 Z5 hA5 hle hR5 hw=>by
    rw[<-Ip (m1.map EI)];have hA25:=hA2.trans hA5;refine DF (Z₀:=Z) (w₀:=w) (by simp) m1 w5 hnd1 (fun D hD=>?_) hR5 (hA1.trans hA25) fun w6 q1 q2 q3=>?_
    .obtain⟨h4,h5,h6⟩:=hD1 D hD
     exact⟨h4,hA25.names D h5 (Dl h6),(hA25.frame D (Dl h6) h5).trans h6⟩
    .obtain⟨c,vs,h5,h6,vf,Z'',h2,h3,h4⟩:=MK (P:=P) hr q1 ((he3.mono hle).mono q3) hw
     exact⟨c,h5,.ret vf,Z'',h4,⟨c,rfl,h3.rel q1 h2 h6⟩,q1.drop h2,q2.trans (Bu.drop w6 h2)⟩
   have main: ∀(m:Option V) (u:FrameMode),u≠ .run->(Gs P g cap m Z3 fun Z'=>UY Z' env3 AG fun vs=>Aq Z' (Ef vs) Q)->
    (∀w4,Ym (Hh F Z3 w3) (Hh F Z3 w4)->(match m with|none=>u= .returning|some v=> ∃c,Ab (Hh F Z3 w4) v c/\u= .panicking [{v:=c,recovered:=false}]))->
    LeavesInM (wide none) 0 P fn a3.tmps (fun e w'=> ∃r Z',Q r Z'/\U1 (Hh F Z' w') r e/\Rel F Z' w'/\Bu F Z w Z' w') a3.defers u w3:=fun m u hu hD hm=>by
    rw[hm3];refine DF (Z₀:=Z2) (w₀:=w2) hu m3 w3 hnd3 hD3 hR3 hA3 fun w4 q1 q2 q3=>?_
    refine⟨hu,.inr ⟨fun hd=>by simp[wide,Fence.wide]at hd,.func g,c',g,c',rfl,?_,fun _ _=>trivial,?_⟩⟩
    .simp only[invoke,Array.empty_append]
     exact IJ hD.1 _ _
    .obtain⟨k1,k2⟩:=hD.2 F w4 c' u q1 ⟨e4,BT.mono q3 (fun _ _ e=>e) _ _ (BT.mono hA3.hle (fun _ _ e=>e) _ _ e5)⟩ (hm w4 q3)
     refine⟨k1,fun c cs hcu hroom=>?_⟩;obtain⟨e,u',w5,fr,⟨⟨v,rfl⟩,hst,Z5,hw,hR5,hA5⟩,hrest⟩:=k2 c cs hcu hroom;refine⟨.returned v,u',w5,fr,?_,hrest⟩;simp only;rw[hst];exact last w5 Z5 (q2.trans hA5) (fun b o c hc=>hA5.hle b o c (q3 b o c hc)) hR5 hw
   cases ex with
   | exit id=>exact hq3.elim
   | normal=>
     simp only[DX]at hx3;subst hx3;exact main none .returning (by simp) hq3 fun _ _=>rfl
   | ret=>
     simp only[DX]at hx3;subst hx3;exact main none .returning (by simp) hq3 fun _ _=>rfl
   | Bb v=>
     obtain⟨c,rfl,hv3⟩:=hx3;exact main (some v) (.panicking [{v:=c,recovered:=false}]) (by simp) hq3 fun w4 hle=>⟨c,hv3.mono hle,rfl⟩
end Go.Gl
namespace Go.Gl
variable {P:Program} {Z:AE} {env env':Env}
abbrev pk:List Nat->Env->(Env->Prop)->Prop
 | [],_,k=>k []
 | s::r,env,k=>match get s env with
   | some v=>pk r env fun e=>k ((s,v)::e)
   | none=>pk r env k
def Fi: ∀ {l:List Nat} {env:Env} {k:Env->Prop},pk l env k=k (prune l env)
 | [],_,_=>rfl
 | s::r,env,k=>by
   simp only[pk,prune];cases get s env with
   | none=>exact Fi (l:=r)
   | some v=>exact Fi (l:=r)
abbrev WM:=(Aa->Env->AE->Prop)->Env->AE->Prop
def WT (P:Program) (ops:List Am) (K:Env->AE->Prop) (kp:Env->V->AE->Prop):Env->AE->Prop:=
 List.rec (motive:=fun _=>Env->AE->Prop) K (fun o _ ih env Z=>Hm P o env Z (fun v Z'=>ih (put o.dst v env) Z') (kp env)) ops
def o6 {P:Program} {K:Env->AE->Prop} {kp:Env->V->AE->Prop}: ∀(ops:List Am) (env:Env) (Z:AE),WT P ops K kp env Z=I3 P ops K kp env Z
 | [],_,_=>rfl
 | o::r,env,Z=>by
   have:(fun(v:V) (Z':AE)=>WT P r K kp (put o.dst v env) Z')=fun v Z'=>I3 P r K kp (put o.dst v env) Z':=funext fun v=>funext fun Z'=>o6 r _ _
   show Hm P o env Z (fun v Z'=>WT P r K kp (put o.dst v env) Z') (kp env)=_;rw[this];rfl
def WD (P:Program) (ops:List Cd) (K:Env->AE->Prop) (kp:V->AE->Prop):Env->AE->Prop:=
 List.rec (motive:=fun _=>Env->AE->Prop) K (fun d _ ih env Z=>Hm P d.o env Z (fun v Z'=>D5 P d.re (put d.o.dst v env) Z'/\ih (put d.o.dst v env) Z') kp) ops
def o7 {P:Program} {K:Env->AE->Prop} {kp:V->AE->Prop}: ∀(ops:List Cd) (env:Env) (Z:AE),WD P ops K kp env Z=DJ P ops K kp env Z
 | [],_,_=>rfl
 | d::r,env,Z=>by
   have:(fun(v:V) (Z':AE)=>D5 P d.re (put d.o.dst v env) Z'/\WD P r K kp (put d.o.dst v env) Z')=fun v Z'=>D5 P d.re (put d.o.dst v env) Z'/\DJ P r K kp (put d.o.dst v env) Z':=funext fun v=>funext fun Z'=>by rw[o7 r]
   show Hm P d.o env Z (fun v Z'=>D5 P d.re (put d.o.dst v env) Z'/\WD P r K kp (put d.o.dst v env) Z') kp=_;rw[this];rfl
def yT (l:List Nat) (iha ihb:WM):WM:=fun Q env Z=>iha (Aa.andThen (fun env Z=>pk l env fun E=>Fz E Z (ihb Q)) Q) env Z
def wb (c:Bf) (iha ihb:WM):WM:=fun Q env Z=>match ev env c with
    | some (.b t)=>(t=true->iha Q env Z)/\(t=false->ihb Q env Z)
    | _=>False
def Ah (l:List Nat) (_:AV) (iha:WM) (Q:Aa->Env->AE->Prop) (E:Env) (Z:AE):Prop:= ∃I:Nat->Env->AE->Prop,(∃n,I n E Z)/\
 ∀n env Z,I n env Z->iha (Aa.andThen (fun env Z=>pk l env fun E'=> ∃m,m<n/\I m E' Z) Q) env Z
def wa (l:List Nat) (a:AV) (iha:WM):WM:=fun Q env Z=>pk l env fun E=>Ah l a iha Q E Z
def qB (P:Program) (l:List Nat) (g:Bf) (ps:List Nat) (a b:AV):WM:=fun Q env Z=>match ev env g with
    | some (.f (.func gf) [] cap)=>pk l env fun E=> ∀L,Z L=none->A3 P gf (.f (.yield L) [] []::cap) (Bd Z L (.loop .ready E (Bt P ps a b))) (Ko L Q env)
    | _=>False
def W (P:Program) (c:AV):WM:=
 AV.rec (motive:=fun _=>WM)
  (fun Q env Z=>Q .normal env Z)
  (fun ops Q env Z=>WT P ops (fun env Z=>Q .normal env Z) (fun env v Z=>Q (.Bb v) env Z) env Z)
  (fun l ops Q env Z=>WD P ops (fun env Z=>pk l env fun E=>Q .normal E Z) (fun v Z=> ∀Z',Sub Z Z'->Q (.Bb v) [] Z') env Z)
  (fun l _ _ iha ihb=>yT l iha ihb)
  (fun c _ _ iha ihb=>wb c iha ihb)
  (fun id _ ih Q env Z=>ih (Aa.inBlock id Q) env Z)
  (fun l a ih=>wa l a ih)
  (fun id Q env Z=>Q (.exit id) env Z)
  (fun Q env Z=>Q .ret env Z)
  (fun _ ih=>ih)
  (fun l g ps a b _ _=>qB P l g ps a b) c
def gZ {c:Bf} {a b:AV} {Q:Aa->Env->AE->Prop}:W P (.cond c a b) Q env Z=match ev env c with
    | some (.b t)=>(t=true->W P a Q env Z)/\(t=false->W P b Q env Z)
    | _=>False:=rfl
def gX {l:List Nat} {a:AV} {Q:Aa->Env->AE->Prop}:W P (.loop l a) Q env Z=pk l env fun E=> ∃I:Nat->Env->AE->Prop,(∃n,I n E Z)/\
 ∀n env Z,I n env Z->W P a (Aa.andThen (fun env Z=>pk l env fun E'=> ∃m,m<n/\I m E' Z) Q) env Z:=rfl
def o5 {ops:List Am} {Q:Aa->Env->AE->Prop}:W P (.B5 ops) Q env Z=I3 P ops (fun env Z=>Q .normal env Z) (fun env v Z=>Q (.Bb v) env Z) env Z:=o6 ops env Z
def gY {l:List Nat} {ops:List Cd} {Q:Aa->Env->AE->Prop}:W P (.EG l ops) Q env Z=DJ P ops (fun env Z=>pk l env fun E=>Q .normal E Z) (fun v Z=> ∀Z',Sub Z Z'->Q (.Bb v) [] Z') env Z:=o7 ops env Z
def WI {l:List Nat} {g:Bf} {ps:List Nat} {a b:AV} {Q:Aa->Env->AE->Prop}:W P (.Dg l g ps a b) Q env Z=match ev env g with
    | some (.f (.func gf) [] cap)=>pk l env fun E=> ∀L,Z L=none->A3 P gf (.f (.yield L) [] []::cap) (Bd Z L (.loop .ready E (Bt P ps a b))) (Ko L Q env)
    | _=>False:=rfl
def Xm: ∀ {c:AV} {Q Q':Aa->Env->AE->Prop} {env:Env} {Z:AE},W P c Q env Z->(∀ex env Z,Q ex env Z->Q' ex env Z)->T P c Q' env Z:=by
 intro c
 induction c with
 | skip=>intro Q Q' env Z h hm;exact hm _ _ _ h
 | ret=>intro Q Q' env Z h hm;exact hm _ _ _ h
 | exit id=>intro Q Q' env Z h hm;exact hm _ _ _ h
 | B5 ops=>intro Q Q' env Z h hm;rw[o5]at h;exact Nj (fun _ _ h=>hm _ _ _ h) (fun _ _ _ h=>hm _ _ _ h) h
 | EG l ops=>intro Q Q' env Z h hm;rw[gY]at h;exact K7 (fun _ _ h=>hm _ _ _ (by rw[Fi]at h;exact h)) (fun _ _ h Z' hs=>hm _ _ _ (h Z' hs)) h
 | seq l a b iha ihb=>
   intro Q Q' env Z h hm;refine iha h fun ex env Z hq=>?_
   cases ex with
   | normal=>simp only[Aa.andThen]at *;rw[Fi]at hq;exact Fz.mono hq fun _ _ h=>ihb h hm
   | exit id=>exact hm _ _ _ hq
   | ret=>exact hm _ _ _ hq
   | Bb v=>exact hm _ _ _ hq
 | cond c a b iha ihb=>
   intro Q Q' env Z h hm;simp only[T,gZ]at *;split at h
   .rename_i he
    rw[he];exact⟨fun e=>iha (h.1 e) hm,fun e=>ihb (h.2 e) hm⟩
   .exact h.elim
 | block id a ih=>
   intro Q Q' env Z h hm;refine ih h fun ex env Z hq=>?_
   cases ex with
   | normal=>exact hm _ _ _ hq
   | exit id'=>
     simp only[Aa.inBlock]at *;cases hb:Nat.beq id' id<;>rw[hb]at hq<;>exact hm _ _ _ hq
   | ret=>exact hm _ _ _ hq
   | Bb v=>exact hm _ _ _ hq
 | scope a ih=>intro Q Q' env Z h hm;exact ih h hm
 | loop l a ih=>
   intro Q Q' env Z h hm;rw[gX,Fi]at h;obtain⟨I,h0,hr⟩:=h;refine⟨I,h0,fun n env Z hI=>ih (hr n env Z hI) fun ex env Z hq=>?_⟩;cases ex with
   | normal=>simp only[Aa.andThen]at *;rw[Fi]at hq;exact hq
   | exit id=>exact hm _ _ _ hq
   | ret=>exact hm _ _ _ hq
   | Bb v=>exact hm _ _ _ hq
 | Dg l g ps a b _ _=>
   intro Q Q' env Z h hm;simp only[T,WI]at *;split at h
   .rename_i he
    rw[Fi]at h;rw[he];refine fun L hL=>(h L hL).mono fun r Z' hq=>?_
    cases r with
    | ret v=>
      obtain⟨st,env1,ok,h1,h2⟩:=hq;refine⟨st,env1,ok,h1,?_⟩;cases st<;>exact hm _ _ _ h2
    | Bb v=>exact hm _ _ _ hq
   .exact h.elim
def oC {c:AV} {Q:Aa->Env->AE->Prop} (h:W P c Q env Z):T P c Q env Z:=Xm h fun _ _ _ h=>h
def gW: ∀ {c:AV} {Q Q':Aa->Env->AE->Prop} {env:Env} {Z:AE},W P c Q env Z->(∀ex env Z,Q ex env Z->Q' ex env Z)->W P c Q' env Z:=by
 intro c
 induction c with
 | skip=>intro Q Q' env Z h hm;exact hm _ _ _ h
 | ret=>intro Q Q' env Z h hm;exact hm _ _ _ h
 | exit id=>intro Q Q' env Z h hm;exact hm _ _ _ h
 | B5 ops=>intro Q Q' env Z h hm;rw[o5]at *;exact Nj (fun _ _ h=>hm _ _ _ h) (fun _ _ _ h=>hm _ _ _ h) h
 | EG l ops=>intro Q Q' env Z h hm;rw[gY]at *;exact K7 (fun _ _ h=>by rw[Fi]at *;exact hm _ _ _ h) (fun _ _ h Z' hs=>hm _ _ _ (h Z' hs)) h
 | seq l a b iha ihb=>
   intro Q Q' env Z h hm;refine iha h fun ex env Z hq=>?_
   cases ex with
   | normal=>simp only[Aa.andThen]at *;rw[Fi]at *;exact Fz.mono hq fun _ _ h=>ihb h hm
   | exit id=>exact hm _ _ _ hq
   | ret=>exact hm _ _ _ hq
   | Bb v=>exact hm _ _ _ hq
 | cond c a b iha ihb=>
   intro Q Q' env Z h hm;simp only[gZ]at *;split at h
   .exact⟨fun e=>iha (h.1 e) hm,fun e=>ihb (h.2 e) hm⟩
   .exact h.elim
 | block id a ih=>
   intro Q Q' env Z h hm;refine ih h fun ex env Z hq=>?_
   cases ex with
   | normal=>exact hm _ _ _ hq
   | exit id'=>
     simp only[Aa.inBlock]at *;cases hb:Nat.beq id' id<;>rw[hb]at hq<;>exact hm _ _ _ hq
   | ret=>exact hm _ _ _ hq
   | Bb v=>exact hm _ _ _ hq
 | scope a ih=>intro Q Q' env Z h hm;exact ih h hm
 | loop l a ih=>
   intro Q Q' env Z h hm;simp only[gX]at *;rw[Fi]at *;obtain⟨I,h0,hr⟩:=h;refine⟨I,h0,fun n env Z hI=>ih (hr n env Z hI) fun ex env Z hq=>?_⟩;cases ex with
   | normal=>exact hq
   | exit id=>exact hm _ _ _ hq
   | ret=>exact hm _ _ _ hq
   | Bb v=>exact hm _ _ _ hq
 | Dg l g ps a b _ _=>
   intro Q Q' env Z h hm;simp only[WI]at *;split at h
   .rw[Fi]at *
    refine fun L hL=>(h L hL).mono fun r Z' hq=>?_
    cases r with
    | ret v=>
      obtain⟨st,env1,ok,h1,h2⟩:=hq;refine⟨st,env1,ok,h1,?_⟩;cases st<;>exact hm _ _ _ h2
    | Bb v=>exact hm _ _ _ hq
   .exact h.elim
abbrev ei (P:Program) (l:List Nat) (a:AV) (Q:Aa->Env->AE->Prop) (E:Env) (Z:AE):Prop:=Ah l a (W P a) Q E Z
def upW {l:List Nat} {a:AV} {Q:Aa->Env->AE->Prop} {E:Env} (len:Nat) (I:Nat->Env->AE->Prop) (h0:I 0 E Z)
    (h: ∀k env Z,k<=len->I k env Z->W P a (Aa.andThen (fun env Z=>pk l env fun E'=>k<len/\I (k+1) E' Z) Q) env Z):ei P l a Q E Z:=by
 refine⟨fun n env Z=> ∃k,k<=len/\n=len - k/\I k env Z,⟨len,0,Nat.zero_le _,by omega,h0⟩,fun n env Z ⟨k,hk,hn,hI⟩=>?_⟩;refine gW (h k env Z hk hI) fun ex env' Z' hq=>?_
 cases ex with
 | normal=>
   simp only[Aa.andThen]at *;rw[Fi]at *;exact⟨len - (k+1),by have:=hq.1;omega,k+1,hq.1,rfl,hq.2⟩
 | exit id=>exact hq
 | ret=>exact hq
 | Bb v=>exact hq
def eH (P:Program) (x:Bf) (l:List Nat) (ac:AV) (AG:List RS) (Q:R->AE->Prop) (env:Env) (Z:AE):Prop:=
 wv (ev env x) fun vf=>match vf with
  | .f (.func g) [] cap=>pk l env fun E=>W P ac (qA P g cap AG Q) E Z
  | _=>False
def rf {x:Bf} {l:List Nat} {ac:AV} {AG:List RS} {Q:R->AE->Prop} (h:eH P x l ac AG Q env Z):O6 P x l ac AG Q env Z:=by
 unfold eH at h;unfold O6;refine Bl h fun vf h=>?_
 split at h
 .rw[Fi]at h;exact oC h
 .exact h.elim
def KA {K K':Env->AE->Prop} (h: ∀env Z,K env Z->K' env Z): ∀ex env Z,CX K ex env Z->CX K' ex env Z:=fun ex env Z hq=>by
 cases ex<;>first|exact h _ _ hq|exact hq.elim
def o8 {c:AV} {x:Bf} {l:List Nat} {ac:AV} {AG:List RS} {Q:R->AE->Prop} (h:W P c (CX (eH P x l ac AG Q)) env Z):T P c (CX (O6 P x l ac AG Q)) env Z:=
 Xm h (KA fun _ _ h=>rf h)
def Dj {l:List Nat} {a b:AV} {Q:Aa->Env->AE->Prop} (h: ∀K:Env->AE->Prop,(∀env Z,(pk l env fun E=>W P b Q E Z)->K env Z)->W P a (Aa.andThen K Q) env Z):W P (.seq l a b) Q env Z:=
 h _ fun _ _ h=>by rw[Fi]at *;exact .inl h
def vN {l:List Nat} {a b:AV} {Q:Aa->Env->AE->Prop} (h: ∀K:Env->AE->Prop,(∀env Z,(pk l env fun E=>Fz E Z (W P b Q))->K env Z)->W P a (Aa.andThen K Q) env Z):W P (.seq l a b) Q env Z:=
 h _ fun _ _ h=>h
def Ca {ops:List Am} {Q:Aa->Env->AE->Prop} (h: ∀(KR:Env->AE->Prop) (KP:Env->V->AE->Prop),(∀env Z,Q .normal env Z->KR env Z)->(∀env v Z,Q (.Bb v) env Z->KP env v Z)->WT P ops KR KP env Z):W P (.B5 ops) Q env Z:=
 h _ _ (fun _ _ h=>h) (fun _ _ _ h=>h)
def H6 {l:List Nat} {ops:List Cd} {Q:Aa->Env->AE->Prop} (h: ∀(KR:Env->AE->Prop) (KP:V->AE->Prop),(∀env Z,(pk l env fun E=>Q .normal E Z)->KR env Z)->(∀v Z,(∀Z',Sub Z Z'->Q (.Bb v) [] Z')->KP v Z)->WD P ops KR KP env Z):W P (.EG l ops) Q env Z:=
 h _ _ (fun _ _ h=>h) (fun _ _ h=>h)
def EE {c:Bf} {a b:AV} {Q:Aa->Env->AE->Prop} (h:match ev env c with
    | some (.b t)=>(t=true->W P a Q env Z)/\(t=false->W P b Q env Z)
    | _=>False):W P (.cond c a b) Q env Z:=h
def Dm {id:Nat} {a:AV} {Q:Aa->Env->AE->Prop} (h:W P a (Aa.inBlock id Q) env Z):W P (.block id a) Q env Z:=h
def Fs {l:List Nat} {a:AV} {Q:Aa->Env->AE->Prop} (h:pk l env fun E=>Ah l a (W P a) Q E Z):W P (.loop l a) Q env Z:=h
def Ft {id:Nat} {Q:Aa->Env->AE->Prop} (h:Q (.exit id) env Z):W P (.exit id) Q env Z:=h
def Km {Q:Aa->Env->AE->Prop} (h:Q .ret env Z):W P .ret Q env Z:=h
def Es {Q:Aa->Env->AE->Prop} (h:Q .normal env Z):W P .skip Q env Z:=h
def HW {a:AV} {Q:Aa->Env->AE->Prop} (h:W P a Q env Z):W P (.scope a) Q env Z:=h
def HX {l:List Nat} {g:Bf} {ps:List Nat} {a b:AV} {Q:Aa->Env->AE->Prop} (h:match ev env g with
    | some (.f (.func gf) [] cap)=>pk l env fun E=> ∀L,Z L=none->A3 P gf (.f (.yield L) [] []::cap) (Bd Z L (.loop .ready E (Bt P ps a b))) (Ko L Q env)
    | _=>False):W P (.Dg l g ps a b) Q env Z:=h
end Go.Gl
