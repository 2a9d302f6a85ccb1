import Derived.Test.YtcfkfhaedllcpaaGreatW3
set_option linter.all false
set_option linter.defProp false
set_option maxHeartbeats 8000000
noncomputable section
namespace Go.Gl
variable {P:Program} {F:Nat->Prop} {Z:AE} {w:World} {k kp:V->AE->Prop}
def IJ {f:FuncId} (h:okF P f=true) (args:Array Value) (w:World):(callFunc f args).run P w= .ok (.enter f args) w:=by
 unfold okF at h;split at h
 .rename_i fn hf
  simp only[BD,xm,ne_eq]at h;have hb:fn.body.isNone=false:=by cases hb:fn.body<;>simp[hb]at h ⊢
  have hn:(fn.name== "runtime.NumGoroutine")=false:=by simpa using h.2
  simp only[callFunc,DG,run_program,GS,hf,hn,hb,LG,if_false,Ej]
 .cases h
def H7 {H:Nat->Nat->Option Value} {vs us:List V} {cs ds:Array Value} (h:dg H vs cs) (k:dg H us ds):dg H (vs++us) (cs++ds):=by
 refine⟨by simp[h.1,k.1],N1 (BA h.2 fun i hi=>?_) (BA k.2 fun i hi=>?_)⟩
 .simp only[Gj]
  rw[Array.getElem?_append_left (by rw[h.1];exact hi)]
 .simp only[Gj]
  rw[Array.getElem?_append_right (by rw[h.1];omega),h.1];simp
def Jd {H:Nat->Nat->Option Value} {env:Env} {a:Act} (he:CD H env a.tmps) {xs:Array Operand} {os:List Bf} (ho:J2 xs.toList=some os) {vs:List V} (hv:Ud env os=some vs):dg H vs (xs.map a.eval):=by
 obtain⟨h1,h2⟩:=Zu he ho hv;exact⟨by simpa using h1,BA h2 (fun i _=>by simp)⟩
def EP {s:Sem Value} (h:CW F Z w k kp (s.run P w)):Good P F Z w k kp ((s.run P w).andThen fun c w=> .ok (.value c) w):=by
 have:=Az (P:=P) h;simpa only[DG,Ej]using this
def Pn {f:FuncId} {vs:List V} {cs:Array Value} (hR:Rel F Z w) (hv:dg (Hh F Z w) vs cs) (h:A3 P f vs Z (qk k kp)):Good P F Z w k kp ((callFunc f cs).run P w):=by
 rw[IJ h.1];exact h.2 F w cs hR hv
def NN {H:Nat->Nat->Option Value} {env:Env} {a:Act} (he:CD H env a.tmps) {x:Option Operand} {o:Option Bf} (ho:ah x=some o) {v:Option V} (hv:HG env o=some v) :
    eJ H v (x.map a.eval):=by
 cases x with
 | none=>
   cases ho;cases hv;trivial
 | some x=>
   simp only[ah]at ho;cases hq:BR x with
   | none=>rw[hq]at ho;cases ho
   | some q=>
     rw[hq]at ho;cases ho;simp only[HG]at hv;split at hv
     .rename_i u hu
      cases hv;exact An he hq hu
     .cases hv
def YB {env : Env} {a:Act} {c:Call} {ao:Fh} (ty:TypeId) (ho:eP P c=some ao) (h:FQ P ao env Z k kp) (he:CD (Hh F Z w) env a.tmps) (hR:Rel F Z w) :
    Good P F Z w k kp ((do let d<-resolve a.eval c ty;invoke d.target d.args:Sem Next).run P w):=by
 obtain⟨callee,args,tys⟩:=c;unfold eP at ho;split at ho
 ·
  rename_i x t hc ha ht;simp only at hc ha ht;subst hc;obtain rfl:args= #[x]:=by apply Array.ext';simpa using ha
  obtain rfl:tys= #[t]:=by apply Array.ext';simpa using ht
  simp only[resolve,DG,Ej,GS,invoke,builtin,List.map_toArray,Ex,List.map_nil];split at ho
  .rename_i e hu
   cases hx:BR x with
   | none=>rw[hx]at ho;cases ho
   | some o=>
     rw[hx]at ho;cases ho;obtain⟨v,h1,h2⟩:=Ai h;exact EP (cM (P:=P) (kp:=kp) ty hu hR (An he hx h1) h2)
  .rename_i e f hu
   cases hx:BR x with
   | none=>rw[hx]at ho;cases ho
   | some o=>
     rw[hx]at ho;cases ho;obtain⟨v,h1,h2⟩:=Ai h;exact EP (YE (P:=P) (kp:=kp) ty hu hR (An he hx h1) h2)
  .rename_i n e hu
   split at ho
   .rename_i hn
    cases ho;simp only[FQ,ev,Eo]at h;have hr:(Builtin.len_ #[t] ty #[a.eval x]).run P w= .ok (goInt n) w:=by simp[Builtin.len_,BI hu]
    exact EP (s:=Builtin.len_ #[t] ty #[a.eval x]) (k:=k) (kp:=kp) (by rw[hr];exact As hR h ⟨rfl,by have:=K1 .i64;omega,hn⟩)
   .cases ho
  .cases ho
 ·
  rename_i x y t u hc ha ht;simp only at hc ha ht;subst hc;obtain rfl:args= #[x,y]:=by apply Array.ext';simpa using ha
  obtain rfl:tys= #[t,u]:=by apply Array.ext';simpa using ht
  split at ho
  .rename_i e e2 hu1 hu2
   split at ho
   .rename_i x' y' i hx hy hi
    split at ho
    .rename_i hcond
     obtain⟨rfl,hb,hz⟩:=hcond;cases ho;obtain⟨vx,h1,h⟩:=Ai h;obtain⟨vy,h2,h⟩:=Ai h;cases hzz:i.zero with
     | none=>rw[hzz]at hz;cases hz
     | some z=>
       rw[hzz]at hz;simp only[W6,Hl]at hz;simp only[resolve,DG,Ej,GS,invoke,builtin,List.map_toArray,Ex,List.map_nil];exact EP (UP (P:=P) (kp:=kp) ty hu1 hi hzz hz hb hR (An he hx h1) (An he hy h2) h)
    .cases ho
   .cases ho
  .cases ho
 ·
  rename_i x y hc ha;simp only at hc ha;subst hc;obtain rfl:args= #[x,y]:=by apply Array.ext';simpa using ha
  split at ho
  .rename_i x' y' hx hy
   cases ho;obtain⟨vx,h1,g⟩:=Ai h;clear h;obtain⟨vy,h2,h⟩:=Ai g;clear g;cases vx<;>try exact h.elim
   cases vy<;>try exact h.elim
   rename_i ka p kb q;obtain⟨rfl,h⟩:=h;obtain⟨ex,bx⟩:=An he hx h1;obtain⟨ey,by'⟩:=An he hy h2
   have hr:(Builtin.max_ tys ty #[a.eval x,a.eval y]).run P w= .ok (.int ka (if q > p then q else p)) w:=by
    rw[ex,ey];simp[Builtin.max_,Builtin.max2]
   simp only[resolve,DG,Ej,GS,invoke,builtin,List.map_toArray,Ex,List.map_nil];exact EP (s:=Builtin.max_ tys ty #[a.eval x,a.eval y]) (k:=k) (kp:=kp) (by rw[hr];exact As hR h ⟨rfl,by split<;>assumption⟩)
  .cases ho
 ·
  rename_i x y hc ha;simp only at hc ha;subst hc;obtain rfl:args= #[x,y]:=by apply Array.ext';simpa using ha
  split at ho
  .rename_i x' y' hx hy
   cases ho;obtain⟨vx,h1,g⟩:=Ai h;clear h;obtain⟨vy,h2,h⟩:=Ai g;clear g;cases vx<;>try exact h.elim
   cases vy<;>try exact h.elim
   rename_i ka p kb q;obtain⟨rfl,h⟩:=h;obtain⟨ex,bx⟩:=An he hx h1;obtain⟨ey,by'⟩:=An he hy h2
   have hr:(Builtin.min_ tys ty #[a.eval x,a.eval y]).run P w= .ok (.int ka (if q<p then q else p)) w:=by
    rw[ex,ey];simp[Builtin.min_,Builtin.min2]
   simp only[resolve,DG,Ej,GS,invoke,builtin,List.map_toArray,Ex,List.map_nil];exact EP (s:=Builtin.min_ tys ty #[a.eval x,a.eval y]) (k:=k) (kp:=kp) (by rw[hr];exact As hR h ⟨rfl,by split<;>assumption⟩)
  .cases ho
 ·
  rename_i f hc;simp only at hc;subst hc;cases hx:J2 args.toList with
  | none=>simp[hx]at ho
  | some os=>
    simp only[hx,W6,Hl]at ho;subst ho;obtain⟨vs,h1,h⟩:=Hy h;have:=Pn hR (Jd he hx h1) h;simp only[resolve,Act.eval,Deferred.ofValue,DG,Ej,GS,invoke,Array.append_empty,Array.empty_append];exact this
 ·
  rename_i x _ hc;simp only at hc;subst hc;split at ho
  .rename_i x' os hx hos
   cases ho;obtain⟨vx,h1,g⟩:=Ai h;clear h;obtain⟨vs,h2,h⟩:=Hy g;clear g;cases vx<;>try exact h.elim
   rename_i fn first cap
   cases fn<;>try exact h.elim
   case yield l=>
    have hfc:first= []/\cap= []:=by
     cases first<;>cases cap<;>first|exact⟨rfl,rfl⟩|exact h.elim
    obtain⟨rfl,rfl⟩:=hfc;obtain⟨f',c',e1,e2,e3,e4,e5⟩:=An he hx h1;obtain⟨f,tmps,assign,body,e6,e7⟩:=h F w _ hR (Jd he hos h2);have e2':f'= #[]:=Array.size_eq_zero_iff.1 e2;have e4':c'= #[]:=Array.size_eq_zero_iff.1 e4;subst e2' e4';simp only[resolve,e1,Deferred.ofValue,DG,Ej,GS,invoke,Array.append_empty,Array.empty_append];rw[e6];exact e7
   rename_i f;simp only[Ax]at h;obtain⟨f',c',e1,e2,e3,e4,e5⟩:=An he hx h1;have:=Pn hR (H7 (H7 ⟨e2,e3⟩ (Jd he hos h2)) ⟨e4,e5⟩) h;simp only[resolve,e1,Deferred.ofValue,DG,Ej,GS,invoke];exact this
  .cases ho
 .cases ho
end Go.Gl
namespace Go.Gl
variable {P:Program} {F:Nat->Prop} {Z:AE} {w:World} {k kp:V->AE->Prop}
def JO {sz:Nat} {z:List V} (hz:z.length=sz) {H:Nat->Nat->Option Value} {c:Array Value} (hc:c.size=sz) (hv:BT H (fun i=>c[i]?) 0 z) (len:Nat) :
    BH H (fun i=>((Array.range (len*sz)).map (c[· % c.size]!))[i]?) sz 0 (List.replicate len z):=by
 rw[BE];intro i e he;have hi:i<len:=by have:=(IN.1 he).1;simpa using this
 rw[List.getElem?_replicate,if_pos hi]at he;cases he;refine⟨hz,BA hv (fun q hq=>?_)⟩
 have hlt:0+i*sz+q<len*sz:=by
  have:(i+1)*sz<=len*sz:=UW _ hi;rw[Nat.succ_mul]at this;omega
 rw[Array.getElem?_map,Array.getElem?_range,if_pos hlt];simp only[W6,hc,Gj];rw[Nat.add_comm,Nat.add_mul_mod_self_right,Nat.mod_eq_of_lt (by omega)];rw[getElem!_pos c q (by omega)];exact(Array.getElem?_eq_getElem (by omega)).symm
def Sg {H : Nat -> Nat->Option Value} {env:Env} {a:Act} (he:CD H env a.tmps) {sz:Nat}: ∀ {parts:List (Nat×Operand)} {ps:List (Nat×Bf)},
    (List.length parts=ps.length/\ ∀(i:Nat) (q:Nat×Operand) (r:Nat×Bf),parts[i]? =some q->ps[i]? =some r->r.1=q.1/\BR q.2=some r.2)->
    ∀ {c:Array Value} {es fs:List (List V)},c.size=es.length*sz->BH H (fun i=>c[i]?) sz 0 es->I8 env sz es ps=some fs->
    ∃d,Instr.fill (fun i=>some (i*sz,sz)) c (parts.map fun(i,x)=>(i,a.eval x))=some d/\d.size=fs.length*sz/\BH H (fun i=>d[i]?) sz 0 fs/\fs.length=es.length
 | [],ps,hp,c,es,fs,hs,hv,hf=>by
   have:ps= []:=List.eq_nil_of_length_eq_zero hp.1.symm;subst this;cases hf;exact⟨c,rfl,hs,hv,rfl⟩
 | (i, x) :: parts,ps,hp,c,es,fs,hs,hv,hf=>by
   cases ps with
   | nil=>simp at hp
   | cons r ps =>
     obtain⟨j,o⟩:=r;obtain⟨h1,h2⟩:=hp.2 0 _ _ rfl rfl;simp only at h1 h2;subst h1;simp only[I8]at hf;split at hf
     .rename_i v hev
      split at hf
      .rename_i vc hc
       cases hq:(Nat.beq vc.length sz&&Nat.blt j es.length)with
       | false=>rw[hq]at hf;simp at hf
       | true=>
         rw[hq]at hf;simp only[cond_true]at hf;simp only[BD,Nat.beq_eq,Nat.blt_eq]at hq;obtain⟨h3,h4⟩:=Cs (An he h2 hev) hc
         have hb:j*sz+sz<=c.size:=by
          rw[hs,<-Nat.succ_mul];exact UW _ hq.2
         have hrow:BH H (fun i=>(Cu c (j*sz) (a.eval x).cells.toList)[i]?) sz 0 (es.set j vc):=by
          rw[BE]at hv ⊢;intro q u hu;rw[List.getElem?_set]at hu;split at hu
          .rename_i ej
           subst ej;rw[if_pos hq.2]at hu;cases hu;refine⟨hq.1,BA h4 (fun p hp=>?_)⟩;simp only[Gj];rw[F3 _ _ _ _ (by simp;omega) (by simp;omega)];simp
          .rename_i ej
           obtain⟨h5,h6⟩:=hv q u hu;refine⟨h5,BA h6 (fun p hp=>?_)⟩;rw[DD];rcases Nat.lt_or_ge q j with hji|hji
           .left
            have:(q+1)*sz<=j*sz:=UW _ hji;rw[Nat.succ_mul]at this;omega
           .right
            have:(j+1)*sz<=q*sz:=UW _ (by omega);rw[Nat.succ_mul]at this;simp;omega
         obtain⟨d,h5,h6,h7,h8⟩:=Sg he (parts:=parts) (ps:=ps) ⟨by simpa using hp.1,fun j q r hq hr=>hp.2 (j+1) q r (by simpa using hq) (by simpa using hr)⟩ (c:=Cu c (j*sz) (a.eval x).cells.toList) (es:=es.set j vc)
          (by rw[Dq];simpa using hs) hrow hf
         refine⟨d,?_,h6,h7,by simpa using h8⟩;simp only[Ex,Instr.fill];rw[if_neg (by simp;omega),P4];exact h5
      .cases hf
     .cases hf
def Rq {t:TypeId} (h:isInt P t=true): ∃ki,P.underlying t=some (.int ki):=by
 unfold isInt at h;split at h
 .rename_i ki hu;exact⟨ki,hu⟩
 .cases h
def P8 {t:TypeId} (h:isBool P t=true):P.underlying t=some .bool:=by
 unfold isBool at h;split at h
 .assumption
 .cases h
def Ag {α β:Type} {f:α->β} {o:Option α} {b:β} (h:o.map f=some b): ∃a,o=some a/\f a=b:=by
 cases o with
 | none=>cases h
 | some a=>exact⟨a,rfl,by simpa using h⟩
def bY {env : Env} {a:Act} {o:Oper} {ao:Fh} (ho:yH P o.op=some ao) (h:FQ P ao env Z k kp) (he:CD (Hh F Z w) env a.tmps) (hR:Rel F Z w) :
    Good P F Z w k kp ((execOp a.eval o).run P w):=by
 unfold execOp;cases hop:o.op<;>simp only[hop,yH]at ho<;>try(cases ho;done)
 all_goals dsimp only
 case move x=>
  obtain⟨x',hx,rfl⟩:=Ag ho;obtain⟨v,h1,h2⟩:=Ai h;exact⟨v,Z,h2,An he hx h1,hR,Bu.refl _ _ _⟩
 case assign x=>
  obtain⟨x',hx,rfl⟩:=Ag ho;obtain⟨v,h1,h2⟩:=Ai h;exact⟨v,Z,h2,An he hx h1,hR,Bu.refl _ _ _⟩
 case pick c x y=>
  split at ho
  .rename_i c' x' y' hc hx hy
   cases ho;obtain⟨vc,h1,g⟩:=Ai h;clear h;obtain⟨vx,h2,h⟩:=Ai g;clear g;obtain⟨vy,h3,g⟩:=Ai h;clear h;cases vc<;>try exact g.elim
   rename_i t;have hct:=An he hc h1;simp only[Ab]at hct;simp only[hct,asBool,DG,Ej,GS]
   have g':k (bif t then vx else vy) Z:=by
    simp only at g;split at g
    .cases t<;>exact g
    .exact g
   cases t
   .exact⟨vy,Z,g',An he hy h3,hR,Bu.refl _ _ _⟩
   .exact⟨vx,Z,g',An he hx h2,hR,Bu.refl _ _ _⟩
  .cases ho
 case alloc e=>
  obtain⟨z,hz,rfl⟩:=Ag ho;exact Az (Wp hz hR h)
 case box e x=>
  obtain⟨x',hx,rfl⟩:=Ag ho;obtain⟨v,h1,h2⟩:=Ai h;cases hc:cellsOf v with
  | none=>rw[hc]at h2;exact h2.elim
  | some cs=>
    rw[hc]at h2;exact Az (cQ e hR (An he hx h1) hc h2)
 case build t parts=>
  split at ho
  .rename_i z fields hz hu
   split at ho
   .rename_i hall
    obtain⟨ps,hps,rfl⟩:=Ag ho;obtain⟨us,h1,h2⟩:=Hy h;obtain⟨v,hz1,hz2⟩:=GM hz;obtain⟨c,hz3,hz4⟩:=EM hz1 w;obtain⟨h5,h6⟩:=Cs (Ga (H:=Hh F Z w) hz4) hz2;obtain⟨h7,h8⟩:=QF hps
    have hplaces: ∃places,fields.toList.mapM (fun f=>(P.info? f.type).map fun i=>(f.offset,i.size))=some places/\places.length=fields.size/\ ∀(j:Nat) (f:Field) (s:Nat),fields[j]? =some f->D6 P f.type=some s->places[j]? =some (f.offset,s):=by
     have hgen: ∀l:List Field,l.all (fun f=>(D6 P f.type).isSome)=true-> ∃places,l.mapM (fun f=>(P.info? f.type).map fun i=>(f.offset,i.size))=some places/\places.length=l.length/\
      ∀(j:Nat) (f:Field) (s:Nat),l[j]? =some f->D6 P f.type=some s->places[j]? =some (f.offset,s):=by
      intro l
      induction l with
      | nil=>intro _;exact⟨[],by simp,rfl,by simp⟩
      | cons f l ih=>
        intro hl;simp only[LC,BD]at hl;obtain⟨places,g1,g2,g3⟩:=ih hl.2;obtain⟨s,hs⟩:=Option.isSome_iff_exists.1 hl.1;obtain⟨i,hi,hsz⟩:=MT hs;refine⟨(f.offset,s)::places,by simp[List.mapM_cons,hi,g1,hsz],by simp[g2],fun j f' s' hj hs'=>?_⟩;cases j with
        | zero=>simp at hj;subst hj;rw[hs]at hs';cases hs';rfl
        | succ j=>exact g3 j f' s' (by simpa using hj) hs'
     obtain⟨places,g1,g2,g3⟩:=hgen fields.toList hall;exact⟨places,g1,by simpa using g2,fun j f s hj hs=>g3 j f s (by simpa using hj) hs⟩
    obtain⟨places,g1,g2,g3⟩:=hplaces
    obtain⟨d,h9,h10,h11⟩:=Pt he (parts:=parts.toList) (ps:=ps) (place:=fun x=>places[x]?) ⟨h7,fun i q r hq hr=>by
     obtain⟨⟨f,e1,e2,e3⟩,e4⟩:=h8 i q r hq hr
     exact⟨by rw[g3 _ f _ e1 e3,e2],e4⟩⟩ h5 h6 h1
    have hrun:(Instr.build t (parts.map fun(i,x)=>(i,a.eval x))).run P w= .ok (.agg d) w:=by
     refine run_build w t _ d ?_;obtain⟨it,c',q1,q2,q3⟩:=WN hz1
     have hcc:c'=c:=by
      have:(zeroValue t).run P w= .ok c' w:=by simp[zeroValue,typeInfo,q1,q2]
      rw[hz3]at this;cases this;rfl
     subst hcc;simp only[Program.built,q1,hu,q2,g1,Array.toList_map,List.getElem?_toArray];exact h9
    exact Az (by rw[hrun];exact As hR h2 ⟨d,rfl,h10,h11⟩)
   .cases ho
  .rename_i z len e hz hu
   cases hsz:D6 P e with
   | none=>rw[hsz]at ho;cases ho
   | some sz=>
     rw[hsz]at ho;simp only[Option.bind_some]at ho;obtain⟨ps,hps,rfl⟩:=Ag ho;obtain⟨us,h1,h2⟩:=Hy h;obtain⟨v,hz1,hz2⟩:=GM hz;obtain⟨c,hz3,hz4⟩:=EM hz1 w;obtain⟨h5,h6⟩:=Cs (Ga (H:=Hh F Z w) hz4) hz2;obtain⟨h7,h8⟩:=N7 hps
     obtain⟨d,h9,h10,h11⟩:=Pt he (parts:=parts.toList) (ps:=ps) (place:=fun i=>some (i*sz,sz)) ⟨h7,fun i q r hq hr=>by
      obtain⟨⟨e1,e2⟩,e4⟩:=h8 i q r hq hr
      exact⟨by rw[e1,e2],e4⟩⟩ h5 h6 h1
     have hrun:(Instr.build t (parts.map fun(i,x)=>(i,a.eval x))).run P w= .ok (.agg d) w:=by
      unfold Instr.build;simp only[DG,hz3,GS,BI hu,EA hsz,Array.toList_map,h9,Ej]
     exact Az (by rw[hrun];exact As hR h2 ⟨d,rfl,h10,h11⟩)
  .cases ho
 case buildSlice t len parts=>
  split at ho
  .rename_i e hu
   split at ho
   .rename_i z sz hz hsz
    split at ho
    .rename_i hcond
     obtain⟨hzl,h0,hln,hsmall⟩:=hcond;obtain⟨ps,hps,rfl⟩:=Ag ho;simp only[FQ]at h;rw[hzl]at h;obtain⟨fs,h1,h3⟩:=Y5 h
     have h2:len<=AY:=by
      have:len*1<=len*sz:=Nat.mul_le_mul_left _ (by omega);simp only[AY];omega
     obtain⟨v,hz1,hz2⟩:=GM hz;obtain⟨c,hz3,hz4⟩:=EM hz1 w;obtain⟨h5,h6⟩:=Cs (Ga (H:=Hh F Z w) hz4) hz2;obtain⟨h7,h8⟩:=N6 hps
     obtain⟨d,h9,h10,h11,h12⟩:=Sg he (sz:=sz) (parts:=parts.toList) (ps:=ps) ⟨h7,h8⟩ (c:=(Array.range (len*sz)).map (c.cells[· % c.cells.size]!)) (by simp)
      (JO hzl (by omega) h6 len) h1
     have hfl:fs.length=len:=by simpa using h12
     have hrun:(Instr.buildSlice t len (parts.map fun(i,x)=>(i,a.eval x))).run P w= .ok (.slice (some ⟨w.heap.size,0,none⟩) len len) (w.alloc (.cells d e)):=by
      unfold Instr.buildSlice;have hns: ¬len*sz > 2 ^ 24:=by omega
      simp only[DG,BI hu,GS,EA hsz,hns,if_false];have hl0: ¬len*sz=0:=fun h=>by rcases Nat.mul_eq_zero.1 h with h|h<;>omega
      simp only[hl0,if_false,DG,hz3,GS,Ej,Array.toList_map,h9];rfl
     refine Az ?_;rw[hrun];have ha:Bu F Z w Z (w.alloc (.cells d e)):=II w _;refine⟨_,Z,h3,?_,Ku hR _,ha⟩;refine⟨some ⟨w.heap.size,0,none⟩,len,by rw[hfl],by omega,fun _=>hfl.symm,Lg (by omega),by simp,fun _=>⟨w.heap.size,0,sz,rfl,?_⟩⟩;refine BH.mono ha.hle (fun i v hv=>?_) _ _ _ h11;rw[N0 (fun hl=>absurd (hR.lock _ hl) (Nat.lt_irrefl _)) hR.new,DM (heap_alloc_new w _)];exact hv
    .cases ho
   .cases ho
  .cases ho
 case load t x=>
  split at ho
  .rename_i agg x' hA hx
   cases ho;obtain⟨v,h1,h2⟩:=Ai h;exact Az (YD hA hR (An he hx h1) h2)
  .cases ho
 case store t ad x=>
  split at ho
  .rename_i s a' x' hs ha hx
   cases ho;obtain⟨va,h1,g⟩:=Ai h;obtain⟨vx,h2,h3⟩:=Ai g;obtain⟨Z',w',e1,e2,e3,e4⟩:=Wk hs hR (An he ha h1) (An he hx h2) h3;simp only[DG,e1,GS,Ej];exact⟨Z',e2,e3,e4⟩
  .cases ho
 case binOp op t x y yt=>
  split at ho
  .rename_i x' y' hx hy
   unfold wI at ho;split at ho
   .cases ho
    obtain⟨vx,h1,g⟩:=Ai h;obtain⟨vy,h2,h3⟩:=Ai g;exact Az (cR op x y hR (An he hx h1) (An he hy h2) h3)
   .split at ho
    .rename_i _ hb
     split at ho
     .cases ho
      obtain⟨vx,h1,g⟩:=Ai h;obtain⟨vy,h2,h3⟩:=Ai g;cases vx<;>try exact h3.elim
      cases vy<;>try exact h3.elim
      have ex:=An he hx h1;have ey:=An he hy h2;simp only[Ab]at ex ey;rw[ex,ey];exact Az (SV (P8 hb) _ (.inl rfl) x y hR h3)
     .cases ho
      obtain⟨vx,h1,g⟩:=Ai h;obtain⟨vy,h2,h3⟩:=Ai g;cases vx<;>try exact h3.elim
      cases vy<;>try exact h3.elim
      have ex:=An he hx h1;have ey:=An he hy h2;simp only[Ab]at ex ey;rw[ex,ey];exact Az (SV (P8 hb) _ (.inr rfl) x y hR h3)
     .cases ho
    .cases ho
  .cases ho
 case unOp op t x=>
  cases op<;>simp only at ho
  case not=>
   obtain⟨x',hx,rfl⟩:=Ag ho;obtain⟨v,h1,h2⟩:=Ai h;cases v<;>try exact h2.elim
   have ex:=An he hx h1;simp only[Ab]at ex;rw[ex];exact Az (s:=Op.unary .not (.bool _)) (As hR h2 rfl)
  case neg=>
   split at ho
   .obtain⟨x',hx,rfl⟩:=Ag ho
    obtain⟨v,h1,h2⟩:=Ai h;cases v<;>try exact h2.elim
    obtain⟨ex,_⟩:=An he hx h1;rw[ex];exact Az (s:=Op.unary .neg (.int _ _)) (As hR h2 ⟨rfl,JS _ _⟩)
   .cases ho
  case xor=>
   split at ho
   .obtain⟨x',hx,rfl⟩:=Ag ho
    obtain⟨v,h1,h2⟩:=Ai h;cases v<;>try exact h2.elim
    rename_i ka n;obtain⟨ex,_⟩:=An he hx h1;rw[ex];refine Az (s:=Op.unary .xor (.int ka n)) ?_
    have:(Op.unary .xor (.int ka n)).run P w= .ok (.int ka (bits .xor ka (bif ka.signed then -1 else ka.max) n)) w:=by
     simp only[Op.unary,Op.intBits,Ej,bits];cases ka.signed<;>rfl
    rw[this];exact As hR h2 ⟨rfl,JS _ _⟩
   .cases ho
  all_goals cases ho
 case convert s d x=>
  split at ho
  .rename_i k1 k2 hs hd
   obtain⟨x',hx,rfl⟩:=Ag ho;obtain⟨v,h1,h2⟩:=Ai h;cases v<;>try exact h2.elim
   rename_i ka n;obtain⟨ex,_⟩:=An he hx h1;rw[ex];refine Az (s:=convert s d (.int ka n)) ?_
   have:(convert s d (.int ka n)).run P w= .ok (.int k2 (k2.wrap n)) w:=by
    simp only[convert,DG,BI hs,BI hd,GS,Conv.intToInt,Ej]
   rw[this];exact As hR h2 ⟨rfl,JS _ _⟩
  .cases ho
 case makeInterface t x=>
  split at ho
  .cases ho
  .rename_i d hd hu
   obtain⟨x',hx,rfl⟩:=Ag ho;obtain⟨v,h1,h2⟩:=Ai h;refine Az ?_
   have:(Instr.makeInterface t (a.eval x)).run P w= .ok (.iface t (a.eval x)) w:=by
    simp only[Instr.makeInterface,DG,BI hu,GS];cases d<;>first|rfl|exact absurd hu (hd _)
   rw[this];exact As hR h2 ⟨_,rfl,An he hx h1⟩
  .cases ho
 case makeFunc fn first cap=>
  cases fn<;>simp only at ho<;>try(cases ho;done)
  rename_i f;split at ho
  .rename_i os ps h1 h2
   cases ho;obtain⟨vf,h3,g⟩:=Hy h;obtain⟨vc,h4,h5⟩:=Hy g;have e1:=Jd he h1 h3;have e2:=Jd he h2 h4;exact⟨_,Z,h5,⟨_,_,rfl,e1.1,e1.2,e2.1,e2.2⟩,hR,Bu.refl _ _ _⟩
  .cases ho
 case slice t x lo hi mx=>
  split at ho
  .rename_i e hu
   split at ho
   .rename_i s x' l' h' m' hs hx hl hh hm
    split at ho
    .rename_i hcond
     cases ho;obtain⟨vx,h1,g⟩:=Ai h;obtain⟨vl,h2,g2⟩:=Tl g;obtain⟨vh,h3,g3⟩:=Tl g2;obtain⟨vm,h4,g4⟩:=Tl g3;refine Az (Wl hu hs hcond.1 hR (An he hx h1) (NN he hl h2) (NN he hh h3) (NN he hm h4) (fun hms=>?_) g4)
     have:m'.isSome=true:=by
      cases mx with
      | none=>simp at hms
      | some q=>
        simp only[ah]at hm;cases hq:BR q with
        | none=>rw[hq]at hm;cases hm
        | some z=>rw[hq]at hm;cases hm;rfl
     have:=hcond.2 this;cases hi with
     | none=>cases hh;simp at this
     | some q=>rfl
    .cases ho
   .cases ho
  .cases ho
 case fieldAddr s x f=>
  split at ho
  .rename_i fields hu
   split at ho
   .rename_i fd hf
    split at ho
    .rename_i sz hs
     split at ho
     .cases ho
     .rename_i h0
      obtain⟨x',hx,rfl⟩:=Ag ho;obtain⟨v,h1,h2⟩:=Ai h;exact Az (Wo hu hf hs h0 hR (An he hx h1) h2)
    .cases ho
   .cases ho
  .cases ho
 case field t x f=>
  split at ho
  .rename_i fields hu
   split at ho
   .rename_i fd hf
    split at ho
    .rename_i agg x' hA hx
     cases ho;obtain⟨v,h1,h2⟩:=Ai h;cases v<;>try exact h2.elim
     exact Az (Wn hu hf hA hR (An he hx h1) h2)
    .cases ho
   .cases ho
  .cases ho
 case indexAddr t x i=>
  split at ho
  .rename_i e hu
   split at ho
   .rename_i s x' i' hs hx hi
    cases ho;obtain⟨vx,h1,g⟩:=Ai h;obtain⟨vi,h2,h3⟩:=Ai g;exact Az (Ma hu hs hR (An he hx h1) (An he hi h2) h3)
   .cases ho
  .rename_i n e hu
   split at ho
   .rename_i s x' i' hs hx hi
    cases ho;obtain⟨vx,h1,g⟩:=Ai h;obtain⟨vi,h2,h3⟩:=Ai g;exact Az (Mb hu hs hR (An he hx h1) (An he hi h2) h3)
   .cases ho
  .cases ho
 case index t x i=>
  split at ho
  .rename_i n e hu
   split at ho
   .rename_i s ag x' i' hs hA hx hi
    cases ho;obtain⟨vx,h1,g⟩:=Ai h;obtain⟨vi,h2,h3⟩:=Ai g;exact Az (Wm hu hs hA hR (An he hx h1) (An he hi h2) h3)
   .cases ho
  .cases ho
 case extract x i=>
  obtain⟨x',hx,rfl⟩:=Ag ho;obtain⟨v,h1,h2⟩:=Ai h;cases v<;>try exact h2.elim
  rename_i vs;simp only at h2;split at h2
  .rename_i u hu
   obtain⟨c,e1,e2,e3⟩:=An he hx h1;obtain⟨d,hd,hr⟩:=BW.1 e3 i u hu;simp only[Gj]at hd;refine Az ?_
   have:(Instr.extract (a.eval x) i).run P w= .ok d w:=by
    rw[e1];simp only[Instr.extract,hd,Ej]
   rw[this];exact As hR h2 hr
  .exact h2.elim
 case nilCheck x=>
  obtain⟨x',hx,rfl⟩:=Ag ho;obtain⟨v,h1,h2⟩:=Ai h;have hev:=An he hx h1;cases v<;>try exact h2.elim
  case p n off=>
   have e:=hev;simp only[Ab]at e;simp only[e];exact⟨_,Z,h2,rfl,hR,Bu.refl _ _ _⟩
  case rp cs=>
   have hev':=hev;obtain⟨b,o',e,_⟩:=hev;simp only[e];rw[e]at hev';exact⟨_,Z,h2,hev',hR,Bu.refl _ _ _⟩
  case pe n sz i off=>
   have e:=hev;simp only[Ab]at e;simp only[e];exact⟨_,Z,h2,rfl,hR,Bu.refl _ _ _⟩
  case f fn first cap=>
   cases fn<;>try exact h2.elim
   all_goals
    have hev':=hev;obtain⟨f',c',e,_⟩:=hev;simp only[e];rw[e]at hev';exact⟨_,Z,h2,hev',hR,Bu.refl _ _ _⟩
 case typeAssert x xt t ok=>
  split at ho
  .cases ho
  .rename_i d hd hu
   split at ho
   .rename_i x' z hx hz
    cases ho;obtain⟨v,h1,h2⟩:=Ai h;have hev:=An he hx h1;obtain⟨c,hz3,hz4⟩:=EM hz w;have hzr:=Ga (H:=Hh F Z w) hz4;cases v<;>try exact h2.elim
    case Ey t' u=>
     obtain⟨c',e,hr⟩:=hev;rw[e];refine Az ?_;by_cases htt:t'=t
     .have:(Instr.typeAssert (.iface t' c') xt t ok).run P w= .ok (if ok then .tuple #[c',.bool true]else c') w:=by
       unfold Instr.typeAssert;simp only[DG,BI hu,GS];cases d<;>first|(simp[htt];done)|exact absurd hu (hd _)
      rw[this];refine As hR (h2.1 htt) ?_;cases ok
      .exact hr
      .exact⟨_,rfl,rfl,⟨c',rfl,hr⟩,⟨_,rfl,rfl⟩,trivial⟩
     .obtain⟨rfl,h3⟩:=h2.2 htt
      have:(Instr.typeAssert (.iface t' c') xt t true).run P w= .ok (.tuple #[c,.bool false]) w:=by
       unfold Instr.typeAssert;simp only[DG,BI hu,GS];cases d<;>first|(simp[htt,hz3];done)|exact absurd hu (hd _)
      rw[this];exact As hR h3 ⟨_,rfl,rfl,⟨c,rfl,hzr⟩,⟨_,rfl,rfl⟩,trivial⟩
    case DZ=>
     simp only[Ab]at hev;rw[hev];obtain⟨rfl,h3⟩:=h2;refine Az ?_
     have:(Instr.typeAssert .nilIface xt t true).run P w= .ok (.tuple #[c,.bool false]) w:=by
      unfold Instr.typeAssert;simp only[DG,BI hu,GS];cases d<;>first|(simp[hz3];done)|exact absurd hu (hd _)
     rw[this];exact As hR h3 ⟨_,rfl,rfl,⟨c,rfl,hzr⟩,⟨_,rfl,rfl⟩,trivial⟩
   .cases ho
  .cases ho
 case panic x=>
  obtain⟨x',hx,rfl⟩:=Ag ho;obtain⟨v,h1,h2⟩:=Ai h;cases v<;>try exact h2.elim
  have hev:=An he hx h1;have hev':=hev;obtain⟨c',e,hr⟩:=hev;rw[e]at hev' ⊢;exact⟨_,Z,h2,hev',hR,Bu.refl _ _ _⟩
 case call c=>exact YB o.type ho h he hR
end Go.Gl
