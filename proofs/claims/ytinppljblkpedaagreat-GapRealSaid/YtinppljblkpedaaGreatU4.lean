import Derived.Test.YtinppljblkpedaaGreatU3
set_option linter.all false
set_option linter.defProp false
set_option maxHeartbeats 8000000
noncomputable section
namespace Go.Gl
variable {P:Program} {F:Nat->Prop} {Z:AE} {w:World} {k kp:V->AE->Prop}
def JC {f:FuncId} (h:okF P f=true) (args:Array Value) (w:World):(callFunc f args).run P w= .ok (.enter f args) w:=by
 unfold okF at h;split at h
 .rename_i fn hf
  simp only[A4,zrJ,ne_eq]at h;have hb:fn.body.isNone=false:=by cases hb:fn.body<;>simp[hb]at h ⊢
  have hn:(fn.name== "runtime.NumGoroutine")=false:=by simpa using h.2
  simp only[callFunc,DZ,run_program,HG,hf,hn,hb,JX,if_false,E3]
 .cases h
def I2 {H:Nat->Nat->Option Value} {vs us:List V} {cs ds:Array Value} (h:fQ H vs cs) (k:fQ H us ds):fQ H (vs++us) (cs++ds):=by
 refine⟨by simp[h.1,k.1],OX (BH h.2 fun i hi=>?_) (BH k.2 fun i hi=>?_)⟩
 .simp only[GZ]
  rw[Array.getElem?_append_left (by rw[h.1];exact hi)]
 .simp only[GZ]
  rw[Array.getElem?_append_right (by rw[h.1];omega),h.1];simp
def Kj {H:Nat->Nat->Option Value} {env:Env} {a:Act} (he:CL H env a.tmps) {xs:Array Operand} {os:List CG} (ho:LG xs.toList=some os) {vs:List V} (hv:Xy env os=some vs):fQ H vs (xs.map a.eval):=by
 obtain⟨h1,h2⟩:=bS he ho hv;exact⟨by simpa using h1,BH h2 (fun i _=>by simp)⟩
def En {s:Sem Value} (h:CY F Z w k kp (s.run P w)):Good P F Z w k kp ((s.run P w).andThen fun c w=> .ok (.value c) w):=by
 have:=A6 (P:=P) h;simpa only[DZ,E3]using this
def Qd {f:FuncId} {vs:List V} {cs:Array Value} (hR:Rel F Z w) (hv:fQ (Hh F Z w) vs cs) (h:As P f vs Z (qk k kp)):Good P F Z w k kp ((callFunc f cs).run P w):=by
 rw[JC h.1];exact h.2 F w cs hR hv
def Nx {H:Nat->Nat->Option Value} {env:Env} {a:Act} (he:CL H env a.tmps) {x:Option Operand} {o:Option CG} (ho:cJ x=some o) {v:Option V} (hv:Jp env o=some v) :
    ft H v (x.map a.eval):=by
 cases x with
 | none=>
   cases ho;cases hv;trivial
 | some x=>
   simp only[cJ]at ho;cases hq:BU x with
   | none=>rw[hq]at ho;cases ho
   | some q=>
     rw[hq]at ho;cases ho;simp only[Jp]at hv;split at hv
     .rename_i u hu
      cases hv;exact Av he hq hu
     .cases hv
def ZA {env : Env} {a:Act} {c:Call} {ao:H4} (ty:TypeId) (ho:gC P c=some ao) (h:GC P ao env Z k kp) (he:CL (Hh F Z w) env a.tmps) (hR:Rel F Z w) :
    Good P F Z w k kp ((do let d<-resolve a.eval c ty;invoke d.target d.args:Sem Next).run P w):=by
 obtain⟨callee,args,tys⟩:=c;unfold gC at ho;split at ho
 ·
  rename_i x t hc ha ht;simp only at hc ha ht;subst hc;obtain rfl:args= #[x]:=by apply Array.ext';simpa using ha
  obtain rfl:tys= #[t]:=by apply Array.ext';simpa using ht
  simp only[resolve,DZ,E3,HG,invoke,builtin,List.map_toArray,CK,List.map_nil];split at ho
  .rename_i e hu
   cases hx:BU x with
   | none=>rw[hx]at ho;cases ho
   | some o=>
     rw[hx]at ho;cases ho;obtain⟨v,h1,h2⟩:=Am h;exact En (dy (P:=P) (kp:=kp) ty hu hR (Av he hx h1) h2)
  .rename_i e f hu
   cases hx:BU x with
   | none=>rw[hx]at ho;cases ho
   | some o=>
     rw[hx]at ho;cases ho;obtain⟨v,h1,h2⟩:=Am h;exact En (ZD (P:=P) (kp:=kp) ty hu hR (Av he hx h1) h2)
  .rename_i n e hu
   split at ho
   .rename_i hn
    cases ho;simp only[GC,ev,HX]at h;have hr:(Builtin.len_ #[t] ty #[a.eval x]).run P w= .ok (goInt n) w:=by simp[Builtin.len_,BK hu]
    exact En (s:=Builtin.len_ #[t] ty #[a.eval x]) (k:=k) (kp:=kp) (by rw[hr];exact Ax hR h ⟨rfl,by have:=Lv .i64;omega,hn⟩)
   .cases ho
  .cases ho
 ·
  rename_i x y t u hc ha ht;simp only at hc ha ht;subst hc;obtain rfl:args= #[x,y]:=by apply Array.ext';simpa using ha
  obtain rfl:tys= #[t,u]:=by apply Array.ext';simpa using ht
  split at ho
  .rename_i e e2 hu1 hu2
   split at ho
   .rename_i x' y' i hx hy hi
    split at ho
    .rename_i hcond
     obtain⟨rfl,hb,hz⟩:=hcond;cases ho;obtain⟨vx,h1,h⟩:=Am h;obtain⟨vy,h2,h⟩:=Am h;cases hzz:i.zero with
     | none=>rw[hzz]at hz;cases hz
     | some z=>
       rw[hzz]at hz;simp only[b9,Gh]at hz;simp only[resolve,DZ,E3,HG,invoke,builtin,List.map_toArray,CK,List.map_nil];exact En (U5 (P:=P) (kp:=kp) ty hu1 hi hzz hz hb hR (Av he hx h1) (Av he hy h2) h)
    .cases ho
   .cases ho
  .cases ho
 ·
  rename_i x y hc ha;simp only at hc ha;subst hc;obtain rfl:args= #[x,y]:=by apply Array.ext';simpa using ha
  split at ho
  .rename_i x' y' hx hy
   cases ho;obtain⟨vx,h1,g⟩:=Am h;clear h;obtain⟨vy,h2,h⟩:=Am g;clear g;cases vx<;>try exact h.elim
   cases vy<;>try exact h.elim
   rename_i ka p kb q;obtain⟨rfl,h⟩:=h;obtain⟨ex,bx⟩:=Av he hx h1;obtain⟨ey,by'⟩:=Av he hy h2
   have hr:(Builtin.max_ tys ty #[a.eval x,a.eval y]).run P w= .ok (.int ka (if q > p then q else p)) w:=by
    rw[ex,ey];simp[Builtin.max_,Builtin.max2]
   simp only[resolve,DZ,E3,HG,invoke,builtin,List.map_toArray,CK,List.map_nil];exact En (s:=Builtin.max_ tys ty #[a.eval x,a.eval y]) (k:=k) (kp:=kp) (by rw[hr];exact Ax hR h ⟨rfl,by split<;>assumption⟩)
  .cases ho
 ·
  rename_i x y hc ha;simp only at hc ha;subst hc;obtain rfl:args= #[x,y]:=by apply Array.ext';simpa using ha
  split at ho
  .rename_i x' y' hx hy
   cases ho;obtain⟨vx,h1,g⟩:=Am h;clear h;obtain⟨vy,h2,h⟩:=Am g;clear g;cases vx<;>try exact h.elim
   cases vy<;>try exact h.elim
   rename_i ka p kb q;obtain⟨rfl,h⟩:=h;obtain⟨ex,bx⟩:=Av he hx h1;obtain⟨ey,by'⟩:=Av he hy h2
   have hr:(Builtin.min_ tys ty #[a.eval x,a.eval y]).run P w= .ok (.int ka (if q<p then q else p)) w:=by
    rw[ex,ey];simp[Builtin.min_,Builtin.min2]
   simp only[resolve,DZ,E3,HG,invoke,builtin,List.map_toArray,CK,List.map_nil];exact En (s:=Builtin.min_ tys ty #[a.eval x,a.eval y]) (k:=k) (kp:=kp) (by rw[hr];exact Ax hR h ⟨rfl,by split<;>assumption⟩)
  .cases ho
 ·
  rename_i f hc;simp only at hc;subst hc;cases hx:LG args.toList with
  | none=>simp[hx]at ho
  | some os=>
    simp only[hx,b9,Gh]at ho;subst ho;obtain⟨vs,h1,h⟩:=Ix h;have:=Qd hR (Kj he hx h1) h;simp only[resolve,Act.eval,Deferred.ofValue,DZ,E3,HG,invoke,Array.append_empty,Array.empty_append];exact this
 ·
  rename_i x _ hc;simp only at hc;subst hc;split at ho
  .rename_i x' os hx hos
   cases ho;obtain⟨vx,h1,g⟩:=Am h;clear h;obtain⟨vs,h2,h⟩:=Ix g;clear g;cases vx<;>try exact h.elim
   rename_i fn first cap
   cases fn<;>try exact h.elim
   case yield l=>
    have hfc:first= []/\cap= []:=by
     cases first<;>cases cap<;>first|exact⟨rfl,rfl⟩|exact h.elim
    obtain⟨rfl,rfl⟩:=hfc;obtain⟨f',c',e1,e2,e3,e4,e5⟩:=Av he hx h1;obtain⟨f,tmps,assign,body,e6,e7⟩:=h F w _ hR (Kj he hos h2);have e2':f'= #[]:=Array.size_eq_zero_iff.1 e2;have e4':c'= #[]:=Array.size_eq_zero_iff.1 e4;subst e2' e4';simp only[resolve,e1,Deferred.ofValue,DZ,E3,HG,invoke,Array.append_empty,Array.empty_append];rw[e6];exact e7
   rename_i f;simp only[Ai]at h;obtain⟨f',c',e1,e2,e3,e4,e5⟩:=Av he hx h1;have:=Qd hR (I2 (I2 ⟨e2,e3⟩ (Kj he hos h2)) ⟨e4,e5⟩) h;simp only[resolve,e1,Deferred.ofValue,DZ,E3,HG,invoke];exact this
  .cases ho
 .cases ho
end Go.Gl
namespace Go.Gl
variable {P:Program} {F:Nat->Prop} {Z:AE} {w:World} {k kp:V->AE->Prop}
def KT {sz:Nat} {z:List V} (hz:z.length=sz) {H:Nat->Nat->Option Value} {c:Array Value} (hc:c.size=sz) (hv:BX H (fun i=>c[i]?) 0 z) (len:Nat) :
    BJ H (fun i=>((Array.range (len*sz)).map (c[· % c.size]!))[i]?) sz 0 (List.replicate len z):=by
 rw[BI];intro i e he;have hi:i<len:=by have:=(Ip.1 he).1;simpa using this
 rw[List.getElem?_replicate,if_pos hi]at he;cases he;refine⟨hz,BH hv (fun q hq=>?_)⟩
 have hlt:0+i*sz+q<len*sz:=by
  have:(i+1)*sz<=len*sz:=SE _ hi;rw[Nat.succ_mul]at this;omega
 rw[Array.getElem?_map,Array.getElem?_range,if_pos hlt];simp only[b9,hc,GZ];rw[Nat.add_comm,Nat.add_mul_mod_self_right,Nat.mod_eq_of_lt (by omega)];rw[getElem!_pos c q (by omega)];exact(Array.getElem?_eq_getElem (by omega)).symm
def TF {H : Nat -> Nat->Option Value} {env:Env} {a:Act} (he:CL H env a.tmps) {sz:Nat}: ∀ {parts:List (Nat×Operand)} {ps:List (Nat×CG)},
    (List.length parts=ps.length/\ ∀(i:Nat) (q:Nat×Operand) (r:Nat×CG),parts[i]? =some q->ps[i]? =some r->r.1=q.1/\BU q.2=some r.2)->
    ∀ {c:Array Value} {es fs:List (List V)},c.size=es.length*sz->BJ H (fun i=>c[i]?) sz 0 es->MO env sz es ps=some fs->
    ∃d,Instr.fill (fun i=>some (i*sz,sz)) c (parts.map fun(i,x)=>(i,a.eval x))=some d/\d.size=fs.length*sz/\BJ H (fun i=>d[i]?) sz 0 fs/\fs.length=es.length
 | [],ps,hp,c,es,fs,hs,hv,hf=>by
   have:ps= []:=List.eq_nil_of_length_eq_zero hp.1.symm;subst this;cases hf;exact⟨c,rfl,hs,hv,rfl⟩
 | (i, x) :: parts,ps,hp,c,es,fs,hs,hv,hf=>by
   cases ps with
   | nil=>simp at hp
   | cons r ps =>
     obtain⟨j,o⟩:=r;obtain⟨h1,h2⟩:=hp.2 0 _ _ rfl rfl;simp only at h1 h2;subst h1;simp only[MO]at hf;split at hf
     .rename_i v hev
      split at hf
      .rename_i vc hc
       cases hq:(Nat.beq vc.length sz&&Nat.blt j es.length)with
       | false=>rw[hq]at hf;simp at hf
       | true=>
         rw[hq]at hf;simp only[cond_true]at hf;simp only[A4,Nat.beq_eq,Nat.blt_eq]at hq;obtain⟨h3,h4⟩:=DA (Av he h2 hev) hc
         have hb:j*sz+sz<=c.size:=by
          rw[hs,<-Nat.succ_mul];exact SE _ hq.2
         have hrow:BJ H (fun i=>(DE c (j*sz) (a.eval x).cells.toList)[i]?) sz 0 (es.set j vc):=by
          rw[BI]at hv ⊢;intro q u hu;rw[List.getElem?_set]at hu;split at hu
          .rename_i ej
           subst ej;rw[if_pos hq.2]at hu;cases hu;refine⟨hq.1,BH h4 (fun p hp=>?_)⟩;simp only[GZ];rw[Ge _ _ _ _ (by simp;omega) (by simp;omega)];simp
          .rename_i ej
           obtain⟨h5,h6⟩:=hv q u hu;refine⟨h5,BH h6 (fun p hp=>?_)⟩;rw[DW];rcases Nat.lt_or_ge q j with hji|hji
           .left
            have:(q+1)*sz<=j*sz:=SE _ hji;rw[Nat.succ_mul]at this;omega
           .right
            have:(j+1)*sz<=q*sz:=SE _ (by omega);rw[Nat.succ_mul]at this;simp;omega
         obtain⟨d,h5,h6,h7,h8⟩:=TF he (parts:=parts) (ps:=ps) ⟨by simpa using hp.1,fun j q r hq hr=>hp.2 (j+1) q r (by simpa using hq) (by simpa using hr)⟩ (c:=DE c (j*sz) (a.eval x).cells.toList) (es:=es.set j vc)
          (by rw[D7];simpa using hs) hrow hf
         refine⟨d,?_,h6,h7,by simpa using h8⟩;simp only[CK,Instr.fill];rw[if_neg (by simp;omega),Qr];exact h5
      .cases hf
     .cases hf
def Sb {t:TypeId} (h:isInt P t=true): ∃ki,P.underlying t=some (.int ki):=by
 unfold isInt at h;split at h
 .rename_i ki hu;exact⟨ki,hu⟩
 .cases h
def Qw {t:TypeId} (h:isBool P t=true):P.underlying t=some .bool:=by
 unfold isBool at h;split at h
 .assumption
 .cases h
def Ao {α β:Type} {f:α->β} {o:Option α} {b:β} (h:o.map f=some b): ∃a,o=some a/\f a=b:=by
 cases o with
 | none=>cases h
 | some a=>exact⟨a,rfl,by simpa using h⟩
def dQ {env : Env} {a:Act} {o:Oper} {ao:H4} (ho:rOp P o.op=some ao) (h:GC P ao env Z k kp) (he:CL (Hh F Z w) env a.tmps) (hR:Rel F Z w) :
    Good P F Z w k kp ((execOp a.eval o).run P w):=by
 unfold execOp;cases hop:o.op<;>simp only[hop,rOp]at ho<;>try(cases ho;done)
 all_goals dsimp only
 case move x=>
  obtain⟨x',hx,rfl⟩:=Ao ho;obtain⟨v,h1,h2⟩:=Am h;exact⟨v,Z,h2,Av he hx h1,hR,B8.refl _ _ _⟩
 case assign x=>
  obtain⟨x',hx,rfl⟩:=Ao ho;obtain⟨v,h1,h2⟩:=Am h;exact⟨v,Z,h2,Av he hx h1,hR,B8.refl _ _ _⟩
 case pick c x y=>
  split at ho
  .rename_i c' x' y' hc hx hy
   cases ho;obtain⟨vc,h1,g⟩:=Am h;clear h;obtain⟨vx,h2,h⟩:=Am g;clear g;obtain⟨vy,h3,g⟩:=Am h;clear h;cases vc<;>try exact g.elim
   rename_i t;have hct:=Av he hc h1;simp only[Ac]at hct;simp only[hct,asBool,DZ,E3,HG]
   have g':k (bif t then vx else vy) Z:=by
    simp only at g;split at g
    .cases t<;>exact g
    .exact g
   cases t
   .exact⟨vy,Z,g',Av he hy h3,hR,B8.refl _ _ _⟩
   .exact⟨vx,Z,g',Av he hx h2,hR,B8.refl _ _ _⟩
  .cases ho
 case alloc e=>
  obtain⟨z,hz,rfl⟩:=Ao ho;exact A6 (Xl hz hR h)
 case box e x=>
  obtain⟨x',hx,rfl⟩:=Ao ho;obtain⟨v,h1,h2⟩:=Am h;cases hc:cellsOf v with
  | none=>rw[hc]at h2;exact h2.elim
  | some cs=>
    rw[hc]at h2;exact A6 (eF e hR (Av he hx h1) hc h2)
 case build t parts=>
  split at ho
  .rename_i z fields hz hu
   split at ho
   .rename_i hall
    obtain⟨ps,hps,rfl⟩:=Ao ho;obtain⟨us,h1,h2⟩:=Ix h;obtain⟨v,hz1,hz2⟩:=G7 hz;obtain⟨c,hz3,hz4⟩:=El hz1 w;obtain⟨h5,h6⟩:=DA (HY (H:=Hh F Z w) hz4) hz2;obtain⟨h7,h8⟩:=Q7 hps
    have hplaces: ∃places,fields.toList.mapM (fun f=>(P.info? f.type).map fun i=>(f.offset,i.size))=some places/\places.length=fields.size/\ ∀(j:Nat) (f:Field) (s:Nat),fields[j]? =some f->EX P f.type=some s->places[j]? =some (f.offset,s):=by
     have hgen: ∀l:List Field,l.all (fun f=>(EX P f.type).isSome)=true-> ∃places,l.mapM (fun f=>(P.info? f.type).map fun i=>(f.offset,i.size))=some places/\places.length=l.length/\
      ∀(j:Nat) (f:Field) (s:Nat),l[j]? =some f->EX P f.type=some s->places[j]? =some (f.offset,s):=by
      intro l
      induction l with
      | nil=>intro _;exact⟨[],by simp,rfl,by simp⟩
      | cons f l ih=>
        intro hl;simp only[Ri,A4]at hl;obtain⟨places,g1,g2,g3⟩:=ih hl.2;obtain⟨s,hs⟩:=Option.isSome_iff_exists.1 hl.1;obtain⟨i,hi,hsz⟩:=NL hs;refine⟨(f.offset,s)::places,by simp[List.mapM_cons,hi,g1,hsz],by simp[g2],fun j f' s' hj hs'=>?_⟩;cases j with
        | zero=>simp at hj;subst hj;rw[hs]at hs';cases hs';rfl
        | succ j=>exact g3 j f' s' (by simpa using hj) hs'
     obtain⟨places,g1,g2,g3⟩:=hgen fields.toList hall;exact⟨places,g1,by simpa using g2,fun j f s hj hs=>g3 j f s (by simpa using hj) hs⟩
    obtain⟨places,g1,g2,g3⟩:=hplaces
    obtain⟨d,h9,h10,h11⟩:=Qj he (parts:=parts.toList) (ps:=ps) (place:=fun x=>places[x]?) ⟨h7,fun i q r hq hr=>by
     obtain⟨⟨f,e1,e2,e3⟩,e4⟩:=h8 i q r hq hr
     exact⟨by rw[g3 _ f _ e1 e3,e2],e4⟩⟩ h5 h6 h1
    have hrun:(Instr.build t (parts.map fun(i,x)=>(i,a.eval x))).run P w= .ok (.agg d) w:=by
     refine run_build w t _ d ?_;obtain⟨it,c',q1,q2,q3⟩:=XN hz1
     have hcc:c'=c:=by
      have:(zeroValue t).run P w= .ok c' w:=by simp[zeroValue,typeInfo,q1,q2]
      rw[hz3]at this;cases this;rfl
     subst hcc;simp only[Program.built,q1,hu,q2,g1,Array.toList_map,List.getElem?_toArray];exact h9
    exact A6 (by rw[hrun];exact Ax hR h2 ⟨d,rfl,h10,h11⟩)
   .cases ho
  .rename_i z len e hz hu
   cases hsz:EX P e with
   | none=>rw[hsz]at ho;cases ho
   | some sz=>
     rw[hsz]at ho;simp only[Option.bind_some]at ho;obtain⟨ps,hps,rfl⟩:=Ao ho;obtain⟨us,h1,h2⟩:=Ix h;obtain⟨v,hz1,hz2⟩:=G7 hz;obtain⟨c,hz3,hz4⟩:=El hz1 w;obtain⟨h5,h6⟩:=DA (HY (H:=Hh F Z w) hz4) hz2;obtain⟨h7,h8⟩:=Oe hps
     obtain⟨d,h9,h10,h11⟩:=Qj he (parts:=parts.toList) (ps:=ps) (place:=fun i=>some (i*sz,sz)) ⟨h7,fun i q r hq hr=>by
      obtain⟨⟨e1,e2⟩,e4⟩:=h8 i q r hq hr
      exact⟨by rw[e1,e2],e4⟩⟩ h5 h6 h1
     have hrun:(Instr.build t (parts.map fun(i,x)=>(i,a.eval x))).run P w= .ok (.agg d) w:=by
      unfold Instr.build;simp only[DZ,hz3,HG,BK hu,Ea hsz,Array.toList_map,h9,E3]
     exact A6 (by rw[hrun];exact Ax hR h2 ⟨d,rfl,h10,h11⟩)
  .cases ho
 case buildSlice t len parts=>
  split at ho
  .rename_i e hu
   split at ho
   .rename_i z sz hz hsz
    split at ho
    .rename_i hcond
     obtain⟨hzl,h0,hln,hsmall⟩:=hcond;obtain⟨ps,hps,rfl⟩:=Ao ho;simp only[GC]at h;rw[hzl]at h;obtain⟨fs,h1,h3⟩:=Zy h
     have h2:len<=Ab:=by
      have:len*1<=len*sz:=Nat.mul_le_mul_left _ (by omega);simp only[Ab];omega
     obtain⟨v,hz1,hz2⟩:=G7 hz;obtain⟨c,hz3,hz4⟩:=El hz1 w;obtain⟨h5,h6⟩:=DA (HY (H:=Hh F Z w) hz4) hz2;obtain⟨h7,h8⟩:=Od hps
     obtain⟨d,h9,h10,h11,h12⟩:=TF he (sz:=sz) (parts:=parts.toList) (ps:=ps) ⟨h7,h8⟩ (c:=(Array.range (len*sz)).map (c.cells[· % c.cells.size]!)) (by simp)
      (KT hzl (by omega) h6 len) h1
     have hfl:fs.length=len:=by simpa using h12
     have hrun:(Instr.buildSlice t len (parts.map fun(i,x)=>(i,a.eval x))).run P w= .ok (.slice (some ⟨w.heap.size,0,none⟩) len len) (w.alloc (.cells d e)):=by
      unfold Instr.buildSlice;have hns: ¬len*sz > 2 ^ 24:=by omega
      simp only[DZ,BK hu,HG,Ea hsz,hns,if_false];have hl0: ¬len*sz=0:=fun h=>by rcases Nat.mul_eq_zero.1 h with h|h<;>omega
      simp only[hl0,if_false,DZ,hz3,HG,E3,Array.toList_map,h9];rfl
     refine A6 ?_;rw[hrun];have ha:B8 F Z w Z (w.alloc (.cells d e)):=JB w _;refine⟨_,Z,h3,?_,Lo hR _,ha⟩;refine⟨some ⟨w.heap.size,0,none⟩,len,by rw[hfl],by omega,fun _=>hfl.symm,Mb (by omega),by simp,fun _=>⟨w.heap.size,0,sz,rfl,?_⟩⟩;refine BJ.mono ha.hle (fun i v hv=>?_) _ _ _ h11;rw[OW (fun hl=>absurd (hR.lock _ hl) (Nat.lt_irrefl _)) hR.new,Db (heap_alloc_new w _)];exact hv
    .cases ho
   .cases ho
  .cases ho
 case load t x=>
  split at ho
  .rename_i agg x' hA hx
   cases ho;obtain⟨v,h1,h2⟩:=Am h;exact A6 (ZC hA hR (Av he hx h1) h2)
  .cases ho
 case store t ad x=>
  split at ho
  .rename_i s a' x' hs ha hx
   cases ho;obtain⟨va,h1,g⟩:=Am h;obtain⟨vx,h2,h3⟩:=Am g;obtain⟨Z',w',e1,e2,e3,e4⟩:=Xg hs hR (Av he ha h1) (Av he hx h2) h3;simp only[DZ,e1,HG,E3];exact⟨Z',e2,e3,e4⟩
  .cases ho
 case binOp op t x y yt=>
  split at ho
  .rename_i x' y' hx hy
   unfold yk at ho;split at ho
   .cases ho
    obtain⟨vx,h1,g⟩:=Am h;obtain⟨vy,h2,h3⟩:=Am g;exact A6 (eG op x y hR (Av he hx h1) (Av he hy h2) h3)
   .split at ho
    .rename_i _ hb
     split at ho
     .cases ho
      obtain⟨vx,h1,g⟩:=Am h;obtain⟨vy,h2,h3⟩:=Am g;cases vx<;>try exact h3.elim
      cases vy<;>try exact h3.elim
      have ex:=Av he hx h1;have ey:=Av he hy h2;simp only[Ac]at ex ey;rw[ex,ey];exact A6 (S7 (Qw hb) _ (.inl rfl) x y hR h3)
     .cases ho
      obtain⟨vx,h1,g⟩:=Am h;obtain⟨vy,h2,h3⟩:=Am g;cases vx<;>try exact h3.elim
      cases vy<;>try exact h3.elim
      have ex:=Av he hx h1;have ey:=Av he hy h2;simp only[Ac]at ex ey;rw[ex,ey];exact A6 (S7 (Qw hb) _ (.inr rfl) x y hR h3)
     .cases ho
    .cases ho
  .cases ho
 case unOp op t x=>
  cases op<;>simp only at ho
  case not=>
   obtain⟨x',hx,rfl⟩:=Ao ho;obtain⟨v,h1,h2⟩:=Am h;cases v<;>try exact h2.elim
   have ex:=Av he hx h1;simp only[Ac]at ex;rw[ex];exact A6 (s:=Op.unary .not (.bool _)) (Ax hR h2 rfl)
  case neg=>
   split at ho
   .obtain⟨x',hx,rfl⟩:=Ao ho
    obtain⟨v,h1,h2⟩:=Am h;cases v<;>try exact h2.elim
    obtain⟨ex,_⟩:=Av he hx h1;rw[ex];exact A6 (s:=Op.unary .neg (.int _ _)) (Ax hR h2 ⟨rfl,KV _ _⟩)
   .cases ho
  case xor=>
   split at ho
   .obtain⟨x',hx,rfl⟩:=Ao ho
    obtain⟨v,h1,h2⟩:=Am h;cases v<;>try exact h2.elim
    rename_i ka n;obtain⟨ex,_⟩:=Av he hx h1;rw[ex];refine A6 (s:=Op.unary .xor (.int ka n)) ?_
    have:(Op.unary .xor (.int ka n)).run P w= .ok (.int ka (bits .xor ka (bif ka.signed then -1 else ka.max) n)) w:=by
     simp only[Op.unary,Op.intBits,E3,bits];cases ka.signed<;>rfl
    rw[this];exact Ax hR h2 ⟨rfl,KV _ _⟩
   .cases ho
  all_goals cases ho
 case convert s d x=>
  split at ho
  .rename_i k1 k2 hs hd
   obtain⟨x',hx,rfl⟩:=Ao ho;obtain⟨v,h1,h2⟩:=Am h;cases v<;>try exact h2.elim
   rename_i ka n;obtain⟨ex,_⟩:=Av he hx h1;rw[ex];refine A6 (s:=convert s d (.int ka n)) ?_
   have:(convert s d (.int ka n)).run P w= .ok (.int k2 (k2.wrap n)) w:=by
    simp only[convert,DZ,BK hs,BK hd,HG,Conv.intToInt,E3]
   rw[this];exact Ax hR h2 ⟨rfl,KV _ _⟩
  .cases ho
 case makeInterface t x=>
  split at ho
  .cases ho
  .rename_i d hd hu
   obtain⟨x',hx,rfl⟩:=Ao ho;obtain⟨v,h1,h2⟩:=Am h;refine A6 ?_
   have:(Instr.makeInterface t (a.eval x)).run P w= .ok (.iface t (a.eval x)) w:=by
    simp only[Instr.makeInterface,DZ,BK hu,HG];cases d<;>first|rfl|exact absurd hu (hd _)
   rw[this];exact Ax hR h2 ⟨_,rfl,Av he hx h1⟩
  .cases ho
 case makeFunc fn first cap=>
  cases fn<;>simp only at ho<;>try(cases ho;done)
  rename_i f;split at ho
  .rename_i os ps h1 h2
   cases ho;obtain⟨vf,h3,g⟩:=Ix h;obtain⟨vc,h4,h5⟩:=Ix g;have e1:=Kj he h1 h3;have e2:=Kj he h2 h4;exact⟨_,Z,h5,⟨_,_,rfl,e1.1,e1.2,e2.1,e2.2⟩,hR,B8.refl _ _ _⟩
  .cases ho
 case slice t x lo hi mx=>
  split at ho
  .rename_i e hu
   split at ho
   .rename_i s x' l' h' m' hs hx hl hh hm
    split at ho
    .rename_i hcond
     cases ho;obtain⟨vx,h1,g⟩:=Am h;obtain⟨vl,h2,g2⟩:=UI g;obtain⟨vh,h3,g3⟩:=UI g2;obtain⟨vm,h4,g4⟩:=UI g3;refine A6 (Xh hu hs hcond.1 hR (Av he hx h1) (Nx he hl h2) (Nx he hh h3) (Nx he hm h4) (fun hms=>?_) g4)
     have:m'.isSome=true:=by
      cases mx with
      | none=>simp at hms
      | some q=>
        simp only[cJ]at hm;cases hq:BU q with
        | none=>rw[hq]at hm;cases hm
        | some z=>rw[hq]at hm;cases hm;rfl
     have:=hcond.2 this;cases hi with
     | none=>cases hh;simp at this
     | some q=>rfl
    .cases ho
   .cases ho
  .cases ho
 case fieldAddr s x f=>
  split at ho
  .rename_i fields hu
   split at ho
   .rename_i fd hf
    split at ho
    .rename_i sz hs
     split at ho
     .cases ho
     .rename_i h0
      obtain⟨x',hx,rfl⟩:=Ao ho;obtain⟨v,h1,h2⟩:=Am h;exact A6 (Xk hu hf hs h0 hR (Av he hx h1) h2)
    .cases ho
   .cases ho
  .cases ho
 case field t x f=>
  split at ho
  .rename_i fields hu
   split at ho
   .rename_i fd hf
    split at ho
    .rename_i agg x' hA hx
     cases ho;obtain⟨v,h1,h2⟩:=Am h;cases v<;>try exact h2.elim
     exact A6 (Xj hu hf hA hR (Av he hx h1) h2)
    .cases ho
   .cases ho
  .cases ho
 case indexAddr t x i=>
  split at ho
  .rename_i e hu
   split at ho
   .rename_i s x' i' hs hx hi
    cases ho;obtain⟨vx,h1,g⟩:=Am h;obtain⟨vi,h2,h3⟩:=Am g;exact A6 (NP hu hs hR (Av he hx h1) (Av he hi h2) h3)
   .cases ho
  .rename_i n e hu
   split at ho
   .rename_i s x' i' hs hx hi
    cases ho;obtain⟨vx,h1,g⟩:=Am h;obtain⟨vi,h2,h3⟩:=Am g;exact A6 (NQ hu hs hR (Av he hx h1) (Av he hi h2) h3)
   .cases ho
  .cases ho
 case index t x i=>
  split at ho
  .rename_i n e hu
   split at ho
   .rename_i s ag x' i' hs hA hx hi
    cases ho;obtain⟨vx,h1,g⟩:=Am h;obtain⟨vi,h2,h3⟩:=Am g;exact A6 (Xi hu hs hA hR (Av he hx h1) (Av he hi h2) h3)
   .cases ho
  .cases ho
 case extract x i=>
  obtain⟨x',hx,rfl⟩:=Ao ho;obtain⟨v,h1,h2⟩:=Am h;cases v<;>try exact h2.elim
  rename_i vs;simp only at h2;split at h2
  .rename_i u hu
   obtain⟨c,e1,e2,e3⟩:=Av he hx h1;obtain⟨d,hd,hr⟩:=Bg.1 e3 i u hu;simp only[GZ]at hd;refine A6 ?_
   have:(Instr.extract (a.eval x) i).run P w= .ok d w:=by
    rw[e1];simp only[Instr.extract,hd,E3]
   rw[this];exact Ax hR h2 hr
  .exact h2.elim
 case nilCheck x=>
  obtain⟨x',hx,rfl⟩:=Ao ho;obtain⟨v,h1,h2⟩:=Am h;have hev:=Av he hx h1;cases v<;>try exact h2.elim
  case p n off=>
   have e:=hev;simp only[Ac]at e;simp only[e];exact⟨_,Z,h2,rfl,hR,B8.refl _ _ _⟩
  case rp cs=>
   have hev':=hev;obtain⟨b,o',e,_⟩:=hev;simp only[e];rw[e]at hev';exact⟨_,Z,h2,hev',hR,B8.refl _ _ _⟩
  case pe n sz i off=>
   have e:=hev;simp only[Ac]at e;simp only[e];exact⟨_,Z,h2,rfl,hR,B8.refl _ _ _⟩
  case f fn first cap=>
   cases fn<;>try exact h2.elim
   all_goals
    have hev':=hev;obtain⟨f',c',e,_⟩:=hev;simp only[e];rw[e]at hev';exact⟨_,Z,h2,hev',hR,B8.refl _ _ _⟩
 case typeAssert x xt t ok=>
  split at ho
  .cases ho
  .rename_i d hd hu
   split at ho
   .rename_i x' z hx hz
    cases ho;obtain⟨v,h1,h2⟩:=Am h;have hev:=Av he hx h1;obtain⟨c,hz3,hz4⟩:=El hz w;have hzr:=HY (H:=Hh F Z w) hz4;cases v<;>try exact h2.elim
    case ME t' u=>
     obtain⟨c',e,hr⟩:=hev;rw[e];refine A6 ?_;by_cases htt:t'=t
     .have:(Instr.typeAssert (.iface t' c') xt t ok).run P w= .ok (if ok then .tuple #[c',.bool true]else c') w:=by
       unfold Instr.typeAssert;simp only[DZ,BK hu,HG];cases d<;>first|(simp[htt];done)|exact absurd hu (hd _)
      rw[this];refine Ax hR (h2.1 htt) ?_;cases ok
      .exact hr
      .exact⟨_,rfl,rfl,⟨c',rfl,hr⟩,⟨_,rfl,rfl⟩,trivial⟩
     .obtain⟨rfl,h3⟩:=h2.2 htt
      have:(Instr.typeAssert (.iface t' c') xt t true).run P w= .ok (.tuple #[c,.bool false]) w:=by
       unfold Instr.typeAssert;simp only[DZ,BK hu,HG];cases d<;>first|(simp[htt,hz3];done)|exact absurd hu (hd _)
      rw[this];exact Ax hR h3 ⟨_,rfl,rfl,⟨c,rfl,hzr⟩,⟨_,rfl,rfl⟩,trivial⟩
    case K7=>
     simp only[Ac]at hev;rw[hev];obtain⟨rfl,h3⟩:=h2;refine A6 ?_
     have:(Instr.typeAssert .nilIface xt t true).run P w= .ok (.tuple #[c,.bool false]) w:=by
      unfold Instr.typeAssert;simp only[DZ,BK hu,HG];cases d<;>first|(simp[hz3];done)|exact absurd hu (hd _)
     rw[this];exact Ax hR h3 ⟨_,rfl,rfl,⟨c,rfl,hzr⟩,⟨_,rfl,rfl⟩,trivial⟩
   .cases ho
  .cases ho
 case panic x=>
  obtain⟨x',hx,rfl⟩:=Ao ho;obtain⟨v,h1,h2⟩:=Am h;cases v<;>try exact h2.elim
  have hev:=Av he hx h1;have hev':=hev;obtain⟨c',e,hr⟩:=hev;rw[e]at hev' ⊢;exact⟨_,Z,h2,hev',hR,B8.refl _ _ _⟩
 case call c=>exact ZA o.type ho h he hR
end Go.Gl
