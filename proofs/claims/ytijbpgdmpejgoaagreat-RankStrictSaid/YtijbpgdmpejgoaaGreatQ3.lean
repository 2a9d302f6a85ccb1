import Derived.Laws.MakeOwn
import Derived.ChangeKeysEq
import Derived.Laws.StructEq
import Derived.Laws.BytesArg
import Derived.Test.YtijbpgdmpejgoaaGreatQ2
set_option linter.all false
set_option linter.unusedVariables false
set_option linter.unusedSimpArgs false
namespace Go.Gl
variable {P:Program} {Λ:Nat→Prop} {σ:AG} {w:World} {k kp:V→AG→Prop}
theorem H5 {sz:Nat} {z:List V} (hz:z.length=sz) {H:Nat→Nat→Option Value} {c:Array Value} (hc:c.size=sz) (hv:BV H (fun i=>c[i]?) 0 z) (len:Nat) :
 BH H (fun i=>((Array.range (len*sz)).map (c[· % c.size]!))[i]?) sz 0 (List.replicate len z):=by
 rw[A7];intro i e he;have hi:i<len:=by have:=(List.getElem?_eq_some_iff.1 he).1;simpa using this
 rw[List.getElem?_replicate,if_pos hi]at he;cases he;refine⟨hz,A3 hv (fun q hq=>?_)⟩
 have hlt:0+i*sz+q<len*sz:=by
  have:(i+1)*sz≤len*sz:=Nat.mul_le_mul_right _ hi;rw[Nat.succ_mul]at this;omega
 rw[Array.getElem?_map,Array.getElem?_range,if_pos hlt];simp only[ZB,hc,Nat.zero_add];rw[Nat.add_comm,Nat.add_mul_mod_self_right,Nat.mod_eq_of_lt (by omega)];rw[getElem!_pos c q (by omega)];exact(Array.getElem?_eq_getElem (by omega)).symm
theorem Pw {H : Nat→Nat→Option Value} {env:Env} {a:Act} (he:CQ H env a.tmps) {sz:Nat}: ∀ {parts:List (Nat×Operand)} {ps:List (Nat×Bj)},
 (List.length parts=ps.length∧ ∀(i:Nat) (q:Nat×Operand) (r:Nat×Bj),parts[i]? =some q→ps[i]? =some r→r.1=q.1∧BR q.2=some r.2)→
 ∀ {c:Array Value} {es fs:List (List V)},c.size=es.length*sz→BH H (fun i=>c[i]?) sz 0 es→Hn env sz es ps=some fs→
 ∃d,Instr.fill (fun i=>some (i*sz,sz)) c (parts.map fun(i,x)=>(i,a.eval x))=some d∧d.size=fs.length*sz∧BH H (fun i=>d[i]?) sz 0 fs∧fs.length=es.length
 | [],ps,hp,c,es,fs,hs,hv,hf=>by
   have:ps= []:=List.eq_nil_of_length_eq_zero hp.1.symm;subst this;cases hf;exact⟨c,rfl,hs,hv,rfl⟩
 | (i, x) :: parts,ps,hp,c,es,fs,hs,hv,hf=>by
   cases ps with
   | nil=>simp at hp
   | cons r ps =>
     obtain⟨j,o⟩:=r;obtain⟨h1,h2⟩:=hp.2 0 _ _ rfl rfl;simp only at h1 h2;subst h1;simp only[Hn]at hf;split at hf
     ·rename_i v hev
      split at hf
      ·rename_i vc hc
       cases hq:(Nat.beq vc.length sz&&Nat.blt j es.length)with
       | false=>rw[hq]at hf;simp at hf
       | true=>
         rw[hq]at hf;simp only[cond_true]at hf;simp only[BO,Nat.beq_eq,Nat.blt_eq]at hq;obtain⟨h3,h4⟩:=Cn (Al he h2 hev) hc
         have hb:j*sz+sz≤c.size:=by
          rw[hs,←Nat.succ_mul];exact Nat.mul_le_mul_right _ hq.2
         have hrow:BH H (fun i=>(Co c (j*sz) (a.eval x).cells.toList)[i]?) sz 0 (es.set j vc):=by
          rw[A7]at hv ⊢;intro q u hu;rw[List.getElem?_set]at hu;split at hu
          ·rename_i ej
           subst ej;rw[if_pos hq.2]at hu;cases hu;refine⟨hq.1,A3 h4 (fun p hp=>?_)⟩;simp only[Nat.zero_add];rw[FW _ _ _ _ (by simp;omega) (by simp;omega)];simp
          ·rename_i ej
           obtain⟨h5,h6⟩:=hv q u hu;refine⟨h5,A3 h6 (fun p hp=>?_)⟩;rw[C6];rcases Nat.lt_or_ge q j with hji|hji
           ·left
            have:(q+1)*sz≤j*sz:=Nat.mul_le_mul_right _ hji;rw[Nat.succ_mul]at this;omega
           ·right
            have:(j+1)*sz≤q*sz:=Nat.mul_le_mul_right _ (by omega);rw[Nat.succ_mul]at this;simp;omega
         obtain⟨d,h5,h6,h7,h8⟩:=Pw he (parts:=parts) (ps:=ps) ⟨by simpa using hp.1,fun j q r hq hr=>hp.2 (j+1) q r (by simpa using hq) (by simpa using hr)⟩ (c:=Co c (j*sz) (a.eval x).cells.toList) (es:=es.set j vc)
          (by rw[Dd];simpa using hs) hrow hf
         refine⟨d,?_,h6,h7,by simpa using h8⟩;simp only[List.map_cons,Instr.fill];rw[if_neg (by simp;omega),N1];exact h5
      ·cases hf
     ·cases hf
theorem PN {t:TypeId} (h:isInt P t=true): ∃ki,P.underlying t=some (.int ki):=by
 unfold isInt at h;split at h
 ·rename_i ki hu;exact⟨ki,hu⟩
 ·cases h
theorem N2 {t:TypeId} (h:isBool P t=true):P.underlying t=some .bool:=by
 unfold isBool at h;split at h
 ·assumption
 ·cases h
theorem Ag {α β:Type} {f:α→β} {o:Option α} {b:β} (h:o.map f=some b): ∃a,o=some a∧f a=b:=by
 cases o with
 | none=>cases h
 | some a=>exact⟨a,rfl,by simpa using h⟩
theorem X1 {env:Env} {a:Act} {o:Oper} {ao:EW} (ho:rOp P o.op=some ao) (h:Ei P ao env σ k kp) (he:CQ (Hh Λ σ w) env a.tmps) (G:Rel Λ σ w) :
 Good P Λ σ w k kp ((execOp a.eval o).run P w):=by
 unfold execOp;cases hop:o.op<;>simp only[hop,rOp]at ho<;>try(cases ho;done)
 all_goals dsimp only
 case move x=>
  obtain⟨x',hx,rfl⟩:=Ag ho;obtain⟨v,h1,h2⟩:=Ah h;exact⟨v,σ,h2,Al he hx h1,G,B5.refl _ _ _⟩
 case assign x=>
  obtain⟨x',hx,rfl⟩:=Ag ho;obtain⟨v,h1,h2⟩:=Ah h;exact⟨v,σ,h2,Al he hx h1,G,B5.refl _ _ _⟩
 case pick c x y=>
  split at ho
  ·rename_i c' x' y' hc hx hy
   cases ho;obtain⟨vc,h1,g⟩:=Ah h;clear h;obtain⟨vx,h2,h⟩:=Ah g;clear g;obtain⟨vy,h3,g⟩:=Ah h;clear h;cases vc<;>try exact g.elim
   rename_i t;have hct:=Al he hc h1;simp only[AZ]at hct;simp only[hct,asBool,Sem.run_bind,Sem.run_pure,Result.andThen_ok]
   have g':k (bif t then vx else vy) σ:=by
    simp only at g;split at g
    ·cases t<;>exact g
    ·exact g
   cases t
   ·exact⟨vy,σ,g',Al he hy h3,G,B5.refl _ _ _⟩
   ·exact⟨vx,σ,g',Al he hx h2,G,B5.refl _ _ _⟩
  ·cases ho
 case alloc e=>
  obtain⟨z,hz,rfl⟩:=Ag ho;exact As (T4 hz G h)
 case box e x=>
  obtain⟨x',hx,rfl⟩:=Ag ho;obtain⟨v,h1,h2⟩:=Ah h;cases hc:cellsOf v with
  | none=>rw[hc]at h2;exact h2.elim
  | some cs=>
    rw[hc]at h2;exact As (YT e G (Al he hx h1) hc h2)
 case build t parts=>
  split at ho
  ·rename_i z fields hz hu
   split at ho
   ·rename_i hall
    obtain⟨ps,hps,rfl⟩:=Ag ho;obtain⟨us,h1,h2⟩:=HE h;obtain⟨v,hz1,hz2⟩:=Fi hz;obtain⟨c,hz3,hz4⟩:=Dy hz1 w;obtain⟨h5,h6⟩:=Cn (Fx (H:=Hh Λ σ w) hz4) hz2;obtain⟨h7,h8⟩:=OA hps
    have hplaces: ∃places,fields.toList.mapM (fun f=>(P.info? f.type).map fun i=>(f.offset,i.size))=some places∧places.length=fields.size∧ ∀(j:Nat) (f:Field) (s:Nat),fields[j]? =some f→Dl P f.type=some s→places[j]? =some (f.offset,s):=by
     have hgen: ∀l:List Field,l.all (fun f=>(Dl P f.type).isSome)=true→ ∃places,l.mapM (fun f=>(P.info? f.type).map fun i=>(f.offset,i.size))=some places∧places.length=l.length∧
      ∀(j:Nat) (f:Field) (s:Nat),l[j]? =some f→Dl P f.type=some s→places[j]? =some (f.offset,s):=by
      intro l
      induction l with
      | nil=>intro _;exact⟨[],by simp,rfl,by simp⟩
      | cons f l ih=>
        intro hl;simp only[List.all_cons,BO]at hl;obtain⟨places,g1,g2,g3⟩:=ih hl.2;obtain⟨s,hs⟩:=Option.isSome_iff_exists.1 hl.1;obtain⟨i,hi,hsz⟩:=Ko hs;refine⟨(f.offset,s)::places,by simp[List.mapM_cons,hi,g1,hsz],by simp[g2],fun j f' s' hj hs'=>?_⟩;cases j with
        | zero=>simp at hj;subst hj;rw[hs]at hs';cases hs';rfl
        | succ j=>exact g3 j f' s' (by simpa using hj) hs'
     obtain⟨places,g1,g2,g3⟩:=hgen fields.toList hall;exact⟨places,g1,by simpa using g2,fun j f s hj hs=>g3 j f s (by simpa using hj) hs⟩
    obtain⟨places,g1,g2,g3⟩:=hplaces
    obtain⟨d,h9,h10,h11⟩:=Nr he (parts:=parts.toList) (ps:=ps) (place:=fun x=>places[x]?) ⟨h7,fun i q r hq hr=>by
     obtain⟨⟨f,e1,e2,e3⟩,e4⟩:=h8 i q r hq hr
     exact⟨by rw[g3 _ f _ e1 e3,e2],e4⟩⟩ h5 h6 h1
    have hrun:(Instr.build t (parts.map fun(i,x)=>(i,a.eval x))).run P w= .ok (.agg d) w:=by
     refine run_build w t _ d ?_;obtain⟨it,c',q1,q2,q3⟩:=Tf hz1
     have hcc:c'=c:=by
      have:(zeroValue t).run P w= .ok c' w:=by simp[zeroValue,typeInfo,q1,q2]
      rw[hz3]at this;cases this;rfl
     subst hcc;simp only[Program.built,q1,hu,q2,g1,Array.toList_map,List.getElem?_toArray];exact h9
    exact As (by rw[hrun];exact Ap G h2 ⟨d,rfl,h10,h11⟩)
   ·cases ho
  ·rename_i z len e hz hu
   cases hsz:Dl P e with
   | none=>rw[hsz]at ho;cases ho
   | some sz=>
     rw[hsz]at ho;simp only[Option.bind_some]at ho;obtain⟨ps,hps,rfl⟩:=Ag ho;obtain⟨us,h1,h2⟩:=HE h;obtain⟨v,hz1,hz2⟩:=Fi hz;obtain⟨c,hz3,hz4⟩:=Dy hz1 w;obtain⟨h5,h6⟩:=Cn (Fx (H:=Hh Λ σ w) hz4) hz2;obtain⟨h7,h8⟩:=L8 hps
     obtain⟨d,h9,h10,h11⟩:=Nr he (parts:=parts.toList) (ps:=ps) (place:=fun i=>some (i*sz,sz)) ⟨h7,fun i q r hq hr=>by
      obtain⟨⟨e1,e2⟩,e4⟩:=h8 i q r hq hr
      exact⟨by rw[e1,e2],e4⟩⟩ h5 h6 h1
     have hrun:(Instr.build t (parts.map fun(i,x)=>(i,a.eval x))).run P w= .ok (.agg d) w:=by
      unfold Instr.build;simp only[Sem.run_bind,hz3,Result.andThen_ok,A9 hu,Dm hsz,Array.toList_map,h9,Sem.run_pure]
     exact As (by rw[hrun];exact Ap G h2 ⟨d,rfl,h10,h11⟩)
  ·cases ho
 case buildSlice t len parts=>
  split at ho
  ·rename_i e hu
   split at ho
   ·rename_i z sz hz hsz
    split at ho
    ·rename_i hcond
     obtain⟨hzl,h0,hln,hsmall⟩:=hcond;obtain⟨ps,hps,rfl⟩:=Ag ho;simp only[Ei]at h;rw[hzl]at h;obtain⟨fs,h1,h3⟩:=WR h
     have h2:len≤Ax:=by
      have:len*1≤len*sz:=Nat.mul_le_mul_left _ (by omega);simp only[Ax];omega
     obtain⟨v,hz1,hz2⟩:=Fi hz;obtain⟨c,hz3,hz4⟩:=Dy hz1 w;obtain⟨h5,h6⟩:=Cn (Fx (H:=Hh Λ σ w) hz4) hz2;obtain⟨h7,h8⟩:=L7 hps
     obtain⟨d,h9,h10,h11,h12⟩:=Pw he (sz:=sz) (parts:=parts.toList) (ps:=ps) ⟨h7,h8⟩ (c:=(Array.range (len*sz)).map (c.cells[· % c.cells.size]!)) (by simp)
      (H5 hzl (by omega) h6 len) h1
     have hfl:fs.length=len:=by simpa using h12
     have hrun:(Instr.buildSlice t len (parts.map fun(i,x)=>(i,a.eval x))).run P w= .ok (.slice (some ⟨w.heap.size,0,none⟩) len len) (w.alloc (.cells d e)):=by
      unfold Instr.buildSlice;have hns: ¬len*sz > 2 ^ 24:=by omega
      simp only[Sem.run_bind,A9 hu,Result.andThen_ok,Dm hsz,hns,if_false];have hl0: ¬len*sz=0:=fun h=>by rcases Nat.mul_eq_zero.1 h with h|h<;>omega
      simp only[hl0,if_false,Sem.run_bind,hz3,Result.andThen_ok,Sem.run_pure,Array.toList_map,h9];rfl
     refine As ?_;rw[hrun];have ha:B5 Λ σ w σ (w.alloc (.cells d e)):=HP w _;refine⟨_,σ,h3,?_,JT G _,ha⟩;refine⟨some ⟨w.heap.size,0,none⟩,len,by rw[hfl],by omega,fun _=>hfl.symm,by omega,by simp,fun _=>⟨w.heap.size,0,sz,rfl,?_⟩⟩;refine BH.mono ha.hle (fun i v hv=>?_) _ _ _ h11;rw[L2 (fun hl=>absurd (G.lock _ hl) (Nat.lt_irrefl _)) G.new,DJ (heap_alloc_new w _)];exact hv
    ·cases ho
   ·cases ho
  ·cases ho
 case load t x=>
  split at ho
  ·rename_i agg x' Y hx
   cases ho;obtain⟨v,h1,h2⟩:=Ah h;exact As (Vg Y G (Al he hx h1) h2)
  ·cases ho
 case store t ad x=>
  split at ho
  ·rename_i s a' x' hs ha hx
   cases ho;obtain⟨va,h1,g⟩:=Ah h;obtain⟨vx,h2,h3⟩:=Ah g;obtain⟨σ',w',e1,e2,e3,e4⟩:=Tz hs G (Al he ha h1) (Al he hx h2) h3;simp only[Sem.run_bind,e1,Result.andThen_ok,Sem.run_pure];exact⟨σ',e2,e3,e4⟩
  ·cases ho
 case binOp op t x y yt=>
  split at ho
  ·rename_i x' y' hx hy
   unfold wZ at ho;split at ho
   ·cases ho
    obtain⟨vx,h1,g⟩:=Ah h;obtain⟨vy,h2,h3⟩:=Ah g;exact As (YU op x y G (Al he hx h1) (Al he hy h2) h3)
   ·split at ho
    ·rename_i _ hb
     split at ho
     ·cases ho
      obtain⟨vx,h1,g⟩:=Ah h;obtain⟨vy,h2,h3⟩:=Ah g;cases vx<;>try exact h3.elim
      cases vy<;>try exact h3.elim
      have ex:=Al he hx h1;have ey:=Al he hy h2;simp only[AZ]at ex ey;rw[ex,ey];exact As (Po (N2 hb) _ (.inl rfl) x y G h3)
     ·cases ho
      obtain⟨vx,h1,g⟩:=Ah h;obtain⟨vy,h2,h3⟩:=Ah g;cases vx<;>try exact h3.elim
      cases vy<;>try exact h3.elim
      have ex:=Al he hx h1;have ey:=Al he hy h2;simp only[AZ]at ex ey;rw[ex,ey];exact As (Po (N2 hb) _ (.inr rfl) x y G h3)
     ·cases ho
    ·cases ho
  ·cases ho
 case unOp op t x=>
  cases op<;>simp only at ho
  case not=>
   obtain⟨x',hx,rfl⟩:=Ag ho;obtain⟨v,h1,h2⟩:=Ah h;cases v<;>try exact h2.elim
   have ex:=Al he hx h1;simp only[AZ]at ex;rw[ex];exact As (s:=Op.unary .not (.bool _)) (Ap G h2 rfl)
  case neg=>
   split at ho
   ·obtain⟨x',hx,rfl⟩:=Ag ho
    obtain⟨v,h1,h2⟩:=Ah h;cases v<;>try exact h2.elim
    obtain⟨ex,_⟩:=Al he hx h1;rw[ex];exact As (s:=Op.unary .neg (.int _ _)) (Ap G h2 ⟨rfl,H6 _ _⟩)
   ·cases ho
  case xor=>
   split at ho
   ·obtain⟨x',hx,rfl⟩:=Ag ho
    obtain⟨v,h1,h2⟩:=Ah h;cases v<;>try exact h2.elim
    rename_i ka n;obtain⟨ex,_⟩:=Al he hx h1;rw[ex];refine As (s:=Op.unary .xor (.int ka n)) ?_
    have:(Op.unary .xor (.int ka n)).run P w= .ok (.int ka (bits .xor ka (bif ka.signed then -1 else ka.max) n)) w:=by
     simp only[Op.unary,Op.intBits,Sem.run_pure,bits];cases ka.signed<;>rfl
    rw[this];exact Ap G h2 ⟨rfl,H6 _ _⟩
   ·cases ho
  all_goals cases ho
 case convert s d x=>
  split at ho
  ·rename_i k1 k2 hs hd
   obtain⟨x',hx,rfl⟩:=Ag ho;obtain⟨v,h1,h2⟩:=Ah h;cases v<;>try exact h2.elim
   rename_i ka n;obtain⟨ex,_⟩:=Al he hx h1;rw[ex];refine As (s:=convert s d (.int ka n)) ?_
   have:(convert s d (.int ka n)).run P w= .ok (.int k2 (k2.wrap n)) w:=by
    simp only[convert,Sem.run_bind,A9 hs,A9 hd,Result.andThen_ok,Conv.intToInt,Sem.run_pure]
   rw[this];exact Ap G h2 ⟨rfl,H6 _ _⟩
  ·cases ho
 case makeInterface t x=>
  split at ho
  ·cases ho
  ·rename_i d hd hu
   obtain⟨x',hx,rfl⟩:=Ag ho;obtain⟨v,h1,h2⟩:=Ah h;refine As ?_
   have:(Instr.makeInterface t (a.eval x)).run P w= .ok (.iface t (a.eval x)) w:=by
    simp only[Instr.makeInterface,Sem.run_bind,A9 hu,Result.andThen_ok];cases d<;>first|rfl|exact absurd hu (hd _)
   rw[this];exact Ap G h2 ⟨_,rfl,Al he hx h1⟩
  ·cases ho
 case makeFunc fn first cap=>
  cases fn<;>simp only at ho<;>try(cases ho;done)
  rename_i f;split at ho
  ·rename_i os ps h1 h2
   cases ho;obtain⟨vf,h3,g⟩:=HE h;obtain⟨vc,h4,h5⟩:=HE g;have e1:=IB he h1 h3;have e2:=IB he h2 h4;exact⟨_,σ,h5,⟨_,_,rfl,e1.1,e1.2,e2.1,e2.2⟩,G,B5.refl _ _ _⟩
  ·cases ho
 case slice t x lo hi mx=>
  split at ho
  ·rename_i e hu
   split at ho
   ·rename_i s x' l' h' m' hs hx hl hh hm
    split at ho
    ·rename_i hcond
     cases ho;obtain⟨vx,h1,g⟩:=Ah h;obtain⟨vl,h2,g2⟩:=Qv g;obtain⟨vh,h3,g3⟩:=Qv g2;obtain⟨vm,h4,g4⟩:=Qv g3;refine As (T0 hu hs hcond.1 G (Al he hx h1) (La he hl h2) (La he hh h3) (La he hm h4) (fun hms=>?_) g4)
     have:m'.isSome=true:=by
      cases mx with
      | none=>simp at hms
      | some q=>
        simp only[Xa]at hm;cases hq:BR q with
        | none=>rw[hq]at hm;cases hm
        | some z=>rw[hq]at hm;cases hm;rfl
     have:=hcond.2 this;cases hi with
     | none=>cases hh;simp at this
     | some q=>rfl
    ·cases ho
   ·cases ho
  ·cases ho
 case fieldAddr s x f=>
  split at ho
  ·rename_i fields hu
   split at ho
   ·rename_i fd hf
    split at ho
    ·rename_i sz hs
     split at ho
     ·cases ho
     ·rename_i h0
      obtain⟨x',hx,rfl⟩:=Ag ho;obtain⟨v,h1,h2⟩:=Ah h;exact As (T3 hu hf hs h0 G (Al he hx h1) h2)
    ·cases ho
   ·cases ho
  ·cases ho
 case field t x f=>
  split at ho
  ·rename_i fields hu
   split at ho
   ·rename_i fd hf
    split at ho
    ·rename_i agg x' Y hx
     cases ho;obtain⟨v,h1,h2⟩:=Ah h;cases v<;>try exact h2.elim
     exact As (T2 hu hf Y G (Al he hx h1) h2)
    ·cases ho
   ·cases ho
  ·cases ho
 case indexAddr t x i=>
  split at ho
  ·rename_i e hu
   split at ho
   ·rename_i s x' i' hs hx hi
    cases ho;obtain⟨vx,h1,g⟩:=Ah h;obtain⟨vi,h2,h3⟩:=Ah g;exact As (Ku hu hs G (Al he hx h1) (Al he hi h2) h3)
   ·cases ho
  ·rename_i n e hu
   split at ho
   ·rename_i s x' i' hs hx hi
    cases ho;obtain⟨vx,h1,g⟩:=Ah h;obtain⟨vi,h2,h3⟩:=Ah g;exact As (Kv hu hs G (Al he hx h1) (Al he hi h2) h3)
   ·cases ho
  ·cases ho
 case index t x i=>
  split at ho
  ·rename_i n e hu
   split at ho
   ·rename_i s ag x' i' hs Y hx hi
    cases ho;obtain⟨vx,h1,g⟩:=Ah h;obtain⟨vi,h2,h3⟩:=Ah g;exact As (T1 hu hs Y G (Al he hx h1) (Al he hi h2) h3)
   ·cases ho
  ·cases ho
 case extract x i=>
  obtain⟨x',hx,rfl⟩:=Ag ho;obtain⟨v,h1,h2⟩:=Ah h;cases v<;>try exact h2.elim
  rename_i vs;simp only at h2;split at h2
  ·rename_i u hu
   obtain⟨c,e1,e2,e3⟩:=Al he hx h1;obtain⟨d,hd,hr⟩:=Bb.1 e3 i u hu;simp only[Nat.zero_add]at hd;refine As ?_
   have:(Instr.extract (a.eval x) i).run P w= .ok d w:=by
    rw[e1];simp only[Instr.extract,hd,Sem.run_pure]
   rw[this];exact Ap G h2 hr
  ·exact h2.elim
 case nilCheck x=>
  obtain⟨x',hx,rfl⟩:=Ag ho;obtain⟨v,h1,h2⟩:=Ah h;have hev:=Al he hx h1;cases v<;>try exact h2.elim
  case p n off=>
   have e:=hev;simp only[AZ]at e;simp only[e];exact⟨_,σ,h2,rfl,G,B5.refl _ _ _⟩
  case rp cs=>
   have hev':=hev;obtain⟨b,o',e,_⟩:=hev;simp only[e];rw[e]at hev';exact⟨_,σ,h2,hev',G,B5.refl _ _ _⟩
  case pe n sz i off=>
   have e:=hev;simp only[AZ]at e;simp only[e];exact⟨_,σ,h2,rfl,G,B5.refl _ _ _⟩
  case f fn first cap=>
   cases fn<;>try exact h2.elim
   all_goals
    have hev':=hev;obtain⟨f',c',e,_⟩:=hev;simp only[e];rw[e]at hev';exact⟨_,σ,h2,hev',G,B5.refl _ _ _⟩
 case typeAssert x xt t ok=>
  split at ho
  ·cases ho
  ·rename_i d hd hu
   split at ho
   ·rename_i x' z hx hz
    cases ho;obtain⟨v,h1,h2⟩:=Ah h;have hev:=Al he hx h1;obtain⟨c,hz3,hz4⟩:=Dy hz w;have hzr:=Fx (H:=Hh Λ σ w) hz4;cases v<;>try exact h2.elim
    case ET t' u=>
     obtain⟨c',e,hr⟩:=hev;rw[e];refine As ?_;by_cases htt:t'=t
     ·have:(Instr.typeAssert (.iface t' c') xt t ok).run P w= .ok (if ok then .tuple #[c',.bool true]else c') w:=by
       unfold Instr.typeAssert;simp only[Sem.run_bind,A9 hu,Result.andThen_ok];cases d<;>first|(simp[htt];done)|exact absurd hu (hd _)
      rw[this];refine Ap G (h2.1 htt) ?_;cases ok
      ·exact hr
      ·exact⟨_,rfl,rfl,⟨c',rfl,hr⟩,⟨_,rfl,rfl⟩,trivial⟩
     ·obtain⟨rfl,h3⟩:=h2.2 htt
      have:(Instr.typeAssert (.iface t' c') xt t true).run P w= .ok (.tuple #[c,.bool false]) w:=by
       unfold Instr.typeAssert;simp only[Sem.run_bind,A9 hu,Result.andThen_ok];cases d<;>first|(simp[htt,hz3];done)|exact absurd hu (hd _)
      rw[this];exact Ap G h3 ⟨_,rfl,rfl,⟨c,rfl,hzr⟩,⟨_,rfl,rfl⟩,trivial⟩
    case DN=>
     simp only[AZ]at hev;rw[hev];obtain⟨rfl,h3⟩:=h2;refine As ?_
     have:(Instr.typeAssert .nilIface xt t true).run P w= .ok (.tuple #[c,.bool false]) w:=by
      unfold Instr.typeAssert;simp only[Sem.run_bind,A9 hu,Result.andThen_ok];cases d<;>first|(simp[hz3];done)|exact absurd hu (hd _)
     rw[this];exact Ap G h3 ⟨_,rfl,rfl,⟨c,rfl,hzr⟩,⟨_,rfl,rfl⟩,trivial⟩
   ·cases ho
  ·cases ho
 case panic x=>
  obtain⟨x',hx,rfl⟩:=Ag ho;obtain⟨v,h1,h2⟩:=Ah h;cases v<;>try exact h2.elim
  have hev:=Al he hx h1;have hev':=hev;obtain⟨c',e,hr⟩:=hev;rw[e]at hev' ⊢;exact⟨_,σ,h2,hev',G,B5.refl _ _ _⟩
 case call c=>exact Ve o.type ho h he G
end Go.Gl
namespace Go.Gl
variable {P:Program} {Λ:Nat→Prop} {σ:AG} {w:World} {k kp:V→AG→Prop}
def rH (P:Program) (t:TypeId) (y:Operand):Option Nat:=match P.underlying t,y with
 | some (.pointer _),.const (.pointer none)=>some 0
 | some (.slice _),.const (.slice none _ _)=>some 1
 | some (.interface _),.const .nilIface=>some 2
 | some (.map _ _),.const (.map none)=>some 3
 | some (.func _ _ _),.const .nilFunc=>some 4
 | _,_=>none
def Gx (P:Program):Nat→List Field→Bool
 | _,[]=>true
 | j,f::fs=>isInt P f.type&&(decide (f.name≠ "_")&&(Nat.beq f.offset j&&Gx P (j+1) fs))
def rEq (P:Program) (neg:Bool) (t:TypeId) (x y:Operand):Option EW:=
 match rH P t y with
 | some q=>(BR x).map (.UN q neg)
 | none=>match P.underlying t with
   | some (.array n e)=>if isInt P e&& !P.eqGuardType P.depth t&&Nat.beq (P.cellsOf e) 1 then match BR x,BR y with|some x,some y=>some (.ZG n neg x y)|_,_=>none else none
   | some (.struct fs)=>if Gx P 0 fs.toList&& !P.eqGuardType P.depth t&& !P.stoodInHeld t then match BR x,BR y with|some x,some y=>some (.ZG fs.size neg x y)|_,_=>none else none
   | _=>none
def Ze (P:Program):Op→Option EW
 | .binOp op t x y _=>match op with
   | .eql=>rEq P false t x y
   | .neq=>rEq P true t x y
   | _=>none
 | .makeSlice t l c=>match P.underlying t with
   | some (.slice e)=>match JK (zeroOf P e),P.info? e,BR l,BR c with
     | some z,some i,some l,some c=>if z.length=i.size∧0<i.size∧i.bytes≤4096 then some (.EK i.size i.bytes z l c)else none
     | _,_,_,_=>none
   | _=>none
 | .index t x i=>match P.underlying t with
   | some .string=>match BR x,BR i with|some x,some i=>some (.Oj x i)|_,_=>none
   | _=>none
 | .convert s d x=>match P.underlying s,P.underlying d with
   | some (.slice e),some .string=>match P.underlying e with
     | some (.int .u8)=>(BR x).map .str
     | _=>none
   | _,_=>none
 | .buildSlice t 0 parts=>match P.underlying t with
   | some (.slice e)=>match Dl P e,parts.toList with
     | some _,[]=>some (.Am 1 0 [] [])
     | _,_=>none
   | _=>none
 | _=>none
theorem O4 {t e:TypeId} {z:List V} {i:TypeInfo} (hu:P.underlying t=some (.slice e)) (hz:JK (zeroOf P e)=some z) (hi:P.info? e=some i) (hs:z.length=i.size∧0<i.size∧i.bytes≤4096)
 {vl vc:V} {cl cc:Value} (G:Rel Λ σ w) (hl:AZ (Hh Λ σ w) vl cl) (hc:AZ (Hh Λ σ w) vc cc) (h:AR σ i.size z vl vc k):CM Λ σ w k kp ((Instr.makeSlice t cl cc).run P w):=by
 unfold AR at h;split at h
 ·rename_i kl n kc m
  obtain⟨h0,hnm,hm,hk⟩:=h;obtain⟨rfl,_⟩:=hl;obtain⟨rfl,_⟩:=hc;obtain⟨v,hz1,hz2⟩:=Fi hz;obtain⟨zc,hz3,hz4⟩:=Dy hz1 w;obtain⟨h5,h6⟩:=Cn (Fx (H:=Hh Λ σ w) hz4) hz2
  have hiz:i.zero=some zc:=by
   cases hq:i.zero with
   | none=>simp[zeroValue,typeInfo,hi,hq]at hz3
   | some q=>simp[zeroValue,typeInfo,hi,hq]at hz3;rw[hz3]
  have hb:(i.bytes:Int)*m≤281474976710656:=by
   have h1:(i.bytes:Int)*m≤4096*m:=Int.mul_le_mul_of_nonneg_right (by have:=hs.2.2;omega) (by omega);have h2:m≤1073741824:=hm;omega
  rw[run_make w t e i zc hu hi hiz kl kc n m h0 hnm hb (by omega)];have hlen:(List.replicate n.toNat z).length=n.toNat:=by simp
  refine⟨_,_,hk w.heap.size G.new,?_,Gu G ?_,Di _ _⟩
  ·exact⟨rfl,by omega⟩
  ·refine⟨_,_,rfl,by simp[madeCells],by simp only[hlen];omega,by simp only[hlen,Ax]at *;omega,?_⟩
   have hrow:=A7.1 (H5 hs.1 (by omega) h6 m.toNat);refine A7.2 fun j e hj=>hrow j e ?_
   rw[List.getElem?_replicate]at hj ⊢;split at hj
   ·rw[if_pos (by omega)];exact hj
   ·cases hj
 ·exact h.elim
def Xb (op:BinOp):Bool:=match op with| .neq=>true|_=>false
theorem H3 {t:TypeId} (op:BinOp) (hop:op= .eql∨op= .neq) (x y:Operand) {cx cy:Value} (hg:(eqGuard op t x y cx cy).run P w= .ok () w)
 (hb:binOp op t cx cy=if op= .eql then(do pure (.bool (←Op.equal t cx cy)))else(do pure (.bool (!(←Op.equal t cx cy))))) {r:Bool} (he:(Op.equal t cx cy).run P w= .ok r w) (G:Rel Λ σ w)
 (h:k (.b (bif Xb op then !r else r)) σ):CM Λ σ w k kp ((do eqGuard op t x y cx cy;binOp op t cx cy:Sem Value).run P w):=by
 simp only[Sem.run_bind,hg,Result.andThen_ok];rw[hb];rcases hop with rfl|rfl
 ·simp only[if_true,Sem.run_bind,he,Result.andThen_ok,Sem.run_pure]
  exact Ap G h rfl
 ·simp only[reduceCtorEq,if_false,Sem.run_bind,he,Result.andThen_ok,Sem.run_pure]
  exact Ap G h rfl
section nils
variable {t:TypeId} (d:Nat)
theorem sD {e:TypeId} (hu:P.underlying t=some (.pointer e)):(Op.equalIn (d+1) t (.pointer none) (.pointer none)).run P w= .ok true w:=by simp only[Op.equalIn,Sem.run_bind,A9 hu,Result.andThen,Sem.run_pure];rfl
theorem sC {e:TypeId} {a:Addr} (hu:P.underlying t=some (.pointer e)):(Op.equalIn (d+1) t (.pointer (some a)) (.pointer none)).run P w= .ok false w:=by simp only[Op.equalIn,Sem.run_bind,A9 hu,Result.andThen,Sem.run_pure]
theorem sB {e:TypeId} {l c l' c':Nat} (hu:P.underlying t=some (.slice e)):(Op.equalIn (d+1) t (.slice none l c) (.slice none l' c')).run P w= .ok true w:=by simp only[Op.equalIn,Sem.run_bind,A9 hu,Result.andThen,Sem.run_pure];rfl
theorem Z9 {e:TypeId} {a:Addr} {l c l' c':Nat} (hu:P.underlying t=some (.slice e)):(Op.equalIn (d+1) t (.slice (some a) l c) (.slice none l' c')).run P w= .ok false w:=by simp only[Op.equalIn,Sem.run_bind,A9 hu,Result.andThen,Sem.run_pure]
theorem sH {m:Array (String×TypeId)} (hu:P.underlying t=some (.interface m)):(Op.equalIn (d+1) t .nilIface .nilIface).run P w= .ok true w:=by simp only[Op.equalIn,Sem.run_bind,A9 hu,Result.andThen,Sem.run_pure]
theorem sG {m:Array (String×TypeId)} {u:TypeId} {v:Value} (hu:P.underlying t=some (.interface m)):(Op.equalIn (d+1) t (.iface u v) .nilIface).run P w= .ok false w:=by simp only[Op.equalIn,Sem.run_bind,A9 hu,Result.andThen,Sem.run_pure]
theorem sF {a b:TypeId} (hu:P.underlying t=some (.map a b)):(Op.equalIn (d+1) t (.map none) (.map none)).run P w= .ok true w:=by simp only[Op.equalIn,Sem.run_bind,A9 hu,Result.andThen,Sem.run_pure];rfl
theorem sE {a b:TypeId} {n:Nat} (hu:P.underlying t=some (.map a b)):(Op.equalIn (d+1) t (.map (some n)) (.map none)).run P w= .ok false w:=by simp only[Op.equalIn,Sem.run_bind,A9 hu,Result.andThen,Sem.run_pure]
theorem sJ {a b:Array TypeId} {v:Bool} (hu:P.underlying t=some (.func a b v)):(Op.equalIn (d+1) t .nilFunc .nilFunc).run P w= .ok true w:=by simp only[Op.equalIn,Sem.run_bind,A9 hu,Result.andThen,Sem.run_pure]
theorem sI {a b:Array TypeId} {v:Bool} {fn:Fn} {f' c':Array Value} (hu:P.underlying t=some (.func a b v)):(Op.equalIn (d+1) t (.func fn f' c') .nilFunc).run P w= .ok false w:=by simp only[Op.equalIn,Sem.run_bind,A9 hu,Result.andThen,Sem.run_pure]
end nils
theorem YR {t:TypeId} {q:Nat} (op:BinOp) (hop:op= .eql∨op= .neq) (x y:Operand) {cy:Value} (hq:rH P t y=some q) (hy: ∀c,y= .const c→cy=c) (G:Rel Λ σ w) {vx:V} {cx:Value}
 (hx:AZ (Hh Λ σ w) vx cx) (h:Hj q (Xb op) vx fun v=>k v σ):CM Λ σ w k kp ((do eqGuard op t x y cx cy;binOp op t cx cy:Sem Value).run P w):=by
 have fin: ∀ {r:Bool},(eqGuard op t x y cx cy).run P w= .ok () w→(binOp op t cx cy=if op= .eql then(do pure (.bool (←Op.equal t cx cy)))else(do pure (.bool (!(←Op.equal t cx cy)))))→(Op.equalIn 10000 t cx cy).run P w= .ok r w→
  k (.b (bif Xb op then !r else r)) σ→CM Λ σ w k kp ((do eqGuard op t x y cx cy;binOp op t cx cy:Sem Value).run P w):=fun hg hb he hk=>H3 op hop x y hg hb he G hk
 unfold rH at hq;split at hq<;>first|(cases hq;done)|skip
 all_goals
  cases hq;have hc:=hy _ rfl;subst hc
 ·rename_i hu
  unfold Hj at h;split at h<;>first|exact h.elim|(rename_i h0;cases h0;done)|skip
  ·simp only[AZ]at hx;subst hx
   refine fin (r:=true) ?_ ?_ (sD 9999 hu) ?_
   ·unfold eqGuard;rcases hop with rfl|rfl<;>rfl
   ·rcases hop with rfl|rfl<;>rfl
   ·rcases hop with rfl|rfl<;>exact h
  all_goals
   first|(obtain⟨b,o,rfl,_⟩:=hx)|(simp only[AZ]at hx;subst hx)
   refine fin (r:=false) ?_ ?_ (sC 9999 hu) ?_
   ·unfold eqGuard;rcases hop with rfl|rfl<;>rfl
   ·rcases hop with rfl|rfl<;>rfl
   ·rcases hop with rfl|rfl<;>exact h
 ·rename_i hu
  unfold Hj at h;split at h<;>first|exact h.elim|(rename_i h0;cases h0;done)|skip
  ·obtain⟨rfl,_⟩:=hx
   refine fin (r:=false) ?_ ?_ (Z9 9999 hu) ?_
   ·unfold eqGuard;rcases hop with rfl|rfl<;>rfl
   ·rcases hop with rfl|rfl<;>rfl
   ·rcases hop with rfl|rfl<;>exact h
  ·rename_i es f _
   obtain⟨a,cap,rfl,h1,h2,h3,h4,h5⟩:=hx;cases a with
   | none=>
     refine fin (r:=true) ?_ ?_ (sB 9999 hu) ?_
     ·unfold eqGuard;rcases hop with rfl|rfl<;>rfl
     ·rcases hop with rfl|rfl<;>rfl
     ·have:es= []:=by
       have:=h4 rfl;exact List.length_eq_zero_iff.1 (by omega)
      exact h.1 this _
   | some a=>
     refine fin (r:=false) ?_ ?_ (Z9 9999 hu) ?_
     ·unfold eqGuard;rcases hop with rfl|rfl<;>rfl
     ·rcases hop with rfl|rfl<;>rfl
     ·by_cases he:es= []
      ·exact h.1 he _
      ·rcases hop with rfl|rfl<;>exact h.2 he
 ·rename_i hu
  unfold Hj at h;split at h<;>first|exact h.elim|(rename_i h0;cases h0;done)|skip
  ·simp only[AZ]at hx;subst hx
   refine fin (r:=true) ?_ ?_ (sH 9999 hu) ?_
   ·unfold eqGuard;rcases hop with rfl|rfl<;>simp
   ·rcases hop with rfl|rfl<;>rfl
   ·rcases hop with rfl|rfl<;>exact h
  ·obtain⟨c',rfl,_⟩:=hx
   refine fin (r:=false) ?_ ?_ (sG 9999 hu) ?_
   ·unfold eqGuard;rcases hop with rfl|rfl<;>rfl
   ·rcases hop with rfl|rfl<;>rfl
   ·rcases hop with rfl|rfl<;>exact h
 ·rename_i hu
  unfold Hj at h;split at h<;>first|exact h.elim|(rename_i h0;cases h0;done)|skip
  ·simp only[AZ]at hx;subst hx
   refine fin (r:=true) ?_ ?_ (sF 9999 hu) ?_
   ·unfold eqGuard;rcases hop with rfl|rfl<;>rfl
   ·rcases hop with rfl|rfl<;>rfl
   ·rcases hop with rfl|rfl<;>exact h
  ·simp only[AZ]at hx;subst hx
   refine fin (r:=false) ?_ ?_ (sE 9999 hu) ?_
   ·unfold eqGuard;rcases hop with rfl|rfl<;>rfl
   ·rcases hop with rfl|rfl<;>rfl
   ·rcases hop with rfl|rfl<;>exact h
 ·rename_i hu
  unfold Hj at h;split at h<;>first|exact h.elim|(rename_i h0;cases h0;done)|skip
  ·simp only[AZ]at hx;subst hx
   refine fin (r:=true) ?_ ?_ (sJ 9999 hu) ?_
   ·unfold eqGuard;rcases hop with rfl|rfl<;>rfl
   ·rcases hop with rfl|rfl<;>rfl
   ·rcases hop with rfl|rfl<;>exact h
  ·obtain⟨f',c',rfl,_⟩:=hx
   refine fin (r:=false) ?_ ?_ (sI 9999 hu) ?_
   ·unfold eqGuard;rcases hop with rfl|rfl<;>rfl
   ·rcases hop with rfl|rfl<;>rfl
   ·rcases hop with rfl|rfl<;>exact h
theorem MF {d:Nat} {e:TypeId} {ki:IntKind} (hue:P.underlying e=some (.int ki)) {xs ys:Array Value} {H:Nat→Nat→Option Value}: ∀(cs ds:List V) (j:Nat) (r:Bool),
 BV H (fun i=>xs[i]?) j cs→BV H (fun i=>ys[i]?) j ds→Bn cs ds=some r→(Op.eqItems (d+1) e 1 xs ys (List.range' j cs.length)).run P w= .ok r w
 | [],ds,j,r,_,_,h=>by
   cases ds with
   | nil=>simp only[Bn,Ha]at h;subst h;rfl
   | cons _ _=>simp[Bn]at h
 | c ::cs,ds,j,r,hx,hy,h=>by
   cases ds with
   | nil=>cases c<;>simp[Bn]at h
   | cons q ds=>
     cases c<;>first|(simp[Bn]at h;done)|skip
     cases q<;>first|(simp[Bn]at h;done)|skip
     rename_i k a k' b;simp only[Bn]at h;split at h
     ·rename_i hk
      subst hk;obtain⟨⟨cx,h1,⟨rfl,_⟩⟩,h2⟩:=hx;obtain⟨⟨cy,h3,⟨rfl,_⟩⟩,h4⟩:=hy;obtain⟨r',h5,h6⟩:=Ag h;have hp:P.plainKey e=true:=by simp[Program.plainKey,hue]
      simp only[Mu,List.range'_succ,Op.eqItems,Nat.mul_one,Sem.run_bind,run_part_plain w hp h1,run_part_plain w hp h3,Result.andThen_ok,run_equalIn_int w d e _ ki a b hue];have ih:=MF (d:=d) hue cs ds (j+1) r' h2 h4 h5;cases hab:(a==b)
      ·rw[hab]at h6
       simp only[Bool.false_and]at h6;subst h6;simp
      ·rw[hab]at h6
       simp only[Bool.true_and]at h6;subst h6;simpa using ih
     ·cases h
theorem YS {t e:TypeId} {n:Nat} (op:BinOp) (hop:op= .eql∨op= .neq) (x y:Operand) (hu:P.underlying t=some (.array n e)) (he:isInt P e=true) (hg:P.eqGuardType P.depth t=false) (h1:P.cellsOf e=1) (G:Rel Λ σ w) {vx vy:V} {cx cy:Value}
 (hx:AZ (Hh Λ σ w) vx cx) (hy:AZ (Hh Λ σ w) vy cy) (h:QR n (Xb op) vx vy fun v=>k v σ):CM Λ σ w k kp ((do eqGuard op t x y cx cy;binOp op t cx cy:Sem Value).run P w):=by
 unfold QR at h;split at h
 ·rename_i cs ds
  obtain⟨xs,rfl,h2,h3⟩:=hx;obtain⟨ys,rfl,h4,h5⟩:=hy;split at h
  ·rename_i r hl hr
   have hl:cs.length=n:=Nat.eq_of_beq_eq_true hl;obtain⟨ki,hki⟩:=PN he;have hi: ∃i,P.info? e=some i:=info_of_underlying hki;obtain⟨i,hi⟩:=hi;refine H3 op hop x y (r:=r) (run_eqGuard_agg w op t x y xs ys hg) ?_ ?_ G h
   ·rcases hop with rfl|rfl<;>rfl
   ·show(Op.equalIn (9999+1) t (.agg xs) (.agg ys)).run P w= .ok r w
    rw[run_equalIn_array w 9999 xs ys hu hi,h1,List.range_eq_range',←hl];exact MF (d:=9998) hki cs ds 0 r h3 h5 hr
  ·exact h.elim
 ·exact h.elim
theorem Kr {d:Nat} {xs ys:Array Value} {H:Nat→Nat→Option Value}: ∀(fs:List Field) (cs ds:List V) (j:Nat) (r:Bool),Gx P j fs=true→cs.length=fs.length→
 BV H (fun i=>xs[i]?) j cs→BV H (fun i=>ys[i]?) j ds→Bn cs ds=some r→(Op.eqFields (d+1) xs ys fs).run P w= .ok r w
 | [],cs,ds,j,r,_,hl,_,_,h=>by
   cases cs with
   | cons _ _=>cases hl
   | nil=>
     cases ds with
     | nil=>simp only[Bn,Ha]at h;subst h;rfl
     | cons _ _=>simp[Bn]at h
 | f ::fs,cs,ds,j,r,hf,hl,hx,hy,h=>by
   cases cs with
   | nil=>cases hl
   | cons c cs=>
   cases ds with
   | nil=>cases c<;>simp[Bn]at h
   | cons q ds=>
     cases c<;>first|(simp[Bn]at h;done)|skip
     cases q<;>first|(simp[Bn]at h;done)|skip
     rename_i k a k' b;simp only[Bn]at h;split at h
     ·rename_i hk
      subst hk;simp only[Gx,BO,DU]at hf;obtain⟨f1,f2,f3,f4⟩:=hf;obtain⟨ki,hue⟩:=PN f1;have f3:=Nat.eq_of_beq_eq_true f3;obtain⟨⟨cx,h1,⟨rfl,_⟩⟩,h2⟩:=hx;obtain⟨⟨cy,h3,⟨rfl,_⟩⟩,h4⟩:=hy;obtain⟨r',h5,h6⟩:=Ag h;have hp:P.plainKey f.type=true:=by simp[Program.plainKey,hue]
      simp only[Op.eqFields];rw[if_pos f2,f3];simp only[Sem.run_bind,run_part_plain w hp h1,run_part_plain w hp h3,Result.andThen_ok,run_equalIn_int w d f.type _ ki a b hue];have ih:=Kr (d:=d) fs cs ds (j+1) r' f4 (by simpa using hl) h2 h4 h5;cases hab:(a==b)
      ·rw[hab]at h6
       simp only[Bool.false_and]at h6;subst h6;simp
      ·rw[hab]at h6
       simp only[Bool.true_and]at h6;subst h6;simpa using ih
     ·cases h
theorem YQ {t:TypeId} {fs:Array Field} (op:BinOp) (hop:op= .eql∨op= .neq) (x y:Operand) (hu:P.underlying t=some (.struct fs)) (he:Gx P 0 fs.toList=true) (hg:P.eqGuardType P.depth t=false) (h1:P.stoodInHeld t=false) (G:Rel Λ σ w) {vx vy:V} {cx cy:Value}
 (hx:AZ (Hh Λ σ w) vx cx) (hy:AZ (Hh Λ σ w) vy cy) (h:QR fs.size (Xb op) vx vy fun v=>k v σ):CM Λ σ w k kp ((do eqGuard op t x y cx cy;binOp op t cx cy:Sem Value).run P w):=by
 unfold QR at h;split at h
 ·rename_i cs ds
  obtain⟨xs,rfl,h2,h3⟩:=hx;obtain⟨ys,rfl,h4,h5⟩:=hy;split at h
  ·rename_i r hl hr
   have hl:cs.length=fs.size:=Nat.eq_of_beq_eq_true hl;have hfs:P.fieldsOf t=fs:=by simp[Program.fieldsOf,hu]
   refine H3 op hop x y (r:=r) (run_eqGuard_agg w op t x y xs ys hg) ?_ ?_ G h
   ·rcases hop with rfl|rfl<;>rfl
   ·show(Op.equalIn (9999+1) t (.agg xs) (.agg ys)).run P w= .ok r w
    rw[run_equalIn_struct w 9999 t xs ys (by rw[hfs];exact hu) h1,hfs];exact Kr (d:=9998) fs.toList cs ds 0 r he (by simpa using hl) h3 h5 hr
  ·exact h.elim
 ·exact h.elim
theorem OB: ∀ {ys:List (List V)} {ns:List Int},Ea ys=some ns→ns.length=ys.length∧ ∀(i:Nat) (n:Int),ns[i]? =some n→ys[i]? =some [V.i .u8 n]
 | [],ns,h=>by
   cases h;exact⟨rfl,fun _ _ h=>by simp at h⟩
 | e ::r,ns,h=>by
   unfold Ea at h;split at h
   ·cases ‹_= []›
   ·rename_i n r' he
    cases he;split at h
    ·rename_i l hl
     cases h;obtain⟨h1,h2⟩:=OB hl;refine⟨by simp[h1],fun i m hi=>?_⟩;cases i with
     | zero=>simp at hi;subst hi;rfl
     | succ i=>exact h2 i m (by simpa using hi)
    ·cases h
   ·cases h
theorem YO {s d e:TypeId} (hs:P.underlying s=some (.slice e)) (hd:P.underlying d=some .string) (he:P.underlying e=some (.int .u8)) (G:Rel Λ σ w) {vx:V} {cx:Value} (hx:AZ (Hh Λ σ w) vx cx) (h:ZU σ vx fun v=>k v σ) :
 CM Λ σ w k kp ((convert s d cx).run P w):=by
 obtain⟨ys,base,cap,U,rfl,_,hc⟩:=JR G hx h;cases hn:Ea ys with
 | none=>rw[hn]at U;exact U.elim
 | some ns=>
   rw[hn]at U;obtain⟨h1,h2⟩:=OB hn
   have fin:(convert s d (.slice base ys.length cap)).run P w= .ok (.string ⟨(ns.map fun n=>UInt8.ofNat n.toNat).toArray⟩) w→CM Λ σ w k kp ((convert s d (.slice base ys.length cap)).run P w):=fun e=>by
    rw[e];exact Ap G U rfl
   have nilB: ∀ {l c:Nat},ys= []→(convert s d (.slice none l c)).run P w= .ok (.string ⟨(ns.map fun n=>UInt8.ofNat n.toNat).toArray⟩) w:=fun e=>by
    subst e;simp only[Ea,Ha]at hn;subst hn;exact run_convert_bytes_nil w s e hs he _ _ d hd
   have main: ∀ {b o:Nat} {g:Nat→Option Value},base=some ⟨b,o,none⟩→(∀i c,g i=some c→w.cell? ⟨b,i,none⟩=some c)→BH (Hh Λ σ w) g 1 o ys→(convert s d (.slice base ys.length cap)).run P w= .ok (.string ⟨(ns.map fun n=>UInt8.ofNat n.toNat).toArray⟩) w:=fun {b o g} hb hg hr=>by
    subst hb;refine run_convert_bytes_arg w s e hs he b o ys.length cap ns h1 (fun i hi=>?_) d hd;have hi':i<ns.length:=by omega
    have h3:=h2 i ns[i] (Fs hi');obtain⟨_,h4⟩:=A7.1 hr i _ h3;simp only[BV]at h4;obtain⟨⟨c,h5,h6⟩,_⟩:=h4;obtain⟨rfl,_⟩:=h6;have:=hg _ _ h5;simp only[Nat.mul_one]at this;rw[this];simp[List.getD,Fs hi']
   refine fin ?_;rcases hc with hc|⟨b,o,g,hb,hg,hr⟩
   ·cases base with
    | none=>exact nilB hc
    | some a=>
      subst hc;simp only[Ea,Ha]at hn;subst hn;rw[run_convert_bytes_string w s d e _ _ cap hs he hd];exact run_bytesToString w a 0 cap [] (by unfold loadCells loadCellsFrom;rfl)
   ·exact main hb hg hr
theorem Vf {t:TypeId} (hu:P.underlying t=some .string) (G:Rel Λ σ w) {vx vi:V} {cx ci:Value} (hx:AZ (Hh Λ σ w) vx cx) (hi:AZ (Hh Λ σ w) vi ci) (h:NL vx vi fun v=>k v σ):CM Λ σ w k kp ((Instr.index t cx ci).run P w):=by
 unfold NL at h;split at h
 ·rename_i b ki j
  obtain⟨h0,h⟩:=h;have hx':cx= .string b:=hx;subst hx';obtain⟨rfl,_⟩:=hi;split at h
  ·rename_i c hc
   have hb:b[j.toNat]? =some c:=by
    rw[Array.getElem?_toList]at hc;obtain⟨h1,h2⟩:=qt.1 hc;rw[getElem?_pos b j.toNat h1];exact congrArg some h2
   simp only[Instr.index,Sem.run_bind,asIntOf,Sem.run_pure,Result.andThen,A9 hu,h0,if_true,hb];have:=UInt8.toNat_lt c;exact Ap G h ⟨rfl,by simp only[IntKind.min,IntKind.max,IntKind.signed,IntKind.bits];simp<;>omega⟩
  ·exact h.elim
 ·exact h.elim
theorem Tl {env:Env} {a:Act} {o:Oper} {ao:EW} (ho:Ze P o.op=some ao) (h:Ei P ao env σ k kp) (he:CQ (Hh Λ σ w) env a.tmps) (G:Rel Λ σ w) :
 Good P Λ σ w k kp ((execOp a.eval o).run P w):=by
 have heq: ∀ {op:BinOp} {t yt:TypeId} {x y:Operand},(op= .eql∨op= .neq)→rEq P (Xb op) t x y=some ao→o.op= .binOp op t x y yt→Good P Λ σ w k kp ((execOp a.eval o).run P w):=fun {op t yt x y} hop hr hoo=>by
  unfold execOp;rw[hoo];dsimp only;unfold rEq at hr;split at hr
  ·rename_i q hq
   obtain⟨x',hx,rfl⟩:=Ag hr;obtain⟨vx,h1,h2⟩:=Ah h;exact As (YR op hop x y hq (fun c hc=>by rw[hc];rfl) G (Al he hx h1) h2)
  ·split at hr
   ·rename_i n e hu
    split at hr
    ·rename_i hc
     simp only[BO,Bool.not_eq_true']at hc;split at hr
     ·rename_i x' y' hx hy
      cases hr;obtain⟨vx,h1,g⟩:=Ah h;obtain⟨vy,h2,h3⟩:=Ah g;exact As (YS op hop x y hu hc.1.1 hc.1.2 (Nat.eq_of_beq_eq_true hc.2) G (Al he hx h1) (Al he hy h2) h3)
     ·cases hr
    ·cases hr
   ·rename_i fs hu
    split at hr
    ·rename_i hc
     simp only[BO,Bool.not_eq_true']at hc;split at hr
     ·rename_i x' y' hx hy
      cases hr;obtain⟨vx,h1,g⟩:=Ah h;obtain⟨vy,h2,h3⟩:=Ah g;exact As (YQ op hop x y hu hc.1.1 hc.1.2 hc.2 G (Al he hx h1) (Al he hy h2) h3)
     ·cases hr
    ·cases hr
   ·cases hr
 unfold Ze at ho;split at ho
 ·rename_i op t x y yt hop
  split at ho
  ·exact heq (.inl rfl) ho hop
  ·exact heq (.inr rfl) ho hop
  ·cases ho
 ·rename_i t l c hop
  split at ho
  ·rename_i e hu
   split at ho
   ·rename_i z i l' c' hz hi hl hc
    split at ho
    ·rename_i hs
     cases ho;obtain⟨vl,h1,g⟩:=Ah h;obtain⟨vc,h2,h3⟩:=Ah g;unfold execOp;rw[hop];dsimp only;exact As (O4 hu hz hi hs G (Al he hl h1) (Al he hc h2) h3)
    ·cases ho
   ·cases ho
  ·cases ho
 ·rename_i t x i hop
  split at ho
  ·rename_i hu
   split at ho
   ·rename_i x' i' hx hi
    cases ho;obtain⟨vx,h1,g⟩:=Ah h;obtain⟨vi,h2,h3⟩:=Ah g;unfold execOp;rw[hop];exact As (Vf hu G (Al he hx h1) (Al he hi h2) h3)
   ·cases ho
  ·cases ho
 ·rename_i s d x hop
  split at ho
  ·rename_i e hs hd
   split at ho
   ·rename_i he8
    obtain⟨x',hx,rfl⟩:=Ag ho;obtain⟨vx,h1,h2⟩:=Ah h;unfold execOp;rw[hop];exact As (YO hs hd he8 G (Al he hx h1) h2)
   ·cases ho
  ·cases ho
 ·rename_i t parts hop
  split at ho
  ·rename_i e hu
   split at ho
   ·rename_i sz hsz hp
    cases ho;simp only[Ei]at h;obtain⟨fs,h1,h3⟩:=WR h;simp only[Hn,List.replicate,Ha]at h1;subst h1
    have hps:parts= #[]:=by
     cases parts;simp at hp;rw[hp]
    subst hps;unfold execOp;rw[hop];dsimp only
    have hrun:(Instr.buildSlice t 0 ((#[]:Array (Nat×Operand)).map fun(i,x)=>(i,a.eval x))).run P w= .ok (.slice (some ⟨w.heap.size,0,none⟩) 0 0) (w.alloc (.cells #[] e)):=by
     unfold Instr.buildSlice;have hns: ¬0 > 2 ^ 24:=by omega
     simp only[Sem.run_bind,A9 hu,Result.andThen_ok,Dm hsz,Nat.zero_mul,hns,if_false,if_true,Sem.run_pure];have hz: ∀g:Nat→Value,(Array.range 0).map g= #[]:=fun g=>by simp[Array.range]
     rw[hz];simp only[List.map_toArray,List.map_nil,Instr.fill];rfl
    refine As ?_;rw[hrun];exact⟨_,σ,h3,⟨_,0,rfl,Nat.le_refl _,fun _=>rfl,Nat.zero_le _,fun h=>(by cases h),fun h=>absurd rfl h⟩,JT G _,HP w _⟩
   ·cases ho
  ·cases ho
 ·cases ho
def rC (P:Program) (o:Op):Option EW:=match rOp P o with|some a=>some a|none=>Ze P o
theorem VR {env:Env} {a:Act} {o:Oper} {ao:EW} (ho:rC P o.op=some ao) (h:Ei P ao env σ k kp) (he:CQ (Hh Λ σ w) env a.tmps) (G:Rel Λ σ w) :
 Good P Λ σ w k kp ((execOp a.eval o).run P w):=by
 unfold rC at ho;split at ho
 ·rename_i h';cases ho;exact X1 h' h he G
 ·exact Tl ho h he G
end Go.Gl
