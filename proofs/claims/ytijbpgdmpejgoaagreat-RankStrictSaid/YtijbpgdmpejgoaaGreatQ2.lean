import Derived.Laws.AppendOwn
import Derived.Laws.Tables
import Derived.Great.BuildSlice
import Derived.Test.YtijbpgdmpejgoaaGreatQ1
set_option linter.all false
set_option linter.unusedVariables false
set_option linter.unusedSimpArgs false
namespace Go.Gl
variable {P:Program} {Λ:Nat→Prop} {σ:AG} {w:World} {k kp:V→AG→Prop}
theorem Ko {t:TypeId} {n:Nat} (h:Dl P t=some n): ∃i,P.info? t=some i∧i.size=n:=by
 unfold Dl at h;cases hi:P.info? t with
 | none=>rw[hi]at h;cases h
 | some i=>rw[hi]at h;cases h;exact⟨i,rfl,rfl⟩
theorem Dm {t:TypeId} {n:Nat} (h:Dl P t=some n) (w:World):(sizeOf t).run P w= .ok n w:=by
 obtain⟨i,h1,h2⟩:=Ko h;simp[sizeOf,typeInfo,h1,h2]
theorem A9 {t:TypeId} {d:TypeDesc} (h:P.underlying t=some d) (w:World):(underlying t).run P w= .ok d w:=by
 simp[underlying,h]
theorem Dy {t:TypeId} {z:V} (h:zeroOf P t=some z) (w:World): ∃c,(zeroValue t).run P w= .ok c w∧qw c=some z:=by
 unfold zeroOf at h;cases hi:P.info? t with
 | none=>rw[hi]at h;cases h
 | some i=>
   rw[hi]at h;cases hz:i.zero with
   | none=>simp[hz]at h
   | some c=>
     refine⟨c,by simp[zeroValue,typeInfo,hi,hz],?_⟩;simpa[hz]using h
theorem Tf {t:TypeId} {z:V} (h:zeroOf P t=some z): ∃i c,P.info? t=some i∧i.zero=some c∧qw c=some z:=by
 unfold zeroOf at h;cases hi:P.info? t with
 | none=>rw[hi]at h;cases h
 | some i=>
   rw[hi]at h;cases hz:i.zero with
   | none=>simp[hz]at h
   | some c=>exact⟨i,c,rfl,hz,by simpa[hz]using h⟩
theorem PV {t:TypeId} {a:Option Nat} (h:HX P t=some a) (w:World):(isAgg t).run P w= .ok a.isSome w∧ ∀n,a=some n→(sizeOf t).run P w= .ok n w:=by
 unfold HX at h;cases hu:P.underlying t with
 | none=>rw[hu]at h;cases h
 | some d=>
   rw[hu]at h;unfold isAgg;simp only[Sem.run_bind,A9 hu,Result.andThen]
   cases d<;>simp only at h ⊢ <;>first
    | (cases h;exact⟨rfl,fun n e=>by cases e⟩)
    | (cases hs:Dl P t with
       | none=>rw[hs]at h;cases h
       | some n=>rw[hs]at h;cases h;exact⟨rfl,fun n e=>by cases e;exact Dm hs w⟩)
theorem Rc {g:Nat→Option Value} {b o n:Nat} {vs:List V} {H:Nat→Nat→Option Value} (hg: ∀i c,g i=some c→w.cell? ⟨b,i,none⟩=some c) (hv:BV H g o vs) (hn:vs.length=n) :
 ∃cs:Array Value,(loadCells ⟨b,o,none⟩ n).run P w= .ok cs w∧cs.size=n∧BV H (fun i=>cs[i]?) 0 vs:=by
 rw[Bb]at hv
 have hch: ∀i,i<n→ ∃c,g (o+i)=some c:=fun i hi=>by
  obtain⟨c,hc,_⟩:=hv i vs[i] (Fs (by omega));exact⟨c,hc⟩
 let f:Nat→Value:=fun i=>(g (o+i)).getD undef
 refine⟨((List.range n).map f).toArray,?_,by simp,?_⟩
 ·rw[run_loadCells w _ n f (fun j hj=>by
   obtain⟨c,hc⟩:=hch j hj;rw[Ca,hg _ _ hc]
   simp[f,hc])]
 ·rw[Bb]
  intro i v hi;obtain⟨c,hc,hr⟩:=hv i v hi;have hlt:i<n:=by rw[←hn];exact(List.getElem?_eq_some_iff.1 hi).1
  refine⟨c,?_,hr⟩;simp[f,hc,hlt]
theorem Ed {t:TypeId} {agg:Option Nat} (Y:HX P t=some agg) {g:Nat→Option Value} {b o off:Nat} {vs:List V} {H:Nat→Nat→Option Value} (hg: ∀i c,g i=some c→w.cell? ⟨b,i,none⟩=some c) (hv:BV H g o vs)
 {K:V→Prop} (hk:cut agg vs off K): ∃v c,(loadVar t ⟨b,o+off,none⟩).run P w= .ok c w∧AZ H v c∧K v:=by
 obtain⟨h1,h2⟩:=PV Y w;unfold loadVar;simp only[Sem.run_bind,h1,Result.andThen];cases agg with
 | none=>
   simp only[cut]at hk;split at hk
   ·rename_i v hv'
    obtain⟨c,hc,hr⟩:=Bb.1 hv off v hv';refine⟨v,c,?_,hr,hk⟩;simp[hg _ _ hc]
   ·exact hk.elim
 | some n=>
   simp only[cut]at hk;obtain⟨cs,h3,h4,h5⟩:=Rc (P:=P) (n:=n) hg (PL (IT hv off) n) (by simp;omega);refine⟨.a ((vs.drop off).take n),.agg cs,?_,⟨cs,rfl,by simp[h4];omega,h5⟩,hk.2⟩;simp[h2 n rfl,h3]
theorem Ib (G:Rel Λ σ w) {n:Nat} {vs:List V} (h:σ n=some (.cs vs)): ∃c e,w.heap[n]? =some (.cells c e (0,0))∧c.size=vs.length∧BV (Hh Λ σ w) (fun i=>c[i]?) 0 vs:=by
 obtain⟨_,ob,h2,c,e,rfl,h4,h5⟩:=G.own n _ h;exact⟨c,e,h2,h4,h5⟩
theorem EL (G:Rel Λ σ w) {n sz cap:Nat} {es:List (List V)} (h:σ n=some (.arr sz es cap)): ∃c e,w.heap[n]? =some (.cells c e (0,0))∧cap*sz≤c.size∧es.length≤cap∧es.length≤Ax∧BH (Hh Λ σ w) (fun i=>c[i]?) sz 0 es:=by
 obtain⟨_,ob,h2,c,e,rfl,h4,h5⟩:=G.own n _ h;exact⟨c,e,h2,h4,h5⟩
theorem Vg {t:TypeId} {agg:Option Nat} (Y:HX P t=some agg) (G:Rel Λ σ w) {vx:V} {c:Value} (hx:AZ (Hh Λ σ w) vx c) (h:An σ agg vx fun v=>k v σ) :
 CM Λ σ w k kp ((Instr.loadAt t c).run P w):=by
 unfold Instr.loadAt;unfold An at h;split at h
 ·rename_i cs
  obtain⟨b,o,rfl,hv⟩:=hx;obtain⟨v,c,h1,h2,h3⟩:=Ed (P:=P) (w:=w) (b:=b) (off:=0) Y (fun i c hc=>(FM hc).2.2) hv h;simp only[Sem.run_bind,Instr.sureAddr,Sem.run_pure,Result.andThen,Nat.add_zero]at h1 ⊢;rw[h1];exact Eg G h2 h3
 ·rename_i n off
  simp only[AZ]at hx;subst hx;unfold NG at h;split at h
  ·rename_i vs hs
   obtain⟨c,e,h1,h2,h3⟩:=Ib G hs;obtain⟨v,c',h4,h5,h6⟩:=Ed (P:=P) (w:=w) (b:=n) (off:=off) Y (fun i c hc=>by rw[DJ h1];exact hc) h3 h;simp only[Sem.run_bind,Instr.sureAddr,Sem.run_pure,Result.andThen,Nat.zero_add]at h4 ⊢;rw[h4];exact Eg G h5 h6
  ·exact h.elim
 ·rename_i n sz i off
  simp only[AZ]at hx;subst hx;unfold NH at h;split at h
  ·rename_i sz' es cap hs
   obtain⟨rfl,h⟩:=h;split at h
   ·rename_i e he
    obtain⟨c,e',h1,_,_,_,h3⟩:=EL G hs;obtain⟨h7,h8⟩:=A7.1 h3 i e he;obtain⟨v,c',h4,h5,h6⟩:=Ed (P:=P) (w:=w) (b:=n) (off:=off) Y (fun i c hc=>by rw[DJ h1];exact hc) h8 h;simp only[Sem.run_bind,Instr.sureAddr,Sem.run_pure,Result.andThen,Nat.zero_add]at h4 ⊢;rw[h4];exact Eg G h5 h6
   ·exact h.elim
  ·exact h.elim
 ·exact h.elim
theorem Cn {H:Nat→Nat→Option Value} {v:V} {c:Value} (hv:AZ H v c) {vs:List V} (h:cellsOf v=some vs):c.cells.size=vs.length∧BV H (fun i=>c.cells[i]?) 0 vs:=by
 cases v<;>simp only[cellsOf]at h<;>first
  | (cases h;done)
  | (cases h
     have hc:c.cells= #[c]:=by
      first
       | (simp only[AZ]at hv;subst hv;rfl)
       | (simp only[AZ]at hv;obtain⟨rfl,_⟩:=hv;rfl)
       | (simp only[AZ]at hv;obtain⟨_,rfl,_⟩:=hv;rfl)
       | (simp only[AZ]at hv;obtain⟨_,_,rfl,_⟩:=hv;rfl)
     rw[hc]
     exact⟨rfl,⟨c,rfl,hv⟩,trivial⟩)
  | skip
 rename_i cs;cases h;obtain⟨c',rfl,h2,h3⟩:=hv;exact⟨h2,h3⟩
theorem Ng {H:Nat→Nat→Option Value} {v:V} {c:Value} (hv:AZ H v c) (h:B7 v=true):c.oneCell'=true:=by
 cases v<;>first
  | (simp[B7]at h;done)
  | (simp only[AZ]at hv;subst hv;rfl)
  | (simp only[AZ]at hv;obtain⟨rfl,_⟩:=hv;rfl)
  | (simp only[AZ]at hv;obtain⟨_,rfl,_⟩:=hv;rfl)
  | (simp only[AZ]at hv;obtain⟨_,_,rfl,_⟩:=hv;rfl)
theorem bZ {H:Nat→Nat→Option Value} {vs:List V} {c:Array Value} (hs:c.size=vs.length) (hv:BV H (fun i=>c[i]?) 0 vs) (h:vs.all B7=true): ∀u∈c.toList,u.oneCell'=true:=by
 intro u hu;obtain⟨i,hi⟩:=List.mem_iff_getElem?.1 hu;have hlt:i<vs.length:=by rw[←hs];have:=(List.getElem?_eq_some_iff.1 hi).1;simpa using this
 obtain⟨d,hd,hr⟩:=Bb.1 hv i vs[i] (Fs hlt);have:d=u:=by simp only[Nat.zero_add]at hd;rw[Array.getElem?_toList]at hi;rw[hi]at hd;cases hd;rfl
 subst this;exact Ng hr (GL.1 h _ (List.getElem_mem hlt))
theorem EP: ∀(us cs:List V) (o:Nat),(putAt cs o us).length=cs.length
 | [],_,_=>rfl
 | u::us,cs,o=>by simp only[putAt];rw[EP us];simp
theorem bH {H:Nat→Nat→Option Value} {c:Array Value} {vs:List V} {i:Nat} {v:V} {d:Value} (hs:c.size=vs.length) (h:BV H (fun i=>c[i]?) 0 vs) (hv:AZ H v d) :
 BV H (fun j=>(c.setIfInBounds i d)[j]?) 0 (vs.set i v):=by
 rw[Bb]at *;intro j u hu;simp only[Nat.zero_add]at h ⊢;rw[List.getElem?_set]at hu;split at hu
 ·rename_i e
  subst e;split at hu
  ·rename_i hlt
   cases hu;exact⟨d,by rw[Array.getElem?_setIfInBounds_self_of_lt (by omega)],hv⟩
  ·cases hu
 ·rename_i e
  obtain⟨c',h1,h2⟩:=h j u hu;exact⟨c',by rw[Array.getElem?_setIfInBounds_ne e];exact h1,h2⟩
theorem KD {H:Nat→Nat→Option Value}: ∀ {us:List V} {ds:List Value} {c:Array Value} {vs:List V} {o:Nat},c.size=vs.length→BV H (fun i=>c[i]?) 0 vs→ds.length=us.length→BV H (fun i=>ds[i]?) 0 us→
 BV H (fun i=>(Co c o ds)[i]?) 0 (putAt vs o us)
 | [],[],c,vs,o,_,h,_,_=>h
 | u::us,d::ds,c,vs,o,hs,h,hl,hu=>by
   simp only[Co,putAt];obtain⟨⟨d',hd,hr⟩,hu'⟩:=hu;have e:d'=d:=by simp at hd;exact hd.symm
   subst e;exact KD (by simpa using hs) (bH hs h hr) (by simpa using hl) (A3 hu' (fun i _=>by rw[show 0+1+i=i+1 by omega];simp))
 | [],_::_,_,_,_,_,_,hl,_=>by simp at hl
 | _::_,[],_,_,_,_,_,hl,_=>by simp at hl
theorem C6: ∀(ds:List Value) (c:Array Value) (o i:Nat),(i<o∨o+ds.length≤i)→(Co c o ds)[i]? =c[i]?
 | [],_,_,_,_=>rfl
 | d::ds,c,o,i,h=>by
   simp only[Co];rw[C6 ds _ _ _ (by simp at h;omega),Array.getElem?_setIfInBounds_ne (by simp at h;omega)]
theorem FW: ∀(ds:List Value) (c:Array Value) (o i:Nat),i<ds.length→o+ds.length≤c.size→(Co c o ds)[o+i]? =ds[i]?
 | d ::ds,c,o,i,h,hs=>by
   simp only[Co];cases i with
   | zero=>
     simp at hs;rw[C6 ds _ _ _ (by omega),Nat.add_zero,Array.getElem?_setIfInBounds_self_of_lt (by omega)];rfl
   | succ i=>
     rw[show o+(i+1)=o+1+i by omega,FW ds _ _ i (by simpa using h) (by simp at hs ⊢;omega)];simp
 | [],_,_,_,h,_=>by simp at h
theorem Tz {t : TypeId} {sz:Nat} (hS:Dl P t=some sz) (G:Rel Λ σ w) {va vx:V} {ca cx:Value} (ha:AZ (Hh Λ σ w) va ca) (hx:AZ (Hh Λ σ w) vx cx)
 (h:Af σ sz va vx fun σ'=>k (.t []) σ'): ∃σ' w',(Instr.storeAt t ca cx).run P w= .ok () w'∧k (.t []) σ'∧Rel Λ σ' w'∧B5 Λ σ w σ' w':=by
 unfold Af at h;split at h
 ·rename_i vc hc
  obtain⟨hlen,hone,h⟩:=h;obtain⟨hcs,hcv⟩:=Cn hx hc;have h1s:=bZ hcs hcv hone;have hcv':BV (Hh Λ σ w) (fun i=>cx.cells.toList[i]?) 0 vc:=A3 hcv (fun i _=>by simp)
  have hrun: ∀n o,ca= .pointer (some ⟨n,o,none⟩)→(Instr.storeAt t ca cx).run P w=(storeCells ⟨n,o,none⟩ cx.cells.toList).run P w:=by
   rintro n o rfl;have:cx.cells.size=sz:=by omega
   simp[Instr.storeAt,Instr.sureAddr,storeVar,Dm hS,this]
  split at h
  ·rename_i n off
   split at h
   ·rename_i vs hs
    obtain⟨hle,hk⟩:=h;simp only[AZ]at ha;obtain⟨c,e,h1,h2,h3⟩:=Ib G hs;refine⟨_,CH w n (.cells (Co c off cx.cells.toList) e (0,0)),?_,hk,?_,F1 hs _ _⟩
    ·rw[hrun n off ha,Cb cx.cells.toList w c off 0 h1 (by simp;omega) h1s]
     rfl
    ·exact H7 G hs ⟨_,e,rfl,by rw[Dd,EP];exact h2,KD h2 h3 (by simp;omega) hcv'⟩
   ·exact h.elim
  ·rename_i n s i off
   split at h
   ·rename_i s' es cap hs
    obtain⟨rfl,h⟩:=h;split at h
    ·rename_i e he
     obtain⟨hle,hk⟩:=h;simp only[AZ]at ha;obtain⟨c,et,h1,h2,h3,h4,h5⟩:=EL G hs;obtain⟨h6,h7⟩:=A7.1 h5 i e he;have hi:i<es.length:=(List.getElem?_eq_some_iff.1 he).1
     have hb:i*s+s≤c.size:=by
      rw[←Nat.succ_mul];exact Nat.le_trans (Nat.mul_le_mul_right _ (by omega)) h2
     refine⟨_,CH w n (.cells (Co c (i*s+off) cx.cells.toList) et (0,0)),?_,hk,?_,F1 hs _ _⟩
     ·rw[hrun n _ ha,Cb cx.cells.toList w c _ 0 h1 (by simp;omega) h1s]
      rfl
     ·refine H7 G hs ⟨_,et,rfl,by rw[Dd];exact h2,by simpa using h3,by simpa using h4,?_⟩
      rw[A7];intro j u hu;rw[List.getElem?_set]at hu;split at hu
      ·rename_i ej
       subst ej;cases hu;refine⟨by rw[EP];exact h6,?_⟩
       have hrow:BV (Hh Λ σ w) (fun q=>(c.extract (i*s) (i*s+s))[q]?) 0 e:=by
        refine A3 h7 (fun q hq=>?_);simp only[Nat.zero_add];rw[Array.getElem?_extract_of_lt (by omega)];exact(Array.getElem?_eq_getElem (by omega)).symm
       have:=KD (o:=off) (by simp;omega) hrow (by simp;omega) hcv';refine A3 this (fun q hq=>?_);rw[EP]at hq;simp only[Nat.zero_add];by_cases hin:off≤q∧q<off+cx.cells.toList.length
       ·obtain⟨r,rfl⟩: ∃r,q=off+r:=⟨q - off,by omega⟩
        rw[show i*s+(off+r)=i*s+off+r by omega,FW _ _ _ _ (by omega) (by simp;omega),FW _ _ _ _ (by omega) (by simp;omega)]
       ·rw[C6 _ _ _ _ (by omega),C6 _ _ _ _ (by omega),Array.getElem?_extract_of_lt (by omega)]
        exact Array.getElem?_eq_getElem (by omega)
      ·rename_i ej
       obtain⟨h8,h9⟩:=A7.1 h5 j u hu;refine⟨h8,A3 h9 (fun q hq=>?_)⟩;rw[C6];rcases Nat.lt_or_ge j i with hji|hji
       ·left
        have:(j+1)*s≤i*s:=Nat.mul_le_mul_right _ hji;rw[Nat.succ_mul]at this;omega
       ·right
        have:(i+1)*s≤j*s:=Nat.mul_le_mul_right _ (by omega);rw[Nat.succ_mul]at this;simp;omega
    ·exact h.elim
   ·exact h.elim
  ·exact h.elim
 ·exact h.elim
end Go.Gl
namespace Go.Gl
variable {P:Program} {Λ:Nat→Prop} {σ:AG} {w:World} {k kp:V→AG→Prop}
theorem Pn (G:Rel Λ σ w) {cells:Array Value} {e:TypeId} {cs:List V} (hs:cells.size=cs.length) (hv:BV (Hh Λ σ w) (fun i=>cells[i]?) 0 cs)
 (h: ∀n,σ n=none→k (.p n 0) (BI σ n (.cs cs))):CM Λ σ w k kp ((do pure (.pointer (some (←newRow e cells))):Sem Value).run P w):=by
 simp only[newRow,Sem.run_bind,run_newObj,Sem.run_pure,Result.andThen,World.alloc_eq];exact⟨.p w.heap.size 0,_,h _ G.new,rfl,Gu G ⟨cells,e,rfl,hs,hv⟩,Di _ _⟩
theorem YT (e:TypeId) (G:Rel Λ σ w) {vx:V} {c:Value} (hx:AZ (Hh Λ σ w) vx c) {cs:List V} (hc:cellsOf vx=some cs) (h: ∀n,σ n=none→k (.p n 0) (BI σ n (.cs cs))) :
 CM Λ σ w k kp ((Instr.box e c).run P w):=by
 obtain⟨h1,h2⟩:=Cn hx hc;exact Pn G h1 h2 h
theorem Fi {z:Option V} {cs:List V} (h:JK z=some cs): ∃v,z=some v∧cellsOf v=some cs:=by
 cases z with
 | none=>cases h
 | some v=>cases v<;>first|(cases h;done)|(cases h;exact⟨_,rfl,rfl⟩)
theorem T4 {e:TypeId} {z:List V} (hz:JK (zeroOf P e)=some z) (G:Rel Λ σ w) (h: ∀n,σ n=none→k (.p n 0) (BI σ n (.cs z))) :
 CM Λ σ w k kp ((Instr.alloc e true (.tuple #[])).run P w):=by
 obtain⟨v,h1,h2⟩:=Fi hz;obtain⟨c,h3,h4⟩:=Dy h1 w;obtain⟨h5,h6⟩:=Cn (Fx (H:=Hh Λ σ w) h4) h2;have:=Pn (P:=P) (kp:=kp) (e:=e) G h5 h6 h;unfold Instr.alloc;simp only[Sem.run_bind,h3,Result.andThen]at this ⊢;simpa[newVar,newRow]using this
theorem T3 {s:TypeId} {fields:Array Field} {f:Nat} {fd:Field} {sz:Nat} (hu:P.underlying s=some (.struct fields)) (hf:fields[f]? =some fd) (hs:Dl P fd.type=some sz) (h0:sz≠0)
 (G:Rel Λ σ w) {vx:V} {c:Value} (hx:AZ (Hh Λ σ w) vx c) (h:JH fd.offset vx fun v=>k v σ):CM Λ σ w k kp ((Instr.fieldAt s c f).run P w):=by
 have hrun: ∀b o,c= .pointer (some ⟨b,o,none⟩)→(Instr.fieldAt s c f).run P w= .ok (.pointer (some ⟨b,o+fd.offset,none⟩)) w:=by
  rintro b o rfl;simp[Instr.fieldAt,A9 hu,hf,Instr.sureAddr,fieldPlace,Dm hs,h0,Ca]
 unfold JH at h;split at h
 ·obtain⟨b,o,hc,hv⟩:=hx
  rw[hrun b o hc];exact Ap G h ⟨b,_,rfl,IT hv _⟩
 ·rw[hrun _ _ hx]
  exact Ap G h rfl
 ·simp only[AZ]at hx
  rw[hrun _ _ hx,Nat.add_assoc];exact Ap G h rfl
 ·exact h.elim
theorem Wj {t:TypeId} {agg:Option Nat} (Y:HX P t=some agg) {H:Nat→Nat→Option Value} {c:Array Value} {off:Nat} {vs:List V} (hs:c.size=vs.length) (hv:BV H (fun i=>c[i]?) 0 vs)
 {K:V→Prop} (hk:cut agg vs off K) (w:World): ∃v d,(part t c off).run P w= .ok d w∧AZ H v d∧K v:=by
 obtain⟨h1,h2⟩:=PV Y w;unfold part;simp only[Sem.run_bind,h1,Result.andThen];cases agg with
 | none=>
   simp only[cut]at hk;split at hk
   ·rename_i v hv'
    obtain⟨d,hd,hr⟩:=Bb.1 hv off v hv';refine⟨v,d,?_,hr,hk⟩;simp only[Nat.zero_add]at hd;simp[hd]
   ·exact hk.elim
 | some n=>
   simp only[cut]at hk;refine⟨.a ((vs.drop off).take n),.agg (c.extract off (off+n)),by simp[h2 n rfl],⟨_,rfl,by simp;omega,?_⟩,hk.2⟩;refine A3 (PL (IT hv off) n) (fun i hi=>?_);simp at hi;rw[Array.getElem?_extract_of_lt (by omega)];rw[show 0+off+i=off+(0+i) by omega];exact(Array.getElem?_eq_getElem (by omega)).symm
theorem T2 {s:TypeId} {fields:Array Field} {f:Nat} {fd:Field} {agg:Option Nat} (hu:P.underlying s=some (.struct fields)) (hf:fields[f]? =some fd) (Y:HX P fd.type=some agg)
 (G:Rel Λ σ w) {cs:List V} {c:Value} (hx:AZ (Hh Λ σ w) (.a cs) c) (h:cut agg cs fd.offset fun v=>k v σ):CM Λ σ w k kp ((Instr.field s c f).run P w):=by
 obtain⟨c',rfl,h1,h2⟩:=hx;obtain⟨v,d,h3,h4,h5⟩:=Wj Y h1 h2 h w;simp only[Instr.field,Sem.run_bind,A9 hu,Result.andThen,hf,asAgg,Sem.run_pure,h3];exact Eg G h4 h5
theorem T1 {t e:TypeId} {len sz:Nat} {agg:Option Nat} (hu:P.underlying t=some (.array len e)) (hs:Dl P e=some sz) (Y:HX P e=some agg)
 (G:Rel Λ σ w) {vx vi:V} {cx ci:Value} (hx:AZ (Hh Λ σ w) vx cx) (hi:AZ (Hh Λ σ w) vi ci) (h:JG len sz agg vx vi fun v=>k v σ):CM Λ σ w k kp ((Instr.index t cx ci).run P w):=by
 unfold JG at h;split at h
 ·rename_i cs ki j
  obtain⟨h0,h1,h⟩:=h;obtain⟨c',rfl,h2,h3⟩:=hx;obtain⟨rfl,_⟩:=hi;obtain⟨v,d,h4,h5,h6⟩:=Wj Y h2 h3 h w;simp only[Instr.index,Sem.run_bind,asIntOf,Sem.run_pure,Result.andThen,A9 hu,h0,h1,and_self,if_true,Dm hs,h4];exact Eg G h5 h6
 ·exact h.elim
theorem run_indexAt_slice {t e:TypeId} {sz:Nat} (hu:P.underlying t=some (.slice e)) (hs:Dl P e=some sz) {b o:Nat} {n cap:Nat} {j:Int} {ki:IntKind} (h0:0≤j) (h1:j<n) :
 (Instr.indexAt t (.slice (some ⟨b,o,none⟩) n cap) (.int ki j)).run P w= .ok (.pointer (some ⟨b,o+j.toNat*sz,none⟩)) w:=by
 simp[Instr.indexAt,asIntOf,A9 hu,h0,h1,Dm hs,Ca]
theorem run_indexAt_array {t e:TypeId} {sz m:Nat} (hu:P.underlying t=some (.array m e)) (hs:Dl P e=some sz) {b o:Nat} {j:Int} {ki:IntKind} (h0:0≤j) (h1:j<m) :
 (Instr.indexAt t (.pointer (some ⟨b,o,none⟩)) (.int ki j)).run P w= .ok (.pointer (some ⟨b,o+j.toNat*sz,none⟩)) w:=by
 simp[Instr.indexAt,asIntOf,A9 hu,h0,h1,Dm hs,Ca,Instr.sureAddr]
theorem Ku {t e:TypeId} {sz:Nat} (hu:P.underlying t=some (.slice e)) (hs:Dl P e=some sz)
 (G:Rel Λ σ w) {vx vi:V} {cx ci:Value} (hx:AZ (Hh Λ σ w) vx cx) (hi:AZ (Hh Λ σ w) vi ci) (h:Ab sz none vx vi fun v=>k v σ):CM Λ σ w k kp ((Instr.indexAt t cx ci).run P w):=by
 cases vi<;>simp only[Ab]at h
 rename_i ki j;obtain⟨rfl,_⟩:=hi;cases vx<;>simp only at h
 ·rename_i es full
  obtain⟨h0,e',he,hl,h⟩:=h;obtain⟨a,cap,rfl,_,_,_,_,h6⟩:=hx;have hlt:=(List.getElem?_eq_some_iff.1 he).1;obtain⟨b,o,s,rfl,h7⟩:=h6 (by rintro rfl;simp at he);obtain⟨h8,h9⟩:=A7.1 h7 _ _ he;have:s=sz:=by omega
  subst this;rw[run_indexAt_slice hu hs h0 (by omega)];exact Ap G h ⟨b,_,rfl,h9⟩
 ·rename_i n len cap
  obtain⟨h0,h1,h⟩:=h;obtain⟨rfl,_⟩:=hx;rw[run_indexAt_slice hu hs h0 h1];exact Ap G h (by simp[AZ])
 ·rename_i n s off len
  obtain⟨rfl,h0,h1,h⟩:=h;obtain⟨a,cap,rfl,_,h3⟩:=hx;obtain rfl:=h3 (by omega);rw[run_indexAt_slice hu hs h0 h1];exact Ap G h (by simp[AZ,Nat.add_mul])
theorem Kv {t e:TypeId} {sz m:Nat} (hu:P.underlying t=some (.array m e)) (hs:Dl P e=some sz)
 (G:Rel Λ σ w) {vx vi:V} {cx ci:Value} (hx:AZ (Hh Λ σ w) vx cx) (hi:AZ (Hh Λ σ w) vi ci) (h:Ab sz (some m) vx vi fun v=>k v σ):CM Λ σ w k kp ((Instr.indexAt t cx ci).run P w):=by
 cases vi<;>simp only[Ab]at h
 rename_i ki j;obtain⟨rfl,_⟩:=hi;cases vx<;>simp only at h
 ·rename_i n o
  obtain⟨h0,h1,h⟩:=h;simp only[AZ]at hx;subst hx;rw[run_indexAt_array hu hs h0 h1];exact Ap G h rfl
 ·rename_i cs
  obtain⟨h0,h1,h⟩:=h;obtain⟨b,o,rfl,hv⟩:=hx;rw[run_indexAt_array hu hs h0 h1];exact Ap G h ⟨b,_,rfl,IT hv _⟩
 ·rename_i n s q o
  obtain⟨h0,h1,h⟩:=h;simp only[AZ]at hx;subst hx;rw[run_indexAt_array hu hs h0 h1,Nat.add_assoc];exact Ap G h rfl
end Go.Gl
namespace Go.Gl
variable {P:Program} {Λ:Nat→Prop} {σ:AG} {w:World} {k kp:V→AG→Prop}
theorem Q2 {n sz j:Nat} (h:j<n*sz):j / sz<n∧j % sz<sz:=by
 have hs:0<sz:=by
  rcases Nat.eq_zero_or_pos sz with h0|h0
  ·subst h0;simp at h
  ·exact h0
 exact⟨(Nat.div_lt_iff_lt_mul hs).2 h,Nat.mod_lt _ hs⟩
theorem IV {H:Nat→Nat→Option Value} {g:Nat→Option Value} {sz o:Nat} {es:List (List V)} (h:BH H g sz o es) :
 ∃cs:List Value,cs.length=es.length*sz∧(∀j v,cs[j]? =some v→g (o+j)=some v)∧BH H (fun i=>cs[i]?) sz 0 es:=by
 have hex: ∀j,j<es.length*sz→ ∃c,g (o+j)=some c:=fun j hj=>by
  obtain⟨h1,h2⟩:=Q2 hj;obtain⟨h3,h4⟩:=A7.1 h (j / sz) es[j / sz] (Fs h1);obtain⟨c,hc,_⟩:=Bb.1 h4 (j % sz) _ (Fs (by omega));refine⟨c,?_⟩;rw[←hc];congr 1;have:=Nat.div_add_mod' j sz;omega
 refine⟨(List.range (es.length*sz)).map fun j=>(g (o+j)).getD undef,by simp,fun j v hv=>?_,?_⟩
 ·have hlt:j<es.length*sz:=by simpa using(List.getElem?_eq_some_iff.1 hv).1
  rw[Rv,List.getElem?_range hlt]at hv;obtain⟨c,hc⟩:=hex j hlt;simp[hc]at hv;rw[hc,hv]
 ·rw[A7]at *
  intro i e he;obtain⟨h1,h2⟩:=h i e he;refine⟨h1,A3 h2 (fun q hq=>?_)⟩;have hi:=(List.getElem?_eq_some_iff.1 he).1
  have hlt:0+i*sz+q<es.length*sz:=by
   have:(i+1)*sz≤es.length*sz:=Nat.mul_le_mul_right _ hi;rw[Nat.succ_mul]at this;omega
  obtain⟨c,hc⟩:=hex _ hlt;rw[Rv,List.getElem?_range hlt];rw[show o+i*sz+q=o+(0+i*sz+q) by omega,hc];simp only[ZB,hc,Option.getD_some]
theorem F3 {H:Nat→Nat→Option Value} {g:Nat→Option Value} {sz o:Nat} {es fs:List (List V)} (h:BH H g sz o es) (k:BH H g sz (o+es.length*sz) fs):BH H g sz o (es++fs):=by
 rw[A7]at *;intro i e he;rw[List.getElem?_append]at he;split at he
 ·exact h i e he
 ·rename_i hlt
  obtain⟨h1,h2⟩:=k _ e he;refine⟨h1,?_⟩
  have:o+es.length*sz+(i - es.length)*sz=o+i*sz:=by
   rw[Nat.add_assoc,←Nat.add_mul];congr 2;omega
  rw[←this];exact h2
theorem Dz {H:Nat→Nat→Option Value} {g g':Nat→Option Value} {sz o o':Nat} {es:List (List V)} (h:BH H g sz o es) (hg: ∀j,j<es.length*sz→g' (o'+j)=g (o+j)):BH H g' sz o' es:=by
 rw[A7]at *;intro i e he;obtain⟨h1,h2⟩:=h i e he;refine⟨h1,A3 h2 (fun q hq=>?_)⟩;have hi:=(List.getElem?_eq_some_iff.1 he).1
 have hlt:i*sz+q<es.length*sz:=by
  have:(i+1)*sz≤es.length*sz:=Nat.mul_le_mul_right _ hi;rw[Nat.succ_mul]at this;omega
 have:=hg _ hlt;rw[Nat.add_assoc,Nat.add_assoc];exact this
theorem Gt {H:Nat→Nat→Option Value} {g:Nat→Option Value} {sz o:Nat} {es:List (List V)} (h:BH H g sz o es) (n:Nat):BH H g sz o (es.take n):=by
 rw[A7]at *;intro i e he;rw[List.getElem?_take]at he;split at he
 ·exact h i e he
 ·cases he
theorem LY {H:Nat→Nat→Option Value} {g:Nat→Option Value} {sz o:Nat} {es:List (List V)} (h:BH H g sz o es) (n:Nat):BH H g sz (o+n*sz) (es.drop n):=by
 rw[A7]at *;intro i e he;rw[wF]at he;obtain⟨h1,h2⟩:=h _ e he;refine⟨h1,?_⟩;rw[Nat.add_mul,←Nat.add_assoc]at h2;exact h2
theorem Hy {H:Nat→Nat→Option Value} {g:Nat→Option Value} {sz o:Nat} {es:List (List V)} (h:BH H g sz o es) {e:List V} (he:e∈es):e.length=sz:=by
 obtain⟨i,hi⟩:=List.mem_iff_getElem?.1 he;exact(A7.1 h i e hi).1
theorem JR (G:Rel Λ σ w) {sz:Nat} {vy:V} {cy:Value} (hy:AZ (Hh Λ σ w) vy cy) {K:List (List V)→Prop} (h:rowsOf σ sz vy K) :
 ∃ ys base cap,K ys∧cy= .slice base ys.length cap∧(∀e∈ys,e.length=sz)∧
   (ys= []∨ ∃b o g,base=some ⟨b,o,none⟩∧(∀i c,g i=some c→w.cell? ⟨b,i,none⟩=some c)∧BH (Hh Λ σ w) g sz o ys):=by
 cases vy<;>simp only[rowsOf]at h
 ·rename_i ys full
  obtain⟨hl,h⟩:=h;obtain⟨a,cap,rfl,_,_,_,_,h6⟩:=hy;refine⟨ys,a,cap,h,rfl,hl,?_⟩;by_cases hne:ys= []
  ·exact .inl hne
  ·obtain⟨b,o,s,rfl,h7⟩:=h6 hne
   right;obtain⟨e,r,rfl⟩:=List.exists_cons_of_ne_nil hne;have:s=sz:=by rw[←hl e (by simp)];exact(Hy h7 (by simp)).symm
   subst this;exact⟨b,o,_,rfl,fun i c hc=>(FM hc).2.2,h7⟩
 ·rename_i m len cap
  split at h
  ·rename_i s ys c hs
   obtain⟨rfl,hle,h⟩:=h;obtain⟨rfl,_⟩:=hy;obtain⟨c',e,h1,h2,h3,h4,h5⟩:=EL G hs;refine⟨_,_,cap,h,by simp[Nat.min_eq_left hle],fun e he=>Hy h5 (List.mem_of_mem_take he),.inr ⟨m,0,_,rfl,fun i c hc=>?_,Gt h5 _⟩⟩;rw[DJ h1];exact hc
  ·exact h.elim
 ·rename_i m s off len
  split at h
  ·rename_i s' ys c hs
   obtain⟨rfl,rfl,hle,h⟩:=h;obtain⟨a,cap,rfl,_,h6⟩:=hy;obtain⟨c',e,h1,h2,h3,h4,h5⟩:=EL G hs;refine⟨_,a,cap,h,by simp;omega,fun e he=>Hy h5 (List.mem_of_mem_drop (List.mem_of_mem_take he)),?_⟩;by_cases h0:len=0
   ·left;simp[h0]
   ·right
    obtain rfl:=h6 h0;refine⟨m,off*s',_,rfl,fun i c hc=>?_,Gt (by have:=LY h5 off;simpa using this) _⟩;rw[DJ h1];exact hc
  ·exact h.elim
theorem Jg (t ty e:TypeId) (i:TypeInfo) (ht:P.underlying t=some (.slice e)) (hi:P.info? e=some i) (base:Option Addr) (n cap:Nat) (hn:n≤cap) (b2:Option Addr) (c2:Nat) :
 (Builtin.append_ #[t,t] ty #[.slice base n cap,.slice b2 0 c2]).run P w= .ok (.slice base n cap) w:=by
 cases base<;>cases b2<;>simp[Builtin.append_,run_underlying ht,sizeOf,typeInfo,hi,Builtin.lenOf,hn,Builtin.firstCells,loadCells,loadCellsFrom,storeCells]
theorem UC {o:O} {ob:Obj} {n:Nat}:B5 Λ σ w (BI (del σ n) w.heap.size o) (w.drew.alloc ob) where
 frame m hm _:=RowKit.Below.heap_alloc _ _ _ hm
 size:=by simp
 os:=rfl
 tape:=rfl
 output:=rfl
 names m h0 hm:=by
  rw[Cf _ _ (by omega)];by_cases e:m=n
  ·subst e;exact DI _ _
  ·rw[GF _ e];exact h0
theorem Rj {t e:TypeId} {i:TypeInfo} {z:Value} (ty:TypeId) (ht:P.underlying t=some (.slice e)) (hi:P.info? e=some i) (hz:i.zero=some z) (hzs:z.cells.size=i.size) (hb:i.bytes≤4096)
 (G:Rel Λ σ w) {vx vy:V} {cx cy:Value} (hx:AZ (Hh Λ σ w) vx cx) (hy:AZ (Hh Λ σ w) vy cy) (h:AQ i.bytes σ i.size vx vy k) :
 CM Λ σ w k kp ((Builtin.append_ #[t,t] ty #[cx,cy]).run P w):=by
 have h':=JR G hy h;clear h;obtain⟨ys,base,c2,⟨hone,h⟩,rfl,hyl,hys⟩:=h'
 have hnews:ys≠[]→ ∃b o,base=some ⟨b,o,none⟩∧ ∃news:List Value,news.length=ys.length*i.size∧(∀j v,news[j]? =some v→w.cell? ((⟨b,o,none⟩:Addr).add j)=some v)∧
  BH (Hh Λ σ w) (fun q=>news[q]?) i.size 0 ys∧ ∀u∈news,u.oneCell'=true:=fun hne=>by
  rcases hys with hys|⟨b,o,g,rfl,hg,hrow⟩
  ·exact absurd hys hne
  ·obtain⟨news,h1,h2,h3⟩:=IV hrow
   refine⟨b,o,rfl,news,h1,fun j v hv=>by rw[Ca];exact hg _ _ (h2 j v hv),h3,fun u hu=>?_⟩;obtain⟨j,hj⟩:=List.mem_iff_getElem?.1 hu;have hlt:j<ys.length*i.size:=by rw[←h1];exact(List.getElem?_eq_some_iff.1 hj).1
   obtain⟨h4,h5⟩:=Q2 hlt;obtain⟨h6,h7⟩:=A7.1 h3 (j / i.size) _ (Fs h4);obtain⟨c,hc,hr⟩:=Bb.1 h7 (j % i.size) _ (Fs (by omega));have hdm:=Nat.div_add_mod' j i.size;rw[show 0+j / i.size*i.size+j % i.size=j by omega,hj]at hc;cases hc;exact Ng hr (hone _ (List.getElem_mem h4) _ (List.getElem_mem _))
 have grown: ∀(es:List (List V)) (olds news:List Value) (L cap n:Nat),olds.length=es.length*i.size→news.length=ys.length*i.size→BH (Hh Λ σ w) (fun q=>olds[q]?) i.size 0 es→BH (Hh Λ σ w) (fun q=>news[q]?) i.size 0 ys→
  L=es.length+ys.length→L≤Ax→
  (∀n' cap',del σ n n'=none→L≤cap'→k (.sl n' L cap') (BI (del σ n) n' (.arr i.size (es++ys) cap')))→
  CM Λ σ w k kp (.ok (.slice (some ⟨w.heap.size,0,none⟩) L (grownCap w L cap e)) (w.drew.alloc (.cells (olds.toArray++news.toArray++Builtin.zeroCells z.cells (grownCap w L cap e - L)) e))):=by
  intro es olds news L cap n ho hn hro hrn hL hLm hk;have hge:=grownCap_ge w L cap e;have ha:B5 Λ σ w (BI (del σ n) w.heap.size (.arr i.size (es++ys) (grownCap w L cap e))) (w.drew.alloc (.cells (olds.toArray++news.toArray++Builtin.zeroCells z.cells (grownCap w L cap e - L)) e)):=UC
  have hfresh:del σ n w.heap.size=none:=by
   unfold del;split
   ·rfl
   ·exact G.new
  refine⟨_,_,hk w.heap.size _ hfresh hge,⟨rfl,hge⟩,?_,ha⟩;refine G.step ha fun m o' hm=>?_
  by_cases em:m=w.heap.size
  ·subst em
   rw[DE]at hm;cases hm;refine .inr ⟨fun hl=>absurd (G.lock _ hl) (Nat.lt_irrefl _),_,heap_alloc_new w.drew _,_,e,rfl,?_,by simp;omega,by simp;omega,?_⟩
   ·refine Nat.le_of_eq (Eq.symm ?_)
    simp only[Array.size_append,List.size_toArray,size_zeroCells,hzs,ho,hn,←Nat.add_mul];congr 1;omega
   ·refine F3 (BH.mono ha.hle (fun _ _ e=>e) _ _ _ (Dz hro fun j hj=>?_)) (BH.mono ha.hle (fun _ _ e=>e) _ _ _ (Dz hrn fun j hj=>?_))
    ·simp only[Nat.zero_add]
     rw[Array.getElem?_append_left (by simp[ho,hn];omega),Array.getElem?_append_left (by simp[ho];omega)];simp
    ·simp only[Nat.zero_add]
     rw[Array.getElem?_append_left (by simp[ho,hn];omega),Array.getElem?_append_right (by simp[ho])];simp[ho]
  ·rw[Cf _ _ em]at hm
   have hmn:m≠n:=fun e=>by rw[e,DI]at hm;cases hm
   rw[GF _ hmn]at hm;exact .inl ⟨hm,heap_alloc_old w.drew _ _ (G.lt hm)⟩
 by_cases hne:ys= []
 ·subst hne
  have hrun: ∀(n cap:Nat) (b:Option Addr),n≤cap→(Builtin.append_ #[t,t] ty #[.slice b n cap,.slice base ([]:List (List V)).length c2]).run P w= .ok (.slice b n cap) w:=fun n cap b hn=>Jg t ty e i ht hi b n cap hn base c2
  cases vx<;>simp only at h
  ·rename_i es full
   obtain⟨_,_,h,_⟩:=h;have hx':=hx;obtain⟨a,cap,rfl,h2,_⟩:=hx;rw[hrun _ _ _ h2];exact Ap G (h trivial) hx'
  ·rename_i n len cap
   split at h
   ·rename_i s es c hs
    obtain⟨rfl,rfl,rfl,hm,h⟩:=h;have hx':=hx;obtain⟨rfl,h2⟩:=hx;rw[hrun _ _ _ h2];have:=h n c (DI _ _) (by simpa using h2);simp only[List.length_nil,Nat.add_zero,List.append_nil]at this
    have e:BI (del σ n) n (.arr i.size es c)=σ:=by
     funext m;unfold BI del;split
     ·rename_i e;rw[e,hs]
     ·rfl
    rw[e]at this;exact Ap G this hx'
   ·exact h.elim
 ·obtain ⟨b,o,rfl,news,hnl,hnc,hnr,hn1⟩:=hnews hne
  have hpos:0<ys.length:=List.length_pos_iff.2 hne;cases vx<;>simp only at h
  ·rename_i es full
   obtain⟨hel,hm,_,h⟩:=h;obtain⟨rfl,hkk⟩:=h hne;obtain⟨a,cap,rfl,h2,h3,h4,h5,h6⟩:=hx;obtain rfl:=h3 rfl
   have hk': ∀n' cap',del σ w.heap.size n'=none→es.length+ys.length≤cap'→k (.sl n' (es.length+ys.length) cap') (BI (del σ w.heap.size) n' (.arr i.size (es++ys) cap')):=by
    have hd:del σ w.heap.size=σ:=by
     funext m;unfold del;split
     ·rename_i e;rw[e,G.new]
     ·rfl
    rw[hd];exact hkk
   cases a with
   | none=>
     have h0:es.length=0:=by simpa using h5 rfl
     obtain rfl:es= []:=List.eq_nil_of_length_eq_zero h0;simp only[List.length_nil,Nat.zero_add]at hm hk' ⊢;rw[run_append_nil w t ty e i z ht hi hz ⟨b,o,none⟩ ys.length c2 news hnl hnc hpos (by have:=hm.1;unfold Ax at this;omega) (by have:=hm.2;omega)];have hgo:=grown [] [] news ys.length 0 w.heap.size (by simp) hnl trivial hnr (by simp) hm.1 hk';simpa using hgo
   | some a=>
     have holds: ∃olds:List Value,olds.length=es.length*i.size∧(∀j v,olds[j]? =some v→w.cell? (a.add j)=some v)∧BH (Hh Λ σ w) (fun q=>olds[q]?) i.size 0 es:=by
      by_cases hes:es= []
      ·subst hes;exact⟨[],by simp,by simp,trivial⟩
      ·obtain⟨b',o',s,ha,h7⟩:=h6 hes
       cases ha;obtain⟨e0,r,rfl⟩:=List.exists_cons_of_ne_nil hes;have:s=i.size:=by rw[←hel e0 (by simp)];exact(Hy h7 (by simp)).symm
       subst this;obtain⟨olds,h8,h9,h10⟩:=IV h7;exact⟨olds,h8,fun j v hv=>by rw[Ca];exact(FM (h9 j v hv)).2.2,h10⟩
     obtain⟨olds,h8,h9,h10⟩:=holds;rw[run_append_grow w t ty e i z ht hi hz a es.length es.length olds h8 h9 ⟨b,o,none⟩ ys.length c2 news hnl hnc (by omega) (by have:=hm.1;unfold Ax at this;omega) (growslice_fits (by omega) hm.2)];exact grown es olds news _ _ w.heap.size h8 hnl h10 hnr rfl hm.1 hk'
  ·rename_i n len cap
   split at h
   ·rename_i s es c hs
    obtain⟨rfl,rfl,rfl,hm,h⟩:=h;obtain⟨rfl,h2⟩:=hx;obtain⟨cur,et,h3,h4,h5,h6,h7⟩:=EL G hs;by_cases hroom:es.length+ys.length≤c
    ·
     have hmul:(es.length+ys.length)*i.size≤c*i.size:=Nat.mul_le_mul_right _ hroom;rw[Nat.add_mul]at hmul;have hcell:et=et:=rfl;have hrunF:=run_firstCells_some (P:=P) w i.size ys.length ⟨b,o,none⟩ ys.length c2 news hnl hnc;have hst:=Cb (P:=P) news w cur (es.length*i.size) 0 h3 (by omega) hn1;simp only[Nat.add_zero]at hst
     have hrun:(Builtin.append_ #[t,t] ty #[.slice (some ⟨n,0,none⟩) es.length c,.slice (some ⟨b,o,none⟩) ys.length c2]).run P w =
      .ok (.slice (some ⟨n,0,none⟩) (es.length+ys.length) c) (CH w n (.cells (Co cur (es.length*i.size) news) et (0,0))):=by
      simp[Builtin.append_,run_underlying ht,sizeOf,typeInfo,hi,Builtin.lenOf,hroom,hrunF,Ca,hst]
     rw[hrun];have hk:=h n c (DI _ _) hroom
     have eu:BI (del σ n) n (.arr i.size (es++ys) c)=BI σ n (.arr i.size (es++ys) c):=by
      funext m;unfold BI del;split
      ·rfl
      ·rfl
     rw[eu]at hk;refine⟨_,_,hk,⟨rfl,hroom⟩,H7 G hs ⟨_,et,rfl,by rw[Dd];exact h4,by simp;omega,by simp;omega,?_⟩,F1 hs _ _⟩;refine F3 (Dz h7 fun j hj=>?_) (Dz hnr fun j hj=>?_)
     ·exact C6 _ _ _ _ (by omega)
     ·simp only[Nat.zero_add]
      exact FW _ _ _ _ (by omega) (by omega)
    ·obtain⟨olds,h8,h9,h10⟩:=IV h7
     rw[run_append_grow w t ty e i z ht hi hz ⟨n,0,none⟩ es.length c olds h8 (fun j v hv=>by rw[Ca,DJ h3];simpa using h9 j v hv) ⟨b,o,none⟩ ys.length c2 news hnl hnc (by omega) (by have:=hm.1;unfold Ax at this;omega)
      (growslice_fits (by omega) hm.2)]
     exact grown es olds news _ _ n h8 hnl h10 hnr rfl hm.1 h
   ·exact h.elim
end Go.Gl
namespace Go.Gl
variable {P:Program} {Λ:Nat→Prop} {σ:AG} {w:World} {k kp:V→AG→Prop}
theorem Vl (G:Rel Λ σ w) {n sz cap:Nat} {es:List (List V)} (hs:σ n=some (.arr sz es cap)):BH (Hh Λ (del σ n) w) (Hh Λ (del σ n) w n) sz 0 es∧es.length≤cap∧es.length≤Ax:=by
 obtain⟨c,e,h1,h2,h3,h4,h5⟩:=EL G hs;refine⟨BH.mono (El fun m hm=>(FI σ n).none hm) (fun i v hv=>?_) _ _ _ h5,h3,h4⟩;rw[L2 (G.own n _ hs).1 (DI σ n),DJ h1];exact hv
theorem YG (G:Rel Λ σ w) {n sz cap:Nat} {es:List (List V)} (hs:σ n=some (.arr sz es cap)):Rel Λ (BI σ n (.arr sz es es.length)) w∧B5 Λ σ w (BI σ n (.arr sz es es.length)) w:=by
 have hh:Hh Λ (BI σ n (.arr sz es es.length)) w=Hh Λ σ w:=by
  funext b o
  have e:(BI σ n (.arr sz es es.length) b).isSome=(σ b).isSome:=by
   by_cases e:b=n
   ·rw[e,DE,hs];rfl
   ·rw[Cf _ _ e]
  unfold Hh;by_cases hl:Λ b∨(σ b).isSome=true
  ·rw[if_pos hl,if_pos (by rw[e];exact hl)]
  ·rw[if_neg hl,if_neg (by rw[e];exact hl)]
 refine⟨⟨fun m o ho=>?_,G.lock⟩,⟨fun _ _ _=>rfl,Nat.le_refl _,rfl,rfl,rfl,fun m hm _=>?_⟩⟩
 ·rw[hh]
  by_cases e:m=n
  ·subst e
   rw[DE]at ho;cases ho;obtain⟨h1,ob,h2,c,ce,h3,h4,h5,h6,h7⟩:=G.own m _ hs;exact⟨h1,ob,h2,c,ce,h3,Nat.le_trans (Nat.mul_le_mul_right _ h5) h4,Nat.le_refl _,h6,h7⟩
  ·rw[Cf _ _ e]at ho
   exact G.own m o ho
 ·have e:m≠n:=fun e=>by rw[e,hs]at hm;cases hm
  rw[Cf _ _ e];exact hm
def Zd (H:Nat→Nat→Option Value) (v:Option V) (c:Option Value):Prop:=match v,c with|none,none=>True|some v,some c=>AZ H v c|_,_=>False
def BRel (o:Option V) (c:Option Value):Prop:=
 match o,c with
 | none,none=>True
 | some v,some c=> ∃ki n,v= .i ki n∧c= .int ki n
 | _,_=>False
theorem LJ {o:Option V} {c:Option Value} {H:Nat→Nat→Option Value} {d:Int} {K:Int→Prop} (hr:Zd H o c) (h:Oh o d K) :
 BRel o c∧ ∃n,K n∧((o=none∧n=d)∨ ∃ki,c=some (.int ki n)):=by
 cases o with
 | none=>
   cases c with
   | none=>exact⟨trivial,d,h,.inl ⟨rfl,rfl⟩⟩
   | some c=>exact hr.elim
 | some v=>
   cases c with
   | none=>exact hr.elim
   | some c=>
     cases v<;>simp only[Oh]at h
     rename_i ki n;obtain⟨rfl,_⟩:=hr;exact⟨⟨ki,n,rfl,rfl⟩,n,h,.inr ⟨ki,rfl⟩⟩
theorem MW {len cap:Nat} {lo hi mx:Option Value} {l h m:Int} (hl:(lo=none∧l=0)∨ ∃ki,lo=some (.int ki l)) (hh:(hi=none∧h=len)∨ ∃ki,hi=some (.int ki h))
 (hm:(mx=none∧m=cap)∨ ∃ki,mx=some (.int ki m)) (hmh:mx.isSome=true→hi.isSome=true) (h0:0≤l) (h1:l≤h) (h2:h≤m) (h3:m≤cap) :
 (Instr.sliceBounds true len cap lo hi mx).run P w= .ok (l.toNat,h.toNat,m.toNat) w:=by
 have eh:(h.toNat:Int)=h:=Int.toNat_of_nonneg (by omega);have em:(m.toNat:Int)=m:=Int.toNat_of_nonneg (by omega);have bl: ∀ki code,(Instr.sliceBound (.int ki l) h.toNat code).run P w= .ok l.toNat w:=fun ki code=>run_sliceBound w ki l _ code h0 (by omega)
 have bh: ∀ki code,(Instr.sliceBound (.int ki h) m.toNat code).run P w= .ok h.toNat w:=fun ki code=>run_sliceBound w ki h _ code (by omega) (by omega)
 have bm: ∀ki code,(Instr.sliceBound (.int ki m) cap code).run P w= .ok m.toNat w:=fun ki code=>run_sliceBound w ki m _ code (by omega) (by omega)
 unfold Instr.sliceBounds;rcases hm with⟨rfl,rfl⟩|⟨km,rfl⟩
 ·simp only[Int.toNat_natCast]at bh
  rcases hh with⟨rfl,rfl⟩|⟨kh,rfl⟩
  ·simp only[Int.toNat_natCast]at bl
   rcases hl with⟨rfl,rfl⟩|⟨kl,rfl⟩
   ·simp
   ·simp[bl]
  ·rcases hl with⟨rfl,rfl⟩|⟨kl,rfl⟩
   ·simp[bh]
   ·simp[bh,bl]
 ·rcases hh with⟨rfl,rfl⟩|⟨kh,rfl⟩
  ·simp at hmh
  ·rcases hl with⟨rfl,rfl⟩|⟨kl,rfl⟩
   ·simp[bm,bh]
   ·simp[bm,bh,bl]
theorem Ex {t e:TypeId} {sz:Nat} (hu:P.underlying t=some (.slice e)) (hs:Dl P e=some sz) {a:Option Addr} {len cap:Nat} {lo hi mx:Option Value} {l h m:Int} (hl:(lo=none∧l=0)∨ ∃ki,lo=some (.int ki l)) (hh:(hi=none∧h=len)∨ ∃ki,hi=some (.int ki h))
 (hm:(mx=none∧m=cap)∨ ∃ki,mx=some (.int ki m)) (hmh:mx.isSome=true→hi.isSome=true) (h0:0≤l) (h1:l≤h) (h2:h≤m) (h3:m≤cap) :
 (Instr.sliceAt t (.slice a len cap) lo hi mx).run P w= .ok (.slice (if m.toNat=l.toNat then a else a.map (·.add (l.toNat*sz))) (h.toNat - l.toNat) (m.toNat - l.toNat)) w:=by
 simp only[Instr.sliceAt,Sem.run_bind,A9 hu,Result.andThen,Instr.slice,MW hl hh hm hmh h0 h1 h2 h3,Dm hs,Sem.run_pure]
theorem T0 {t e:TypeId} {sz:Nat} (hu:P.underlying t=some (.slice e)) (hs:Dl P e=some sz) (h0:0<sz)
 (G:Rel Λ σ w) {vx:V} {cx:Value} (hx:AZ (Hh Λ σ w) vx cx) {vl vh vm:Option V} {cl ch cm:Option Value}
 (hl:Zd (Hh Λ σ w) vl cl)
 (hh:Zd (Hh Λ σ w) vh ch)
 (hm:Zd (Hh Λ σ w) vm cm)
 (hmh:cm.isSome=true→ch.isSome=true) (h:Ac σ sz vx vl vh vm k):CM Λ σ w k kp ((Instr.sliceAt t cx cl ch cm).run P w):=by
 have hlo: ∀n,((vl=none∧n=0)∨ ∃ki,cl=some (.int ki n))→(cl=none∧n=0)∨ ∃ki,cl=some (.int ki n):=by
  rintro n (⟨rfl,rfl⟩|h)
  ·cases cl with
   | none=>exact .inl ⟨rfl,rfl⟩
   | some c=>exact hl.elim
  ·exact .inr h
 have hhi: ∀n (d:Int),((vh=none∧n=d)∨ ∃ki,ch=some (.int ki n))→(ch=none∧n=d)∨ ∃ki,ch=some (.int ki n):=by
  rintro n d (⟨rfl,rfl⟩|h)
  ·cases ch with
   | none=>exact .inl ⟨rfl,rfl⟩
   | some c=>exact hh.elim
  ·exact .inr h
 have hno:vm=none→cm=none:=by
  rintro rfl;cases cm with
  | none=>rfl
  | some c=>exact hm.elim
 cases vx<;>simp only[Ac]at h
 ·rename_i es full
  obtain⟨hel,h⟩:=h;obtain⟨a,cap,rfl,h2,h3,h4,h5,h6⟩:=hx;replace h:=LJ hh h;obtain⟨_,hi,h,hhi'⟩:=h;replace h:=LJ hl h;obtain⟨_,li,⟨hl0,hlh,hhl,h⟩,hli'⟩:=h;have hlen:((es.take hi.toNat).drop li.toNat).length=hi.toNat - li.toNat:=by simp;omega
  have hrow: ∀cap':Nat,(es.take hi.toNat).drop li.toNat≠[]→cap'≠li.toNat→
   ∃b o s,(if cap'=li.toNat then a else a.map (·.add (li.toNat*sz)))=some ⟨b,o,none⟩∧BH (Hh Λ σ w) (Hh Λ σ w b) s o ((es.take hi.toNat).drop li.toNat):=fun cap' hne hcap=>by
   have hes:es≠[]:=by rintro rfl;simp at hne
   obtain⟨b,o,s,rfl,h7⟩:=h6 hes
   have hss:s=sz:=by
    obtain⟨e0,r,rfl⟩:=List.exists_cons_of_ne_nil hes;rw[←hel e0 (by simp)];exact(Hy h7 (by simp)).symm
   subst hss;refine⟨b,o+li.toNat*s,s,?_,LY (Gt h7 _) _⟩;rw[if_neg hcap];simp[Ca]
  have hne: ∀cap':Nat,hi.toNat≤cap'→(es.take hi.toNat).drop li.toNat≠[]→cap'≠li.toNat:=fun cap' hc hn=>by
   have:=List.length_pos_iff.2 hn;rw[hlen]at this;omega
  cases vm with
  | none=>
    obtain rfl:=hno rfl;rw[Ex (m:=cap) hu hs (hlo _ hli') (hhi _ _ hhi') (.inl ⟨rfl,rfl⟩) (by simp) hl0 hlh (by omega) (Int.le_refl _)];refine Ap G h ?_;simp only[Int.toNat_natCast];refine⟨_,_,by rw[hlen],by rw[hlen];omega,fun hf=>?_,by rw[hlen];omega,fun ha=>?_,fun hn=>hrow _ hn (hne _ (by omega) hn)⟩
    ·simp at hf
     have:=h3 hf.1;rw[hlen];omega
    ·cases a with
     | none=>have:=h5 rfl;omega
     | some a=>split at ha<;>simp at ha
  | some v=>
    cases v<;>simp only at h
    rename_i km mi;obtain⟨rfl,h⟩:=h;cases cm with
    | none=>exact hm.elim
    | some c=>
      obtain⟨rfl,_⟩:=hm;rw[Ex (m:=mi) hu hs (hlo _ hli') (hhi _ _ hhi') (.inr ⟨_,rfl⟩) hmh hl0 hlh (Int.le_refl _) (by omega)];refine Ap G h ?_;refine⟨_,_,by rw[hlen],by rw[hlen];omega,fun _=>by rw[hlen],by rw[hlen];omega,fun ha=>?_,fun hn=>hrow _ hn (hne _ (Nat.le_refl _) hn)⟩;cases a with
      | none=>have:=h5 rfl;omega
      | some a=>split at ha<;>simp at ha
 ·rename_i n len cap
  obtain⟨rfl,h2⟩:=hx;replace h:=LJ hh h;obtain⟨_,hi,h,hhi'⟩:=h;replace h:=LJ hl h;obtain⟨_,li,⟨hl0,hlh,hhl,h⟩,hli'⟩:=h;cases vm with
  | none=>
    obtain rfl:=hno rfl;rw[Ex (m:=cap) hu hs (hlo _ hli') (hhi _ _ hhi') (.inl ⟨rfl,rfl⟩) (by simp) hl0 hlh (by omega) (Int.le_refl _)];refine Ap G h ⟨_,_,by congr 1;omega,by omega,fun hn=>?_⟩;rw[if_neg (by omega)];simp[Ca]
  | some v=>
    cases v<;>simp only at h
    rename_i km mi;obtain⟨rfl,rfl,rfl,h⟩:=h;split at h
    ·rename_i s es c hs'
     obtain⟨rfl,rfl,rfl,h⟩:=h;cases cm with
     | none=>exact hm.elim
     | some c=>
       obtain⟨rfl,_⟩:=hm;rw[Ex (m:=(es.length:Int)) hu hs (hlo _ hli') (hhi _ _ hhi') (.inr ⟨_,rfl⟩) hmh hl0 hlh (Int.le_refl _) (by omega)];rcases h with h|h
       ·obtain⟨h7,h8,h9⟩:=Vl G hs'
        refine⟨_,_,h,?_,G.drop (FI σ n),B5.drop w (FI σ n)⟩;refine⟨some ⟨n,0,none⟩,es.length,?_,Nat.le_refl _,fun _=>rfl,h9,fun ha=>by simp at ha,fun hn=>⟨n,0,s,rfl,h7⟩⟩;simp only[Int.toNat_natCast,Int.toNat_zero,Nat.sub_zero,Nat.zero_mul,ZB,Ca,Nat.add_zero,ite_self]
       ·obtain⟨cc,ce,g1,g2,g3,g4,g5⟩:=EL G hs'
        have hle:=YG G hs';refine⟨_,_,h,⟨?_,Nat.le_refl _⟩,hle.1,hle.2⟩;simp only[Int.toNat_natCast,Int.toNat_zero,Nat.sub_zero,Nat.zero_mul,ZB,Ca,Nat.add_zero,ite_self]
    ·exact h.elim
 ·rename_i n s off len
  obtain⟨a,cap,rfl,h2,h3⟩:=hx;replace h:=LJ hh h;obtain⟨_,hi,h,hhi'⟩:=h;replace h:=LJ hl h;obtain⟨_,li,⟨hl0,hlh,hhl,rfl,rfl,h⟩,hli'⟩:=h;obtain rfl:=hno rfl;rw[Ex (m:=cap) hu hs (hlo _ hli') (hhi _ _ hhi') (.inl ⟨rfl,rfl⟩) (by simp) hl0 hlh (by omega) (Int.le_refl _)];refine Ap G h ⟨_,_,by congr 1;omega,by omega,fun hn=>?_⟩;obtain rfl:=h3 (by omega);rw[if_neg (by omega)];simp[Ca,Nat.add_mul]
theorem Kl {H:Nat→Nat→Option Value}: ∀ {kvs:List (V×V)} {es:List MapEntry},Ev H kvs es→es.length=kvs.length
 | [],[],_=>rfl
 | (_,_)::r,_::es,h=>by simp only[Ev]at h;simp[Kl h.2.2]
 | [],_::_,h=>h.elim
 | _::_,[],h=>h.elim
theorem ee (G:Rel Λ σ w) {n:Nat} {kvs:List (V×V)} (h:σ n=some (.map kvs)): ∃es clk,w.heap[n]? =some (.map es clk)∧Ev (Hh Λ σ w) kvs es.toList:=by
 obtain⟨_,ob,h2,es,clk,rfl,h4⟩:=G.own n _ h;exact⟨es,clk,h2,h4.1⟩
theorem HH {n:Nat} (h:n≤Ax):IntKind.i64.min≤(n:Int)∧(n:Int)≤IntKind.i64.max:=by
 unfold Ax at h;simp only[IntKind.min,IntKind.max,IntKind.signed,IntKind.bits,if_true];omega
theorem YP {t e:TypeId} (ty:TypeId) (hu:P.underlying t=some (.slice e))
 (G:Rel Λ σ w) {vx:V} {cx:Value} (hx:AZ (Hh Λ σ w) vx cx) (h:BZ vx fun v=>k v σ):CM Λ σ w k kp ((Builtin.len_ #[t] ty #[cx]).run P w):=by
 cases vx<;>simp only[BZ]at h
 ·rename_i es full
  obtain⟨a,cap,rfl,h2,h3,h4,h5,h6⟩:=hx;have:(Builtin.len_ #[t] ty #[.slice a es.length cap]).run P w= .ok (goInt es.length) w:=by simp[Builtin.len_,A9 hu]
  rw[this];exact Ap G h ⟨rfl,HH h4⟩
 ·rename_i n len cap
  obtain⟨rfl,_⟩:=hx;have:(Builtin.len_ #[t] ty #[.slice (some ⟨n,0,none⟩) len cap]).run P w= .ok (goInt len) w:=by simp[Builtin.len_,A9 hu]
  rw[this];exact Ap G h.2 ⟨rfl,HH h.1⟩
 ·rename_i n s o len
  obtain⟨a,cap,rfl,_⟩:=hx;have:(Builtin.len_ #[t] ty #[.slice a len cap]).run P w= .ok (goInt len) w:=by simp[Builtin.len_,A9 hu]
  rw[this];exact Ap G h.2 ⟨rfl,HH h.1⟩
theorem Vh {t e f:TypeId} (ty:TypeId) (hu:P.underlying t=some (.map e f))
 (G:Rel Λ σ w) {vx:V} {cx:Value} (hx:AZ (Hh Λ σ w) vx cx) (h:It σ vx fun v=>k v σ):CM Λ σ w k kp ((Builtin.len_ #[t] ty #[cx]).run P w):=by
 cases vx<;>simp only[It]at h
 ·rename_i n
  split at h
  ·rename_i kvs hs
   obtain⟨es,clk,h1,h2⟩:=ee G hs;simp only[AZ]at hx;subst hx;have hl:=Kl h2
   have:(Builtin.len_ #[t] ty #[.map (some n)]).run P w= .ok (goInt kvs.length) w:=by
    simp[Builtin.len_,A9 hu,getObj,Sem.run,h1,←hl]
   rw[this];exact Ap G h.2 ⟨rfl,HH h.1⟩
  ·exact h.elim
 ·simp only[AZ]at hx
  subst hx;have:(Builtin.len_ #[t] ty #[.map none]).run P w= .ok (goInt 0) w:=by simp[Builtin.len_,A9 hu]
  rw[this];exact Ap G h ⟨rfl,HH (Nat.zero_le _)⟩
end Go.Gl
namespace Go.Gl
variable {P:Program} {Λ:Nat→Prop} {σ:AG} {w:World} {k kp:V→AG→Prop}
theorem H6 (ki:IntKind) (n:Int):ki.min≤ki.wrap n∧ki.wrap n≤ki.max:=by
 have:=WideShapes.wf_wrap ki n;simpa[Lit.wf]using this
theorem JY (ki:IntKind):ki.min≤0:=by cases ki<;>decide
theorem OI (ki:IntKind):0≤ki.max:=by cases ki<;>decide
theorem df {ki:IntKind} {a:Int} (b:Int) (h:ki.min≤a∧a≤ki.max):ki.min≤a.tmod b∧a.tmod b≤ki.max:=by
 have h1:=JY ki;have h2:=OI ki;have h5:(a.tmod b).natAbs≤a.natAbs:=by rw[Int.natAbs_tmod];exact Nat.mod_le _ _
 rcases Int.le_total 0 a with h0|h0
 ·have h3:=Int.tmod_nonneg b h0
  omega
 ·have h4:=Int.tmod_nonneg b (show 0≤ -a by omega)
  rw[Int.neg_tmod]at h4;omega
theorem jg {ki:IntKind} {a:Int} (n:Nat) (h:ki.min≤a∧a≤ki.max):ki.min≤a.fdiv (2 ^ n)∧a.fdiv (2 ^ n)≤ki.max:=by
 have h1:=JY ki;have h2:=OI ki;have hp:(0:Int)<2 ^ n:=Int.pow_pos (by omega);rw[Int.fdiv_eq_ediv_of_nonneg _ (by omega)];constructor
 ·rw[Int.le_ediv_iff_mul_le hp]
  have:ki.min*2 ^ n≤ki.min*1:=Int.mul_le_mul_of_nonpos_left h1 (by omega);omega
 ·have:a / 2 ^ n<ki.max+1:=by
   rw[Int.ediv_lt_iff_lt_mul hp];have:(ki.max+1)*1≤(ki.max+1)*2 ^ n:=Int.mul_le_mul_of_nonneg_left (by omega) (by omega);omega
  omega
theorem YU {t : TypeId} (op:BinOp) (x y:Operand) (G:Rel Λ σ w) {vx vy:V} {cx cy:Value} (hx:AZ (Hh Λ σ w) vx cx) (hy:AZ (Hh Λ σ w) vy cy) (h:R3 op vx vy fun v=>k v σ) :
 CM Λ σ w k kp ((do eqGuard op t x y cx cy;binOp op t cx cy:Sem Value).run P w):=by
 cases vx<;>simp only[R3]at h
 cases vy<;>simp only at h
 rename_i ka a kb b;obtain⟨rfl,ha⟩:=hx;obtain⟨rfl,hb⟩:=hy
 have hg:(eqGuard op t x y (.int ka a) (.int kb b)).run P w= .ok () w:=by
  unfold eqGuard;cases op<;>rfl
 simp only[Sem.run_bind,hg,Result.andThen]
 cases op<;>simp only at h<;>first
  | (obtain ⟨rfl,h⟩:=h
     first
      | (obtain⟨hb0,h⟩:=h
         simp only[binOp,Op.intDiv,hb0,if_false,ne_eq,not_true_eq_false]
         first
          | exact Ap G h ⟨rfl,H6 _ _⟩
          | exact Ap G h ⟨rfl,df _ ha⟩)
      | (simp only[binOp,Op.intArith,Op.intCmp,Op.intBits,ne_eq,not_true_eq_false,if_false]
         first
          | exact Ap G h rfl
          | exact Ap G h ⟨rfl,H6 _ _⟩))
  | (obtain⟨h0,h⟩:=h
     have hn: ¬b<0:=by omega
     simp only[binOp,Op.shift,hn,if_false]
     first
      | exact Ap G h ⟨rfl,H6 _ _⟩
      | exact Ap G h ⟨rfl,jg _ ha⟩)
theorem Rk {t:TypeId} (hu:P.underlying t=some .bool) (d:Nat) (p q:Bool):(Op.equalIn (d+1) t (.bool p) (.bool q)).run P w= .ok (p==q) w:=by
 simp only[Op.equalIn,Sem.run_bind,A9 hu,Result.andThen,Sem.run_pure]
theorem Po {t:TypeId} (hu:P.underlying t=some .bool) (op:BinOp) (hop:op= .eql∨op= .neq) (x y:Operand) (G:Rel Λ σ w) {p q:Bool} (h:k (.b (bif (match op with| .neq=>true|_=>false)then p != q else p==q)) σ) :
 CM Λ σ w k kp ((do eqGuard op t x y (.bool p) (.bool q);binOp op t (.bool p) (.bool q):Sem Value).run P w):=by
 have hg:(eqGuard op t x y (.bool p) (.bool q)).run P w= .ok () w:=by
  unfold eqGuard;rcases hop with rfl|rfl<;>rfl
 simp only[Sem.run_bind,hg,Result.andThen]
 have he:(Op.equal t (.bool p) (.bool q)).run P w= .ok (p==q) w:=by
  exact Rk hu 9999 p q
 rcases hop with rfl|rfl
 ·simp only[binOp,Sem.run_bind,he,Result.andThen,Sem.run_pure]
  exact Ap G h rfl
 ·simp only[binOp,Sem.run_bind,he,Result.andThen,Sem.run_pure]
  exact Ap G h (by simp only[AZ,cond_true];cases p<;>cases q<;>rfl)
theorem Pq (off:Nat): ∀(l:List Value) (j:Nat) (c:Array Value),(l.zipIdx j).foldl (fun cs (x:Value×Nat)=>cs.setIfInBounds (off+x.2) x.1) c=Co c (off+j) l
 | [],_,_=>rfl
 | v::l,j,c=>by
   simp only[List.zipIdx_cons,List.foldl_cons,Co];rw[Pq off l (j+1),show off+(j+1)=off+j+1 by omega]
theorem N1 (off:Nat) (d c:Array Value):d.zipIdx.foldl (fun cs (x:Value×Nat)=>cs.setIfInBounds (off+x.2) x.1) c=Co c off d.toList:=by
 rw[←Array.foldl_toList,Array.toList_zipIdx];exact Pq off d.toList 0 c
theorem Nr {H : Nat→Nat→Option Value} {env:Env} {a:Act} (he:CQ H env a.tmps) {place:Nat→Option (Nat×Nat)}: ∀ {parts:List (Nat×Operand)} {ps:List (Nat×Nat×Bj)},
 (List.length parts=ps.length∧ ∀(i:Nat) (q:Nat×Operand) (r:Nat×Nat×Bj),parts[i]? =some q→ps[i]? =some r→place q.1=some (r.1,r.2.1)∧BR q.2=some r.2.2)→
 ∀ {c:Array Value} {vs us:List V},c.size=vs.length→BV H (fun i=>c[i]?) 0 vs→Iw env vs ps=some us→
 ∃d,Instr.fill place c (parts.map fun(i,x)=>(i,a.eval x))=some d∧d.size=us.length∧BV H (fun i=>d[i]?) 0 us
 | [],ps,hp,c,vs,us,hs,hv,hf=>by
   have:ps= []:=List.eq_nil_of_length_eq_zero hp.1.symm;subst this;cases hf;exact⟨c,rfl,hs,hv⟩
 | (i, x) :: parts,ps,hp,c,vs,us,hs,hv,hf=>by
   cases ps with
   | nil=>simp at hp
   | cons r ps=>
     obtain⟨off,sz,o⟩:=r;obtain⟨h1,h2⟩:=hp.2 0 _ _ rfl rfl;simp only at h1 h2;simp only[Iw]at hf;split at hf
     ·rename_i v hev
      split at hf
      ·rename_i vc hc
       cases hq:(Nat.beq vc.length sz&&Nat.ble (off+sz) vs.length)with
       | false=>rw[hq]at hf;simp at hf
       | true=>
         rw[hq]at hf;simp only[cond_true]at hf;simp only[BO,Nat.beq_eq,Nat.ble_eq]at hq;obtain⟨h3,h4⟩:=Cn (Al he h2 hev) hc
         obtain⟨d,h5,h6⟩:=Nr he (parts:=parts) (ps:=ps) ⟨by simpa using hp.1,fun j q r hq hr=>hp.2 (j+1) q r (by simpa using hq) (by simpa using hr)⟩ (c:=Co c off (a.eval x).cells.toList) (vs:=putAt vs off vc)
          (by rw[Dd,EP];exact hs) (KD hs hv (by simpa using h3) (A3 h4 (fun i _=>by simp))) hf
         refine⟨d,?_,h6⟩;simp only[List.map_cons,Instr.fill,h1];rw[if_neg (by simp;omega),N1];exact h5
      ·cases hf
     ·cases hf
theorem OA {fields:Array Field}: ∀ {parts:List (Nat×Operand)} {ps:List (Nat×Nat×Bj)},QZ fields P parts=some ps→
 parts.length=ps.length∧ ∀(i:Nat) (q:Nat×Operand) (r:Nat×Nat×Bj),parts[i]? =some q→ps[i]? =some r→(∃f:Field,fields[q.1]? =some f∧r.1=f.offset∧Dl P f.type=some r.2.1)∧BR q.2=some r.2.2
 | [],ps,h=>by cases h;simp
 | (i, x)::parts,ps,h=>by
   simp only[QZ]at h;split at h
   ·rename_i f o ps' h1 h2 h3
    cases hs:Dl P f.type with
    | none=>rw[hs]at h;cases h
    | some s=>
      rw[hs]at h;cases h;obtain⟨h4,h5⟩:=OA h3;refine⟨by simp[h4],fun j q r hq hr=>?_⟩;cases j with
      | zero=>simp at hq hr;subst hq;subst hr;exact⟨⟨f,h1,rfl,hs⟩,h2⟩
      | succ j=>exact h5 j q r (by simpa using hq) (by simpa using hr)
   ·cases h
theorem L8 {sz:Nat}: ∀ {parts:List (Nat×Operand)} {ps:List (Nat×Nat×Bj)},Mh sz parts=some ps→
 parts.length=ps.length∧ ∀(i:Nat) (q:Nat×Operand) (r:Nat×Nat×Bj),parts[i]? =some q→ps[i]? =some r→(r.1=q.1*sz∧r.2.1=sz)∧BR q.2=some r.2.2
 | [],ps,h=>by cases h;simp
 | (i,x)::parts,ps,h=>by
   simp only[Mh]at h;split at h
   ·rename_i o ps' h2 h3
    cases h;obtain⟨h4,h5⟩:=L8 h3;refine⟨by simp[h4],fun j q r hq hr=>?_⟩;cases j with
    | zero=>simp at hq hr;subst hq;subst hr;exact⟨⟨rfl,rfl⟩,h2⟩
    | succ j=>exact h5 j q r (by simpa using hq) (by simpa using hr)
   ·cases h
theorem L7: ∀ {parts:List (Nat×Operand)} {ps:List (Nat×Bj)},Mg parts=some ps→
 parts.length=ps.length∧ ∀(i:Nat) (q:Nat×Operand) (r:Nat×Bj),parts[i]? =some q→ps[i]? =some r→r.1=q.1∧BR q.2=some r.2
 | [],ps,h=>by cases h;simp
 | (i,x)::parts,ps,h=>by
   simp only[Mg]at h;split at h
   ·rename_i o ps' h2 h3
    cases h;obtain⟨h4,h5⟩:=L7 h3;refine⟨by simp[h4],fun j q r hq hr=>?_⟩;cases j with
    | zero=>simp at hq hr;subst hq;subst hr;exact⟨rfl,h2⟩
    | succ j=>exact h5 j q r (by simpa using hq) (by simpa using hr)
   ·cases h
end Go.Gl
namespace Go.Gl
variable {P:Program} {Λ:Nat→Prop} {σ:AG} {w:World} {k kp:V→AG→Prop}
theorem HQ {f:FuncId} (h:okF P f=true) (args:Array Value) (w:World):(callFunc f args).run P w= .ok (.enter f args) w:=by
 unfold okF at h;split at h
 ·rename_i fn hf
  simp only[BO,bne_iff_ne,ne_eq]at h;have hb:fn.body.isNone=false:=by cases hb:fn.body<;>simp[hb]at h ⊢
  have hn:(fn.name== "runtime.NumGoroutine")=false:=by simpa using h.2
  simp only[callFunc,Sem.run_bind,run_program,Result.andThen_ok,hf,hn,hb,Ls,if_false,Sem.run_pure]
 ·cases h
theorem HJ {H:Nat→Nat→Option Value} {vs us:List V} {cs ds:Array Value} (h:ZH H vs cs) (k:ZH H us ds):ZH H (vs++us) (cs++ds):=by
 refine⟨by simp[h.1,k.1],L3 (A3 h.2 fun i hi=>?_) (A3 k.2 fun i hi=>?_)⟩
 ·simp only[Nat.zero_add]
  rw[Array.getElem?_append_left (by rw[h.1];exact hi)]
 ·simp only[Nat.zero_add]
  rw[Array.getElem?_append_right (by rw[h.1];omega),h.1];simp
theorem IB {H:Nat→Nat→Option Value} {env:Env} {a:Act} (he:CQ H env a.tmps) {xs:Array Operand} {os:List Bj} (ho:Ip xs.toList=some os) {vs:List V} (hv:Rt env os=some vs):ZH H vs (xs.map a.eval):=by
 obtain⟨h1,h2⟩:=W9 he ho hv;exact⟨by simpa using h1,A3 h2 (fun i _=>by simp)⟩
theorem D0 {s:Sem Value} (h:CM Λ σ w k kp (s.run P w)):Good P Λ σ w k kp ((s.run P w).andThen fun c w=> .ok (.value c) w):=by
 have:=As (P:=P) h;simpa only[Sem.run_bind,Sem.run_pure]using this
theorem Nl {f:FuncId} {vs:List V} {cs:Array Value} (G:Rel Λ σ w) (hv:ZH (Hh Λ σ w) vs cs) (h:BQ P f vs σ (qk k kp)):Good P Λ σ w k kp ((callFunc f cs).run P w):=by
 rw[HQ h.1];exact h.2 Λ w cs G hv
theorem La {H:Nat→Nat→Option Value} {env:Env} {a:Act} (he:CQ H env a.tmps) {x:Option Operand} {o:Option Bj} (ho:Xa x=some o) {v:Option V} (hv:GV env o=some v) :
 Zd H v (x.map a.eval):=by
 cases x with
 | none=>
   cases ho;cases hv;trivial
 | some x=>
   simp only[Xa]at ho;cases hq:BR x with
   | none=>rw[hq]at ho;cases ho
   | some q=>
     rw[hq]at ho;cases ho;simp only[GV]at hv;split at hv
     ·rename_i u hu
      cases hv;exact Al he hq hu
     ·cases hv
theorem Ve {env:Env} {a:Act} {c:Call} {ao:EW} (ty:TypeId) (ho:Zg P c=some ao) (h:Ei P ao env σ k kp) (he:CQ (Hh Λ σ w) env a.tmps) (G:Rel Λ σ w) :
 Good P Λ σ w k kp ((do let d←resolve a.eval c ty;invoke d.target d.args:Sem Next).run P w):=by
 obtain⟨callee,args,tys⟩:=c;unfold Zg at ho;split at ho
 ·
  rename_i x t hc ha ht;simp only at hc ha ht;subst hc;obtain rfl:args= #[x]:=by apply Array.ext';simpa using ha
  obtain rfl:tys= #[t]:=by apply Array.ext';simpa using ht
  simp only[resolve,Sem.run_bind,Sem.run_pure,Result.andThen_ok,invoke,builtin,List.map_toArray,List.map_cons,List.map_nil];split at ho
  ·rename_i e hu
   cases hx:BR x with
   | none=>rw[hx]at ho;cases ho
   | some o=>
     rw[hx]at ho;cases ho;obtain⟨v,h1,h2⟩:=Ah h;exact D0 (YP (P:=P) (kp:=kp) ty hu G (Al he hx h1) h2)
  ·rename_i e f hu
   cases hx:BR x with
   | none=>rw[hx]at ho;cases ho
   | some o=>
     rw[hx]at ho;cases ho;obtain⟨v,h1,h2⟩:=Ah h;exact D0 (Vh (P:=P) (kp:=kp) ty hu G (Al he hx h1) h2)
  ·rename_i n e hu
   split at ho
   ·rename_i hn
    cases ho;simp only[Ei,ev,EJ]at h;have hr:(Builtin.len_ #[t] ty #[a.eval x]).run P w= .ok (goInt n) w:=by simp[Builtin.len_,A9 hu]
    exact D0 (s:=Builtin.len_ #[t] ty #[a.eval x]) (k:=k) (kp:=kp) (by rw[hr];exact Ap G h ⟨rfl,by have:=JY .i64;omega,hn⟩)
   ·cases ho
  ·cases ho
 ·
  rename_i x y t u hc ha ht;simp only at hc ha ht;subst hc;obtain rfl:args= #[x,y]:=by apply Array.ext';simpa using ha
  obtain rfl:tys= #[t,u]:=by apply Array.ext';simpa using ht
  split at ho
  ·rename_i e e2 hu1 hu2
   split at ho
   ·rename_i x' y' i hx hy hi
    split at ho
    ·rename_i hcond
     obtain⟨rfl,hb,hz⟩:=hcond;cases ho;obtain⟨vx,h1,h⟩:=Ah h;obtain⟨vy,h2,h⟩:=Ah h;cases hzz:i.zero with
     | none=>rw[hzz]at hz;cases hz
     | some z=>
       rw[hzz]at hz;simp only[ZB,Ha]at hz;simp only[resolve,Sem.run_bind,Sem.run_pure,Result.andThen_ok,invoke,builtin,List.map_toArray,List.map_cons,List.map_nil];exact D0 (Rj (P:=P) (kp:=kp) ty hu1 hi hzz hz hb G (Al he hx h1) (Al he hy h2) h)
    ·cases ho
   ·cases ho
  ·cases ho
 ·
  rename_i x y hc ha;simp only at hc ha;subst hc;obtain rfl:args= #[x,y]:=by apply Array.ext';simpa using ha
  split at ho
  ·rename_i x' y' hx hy
   cases ho;obtain⟨vx,h1,g⟩:=Ah h;clear h;obtain⟨vy,h2,h⟩:=Ah g;clear g;cases vx<;>try exact h.elim
   cases vy<;>try exact h.elim
   rename_i ka p kb q;obtain⟨rfl,h⟩:=h;obtain⟨ex,bx⟩:=Al he hx h1;obtain⟨ey,by'⟩:=Al he hy h2
   have hr:(Builtin.max_ tys ty #[a.eval x,a.eval y]).run P w= .ok (.int ka (if q > p then q else p)) w:=by
    rw[ex,ey];simp[Builtin.max_,Builtin.max2]
   simp only[resolve,Sem.run_bind,Sem.run_pure,Result.andThen_ok,invoke,builtin,List.map_toArray,List.map_cons,List.map_nil];exact D0 (s:=Builtin.max_ tys ty #[a.eval x,a.eval y]) (k:=k) (kp:=kp) (by rw[hr];exact Ap G h ⟨rfl,by split<;>assumption⟩)
  ·cases ho
 ·
  rename_i x y hc ha;simp only at hc ha;subst hc;obtain rfl:args= #[x,y]:=by apply Array.ext';simpa using ha
  split at ho
  ·rename_i x' y' hx hy
   cases ho;obtain⟨vx,h1,g⟩:=Ah h;clear h;obtain⟨vy,h2,h⟩:=Ah g;clear g;cases vx<;>try exact h.elim
   cases vy<;>try exact h.elim
   rename_i ka p kb q;obtain⟨rfl,h⟩:=h;obtain⟨ex,bx⟩:=Al he hx h1;obtain⟨ey,by'⟩:=Al he hy h2
   have hr:(Builtin.min_ tys ty #[a.eval x,a.eval y]).run P w= .ok (.int ka (if q<p then q else p)) w:=by
    rw[ex,ey];simp[Builtin.min_,Builtin.min2]
   simp only[resolve,Sem.run_bind,Sem.run_pure,Result.andThen_ok,invoke,builtin,List.map_toArray,List.map_cons,List.map_nil];exact D0 (s:=Builtin.min_ tys ty #[a.eval x,a.eval y]) (k:=k) (kp:=kp) (by rw[hr];exact Ap G h ⟨rfl,by split<;>assumption⟩)
  ·cases ho
 ·
  rename_i f hc;simp only at hc;subst hc;cases hx:Ip args.toList with
  | none=>simp[hx]at ho
  | some os=>
    simp only[hx,ZB,Ha]at ho;subst ho;obtain⟨vs,h1,h⟩:=HE h;have:=Nl G (IB he hx h1) h;simp only[resolve,Act.eval,Deferred.ofValue,Sem.run_bind,Sem.run_pure,Result.andThen_ok,invoke,Array.append_empty,Array.empty_append];exact this
 ·
  rename_i x _ hc;simp only at hc;subst hc;split at ho
  ·rename_i x' os hx hos
   cases ho;obtain⟨vx,h1,g⟩:=Ah h;clear h;obtain⟨vs,h2,h⟩:=HE g;clear g;cases vx<;>try exact h.elim
   rename_i fn first cap
   cases fn<;>try exact h.elim
   case yield l=>
    have hfc:first= []∧cap= []:=by
     cases first<;>cases cap<;>first|exact⟨rfl,rfl⟩|exact h.elim
    obtain⟨rfl,rfl⟩:=hfc;obtain⟨f',c',e1,e2,e3,e4,e5⟩:=Al he hx h1;obtain⟨f,tmps,assign,body,e6,e7⟩:=h Λ w _ G (IB he hos h2);have e2':f'= #[]:=Array.size_eq_zero_iff.1 e2;have e4':c'= #[]:=Array.size_eq_zero_iff.1 e4;subst e2' e4';simp only[resolve,e1,Deferred.ofValue,Sem.run_bind,Sem.run_pure,Result.andThen_ok,invoke,Array.append_empty,Array.empty_append];rw[e6];exact e7
   rename_i f;simp only[BT]at h;obtain⟨f',c',e1,e2,e3,e4,e5⟩:=Al he hx h1;have:=Nl G (HJ (HJ ⟨e2,e3⟩ (IB he hos h2)) ⟨e4,e5⟩) h;simp only[resolve,e1,Deferred.ofValue,Sem.run_bind,Sem.run_pure,Result.andThen_ok,invoke];exact this
  ·cases ho
 ·cases ho
end Go.Gl
