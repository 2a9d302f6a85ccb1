import Derived.Laws.AppendOwn
import Derived.Laws.Tables
import Derived.Great.BuildSlice
import Derived.Laws.MakeOwn
import Derived.ChangeKeysEq
import Derived.Laws.StructEq
import Derived.Laws.BytesArg
import Derived.Test.YtegbmnmnaijioaaGreatH1
set_option linter.all false
set_option linter.defProp false
noncomputable section
namespace Go.Gl
variable {P:Program} {Λ:Nat→Prop} {σ:AH} {w:World} {k kp:V→AH→Prop}
def TS {n sz j:Nat} (h:j<n*sz):j / sz<n∧j % sz<sz:=by
 have hs:0<sz:=by
  rcases Nat.eq_zero_or_pos sz with h0|h0
  ·subst h0;simp at h
  ·exact h0
 exact⟨(Nat.div_lt_iff_lt_mul hs).2 h,Nat.mod_lt _ hs⟩
def Ji {H:Nat→Nat→Option Value} {g:Nat→Option Value} {sz o:Nat} {es:List (List V)} (h:BM H g sz o es) :
    ∃cs:List Value,cs.length=es.length*sz∧(∀j v,cs[j]? =some v→g (o+j)=some v)∧BM H (fun i=>cs[i]?) sz 0 es:=by
 have hex: ∀j,j<es.length*sz→ ∃c,g (o+j)=some c:=fun j hj=>by
  obtain⟨h1,h2⟩:=TS hj;obtain⟨h3,h4⟩:=BJ.1 h (j / sz) es[j / sz] (EN h1);obtain⟨c,hc,_⟩:=Bm.1 h4 (j % sz) _ (EN (by omega));refine⟨c,?_⟩;rw[←hc];congr 1;have:=Nat.div_add_mod' j sz;omega
 refine⟨(List.range (es.length*sz)).map fun j=>(g (o+j)).getD undef,by simp,fun j v hv=>?_,?_⟩
 ·have hlt:j<es.length*sz:=by simpa using(MK.1 hv).1
  rw[Q8,List.getElem?_range hlt]at hv;obtain⟨c,hc⟩:=hex j hlt;simp[hc]at hv;rw[hc,hv]
 ·rw[BJ]at *
  intro i e he;obtain⟨h1,h2⟩:=h i e he;refine⟨h1,BH h2 (fun q hq=>?_)⟩;have hi:=(MK.1 he).1
  have hlt:0+i*sz+q<es.length*sz:=by
   have:(i+1)*sz≤es.length*sz:=UN _ hi;rw[Nat.succ_mul]at this;omega
  obtain⟨c,hc⟩:=hex _ hlt;rw[Q8,List.getElem?_range hlt];rw[show o+i*sz+q=o+(0+i*sz+q) by omega,hc];simp only[dq,hc,Option.getD_some]
def G4 {H:Nat→Nat→Option Value} {g:Nat→Option Value} {sz o:Nat} {es fs:List (List V)} (h:BM H g sz o es) (k:BM H g sz (o+es.length*sz) fs):BM H g sz o (es++fs):=by
 rw[BJ]at *;intro i e he;rw[List.getElem?_append]at he;split at he
 ·exact h i e he
 ·rename_i hlt
  obtain⟨h1,h2⟩:=k _ e he;refine⟨h1,?_⟩
  have:o+es.length*sz+(i - es.length)*sz=o+i*sz:=by
   rw[Nat.add_assoc,←Nat.add_mul];congr 2;omega
  rw[←this];exact h2
def Eg {H:Nat→Nat→Option Value} {g g':Nat→Option Value} {sz o o':Nat} {es:List (List V)} (h:BM H g sz o es) (hg: ∀j,j<es.length*sz→g' (o'+j)=g (o+j)):BM H g' sz o' es:=by
 rw[BJ]at *;intro i e he;obtain⟨h1,h2⟩:=h i e he;refine⟨h1,BH h2 (fun q hq=>?_)⟩;have hi:=(MK.1 he).1
 have hlt:i*sz+q<es.length*sz:=by
  have:(i+1)*sz≤es.length*sz:=UN _ hi;rw[Nat.succ_mul]at this;omega
 have:=hg _ hlt;rw[Nat.add_assoc,Nat.add_assoc];exact this
def Hk {H:Nat→Nat→Option Value} {g:Nat→Option Value} {sz o:Nat} {es:List (List V)} (h:BM H g sz o es) (n:Nat):BM H g sz o (es.take n):=by
 rw[BJ]at *;intro i e he;rw[List.getElem?_take]at he;split at he
 ·exact h i e he
 ·cases he
def Mz {H:Nat→Nat→Option Value} {g:Nat→Option Value} {sz o:Nat} {es:List (List V)} (h:BM H g sz o es) (n:Nat):BM H g sz (o+n*sz) (es.drop n):=by
 rw[BJ]at *;intro i e he;rw[kN]at he;obtain⟨h1,h2⟩:=h _ e he;refine⟨h1,?_⟩;rw[Nat.add_mul,←Nat.add_assoc]at h2;exact h2
def JH {H:Nat→Nat→Option Value} {g:Nat→Option Value} {sz o:Nat} {es:List (List V)} (h:BM H g sz o es) {e:List V} (he:e∈es):e.length=sz:=by
 obtain⟨i,hi⟩:=List.mem_iff_getElem?.1 he;exact(BJ.1 h i e hi).1
def Kk (G:Rel Λ σ w) {sz:Nat} {vy:V} {cy:Value} (hy:Ai (Hh Λ σ w) vy cy) {K:List (List V)→Prop} (h:rowsOf σ sz vy K) :
    ∃ ys base cap,K ys∧cy= .slice base ys.length cap∧(∀e∈ys,e.length=sz)∧
      (ys= []∨ ∃b o g,base=some ⟨b,o,none⟩∧(∀i c,g i=some c→w.cell? ⟨b,i,none⟩=some c)∧BM (Hh Λ σ w) g sz o ys):=by
 cases vy<;>simp only[rowsOf]at h
 ·rename_i ys full
  obtain⟨hl,h⟩:=h;obtain⟨a,cap,rfl,_,_,_,_,h6⟩:=hy;refine⟨ys,a,cap,h,rfl,hl,?_⟩;by_cases hne:ys= []
  ·exact .inl hne
  ·obtain⟨b,o,s,rfl,h7⟩:=h6 hne
   right;obtain⟨e,r,rfl⟩:=List.exists_cons_of_ne_nil hne;have:s=sz:=by rw[←hl e (by simp)];exact(JH h7 (by simp)).symm
   subst this;exact⟨b,o,_,rfl,fun i c hc=>(GL hc).2.2,h7⟩
 ·rename_i m len cap
  split at h
  ·rename_i s ys c hs
   obtain⟨rfl,hle,h⟩:=h;obtain⟨rfl,_⟩:=hy;obtain⟨c',e,h1,h2,h3,h4,h5⟩:=FA G hs;refine⟨_,_,cap,h,by simp[Nat.min_eq_left hle],fun e he=>JH h5 (List.mem_of_mem_take he),.inr ⟨m,0,_,rfl,fun i c hc=>?_,Hk h5 _⟩⟩;rw[Df h1];exact hc
  ·exact h.elim
 ·rename_i m s off len
  split at h
  ·rename_i s' ys c hs
   obtain⟨rfl,rfl,hle,h⟩:=h;obtain⟨a,cap,rfl,_,h6⟩:=hy;obtain⟨c',e,h1,h2,h3,h4,h5⟩:=FA G hs;refine⟨_,a,cap,h,by simp;omega,fun e he=>JH h5 (List.mem_of_mem_drop (List.mem_of_mem_take he)),?_⟩;by_cases h0:len=0
   ·left;simp[h0]
   ·right
    obtain rfl:=h6 h0;refine⟨m,off*s',_,rfl,fun i c hc=>?_,Hk (by have:=Mz h5 off;simpa using this) _⟩;rw[Df h1];exact hc
  ·exact h.elim
def Kz (t ty e:TypeId) (i:TypeInfo) (ht:P.underlying t=some (.slice e)) (hi:P.info? e=some i) (base:Option Addr) (n cap:Nat) (hn:n≤cap) (b2:Option Addr) (c2:Nat) :
    (Builtin.append_ #[t,t] ty #[.slice base n cap,.slice b2 0 c2]).run P w= .ok (.slice base n cap) w:=by
 cases base<;>cases b2<;>simp[Builtin.append_,run_underlying ht,sizeOf,typeInfo,hi,Builtin.lenOf,hn,Builtin.firstCells,loadCells,loadCellsFrom,storeCells]
def W0 {o:O} {ob:Obj} {n:Nat}:B8 Λ σ w (A5 (del σ n) w.heap.size o) (w.drew.alloc ob) where
 frame m hm _:=RowKit.Below.heap_alloc _ _ _ hm
 size:=by simp
 os:=rfl
 tape:=rfl
 output:=rfl
 names m h0 hm:=by
  rw[Cl _ _ (by omega)];by_cases e:m=n
  ·subst e;exact De _ _
  ·rw[HD _ e];exact h0
def T7 {t e : TypeId} {i:TypeInfo} {z:Value} (ty:TypeId) (ht:P.underlying t=some (.slice e)) (hi:P.info? e=some i) (hz:i.zero=some z) (hzs:z.cells.size=i.size) (hb:i.bytes≤4096)
    (G:Rel Λ σ w) {vx vy:V} {cx cy:Value} (hx:Ai (Hh Λ σ w) vx cx) (hy:Ai (Hh Λ σ w) vy cy) (h:AM i.bytes σ i.size vx vy k) :
    Cj Λ σ w k kp ((Builtin.append_ #[t,t] ty #[cx,cy]).run P w):=by
 have h':=Kk G hy h;clear h;obtain⟨ys,base,c2,⟨hone,h⟩,rfl,hyl,hys⟩:=h'
 have hnews:ys≠[]→ ∃b o,base=some ⟨b,o,none⟩∧ ∃news:List Value,news.length=ys.length*i.size∧(∀j v,news[j]? =some v→w.cell? ((⟨b,o,none⟩:Addr).add j)=some v)∧
  BM (Hh Λ σ w) (fun q=>news[q]?) i.size 0 ys∧ ∀u∈news,u.oneCell'=true:=fun hne=>by
  rcases hys with hys|⟨b,o,g,rfl,hg,hrow⟩
  ·exact absurd hys hne
  ·obtain⟨news,h1,h2,h3⟩:=Ji hrow
   refine⟨b,o,rfl,news,h1,fun j v hv=>by rw[Cy];exact hg _ _ (h2 j v hv),h3,fun u hu=>?_⟩;obtain⟨j,hj⟩:=List.mem_iff_getElem?.1 hu;have hlt:j<ys.length*i.size:=by rw[←h1];exact(MK.1 hj).1
   obtain⟨h4,h5⟩:=TS hlt;obtain⟨h6,h7⟩:=BJ.1 h3 (j / i.size) _ (EN h4);obtain⟨c,hc,hr⟩:=Bm.1 h7 (j % i.size) _ (EN (by omega));have hdm:=Nat.div_add_mod' j i.size;rw[show 0+j / i.size*i.size+j % i.size=j by omega,hj]at hc;cases hc;exact Pa hr (hone _ (List.getElem_mem h4) _ (List.getElem_mem _))
 have grown: ∀(es:List (List V)) (olds news:List Value) (L cap n:Nat),olds.length=es.length*i.size→news.length=ys.length*i.size→BM (Hh Λ σ w) (fun q=>olds[q]?) i.size 0 es→BM (Hh Λ σ w) (fun q=>news[q]?) i.size 0 ys→
  L=es.length+ys.length→L≤Aj→
  (∀n' cap',del σ n n'=none→L≤cap'→k (.sl n' L cap') (A5 (del σ n) n' (.arr i.size (es++ys) cap')))→
  Cj Λ σ w k kp (.ok (.slice (some ⟨w.heap.size,0,none⟩) L (grownCap w L cap e)) (w.drew.alloc (.cells (olds.toArray++news.toArray++Builtin.zeroCells z.cells (grownCap w L cap e - L)) e))):=by
  intro es olds news L cap n ho hn hro hrn hL hLm hk;have hge:=grownCap_ge w L cap e;have ha:B8 Λ σ w (A5 (del σ n) w.heap.size (.arr i.size (es++ys) (grownCap w L cap e))) (w.drew.alloc (.cells (olds.toArray++news.toArray++Builtin.zeroCells z.cells (grownCap w L cap e - L)) e)):=W0
  have hfresh:del σ n w.heap.size=none:=by
   unfold del;split
   ·rfl
   ·exact G.new
  refine⟨_,_,hk w.heap.size _ hfresh hge,⟨rfl,hge⟩,?_,ha⟩;refine G.step ha fun m o' hm=>?_
  by_cases em:m=w.heap.size
  ·subst em
   rw[DQ]at hm;cases hm;refine .inr ⟨fun hl=>absurd (G.lock _ hl) (Nat.lt_irrefl _),_,heap_alloc_new w.drew _,_,e,rfl,?_,by simp;omega,by simp;omega,?_⟩
   ·refine Nat.le_of_eq (Eq.symm ?_)
    simp only[Array.size_append,List.size_toArray,size_zeroCells,hzs,ho,hn,←Nat.add_mul];congr 1;omega
   ·refine G4 (BM.mono ha.hle (fun _ _ e=>e) _ _ _ (Eg hro fun j hj=>?_)) (BM.mono ha.hle (fun _ _ e=>e) _ _ _ (Eg hrn fun j hj=>?_))
    ·simp only[G7]
     rw[Array.getElem?_append_left (by simp[ho,hn];omega),Array.getElem?_append_left (by simp[ho];omega)];simp
    ·simp only[G7]
     rw[Array.getElem?_append_left (by simp[ho,hn];omega),Array.getElem?_append_right (by simp[ho])];simp[ho]
  ·rw[Cl _ _ em]at hm
   have hmn:m≠n:=fun e=>by rw[e,De]at hm;cases hm
   rw[HD _ hmn]at hm;exact .inl ⟨hm,heap_alloc_old w.drew _ _ (G.lt hm)⟩
 by_cases hne:ys= []
 ·subst hne
  have hrun: ∀(n cap:Nat) (b:Option Addr),n≤cap→(Builtin.append_ #[t,t] ty #[.slice b n cap,.slice base ([]:List (List V)).length c2]).run P w= .ok (.slice b n cap) w:=fun n cap b hn=>Kz t ty e i ht hi b n cap hn base c2
  cases vx<;>simp only at h
  ·rename_i es full
   obtain⟨_,_,h,_⟩:=h;have hx':=hx;obtain⟨a,cap,rfl,h2,_⟩:=hx;rw[hrun _ _ _ h2];exact Ay G (h trivial) hx'
  ·rename_i n len cap
   split at h
   ·rename_i s es c hs
    obtain⟨rfl,rfl,rfl,hm,h⟩:=h;have hx':=hx;obtain⟨rfl,h2⟩:=hx;rw[hrun _ _ _ h2];have:=h n c (De _ _) (by simpa using h2);simp only[List.length_nil,Nat.add_zero,KD]at this
    have e:A5 (del σ n) n (.arr i.size es c)=σ:=by
     funext m;unfold A5 del;split
     ·rename_i e;rw[e,hs]
     ·rfl
    rw[e]at this;exact Ay G this hx'
   ·exact h.elim
 ·obtain ⟨b,o,rfl,news,hnl,hnc,hnr,hn1⟩:=hnews hne
  have hpos:0<ys.length:=List.length_pos_iff.2 hne;cases vx<;>simp only at h
  ·rename_i es full
   obtain⟨hel,hm,_,h⟩:=h;obtain⟨rfl,hkk⟩:=h hne;obtain⟨a,cap,rfl,h2,h3,h4,h5,h6⟩:=hx;obtain rfl:=h3 rfl
   have hk': ∀n' cap',del σ w.heap.size n'=none→es.length+ys.length≤cap'→k (.sl n' (es.length+ys.length) cap') (A5 (del σ w.heap.size) n' (.arr i.size (es++ys) cap')):=by
    have hd:del σ w.heap.size=σ:=by
     funext m;unfold del;split
     ·rename_i e;rw[e,G.new]
     ·rfl
    rw[hd];exact hkk
   cases a with
   | none=>
     have h0:es.length=0:=by simpa using h5 rfl
     obtain rfl:es= []:=List.eq_nil_of_length_eq_zero h0;simp only[List.length_nil,G7]at hm hk' ⊢;rw[run_append_nil w t ty e i z ht hi hz ⟨b,o,none⟩ ys.length c2 news hnl hnc hpos (by have:=hm.1;unfold Aj at this;omega) (by have:=hm.2;omega)];have hgo:=grown [] [] news ys.length 0 w.heap.size (by simp) hnl trivial hnr (by simp) hm.1 hk';simpa using hgo
   | some a=>
     have holds: ∃olds:List Value,olds.length=es.length*i.size∧(∀j v,olds[j]? =some v→w.cell? (a.add j)=some v)∧BM (Hh Λ σ w) (fun q=>olds[q]?) i.size 0 es:=by
      by_cases hes:es= []
      ·subst hes;exact⟨[],by simp,by simp,trivial⟩
      ·obtain⟨b',o',s,ha,h7⟩:=h6 hes
       cases ha;obtain⟨e0,r,rfl⟩:=List.exists_cons_of_ne_nil hes;have:s=i.size:=by rw[←hel e0 (by simp)];exact(JH h7 (by simp)).symm
       subst this;obtain⟨olds,h8,h9,h10⟩:=Ji h7;exact⟨olds,h8,fun j v hv=>by rw[Cy];exact(GL (h9 j v hv)).2.2,h10⟩
     obtain⟨olds,h8,h9,h10⟩:=holds;rw[run_append_grow w t ty e i z ht hi hz a es.length es.length olds h8 h9 ⟨b,o,none⟩ ys.length c2 news hnl hnc (by omega) (by have:=hm.1;unfold Aj at this;omega) (growslice_fits (by omega) hm.2)];exact grown es olds news _ _ w.heap.size h8 hnl h10 hnr rfl hm.1 hk'
  ·rename_i n len cap
   split at h
   ·rename_i s es c hs
    obtain⟨rfl,rfl,rfl,hm,h⟩:=h;obtain⟨rfl,h2⟩:=hx;obtain⟨cur,et,h3,h4,h5,h6,h7⟩:=FA G hs;by_cases hroom:es.length+ys.length≤c
    ·
     have hmul:(es.length+ys.length)*i.size≤c*i.size:=UN _ hroom;rw[Nat.add_mul]at hmul;have hcell:et=et:=rfl;have hrunF:=run_firstCells_some (P:=P) w i.size ys.length ⟨b,o,none⟩ ys.length c2 news hnl hnc;have hst:=Cz (P:=P) news w cur (es.length*i.size) 0 h3 (by omega) hn1;simp only[Nat.add_zero]at hst
     have hrun:(Builtin.append_ #[t,t] ty #[.slice (some ⟨n,0,none⟩) es.length c,.slice (some ⟨b,o,none⟩) ys.length c2]).run P w =
      .ok (.slice (some ⟨n,0,none⟩) (es.length+ys.length) c) (Cb w n (.cells (DF cur (es.length*i.size) news) et (0,0))):=by
      simp[Builtin.append_,run_underlying ht,sizeOf,typeInfo,hi,Builtin.lenOf,hroom,hrunF,Cy,hst]
     rw[hrun];have hk:=h n c (De _ _) hroom
     have eu:A5 (del σ n) n (.arr i.size (es++ys) c)=A5 σ n (.arr i.size (es++ys) c):=by
      funext m;unfold A5 del;split
      ·rfl
      ·rfl
     rw[eu]at hk;refine⟨_,_,hk,⟨rfl,hroom⟩,JV G hs ⟨_,et,rfl,by rw[D8];exact h4,by simp;omega,by simp;omega,?_⟩,G3 hs _ _⟩;refine G4 (Eg h7 fun j hj=>?_) (Eg hnr fun j hj=>?_)
     ·exact DW _ _ _ _ (by omega)
     ·simp only[G7]
      exact GQ _ _ _ _ (by omega) (by omega)
    ·obtain⟨olds,h8,h9,h10⟩:=Ji h7
     rw[run_append_grow w t ty e i z ht hi hz ⟨n,0,none⟩ es.length c olds h8 (fun j v hv=>by rw[Cy,Df h3];simpa using h9 j v hv) ⟨b,o,none⟩ ys.length c2 news hnl hnc (by omega) (by have:=hm.1;unfold Aj at this;omega)
      (growslice_fits (by omega) hm.2)]
     exact grown es olds news _ _ n h8 hnl h10 hnr rfl hm.1 h
   ·exact h.elim
end Go.Gl
namespace Go.Gl
variable {P:Program} {Λ:Nat→Prop} {σ:AH} {w:World} {k kp:V→AH→Prop}
def YX (G:Rel Λ σ w) {n sz cap:Nat} {es:List (List V)} (hs:σ n=some (.arr sz es cap)):BM (Hh Λ (del σ n) w) (Hh Λ (del σ n) w n) sz 0 es∧es.length≤cap∧es.length≤Aj:=by
 obtain⟨c,e,h1,h2,h3,h4,h5⟩:=FA G hs;refine⟨BM.mono (FD fun m hm=>(GG σ n).none hm) (fun i v hv=>?_) _ _ _ h5,h3,h4⟩;rw[Nb (G.own n _ hs).1 (De σ n),Df h1];exact hv
def cK (G:Rel Λ σ w) {n sz cap:Nat} {es:List (List V)} (hs:σ n=some (.arr sz es cap)):Rel Λ (A5 σ n (.arr sz es es.length)) w∧B8 Λ σ w (A5 σ n (.arr sz es es.length)) w:=by
 have hh:Hh Λ (A5 σ n (.arr sz es es.length)) w=Hh Λ σ w:=by
  funext b o
  have e:(A5 σ n (.arr sz es es.length) b).isSome=(σ b).isSome:=by
   by_cases e:b=n
   ·rw[e,DQ,hs];rfl
   ·rw[Cl _ _ e]
  unfold Hh;by_cases hl:Λ b∨(σ b).isSome=true
  ·rw[if_pos hl,if_pos (by rw[e];exact hl)]
  ·rw[if_neg hl,if_neg (by rw[e];exact hl)]
 refine⟨⟨fun m o ho=>?_,G.lock⟩,⟨fun _ _ _=>rfl,Ht _,rfl,rfl,rfl,fun m hm _=>?_⟩⟩
 ·rw[hh]
  by_cases e:m=n
  ·subst e
   rw[DQ]at ho;cases ho;obtain⟨h1,ob,h2,c,ce,h3,h4,h5,h6,h7⟩:=G.own m _ hs;exact⟨h1,ob,h2,c,ce,h3,Nat.le_trans (UN _ h5) h4,Ht _,h6,h7⟩
  ·rw[Cl _ _ e]at ho
   exact G.own m o ho
 ·have e:m≠n:=fun e=>by rw[e,hs]at hm;cases hm
  rw[Cl _ _ e];exact hm
def ed (H:Nat→Nat→Option Value) (v:Option V) (c:Option Value):Prop:=match v,c with|none,none=>True|some v,some c=>Ai H v c|_,_=>False
def BRel (o:Option V) (c:Option Value):Prop:=
 match o,c with
 | none,none=>True
 | some v,some c=> ∃ki n,v= .i ki n∧c= .int ki n
 | _,_=>False
def Mn {o:Option V} {c:Option Value} {H:Nat→Nat→Option Value} {d:Int} {K:Int→Prop} (hr:ed H o c) (h:Ql o d K) :
    BRel o c∧ ∃n,K n∧((o=none∧n=d)∨ ∃ki,c=some (.int ki n)):=by
 cases o with
 | none=>
   cases c with
   | none=>exact⟨trivial,d,h,.inl ⟨rfl,rfl⟩⟩
   | some c=>exact hr.elim
 | some v=>
   cases c with
   | none=>exact hr.elim
   | some c=>
     cases v<;>simp only[Ql]at h
     rename_i ki n;obtain⟨rfl,_⟩:=hr;exact⟨⟨ki,n,rfl,rfl⟩,n,h,.inr ⟨ki,rfl⟩⟩
def N8 {len cap:Nat} {lo hi mx:Option Value} {l h m:Int} (hl:(lo=none∧l=0)∨ ∃ki,lo=some (.int ki l)) (hh:(hi=none∧h=len)∨ ∃ki,hi=some (.int ki h))
    (hm:(mx=none∧m=cap)∨ ∃ki,mx=some (.int ki m)) (hmh:mx.isSome=true→hi.isSome=true) (h0:0≤l) (h1:l≤h) (h2:h≤m) (h3:m≤cap) :
    (Instr.sliceBounds true len cap lo hi mx).run P w= .ok (l.toNat,h.toNat,m.toNat) w:=by
 have eh:(h.toNat:Int)=h:=Int.toNat_of_nonneg (by omega);have em:(m.toNat:Int)=m:=Int.toNat_of_nonneg (by omega);have bl: ∀ki code,(Instr.sliceBound (.int ki l) h.toNat code).run P w= .ok l.toNat w:=fun ki code=>run_sliceBound w ki l _ code h0 (by omega)
 have bh: ∀ki code,(Instr.sliceBound (.int ki h) m.toNat code).run P w= .ok h.toNat w:=fun ki code=>run_sliceBound w ki h _ code (by omega) (by omega)
 have bm: ∀ki code,(Instr.sliceBound (.int ki m) cap code).run P w= .ok m.toNat w:=fun ki code=>run_sliceBound w ki m _ code (by omega) (by omega)
 unfold Instr.sliceBounds;rcases hm with⟨rfl,rfl⟩|⟨km,rfl⟩
 ·simp only[MH]at bh
  rcases hh with⟨rfl,rfl⟩|⟨kh,rfl⟩
  ·simp only[MH]at bl
   rcases hl with⟨rfl,rfl⟩|⟨kl,rfl⟩
   ·simp
   ·simp[bl]
  ·rcases hl with⟨rfl,rfl⟩|⟨kl,rfl⟩
   ·simp[bh]
   ·simp[bh,bl]
 ·rcases hh with⟨rfl,rfl⟩|⟨kh,rfl⟩
  ·simp at hmh
  ·rcases hl with⟨rfl,rfl⟩|⟨kl,rfl⟩
   ·simp[bm,bh]
   ·simp[bm,bh,bl]
def F3 {t e:TypeId} {sz:Nat} (hu:P.underlying t=some (.slice e)) (hs:EP P e=some sz) {a:Option Addr} {len cap:Nat} {lo hi mx:Option Value} {l h m:Int} (hl:(lo=none∧l=0)∨ ∃ki,lo=some (.int ki l)) (hh:(hi=none∧h=len)∨ ∃ki,hi=some (.int ki h))
    (hm:(mx=none∧m=cap)∨ ∃ki,mx=some (.int ki m)) (hmh:mx.isSome=true→hi.isSome=true) (h0:0≤l) (h1:l≤h) (h2:h≤m) (h3:m≤cap) :
    (Instr.sliceAt t (.slice a len cap) lo hi mx).run P w= .ok (.slice (if m.toNat=l.toNat then a else a.map (·.add (l.toNat*sz))) (h.toNat - l.toNat) (m.toNat - l.toNat)) w:=by
 simp only[Instr.sliceAt,DZ,BN hu,Result.andThen,Instr.slice,N8 hl hh hm hmh h0 h1 h2 h3,ER hs,E2]
def Wn {t e : TypeId} {sz:Nat} (hu:P.underlying t=some (.slice e)) (hs:EP P e=some sz) (h0:0<sz)
    (G:Rel Λ σ w) {vx:V} {cx:Value} (hx:Ai (Hh Λ σ w) vx cx) {vl vh vm:Option V} {cl ch cm:Option Value}
    (hl:ed (Hh Λ σ w) vl cl)
    (hh:ed (Hh Λ σ w) vh ch)
    (hm:ed (Hh Λ σ w) vm cm)
    (hmh:cm.isSome=true→ch.isSome=true) (h:AS σ sz vx vl vh vm k):Cj Λ σ w k kp ((Instr.sliceAt t cx cl ch cm).run P w):=by
 have hlo: ∀n,((vl=none∧n=0)∨ ∃ki,cl=some (.int ki n))→(cl=none∧n=0)∨ ∃ki,cl=some (.int ki n):=by
  rintro n (⟨rfl,rfl⟩|h)
  ·cases cl with
   | none=>exact .inl ⟨rfl,rfl⟩
   | some c=>exact hl.elim
  ·exact .inr h
 have hhi: ∀n (d:Int),((vh=none∧n=d)∨ ∃ki,ch=some (.int ki n))→(ch=none∧n=d)∨ ∃ki,ch=some (.int ki n):=by
  rintro n d (⟨rfl,rfl⟩|h)
  ·cases ch with
   | none=>exact .inl ⟨rfl,rfl⟩
   | some c=>exact hh.elim
  ·exact .inr h
 have hno:vm=none→cm=none:=by
  rintro rfl;cases cm with
  | none=>rfl
  | some c=>exact hm.elim
 cases vx<;>simp only[AS]at h
 ·rename_i es full
  obtain⟨hel,h⟩:=h;obtain⟨a,cap,rfl,h2,h3,h4,h5,h6⟩:=hx;replace h:=Mn hh h;obtain⟨_,hi,h,hhi'⟩:=h;replace h:=Mn hl h;obtain⟨_,li,⟨hl0,hlh,hhl,h⟩,hli'⟩:=h;have hlen:((es.take hi.toNat).drop li.toNat).length=hi.toNat - li.toNat:=by simp;omega
  have hrow: ∀cap':Nat,(es.take hi.toNat).drop li.toNat≠[]→cap'≠li.toNat→
   ∃b o s,(if cap'=li.toNat then a else a.map (·.add (li.toNat*sz)))=some ⟨b,o,none⟩∧BM (Hh Λ σ w) (Hh Λ σ w b) s o ((es.take hi.toNat).drop li.toNat):=fun cap' hne hcap=>by
   have hes:es≠[]:=by rintro rfl;simp at hne
   obtain⟨b,o,s,rfl,h7⟩:=h6 hes
   have hss:s=sz:=by
    obtain⟨e0,r,rfl⟩:=List.exists_cons_of_ne_nil hes;rw[←hel e0 (by simp)];exact(JH h7 (by simp)).symm
   subst hss;refine⟨b,o+li.toNat*s,s,?_,Mz (Hk h7 _) _⟩;rw[if_neg hcap];simp[Cy]
  have hne: ∀cap':Nat,hi.toNat≤cap'→(es.take hi.toNat).drop li.toNat≠[]→cap'≠li.toNat:=fun cap' hc hn=>by
   have:=List.length_pos_iff.2 hn;rw[hlen]at this;omega
  cases vm with
  | none=>
    obtain rfl:=hno rfl;rw[F3 (m:=cap) hu hs (hlo _ hli') (hhi _ _ hhi') (.inl ⟨rfl,rfl⟩) (by simp) hl0 hlh (by omega) (Int.le_refl _)];refine Ay G h ?_;simp only[MH];refine⟨_,_,by rw[hlen],by rw[hlen];omega,fun hf=>?_,by rw[hlen];omega,fun ha=>?_,fun hn=>hrow _ hn (hne _ (by omega) hn)⟩
    ·simp at hf
     have:=h3 hf.1;rw[hlen];omega
    ·cases a with
     | none=>have:=h5 rfl;omega
     | some a=>split at ha<;>simp at ha
  | some v=>
    cases v<;>simp only at h
    rename_i km mi;obtain⟨rfl,h⟩:=h;cases cm with
    | none=>exact hm.elim
    | some c=>
      obtain⟨rfl,_⟩:=hm;rw[F3 (m:=mi) hu hs (hlo _ hli') (hhi _ _ hhi') (.inr ⟨_,rfl⟩) hmh hl0 hlh (Int.le_refl _) (by omega)];refine Ay G h ?_;refine⟨_,_,by rw[hlen],by rw[hlen];omega,fun _=>by rw[hlen],by rw[hlen];omega,fun ha=>?_,fun hn=>hrow _ hn (hne _ (Ht _) hn)⟩;cases a with
      | none=>have:=h5 rfl;omega
      | some a=>split at ha<;>simp at ha
 ·rename_i n len cap
  obtain⟨rfl,h2⟩:=hx;replace h:=Mn hh h;obtain⟨_,hi,h,hhi'⟩:=h;replace h:=Mn hl h;obtain⟨_,li,⟨hl0,hlh,hhl,h⟩,hli'⟩:=h;cases vm with
  | none=>
    obtain rfl:=hno rfl;rw[F3 (m:=cap) hu hs (hlo _ hli') (hhi _ _ hhi') (.inl ⟨rfl,rfl⟩) (by simp) hl0 hlh (by omega) (Int.le_refl _)];refine Ay G h ⟨_,_,by congr 1;omega,by omega,fun hn=>?_⟩;rw[if_neg (by omega)];simp[Cy]
  | some v=>
    cases v<;>simp only at h
    rename_i km mi;obtain⟨rfl,rfl,rfl,h⟩:=h;split at h
    ·rename_i s es c hs'
     obtain⟨rfl,rfl,rfl,h⟩:=h;cases cm with
     | none=>exact hm.elim
     | some c=>
       obtain⟨rfl,_⟩:=hm;rw[F3 (m:=(es.length:Int)) hu hs (hlo _ hli') (hhi _ _ hhi') (.inr ⟨_,rfl⟩) hmh hl0 hlh (Int.le_refl _) (by omega)];rcases h with h|h
       ·obtain⟨h7,h8,h9⟩:=YX G hs'
        refine⟨_,_,h,?_,G.drop (GG σ n),B8.drop w (GG σ n)⟩;refine⟨some ⟨n,0,none⟩,es.length,?_,Ht _,fun _=>rfl,h9,fun ha=>by simp at ha,fun hn=>⟨n,0,s,rfl,h7⟩⟩;simp only[MH,Int.toNat_zero,Nat.sub_zero,Nat.zero_mul,dq,Cy,Nat.add_zero,ite_self]
       ·obtain⟨cc,ce,g1,g2,g3,g4,g5⟩:=FA G hs'
        have hle:=cK G hs';refine⟨_,_,h,⟨?_,Ht _⟩,hle.1,hle.2⟩;simp only[MH,Int.toNat_zero,Nat.sub_zero,Nat.zero_mul,dq,Cy,Nat.add_zero,ite_self]
    ·exact h.elim
 ·rename_i n s off len
  obtain⟨a,cap,rfl,h2,h3⟩:=hx;replace h:=Mn hh h;obtain⟨_,hi,h,hhi'⟩:=h;replace h:=Mn hl h;obtain⟨_,li,⟨hl0,hlh,hhl,rfl,rfl,h⟩,hli'⟩:=h;obtain rfl:=hno rfl;rw[F3 (m:=cap) hu hs (hlo _ hli') (hhi _ _ hhi') (.inl ⟨rfl,rfl⟩) (by simp) hl0 hlh (by omega) (Int.le_refl _)];refine Ay G h ⟨_,_,by congr 1;omega,by omega,fun hn=>?_⟩;obtain rfl:=h3 (by omega);rw[if_neg (by omega)];simp[Cy,Nat.add_mul]
def L7 {H:Nat→Nat→Option Value}: ∀ {kvs:List (V×V)} {es:List MapEntry},F0 H kvs es→es.length=kvs.length
 | [],[],_=>rfl
 | (_,_)::r,_::es,h=>by simp only[F0]at h;simp[L7 h.2.2]
 | [],_::_,h=>h.elim
 | _::_,[],h=>h.elim
def mR (G:Rel Λ σ w) {n:Nat} {kvs:List (V×V)} (h:σ n=some (.map kvs)): ∃es clk,w.heap[n]? =some (.map es clk)∧F0 (Hh Λ σ w) kvs es.toList:=by
 obtain⟨_,ob,h2,es,clk,rfl,h4⟩:=G.own n _ h;exact⟨es,clk,h2,h4.1⟩
def IC {n:Nat} (h:n≤Aj):IntKind.i64.min≤(n:Int)∧(n:Int)≤IntKind.i64.max:=by
 unfold Aj at h;simp only[IntKind.min,IntKind.max,IntKind.signed,IntKind.bits,if_true];omega
def cU {t e:TypeId} (ty:TypeId) (hu:P.underlying t=some (.slice e))
    (G:Rel Λ σ w) {vx:V} {cx:Value} (hx:Ai (Hh Λ σ w) vx cx) (h:Az vx fun v=>k v σ):Cj Λ σ w k kp ((Builtin.len_ #[t] ty #[cx]).run P w):=by
 cases vx<;>simp only[Az]at h
 ·rename_i es full
  obtain⟨a,cap,rfl,h2,h3,h4,h5,h6⟩:=hx;have:(Builtin.len_ #[t] ty #[.slice a es.length cap]).run P w= .ok (goInt es.length) w:=by simp[Builtin.len_,BN hu]
  rw[this];exact Ay G h ⟨rfl,IC h4⟩
 ·rename_i n len cap
  obtain⟨rfl,_⟩:=hx;have:(Builtin.len_ #[t] ty #[.slice (some ⟨n,0,none⟩) len cap]).run P w= .ok (goInt len) w:=by simp[Builtin.len_,BN hu]
  rw[this];exact Ay G h.2 ⟨rfl,IC h.1⟩
 ·rename_i n s o len
  obtain⟨a,cap,rfl,_⟩:=hx;have:(Builtin.len_ #[t] ty #[.slice a len cap]).run P w= .ok (goInt len) w:=by simp[Builtin.len_,BN hu]
  rw[this];exact Ay G h.2 ⟨rfl,IC h.1⟩
def YT {t e f:TypeId} (ty:TypeId) (hu:P.underlying t=some (.map e f))
    (G:Rel Λ σ w) {vx:V} {cx:Value} (hx:Ai (Hh Λ σ w) vx cx) (h:J1 σ vx fun v=>k v σ):Cj Λ σ w k kp ((Builtin.len_ #[t] ty #[cx]).run P w):=by
 cases vx<;>simp only[J1]at h
 ·rename_i n
  split at h
  ·rename_i kvs hs
   obtain⟨es,clk,h1,h2⟩:=mR G hs;simp only[Ai]at hx;subst hx;have hl:=L7 h2
   have:(Builtin.len_ #[t] ty #[.map (some n)]).run P w= .ok (goInt kvs.length) w:=by
    simp[Builtin.len_,BN hu,getObj,Sem.run,h1,←hl]
   rw[this];exact Ay G h.2 ⟨rfl,IC h.1⟩
  ·exact h.elim
 ·simp only[Ai]at hx
  subst hx;have:(Builtin.len_ #[t] ty #[.map none]).run P w= .ok (goInt 0) w:=by simp[Builtin.len_,BN hu]
  rw[this];exact Ay G h ⟨rfl,IC (Nat.zero_le _)⟩
end Go.Gl
namespace Go.Gl
variable {P:Program} {Λ:Nat→Prop} {σ:AH} {w:World} {k kp:V→AH→Prop}
def JT (ki:IntKind) (n:Int):ki.min≤ki.wrap n∧ki.wrap n≤ki.max:=by
 have:=WideShapes.wf_wrap ki n;simpa[Lit.wf]using this
def Ks (ki:IntKind):ki.min≤0:=by cases ki<;>decide
def QM (ki:IntKind):0≤ki.max:=by cases ki<;>decide
def lO {ki:IntKind} {a:Int} (b:Int) (h:ki.min≤a∧a≤ki.max):ki.min≤a.tmod b∧a.tmod b≤ki.max:=by
 have h1:=Ks ki;have h2:=QM ki;have h5:(a.tmod b).natAbs≤a.natAbs:=by rw[Int.natAbs_tmod];exact Nat.mod_le _ _
 rcases Int.le_total 0 a with h0|h0
 ·have h3:=Int.tmod_nonneg b h0
  omega
 ·have h4:=Int.tmod_nonneg b (show 0≤ -a by omega)
  rw[Int.neg_tmod]at h4;omega
def nN {ki:IntKind} {a:Int} (n:Nat) (h:ki.min≤a∧a≤ki.max):ki.min≤a.fdiv (2 ^ n)∧a.fdiv (2 ^ n)≤ki.max:=by
 have h1:=Ks ki;have h2:=QM ki;have hp:(0:Int)<2 ^ n:=Int.pow_pos (by omega);rw[Int.fdiv_eq_ediv_of_nonneg _ (by omega)];constructor
 ·rw[Int.le_ediv_iff_mul_le hp]
  have:ki.min*2 ^ n≤ki.min*1:=Int.mul_le_mul_of_nonpos_left h1 (by omega);omega
 ·have:a / 2 ^ n<ki.max+1:=by
   rw[Int.ediv_lt_iff_lt_mul hp];have:(ki.max+1)*1≤(ki.max+1)*2 ^ n:=Int.mul_le_mul_of_nonneg_left (by omega) (by omega);omega
  omega
def cb {t : TypeId} (op:BinOp) (x y:Operand) (G:Rel Λ σ w) {vx vy:V} {cx cy:Value} (hx:Ai (Hh Λ σ w) vx cx) (hy:Ai (Hh Λ σ w) vy cy) (h:Uc op vx vy fun v=>k v σ) :
    Cj Λ σ w k kp ((do eqGuard op t x y cx cy;binOp op t cx cy:Sem Value).run P w):=by
 cases vx<;>simp only[Uc]at h
 cases vy<;>simp only at h
 rename_i ka a kb b;obtain⟨rfl,ha⟩:=hx;obtain⟨rfl,hb⟩:=hy
 have hg:(eqGuard op t x y (.int ka a) (.int kb b)).run P w= .ok () w:=by
  unfold eqGuard;cases op<;>rfl
 simp only[DZ,hg,Result.andThen]
 cases op<;>simp only at h<;>first
  | (obtain ⟨rfl,h⟩:=h
     first
      | (obtain⟨hb0,h⟩:=h
         simp only[binOp,Op.intDiv,hb0,if_false,ne_eq,not_true_eq_false]
         first
          | exact Ay G h ⟨rfl,JT _ _⟩
          | exact Ay G h ⟨rfl,lO _ ha⟩)
      | (simp only[binOp,Op.intArith,Op.intCmp,Op.intBits,ne_eq,not_true_eq_false,if_false]
         first
          | exact Ay G h rfl
          | exact Ay G h ⟨rfl,JT _ _⟩))
  | (obtain⟨h0,h⟩:=h
     have hn: ¬b<0:=by omega
     simp only[binOp,Op.shift,hn,if_false]
     first
      | exact Ay G h ⟨rfl,JT _ _⟩
      | exact Ay G h ⟨rfl,nN _ ha⟩)
def T8 {t:TypeId} (hu:P.underlying t=some .bool) (d:Nat) (p q:Bool):(Op.equalIn (d+1) t (.bool p) (.bool q)).run P w= .ok (p==q) w:=by
 simp only[Op.equalIn,DZ,BN hu,Result.andThen,E2]
def R5 {t:TypeId} (hu:P.underlying t=some .bool) (op:BinOp) (hop:op= .eql∨op= .neq) (x y:Operand) (G:Rel Λ σ w) {p q:Bool} (h:k (.b (bif (match op with| .neq=>true|_=>false)then p != q else p==q)) σ) :
    Cj Λ σ w k kp ((do eqGuard op t x y (.bool p) (.bool q);binOp op t (.bool p) (.bool q):Sem Value).run P w):=by
 have hg:(eqGuard op t x y (.bool p) (.bool q)).run P w= .ok () w:=by
  unfold eqGuard;rcases hop with rfl|rfl<;>rfl
 simp only[DZ,hg,Result.andThen]
 have he:(Op.equal t (.bool p) (.bool q)).run P w= .ok (p==q) w:=by
  exact T8 hu 9999 p q
 rcases hop with rfl|rfl
 ·simp only[binOp,DZ,he,Result.andThen,E2]
  exact Ay G h rfl
 ·simp only[binOp,DZ,he,Result.andThen,E2]
  exact Ay G h (by simp only[Ai,cond_true];cases p<;>cases q<;>rfl)
def R7 (off:Nat): ∀(l:List Value) (j:Nat) (c:Array Value),(l.zipIdx j).foldl (fun cs (x:Value×Nat)=>cs.setIfInBounds (off+x.2) x.1) c=DF c (off+j) l
 | [],_,_=>rfl
 | v::l,j,c=>by
   simp only[List.zipIdx_cons,List.foldl_cons,DF];rw[R7 off l (j+1),show off+(j+1)=off+j+1 by omega]
def Pv (off:Nat) (d c:Array Value):d.zipIdx.foldl (fun cs (x:Value×Nat)=>cs.setIfInBounds (off+x.2) x.1) c=DF c off d.toList:=by
 rw[←Array.foldl_toList,Array.toList_zipIdx];exact R7 off d.toList 0 c
def Pk {H : Nat→Nat→Option Value} {env:Env} {a:Act} (he:CT H env a.tmps) {place:Nat→Option (Nat×Nat)}: ∀ {parts:List (Nat×Operand)} {ps:List (Nat×Nat×Bt)},
    (List.length parts=ps.length∧ ∀(i:Nat) (q:Nat×Operand) (r:Nat×Nat×Bt),parts[i]? =some q→ps[i]? =some r→place q.1=some (r.1,r.2.1)∧BX q.2=some r.2.2)→
    ∀ {c:Array Value} {vs us:List V},c.size=vs.length→Bb H (fun i=>c[i]?) 0 vs→J6 env vs ps=some us→
    ∃d,Instr.fill place c (parts.map fun(i,x)=>(i,a.eval x))=some d∧d.size=us.length∧Bb H (fun i=>d[i]?) 0 us
 | [],ps,hp,c,vs,us,hs,hv,hf=>by
   have:ps= []:=List.eq_nil_of_length_eq_zero hp.1.symm;subst this;cases hf;exact⟨c,rfl,hs,hv⟩
 | (i, x) :: parts,ps,hp,c,vs,us,hs,hv,hf=>by
   cases ps with
   | nil=>simp at hp
   | cons r ps=>
     obtain⟨off,sz,o⟩:=r;obtain⟨h1,h2⟩:=hp.2 0 _ _ rfl rfl;simp only at h1 h2;simp only[J6]at hf;split at hf
     ·rename_i v hev
      split at hf
      ·rename_i vc hc
       cases hq:(Nat.beq vc.length sz&&Nat.ble (off+sz) vs.length)with
       | false=>rw[hq]at hf;simp at hf
       | true=>
         rw[hq]at hf;simp only[cond_true]at hf;simp only[A9,Nat.beq_eq,Nat.ble_eq]at hq;obtain⟨h3,h4⟩:=DC (As he h2 hev) hc
         obtain⟨d,h5,h6⟩:=Pk he (parts:=parts) (ps:=ps) ⟨by simpa using hp.1,fun j q r hq hr=>hp.2 (j+1) q r (by simpa using hq) (by simpa using hr)⟩ (c:=DF c off (a.eval x).cells.toList) (vs:=putAt vs off vc)
          (by rw[D8,FF];exact hs) (Lc hs hv (by simpa using h3) (BH h4 (fun i _=>by simp))) hf
         refine⟨d,?_,h6⟩;simp only[Ct,Instr.fill,h1];rw[if_neg (by simp;omega),Pv];exact h5
      ·cases hf
     ·cases hf
def P9 {fields:Array Field}: ∀ {parts:List (Nat×Operand)} {ps:List (Nat×Nat×Bt)},Sy fields P parts=some ps→
    parts.length=ps.length∧ ∀(i:Nat) (q:Nat×Operand) (r:Nat×Nat×Bt),parts[i]? =some q→ps[i]? =some r→(∃f:Field,fields[q.1]? =some f∧r.1=f.offset∧EP P f.type=some r.2.1)∧BX q.2=some r.2.2
 | [],ps,h=>by cases h;simp
 | (i, x)::parts,ps,h=>by
   simp only[Sy]at h;split at h
   ·rename_i f o ps' h1 h2 h3
    cases hs:EP P f.type with
    | none=>rw[hs]at h;cases h
    | some s=>
      rw[hs]at h;cases h;obtain⟨h4,h5⟩:=P9 h3;refine⟨by simp[h4],fun j q r hq hr=>?_⟩;cases j with
      | zero=>simp at hq hr;subst hq;subst hr;exact⟨⟨f,h1,rfl,hs⟩,h2⟩
      | succ j=>exact h5 j q r (by simpa using hq) (by simpa using hr)
   ·cases h
def Nj {sz:Nat}: ∀ {parts:List (Nat×Operand)} {ps:List (Nat×Nat×Bt)},OJ sz parts=some ps→
    parts.length=ps.length∧ ∀(i:Nat) (q:Nat×Operand) (r:Nat×Nat×Bt),parts[i]? =some q→ps[i]? =some r→(r.1=q.1*sz∧r.2.1=sz)∧BX q.2=some r.2.2
 | [],ps,h=>by cases h;simp
 | (i,x)::parts,ps,h=>by
   simp only[OJ]at h;split at h
   ·rename_i o ps' h2 h3
    cases h;obtain⟨h4,h5⟩:=Nj h3;refine⟨by simp[h4],fun j q r hq hr=>?_⟩;cases j with
    | zero=>simp at hq hr;subst hq;subst hr;exact⟨⟨rfl,rfl⟩,h2⟩
    | succ j=>exact h5 j q r (by simpa using hq) (by simpa using hr)
   ·cases h
def Ni: ∀ {parts:List (Nat×Operand)} {ps:List (Nat×Bt)},OI parts=some ps→
    parts.length=ps.length∧ ∀(i:Nat) (q:Nat×Operand) (r:Nat×Bt),parts[i]? =some q→ps[i]? =some r→r.1=q.1∧BX q.2=some r.2
 | [],ps,h=>by cases h;simp
 | (i,x)::parts,ps,h=>by
   simp only[OI]at h;split at h
   ·rename_i o ps' h2 h3
    cases h;obtain⟨h4,h5⟩:=Ni h3;refine⟨by simp[h4],fun j q r hq hr=>?_⟩;cases j with
    | zero=>simp at hq hr;subst hq;subst hr;exact⟨rfl,h2⟩
    | succ j=>exact h5 j q r (by simpa using hq) (by simpa using hr)
   ·cases h
end Go.Gl
namespace Go.Gl
variable {P:Program} {Λ:Nat→Prop} {σ:AH} {w:World} {k kp:V→AH→Prop}
def IS {f:FuncId} (h:okF P f=true) (args:Array Value) (w:World):(callFunc f args).run P w= .ok (.enter f args) w:=by
 unfold okF at h;split at h
 ·rename_i fn hf
  simp only[A9,bne_iff_ne,ne_eq]at h;have hb:fn.body.isNone=false:=by cases hb:fn.body<;>simp[hb]at h ⊢
  have hn:(fn.name== "runtime.NumGoroutine")=false:=by simpa using h.2
  simp only[callFunc,DZ,run_program,Gr,hf,hn,hb,ML,if_false,E2]
 ·cases h
def IF {H:Nat→Nat→Option Value} {vs us:List V} {cs ds:Array Value} (h:dx H vs cs) (k:dx H us ds):dx H (vs++us) (cs++ds):=by
 refine⟨by simp[h.1,k.1],Nc (BH h.2 fun i hi=>?_) (BH k.2 fun i hi=>?_)⟩
 ·simp only[G7]
  rw[Array.getElem?_append_left (by rw[h.1];exact hi)]
 ·simp only[G7]
  rw[Array.getElem?_append_right (by rw[h.1];omega),h.1];simp
def JX {H:Nat→Nat→Option Value} {env:Env} {a:Act} (he:CT H env a.tmps) {xs:Array Operand} {os:List Bt} (ho:Jx xs.toList=some os) {vs:List V} (hv:UM env os=some vs):dx H vs (xs.map a.eval):=by
 obtain⟨h1,h2⟩:=Z9 he ho hv;exact⟨by simpa using h1,BH h2 (fun i _=>by simp)⟩
def Ei {s:Sem Value} (h:Cj Λ σ w k kp (s.run P w)):Good P Λ σ w k kp ((s.run P w).andThen fun c w=> .ok (.value c) w):=by
 have:=A3 (P:=P) h;simpa only[DZ,E2]using this
def Pe {f:FuncId} {vs:List V} {cs:Array Value} (G:Rel Λ σ w) (hv:dx (Hh Λ σ w) vs cs) (h:A7 P f vs σ (qk k kp)):Good P Λ σ w k kp ((callFunc f cs).run P w):=by
 rw[IS h.1];exact h.2 Λ w cs G hv
def M1 {H:Nat→Nat→Option Value} {env:Env} {a:Act} (he:CT H env a.tmps) {x:Option Operand} {o:Option Bt} (ho:bE x=some o) {v:Option V} (hv:HV env o=some v) :
    ed H v (x.map a.eval):=by
 cases x with
 | none=>
   cases ho;cases hv;trivial
 | some x=>
   simp only[bE]at ho;cases hq:BX x with
   | none=>rw[hq]at ho;cases ho
   | some q=>
     rw[hq]at ho;cases ho;simp only[HV]at hv;split at hv
     ·rename_i u hu
      cases hv;exact As he hq hu
     ·cases hv
def YQ {env : Env} {a:Act} {c:Call} {ao:GA} (ty:TypeId) (ho:ei P c=some ao) (h:Fi P ao env σ k kp) (he:CT (Hh Λ σ w) env a.tmps) (G:Rel Λ σ w) :
    Good P Λ σ w k kp ((do let d←resolve a.eval c ty;invoke d.target d.args:Sem Next).run P w):=by
 obtain⟨callee,args,tys⟩:=c;unfold ei at ho;split at ho
 ·
  rename_i x t hc ha ht;simp only at hc ha ht;subst hc;obtain rfl:args= #[x]:=by apply Array.ext';simpa using ha
  obtain rfl:tys= #[t]:=by apply Array.ext';simpa using ht
  simp only[resolve,DZ,E2,Gr,invoke,builtin,List.map_toArray,Ct,List.map_nil];split at ho
  ·rename_i e hu
   cases hx:BX x with
   | none=>rw[hx]at ho;cases ho
   | some o=>
     rw[hx]at ho;cases ho;obtain⟨v,h1,h2⟩:=Am h;exact Ei (cU (P:=P) (kp:=kp) ty hu G (As he hx h1) h2)
  ·rename_i e f hu
   cases hx:BX x with
   | none=>rw[hx]at ho;cases ho
   | some o=>
     rw[hx]at ho;cases ho;obtain⟨v,h1,h2⟩:=Am h;exact Ei (YT (P:=P) (kp:=kp) ty hu G (As he hx h1) h2)
  ·rename_i n e hu
   split at ho
   ·rename_i hn
    cases ho;simp only[Fi,ev,E8]at h;have hr:(Builtin.len_ #[t] ty #[a.eval x]).run P w= .ok (goInt n) w:=by simp[Builtin.len_,BN hu]
    exact Ei (s:=Builtin.len_ #[t] ty #[a.eval x]) (k:=k) (kp:=kp) (by rw[hr];exact Ay G h ⟨rfl,by have:=Ks .i64;omega,hn⟩)
   ·cases ho
  ·cases ho
 ·
  rename_i x y t u hc ha ht;simp only at hc ha ht;subst hc;obtain rfl:args= #[x,y]:=by apply Array.ext';simpa using ha
  obtain rfl:tys= #[t,u]:=by apply Array.ext';simpa using ht
  split at ho
  ·rename_i e e2 hu1 hu2
   split at ho
   ·rename_i x' y' i hx hy hi
    split at ho
    ·rename_i hcond
     obtain⟨rfl,hb,hz⟩:=hcond;cases ho;obtain⟨vx,h1,h⟩:=Am h;obtain⟨vy,h2,h⟩:=Am h;cases hzz:i.zero with
     | none=>rw[hzz]at hz;cases hz
     | some z=>
       rw[hzz]at hz;simp only[dq,IU]at hz;simp only[resolve,DZ,E2,Gr,invoke,builtin,List.map_toArray,Ct,List.map_nil];exact Ei (T7 (P:=P) (kp:=kp) ty hu1 hi hzz hz hb G (As he hx h1) (As he hy h2) h)
    ·cases ho
   ·cases ho
  ·cases ho
 ·
  rename_i x y hc ha;simp only at hc ha;subst hc;obtain rfl:args= #[x,y]:=by apply Array.ext';simpa using ha
  split at ho
  ·rename_i x' y' hx hy
   cases ho;obtain⟨vx,h1,g⟩:=Am h;clear h;obtain⟨vy,h2,h⟩:=Am g;clear g;cases vx<;>try exact h.elim
   cases vy<;>try exact h.elim
   rename_i ka p kb q;obtain⟨rfl,h⟩:=h;obtain⟨ex,bx⟩:=As he hx h1;obtain⟨ey,by'⟩:=As he hy h2
   have hr:(Builtin.max_ tys ty #[a.eval x,a.eval y]).run P w= .ok (.int ka (if q > p then q else p)) w:=by
    rw[ex,ey];simp[Builtin.max_,Builtin.max2]
   simp only[resolve,DZ,E2,Gr,invoke,builtin,List.map_toArray,Ct,List.map_nil];exact Ei (s:=Builtin.max_ tys ty #[a.eval x,a.eval y]) (k:=k) (kp:=kp) (by rw[hr];exact Ay G h ⟨rfl,by split<;>assumption⟩)
  ·cases ho
 ·
  rename_i x y hc ha;simp only at hc ha;subst hc;obtain rfl:args= #[x,y]:=by apply Array.ext';simpa using ha
  split at ho
  ·rename_i x' y' hx hy
   cases ho;obtain⟨vx,h1,g⟩:=Am h;clear h;obtain⟨vy,h2,h⟩:=Am g;clear g;cases vx<;>try exact h.elim
   cases vy<;>try exact h.elim
   rename_i ka p kb q;obtain⟨rfl,h⟩:=h;obtain⟨ex,bx⟩:=As he hx h1;obtain⟨ey,by'⟩:=As he hy h2
   have hr:(Builtin.min_ tys ty #[a.eval x,a.eval y]).run P w= .ok (.int ka (if q<p then q else p)) w:=by
    rw[ex,ey];simp[Builtin.min_,Builtin.min2]
   simp only[resolve,DZ,E2,Gr,invoke,builtin,List.map_toArray,Ct,List.map_nil];exact Ei (s:=Builtin.min_ tys ty #[a.eval x,a.eval y]) (k:=k) (kp:=kp) (by rw[hr];exact Ay G h ⟨rfl,by split<;>assumption⟩)
  ·cases ho
 ·
  rename_i f hc;simp only at hc;subst hc;cases hx:Jx args.toList with
  | none=>simp[hx]at ho
  | some os=>
    simp only[hx,dq,IU]at ho;subst ho;obtain⟨vs,h1,h⟩:=H8 h;have:=Pe G (JX he hx h1) h;simp only[resolve,Act.eval,Deferred.ofValue,DZ,E2,Gr,invoke,Array.append_empty,Array.empty_append];exact this
 ·
  rename_i x _ hc;simp only at hc;subst hc;split at ho
  ·rename_i x' os hx hos
   cases ho;obtain⟨vx,h1,g⟩:=Am h;clear h;obtain⟨vs,h2,h⟩:=H8 g;clear g;cases vx<;>try exact h.elim
   rename_i fn first cap
   cases fn<;>try exact h.elim
   case yield l=>
    have hfc:first= []∧cap= []:=by
     cases first<;>cases cap<;>first|exact⟨rfl,rfl⟩|exact h.elim
    obtain⟨rfl,rfl⟩:=hfc;obtain⟨f',c',e1,e2,e3,e4,e5⟩:=As he hx h1;obtain⟨f,tmps,assign,body,e6,e7⟩:=h Λ w _ G (JX he hos h2);have e2':f'= #[]:=Array.size_eq_zero_iff.1 e2;have e4':c'= #[]:=Array.size_eq_zero_iff.1 e4;subst e2' e4';simp only[resolve,e1,Deferred.ofValue,DZ,E2,Gr,invoke,Array.append_empty,Array.empty_append];rw[e6];exact e7
   rename_i f;simp only[Aw]at h;obtain⟨f',c',e1,e2,e3,e4,e5⟩:=As he hx h1;have:=Pe G (IF (IF ⟨e2,e3⟩ (JX he hos h2)) ⟨e4,e5⟩) h;simp only[resolve,e1,Deferred.ofValue,DZ,E2,Gr,invoke];exact this
  ·cases ho
 ·cases ho
end Go.Gl
namespace Go.Gl
variable {P:Program} {Λ:Nat→Prop} {σ:AH} {w:World} {k kp:V→AH→Prop}
def JP {sz:Nat} {z:List V} (hz:z.length=sz) {H:Nat→Nat→Option Value} {c:Array Value} (hc:c.size=sz) (hv:Bb H (fun i=>c[i]?) 0 z) (len:Nat) :
    BM H (fun i=>((Array.range (len*sz)).map (c[· % c.size]!))[i]?) sz 0 (List.replicate len z):=by
 rw[BJ];intro i e he;have hi:i<len:=by have:=(MK.1 he).1;simpa using this
 rw[List.getElem?_replicate,if_pos hi]at he;cases he;refine⟨hz,BH hv (fun q hq=>?_)⟩
 have hlt:0+i*sz+q<len*sz:=by
  have:(i+1)*sz≤len*sz:=UN _ hi;rw[Nat.succ_mul]at this;omega
 rw[Array.getElem?_map,Array.getElem?_range,if_pos hlt];simp only[dq,hc,G7];rw[Nat.add_comm,Nat.add_mul_mod_self_right,Nat.mod_eq_of_lt (by omega)];rw[getElem!_pos c q (by omega)];exact(Array.getElem?_eq_getElem (by omega)).symm
def SD {H : Nat → Nat→Option Value} {env:Env} {a:Act} (he:CT H env a.tmps) {sz:Nat}: ∀ {parts:List (Nat×Operand)} {ps:List (Nat×Bt)},
    (List.length parts=ps.length∧ ∀(i:Nat) (q:Nat×Operand) (r:Nat×Bt),parts[i]? =some q→ps[i]? =some r→r.1=q.1∧BX q.2=some r.2)→
    ∀ {c:Array Value} {es fs:List (List V)},c.size=es.length*sz→BM H (fun i=>c[i]?) sz 0 es→I7 env sz es ps=some fs→
    ∃d,Instr.fill (fun i=>some (i*sz,sz)) c (parts.map fun(i,x)=>(i,a.eval x))=some d∧d.size=fs.length*sz∧BM H (fun i=>d[i]?) sz 0 fs∧fs.length=es.length
 | [],ps,hp,c,es,fs,hs,hv,hf=>by
   have:ps= []:=List.eq_nil_of_length_eq_zero hp.1.symm;subst this;cases hf;exact⟨c,rfl,hs,hv,rfl⟩
 | (i, x) :: parts,ps,hp,c,es,fs,hs,hv,hf=>by
   cases ps with
   | nil=>simp at hp
   | cons r ps =>
     obtain⟨j,o⟩:=r;obtain⟨h1,h2⟩:=hp.2 0 _ _ rfl rfl;simp only at h1 h2;subst h1;simp only[I7]at hf;split at hf
     ·rename_i v hev
      split at hf
      ·rename_i vc hc
       cases hq:(Nat.beq vc.length sz&&Nat.blt j es.length)with
       | false=>rw[hq]at hf;simp at hf
       | true=>
         rw[hq]at hf;simp only[cond_true]at hf;simp only[A9,Nat.beq_eq,Nat.blt_eq]at hq;obtain⟨h3,h4⟩:=DC (As he h2 hev) hc
         have hb:j*sz+sz≤c.size:=by
          rw[hs,←Nat.succ_mul];exact UN _ hq.2
         have hrow:BM H (fun i=>(DF c (j*sz) (a.eval x).cells.toList)[i]?) sz 0 (es.set j vc):=by
          rw[BJ]at hv ⊢;intro q u hu;rw[List.getElem?_set]at hu;split at hu
          ·rename_i ej
           subst ej;rw[if_pos hq.2]at hu;cases hu;refine⟨hq.1,BH h4 (fun p hp=>?_)⟩;simp only[G7];rw[GQ _ _ _ _ (by simp;omega) (by simp;omega)];simp
          ·rename_i ej
           obtain⟨h5,h6⟩:=hv q u hu;refine⟨h5,BH h6 (fun p hp=>?_)⟩;rw[DW];rcases Nat.lt_or_ge q j with hji|hji
           ·left
            have:(q+1)*sz≤j*sz:=UN _ hji;rw[Nat.succ_mul]at this;omega
           ·right
            have:(j+1)*sz≤q*sz:=UN _ (by omega);rw[Nat.succ_mul]at this;simp;omega
         obtain⟨d,h5,h6,h7,h8⟩:=SD he (parts:=parts) (ps:=ps) ⟨by simpa using hp.1,fun j q r hq hr=>hp.2 (j+1) q r (by simpa using hq) (by simpa using hr)⟩ (c:=DF c (j*sz) (a.eval x).cells.toList) (es:=es.set j vc)
          (by rw[D8];simpa using hs) hrow hf
         refine⟨d,?_,h6,h7,by simpa using h8⟩;simp only[Ct,Instr.fill];rw[if_neg (by simp;omega),Pv];exact h5
      ·cases hf
     ·cases hf
def RY {t:TypeId} (h:isInt P t=true): ∃ki,P.underlying t=some (.int ki):=by
 unfold isInt at h;split at h
 ·rename_i ki hu;exact⟨ki,hu⟩
 ·cases h
def Pz {t:TypeId} (h:isBool P t=true):P.underlying t=some .bool:=by
 unfold isBool at h;split at h
 ·assumption
 ·cases h
def Ak {α β:Type} {f:α→β} {o:Option α} {b:β} (h:o.map f=some b): ∃a,o=some a∧f a=b:=by
 cases o with
 | none=>cases h
 | some a=>exact⟨a,rfl,by simpa using h⟩
def bn {env : Env} {a:Act} {o:Oper} {ao:GA} (ho:yb P o.op=some ao) (h:Fi P ao env σ k kp) (he:CT (Hh Λ σ w) env a.tmps) (G:Rel Λ σ w) :
    Good P Λ σ w k kp ((execOp a.eval o).run P w):=by
 unfold execOp;cases hop:o.op<;>simp only[hop,yb]at ho<;>try(cases ho;done)
 all_goals dsimp only
 case move x=>
  obtain⟨x',hx,rfl⟩:=Ak ho;obtain⟨v,h1,h2⟩:=Am h;exact⟨v,σ,h2,As he hx h1,G,B8.refl _ _ _⟩
 case assign x=>
  obtain⟨x',hx,rfl⟩:=Ak ho;obtain⟨v,h1,h2⟩:=Am h;exact⟨v,σ,h2,As he hx h1,G,B8.refl _ _ _⟩
 case pick c x y=>
  split at ho
  ·rename_i c' x' y' hc hx hy
   cases ho;obtain⟨vc,h1,g⟩:=Am h;clear h;obtain⟨vx,h2,h⟩:=Am g;clear g;obtain⟨vy,h3,g⟩:=Am h;clear h;cases vc<;>try exact g.elim
   rename_i t;have hct:=As he hc h1;simp only[Ai]at hct;simp only[hct,asBool,DZ,E2,Gr]
   have g':k (bif t then vx else vy) σ:=by
    simp only at g;split at g
    ·cases t<;>exact g
    ·exact g
   cases t
   ·exact⟨vy,σ,g',As he hy h3,G,B8.refl _ _ _⟩
   ·exact⟨vx,σ,g',As he hx h2,G,B8.refl _ _ _⟩
  ·cases ho
 case alloc e=>
  obtain⟨z,hz,rfl⟩:=Ak ho;exact A3 (Wr hz G h)
 case box e x=>
  obtain⟨x',hx,rfl⟩:=Ak ho;obtain⟨v,h1,h2⟩:=Am h;cases hc:cellsOf v with
  | none=>rw[hc]at h2;exact h2.elim
  | some cs=>
    rw[hc]at h2;exact A3 (cZ e G (As he hx h1) hc h2)
 case build t parts=>
  split at ho
  ·rename_i z fields hz hu
   split at ho
   ·rename_i hall
    obtain⟨ps,hps,rfl⟩:=Ak ho;obtain⟨us,h1,h2⟩:=H8 h;obtain⟨v,hz1,hz2⟩:=Gj hz;obtain⟨c,hz3,hz4⟩:=Ef hz1 w;obtain⟨h5,h6⟩:=DC (Gz (H:=Hh Λ σ w) hz4) hz2;obtain⟨h7,h8⟩:=P9 hps
    have hplaces: ∃places,fields.toList.mapM (fun f=>(P.info? f.type).map fun i=>(f.offset,i.size))=some places∧places.length=fields.size∧ ∀(j:Nat) (f:Field) (s:Nat),fields[j]? =some f→EP P f.type=some s→places[j]? =some (f.offset,s):=by
     have hgen: ∀l:List Field,l.all (fun f=>(EP P f.type).isSome)=true→ ∃places,l.mapM (fun f=>(P.info? f.type).map fun i=>(f.offset,i.size))=some places∧places.length=l.length∧
      ∀(j:Nat) (f:Field) (s:Nat),l[j]? =some f→EP P f.type=some s→places[j]? =some (f.offset,s):=by
      intro l
      induction l with
      | nil=>intro _;exact⟨[],by simp,rfl,by simp⟩
      | cons f l ih=>
        intro hl;simp only[SZ,A9]at hl;obtain⟨places,g1,g2,g3⟩:=ih hl.2;obtain⟨s,hs⟩:=Option.isSome_iff_exists.1 hl.1;obtain⟨i,hi,hsz⟩:=L9 hs;refine⟨(f.offset,s)::places,by simp[List.mapM_cons,hi,g1,hsz],by simp[g2],fun j f' s' hj hs'=>?_⟩;cases j with
        | zero=>simp at hj;subst hj;rw[hs]at hs';cases hs';rfl
        | succ j=>exact g3 j f' s' (by simpa using hj) hs'
     obtain⟨places,g1,g2,g3⟩:=hgen fields.toList hall;exact⟨places,g1,by simpa using g2,fun j f s hj hs=>g3 j f s (by simpa using hj) hs⟩
    obtain⟨places,g1,g2,g3⟩:=hplaces
    obtain⟨d,h9,h10,h11⟩:=Pk he (parts:=parts.toList) (ps:=ps) (place:=fun x=>places[x]?) ⟨h7,fun i q r hq hr=>by
     obtain⟨⟨f,e1,e2,e3⟩,e4⟩:=h8 i q r hq hr
     exact⟨by rw[g3 _ f _ e1 e3,e2],e4⟩⟩ h5 h6 h1
    have hrun:(Instr.build t (parts.map fun(i,x)=>(i,a.eval x))).run P w= .ok (.agg d) w:=by
     refine run_build w t _ d ?_;obtain⟨it,c',q1,q2,q3⟩:=WQ hz1
     have hcc:c'=c:=by
      have:(zeroValue t).run P w= .ok c' w:=by simp[zeroValue,typeInfo,q1,q2]
      rw[hz3]at this;cases this;rfl
     subst hcc;simp only[Program.built,q1,hu,q2,g1,Array.toList_map,List.getElem?_toArray];exact h9
    exact A3 (by rw[hrun];exact Ay G h2 ⟨d,rfl,h10,h11⟩)
   ·cases ho
  ·rename_i z len e hz hu
   cases hsz:EP P e with
   | none=>rw[hsz]at ho;cases ho
   | some sz=>
     rw[hsz]at ho;simp only[Option.bind_some]at ho;obtain⟨ps,hps,rfl⟩:=Ak ho;obtain⟨us,h1,h2⟩:=H8 h;obtain⟨v,hz1,hz2⟩:=Gj hz;obtain⟨c,hz3,hz4⟩:=Ef hz1 w;obtain⟨h5,h6⟩:=DC (Gz (H:=Hh Λ σ w) hz4) hz2;obtain⟨h7,h8⟩:=Nj hps
     obtain⟨d,h9,h10,h11⟩:=Pk he (parts:=parts.toList) (ps:=ps) (place:=fun i=>some (i*sz,sz)) ⟨h7,fun i q r hq hr=>by
      obtain⟨⟨e1,e2⟩,e4⟩:=h8 i q r hq hr
      exact⟨by rw[e1,e2],e4⟩⟩ h5 h6 h1
     have hrun:(Instr.build t (parts.map fun(i,x)=>(i,a.eval x))).run P w= .ok (.agg d) w:=by
      unfold Instr.build;simp only[DZ,hz3,Gr,BN hu,ER hsz,Array.toList_map,h9,E2]
     exact A3 (by rw[hrun];exact Ay G h2 ⟨d,rfl,h10,h11⟩)
  ·cases ho
 case buildSlice t len parts=>
  split at ho
  ·rename_i e hu
   split at ho
   ·rename_i z sz hz hsz
    split at ho
    ·rename_i hcond
     obtain⟨hzl,h0,hln,hsmall⟩:=hcond;obtain⟨ps,hps,rfl⟩:=Ak ho;simp only[Fi]at h;rw[hzl]at h;obtain⟨fs,h1,h3⟩:=ZG h
     have h2:len≤Aj:=by
      have:len*1≤len*sz:=Nat.mul_le_mul_left _ (by omega);simp only[Aj];omega
     obtain⟨v,hz1,hz2⟩:=Gj hz;obtain⟨c,hz3,hz4⟩:=Ef hz1 w;obtain⟨h5,h6⟩:=DC (Gz (H:=Hh Λ σ w) hz4) hz2;obtain⟨h7,h8⟩:=Ni hps
     obtain⟨d,h9,h10,h11,h12⟩:=SD he (sz:=sz) (parts:=parts.toList) (ps:=ps) ⟨h7,h8⟩ (c:=(Array.range (len*sz)).map (c.cells[· % c.cells.size]!)) (by simp)
      (JP hzl (by omega) h6 len) h1
     have hfl:fs.length=len:=by simpa using h12
     have hrun:(Instr.buildSlice t len (parts.map fun(i,x)=>(i,a.eval x))).run P w= .ok (.slice (some ⟨w.heap.size,0,none⟩) len len) (w.alloc (.cells d e)):=by
      unfold Instr.buildSlice;have hns: ¬len*sz > 2 ^ 24:=by omega
      simp only[DZ,BN hu,Gr,ER hsz,hns,if_false];have hl0: ¬len*sz=0:=fun h=>by rcases Nat.mul_eq_zero.1 h with h|h<;>omega
      simp only[hl0,if_false,DZ,hz3,Gr,E2,Array.toList_map,h9];rfl
     refine A3 ?_;rw[hrun];have ha:B8 Λ σ w σ (w.alloc (.cells d e)):=IQ w _;refine⟨_,σ,h3,?_,Km G _,ha⟩;refine⟨some ⟨w.heap.size,0,none⟩,len,by rw[hfl],by omega,fun _=>hfl.symm,by omega,by simp,fun _=>⟨w.heap.size,0,sz,rfl,?_⟩⟩;refine BM.mono ha.hle (fun i v hv=>?_) _ _ _ h11;rw[Nb (fun hl=>absurd (G.lock _ hl) (Nat.lt_irrefl _)) G.new,Df (heap_alloc_new w _)];exact hv
    ·cases ho
   ·cases ho
  ·cases ho
 case load t x=>
  split at ho
  ·rename_i agg x' Y hx
   cases ho;obtain⟨v,h1,h2⟩:=Am h;exact A3 (YS Y G (As he hx h1) h2)
  ·cases ho
 case store t ad x=>
  split at ho
  ·rename_i s a' x' hs ha hx
   cases ho;obtain⟨va,h1,g⟩:=Am h;obtain⟨vx,h2,h3⟩:=Am g;obtain⟨σ',w',e1,e2,e3,e4⟩:=Wm hs G (As he ha h1) (As he hx h2) h3;simp only[DZ,e1,Gr,E2];exact⟨σ',e2,e3,e4⟩
  ·cases ho
 case binOp op t x y yt=>
  split at ho
  ·rename_i x' y' hx hy
   unfold wZ at ho;split at ho
   ·cases ho
    obtain⟨vx,h1,g⟩:=Am h;obtain⟨vy,h2,h3⟩:=Am g;exact A3 (cb op x y G (As he hx h1) (As he hy h2) h3)
   ·split at ho
    ·rename_i _ hb
     split at ho
     ·cases ho
      obtain⟨vx,h1,g⟩:=Am h;obtain⟨vy,h2,h3⟩:=Am g;cases vx<;>try exact h3.elim
      cases vy<;>try exact h3.elim
      have ex:=As he hx h1;have ey:=As he hy h2;simp only[Ai]at ex ey;rw[ex,ey];exact A3 (R5 (Pz hb) _ (.inl rfl) x y G h3)
     ·cases ho
      obtain⟨vx,h1,g⟩:=Am h;obtain⟨vy,h2,h3⟩:=Am g;cases vx<;>try exact h3.elim
      cases vy<;>try exact h3.elim
      have ex:=As he hx h1;have ey:=As he hy h2;simp only[Ai]at ex ey;rw[ex,ey];exact A3 (R5 (Pz hb) _ (.inr rfl) x y G h3)
     ·cases ho
    ·cases ho
  ·cases ho
 case unOp op t x=>
  cases op<;>simp only at ho
  case not=>
   obtain⟨x',hx,rfl⟩:=Ak ho;obtain⟨v,h1,h2⟩:=Am h;cases v<;>try exact h2.elim
   have ex:=As he hx h1;simp only[Ai]at ex;rw[ex];exact A3 (s:=Op.unary .not (.bool _)) (Ay G h2 rfl)
  case neg=>
   split at ho
   ·obtain⟨x',hx,rfl⟩:=Ak ho
    obtain⟨v,h1,h2⟩:=Am h;cases v<;>try exact h2.elim
    obtain⟨ex,_⟩:=As he hx h1;rw[ex];exact A3 (s:=Op.unary .neg (.int _ _)) (Ay G h2 ⟨rfl,JT _ _⟩)
   ·cases ho
  case xor=>
   split at ho
   ·obtain⟨x',hx,rfl⟩:=Ak ho
    obtain⟨v,h1,h2⟩:=Am h;cases v<;>try exact h2.elim
    rename_i ka n;obtain⟨ex,_⟩:=As he hx h1;rw[ex];refine A3 (s:=Op.unary .xor (.int ka n)) ?_
    have:(Op.unary .xor (.int ka n)).run P w= .ok (.int ka (bits .xor ka (bif ka.signed then -1 else ka.max) n)) w:=by
     simp only[Op.unary,Op.intBits,E2,bits];cases ka.signed<;>rfl
    rw[this];exact Ay G h2 ⟨rfl,JT _ _⟩
   ·cases ho
  all_goals cases ho
 case convert s d x=>
  split at ho
  ·rename_i k1 k2 hs hd
   obtain⟨x',hx,rfl⟩:=Ak ho;obtain⟨v,h1,h2⟩:=Am h;cases v<;>try exact h2.elim
   rename_i ka n;obtain⟨ex,_⟩:=As he hx h1;rw[ex];refine A3 (s:=convert s d (.int ka n)) ?_
   have:(convert s d (.int ka n)).run P w= .ok (.int k2 (k2.wrap n)) w:=by
    simp only[convert,DZ,BN hs,BN hd,Gr,Conv.intToInt,E2]
   rw[this];exact Ay G h2 ⟨rfl,JT _ _⟩
  ·cases ho
 case makeInterface t x=>
  split at ho
  ·cases ho
  ·rename_i d hd hu
   obtain⟨x',hx,rfl⟩:=Ak ho;obtain⟨v,h1,h2⟩:=Am h;refine A3 ?_
   have:(Instr.makeInterface t (a.eval x)).run P w= .ok (.iface t (a.eval x)) w:=by
    simp only[Instr.makeInterface,DZ,BN hu,Gr];cases d<;>first|rfl|exact absurd hu (hd _)
   rw[this];exact Ay G h2 ⟨_,rfl,As he hx h1⟩
  ·cases ho
 case makeFunc fn first cap=>
  cases fn<;>simp only at ho<;>try(cases ho;done)
  rename_i f;split at ho
  ·rename_i os ps h1 h2
   cases ho;obtain⟨vf,h3,g⟩:=H8 h;obtain⟨vc,h4,h5⟩:=H8 g;have e1:=JX he h1 h3;have e2:=JX he h2 h4;exact⟨_,σ,h5,⟨_,_,rfl,e1.1,e1.2,e2.1,e2.2⟩,G,B8.refl _ _ _⟩
  ·cases ho
 case slice t x lo hi mx=>
  split at ho
  ·rename_i e hu
   split at ho
   ·rename_i s x' l' h' m' hs hx hl hh hm
    split at ho
    ·rename_i hcond
     cases ho;obtain⟨vx,h1,g⟩:=Am h;obtain⟨vl,h2,g2⟩:=TM g;obtain⟨vh,h3,g3⟩:=TM g2;obtain⟨vm,h4,g4⟩:=TM g3;refine A3 (Wn hu hs hcond.1 G (As he hx h1) (M1 he hl h2) (M1 he hh h3) (M1 he hm h4) (fun hms=>?_) g4)
     have:m'.isSome=true:=by
      cases mx with
      | none=>simp at hms
      | some q=>
        simp only[bE]at hm;cases hq:BX q with
        | none=>rw[hq]at hm;cases hm
        | some z=>rw[hq]at hm;cases hm;rfl
     have:=hcond.2 this;cases hi with
     | none=>cases hh;simp at this
     | some q=>rfl
    ·cases ho
   ·cases ho
  ·cases ho
 case fieldAddr s x f=>
  split at ho
  ·rename_i fields hu
   split at ho
   ·rename_i fd hf
    split at ho
    ·rename_i sz hs
     split at ho
     ·cases ho
     ·rename_i h0
      obtain⟨x',hx,rfl⟩:=Ak ho;obtain⟨v,h1,h2⟩:=Am h;exact A3 (Wq hu hf hs h0 G (As he hx h1) h2)
    ·cases ho
   ·cases ho
  ·cases ho
 case field t x f=>
  split at ho
  ·rename_i fields hu
   split at ho
   ·rename_i fd hf
    split at ho
    ·rename_i agg x' Y hx
     cases ho;obtain⟨v,h1,h2⟩:=Am h;cases v<;>try exact h2.elim
     exact A3 (Wp hu hf Y G (As he hx h1) h2)
    ·cases ho
   ·cases ho
  ·cases ho
 case indexAddr t x i=>
  split at ho
  ·rename_i e hu
   split at ho
   ·rename_i s x' i' hs hx hi
    cases ho;obtain⟨vx,h1,g⟩:=Am h;obtain⟨vi,h2,h3⟩:=Am g;exact A3 (MF hu hs G (As he hx h1) (As he hi h2) h3)
   ·cases ho
  ·rename_i n e hu
   split at ho
   ·rename_i s x' i' hs hx hi
    cases ho;obtain⟨vx,h1,g⟩:=Am h;obtain⟨vi,h2,h3⟩:=Am g;exact A3 (MG hu hs G (As he hx h1) (As he hi h2) h3)
   ·cases ho
  ·cases ho
 case index t x i=>
  split at ho
  ·rename_i n e hu
   split at ho
   ·rename_i s ag x' i' hs Y hx hi
    cases ho;obtain⟨vx,h1,g⟩:=Am h;obtain⟨vi,h2,h3⟩:=Am g;exact A3 (Wo hu hs Y G (As he hx h1) (As he hi h2) h3)
   ·cases ho
  ·cases ho
 case extract x i=>
  obtain⟨x',hx,rfl⟩:=Ak ho;obtain⟨v,h1,h2⟩:=Am h;cases v<;>try exact h2.elim
  rename_i vs;simp only at h2;split at h2
  ·rename_i u hu
   obtain⟨c,e1,e2,e3⟩:=As he hx h1;obtain⟨d,hd,hr⟩:=Bm.1 e3 i u hu;simp only[G7]at hd;refine A3 ?_
   have:(Instr.extract (a.eval x) i).run P w= .ok d w:=by
    rw[e1];simp only[Instr.extract,hd,E2]
   rw[this];exact Ay G h2 hr
  ·exact h2.elim
 case nilCheck x=>
  obtain⟨x',hx,rfl⟩:=Ak ho;obtain⟨v,h1,h2⟩:=Am h;have hev:=As he hx h1;cases v<;>try exact h2.elim
  case p n off=>
   have e:=hev;simp only[Ai]at e;simp only[e];exact⟨_,σ,h2,rfl,G,B8.refl _ _ _⟩
  case rp cs=>
   have hev':=hev;obtain⟨b,o',e,_⟩:=hev;simp only[e];rw[e]at hev';exact⟨_,σ,h2,hev',G,B8.refl _ _ _⟩
  case pe n sz i off=>
   have e:=hev;simp only[Ai]at e;simp only[e];exact⟨_,σ,h2,rfl,G,B8.refl _ _ _⟩
  case f fn first cap=>
   cases fn<;>try exact h2.elim
   all_goals
    have hev':=hev;obtain⟨f',c',e,_⟩:=hev;simp only[e];rw[e]at hev';exact⟨_,σ,h2,hev',G,B8.refl _ _ _⟩
 case typeAssert x xt t ok=>
  split at ho
  ·cases ho
  ·rename_i d hd hu
   split at ho
   ·rename_i x' z hx hz
    cases ho;obtain⟨v,h1,h2⟩:=Am h;have hev:=As he hx h1;obtain⟨c,hz3,hz4⟩:=Ef hz w;have hzr:=Gz (H:=Hh Λ σ w) hz4;cases v<;>try exact h2.elim
    case FJ t' u=>
     obtain⟨c',e,hr⟩:=hev;rw[e];refine A3 ?_;by_cases htt:t'=t
     ·have:(Instr.typeAssert (.iface t' c') xt t ok).run P w= .ok (if ok then .tuple #[c',.bool true]else c') w:=by
       unfold Instr.typeAssert;simp only[DZ,BN hu,Gr];cases d<;>first|(simp[htt];done)|exact absurd hu (hd _)
      rw[this];refine Ay G (h2.1 htt) ?_;cases ok
      ·exact hr
      ·exact⟨_,rfl,rfl,⟨c',rfl,hr⟩,⟨_,rfl,rfl⟩,trivial⟩
     ·obtain⟨rfl,h3⟩:=h2.2 htt
      have:(Instr.typeAssert (.iface t' c') xt t true).run P w= .ok (.tuple #[c,.bool false]) w:=by
       unfold Instr.typeAssert;simp only[DZ,BN hu,Gr];cases d<;>first|(simp[htt,hz3];done)|exact absurd hu (hd _)
      rw[this];exact Ay G h3 ⟨_,rfl,rfl,⟨c,rfl,hzr⟩,⟨_,rfl,rfl⟩,trivial⟩
    case Dv=>
     simp only[Ai]at hev;rw[hev];obtain⟨rfl,h3⟩:=h2;refine A3 ?_
     have:(Instr.typeAssert .nilIface xt t true).run P w= .ok (.tuple #[c,.bool false]) w:=by
      unfold Instr.typeAssert;simp only[DZ,BN hu,Gr];cases d<;>first|(simp[hz3];done)|exact absurd hu (hd _)
     rw[this];exact Ay G h3 ⟨_,rfl,rfl,⟨c,rfl,hzr⟩,⟨_,rfl,rfl⟩,trivial⟩
   ·cases ho
  ·cases ho
 case panic x=>
  obtain⟨x',hx,rfl⟩:=Ak ho;obtain⟨v,h1,h2⟩:=Am h;cases v<;>try exact h2.elim
  have hev:=As he hx h1;have hev':=hev;obtain⟨c',e,hr⟩:=hev;rw[e]at hev' ⊢;exact⟨_,σ,h2,hev',G,B8.refl _ _ _⟩
 case call c=>exact YQ o.type ho h he G
end Go.Gl
namespace Go.Gl
variable {P:Program} {Λ:Nat→Prop} {σ:AH} {w:World} {k kp:V→AH→Prop}
def qG (P:Program) (t:TypeId) (y:Operand):Option Nat:=match P.underlying t,y with
 | some (.pointer _),.const (.pointer none)=>some 0
 | some (.slice _),.const (.slice none _ _)=>some 1
 | some (.interface _),.const .nilIface=>some 2
 | some (.map _ _),.const (.map none)=>some 3
 | some (.func _ _ _),.const .nilFunc=>some 4
 | _,_=>none
def Hn (P:Program):Nat→List Field→Bool
 | _,[]=>true
 | j,f::fs=>isInt P f.type&&(decide (f.name≠ "_")&&(Nat.beq f.offset j&&Hn P (j+1) fs))
def yH (P:Program) (neg:Bool) (t:TypeId) (x y:Operand):Option GA:=
 match qG P t y with
 | some q=>(BX x).map (.dj q neg)
 | none=>match P.underlying t with
   | some (.array n e)=>if isInt P e&& !P.eqGuardType P.depth t&&Nat.beq (P.cellsOf e) 1 then match BX x,BX y with|some x,some y=>some (.ke n neg x y)|_,_=>none else none
   | some (.struct fs)=>if Hn P 0 fs.toList&& !P.eqGuardType P.depth t&& !P.stoodInHeld t then match BX x,BX y with|some x,some y=>some (.ke fs.size neg x y)|_,_=>none else none
   | _=>none
def ee (P:Program):Op→Option GA
 | .binOp op t x y _=>match op with
   | .eql=>yH P false t x y
   | .neq=>yH P true t x y
   | _=>none
 | .makeSlice t l c=>match P.underlying t with
   | some (.slice e)=>match Kb (zeroOf P e),P.info? e,BX l,BX c with
     | some z,some i,some l,some c=>if z.length=i.size∧0<i.size∧i.bytes≤4096 then some (.GJ i.size i.bytes z l c)else none
     | _,_,_,_=>none
   | _=>none
 | .index t x i=>match P.underlying t with
   | some .string=>match BX x,BX i with|some x,some i=>some (.UW x i)|_,_=>none
   | _=>none
 | .convert s d x=>match P.underlying s,P.underlying d with
   | some (.slice e),some .string=>match P.underlying e with
     | some (.int .u8)=>(BX x).map .str
     | _=>none
   | _,_=>none
 | .buildSlice t 0 parts=>match P.underlying t with
   | some (.slice e)=>match EP P e,parts.toList with
     | some _,[]=>some (.HH 1 0 [] [])
     | _,_=>none
   | _=>none
 | _=>none
def Q6 {t e:TypeId} {z:List V} {i:TypeInfo} (hu:P.underlying t=some (.slice e)) (hz:Kb (zeroOf P e)=some z) (hi:P.info? e=some i) (hs:z.length=i.size∧0<i.size∧i.bytes≤4096)
    {vl vc:V} {cl cc:Value} (G:Rel Λ σ w) (hl:Ai (Hh Λ σ w) vl cl) (hc:Ai (Hh Λ σ w) vc cc) (h:AL σ i.size z vl vc k):Cj Λ σ w k kp ((Instr.makeSlice t cl cc).run P w):=by
 unfold AL at h;split at h
 ·rename_i kl n kc m
  obtain⟨h0,hnm,hm,hk⟩:=h;obtain⟨rfl,_⟩:=hl;obtain⟨rfl,_⟩:=hc;obtain⟨v,hz1,hz2⟩:=Gj hz;obtain⟨zc,hz3,hz4⟩:=Ef hz1 w;obtain⟨h5,h6⟩:=DC (Gz (H:=Hh Λ σ w) hz4) hz2
  have hiz:i.zero=some zc:=by
   cases hq:i.zero with
   | none=>simp[zeroValue,typeInfo,hi,hq]at hz3
   | some q=>simp[zeroValue,typeInfo,hi,hq]at hz3;rw[hz3]
  have hb:(i.bytes:Int)*m≤281474976710656:=by
   have h1:(i.bytes:Int)*m≤4096*m:=Int.mul_le_mul_of_nonneg_right (by have:=hs.2.2;omega) (by omega);have h2:m≤1073741824:=hm;omega
  rw[run_make w t e i zc hu hi hiz kl kc n m h0 hnm hb (by omega)];have hlen:(List.replicate n.toNat z).length=n.toNat:=by simp
  refine⟨_,_,hk w.heap.size G.new,?_,Hl G ?_,EF _ _⟩
  ·exact⟨rfl,by omega⟩
  ·refine⟨_,_,rfl,by simp[madeCells],by simp only[hlen];omega,by simp only[hlen,Aj]at *;omega,?_⟩
   have hrow:=BJ.1 (JP hs.1 (by omega) h6 m.toNat);refine BJ.2 fun j e hj=>hrow j e ?_
   rw[List.getElem?_replicate]at hj ⊢;split at hj
   ·rw[if_pos (by omega)];exact hj
   ·cases hj
 ·exact h.elim
def bG (op:BinOp):Bool:=match op with| .neq=>true|_=>false
def JN {t:TypeId} (op:BinOp) (hop:op= .eql∨op= .neq) (x y:Operand) {cx cy:Value} (hg:(eqGuard op t x y cx cy).run P w= .ok () w)
    (hb:binOp op t cx cy=if op= .eql then(do pure (.bool (←Op.equal t cx cy)))else(do pure (.bool (!(←Op.equal t cx cy))))) {r:Bool} (he:(Op.equal t cx cy).run P w= .ok r w) (G:Rel Λ σ w)
    (h:k (.b (bif bG op then !r else r)) σ):Cj Λ σ w k kp ((do eqGuard op t x y cx cy;binOp op t cx cy:Sem Value).run P w):=by
 simp only[DZ,hg,Gr];rw[hb];rcases hop with rfl|rfl
 ·simp only[if_true,DZ,he,Gr,E2]
  exact Ay G h rfl
 ·simp only[reduceCtorEq,if_false,DZ,he,Gr,E2]
  exact Ay G h rfl
section nils
variable {t:TypeId} (d:Nat)
def rN {e:TypeId} (hu:P.underlying t=some (.pointer e)):(Op.equalIn (d+1) t (.pointer none) (.pointer none)).run P w= .ok true w:=by simp only[Op.equalIn,DZ,BN hu,Result.andThen,E2];rfl
def rM {e:TypeId} {a:Addr} (hu:P.underlying t=some (.pointer e)):(Op.equalIn (d+1) t (.pointer (some a)) (.pointer none)).run P w= .ok false w:=by simp only[Op.equalIn,DZ,BN hu,Result.andThen,E2]
def rL {e:TypeId} {l c l' c':Nat} (hu:P.underlying t=some (.slice e)):(Op.equalIn (d+1) t (.slice none l c) (.slice none l' c')).run P w= .ok true w:=by simp only[Op.equalIn,DZ,BN hu,Result.andThen,E2];rfl
def fl {e:TypeId} {a:Addr} {l c l' c':Nat} (hu:P.underlying t=some (.slice e)):(Op.equalIn (d+1) t (.slice (some a) l c) (.slice none l' c')).run P w= .ok false w:=by simp only[Op.equalIn,DZ,BN hu,Result.andThen,E2]
def rR {m:Array (String×TypeId)} (hu:P.underlying t=some (.interface m)):(Op.equalIn (d+1) t .nilIface .nilIface).run P w= .ok true w:=by simp only[Op.equalIn,DZ,BN hu,Result.andThen,E2]
def rQ {m:Array (String×TypeId)} {u:TypeId} {v:Value} (hu:P.underlying t=some (.interface m)):(Op.equalIn (d+1) t (.iface u v) .nilIface).run P w= .ok false w:=by simp only[Op.equalIn,DZ,BN hu,Result.andThen,E2]
def rP {a b:TypeId} (hu:P.underlying t=some (.map a b)):(Op.equalIn (d+1) t (.map none) (.map none)).run P w= .ok true w:=by simp only[Op.equalIn,DZ,BN hu,Result.andThen,E2];rfl
def rO {a b:TypeId} {n:Nat} (hu:P.underlying t=some (.map a b)):(Op.equalIn (d+1) t (.map (some n)) (.map none)).run P w= .ok false w:=by simp only[Op.equalIn,DZ,BN hu,Result.andThen,E2]
def rT {a b:Array TypeId} {v:Bool} (hu:P.underlying t=some (.func a b v)):(Op.equalIn (d+1) t .nilFunc .nilFunc).run P w= .ok true w:=by simp only[Op.equalIn,DZ,BN hu,Result.andThen,E2]
def rS {a b:Array TypeId} {v:Bool} {fn:Fn} {f' c':Array Value} (hu:P.underlying t=some (.func a b v)):(Op.equalIn (d+1) t (.func fn f' c') .nilFunc).run P w= .ok false w:=by simp only[Op.equalIn,DZ,BN hu,Result.andThen,E2]
end nils
def cW {t : TypeId} {q:Nat} (op:BinOp) (hop:op= .eql∨op= .neq) (x y:Operand) {cy:Value} (hq:qG P t y=some q) (hy: ∀c,y= .const c→cy=c) (G:Rel Λ σ w) {vx:V} {cx:Value}
    (hx:Ai (Hh Λ σ w) vx cx) (h:Iz q (bG op) vx fun v=>k v σ):Cj Λ σ w k kp ((do eqGuard op t x y cx cy;binOp op t cx cy:Sem Value).run P w):=by
 have fin: ∀ {r:Bool},(eqGuard op t x y cx cy).run P w= .ok () w→(binOp op t cx cy=if op= .eql then(do pure (.bool (←Op.equal t cx cy)))else(do pure (.bool (!(←Op.equal t cx cy)))))→(Op.equalIn 10000 t cx cy).run P w= .ok r w→
  k (.b (bif bG op then !r else r)) σ→Cj Λ σ w k kp ((do eqGuard op t x y cx cy;binOp op t cx cy:Sem Value).run P w):=fun hg hb he hk=>JN op hop x y hg hb he G hk
 unfold qG at hq;split at hq<;>first|(cases hq;done)|skip
 all_goals
  cases hq;have hc:=hy _ rfl;subst hc
 ·rename_i hu
  unfold Iz at h;split at h<;>first|exact h.elim|(rename_i h0;cases h0;done)|skip
  ·simp only[Ai]at hx;subst hx
   refine fin (r:=true) ?_ ?_ (rN 9999 hu) ?_
   ·unfold eqGuard;rcases hop with rfl|rfl<;>rfl
   ·rcases hop with rfl|rfl<;>rfl
   ·rcases hop with rfl|rfl<;>exact h
  all_goals
   first|(obtain⟨b,o,rfl,_⟩:=hx)|(simp only[Ai]at hx;subst hx)
   refine fin (r:=false) ?_ ?_ (rM 9999 hu) ?_
   ·unfold eqGuard;rcases hop with rfl|rfl<;>rfl
   ·rcases hop with rfl|rfl<;>rfl
   ·rcases hop with rfl|rfl<;>exact h
 ·rename_i hu
  unfold Iz at h;split at h<;>first|exact h.elim|(rename_i h0;cases h0;done)|skip
  ·obtain⟨rfl,_⟩:=hx
   refine fin (r:=false) ?_ ?_ (fl 9999 hu) ?_
   ·unfold eqGuard;rcases hop with rfl|rfl<;>rfl
   ·rcases hop with rfl|rfl<;>rfl
   ·rcases hop with rfl|rfl<;>exact h
  ·rename_i es f _
   obtain⟨a,cap,rfl,h1,h2,h3,h4,h5⟩:=hx;cases a with
   | none=>
     refine fin (r:=true) ?_ ?_ (rL 9999 hu) ?_
     ·unfold eqGuard;rcases hop with rfl|rfl<;>rfl
     ·rcases hop with rfl|rfl<;>rfl
     ·have:es= []:=by
       have:=h4 rfl;exact W4.1 (by omega)
      exact h.1 this _
   | some a=>
     refine fin (r:=false) ?_ ?_ (fl 9999 hu) ?_
     ·unfold eqGuard;rcases hop with rfl|rfl<;>rfl
     ·rcases hop with rfl|rfl<;>rfl
     ·by_cases he:es= []
      ·exact h.1 he _
      ·rcases hop with rfl|rfl<;>exact h.2 he
 ·rename_i hu
  unfold Iz at h;split at h<;>first|exact h.elim|(rename_i h0;cases h0;done)|skip
  ·simp only[Ai]at hx;subst hx
   refine fin (r:=true) ?_ ?_ (rR 9999 hu) ?_
   ·unfold eqGuard;rcases hop with rfl|rfl<;>simp
   ·rcases hop with rfl|rfl<;>rfl
   ·rcases hop with rfl|rfl<;>exact h
  ·obtain⟨c',rfl,_⟩:=hx
   refine fin (r:=false) ?_ ?_ (rQ 9999 hu) ?_
   ·unfold eqGuard;rcases hop with rfl|rfl<;>rfl
   ·rcases hop with rfl|rfl<;>rfl
   ·rcases hop with rfl|rfl<;>exact h
 ·rename_i hu
  unfold Iz at h;split at h<;>first|exact h.elim|(rename_i h0;cases h0;done)|skip
  ·simp only[Ai]at hx;subst hx
   refine fin (r:=true) ?_ ?_ (rP 9999 hu) ?_
   ·unfold eqGuard;rcases hop with rfl|rfl<;>rfl
   ·rcases hop with rfl|rfl<;>rfl
   ·rcases hop with rfl|rfl<;>exact h
  ·simp only[Ai]at hx;subst hx
   refine fin (r:=false) ?_ ?_ (rO 9999 hu) ?_
   ·unfold eqGuard;rcases hop with rfl|rfl<;>rfl
   ·rcases hop with rfl|rfl<;>rfl
   ·rcases hop with rfl|rfl<;>exact h
 ·rename_i hu
  unfold Iz at h;split at h<;>first|exact h.elim|(rename_i h0;cases h0;done)|skip
  ·simp only[Ai]at hx;subst hx
   refine fin (r:=true) ?_ ?_ (rT 9999 hu) ?_
   ·unfold eqGuard;rcases hop with rfl|rfl<;>rfl
   ·rcases hop with rfl|rfl<;>rfl
   ·rcases hop with rfl|rfl<;>exact h
  ·obtain⟨f',c',rfl,_⟩:=hx
   refine fin (r:=false) ?_ ?_ (rS 9999 hu) ?_
   ·unfold eqGuard;rcases hop with rfl|rfl<;>rfl
   ·rcases hop with rfl|rfl<;>rfl
   ·rcases hop with rfl|rfl<;>exact h
def Ns {d : Nat} {e:TypeId} {ki:IntKind} (hue:P.underlying e=some (.int ki)) {xs ys:Array Value} {H:Nat→Nat→Option Value}: ∀(cs ds:List V) (j:Nat) (r:Bool),
    Bb H (fun i=>xs[i]?) j cs→Bb H (fun i=>ys[i]?) j ds→B1 cs ds=some r→(Op.eqItems (d+1) e 1 xs ys (List.range' j cs.length)).run P w= .ok r w
 | [],ds,j,r,_,_,h=>by
   cases ds with
   | nil=>simp only[B1,IU]at h;subst h;rfl
   | cons _ _=>simp[B1]at h
 | c ::cs,ds,j,r,hx,hy,h=>by
   cases ds with
   | nil=>cases c<;>simp[B1]at h
   | cons q ds=>
     cases c<;>first|(simp[B1]at h;done)|skip
     cases q<;>first|(simp[B1]at h;done)|skip
     rename_i k a k' b;simp only[B1]at h;split at h
     ·rename_i hk
      subst hk;obtain⟨⟨cx,h1,⟨rfl,_⟩⟩,h2⟩:=hx;obtain⟨⟨cy,h3,⟨rfl,_⟩⟩,h4⟩:=hy;obtain⟨r',h5,h6⟩:=Ak h;have hp:P.plainKey e=true:=by simp[Program.plainKey,hue]
      simp only[K1,List.range'_succ,Op.eqItems,Nat.mul_one,DZ,run_part_plain w hp h1,run_part_plain w hp h3,Gr,run_equalIn_int w d e _ ki a b hue];have ih:=Ns (d:=d) hue cs ds (j+1) r' h2 h4 h5;cases hab:(a==b)
      ·rw[hab]at h6
       simp only[Bool.false_and]at h6;subst h6;simp
      ·rw[hab]at h6
       simp only[EW]at h6;subst h6;simpa using ih
     ·cases h
def cY {t e:TypeId} {n:Nat} (op:BinOp) (hop:op= .eql∨op= .neq) (x y:Operand) (hu:P.underlying t=some (.array n e)) (he:isInt P e=true) (hg:P.eqGuardType P.depth t=false) (h1:P.cellsOf e=1) (G:Rel Λ σ w) {vx vy:V} {cx cy:Value}
    (hx:Ai (Hh Λ σ w) vx cx) (hy:Ai (Hh Λ σ w) vy cy) (h:Sk n (bG op) vx vy fun v=>k v σ):Cj Λ σ w k kp ((do eqGuard op t x y cx cy;binOp op t cx cy:Sem Value).run P w):=by
 unfold Sk at h;split at h
 ·rename_i cs ds
  obtain⟨xs,rfl,h2,h3⟩:=hx;obtain⟨ys,rfl,h4,h5⟩:=hy;split at h
  ·rename_i r hl hr
   have hl:cs.length=n:=UC hl;obtain⟨ki,hki⟩:=RY he;have hi: ∃i,P.info? e=some i:=info_of_underlying hki;obtain⟨i,hi⟩:=hi;refine JN op hop x y (r:=r) (run_eqGuard_agg w op t x y xs ys hg) ?_ ?_ G h
   ·rcases hop with rfl|rfl<;>rfl
   ·show(Op.equalIn (9999+1) t (.agg xs) (.agg ys)).run P w= .ok r w
    rw[run_equalIn_array w 9999 xs ys hu hi,h1,List.range_eq_range',←hl];exact Ns (d:=9998) hki cs ds 0 r h3 h5 hr
  ·exact h.elim
 ·exact h.elim
def MC {d : Nat} {xs ys:Array Value} {H:Nat→Nat→Option Value}: ∀(fs:List Field) (cs ds:List V) (j:Nat) (r:Bool),Hn P j fs=true→cs.length=fs.length→
    Bb H (fun i=>xs[i]?) j cs→Bb H (fun i=>ys[i]?) j ds→B1 cs ds=some r→(Op.eqFields (d+1) xs ys fs).run P w= .ok r w
 | [],cs,ds,j,r,_,hl,_,_,h=>by
   cases cs with
   | cons _ _=>cases hl
   | nil=>
     cases ds with
     | nil=>simp only[B1,IU]at h;subst h;rfl
     | cons _ _=>simp[B1]at h
 | f ::fs,cs,ds,j,r,hf,hl,hx,hy,h=>by
   cases cs with
   | nil=>cases hl
   | cons c cs=>
   cases ds with
   | nil=>cases c<;>simp[B1]at h
   | cons q ds=>
     cases c<;>first|(simp[B1]at h;done)|skip
     cases q<;>first|(simp[B1]at h;done)|skip
     rename_i k a k' b;simp only[B1]at h;split at h
     ·rename_i hk
      subst hk;simp only[Hn,A9,Cf]at hf;obtain⟨f1,f2,f3,f4⟩:=hf;obtain⟨ki,hue⟩:=RY f1;have f3:=UC f3;obtain⟨⟨cx,h1,⟨rfl,_⟩⟩,h2⟩:=hx;obtain⟨⟨cy,h3,⟨rfl,_⟩⟩,h4⟩:=hy;obtain⟨r',h5,h6⟩:=Ak h;have hp:P.plainKey f.type=true:=by simp[Program.plainKey,hue]
      simp only[Op.eqFields];rw[if_pos f2,f3];simp only[DZ,run_part_plain w hp h1,run_part_plain w hp h3,Gr,run_equalIn_int w d f.type _ ki a b hue];have ih:=MC (d:=d) fs cs ds (j+1) r' f4 (by simpa using hl) h2 h4 h5;cases hab:(a==b)
      ·rw[hab]at h6
       simp only[Bool.false_and]at h6;subst h6;simp
      ·rw[hab]at h6
       simp only[EW]at h6;subst h6;simpa using ih
     ·cases h
def cV {t:TypeId} {fs:Array Field} (op:BinOp) (hop:op= .eql∨op= .neq) (x y:Operand) (hu:P.underlying t=some (.struct fs)) (he:Hn P 0 fs.toList=true) (hg:P.eqGuardType P.depth t=false) (h1:P.stoodInHeld t=false) (G:Rel Λ σ w) {vx vy:V} {cx cy:Value}
    (hx:Ai (Hh Λ σ w) vx cx) (hy:Ai (Hh Λ σ w) vy cy) (h:Sk fs.size (bG op) vx vy fun v=>k v σ):Cj Λ σ w k kp ((do eqGuard op t x y cx cy;binOp op t cx cy:Sem Value).run P w):=by
 unfold Sk at h;split at h
 ·rename_i cs ds
  obtain⟨xs,rfl,h2,h3⟩:=hx;obtain⟨ys,rfl,h4,h5⟩:=hy;split at h
  ·rename_i r hl hr
   have hl:cs.length=fs.size:=UC hl;have hfs:P.fieldsOf t=fs:=by simp[Program.fieldsOf,hu]
   refine JN op hop x y (r:=r) (run_eqGuard_agg w op t x y xs ys hg) ?_ ?_ G h
   ·rcases hop with rfl|rfl<;>rfl
   ·show(Op.equalIn (9999+1) t (.agg xs) (.agg ys)).run P w= .ok r w
    rw[run_equalIn_struct w 9999 t xs ys (by rw[hfs];exact hu) h1,hfs];exact MC (d:=9998) fs.toList cs ds 0 r he (by simpa using hl) h3 h5 hr
  ·exact h.elim
 ·exact h.elim
def QB: ∀ {ys:List (List V)} {ns:List Int},FW ys=some ns→ns.length=ys.length∧ ∀(i:Nat) (n:Int),ns[i]? =some n→ys[i]? =some [V.i .u8 n]
 | [],ns,h=>by
   cases h;exact⟨rfl,fun _ _ h=>by simp at h⟩
 | e ::r,ns,h=>by
   unfold FW at h;split at h
   ·cases ‹_= []›
   ·rename_i n r' he
    cases he;split at h
    ·rename_i l hl
     cases h;obtain⟨h1,h2⟩:=QB hl;refine⟨by simp[h1],fun i m hi=>?_⟩;cases i with
     | zero=>simp at hi;subst hi;rfl
     | succ i=>exact h2 i m (by simpa using hi)
    ·cases h
   ·cases h
def cT {s d e:TypeId} (hs:P.underlying s=some (.slice e)) (hd:P.underlying d=some .string) (he:P.underlying e=some (.int .u8)) (G:Rel Λ σ w) {vx:V} {cx:Value} (hx:Ai (Hh Λ σ w) vx cx) (h:eN σ vx fun v=>k v σ) :
    Cj Λ σ w k kp ((convert s d cx).run P w):=by
 obtain⟨ys,base,cap,U,rfl,_,hc⟩:=Kk G hx h;cases hn:FW ys with
 | none=>rw[hn]at U;exact U.elim
 | some ns=>
   rw[hn]at U;obtain⟨h1,h2⟩:=QB hn
   have fin:(convert s d (.slice base ys.length cap)).run P w= .ok (.string ⟨(ns.map fun n=>UInt8.ofNat n.toNat).toArray⟩) w→Cj Λ σ w k kp ((convert s d (.slice base ys.length cap)).run P w):=fun e=>by
    rw[e];exact Ay G U rfl
   have nilB: ∀ {l c:Nat},ys= []→(convert s d (.slice none l c)).run P w= .ok (.string ⟨(ns.map fun n=>UInt8.ofNat n.toNat).toArray⟩) w:=fun e=>by
    subst e;simp only[FW,IU]at hn;subst hn;exact run_convert_bytes_nil w s e hs he _ _ d hd
   have main: ∀ {b o:Nat} {g:Nat→Option Value},base=some ⟨b,o,none⟩→(∀i c,g i=some c→w.cell? ⟨b,i,none⟩=some c)→BM (Hh Λ σ w) g 1 o ys→(convert s d (.slice base ys.length cap)).run P w= .ok (.string ⟨(ns.map fun n=>UInt8.ofNat n.toNat).toArray⟩) w:=fun {b o g} hb hg hr=>by
    subst hb;refine run_convert_bytes_arg w s e hs he b o ys.length cap ns h1 (fun i hi=>?_) d hd;have hi':i<ns.length:=by omega
    have h3:=h2 i ns[i] (EN hi');obtain⟨_,h4⟩:=BJ.1 hr i _ h3;simp only[Bb]at h4;obtain⟨⟨c,h5,h6⟩,_⟩:=h4;obtain⟨rfl,_⟩:=h6;have:=hg _ _ h5;simp only[Nat.mul_one]at this;rw[this];simp[List.getD,EN hi']
   refine fin ?_;rcases hc with hc|⟨b,o,g,hb,hg,hr⟩
   ·cases base with
    | none=>exact nilB hc
    | some a=>
      subst hc;simp only[FW,IU]at hn;subst hn;rw[run_convert_bytes_string w s d e _ _ cap hs he hd];exact run_bytesToString w a 0 cap [] (by unfold loadCells loadCellsFrom;rfl)
   ·exact main hb hg hr
def YR {t:TypeId} (hu:P.underlying t=some .string) (G:Rel Λ σ w) {vx vi:V} {cx ci:Value} (hx:Ai (Hh Λ σ w) vx cx) (hi:Ai (Hh Λ σ w) vi ci) (h:Ox vx vi fun v=>k v σ):Cj Λ σ w k kp ((Instr.index t cx ci).run P w):=by
 unfold Ox at h;split at h
 ·rename_i b ki j
  obtain⟨h0,h⟩:=h;have hx':cx= .string b:=hx;subst hx';obtain⟨rfl,_⟩:=hi;split at h
  ·rename_i c hc
   have hb:b[j.toNat]? =some c:=by
    rw[Array.getElem?_toList]at hc;obtain⟨h1,h2⟩:=pb.1 hc;rw[getElem?_pos b j.toNat h1];exact congrArg some h2
   simp only[Instr.index,DZ,asIntOf,E2,Result.andThen,BN hu,h0,if_true,hb];have:=UInt8.toNat_lt c;exact Ay G h ⟨rfl,by simp only[IntKind.min,IntKind.max,IntKind.signed,IntKind.bits];simp<;>omega⟩
  ·exact h.elim
 ·exact h.elim
def WY {env : Env} {a:Act} {o:Oper} {ao:GA} (ho:ee P o.op=some ao) (h:Fi P ao env σ k kp) (he:CT (Hh Λ σ w) env a.tmps) (G:Rel Λ σ w) :
    Good P Λ σ w k kp ((execOp a.eval o).run P w):=by
 have heq: ∀ {op:BinOp} {t yt:TypeId} {x y:Operand},(op= .eql∨op= .neq)→yH P (bG op) t x y=some ao→o.op= .binOp op t x y yt→Good P Λ σ w k kp ((execOp a.eval o).run P w):=fun {op t yt x y} hop hr hoo=>by
  unfold execOp;rw[hoo];dsimp only;unfold yH at hr;split at hr
  ·rename_i q hq
   obtain⟨x',hx,rfl⟩:=Ak hr;obtain⟨vx,h1,h2⟩:=Am h;exact A3 (cW op hop x y hq (fun c hc=>by rw[hc];rfl) G (As he hx h1) h2)
  ·split at hr
   ·rename_i n e hu
    split at hr
    ·rename_i hc
     simp only[A9,Bool.not_eq_true']at hc;split at hr
     ·rename_i x' y' hx hy
      cases hr;obtain⟨vx,h1,g⟩:=Am h;obtain⟨vy,h2,h3⟩:=Am g;exact A3 (cY op hop x y hu hc.1.1 hc.1.2 (UC hc.2) G (As he hx h1) (As he hy h2) h3)
     ·cases hr
    ·cases hr
   ·rename_i fs hu
    split at hr
    ·rename_i hc
     simp only[A9,Bool.not_eq_true']at hc;split at hr
     ·rename_i x' y' hx hy
      cases hr;obtain⟨vx,h1,g⟩:=Am h;obtain⟨vy,h2,h3⟩:=Am g;exact A3 (cV op hop x y hu hc.1.1 hc.1.2 hc.2 G (As he hx h1) (As he hy h2) h3)
     ·cases hr
    ·cases hr
   ·cases hr
 unfold ee at ho;split at ho
 ·rename_i op t x y yt hop
  split at ho
  ·exact heq (.inl rfl) ho hop
  ·exact heq (.inr rfl) ho hop
  ·cases ho
 ·rename_i t l c hop
  split at ho
  ·rename_i e hu
   split at ho
   ·rename_i z i l' c' hz hi hl hc
    split at ho
    ·rename_i hs
     cases ho;obtain⟨vl,h1,g⟩:=Am h;obtain⟨vc,h2,h3⟩:=Am g;unfold execOp;rw[hop];dsimp only;exact A3 (Q6 hu hz hi hs G (As he hl h1) (As he hc h2) h3)
    ·cases ho
   ·cases ho
  ·cases ho
 ·rename_i t x i hop
  split at ho
  ·rename_i hu
   split at ho
   ·rename_i x' i' hx hi
    cases ho;obtain⟨vx,h1,g⟩:=Am h;obtain⟨vi,h2,h3⟩:=Am g;unfold execOp;rw[hop];exact A3 (YR hu G (As he hx h1) (As he hi h2) h3)
   ·cases ho
  ·cases ho
 ·rename_i s d x hop
  split at ho
  ·rename_i e hs hd
   split at ho
   ·rename_i he8
    obtain⟨x',hx,rfl⟩:=Ak ho;obtain⟨vx,h1,h2⟩:=Am h;unfold execOp;rw[hop];exact A3 (cT hs hd he8 G (As he hx h1) h2)
   ·cases ho
  ·cases ho
 ·rename_i t parts hop
  split at ho
  ·rename_i e hu
   split at ho
   ·rename_i sz hsz hp
    cases ho;simp only[Fi]at h;obtain⟨fs,h1,h3⟩:=ZG h;simp only[I7,List.replicate,IU]at h1;subst h1
    have hps:parts= #[]:=by
     cases parts;simp at hp;rw[hp]
    subst hps;unfold execOp;rw[hop];dsimp only
    have hrun:(Instr.buildSlice t 0 ((#[]:Array (Nat×Operand)).map fun(i,x)=>(i,a.eval x))).run P w= .ok (.slice (some ⟨w.heap.size,0,none⟩) 0 0) (w.alloc (.cells #[] e)):=by
     unfold Instr.buildSlice;have hns: ¬0 > 2 ^ 24:=by omega
     simp only[DZ,BN hu,Gr,ER hsz,Nat.zero_mul,hns,if_false,if_true,E2];have hz: ∀g:Nat→Value,(Array.range 0).map g= #[]:=fun g=>by simp[Array.range]
     rw[hz];simp only[List.map_toArray,List.map_nil,Instr.fill];rfl
    refine A3 ?_;rw[hrun];exact⟨_,σ,h3,⟨_,0,rfl,Ht _,fun _=>rfl,Nat.zero_le _,fun h=>(by cases h),fun h=>absurd rfl h⟩,Km G _,IQ w _⟩
   ·cases ho
  ·cases ho
 ·cases ho
def qB (P:Program) (o:Op):Option GA:=match yb P o with|some a=>some a|none=>ee P o
def YF {env:Env} {a:Act} {o:Oper} {ao:GA} (ho:qB P o.op=some ao) (h:Fi P ao env σ k kp) (he:CT (Hh Λ σ w) env a.tmps) (G:Rel Λ σ w) :
    Good P Λ σ w k kp ((execOp a.eval o).run P w):=by
 unfold qB at ho;split at ho
 ·rename_i h';cases ho;exact bn h' h he G
 ·exact WY ho h he G
end Go.Gl
