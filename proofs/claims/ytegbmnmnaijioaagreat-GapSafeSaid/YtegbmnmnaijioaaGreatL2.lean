import Derived.Laws.AppendOwn
import Derived.Laws.Tables
import Derived.Great.BuildSlice
import Derived.Laws.MakeOwn
import Derived.ChangeKeysEq
import Derived.Laws.StructEq
import Derived.Laws.BytesArg
import Derived.Test.YtegbmnmnaijioaaGreatL1
set_option linter.all false
set_option linter.defProp false
noncomputable section
namespace Go.Gl
variable {P:Program} {Λ:Nat->Prop} {σ:AH} {w:World} {k kp:V->AH->Prop}
def S0 {n sz j:Nat} (h:j<n*sz):j / sz<n/\j % sz<sz:=by
 have hs:0<sz:=by
  rcases Nat.eq_zero_or_pos sz with h0|h0
  .subst h0;simp at h
  .exact h0
 exact⟨(Nat.div_lt_iff_lt_mul hs).2 h,Nat.mod_lt _ hs⟩
def JI {H:Nat->Nat->Option Value} {g:Nat->Option Value} {sz o:Nat} {es:List (List V)} (h:BC H g sz o es) :
    ∃cs:List Value,cs.length=es.length*sz/\(∀j v,cs[j]? =some v->g (o+j)=some v)/\BC H (fun i=>cs[i]?) sz 0 es:=by
 have hex: ∀j,j<es.length*sz-> ∃c,g (o+j)=some c:=fun j hj=>by
  obtain⟨h1,h2⟩:=S0 hj;obtain⟨h3,h4⟩:=A9.1 h (j / sz) es[j / sz] (ES h1);obtain⟨c,hc,_⟩:=BV.1 h4 (j % sz) _ (ES (by omega));refine⟨c,?_⟩;rw[<-hc];congr 1;have:=Nat.div_add_mod' j sz;omega
 refine⟨(List.range (es.length*sz)).map fun j=>(g (o+j)).getD undef,by simp,fun j v hv=>?_,?_⟩
 .have hlt:j<es.length*sz:=by simpa using(JX.1 hv).1
  rw[P8,List.getElem?_range hlt]at hv;obtain⟨c,hc⟩:=hex j hlt;simp[hc]at hv;rw[hc,hv]
 .rw[A9]at *
  intro i e he;obtain⟨h1,h2⟩:=h i e he;refine⟨h1,A7 h2 (fun q hq=>?_)⟩;have hi:=(JX.1 he).1
  have hlt:0+i*sz+q<es.length*sz:=by
   have:(i+1)*sz<=es.length*sz:=YG _ hi;rw[Nat.succ_mul]at this;omega
  obtain⟨c,hc⟩:=hex _ hlt;rw[P8,List.getElem?_range hlt];rw[show o+i*sz+q=o+(0+i*sz+q) by omega,hc];simp only[cS,hc,Option.getD_some]
def Ga {H:Nat->Nat->Option Value} {g:Nat->Option Value} {sz o:Nat} {es fs:List (List V)} (h:BC H g sz o es) (k:BC H g sz (o+es.length*sz) fs):BC H g sz o (es++fs):=by
 rw[A9]at *;intro i e he;rw[List.getElem?_append]at he;split at he
 .exact h i e he
 .rename_i hlt
  obtain⟨h1,h2⟩:=k _ e he;refine⟨h1,?_⟩
  have:o+es.length*sz+(i - es.length)*sz=o+i*sz:=by
   rw[Nat.add_assoc,<-Nat.add_mul];congr 2;omega
  rw[<-this];exact h2
def EF {H:Nat->Nat->Option Value} {g g':Nat->Option Value} {sz o o':Nat} {es:List (List V)} (h:BC H g sz o es) (hg: ∀j,j<es.length*sz->g' (o'+j)=g (o+j)):BC H g' sz o' es:=by
 rw[A9]at *;intro i e he;obtain⟨h1,h2⟩:=h i e he;refine⟨h1,A7 h2 (fun q hq=>?_)⟩;have hi:=(JX.1 he).1
 have hlt:i*sz+q<es.length*sz:=by
  have:(i+1)*sz<=es.length*sz:=YG _ hi;rw[Nat.succ_mul]at this;omega
 have:=hg _ hlt;rw[Nat.add_assoc,Nat.add_assoc];exact this
def HU {H:Nat->Nat->Option Value} {g:Nat->Option Value} {sz o:Nat} {es:List (List V)} (h:BC H g sz o es) (n:Nat):BC H g sz o (es.take n):=by
 rw[A9]at *;intro i e he;rw[List.getElem?_take]at he;split at he
 .exact h i e he
 .cases he
def Mc {H:Nat->Nat->Option Value} {g:Nat->Option Value} {sz o:Nat} {es:List (List V)} (h:BC H g sz o es) (n:Nat):BC H g sz (o+n*sz) (es.drop n):=by
 rw[A9]at *;intro i e he;rw[uM]at he;obtain⟨h1,h2⟩:=h _ e he;refine⟨h1,?_⟩;rw[Nat.add_mul,<-Nat.add_assoc]at h2;exact h2
def Il {H:Nat->Nat->Option Value} {g:Nat->Option Value} {sz o:Nat} {es:List (List V)} (h:BC H g sz o es) {e:List V} (he:e∈es):e.length=sz:=by
 obtain⟨i,hi⟩:=List.mem_iff_getElem?.1 he;exact(A9.1 h i e hi).1
def KF (G:Rel Λ σ w) {sz:Nat} {vy:V} {cy:Value} (hy:Ag (Hh Λ σ w) vy cy) {K:List (List V)->Prop} (h:rowsOf σ sz vy K) :
    ∃ ys base cap,K ys/\cy= .slice base ys.length cap/\(∀e∈ys,e.length=sz)/\
      (ys= []\/ ∃b o g,base=some ⟨b,o,none⟩/\(∀i c,g i=some c->w.cell? ⟨b,i,none⟩=some c)/\BC (Hh Λ σ w) g sz o ys):=by
 cases vy<;>simp only[rowsOf]at h
 .rename_i ys full
  obtain⟨hl,h⟩:=h;obtain⟨a,cap,rfl,_,_,_,_,h6⟩:=hy;refine⟨ys,a,cap,h,rfl,hl,?_⟩;by_cases hne:ys= []
  .exact .inl hne
  .obtain⟨b,o,s,rfl,h7⟩:=h6 hne
   right;obtain⟨e,r,rfl⟩:=List.exists_cons_of_ne_nil hne;have:s=sz:=by rw[<-hl e (by simp)];exact(Il h7 (by simp)).symm
   subst this;exact⟨b,o,_,rfl,fun i c hc=>(Fk hc).2.2,h7⟩
 .rename_i m len cap
  split at h
  .rename_i s ys c hs
   obtain⟨rfl,hle,h⟩:=h;obtain⟨rfl,_⟩:=hy;obtain⟨c',e,h1,h2,h3,h4,h5⟩:=Eh G hs;refine⟨_,_,cap,h,by simp[Nat.min_eq_left hle],fun e he=>Il h5 (List.mem_of_mem_take he),.inr ⟨m,0,_,rfl,fun i c hc=>?_,HU h5 _⟩⟩;rw[DG h1];exact hc
  .exact h.elim
 .rename_i m s off len
  split at h
  .rename_i s' ys c hs
   obtain⟨rfl,rfl,hle,h⟩:=h;obtain⟨a,cap,rfl,_,h6⟩:=hy;obtain⟨c',e,h1,h2,h3,h4,h5⟩:=Eh G hs;refine⟨_,a,cap,h,by simp;omega,fun e he=>Il h5 (List.mem_of_mem_drop (List.mem_of_mem_take he)),?_⟩;by_cases h0:len=0
   .left;simp[h0]
   .right
    obtain rfl:=h6 h0;refine⟨m,off*s',_,rfl,fun i c hc=>?_,HU (by have:=Mc h5 off;simpa using this) _⟩;rw[DG h1];exact hc
  .exact h.elim
def Kb (t ty e:TypeId) (i:TypeInfo) (ht:P.underlying t=some (.slice e)) (hi:P.info? e=some i) (base:Option Addr) (n cap:Nat) (hn:n<=cap) (b2:Option Addr) (c2:Nat) :
    (Builtin.append_ #[t,t] ty #[.slice base n cap,.slice b2 0 c2]).run P w= .ok (.slice base n cap) w:=by
 cases base<;>cases b2<;>simp[Builtin.append_,run_underlying ht,sizeOf,typeInfo,hi,Builtin.lenOf,hn,Builtin.firstCells,loadCells,loadCellsFrom,storeCells]
def WW {o:O} {ob:Obj} {n:Nat}:B2 Λ σ w (A6 (del σ n) w.heap.size o) (w.drew.alloc ob) where
 frame m hm _:=RowKit.Below.heap_alloc _ _ _ hm
 size:=by simp
 os:=rfl
 tape:=rfl
 output:=rfl
 names m h0 hm:=by
  rw[Ca _ _ (by omega)];by_cases e:m=n
  .subst e;exact DF _ _
  .rw[Gp _ e];exact h0
def Td {t e : TypeId} {i:TypeInfo} {z:Value} (ty:TypeId) (ht:P.underlying t=some (.slice e)) (hi:P.info? e=some i) (hz:i.zero=some z) (hzs:z.cells.size=i.size) (hb:i.bytes<=4096)
    (G:Rel Λ σ w) {vx vy:V} {cx cy:Value} (hx:Ag (Hh Λ σ w) vx cx) (hy:Ag (Hh Λ σ w) vy cy) (h:AM i.bytes σ i.size vx vy k) :
    CQ Λ σ w k kp ((Builtin.append_ #[t,t] ty #[cx,cy]).run P w):=by
 have h':=KF G hy h;clear h;obtain⟨ys,base,c2,⟨hone,h⟩,rfl,hyl,hys⟩:=h'
 have hnews:ys≠[]-> ∃b o,base=some ⟨b,o,none⟩/\ ∃news:List Value,news.length=ys.length*i.size/\(∀j v,news[j]? =some v->w.cell? ((⟨b,o,none⟩:Addr).add j)=some v)/\
  BC (Hh Λ σ w) (fun q=>news[q]?) i.size 0 ys/\ ∀u∈news,u.oneCell'=true:=fun hne=>by
  rcases hys with hys|⟨b,o,g,rfl,hg,hrow⟩
  .exact absurd hys hne
  .obtain⟨news,h1,h2,h3⟩:=JI hrow
   refine⟨b,o,rfl,news,h1,fun j v hv=>by rw[Cc];exact hg _ _ (h2 j v hv),h3,fun u hu=>?_⟩;obtain⟨j,hj⟩:=List.mem_iff_getElem?.1 hu;have hlt:j<ys.length*i.size:=by rw[<-h1];exact(JX.1 hj).1
   obtain⟨h4,h5⟩:=S0 hlt;obtain⟨h6,h7⟩:=A9.1 h3 (j / i.size) _ (ES h4);obtain⟨c,hc,hr⟩:=BV.1 h7 (j % i.size) _ (ES (by omega));have hdm:=Nat.div_add_mod' j i.size;rw[show 0+j / i.size*i.size+j % i.size=j by omega,hj]at hc;cases hc;exact Oz hr (hone _ (List.getElem_mem h4) _ (List.getElem_mem _))
 have grown: ∀(es:List (List V)) (olds news:List Value) (L cap n:Nat),olds.length=es.length*i.size->news.length=ys.length*i.size->BC (Hh Λ σ w) (fun q=>olds[q]?) i.size 0 es->BC (Hh Λ σ w) (fun q=>news[q]?) i.size 0 ys->
  L=es.length+ys.length->L<=Ay->
  (∀n' cap',del σ n n'=none->L<=cap'->k (.sl n' L cap') (A6 (del σ n) n' (.arr i.size (es++ys) cap')))->
  CQ Λ σ w k kp (.ok (.slice (some ⟨w.heap.size,0,none⟩) L (grownCap w L cap e)) (w.drew.alloc (.cells (olds.toArray++news.toArray++Builtin.zeroCells z.cells (grownCap w L cap e - L)) e))):=by
  intro es olds news L cap n ho hn hro hrn hL hLm hk;have hge:=grownCap_ge w L cap e;have ha:B2 Λ σ w (A6 (del σ n) w.heap.size (.arr i.size (es++ys) (grownCap w L cap e))) (w.drew.alloc (.cells (olds.toArray++news.toArray++Builtin.zeroCells z.cells (grownCap w L cap e - L)) e)):=WW
  have hfresh:del σ n w.heap.size=none:=by
   unfold del;split
   .rfl
   .exact G.new
  refine⟨_,_,hk w.heap.size _ hfresh hge,⟨rfl,hge⟩,?_,ha⟩;refine G.step ha fun m o' hm=>?_
  by_cases em:m=w.heap.size
  .subst em
   rw[Cz]at hm;cases hm;refine .inr ⟨fun hl=>absurd (G.lock _ hl) (Nat.lt_irrefl _),_,heap_alloc_new w.drew _,_,e,rfl,?_,by simp;omega,by simp;omega,?_⟩
   .refine Nat.le_of_eq (Eq.symm ?_)
    simp only[Array.size_append,List.size_toArray,size_zeroCells,hzs,ho,hn,<-Nat.add_mul];congr 1;omega
   .refine Ga (BC.mono ha.hle (fun _ _ e=>e) _ _ _ (EF hro fun j hj=>?_)) (BC.mono ha.hle (fun _ _ e=>e) _ _ _ (EF hrn fun j hj=>?_))
    .simp only[GM]
     rw[Array.getElem?_append_left (by simp[ho,hn];omega),Array.getElem?_append_left (by simp[ho];omega)];simp
    .simp only[GM]
     rw[Array.getElem?_append_left (by simp[ho,hn];omega),Array.getElem?_append_right (by simp[ho])];simp[ho]
  .rw[Ca _ _ em]at hm
   have hmn:m≠n:=fun e=>by rw[e,DF]at hm;cases hm
   rw[Gp _ hmn]at hm;exact .inl ⟨hm,heap_alloc_old w.drew _ _ (G.lt hm)⟩
 by_cases hne:ys= []
 .subst hne
  have hrun: ∀(n cap:Nat) (b:Option Addr),n<=cap->(Builtin.append_ #[t,t] ty #[.slice b n cap,.slice base ([]:List (List V)).length c2]).run P w= .ok (.slice b n cap) w:=fun n cap b hn=>Kb t ty e i ht hi b n cap hn base c2
  cases vx<;>simp only at h
  .rename_i es full
   obtain⟨_,_,h,_⟩:=h;have hx':=hx;obtain⟨a,cap,rfl,h2,_⟩:=hx;rw[hrun _ _ _ h2];exact Aw G (h trivial) hx'
  .rename_i n len cap
   split at h
   .rename_i s es c hs
    obtain⟨rfl,rfl,rfl,hm,h⟩:=h;have hx':=hx;obtain⟨rfl,h2⟩:=hx;rw[hrun _ _ _ h2];have:=h n c (DF _ _) (by simpa using h2);simp only[List.length_nil,Nat.add_zero,Ep]at this
    have e:A6 (del σ n) n (.arr i.size es c)=σ:=by
     funext m;unfold A6 del;split
     .rename_i e;rw[e,hs]
     .rfl
    rw[e]at this;exact Aw G this hx'
   .exact h.elim
 .obtain ⟨b,o,rfl,news,hnl,hnc,hnr,hn1⟩:=hnews hne
  have hpos:0<ys.length:=List.length_pos_iff.2 hne;cases vx<;>simp only at h
  .rename_i es full
   obtain⟨hel,hm,_,h⟩:=h;obtain⟨rfl,hkk⟩:=h hne;obtain⟨a,cap,rfl,h2,h3,h4,h5,h6⟩:=hx;obtain rfl:=h3 rfl
   have hk': ∀n' cap',del σ w.heap.size n'=none->es.length+ys.length<=cap'->k (.sl n' (es.length+ys.length) cap') (A6 (del σ w.heap.size) n' (.arr i.size (es++ys) cap')):=by
    have hd:del σ w.heap.size=σ:=by
     funext m;unfold del;split
     .rename_i e;rw[e,G.new]
     .rfl
    rw[hd];exact hkk
   cases a with
   | none=>
     have h0:es.length=0:=by simpa using h5 rfl
     obtain rfl:es= []:=List.eq_nil_of_length_eq_zero h0;simp only[List.length_nil,GM]at hm hk' ⊢;rw[run_append_nil w t ty e i z ht hi hz ⟨b,o,none⟩ ys.length c2 news hnl hnc hpos (by have:=hm.1;unfold Ay at this;omega) (by have:=hm.2;omega)];have hgo:=grown [] [] news ys.length 0 w.heap.size (by simp) hnl trivial hnr (by simp) hm.1 hk';simpa using hgo
   | some a=>
     have holds: ∃olds:List Value,olds.length=es.length*i.size/\(∀j v,olds[j]? =some v->w.cell? (a.add j)=some v)/\BC (Hh Λ σ w) (fun q=>olds[q]?) i.size 0 es:=by
      by_cases hes:es= []
      .subst hes;exact⟨[],by simp,by simp,trivial⟩
      .obtain⟨b',o',s,ha,h7⟩:=h6 hes
       cases ha;obtain⟨e0,r,rfl⟩:=List.exists_cons_of_ne_nil hes;have:s=i.size:=by rw[<-hel e0 (by simp)];exact(Il h7 (by simp)).symm
       subst this;obtain⟨olds,h8,h9,h10⟩:=JI h7;exact⟨olds,h8,fun j v hv=>by rw[Cc];exact(Fk (h9 j v hv)).2.2,h10⟩
     obtain⟨olds,h8,h9,h10⟩:=holds;rw[run_append_grow w t ty e i z ht hi hz a es.length es.length olds h8 h9 ⟨b,o,none⟩ ys.length c2 news hnl hnc (by omega) (by have:=hm.1;unfold Ay at this;omega) (growslice_fits (by omega) hm.2)];exact grown es olds news _ _ w.heap.size h8 hnl h10 hnr rfl hm.1 hk'
  .rename_i n len cap
   split at h
   .rename_i s es c hs
    obtain⟨rfl,rfl,rfl,hm,h⟩:=h;obtain⟨rfl,h2⟩:=hx;obtain⟨cur,et,h3,h4,h5,h6,h7⟩:=Eh G hs;by_cases hroom:es.length+ys.length<=c
    ·
     have hmul:(es.length+ys.length)*i.size<=c*i.size:=YG _ hroom;rw[Nat.add_mul]at hmul;have hcell:et=et:=rfl;have hrunF:=run_firstCells_some (P:=P) w i.size ys.length ⟨b,o,none⟩ ys.length c2 news hnl hnc;have hst:=Cd (P:=P) news w cur (es.length*i.size) 0 h3 (by omega) hn1;simp only[Nat.add_zero]at hst
     have hrun:(Builtin.append_ #[t,t] ty #[.slice (some ⟨n,0,none⟩) es.length c,.slice (some ⟨b,o,none⟩) ys.length c2]).run P w =
      .ok (.slice (some ⟨n,0,none⟩) (es.length+ys.length) c) (CN w n (.cells (Co cur (es.length*i.size) news) et (0,0))):=by
      simp[Builtin.append_,run_underlying ht,sizeOf,typeInfo,hi,Builtin.lenOf,hroom,hrunF,Cc,hst]
     rw[hrun];have hk:=h n c (DF _ _) hroom
     have eu:A6 (del σ n) n (.arr i.size (es++ys) c)=A6 σ n (.arr i.size (es++ys) c):=by
      funext m;unfold A6 del;split
      .rfl
      .rfl
     rw[eu]at hk;refine⟨_,_,hk,⟨rfl,hroom⟩,I3 G hs ⟨_,et,rfl,by rw[Dg];exact h4,by simp;omega,by simp;omega,?_⟩,GZ hs _ _⟩;refine Ga (EF h7 fun j hj=>?_) (EF hnr fun j hj=>?_)
     .exact C3 _ _ _ _ (by omega)
     .simp only[GM]
      exact Fu _ _ _ _ (by omega) (by omega)
    .obtain⟨olds,h8,h9,h10⟩:=JI h7
     rw[run_append_grow w t ty e i z ht hi hz ⟨n,0,none⟩ es.length c olds h8 (fun j v hv=>by rw[Cc,DG h3];simpa using h9 j v hv) ⟨b,o,none⟩ ys.length c2 news hnl hnc (by omega) (by have:=hm.1;unfold Ay at this;omega)
      (growslice_fits (by omega) hm.2)]
     exact grown es olds news _ _ n h8 hnl h10 hnr rfl hm.1 h
   .exact h.elim
end Go.Gl
namespace Go.Gl
variable {P:Program} {Λ:Nat->Prop} {σ:AH} {w:World} {k kp:V->AH->Prop}
def Xz (G:Rel Λ σ w) {n sz cap:Nat} {es:List (List V)} (hs:σ n=some (.arr sz es cap)):BC (Hh Λ (del σ n) w) (Hh Λ (del σ n) w n) sz 0 es/\es.length<=cap/\es.length<=Ay:=by
 obtain⟨c,e,h1,h2,h3,h4,h5⟩:=Eh G hs;refine⟨BC.mono (Ej fun m hm=>(Fi σ n).none hm) (fun i v hv=>?_) _ _ _ h5,h3,h4⟩;rw[NB (G.own n _ hs).1 (DF σ n),DG h1];exact hv
def bH (G:Rel Λ σ w) {n sz cap:Nat} {es:List (List V)} (hs:σ n=some (.arr sz es cap)):Rel Λ (A6 σ n (.arr sz es es.length)) w/\B2 Λ σ w (A6 σ n (.arr sz es es.length)) w:=by
 have hh:Hh Λ (A6 σ n (.arr sz es es.length)) w=Hh Λ σ w:=by
  funext b o
  have e:(A6 σ n (.arr sz es es.length) b).isSome=(σ b).isSome:=by
   by_cases e:b=n
   .rw[e,Cz,hs];rfl
   .rw[Ca _ _ e]
  unfold Hh;by_cases hl:Λ b\/(σ b).isSome=true
  .rw[if_pos hl,if_pos (by rw[e];exact hl)]
  .rw[if_neg hl,if_neg (by rw[e];exact hl)]
 refine⟨⟨fun m o ho=>?_,G.lock⟩,⟨fun _ _ _=>rfl,IN _,rfl,rfl,rfl,fun m hm _=>?_⟩⟩
 .rw[hh]
  by_cases e:m=n
  .subst e
   rw[Cz]at ho;cases ho;obtain⟨h1,ob,h2,c,ce,h3,h4,h5,h6,h7⟩:=G.own m _ hs;exact⟨h1,ob,h2,c,ce,h3,Nat.le_trans (YG _ h5) h4,IN _,h6,h7⟩
  .rw[Ca _ _ e]at ho
   exact G.own m o ho
 .have e:m≠n:=fun e=>by rw[e,hs]at hm;cases hm
  rw[Ca _ _ e];exact hm
def dS (H:Nat->Nat->Option Value) (v:Option V) (c:Option Value):Prop:=match v,c with|none,none=>True|some v,some c=>Ag H v c|_,_=>False
def BRel (o:Option V) (c:Option Value):Prop:=
 match o,c with
 | none,none=>True
 | some v,some c=> ∃ki n,v= .i ki n/\c= .int ki n
 | _,_=>False
def MR {o:Option V} {c:Option Value} {H:Nat->Nat->Option Value} {d:Int} {K:Int->Prop} (hr:dS H o c) (h:Nr o d K) :
    BRel o c/\ ∃n,K n/\((o=none/\n=d)\/ ∃ki,c=some (.int ki n)):=by
 cases o with
 | none=>
   cases c with
   | none=>exact⟨trivial,d,h,.inl ⟨rfl,rfl⟩⟩
   | some c=>exact hr.elim
 | some v=>
   cases c with
   | none=>exact hr.elim
   | some c=>
     cases v<;>simp only[Nr]at h
     rename_i ki n;obtain⟨rfl,_⟩:=hr;exact⟨⟨ki,n,rfl,rfl⟩,n,h,.inr ⟨ki,rfl⟩⟩
def Nj {len cap:Nat} {lo hi mx:Option Value} {l h m:Int} (hl:(lo=none/\l=0)\/ ∃ki,lo=some (.int ki l)) (hh:(hi=none/\h=len)\/ ∃ki,hi=some (.int ki h))
    (hm:(mx=none/\m=cap)\/ ∃ki,mx=some (.int ki m)) (hmh:mx.isSome=true->hi.isSome=true) (h0:0<=l) (h1:l<=h) (h2:h<=m) (h3:m<=cap) :
    (Instr.sliceBounds true len cap lo hi mx).run P w= .ok (l.toNat,h.toNat,m.toNat) w:=by
 have eh:(h.toNat:Int)=h:=Int.toNat_of_nonneg (by omega);have em:(m.toNat:Int)=m:=Int.toNat_of_nonneg (by omega);have bl: ∀ki code,(Instr.sliceBound (.int ki l) h.toNat code).run P w= .ok l.toNat w:=fun ki code=>run_sliceBound w ki l _ code h0 (by omega)
 have bh: ∀ki code,(Instr.sliceBound (.int ki h) m.toNat code).run P w= .ok h.toNat w:=fun ki code=>run_sliceBound w ki h _ code (by omega) (by omega)
 have bm: ∀ki code,(Instr.sliceBound (.int ki m) cap code).run P w= .ok m.toNat w:=fun ki code=>run_sliceBound w ki m _ code (by omega) (by omega)
 unfold Instr.sliceBounds;rcases hm with⟨rfl,rfl⟩|⟨km,rfl⟩
 .simp only[Hd]at bh
  rcases hh with⟨rfl,rfl⟩|⟨kh,rfl⟩
  .simp only[Hd]at bl
   rcases hl with⟨rfl,rfl⟩|⟨kl,rfl⟩
   .simp
   .simp[bl]
  .rcases hl with⟨rfl,rfl⟩|⟨kl,rfl⟩
   .simp[bh]
   .simp[bh,bl]
 .rcases hh with⟨rfl,rfl⟩|⟨kh,rfl⟩
  .simp at hmh
  .rcases hl with⟨rfl,rfl⟩|⟨kl,rfl⟩
   .simp[bm,bh]
   .simp[bm,bh,bl]
def FO {t e:TypeId} {sz:Nat} (hu:P.underlying t=some (.slice e)) (hs:Dt P e=some sz) {a:Option Addr} {len cap:Nat} {lo hi mx:Option Value} {l h m:Int} (hl:(lo=none/\l=0)\/ ∃ki,lo=some (.int ki l)) (hh:(hi=none/\h=len)\/ ∃ki,hi=some (.int ki h))
    (hm:(mx=none/\m=cap)\/ ∃ki,mx=some (.int ki m)) (hmh:mx.isSome=true->hi.isSome=true) (h0:0<=l) (h1:l<=h) (h2:h<=m) (h3:m<=cap) :
    (Instr.sliceAt t (.slice a len cap) lo hi mx).run P w= .ok (.slice (if m.toNat=l.toNat then a else a.map (·.add (l.toNat*sz))) (h.toNat - l.toNat) (m.toNat - l.toNat)) w:=by
 simp only[Instr.sliceAt,C6,BE hu,Result.andThen,Instr.slice,Nj hl hh hm hmh h0 h1 h2 h3,Dz hs,EY]
def WI {t e : TypeId} {sz:Nat} (hu:P.underlying t=some (.slice e)) (hs:Dt P e=some sz) (h0:0<sz)
    (G:Rel Λ σ w) {vx:V} {cx:Value} (hx:Ag (Hh Λ σ w) vx cx) {vl vh vm:Option V} {cl ch cm:Option Value}
    (hl:dS (Hh Λ σ w) vl cl)
    (hh:dS (Hh Λ σ w) vh ch)
    (hm:dS (Hh Λ σ w) vm cm)
    (hmh:cm.isSome=true->ch.isSome=true) (h:AP σ sz vx vl vh vm k):CQ Λ σ w k kp ((Instr.sliceAt t cx cl ch cm).run P w):=by
 have hlo: ∀n,((vl=none/\n=0)\/ ∃ki,cl=some (.int ki n))->(cl=none/\n=0)\/ ∃ki,cl=some (.int ki n):=by
  rintro n (⟨rfl,rfl⟩|h)
  .cases cl with
   | none=>exact .inl ⟨rfl,rfl⟩
   | some c=>exact hl.elim
  .exact .inr h
 have hhi: ∀n (d:Int),((vh=none/\n=d)\/ ∃ki,ch=some (.int ki n))->(ch=none/\n=d)\/ ∃ki,ch=some (.int ki n):=by
  rintro n d (⟨rfl,rfl⟩|h)
  .cases ch with
   | none=>exact .inl ⟨rfl,rfl⟩
   | some c=>exact hh.elim
  .exact .inr h
 have hno:vm=none->cm=none:=by
  rintro rfl;cases cm with
  | none=>rfl
  | some c=>exact hm.elim
 cases vx<;>simp only[AP]at h
 .rename_i es full
  obtain⟨hel,h⟩:=h;obtain⟨a,cap,rfl,h2,h3,h4,h5,h6⟩:=hx;replace h:=MR hh h;obtain⟨_,hi,h,hhi'⟩:=h;replace h:=MR hl h;obtain⟨_,li,⟨hl0,hlh,hhl,h⟩,hli'⟩:=h;have hlen:((es.take hi.toNat).drop li.toNat).length=hi.toNat - li.toNat:=by simp;omega
  have hrow: ∀cap':Nat,(es.take hi.toNat).drop li.toNat≠[]->cap'≠li.toNat->
   ∃b o s,(if cap'=li.toNat then a else a.map (·.add (li.toNat*sz)))=some ⟨b,o,none⟩/\BC (Hh Λ σ w) (Hh Λ σ w b) s o ((es.take hi.toNat).drop li.toNat):=fun cap' hne hcap=>by
   have hes:es≠[]:=by rintro rfl;simp at hne
   obtain⟨b,o,s,rfl,h7⟩:=h6 hes
   have hss:s=sz:=by
    obtain⟨e0,r,rfl⟩:=List.exists_cons_of_ne_nil hes;rw[<-hel e0 (by simp)];exact(Il h7 (by simp)).symm
   subst hss;refine⟨b,o+li.toNat*s,s,?_,Mc (HU h7 _) _⟩;rw[if_neg hcap];simp[Cc]
  have hne: ∀cap':Nat,hi.toNat<=cap'->(es.take hi.toNat).drop li.toNat≠[]->cap'≠li.toNat:=fun cap' hc hn=>by
   have:=List.length_pos_iff.2 hn;rw[hlen]at this;omega
  cases vm with
  | none=>
    obtain rfl:=hno rfl;rw[FO (m:=cap) hu hs (hlo _ hli') (hhi _ _ hhi') (.inl ⟨rfl,rfl⟩) (by simp) hl0 hlh (by omega) (Int.le_refl _)];refine Aw G h ?_;simp only[Hd];refine⟨_,_,by rw[hlen],by rw[hlen];omega,fun hf=>?_,by rw[hlen];omega,fun ha=>?_,fun hn=>hrow _ hn (hne _ (by omega) hn)⟩
    .simp at hf
     have:=h3 hf.1;rw[hlen];omega
    .cases a with
     | none=>have:=h5 rfl;omega
     | some a=>split at ha<;>simp at ha
  | some v=>
    cases v<;>simp only at h
    rename_i km mi;obtain⟨rfl,h⟩:=h;cases cm with
    | none=>exact hm.elim
    | some c=>
      obtain⟨rfl,_⟩:=hm;rw[FO (m:=mi) hu hs (hlo _ hli') (hhi _ _ hhi') (.inr ⟨_,rfl⟩) hmh hl0 hlh (Int.le_refl _) (by omega)];refine Aw G h ?_;refine⟨_,_,by rw[hlen],by rw[hlen];omega,fun _=>by rw[hlen],by rw[hlen];omega,fun ha=>?_,fun hn=>hrow _ hn (hne _ (IN _) hn)⟩;cases a with
      | none=>have:=h5 rfl;omega
      | some a=>split at ha<;>simp at ha
 .rename_i n len cap
  obtain⟨rfl,h2⟩:=hx;replace h:=MR hh h;obtain⟨_,hi,h,hhi'⟩:=h;replace h:=MR hl h;obtain⟨_,li,⟨hl0,hlh,hhl,h⟩,hli'⟩:=h;cases vm with
  | none=>
    obtain rfl:=hno rfl;rw[FO (m:=cap) hu hs (hlo _ hli') (hhi _ _ hhi') (.inl ⟨rfl,rfl⟩) (by simp) hl0 hlh (by omega) (Int.le_refl _)];refine Aw G h ⟨_,_,by congr 1;omega,by omega,fun hn=>?_⟩;rw[if_neg (by omega)];simp[Cc]
  | some v=>
    cases v<;>simp only at h
    rename_i km mi;obtain⟨rfl,rfl,rfl,h⟩:=h;split at h
    .rename_i s es c hs'
     obtain⟨rfl,rfl,rfl,h⟩:=h;cases cm with
     | none=>exact hm.elim
     | some c=>
       obtain⟨rfl,_⟩:=hm;rw[FO (m:=(es.length:Int)) hu hs (hlo _ hli') (hhi _ _ hhi') (.inr ⟨_,rfl⟩) hmh hl0 hlh (Int.le_refl _) (by omega)];rcases h with h|h
       .obtain⟨h7,h8,h9⟩:=Xz G hs'
        refine⟨_,_,h,?_,G.drop (Fi σ n),B2.drop w (Fi σ n)⟩;refine⟨some ⟨n,0,none⟩,es.length,?_,IN _,fun _=>rfl,h9,fun ha=>by simp at ha,fun hn=>⟨n,0,s,rfl,h7⟩⟩;simp only[Hd,Int.toNat_zero,Nat.sub_zero,Nat.zero_mul,cS,Cc,Nat.add_zero,ite_self]
       .obtain⟨cc,ce,g1,g2,g3,g4,g5⟩:=Eh G hs'
        have hle:=bH G hs';refine⟨_,_,h,⟨?_,IN _⟩,hle.1,hle.2⟩;simp only[Hd,Int.toNat_zero,Nat.sub_zero,Nat.zero_mul,cS,Cc,Nat.add_zero,ite_self]
    .exact h.elim
 .rename_i n s off len
  obtain⟨a,cap,rfl,h2,h3⟩:=hx;replace h:=MR hh h;obtain⟨_,hi,h,hhi'⟩:=h;replace h:=MR hl h;obtain⟨_,li,⟨hl0,hlh,hhl,rfl,rfl,h⟩,hli'⟩:=h;obtain rfl:=hno rfl;rw[FO (m:=cap) hu hs (hlo _ hli') (hhi _ _ hhi') (.inl ⟨rfl,rfl⟩) (by simp) hl0 hlh (by omega) (Int.le_refl _)];refine Aw G h ⟨_,_,by congr 1;omega,by omega,fun hn=>?_⟩;obtain rfl:=h3 (by omega);rw[if_neg (by omega)];simp[Cc,Nat.add_mul]
def Lp {H:Nat->Nat->Option Value}: ∀ {kvs:List (V×V)} {es:List MapEntry},FL H kvs es->es.length=kvs.length
 | [],[],_=>rfl
 | (_,_)::r,_::es,h=>by simp only[FL]at h;simp[Lp h.2.2]
 | [],_::_,h=>h.elim
 | _::_,[],h=>h.elim
def lL (G:Rel Λ σ w) {n:Nat} {kvs:List (V×V)} (h:σ n=some (.map kvs)): ∃es clk,w.heap[n]? =some (.map es clk)/\FL (Hh Λ σ w) kvs es.toList:=by
 obtain⟨_,ob,h2,es,clk,rfl,h4⟩:=G.own n _ h;exact⟨es,clk,h2,h4.1⟩
def Ho {n:Nat} (h:n<=Ay):IntKind.i64.min<=(n:Int)/\(n:Int)<=IntKind.i64.max:=by
 unfold Ay at h;simp only[IntKind.min,IntKind.max,IntKind.signed,IntKind.bits,if_true];omega
def bR {t e:TypeId} (ty:TypeId) (hu:P.underlying t=some (.slice e))
    (G:Rel Λ σ w) {vx:V} {cx:Value} (hx:Ag (Hh Λ σ w) vx cx) (h:Au vx fun v=>k v σ):CQ Λ σ w k kp ((Builtin.len_ #[t] ty #[cx]).run P w):=by
 cases vx<;>simp only[Au]at h
 .rename_i es full
  obtain⟨a,cap,rfl,h2,h3,h4,h5,h6⟩:=hx;have:(Builtin.len_ #[t] ty #[.slice a es.length cap]).run P w= .ok (goInt es.length) w:=by simp[Builtin.len_,BE hu]
  rw[this];exact Aw G h ⟨rfl,Ho h4⟩
 .rename_i n len cap
  obtain⟨rfl,_⟩:=hx;have:(Builtin.len_ #[t] ty #[.slice (some ⟨n,0,none⟩) len cap]).run P w= .ok (goInt len) w:=by simp[Builtin.len_,BE hu]
  rw[this];exact Aw G h.2 ⟨rfl,Ho h.1⟩
 .rename_i n s o len
  obtain⟨a,cap,rfl,_⟩:=hx;have:(Builtin.len_ #[t] ty #[.slice a len cap]).run P w= .ok (goInt len) w:=by simp[Builtin.len_,BE hu]
  rw[this];exact Aw G h.2 ⟨rfl,Ho h.1⟩
def Xv {t e f:TypeId} (ty:TypeId) (hu:P.underlying t=some (.map e f))
    (G:Rel Λ σ w) {vx:V} {cx:Value} (hx:Ag (Hh Λ σ w) vx cx) (h:Jk σ vx fun v=>k v σ):CQ Λ σ w k kp ((Builtin.len_ #[t] ty #[cx]).run P w):=by
 cases vx<;>simp only[Jk]at h
 .rename_i n
  split at h
  .rename_i kvs hs
   obtain⟨es,clk,h1,h2⟩:=lL G hs;simp only[Ag]at hx;subst hx;have hl:=Lp h2
   have:(Builtin.len_ #[t] ty #[.map (some n)]).run P w= .ok (goInt kvs.length) w:=by
    simp[Builtin.len_,BE hu,getObj,Sem.run,h1,<-hl]
   rw[this];exact Aw G h.2 ⟨rfl,Ho h.1⟩
  .exact h.elim
 .simp only[Ag]at hx
  subst hx;have:(Builtin.len_ #[t] ty #[.map none]).run P w= .ok (goInt 0) w:=by simp[Builtin.len_,BE hu]
  rw[this];exact Aw G h ⟨rfl,Ho (Nat.zero_le _)⟩
end Go.Gl
namespace Go.Gl
variable {P:Program} {Λ:Nat->Prop} {σ:AH} {w:World} {k kp:V->AH->Prop}
def I1 (ki:IntKind) (n:Int):ki.min<=ki.wrap n/\ki.wrap n<=ki.max:=by
 have:=WideShapes.wf_wrap ki n;simpa[Lit.wf]using this
def KM (ki:IntKind):ki.min<=0:=by cases ki<;>decide
def Pf (ki:IntKind):0<=ki.max:=by cases ki<;>decide
def kD {ki:IntKind} {a:Int} (b:Int) (h:ki.min<=a/\a<=ki.max):ki.min<=a.tmod b/\a.tmod b<=ki.max:=by
 have h1:=KM ki;have h2:=Pf ki;have h5:(a.tmod b).natAbs<=a.natAbs:=by rw[Int.natAbs_tmod];exact Nat.mod_le _ _
 rcases Int.le_total 0 a with h0|h0
 .have h3:=Int.tmod_nonneg b h0
  omega
 .have h4:=Int.tmod_nonneg b (show 0<= -a by omega)
  rw[Int.neg_tmod]at h4;omega
def mK {ki:IntKind} {a:Int} (n:Nat) (h:ki.min<=a/\a<=ki.max):ki.min<=a.fdiv (2 ^ n)/\a.fdiv (2 ^ n)<=ki.max:=by
 have h1:=KM ki;have h2:=Pf ki;have hp:(0:Int)<2 ^ n:=Int.pow_pos (by omega);rw[Int.fdiv_eq_ediv_of_nonneg _ (by omega)];constructor
 .rw[Int.le_ediv_iff_mul_le hp]
  have:ki.min*2 ^ n<=ki.min*1:=Int.mul_le_mul_of_nonpos_left h1 (by omega);omega
 .have:a / 2 ^ n<ki.max+1:=by
   rw[Int.ediv_lt_iff_lt_mul hp];have:(ki.max+1)*1<=(ki.max+1)*2 ^ n:=Int.mul_le_mul_of_nonneg_left (by omega) (by omega);omega
  omega
def bW {t : TypeId} (op:BinOp) (x y:Operand) (G:Rel Λ σ w) {vx vy:V} {cx cy:Value} (hx:Ag (Hh Λ σ w) vx cx) (hy:Ag (Hh Λ σ w) vy cy) (h:T5 op vx vy fun v=>k v σ) :
    CQ Λ σ w k kp ((do eqGuard op t x y cx cy;binOp op t cx cy:Sem Value).run P w):=by
 cases vx<;>simp only[T5]at h
 cases vy<;>simp only at h
 rename_i ka a kb b;obtain⟨rfl,ha⟩:=hx;obtain⟨rfl,hb⟩:=hy
 have hg:(eqGuard op t x y (.int ka a) (.int kb b)).run P w= .ok () w:=by
  unfold eqGuard;cases op<;>rfl
 simp only[C6,hg,Result.andThen]
 cases op<;>simp only at h<;>first
  | (obtain ⟨rfl,h⟩:=h
     first
      | (obtain⟨hb0,h⟩:=h
         simp only[binOp,Op.intDiv,hb0,if_false,ne_eq,not_true_eq_false]
         first
          | exact Aw G h ⟨rfl,I1 _ _⟩
          | exact Aw G h ⟨rfl,kD _ ha⟩)
      | (simp only[binOp,Op.intArith,Op.intCmp,Op.intBits,ne_eq,not_true_eq_false,if_false]
         first
          | exact Aw G h rfl
          | exact Aw G h ⟨rfl,I1 _ _⟩))
  | (obtain⟨h0,h⟩:=h
     have hn: ¬b<0:=by omega
     simp only[binOp,Op.shift,hn,if_false]
     first
      | exact Aw G h ⟨rfl,I1 _ _⟩
      | exact Aw G h ⟨rfl,mK _ ha⟩)
def Te {t:TypeId} (hu:P.underlying t=some .bool) (d:Nat) (p q:Bool):(Op.equalIn (d+1) t (.bool p) (.bool q)).run P w= .ok (p==q) w:=by
 simp only[Op.equalIn,C6,BE hu,Result.andThen,EY]
def RM {t:TypeId} (hu:P.underlying t=some .bool) (op:BinOp) (hop:op= .eql\/op= .neq) (x y:Operand) (G:Rel Λ σ w) {p q:Bool} (h:k (.b (bif (match op with| .neq=>true|_=>false)then p != q else p==q)) σ) :
    CQ Λ σ w k kp ((do eqGuard op t x y (.bool p) (.bool q);binOp op t (.bool p) (.bool q):Sem Value).run P w):=by
 have hg:(eqGuard op t x y (.bool p) (.bool q)).run P w= .ok () w:=by
  unfold eqGuard;rcases hop with rfl|rfl<;>rfl
 simp only[C6,hg,Result.andThen]
 have he:(Op.equal t (.bool p) (.bool q)).run P w= .ok (p==q) w:=by
  exact Te hu 9999 p q
 rcases hop with rfl|rfl
 .simp only[binOp,C6,he,Result.andThen,EY]
  exact Aw G h rfl
 .simp only[binOp,C6,he,Result.andThen,EY]
  exact Aw G h (by simp only[Ag,cond_true];cases p<;>cases q<;>rfl)
def RQ (off:Nat): ∀(l:List Value) (j:Nat) (c:Array Value),(l.zipIdx j).foldl (fun cs (x:Value×Nat)=>cs.setIfInBounds (off+x.2) x.1) c=Co c (off+j) l
 | [],_,_=>rfl
 | v::l,j,c=>by
   simp only[List.zipIdx_cons,List.foldl_cons,Co];rw[RQ off l (j+1),show off+(j+1)=off+j+1 by omega]
def PM (off:Nat) (d c:Array Value):d.zipIdx.foldl (fun cs (x:Value×Nat)=>cs.setIfInBounds (off+x.2) x.1) c=Co c off d.toList:=by
 rw[<-Array.foldl_toList,Array.toList_zipIdx];exact RQ off d.toList 0 c
def PC {H : Nat->Nat->Option Value} {env:Env} {a:Act} (he:CE H env a.tmps) {place:Nat->Option (Nat×Nat)}: ∀ {parts:List (Nat×Operand)} {ps:List (Nat×Nat×Bg)},
    (List.length parts=ps.length/\ ∀(i:Nat) (q:Nat×Operand) (r:Nat×Nat×Bg),parts[i]? =some q->ps[i]? =some r->place q.1=some (r.1,r.2.1)/\BL q.2=some r.2.2)->
    ∀ {c:Array Value} {vs us:List V},c.size=vs.length->BO H (fun i=>c[i]?) 0 vs->Jn env vs ps=some us->
    ∃d,Instr.fill place c (parts.map fun(i,x)=>(i,a.eval x))=some d/\d.size=us.length/\BO H (fun i=>d[i]?) 0 us
 | [],ps,hp,c,vs,us,hs,hv,hf=>by
   have:ps= []:=List.eq_nil_of_length_eq_zero hp.1.symm;subst this;cases hf;exact⟨c,rfl,hs,hv⟩
 | (i, x) :: parts,ps,hp,c,vs,us,hs,hv,hf=>by
   cases ps with
   | nil=>simp at hp
   | cons r ps=>
     obtain⟨off,sz,o⟩:=r;obtain⟨h1,h2⟩:=hp.2 0 _ _ rfl rfl;simp only at h1 h2;simp only[Jn]at hf;split at hf
     .rename_i v hev
      split at hf
      .rename_i vc hc
       cases hq:(Nat.beq vc.length sz&&Nat.ble (off+sz) vs.length)with
       | false=>rw[hq]at hf;simp at hf
       | true=>
         rw[hq]at hf;simp only[cond_true]at hf;simp only[A8,Nat.beq_eq,Nat.ble_eq]at hq;obtain⟨h3,h4⟩:=Cl (Ap he h2 hev) hc
         obtain⟨d,h5,h6⟩:=PC he (parts:=parts) (ps:=ps) ⟨by simpa using hp.1,fun j q r hq hr=>hp.2 (j+1) q r (by simpa using hq) (by simpa using hr)⟩ (c:=Co c off (a.eval x).cells.toList) (vs:=putAt vs off vc)
          (by rw[Dg,El];exact hs) (LF hs hv (by simpa using h3) (A7 h4 (fun i _=>by simp))) hf
         refine⟨d,?_,h6⟩;simp only[E4,Instr.fill,h1];rw[if_neg (by simp;omega),PM];exact h5
      .cases hf
     .cases hf
def PY {fields:Array Field}: ∀ {parts:List (Nat×Operand)} {ps:List (Nat×Nat×Bg)},SO fields P parts=some ps->
    parts.length=ps.length/\ ∀(i:Nat) (q:Nat×Operand) (r:Nat×Nat×Bg),parts[i]? =some q->ps[i]? =some r->(∃f:Field,fields[q.1]? =some f/\r.1=f.offset/\Dt P f.type=some r.2.1)/\BL q.2=some r.2.2
 | [],ps,h=>by cases h;simp
 | (i, x)::parts,ps,h=>by
   simp only[SO]at h;split at h
   .rename_i f o ps' h1 h2 h3
    cases hs:Dt P f.type with
    | none=>rw[hs]at h;cases h
    | some s=>
      rw[hs]at h;cases h;obtain⟨h4,h5⟩:=PY h3;refine⟨by simp[h4],fun j q r hq hr=>?_⟩;cases j with
      | zero=>simp at hq hr;subst hq;subst hr;exact⟨⟨f,h1,rfl,hs⟩,h2⟩
      | succ j=>exact h5 j q r (by simpa using hq) (by simpa using hr)
   .cases h
def NI {sz:Nat}: ∀ {parts:List (Nat×Operand)} {ps:List (Nat×Nat×Bg)},Nw sz parts=some ps->
    parts.length=ps.length/\ ∀(i:Nat) (q:Nat×Operand) (r:Nat×Nat×Bg),parts[i]? =some q->ps[i]? =some r->(r.1=q.1*sz/\r.2.1=sz)/\BL q.2=some r.2.2
 | [],ps,h=>by cases h;simp
 | (i,x)::parts,ps,h=>by
   simp only[Nw]at h;split at h
   .rename_i o ps' h2 h3
    cases h;obtain⟨h4,h5⟩:=NI h3;refine⟨by simp[h4],fun j q r hq hr=>?_⟩;cases j with
    | zero=>simp at hq hr;subst hq;subst hr;exact⟨⟨rfl,rfl⟩,h2⟩
    | succ j=>exact h5 j q r (by simpa using hq) (by simpa using hr)
   .cases h
def NH: ∀ {parts:List (Nat×Operand)} {ps:List (Nat×Bg)},Nv parts=some ps->
    parts.length=ps.length/\ ∀(i:Nat) (q:Nat×Operand) (r:Nat×Bg),parts[i]? =some q->ps[i]? =some r->r.1=q.1/\BL q.2=some r.2
 | [],ps,h=>by cases h;simp
 | (i,x)::parts,ps,h=>by
   simp only[Nv]at h;split at h
   .rename_i o ps' h2 h3
    cases h;obtain⟨h4,h5⟩:=NH h3;refine⟨by simp[h4],fun j q r hq hr=>?_⟩;cases j with
    | zero=>simp at hq hr;subst hq;subst hr;exact⟨rfl,h2⟩
    | succ j=>exact h5 j q r (by simpa using hq) (by simpa using hr)
   .cases h
end Go.Gl
namespace Go.Gl
variable {P:Program} {Λ:Nat->Prop} {σ:AH} {w:World} {k kp:V->AH->Prop}
def Hz {f:FuncId} (h:okF P f=true) (args:Array Value) (w:World):(callFunc f args).run P w= .ok (.enter f args) w:=by
 unfold okF at h;split at h
 .rename_i fn hf
  simp only[A8,wU,ne_eq]at h;have hb:fn.body.isNone=false:=by cases hb:fn.body<;>simp[hb]at h ⊢
  have hn:(fn.name== "runtime.NumGoroutine")=false:=by simpa using h.2
  simp only[callFunc,C6,run_program,GH,hf,hn,hb,Kc,if_false,EY]
 .cases h
def Hr {H:Nat->Nat->Option Value} {vs us:List V} {cs ds:Array Value} (h:cw H vs cs) (k:cw H us ds):cw H (vs++us) (cs++ds):=by
 refine⟨by simp[h.1,k.1],NC (A7 h.2 fun i hi=>?_) (A7 k.2 fun i hi=>?_)⟩
 .simp only[GM]
  rw[Array.getElem?_append_left (by rw[h.1];exact hi)]
 .simp only[GM]
  rw[Array.getElem?_append_right (by rw[h.1];omega),h.1];simp
def I7 {H:Nat->Nat->Option Value} {env:Env} {a:Act} (he:CE H env a.tmps) {xs:Array Operand} {os:List Bg} (ho:Jf xs.toList=some os) {vs:List V} (hv:Tl env os=some vs):cw H vs (xs.map a.eval):=by
 obtain⟨h1,h2⟩:=ZN he ho hv;exact⟨by simpa using h1,A7 h2 (fun i _=>by simp)⟩
def EG {s:Sem Value} (h:CQ Λ σ w k kp (s.run P w)):Good P Λ σ w k kp ((s.run P w).andThen fun c w=> .ok (.value c) w):=by
 have:=A0 (P:=P) h;simpa only[C6,EY]using this
def O7 {f:FuncId} {vs:List V} {cs:Array Value} (G:Rel Λ σ w) (hv:cw (Hh Λ σ w) vs cs) (h:As P f vs σ (qk k kp)):Good P Λ σ w k kp ((callFunc f cs).run P w):=by
 rw[Hz h.1];exact h.2 Λ w cs G hv
def Mf {H:Nat->Nat->Option Value} {env:Env} {a:Act} (he:CE H env a.tmps) {x:Option Operand} {o:Option Bg} (ho:Zz x=some o) {v:Option V} (hv:G9 env o=some v) :
    dS H v (x.map a.eval):=by
 cases x with
 | none=>
   cases ho;cases hv;trivial
 | some x=>
   simp only[Zz]at ho;cases hq:BL x with
   | none=>rw[hq]at ho;cases ho
   | some q=>
     rw[hq]at ho;cases ho;simp only[G9]at hv;split at hv
     .rename_i u hu
      cases hv;exact Ap he hq hu
     .cases hv
def Xs {env : Env} {a:Act} {c:Call} {ao:FY} (ty:TypeId) (ho:dW P c=some ao) (h:E5 P ao env σ k kp) (he:CE (Hh Λ σ w) env a.tmps) (G:Rel Λ σ w) :
    Good P Λ σ w k kp ((do let d<-resolve a.eval c ty;invoke d.target d.args:Sem Next).run P w):=by
 obtain⟨callee,args,tys⟩:=c;unfold dW at ho;split at ho
 ·
  rename_i x t hc ha ht;simp only at hc ha ht;subst hc;obtain rfl:args= #[x]:=by apply Array.ext';simpa using ha
  obtain rfl:tys= #[t]:=by apply Array.ext';simpa using ht
  simp only[resolve,C6,EY,GH,invoke,builtin,List.map_toArray,E4,List.map_nil];split at ho
  .rename_i e hu
   cases hx:BL x with
   | none=>rw[hx]at ho;cases ho
   | some o=>
     rw[hx]at ho;cases ho;obtain⟨v,h1,h2⟩:=Ak h;exact EG (bR (P:=P) (kp:=kp) ty hu G (Ap he hx h1) h2)
  .rename_i e f hu
   cases hx:BL x with
   | none=>rw[hx]at ho;cases ho
   | some o=>
     rw[hx]at ho;cases ho;obtain⟨v,h1,h2⟩:=Ak h;exact EG (Xv (P:=P) (kp:=kp) ty hu G (Ap he hx h1) h2)
  .rename_i n e hu
   split at ho
   .rename_i hn
    cases ho;simp only[E5,ev,Ef]at h;have hr:(Builtin.len_ #[t] ty #[a.eval x]).run P w= .ok (goInt n) w:=by simp[Builtin.len_,BE hu]
    exact EG (s:=Builtin.len_ #[t] ty #[a.eval x]) (k:=k) (kp:=kp) (by rw[hr];exact Aw G h ⟨rfl,by have:=KM .i64;omega,hn⟩)
   .cases ho
  .cases ho
 ·
  rename_i x y t u hc ha ht;simp only at hc ha ht;subst hc;obtain rfl:args= #[x,y]:=by apply Array.ext';simpa using ha
  obtain rfl:tys= #[t,u]:=by apply Array.ext';simpa using ht
  split at ho
  .rename_i e e2 hu1 hu2
   split at ho
   .rename_i x' y' i hx hy hi
    split at ho
    .rename_i hcond
     obtain⟨rfl,hb,hz⟩:=hcond;cases ho;obtain⟨vx,h1,h⟩:=Ak h;obtain⟨vy,h2,h⟩:=Ak h;cases hzz:i.zero with
     | none=>rw[hzz]at hz;cases hz
     | some z=>
       rw[hzz]at hz;simp only[cS,II]at hz;simp only[resolve,C6,EY,GH,invoke,builtin,List.map_toArray,E4,List.map_nil];exact EG (Td (P:=P) (kp:=kp) ty hu1 hi hzz hz hb G (Ap he hx h1) (Ap he hy h2) h)
    .cases ho
   .cases ho
  .cases ho
 ·
  rename_i x y hc ha;simp only at hc ha;subst hc;obtain rfl:args= #[x,y]:=by apply Array.ext';simpa using ha
  split at ho
  .rename_i x' y' hx hy
   cases ho;obtain⟨vx,h1,g⟩:=Ak h;clear h;obtain⟨vy,h2,h⟩:=Ak g;clear g;cases vx<;>try exact h.elim
   cases vy<;>try exact h.elim
   rename_i ka p kb q;obtain⟨rfl,h⟩:=h;obtain⟨ex,bx⟩:=Ap he hx h1;obtain⟨ey,by'⟩:=Ap he hy h2
   have hr:(Builtin.max_ tys ty #[a.eval x,a.eval y]).run P w= .ok (.int ka (if q > p then q else p)) w:=by
    rw[ex,ey];simp[Builtin.max_,Builtin.max2]
   simp only[resolve,C6,EY,GH,invoke,builtin,List.map_toArray,E4,List.map_nil];exact EG (s:=Builtin.max_ tys ty #[a.eval x,a.eval y]) (k:=k) (kp:=kp) (by rw[hr];exact Aw G h ⟨rfl,by split<;>assumption⟩)
  .cases ho
 ·
  rename_i x y hc ha;simp only at hc ha;subst hc;obtain rfl:args= #[x,y]:=by apply Array.ext';simpa using ha
  split at ho
  .rename_i x' y' hx hy
   cases ho;obtain⟨vx,h1,g⟩:=Ak h;clear h;obtain⟨vy,h2,h⟩:=Ak g;clear g;cases vx<;>try exact h.elim
   cases vy<;>try exact h.elim
   rename_i ka p kb q;obtain⟨rfl,h⟩:=h;obtain⟨ex,bx⟩:=Ap he hx h1;obtain⟨ey,by'⟩:=Ap he hy h2
   have hr:(Builtin.min_ tys ty #[a.eval x,a.eval y]).run P w= .ok (.int ka (if q<p then q else p)) w:=by
    rw[ex,ey];simp[Builtin.min_,Builtin.min2]
   simp only[resolve,C6,EY,GH,invoke,builtin,List.map_toArray,E4,List.map_nil];exact EG (s:=Builtin.min_ tys ty #[a.eval x,a.eval y]) (k:=k) (kp:=kp) (by rw[hr];exact Aw G h ⟨rfl,by split<;>assumption⟩)
  .cases ho
 ·
  rename_i f hc;simp only at hc;subst hc;cases hx:Jf args.toList with
  | none=>simp[hx]at ho
  | some os=>
    simp only[hx,cS,II]at ho;subst ho;obtain⟨vs,h1,h⟩:=Hm h;have:=O7 G (I7 he hx h1) h;simp only[resolve,Act.eval,Deferred.ofValue,C6,EY,GH,invoke,Array.append_empty,Array.empty_append];exact this
 ·
  rename_i x _ hc;simp only at hc;subst hc;split at ho
  .rename_i x' os hx hos
   cases ho;obtain⟨vx,h1,g⟩:=Ak h;clear h;obtain⟨vs,h2,h⟩:=Hm g;clear g;cases vx<;>try exact h.elim
   rename_i fn first cap
   cases fn<;>try exact h.elim
   case yield l=>
    have hfc:first= []/\cap= []:=by
     cases first<;>cases cap<;>first|exact⟨rfl,rfl⟩|exact h.elim
    obtain⟨rfl,rfl⟩:=hfc;obtain⟨f',c',e1,e2,e3,e4,e5⟩:=Ap he hx h1;obtain⟨f,tmps,assign,body,e6,e7⟩:=h Λ w _ G (I7 he hos h2);have e2':f'= #[]:=Array.size_eq_zero_iff.1 e2;have e4':c'= #[]:=Array.size_eq_zero_iff.1 e4;subst e2' e4';simp only[resolve,e1,Deferred.ofValue,C6,EY,GH,invoke,Array.append_empty,Array.empty_append];rw[e6];exact e7
   rename_i f;simp only[Ao]at h;obtain⟨f',c',e1,e2,e3,e4,e5⟩:=Ap he hx h1;have:=O7 G (Hr (Hr ⟨e2,e3⟩ (I7 he hos h2)) ⟨e4,e5⟩) h;simp only[resolve,e1,Deferred.ofValue,C6,EY,GH,invoke];exact this
  .cases ho
 .cases ho
end Go.Gl
namespace Go.Gl
variable {P:Program} {Λ:Nat->Prop} {σ:AH} {w:World} {k kp:V->AH->Prop}
def Iy {sz:Nat} {z:List V} (hz:z.length=sz) {H:Nat->Nat->Option Value} {c:Array Value} (hc:c.size=sz) (hv:BO H (fun i=>c[i]?) 0 z) (len:Nat) :
    BC H (fun i=>((Array.range (len*sz)).map (c[· % c.size]!))[i]?) sz 0 (List.replicate len z):=by
 rw[A9];intro i e he;have hi:i<len:=by have:=(JX.1 he).1;simpa using this
 rw[List.getElem?_replicate,if_pos hi]at he;cases he;refine⟨hz,A7 hv (fun q hq=>?_)⟩
 have hlt:0+i*sz+q<len*sz:=by
  have:(i+1)*sz<=len*sz:=YG _ hi;rw[Nat.succ_mul]at this;omega
 rw[Array.getElem?_map,Array.getElem?_range,if_pos hlt];simp only[cS,hc,GM];rw[Nat.add_comm,Nat.add_mul_mod_self_right,Nat.mod_eq_of_lt (by omega)];rw[getElem!_pos c q (by omega)];exact(Array.getElem?_eq_getElem (by omega)).symm
def Rc {H : Nat -> Nat->Option Value} {env:Env} {a:Act} (he:CE H env a.tmps) {sz:Nat}: ∀ {parts:List (Nat×Operand)} {ps:List (Nat×Bg)},
    (List.length parts=ps.length/\ ∀(i:Nat) (q:Nat×Operand) (r:Nat×Bg),parts[i]? =some q->ps[i]? =some r->r.1=q.1/\BL q.2=some r.2)->
    ∀ {c:Array Value} {es fs:List (List V)},c.size=es.length*sz->BC H (fun i=>c[i]?) sz 0 es->Ib env sz es ps=some fs->
    ∃d,Instr.fill (fun i=>some (i*sz,sz)) c (parts.map fun(i,x)=>(i,a.eval x))=some d/\d.size=fs.length*sz/\BC H (fun i=>d[i]?) sz 0 fs/\fs.length=es.length
 | [],ps,hp,c,es,fs,hs,hv,hf=>by
   have:ps= []:=List.eq_nil_of_length_eq_zero hp.1.symm;subst this;cases hf;exact⟨c,rfl,hs,hv,rfl⟩
 | (i, x) :: parts,ps,hp,c,es,fs,hs,hv,hf=>by
   cases ps with
   | nil=>simp at hp
   | cons r ps =>
     obtain⟨j,o⟩:=r;obtain⟨h1,h2⟩:=hp.2 0 _ _ rfl rfl;simp only at h1 h2;subst h1;simp only[Ib]at hf;split at hf
     .rename_i v hev
      split at hf
      .rename_i vc hc
       cases hq:(Nat.beq vc.length sz&&Nat.blt j es.length)with
       | false=>rw[hq]at hf;simp at hf
       | true=>
         rw[hq]at hf;simp only[cond_true]at hf;simp only[A8,Nat.beq_eq,Nat.blt_eq]at hq;obtain⟨h3,h4⟩:=Cl (Ap he h2 hev) hc
         have hb:j*sz+sz<=c.size:=by
          rw[hs,<-Nat.succ_mul];exact YG _ hq.2
         have hrow:BC H (fun i=>(Co c (j*sz) (a.eval x).cells.toList)[i]?) sz 0 (es.set j vc):=by
          rw[A9]at hv ⊢;intro q u hu;rw[List.getElem?_set]at hu;split at hu
          .rename_i ej
           subst ej;rw[if_pos hq.2]at hu;cases hu;refine⟨hq.1,A7 h4 (fun p hp=>?_)⟩;simp only[GM];rw[Fu _ _ _ _ (by simp;omega) (by simp;omega)];simp
          .rename_i ej
           obtain⟨h5,h6⟩:=hv q u hu;refine⟨h5,A7 h6 (fun p hp=>?_)⟩;rw[C3];rcases Nat.lt_or_ge q j with hji|hji
           .left
            have:(q+1)*sz<=j*sz:=YG _ hji;rw[Nat.succ_mul]at this;omega
           .right
            have:(j+1)*sz<=q*sz:=YG _ (by omega);rw[Nat.succ_mul]at this;simp;omega
         obtain⟨d,h5,h6,h7,h8⟩:=Rc he (parts:=parts) (ps:=ps) ⟨by simpa using hp.1,fun j q r hq hr=>hp.2 (j+1) q r (by simpa using hq) (by simpa using hr)⟩ (c:=Co c (j*sz) (a.eval x).cells.toList) (es:=es.set j vc)
          (by rw[Dg];simpa using hs) hrow hf
         refine⟨d,?_,h6,h7,by simpa using h8⟩;simp only[E4,Instr.fill];rw[if_neg (by simp;omega),PM];exact h5
      .cases hf
     .cases hf
def Qn {t:TypeId} (h:isInt P t=true): ∃ki,P.underlying t=some (.int ki):=by
 unfold isInt at h;split at h
 .rename_i ki hu;exact⟨ki,hu⟩
 .cases h
def PN {t:TypeId} (h:isBool P t=true):P.underlying t=some .bool:=by
 unfold isBool at h;split at h
 .assumption
 .cases h
def Aj {α β:Type} {f:α->β} {o:Option α} {b:β} (h:o.map f=some b): ∃a,o=some a/\f a=b:=by
 cases o with
 | none=>cases h
 | some a=>exact⟨a,rfl,by simpa using h⟩
def ak {env : Env} {a:Act} {o:Oper} {ao:FY} (ho:wz P o.op=some ao) (h:E5 P ao env σ k kp) (he:CE (Hh Λ σ w) env a.tmps) (G:Rel Λ σ w) :
    Good P Λ σ w k kp ((execOp a.eval o).run P w):=by
 unfold execOp;cases hop:o.op<;>simp only[hop,wz]at ho<;>try(cases ho;done)
 all_goals dsimp only
 case move x=>
  obtain⟨x',hx,rfl⟩:=Aj ho;obtain⟨v,h1,h2⟩:=Ak h;exact⟨v,σ,h2,Ap he hx h1,G,B2.refl _ _ _⟩
 case assign x=>
  obtain⟨x',hx,rfl⟩:=Aj ho;obtain⟨v,h1,h2⟩:=Ak h;exact⟨v,σ,h2,Ap he hx h1,G,B2.refl _ _ _⟩
 case pick c x y=>
  split at ho
  .rename_i c' x' y' hc hx hy
   cases ho;obtain⟨vc,h1,g⟩:=Ak h;clear h;obtain⟨vx,h2,h⟩:=Ak g;clear g;obtain⟨vy,h3,g⟩:=Ak h;clear h;cases vc<;>try exact g.elim
   rename_i t;have hct:=Ap he hc h1;simp only[Ag]at hct;simp only[hct,asBool,C6,EY,GH]
   have g':k (bif t then vx else vy) σ:=by
    simp only at g;split at g
    .cases t<;>exact g
    .exact g
   cases t
   .exact⟨vy,σ,g',Ap he hy h3,G,B2.refl _ _ _⟩
   .exact⟨vx,σ,g',Ap he hx h2,G,B2.refl _ _ _⟩
  .cases ho
 case alloc e=>
  obtain⟨z,hz,rfl⟩:=Aj ho;exact A0 (WN hz G h)
 case box e x=>
  obtain⟨x',hx,rfl⟩:=Aj ho;obtain⟨v,h1,h2⟩:=Ak h;cases hc:cellsOf v with
  | none=>rw[hc]at h2;exact h2.elim
  | some cs=>
    rw[hc]at h2;exact A0 (bV e G (Ap he hx h1) hc h2)
 case build t parts=>
  split at ho
  .rename_i z fields hz hu
   split at ho
   .rename_i hall
    obtain⟨ps,hps,rfl⟩:=Aj ho;obtain⟨us,h1,h2⟩:=Hm h;obtain⟨v,hz1,hz2⟩:=GA hz;obtain⟨c,hz3,hz4⟩:=EE hz1 w;obtain⟨h5,h6⟩:=Cl (GS (H:=Hh Λ σ w) hz4) hz2;obtain⟨h7,h8⟩:=PY hps
    have hplaces: ∃places,fields.toList.mapM (fun f=>(P.info? f.type).map fun i=>(f.offset,i.size))=some places/\places.length=fields.size/\ ∀(j:Nat) (f:Field) (s:Nat),fields[j]? =some f->Dt P f.type=some s->places[j]? =some (f.offset,s):=by
     have hgen: ∀l:List Field,l.all (fun f=>(Dt P f.type).isSome)=true-> ∃places,l.mapM (fun f=>(P.info? f.type).map fun i=>(f.offset,i.size))=some places/\places.length=l.length/\
      ∀(j:Nat) (f:Field) (s:Nat),l[j]? =some f->Dt P f.type=some s->places[j]? =some (f.offset,s):=by
      intro l
      induction l with
      | nil=>intro _;exact⟨[],by simp,rfl,by simp⟩
      | cons f l ih=>
        intro hl;simp only[WX,A8]at hl;obtain⟨places,g1,g2,g3⟩:=ih hl.2;obtain⟨s,hs⟩:=Option.isSome_iff_exists.1 hl.1;obtain⟨i,hi,hsz⟩:=Lr hs;refine⟨(f.offset,s)::places,by simp[List.mapM_cons,hi,g1,hsz],by simp[g2],fun j f' s' hj hs'=>?_⟩;cases j with
        | zero=>simp at hj;subst hj;rw[hs]at hs';cases hs';rfl
        | succ j=>exact g3 j f' s' (by simpa using hj) hs'
     obtain⟨places,g1,g2,g3⟩:=hgen fields.toList hall;exact⟨places,g1,by simpa using g2,fun j f s hj hs=>g3 j f s (by simpa using hj) hs⟩
    obtain⟨places,g1,g2,g3⟩:=hplaces
    obtain⟨d,h9,h10,h11⟩:=PC he (parts:=parts.toList) (ps:=ps) (place:=fun x=>places[x]?) ⟨h7,fun i q r hq hr=>by
     obtain⟨⟨f,e1,e2,e3⟩,e4⟩:=h8 i q r hq hr
     exact⟨by rw[g3 _ f _ e1 e3,e2],e4⟩⟩ h5 h6 h1
    have hrun:(Instr.build t (parts.map fun(i,x)=>(i,a.eval x))).run P w= .ok (.agg d) w:=by
     refine run_build w t _ d ?_;obtain⟨it,c',q1,q2,q3⟩:=Vu hz1
     have hcc:c'=c:=by
      have:(zeroValue t).run P w= .ok c' w:=by simp[zeroValue,typeInfo,q1,q2]
      rw[hz3]at this;cases this;rfl
     subst hcc;simp only[Program.built,q1,hu,q2,g1,Array.toList_map,List.getElem?_toArray];exact h9
    exact A0 (by rw[hrun];exact Aw G h2 ⟨d,rfl,h10,h11⟩)
   .cases ho
  .rename_i z len e hz hu
   cases hsz:Dt P e with
   | none=>rw[hsz]at ho;cases ho
   | some sz=>
     rw[hsz]at ho;simp only[Option.bind_some]at ho;obtain⟨ps,hps,rfl⟩:=Aj ho;obtain⟨us,h1,h2⟩:=Hm h;obtain⟨v,hz1,hz2⟩:=GA hz;obtain⟨c,hz3,hz4⟩:=EE hz1 w;obtain⟨h5,h6⟩:=Cl (GS (H:=Hh Λ σ w) hz4) hz2;obtain⟨h7,h8⟩:=NI hps
     obtain⟨d,h9,h10,h11⟩:=PC he (parts:=parts.toList) (ps:=ps) (place:=fun i=>some (i*sz,sz)) ⟨h7,fun i q r hq hr=>by
      obtain⟨⟨e1,e2⟩,e4⟩:=h8 i q r hq hr
      exact⟨by rw[e1,e2],e4⟩⟩ h5 h6 h1
     have hrun:(Instr.build t (parts.map fun(i,x)=>(i,a.eval x))).run P w= .ok (.agg d) w:=by
      unfold Instr.build;simp only[C6,hz3,GH,BE hu,Dz hsz,Array.toList_map,h9,EY]
     exact A0 (by rw[hrun];exact Aw G h2 ⟨d,rfl,h10,h11⟩)
  .cases ho
 case buildSlice t len parts=>
  split at ho
  .rename_i e hu
   split at ho
   .rename_i z sz hz hsz
    split at ho
    .rename_i hcond
     obtain⟨hzl,h0,hln,hsmall⟩:=hcond;obtain⟨ps,hps,rfl⟩:=Aj ho;simp only[E5]at h;rw[hzl]at h;obtain⟨fs,h1,h3⟩:=Yb h
     have h2:len<=Ay:=by
      have:len*1<=len*sz:=Nat.mul_le_mul_left _ (by omega);simp only[Ay];omega
     obtain⟨v,hz1,hz2⟩:=GA hz;obtain⟨c,hz3,hz4⟩:=EE hz1 w;obtain⟨h5,h6⟩:=Cl (GS (H:=Hh Λ σ w) hz4) hz2;obtain⟨h7,h8⟩:=NH hps
     obtain⟨d,h9,h10,h11,h12⟩:=Rc he (sz:=sz) (parts:=parts.toList) (ps:=ps) ⟨h7,h8⟩ (c:=(Array.range (len*sz)).map (c.cells[· % c.cells.size]!)) (by simp)
      (Iy hzl (by omega) h6 len) h1
     have hfl:fs.length=len:=by simpa using h12
     have hrun:(Instr.buildSlice t len (parts.map fun(i,x)=>(i,a.eval x))).run P w= .ok (.slice (some ⟨w.heap.size,0,none⟩) len len) (w.alloc (.cells d e)):=by
      unfold Instr.buildSlice;have hns: ¬len*sz > 2 ^ 24:=by omega
      simp only[C6,BE hu,GH,Dz hsz,hns,if_false];have hl0: ¬len*sz=0:=fun h=>by rcases Nat.mul_eq_zero.1 h with h|h<;>omega
      simp only[hl0,if_false,C6,hz3,GH,EY,Array.toList_map,h9];rfl
     refine A0 ?_;rw[hrun];have ha:B2 Λ σ w σ (w.alloc (.cells d e)):=Hy w _;refine⟨_,σ,h3,?_,KH G _,ha⟩;refine⟨some ⟨w.heap.size,0,none⟩,len,by rw[hfl],by omega,fun _=>hfl.symm,by omega,by simp,fun _=>⟨w.heap.size,0,sz,rfl,?_⟩⟩;refine BC.mono ha.hle (fun i v hv=>?_) _ _ _ h11;rw[NB (fun hl=>absurd (G.lock _ hl) (Nat.lt_irrefl _)) G.new,DG (heap_alloc_new w _)];exact hv
    .cases ho
   .cases ho
  .cases ho
 case load t x=>
  split at ho
  .rename_i agg x' Y hx
   cases ho;obtain⟨v,h1,h2⟩:=Ak h;exact A0 (Xu Y G (Ap he hx h1) h2)
  .cases ho
 case store t ad x=>
  split at ho
  .rename_i s a' x' hs ha hx
   cases ho;obtain⟨va,h1,g⟩:=Ak h;obtain⟨vx,h2,h3⟩:=Ak g;obtain⟨σ',w',e1,e2,e3,e4⟩:=WH hs G (Ap he ha h1) (Ap he hx h2) h3;simp only[C6,e1,GH,EY];exact⟨σ',e2,e3,e4⟩
  .cases ho
 case binOp op t x y yt=>
  split at ho
  .rename_i x' y' hx hy
   unfold uu at ho;split at ho
   .cases ho
    obtain⟨vx,h1,g⟩:=Ak h;obtain⟨vy,h2,h3⟩:=Ak g;exact A0 (bW op x y G (Ap he hx h1) (Ap he hy h2) h3)
   .split at ho
    .rename_i _ hb
     split at ho
     .cases ho
      obtain⟨vx,h1,g⟩:=Ak h;obtain⟨vy,h2,h3⟩:=Ak g;cases vx<;>try exact h3.elim
      cases vy<;>try exact h3.elim
      have ex:=Ap he hx h1;have ey:=Ap he hy h2;simp only[Ag]at ex ey;rw[ex,ey];exact A0 (RM (PN hb) _ (.inl rfl) x y G h3)
     .cases ho
      obtain⟨vx,h1,g⟩:=Ak h;obtain⟨vy,h2,h3⟩:=Ak g;cases vx<;>try exact h3.elim
      cases vy<;>try exact h3.elim
      have ex:=Ap he hx h1;have ey:=Ap he hy h2;simp only[Ag]at ex ey;rw[ex,ey];exact A0 (RM (PN hb) _ (.inr rfl) x y G h3)
     .cases ho
    .cases ho
  .cases ho
 case unOp op t x=>
  cases op<;>simp only at ho
  case not=>
   obtain⟨x',hx,rfl⟩:=Aj ho;obtain⟨v,h1,h2⟩:=Ak h;cases v<;>try exact h2.elim
   have ex:=Ap he hx h1;simp only[Ag]at ex;rw[ex];exact A0 (s:=Op.unary .not (.bool _)) (Aw G h2 rfl)
  case neg=>
   split at ho
   .obtain⟨x',hx,rfl⟩:=Aj ho
    obtain⟨v,h1,h2⟩:=Ak h;cases v<;>try exact h2.elim
    obtain⟨ex,_⟩:=Ap he hx h1;rw[ex];exact A0 (s:=Op.unary .neg (.int _ _)) (Aw G h2 ⟨rfl,I1 _ _⟩)
   .cases ho
  case xor=>
   split at ho
   .obtain⟨x',hx,rfl⟩:=Aj ho
    obtain⟨v,h1,h2⟩:=Ak h;cases v<;>try exact h2.elim
    rename_i ka n;obtain⟨ex,_⟩:=Ap he hx h1;rw[ex];refine A0 (s:=Op.unary .xor (.int ka n)) ?_
    have:(Op.unary .xor (.int ka n)).run P w= .ok (.int ka (bits .xor ka (bif ka.signed then -1 else ka.max) n)) w:=by
     simp only[Op.unary,Op.intBits,EY,bits];cases ka.signed<;>rfl
    rw[this];exact Aw G h2 ⟨rfl,I1 _ _⟩
   .cases ho
  all_goals cases ho
 case convert s d x=>
  split at ho
  .rename_i k1 k2 hs hd
   obtain⟨x',hx,rfl⟩:=Aj ho;obtain⟨v,h1,h2⟩:=Ak h;cases v<;>try exact h2.elim
   rename_i ka n;obtain⟨ex,_⟩:=Ap he hx h1;rw[ex];refine A0 (s:=convert s d (.int ka n)) ?_
   have:(convert s d (.int ka n)).run P w= .ok (.int k2 (k2.wrap n)) w:=by
    simp only[convert,C6,BE hs,BE hd,GH,Conv.intToInt,EY]
   rw[this];exact Aw G h2 ⟨rfl,I1 _ _⟩
  .cases ho
 case makeInterface t x=>
  split at ho
  .cases ho
  .rename_i d hd hu
   obtain⟨x',hx,rfl⟩:=Aj ho;obtain⟨v,h1,h2⟩:=Ak h;refine A0 ?_
   have:(Instr.makeInterface t (a.eval x)).run P w= .ok (.iface t (a.eval x)) w:=by
    simp only[Instr.makeInterface,C6,BE hu,GH];cases d<;>first|rfl|exact absurd hu (hd _)
   rw[this];exact Aw G h2 ⟨_,rfl,Ap he hx h1⟩
  .cases ho
 case makeFunc fn first cap=>
  cases fn<;>simp only at ho<;>try(cases ho;done)
  rename_i f;split at ho
  .rename_i os ps h1 h2
   cases ho;obtain⟨vf,h3,g⟩:=Hm h;obtain⟨vc,h4,h5⟩:=Hm g;have e1:=I7 he h1 h3;have e2:=I7 he h2 h4;exact⟨_,σ,h5,⟨_,_,rfl,e1.1,e1.2,e2.1,e2.2⟩,G,B2.refl _ _ _⟩
  .cases ho
 case slice t x lo hi mx=>
  split at ho
  .rename_i e hu
   split at ho
   .rename_i s x' l' h' m' hs hx hl hh hm
    split at ho
    .rename_i hcond
     cases ho;obtain⟨vx,h1,g⟩:=Ak h;obtain⟨vl,h2,g2⟩:=Ss g;obtain⟨vh,h3,g3⟩:=Ss g2;obtain⟨vm,h4,g4⟩:=Ss g3;refine A0 (WI hu hs hcond.1 G (Ap he hx h1) (Mf he hl h2) (Mf he hh h3) (Mf he hm h4) (fun hms=>?_) g4)
     have:m'.isSome=true:=by
      cases mx with
      | none=>simp at hms
      | some q=>
        simp only[Zz]at hm;cases hq:BL q with
        | none=>rw[hq]at hm;cases hm
        | some z=>rw[hq]at hm;cases hm;rfl
     have:=hcond.2 this;cases hi with
     | none=>cases hh;simp at this
     | some q=>rfl
    .cases ho
   .cases ho
  .cases ho
 case fieldAddr s x f=>
  split at ho
  .rename_i fields hu
   split at ho
   .rename_i fd hf
    split at ho
    .rename_i sz hs
     split at ho
     .cases ho
     .rename_i h0
      obtain⟨x',hx,rfl⟩:=Aj ho;obtain⟨v,h1,h2⟩:=Ak h;exact A0 (WL hu hf hs h0 G (Ap he hx h1) h2)
    .cases ho
   .cases ho
  .cases ho
 case field t x f=>
  split at ho
  .rename_i fields hu
   split at ho
   .rename_i fd hf
    split at ho
    .rename_i agg x' Y hx
     cases ho;obtain⟨v,h1,h2⟩:=Ak h;cases v<;>try exact h2.elim
     exact A0 (WK hu hf Y G (Ap he hx h1) h2)
    .cases ho
   .cases ho
  .cases ho
 case indexAddr t x i=>
  split at ho
  .rename_i e hu
   split at ho
   .rename_i s x' i' hs hx hi
    cases ho;obtain⟨vx,h1,g⟩:=Ak h;obtain⟨vi,h2,h3⟩:=Ak g;exact A0 (Lx hu hs G (Ap he hx h1) (Ap he hi h2) h3)
   .cases ho
  .rename_i n e hu
   split at ho
   .rename_i s x' i' hs hx hi
    cases ho;obtain⟨vx,h1,g⟩:=Ak h;obtain⟨vi,h2,h3⟩:=Ak g;exact A0 (Ly hu hs G (Ap he hx h1) (Ap he hi h2) h3)
   .cases ho
  .cases ho
 case index t x i=>
  split at ho
  .rename_i n e hu
   split at ho
   .rename_i s ag x' i' hs Y hx hi
    cases ho;obtain⟨vx,h1,g⟩:=Ak h;obtain⟨vi,h2,h3⟩:=Ak g;exact A0 (WJ hu hs Y G (Ap he hx h1) (Ap he hi h2) h3)
   .cases ho
  .cases ho
 case extract x i=>
  obtain⟨x',hx,rfl⟩:=Aj ho;obtain⟨v,h1,h2⟩:=Ak h;cases v<;>try exact h2.elim
  rename_i vs;simp only at h2;split at h2
  .rename_i u hu
   obtain⟨c,e1,e2,e3⟩:=Ap he hx h1;obtain⟨d,hd,hr⟩:=BV.1 e3 i u hu;simp only[GM]at hd;refine A0 ?_
   have:(Instr.extract (a.eval x) i).run P w= .ok d w:=by
    rw[e1];simp only[Instr.extract,hd,EY]
   rw[this];exact Aw G h2 hr
  .exact h2.elim
 case nilCheck x=>
  obtain⟨x',hx,rfl⟩:=Aj ho;obtain⟨v,h1,h2⟩:=Ak h;have hev:=Ap he hx h1;cases v<;>try exact h2.elim
  case p n off=>
   have e:=hev;simp only[Ag]at e;simp only[e];exact⟨_,σ,h2,rfl,G,B2.refl _ _ _⟩
  case rp cs=>
   have hev':=hev;obtain⟨b,o',e,_⟩:=hev;simp only[e];rw[e]at hev';exact⟨_,σ,h2,hev',G,B2.refl _ _ _⟩
  case pe n sz i off=>
   have e:=hev;simp only[Ag]at e;simp only[e];exact⟨_,σ,h2,rfl,G,B2.refl _ _ _⟩
  case f fn first cap=>
   cases fn<;>try exact h2.elim
   all_goals
    have hev':=hev;obtain⟨f',c',e,_⟩:=hev;simp only[e];rw[e]at hev';exact⟨_,σ,h2,hev',G,B2.refl _ _ _⟩
 case typeAssert x xt t ok=>
  split at ho
  .cases ho
  .rename_i d hd hu
   split at ho
   .rename_i x' z hx hz
    cases ho;obtain⟨v,h1,h2⟩:=Ak h;have hev:=Ap he hx h1;obtain⟨c,hz3,hz4⟩:=EE hz w;have hzr:=GS (H:=Hh Λ σ w) hz4;cases v<;>try exact h2.elim
    case Eo t' u=>
     obtain⟨c',e,hr⟩:=hev;rw[e];refine A0 ?_;by_cases htt:t'=t
     .have:(Instr.typeAssert (.iface t' c') xt t ok).run P w= .ok (if ok then .tuple #[c',.bool true]else c') w:=by
       unfold Instr.typeAssert;simp only[C6,BE hu,GH];cases d<;>first|(simp[htt];done)|exact absurd hu (hd _)
      rw[this];refine Aw G (h2.1 htt) ?_;cases ok
      .exact hr
      .exact⟨_,rfl,rfl,⟨c',rfl,hr⟩,⟨_,rfl,rfl⟩,trivial⟩
     .obtain⟨rfl,h3⟩:=h2.2 htt
      have:(Instr.typeAssert (.iface t' c') xt t true).run P w= .ok (.tuple #[c,.bool false]) w:=by
       unfold Instr.typeAssert;simp only[C6,BE hu,GH];cases d<;>first|(simp[htt,hz3];done)|exact absurd hu (hd _)
      rw[this];exact Aw G h3 ⟨_,rfl,rfl,⟨c,rfl,hzr⟩,⟨_,rfl,rfl⟩,trivial⟩
    case DW=>
     simp only[Ag]at hev;rw[hev];obtain⟨rfl,h3⟩:=h2;refine A0 ?_
     have:(Instr.typeAssert .nilIface xt t true).run P w= .ok (.tuple #[c,.bool false]) w:=by
      unfold Instr.typeAssert;simp only[C6,BE hu,GH];cases d<;>first|(simp[hz3];done)|exact absurd hu (hd _)
     rw[this];exact Aw G h3 ⟨_,rfl,rfl,⟨c,rfl,hzr⟩,⟨_,rfl,rfl⟩,trivial⟩
   .cases ho
  .cases ho
 case panic x=>
  obtain⟨x',hx,rfl⟩:=Aj ho;obtain⟨v,h1,h2⟩:=Ak h;cases v<;>try exact h2.elim
  have hev:=Ap he hx h1;have hev':=hev;obtain⟨c',e,hr⟩:=hev;rw[e]at hev' ⊢;exact⟨_,σ,h2,hev',G,B2.refl _ _ _⟩
 case call c=>exact Xs o.type ho h he G
end Go.Gl
namespace Go.Gl
variable {P:Program} {Λ:Nat->Prop} {σ:AH} {w:World} {k kp:V->AH->Prop}
def o7 (P:Program) (t:TypeId) (y:Operand):Option Nat:=match P.underlying t,y with
 | some (.pointer _),.const (.pointer none)=>some 0
 | some (.slice _),.const (.slice none _ _)=>some 1
 | some (.interface _),.const .nilIface=>some 2
 | some (.map _ _),.const (.map none)=>some 3
 | some (.func _ _ _),.const .nilFunc=>some 4
 | _,_=>none
def HX (P:Program):Nat->List Field->Bool
 | _,[]=>true
 | j,f::fs=>isInt P f.type&&(decide (f.name≠ "_")&&(Nat.beq f.offset j&&HX P (j+1) fs))
def wW (P:Program) (neg:Bool) (t:TypeId) (x y:Operand):Option FY:=
 match o7 P t y with
 | some q=>(BL x).map (.cZ q neg)
 | none=>match P.underlying t with
   | some (.array n e)=>if isInt P e&& !P.eqGuardType P.depth t&&Nat.beq (P.cellsOf e) 1 then match BL x,BL y with|some x,some y=>some (.ja n neg x y)|_,_=>none else none
   | some (.struct fs)=>if HX P 0 fs.toList&& !P.eqGuardType P.depth t&& !P.stoodInHeld t then match BL x,BL y with|some x,some y=>some (.ja fs.size neg x y)|_,_=>none else none
   | _=>none
def dU (P:Program):Op->Option FY
 | .binOp op t x y _=>match op with
   | .eql=>wW P false t x y
   | .neq=>wW P true t x y
   | _=>none
 | .makeSlice t l c=>match P.underlying t with
   | some (.slice e)=>match J7 (zeroOf P e),P.info? e,BL l,BL c with
     | some z,some i,some l,some c=>if z.length=i.size/\0<i.size/\i.bytes<=4096 then some (.Fj i.size i.bytes z l c)else none
     | _,_,_,_=>none
   | _=>none
 | .index t x i=>match P.underlying t with
   | some .string=>match BL x,BL i with|some x,some i=>some (.Tw x i)|_,_=>none
   | _=>none
 | .convert s d x=>match P.underlying s,P.underlying d with
   | some (.slice e),some .string=>match P.underlying e with
     | some (.int .u8)=>(BL x).map .str
     | _=>none
   | _,_=>none
 | .buildSlice t 0 parts=>match P.underlying t with
   | some (.slice e)=>match Dt P e,parts.toList with
     | some _,[]=>some (.Gt 1 0 [] [])
     | _,_=>none
   | _=>none
 | _=>none
def QU {t e:TypeId} {z:List V} {i:TypeInfo} (hu:P.underlying t=some (.slice e)) (hz:J7 (zeroOf P e)=some z) (hi:P.info? e=some i) (hs:z.length=i.size/\0<i.size/\i.bytes<=4096)
    {vl vc:V} {cl cc:Value} (G:Rel Λ σ w) (hl:Ag (Hh Λ σ w) vl cl) (hc:Ag (Hh Λ σ w) vc cc) (h:AL σ i.size z vl vc k):CQ Λ σ w k kp ((Instr.makeSlice t cl cc).run P w):=by
 unfold AL at h;split at h
 .rename_i kl n kc m
  obtain⟨h0,hnm,hm,hk⟩:=h;obtain⟨rfl,_⟩:=hl;obtain⟨rfl,_⟩:=hc;obtain⟨v,hz1,hz2⟩:=GA hz;obtain⟨zc,hz3,hz4⟩:=EE hz1 w;obtain⟨h5,h6⟩:=Cl (GS (H:=Hh Λ σ w) hz4) hz2
  have hiz:i.zero=some zc:=by
   cases hq:i.zero with
   | none=>simp[zeroValue,typeInfo,hi,hq]at hz3
   | some q=>simp[zeroValue,typeInfo,hi,hq]at hz3;rw[hz3]
  have hb:(i.bytes:Int)*m<=281474976710656:=by
   have h1:(i.bytes:Int)*m<=4096*m:=Int.mul_le_mul_of_nonneg_right (by have:=hs.2.2;omega) (by omega);have h2:m<=1073741824:=hm;omega
  rw[run_make w t e i zc hu hi hiz kl kc n m h0 hnm hb (by omega)];have hlen:(List.replicate n.toNat z).length=n.toNat:=by simp
  refine⟨_,_,hk w.heap.size G.new,?_,HV G ?_,Dl _ _⟩
  .exact⟨rfl,by omega⟩
  .refine⟨_,_,rfl,by simp[madeCells],by simp only[hlen];omega,by simp only[hlen,Ay]at *;omega,?_⟩
   have hrow:=A9.1 (Iy hs.1 (by omega) h6 m.toNat);refine A9.2 fun j e hj=>hrow j e ?_
   rw[List.getElem?_replicate]at hj ⊢;split at hj
   .rw[if_pos (by omega)];exact hj
   .cases hj
 .exact h.elim
def Z1 (op:BinOp):Bool:=match op with| .neq=>true|_=>false
def Iv {t:TypeId} (op:BinOp) (hop:op= .eql\/op= .neq) (x y:Operand) {cx cy:Value} (hg:(eqGuard op t x y cx cy).run P w= .ok () w)
    (hb:binOp op t cx cy=if op= .eql then(do pure (.bool (<-Op.equal t cx cy)))else(do pure (.bool (!(<-Op.equal t cx cy))))) {r:Bool} (he:(Op.equal t cx cy).run P w= .ok r w) (G:Rel Λ σ w)
    (h:k (.b (bif Z1 op then !r else r)) σ):CQ Λ σ w k kp ((do eqGuard op t x y cx cy;binOp op t cx cy:Sem Value).run P w):=by
 simp only[C6,hg,GH];rw[hb];rcases hop with rfl|rfl
 .simp only[if_true,C6,he,GH,EY]
  exact Aw G h rfl
 .simp only[reduceCtorEq,if_false,C6,he,GH,EY]
  exact Aw G h rfl
section nils
variable {t:TypeId} (d:Nat)
def qK {e:TypeId} (hu:P.underlying t=some (.pointer e)):(Op.equalIn (d+1) t (.pointer none) (.pointer none)).run P w= .ok true w:=by simp only[Op.equalIn,C6,BE hu,Result.andThen,EY];rfl
def qJ {e:TypeId} {a:Addr} (hu:P.underlying t=some (.pointer e)):(Op.equalIn (d+1) t (.pointer (some a)) (.pointer none)).run P w= .ok false w:=by simp only[Op.equalIn,C6,BE hu,Result.andThen,EY]
def qI {e:TypeId} {l c l' c':Nat} (hu:P.underlying t=some (.slice e)):(Op.equalIn (d+1) t (.slice none l c) (.slice none l' c')).run P w= .ok true w:=by simp only[Op.equalIn,C6,BE hu,Result.andThen,EY];rfl
def ee {e:TypeId} {a:Addr} {l c l' c':Nat} (hu:P.underlying t=some (.slice e)):(Op.equalIn (d+1) t (.slice (some a) l c) (.slice none l' c')).run P w= .ok false w:=by simp only[Op.equalIn,C6,BE hu,Result.andThen,EY]
def qO {m:Array (String×TypeId)} (hu:P.underlying t=some (.interface m)):(Op.equalIn (d+1) t .nilIface .nilIface).run P w= .ok true w:=by simp only[Op.equalIn,C6,BE hu,Result.andThen,EY]
def qN {m:Array (String×TypeId)} {u:TypeId} {v:Value} (hu:P.underlying t=some (.interface m)):(Op.equalIn (d+1) t (.iface u v) .nilIface).run P w= .ok false w:=by simp only[Op.equalIn,C6,BE hu,Result.andThen,EY]
def qM {a b:TypeId} (hu:P.underlying t=some (.map a b)):(Op.equalIn (d+1) t (.map none) (.map none)).run P w= .ok true w:=by simp only[Op.equalIn,C6,BE hu,Result.andThen,EY];rfl
def qL {a b:TypeId} {n:Nat} (hu:P.underlying t=some (.map a b)):(Op.equalIn (d+1) t (.map (some n)) (.map none)).run P w= .ok false w:=by simp only[Op.equalIn,C6,BE hu,Result.andThen,EY]
def qQ {a b:Array TypeId} {v:Bool} (hu:P.underlying t=some (.func a b v)):(Op.equalIn (d+1) t .nilFunc .nilFunc).run P w= .ok true w:=by simp only[Op.equalIn,C6,BE hu,Result.andThen,EY]
def qP {a b:Array TypeId} {v:Bool} {fn:Fn} {f' c':Array Value} (hu:P.underlying t=some (.func a b v)):(Op.equalIn (d+1) t (.func fn f' c') .nilFunc).run P w= .ok false w:=by simp only[Op.equalIn,C6,BE hu,Result.andThen,EY]
end nils
def bT {t : TypeId} {q:Nat} (op:BinOp) (hop:op= .eql\/op= .neq) (x y:Operand) {cy:Value} (hq:o7 P t y=some q) (hy: ∀c,y= .const c->cy=c) (G:Rel Λ σ w) {vx:V} {cx:Value}
    (hx:Ag (Hh Λ σ w) vx cx) (h:IU q (Z1 op) vx fun v=>k v σ):CQ Λ σ w k kp ((do eqGuard op t x y cx cy;binOp op t cx cy:Sem Value).run P w):=by
 have fin: ∀ {r:Bool},(eqGuard op t x y cx cy).run P w= .ok () w->(binOp op t cx cy=if op= .eql then(do pure (.bool (<-Op.equal t cx cy)))else(do pure (.bool (!(<-Op.equal t cx cy)))))->(Op.equalIn 10000 t cx cy).run P w= .ok r w->
  k (.b (bif Z1 op then !r else r)) σ->CQ Λ σ w k kp ((do eqGuard op t x y cx cy;binOp op t cx cy:Sem Value).run P w):=fun hg hb he hk=>Iv op hop x y hg hb he G hk
 unfold o7 at hq;split at hq<;>first|(cases hq;done)|skip
 all_goals
  cases hq;have hc:=hy _ rfl;subst hc
 .rename_i hu
  unfold IU at h;split at h<;>first|exact h.elim|(rename_i h0;cases h0;done)|skip
  .simp only[Ag]at hx;subst hx
   refine fin (r:=true) ?_ ?_ (qK 9999 hu) ?_
   .unfold eqGuard;rcases hop with rfl|rfl<;>rfl
   .rcases hop with rfl|rfl<;>rfl
   .rcases hop with rfl|rfl<;>exact h
  all_goals
   first|(obtain⟨b,o,rfl,_⟩:=hx)|(simp only[Ag]at hx;subst hx)
   refine fin (r:=false) ?_ ?_ (qJ 9999 hu) ?_
   .unfold eqGuard;rcases hop with rfl|rfl<;>rfl
   .rcases hop with rfl|rfl<;>rfl
   .rcases hop with rfl|rfl<;>exact h
 .rename_i hu
  unfold IU at h;split at h<;>first|exact h.elim|(rename_i h0;cases h0;done)|skip
  .obtain⟨rfl,_⟩:=hx
   refine fin (r:=false) ?_ ?_ (ee 9999 hu) ?_
   .unfold eqGuard;rcases hop with rfl|rfl<;>rfl
   .rcases hop with rfl|rfl<;>rfl
   .rcases hop with rfl|rfl<;>exact h
  .rename_i es f _
   obtain⟨a,cap,rfl,h1,h2,h3,h4,h5⟩:=hx;cases a with
   | none=>
     refine fin (r:=true) ?_ ?_ (qI 9999 hu) ?_
     .unfold eqGuard;rcases hop with rfl|rfl<;>rfl
     .rcases hop with rfl|rfl<;>rfl
     .have:es= []:=by
       have:=h4 rfl;exact Zm.1 (by omega)
      exact h.1 this _
   | some a=>
     refine fin (r:=false) ?_ ?_ (ee 9999 hu) ?_
     .unfold eqGuard;rcases hop with rfl|rfl<;>rfl
     .rcases hop with rfl|rfl<;>rfl
     .by_cases he:es= []
      .exact h.1 he _
      .rcases hop with rfl|rfl<;>exact h.2 he
 .rename_i hu
  unfold IU at h;split at h<;>first|exact h.elim|(rename_i h0;cases h0;done)|skip
  .simp only[Ag]at hx;subst hx
   refine fin (r:=true) ?_ ?_ (qO 9999 hu) ?_
   .unfold eqGuard;rcases hop with rfl|rfl<;>simp
   .rcases hop with rfl|rfl<;>rfl
   .rcases hop with rfl|rfl<;>exact h
  .obtain⟨c',rfl,_⟩:=hx
   refine fin (r:=false) ?_ ?_ (qN 9999 hu) ?_
   .unfold eqGuard;rcases hop with rfl|rfl<;>rfl
   .rcases hop with rfl|rfl<;>rfl
   .rcases hop with rfl|rfl<;>exact h
 .rename_i hu
  unfold IU at h;split at h<;>first|exact h.elim|(rename_i h0;cases h0;done)|skip
  .simp only[Ag]at hx;subst hx
   refine fin (r:=true) ?_ ?_ (qM 9999 hu) ?_
   .unfold eqGuard;rcases hop with rfl|rfl<;>rfl
   .rcases hop with rfl|rfl<;>rfl
   .rcases hop with rfl|rfl<;>exact h
  .simp only[Ag]at hx;subst hx
   refine fin (r:=false) ?_ ?_ (qL 9999 hu) ?_
   .unfold eqGuard;rcases hop with rfl|rfl<;>rfl
   .rcases hop with rfl|rfl<;>rfl
   .rcases hop with rfl|rfl<;>exact h
 .rename_i hu
  unfold IU at h;split at h<;>first|exact h.elim|(rename_i h0;cases h0;done)|skip
  .simp only[Ag]at hx;subst hx
   refine fin (r:=true) ?_ ?_ (qQ 9999 hu) ?_
   .unfold eqGuard;rcases hop with rfl|rfl<;>rfl
   .rcases hop with rfl|rfl<;>rfl
   .rcases hop with rfl|rfl<;>exact h
  .obtain⟨f',c',rfl,_⟩:=hx
   refine fin (r:=false) ?_ ?_ (qP 9999 hu) ?_
   .unfold eqGuard;rcases hop with rfl|rfl<;>rfl
   .rcases hop with rfl|rfl<;>rfl
   .rcases hop with rfl|rfl<;>exact h
def NP {d : Nat} {e:TypeId} {ki:IntKind} (hue:P.underlying e=some (.int ki)) {xs ys:Array Value} {H:Nat->Nat->Option Value}: ∀(cs ds:List V) (j:Nat) (r:Bool),
    BO H (fun i=>xs[i]?) j cs->BO H (fun i=>ys[i]?) j ds->Bp cs ds=some r->(Op.eqItems (d+1) e 1 xs ys (List.range' j cs.length)).run P w= .ok r w
 | [],ds,j,r,_,_,h=>by
   cases ds with
   | nil=>simp only[Bp,II]at h;subst h;rfl
   | cons _ _=>simp[Bp]at h
 | c ::cs,ds,j,r,hx,hy,h=>by
   cases ds with
   | nil=>cases c<;>simp[Bp]at h
   | cons q ds=>
     cases c<;>first|(simp[Bp]at h;done)|skip
     cases q<;>first|(simp[Bp]at h;done)|skip
     rename_i k a k' b;simp only[Bp]at h;split at h
     .rename_i hk
      subst hk;obtain⟨⟨cx,h1,⟨rfl,_⟩⟩,h2⟩:=hx;obtain⟨⟨cy,h3,⟨rfl,_⟩⟩,h4⟩:=hy;obtain⟨r',h5,h6⟩:=Aj h;have hp:P.plainKey e=true:=by simp[Program.plainKey,hue]
      simp only[Lz,List.range'_succ,Op.eqItems,Nat.mul_one,C6,run_part_plain w hp h1,run_part_plain w hp h3,GH,run_equalIn_int w d e _ ki a b hue];have ih:=NP (d:=d) hue cs ds (j+1) r' h2 h4 h5;cases hab:(a==b)
      .rw[hab]at h6
       simp only[Bool.false_and]at h6;subst h6;simp
      .rw[hab]at h6
       simp only[D2]at h6;subst h6;simpa using ih
     .cases h
def bU {t e:TypeId} {n:Nat} (op:BinOp) (hop:op= .eql\/op= .neq) (x y:Operand) (hu:P.underlying t=some (.array n e)) (he:isInt P e=true) (hg:P.eqGuardType P.depth t=false) (h1:P.cellsOf e=1) (G:Rel Λ σ w) {vx vy:V} {cx cy:Value}
    (hx:Ag (Hh Λ σ w) vx cx) (hy:Ag (Hh Λ σ w) vy cy) (h:SF n (Z1 op) vx vy fun v=>k v σ):CQ Λ σ w k kp ((do eqGuard op t x y cx cy;binOp op t cx cy:Sem Value).run P w):=by
 unfold SF at h;split at h
 .rename_i cs ds
  obtain⟨xs,rfl,h2,h3⟩:=hx;obtain⟨ys,rfl,h4,h5⟩:=hy;split at h
  .rename_i r hl hr
   have hl:cs.length=n:=Ti hl;obtain⟨ki,hki⟩:=Qn he;have hi: ∃i,P.info? e=some i:=info_of_underlying hki;obtain⟨i,hi⟩:=hi;refine Iv op hop x y (r:=r) (run_eqGuard_agg w op t x y xs ys hg) ?_ ?_ G h
   .rcases hop with rfl|rfl<;>rfl
   .show(Op.equalIn (9999+1) t (.agg xs) (.agg ys)).run P w= .ok r w
    rw[run_equalIn_array w 9999 xs ys hu hi,h1,List.range_eq_range',<-hl];exact NP (d:=9998) hki cs ds 0 r h3 h5 hr
  .exact h.elim
 .exact h.elim
def Lu {d : Nat} {xs ys:Array Value} {H:Nat->Nat->Option Value}: ∀(fs:List Field) (cs ds:List V) (j:Nat) (r:Bool),HX P j fs=true->cs.length=fs.length->
    BO H (fun i=>xs[i]?) j cs->BO H (fun i=>ys[i]?) j ds->Bp cs ds=some r->(Op.eqFields (d+1) xs ys fs).run P w= .ok r w
 | [],cs,ds,j,r,_,hl,_,_,h=>by
   cases cs with
   | cons _ _=>cases hl
   | nil=>
     cases ds with
     | nil=>simp only[Bp,II]at h;subst h;rfl
     | cons _ _=>simp[Bp]at h
 | f ::fs,cs,ds,j,r,hf,hl,hx,hy,h=>by
   cases cs with
   | nil=>cases hl
   | cons c cs=>
   cases ds with
   | nil=>cases c<;>simp[Bp]at h
   | cons q ds=>
     cases c<;>first|(simp[Bp]at h;done)|skip
     cases q<;>first|(simp[Bp]at h;done)|skip
     rename_i k a k' b;simp only[Bp]at h;split at h
     .rename_i hk
      subst hk;simp only[HX,A8,Cm]at hf;obtain⟨f1,f2,f3,f4⟩:=hf;obtain⟨ki,hue⟩:=Qn f1;have f3:=Ti f3;obtain⟨⟨cx,h1,⟨rfl,_⟩⟩,h2⟩:=hx;obtain⟨⟨cy,h3,⟨rfl,_⟩⟩,h4⟩:=hy;obtain⟨r',h5,h6⟩:=Aj h;have hp:P.plainKey f.type=true:=by simp[Program.plainKey,hue]
      simp only[Op.eqFields];rw[if_pos f2,f3];simp only[C6,run_part_plain w hp h1,run_part_plain w hp h3,GH,run_equalIn_int w d f.type _ ki a b hue];have ih:=Lu (d:=d) fs cs ds (j+1) r' f4 (by simpa using hl) h2 h4 h5;cases hab:(a==b)
      .rw[hab]at h6
       simp only[Bool.false_and]at h6;subst h6;simp
      .rw[hab]at h6
       simp only[D2]at h6;subst h6;simpa using ih
     .cases h
def bS {t:TypeId} {fs:Array Field} (op:BinOp) (hop:op= .eql\/op= .neq) (x y:Operand) (hu:P.underlying t=some (.struct fs)) (he:HX P 0 fs.toList=true) (hg:P.eqGuardType P.depth t=false) (h1:P.stoodInHeld t=false) (G:Rel Λ σ w) {vx vy:V} {cx cy:Value}
    (hx:Ag (Hh Λ σ w) vx cx) (hy:Ag (Hh Λ σ w) vy cy) (h:SF fs.size (Z1 op) vx vy fun v=>k v σ):CQ Λ σ w k kp ((do eqGuard op t x y cx cy;binOp op t cx cy:Sem Value).run P w):=by
 unfold SF at h;split at h
 .rename_i cs ds
  obtain⟨xs,rfl,h2,h3⟩:=hx;obtain⟨ys,rfl,h4,h5⟩:=hy;split at h
  .rename_i r hl hr
   have hl:cs.length=fs.size:=Ti hl;have hfs:P.fieldsOf t=fs:=by simp[Program.fieldsOf,hu]
   refine Iv op hop x y (r:=r) (run_eqGuard_agg w op t x y xs ys hg) ?_ ?_ G h
   .rcases hop with rfl|rfl<;>rfl
   .show(Op.equalIn (9999+1) t (.agg xs) (.agg ys)).run P w= .ok r w
    rw[run_equalIn_struct w 9999 t xs ys (by rw[hfs];exact hu) h1,hfs];exact Lu (d:=9998) fs.toList cs ds 0 r he (by simpa using hl) h3 h5 hr
  .exact h.elim
 .exact h.elim
def PZ: ∀ {ys:List (List V)} {ns:List Int},Eu ys=some ns->ns.length=ys.length/\ ∀(i:Nat) (n:Int),ns[i]? =some n->ys[i]? =some [V.i .u8 n]
 | [],ns,h=>by
   cases h;exact⟨rfl,fun _ _ h=>by simp at h⟩
 | e ::r,ns,h=>by
   unfold Eu at h;split at h
   .cases ‹_= []›
   .rename_i n r' he
    cases he;split at h
    .rename_i l hl
     cases h;obtain⟨h1,h2⟩:=PZ hl;refine⟨by simp[h1],fun i m hi=>?_⟩;cases i with
     | zero=>simp at hi;subst hi;rfl
     | succ i=>exact h2 i m (by simpa using hi)
    .cases h
   .cases h
def bQ {s d e:TypeId} (hs:P.underlying s=some (.slice e)) (hd:P.underlying d=some .string) (he:P.underlying e=some (.int .u8)) (G:Rel Λ σ w) {vx:V} {cx:Value} (hx:Ag (Hh Λ σ w) vx cx) (h:dI σ vx fun v=>k v σ) :
    CQ Λ σ w k kp ((convert s d cx).run P w):=by
 obtain⟨ys,base,cap,U,rfl,_,hc⟩:=KF G hx h;cases hn:Eu ys with
 | none=>rw[hn]at U;exact U.elim
 | some ns=>
   rw[hn]at U;obtain⟨h1,h2⟩:=PZ hn
   have fin:(convert s d (.slice base ys.length cap)).run P w= .ok (.string ⟨(ns.map fun n=>UInt8.ofNat n.toNat).toArray⟩) w->CQ Λ σ w k kp ((convert s d (.slice base ys.length cap)).run P w):=fun e=>by
    rw[e];exact Aw G U rfl
   have nilB: ∀ {l c:Nat},ys= []->(convert s d (.slice none l c)).run P w= .ok (.string ⟨(ns.map fun n=>UInt8.ofNat n.toNat).toArray⟩) w:=fun e=>by
    subst e;simp only[Eu,II]at hn;subst hn;exact run_convert_bytes_nil w s e hs he _ _ d hd
   have main: ∀ {b o:Nat} {g:Nat->Option Value},base=some ⟨b,o,none⟩->(∀i c,g i=some c->w.cell? ⟨b,i,none⟩=some c)->BC (Hh Λ σ w) g 1 o ys->(convert s d (.slice base ys.length cap)).run P w= .ok (.string ⟨(ns.map fun n=>UInt8.ofNat n.toNat).toArray⟩) w:=fun {b o g} hb hg hr=>by
    subst hb;refine run_convert_bytes_arg w s e hs he b o ys.length cap ns h1 (fun i hi=>?_) d hd;have hi':i<ns.length:=by omega
    have h3:=h2 i ns[i] (ES hi');obtain⟨_,h4⟩:=A9.1 hr i _ h3;simp only[BO]at h4;obtain⟨⟨c,h5,h6⟩,_⟩:=h4;obtain⟨rfl,_⟩:=h6;have:=hg _ _ h5;simp only[Nat.mul_one]at this;rw[this];simp[List.getD,ES hi']
   refine fin ?_;rcases hc with hc|⟨b,o,g,hb,hg,hr⟩
   .cases base with
    | none=>exact nilB hc
    | some a=>
      subst hc;simp only[Eu,II]at hn;subst hn;rw[run_convert_bytes_string w s d e _ _ cap hs he hd];exact run_bytesToString w a 0 cap [] (by unfold loadCells loadCellsFrom;rfl)
   .exact main hb hg hr
def Xt {t:TypeId} (hu:P.underlying t=some .string) (G:Rel Λ σ w) {vx vi:V} {cx ci:Value} (hx:Ag (Hh Λ σ w) vx cx) (hi:Ag (Hh Λ σ w) vi ci) (h:OU vx vi fun v=>k v σ):CQ Λ σ w k kp ((Instr.index t cx ci).run P w):=by
 unfold OU at h;split at h
 .rename_i b ki j
  obtain⟨h0,h⟩:=h;have hx':cx= .string b:=hx;subst hx';obtain⟨rfl,_⟩:=hi;split at h
  .rename_i c hc
   have hb:b[j.toNat]? =some c:=by
    rw[Array.getElem?_toList]at hc;obtain⟨h1,h2⟩:=oT.1 hc;rw[getElem?_pos b j.toNat h1];exact congrArg some h2
   simp only[Instr.index,C6,asIntOf,EY,Result.andThen,BE hu,h0,if_true,hb];have:=UInt8.toNat_lt c;exact Aw G h ⟨rfl,by simp only[IntKind.min,IntKind.max,IntKind.signed,IntKind.bits];simp<;>omega⟩
  .exact h.elim
 .exact h.elim
def V1 {env : Env} {a:Act} {o:Oper} {ao:FY} (ho:dU P o.op=some ao) (h:E5 P ao env σ k kp) (he:CE (Hh Λ σ w) env a.tmps) (G:Rel Λ σ w) :
    Good P Λ σ w k kp ((execOp a.eval o).run P w):=by
 have heq: ∀ {op:BinOp} {t yt:TypeId} {x y:Operand},(op= .eql\/op= .neq)->wW P (Z1 op) t x y=some ao->o.op= .binOp op t x y yt->Good P Λ σ w k kp ((execOp a.eval o).run P w):=fun {op t yt x y} hop hr hoo=>by
  unfold execOp;rw[hoo];dsimp only;unfold wW at hr;split at hr
  .rename_i q hq
   obtain⟨x',hx,rfl⟩:=Aj hr;obtain⟨vx,h1,h2⟩:=Ak h;exact A0 (bT op hop x y hq (fun c hc=>by rw[hc];rfl) G (Ap he hx h1) h2)
  .split at hr
   .rename_i n e hu
    split at hr
    .rename_i hc
     simp only[A8,Bool.not_eq_true']at hc;split at hr
     .rename_i x' y' hx hy
      cases hr;obtain⟨vx,h1,g⟩:=Ak h;obtain⟨vy,h2,h3⟩:=Ak g;exact A0 (bU op hop x y hu hc.1.1 hc.1.2 (Ti hc.2) G (Ap he hx h1) (Ap he hy h2) h3)
     .cases hr
    .cases hr
   .rename_i fs hu
    split at hr
    .rename_i hc
     simp only[A8,Bool.not_eq_true']at hc;split at hr
     .rename_i x' y' hx hy
      cases hr;obtain⟨vx,h1,g⟩:=Ak h;obtain⟨vy,h2,h3⟩:=Ak g;exact A0 (bS op hop x y hu hc.1.1 hc.1.2 hc.2 G (Ap he hx h1) (Ap he hy h2) h3)
     .cases hr
    .cases hr
   .cases hr
 unfold dU at ho;split at ho
 .rename_i op t x y yt hop
  split at ho
  .exact heq (.inl rfl) ho hop
  .exact heq (.inr rfl) ho hop
  .cases ho
 .rename_i t l c hop
  split at ho
  .rename_i e hu
   split at ho
   .rename_i z i l' c' hz hi hl hc
    split at ho
    .rename_i hs
     cases ho;obtain⟨vl,h1,g⟩:=Ak h;obtain⟨vc,h2,h3⟩:=Ak g;unfold execOp;rw[hop];dsimp only;exact A0 (QU hu hz hi hs G (Ap he hl h1) (Ap he hc h2) h3)
    .cases ho
   .cases ho
  .cases ho
 .rename_i t x i hop
  split at ho
  .rename_i hu
   split at ho
   .rename_i x' i' hx hi
    cases ho;obtain⟨vx,h1,g⟩:=Ak h;obtain⟨vi,h2,h3⟩:=Ak g;unfold execOp;rw[hop];exact A0 (Xt hu G (Ap he hx h1) (Ap he hi h2) h3)
   .cases ho
  .cases ho
 .rename_i s d x hop
  split at ho
  .rename_i e hs hd
   split at ho
   .rename_i he8
    obtain⟨x',hx,rfl⟩:=Aj ho;obtain⟨vx,h1,h2⟩:=Ak h;unfold execOp;rw[hop];exact A0 (bQ hs hd he8 G (Ap he hx h1) h2)
   .cases ho
  .cases ho
 .rename_i t parts hop
  split at ho
  .rename_i e hu
   split at ho
   .rename_i sz hsz hp
    cases ho;simp only[E5]at h;obtain⟨fs,h1,h3⟩:=Yb h;simp only[Ib,List.replicate,II]at h1;subst h1
    have hps:parts= #[]:=by
     cases parts;simp at hp;rw[hp]
    subst hps;unfold execOp;rw[hop];dsimp only
    have hrun:(Instr.buildSlice t 0 ((#[]:Array (Nat×Operand)).map fun(i,x)=>(i,a.eval x))).run P w= .ok (.slice (some ⟨w.heap.size,0,none⟩) 0 0) (w.alloc (.cells #[] e)):=by
     unfold Instr.buildSlice;have hns: ¬0 > 2 ^ 24:=by omega
     simp only[C6,BE hu,GH,Dz hsz,Nat.zero_mul,hns,if_false,if_true,EY];have hz: ∀g:Nat->Value,(Array.range 0).map g= #[]:=fun g=>by simp[Array.range]
     rw[hz];simp only[List.map_toArray,List.map_nil,Instr.fill];rfl
    refine A0 ?_;rw[hrun];exact⟨_,σ,h3,⟨_,0,rfl,IN _,fun _=>rfl,Nat.zero_le _,fun h=>(by cases h),fun h=>absurd rfl h⟩,KH G _,Hy w _⟩
   .cases ho
  .cases ho
 .cases ho
def ox (P:Program) (o:Op):Option FY:=match wz P o with|some a=>some a|none=>dU P o
def Xf {env:Env} {a:Act} {o:Oper} {ao:FY} (ho:ox P o.op=some ao) (h:E5 P ao env σ k kp) (he:CE (Hh Λ σ w) env a.tmps) (G:Rel Λ σ w) :
    Good P Λ σ w k kp ((execOp a.eval o).run P w):=by
 unfold ox at ho;split at ho
 .rename_i h';cases ho;exact ak h' h he G
 .exact V1 ho h he G
end Go.Gl
