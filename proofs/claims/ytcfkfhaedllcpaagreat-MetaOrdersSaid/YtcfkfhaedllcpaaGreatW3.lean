import Derived.Laws.AppendOwn
import Derived.Laws.Tables
import Derived.Great.BuildSlice
import Derived.Test.YtcfkfhaedllcpaaGreatW2
set_option linter.all false
set_option linter.defProp false
set_option maxHeartbeats 8000000
noncomputable section
namespace Go.Gl
variable {P:Program} {F:Nat->Prop} {Z:AE} {w:World} {k kp:V->AE->Prop}
def Tq {n sz j:Nat} (h:j<n*sz):j / sz<n/\j % sz<sz:=by
 have hs:0<sz:=by
  rcases Nat.eq_zero_or_pos sz with h0|h0
  .subst h0;simp at h
  .exact h0
 exact⟨(Nat.div_lt_iff_lt_mul hs).2 h,Nat.mod_lt _ hs⟩
def Jp {H:Nat->Nat->Option Value} {g:Nat->Option Value} {sz o:Nat} {es:List (List V)} (h:BH H g sz o es) :
    ∃cs:List Value,cs.length=es.length*sz/\(∀j v,cs[j]? =some v->g (o+j)=some v)/\BH H (fun i=>cs[i]?) sz 0 es:=by
 have hex: ∀j,j<es.length*sz-> ∃c,g (o+j)=some c:=fun j hj=>by
  obtain⟨h1,h2⟩:=Tq hj;obtain⟨h3,h4⟩:=BE.1 h (j / sz) es[j / sz] (Cy h1);obtain⟨c,hc,_⟩:=BW.1 h4 (j % sz) _ (Cy (by omega));refine⟨c,?_⟩;rw[<-hc];congr 1;have:=Nat.div_add_mod' j sz;omega
 refine⟨(List.range (es.length*sz)).map fun j=>(g (o+j)).getD undef,by simp,fun j v hv=>?_,?_⟩
 .have hlt:j<es.length*sz:=by simpa using(IN.1 hv).1
  rw[Md,List.getElem?_range hlt]at hv;obtain⟨c,hc⟩:=hex j hlt;simp[hc]at hv;rw[hc,hv]
 .rw[BE]at *
  intro i e he;obtain⟨h1,h2⟩:=h i e he;refine⟨h1,BA h2 (fun q hq=>?_)⟩;have hi:=(IN.1 he).1
  have hlt:0+i*sz+q<es.length*sz:=by
   have:(i+1)*sz<=es.length*sz:=UW _ hi;rw[Nat.succ_mul]at this;omega
  obtain⟨c,hc⟩:=hex _ hlt;rw[Md,List.getElem?_range hlt];rw[show o+i*sz+q=o+(0+i*sz+q) by omega,hc];simp only[W6,hc,Option.getD_some]
def Gh {H:Nat->Nat->Option Value} {g:Nat->Option Value} {sz o:Nat} {es fs:List (List V)} (h:BH H g sz o es) (k:BH H g sz (o+es.length*sz) fs):BH H g sz o (es++fs):=by
 rw[BE]at *;intro i e he;rw[List.getElem?_append]at he;split at he
 .exact h i e he
 .rename_i hlt
  obtain⟨h1,h2⟩:=k _ e he;refine⟨h1,?_⟩
  have:o+es.length*sz+(i - es.length)*sz=o+i*sz:=by
   rw[Nat.add_assoc,<-Nat.add_mul];congr 2;omega
  rw[<-this];exact h2
def EN {H:Nat->Nat->Option Value} {g g':Nat->Option Value} {sz o o':Nat} {es:List (List V)} (h:BH H g sz o es) (hg: ∀j,j<es.length*sz->g' (o'+j)=g (o+j)):BH H g' sz o' es:=by
 rw[BE]at *;intro i e he;obtain⟨h1,h2⟩:=h i e he;refine⟨h1,BA h2 (fun q hq=>?_)⟩;have hi:=(IN.1 he).1
 have hlt:i*sz+q<es.length*sz:=by
  have:(i+1)*sz<=es.length*sz:=UW _ hi;rw[Nat.succ_mul]at this;omega
 have:=hg _ hlt;rw[Nat.add_assoc,Nat.add_assoc];exact this
def HY {H:Nat->Nat->Option Value} {g:Nat->Option Value} {sz o:Nat} {es:List (List V)} (h:BH H g sz o es) (n:Nat):BH H g sz o (es.take n):=by
 rw[BE]at *;intro i e he;rw[List.getElem?_take]at he;split at he
 .exact h i e he
 .cases he
def NL {H:Nat->Nat->Option Value} {g:Nat->Option Value} {sz o:Nat} {es:List (List V)} (h:BH H g sz o es) (n:Nat):BH H g sz (o+n*sz) (es.drop n):=by
 rw[BE]at *;intro i e he;rw[vS]at he;obtain⟨h1,h2⟩:=h _ e he;refine⟨h1,?_⟩;rw[Nat.add_mul,<-Nat.add_assoc]at h2;exact h2
def JE {H:Nat->Nat->Option Value} {g:Nat->Option Value} {sz o:Nat} {es:List (List V)} (h:BH H g sz o es) {e:List V} (he:e∈es):e.length=sz:=by
 obtain⟨i,hi⟩:=List.mem_iff_getElem?.1 he;exact(BE.1 h i e hi).1
def Kt (hR:Rel F Z w) {sz:Nat} {vy:V} {cy:Value} (hy:Ab (Hh F Z w) vy cy) {K:List (List V)->Prop} (h:rowsOf Z sz vy K) :
    ∃ ys base cap,K ys/\cy= .slice base ys.length cap/\(∀e∈ys,e.length=sz)/\
      (ys= []\/ ∃b o g,base=some ⟨b,o,none⟩/\(∀i c,g i=some c->w.cell? ⟨b,i,none⟩=some c)/\BH (Hh F Z w) g sz o ys):=by
 cases vy<;>simp only[rowsOf]at h
 .rename_i ys full
  obtain⟨hl,h⟩:=h;obtain⟨a,cap,rfl,_,_,_,_,h6⟩:=hy;refine⟨ys,a,cap,h,rfl,hl,?_⟩;by_cases hne:ys= []
  .exact .inl hne
  .obtain⟨b,o,s,rfl,h7⟩:=h6 hne
   right;obtain⟨e,r,rfl⟩:=List.exists_cons_of_ne_nil hne;have:s=sz:=by rw[<-hl e (by simp)];exact(JE h7 (by simp)).symm
   subst this;exact⟨b,o,_,rfl,fun i c hc=>(Fu hc).2.2,h7⟩
 .rename_i m len cap
  split at h
  .rename_i s ys c hs
   obtain⟨rfl,hle,h⟩:=h;obtain⟨rfl,_⟩:=hy;obtain⟨c',e,h1,h2,h3,h4,h5⟩:=Er hR hs;refine⟨_,_,cap,h,by simp[Nat.min_eq_left hle],fun e he=>JE h5 (List.mem_of_mem_take he),.inr ⟨m,0,_,rfl,fun i c hc=>?_,HY h5 _⟩⟩;rw[DM h1];exact hc
  .exact h.elim
 .rename_i m s off len
  split at h
  .rename_i s' ys c hs
   obtain⟨rfl,rfl,hle,h⟩:=h;obtain⟨a,cap,rfl,_,h6⟩:=hy;obtain⟨c',e,h1,h2,h3,h4,h5⟩:=Er hR hs;refine⟨_,a,cap,h,by simp;omega,fun e he=>JE h5 (List.mem_of_mem_drop (List.mem_of_mem_take he)),?_⟩;by_cases h0:len=0
   .left;simp[h0]
   .right
    obtain rfl:=h6 h0;refine⟨m,off*s',_,rfl,fun i c hc=>?_,HY (by have:=NL h5 off;simpa using this) _⟩;rw[DM h1];exact hc
  .exact h.elim
def K9 (t ty e:TypeId) (i:TypeInfo) (ht:P.underlying t=some (.slice e)) (hi:P.info? e=some i) (base:Option Addr) (n cap:Nat) (hn:n<=cap) (b2:Option Addr) (c2:Nat) :
    (Builtin.append_ #[t,t] ty #[.slice base n cap,.slice b2 0 c2]).run P w= .ok (.slice base n cap) w:=by
 cases base<;>cases b2<;>simp[Builtin.append_,run_underlying ht,sizeOf,typeInfo,hi,Builtin.lenOf,hn,Builtin.firstCells,loadCells,loadCellsFrom,storeCells]
def Ww {o:O} {ob:Obj} {n:Nat}:Bu F Z w (Bd (del Z n) w.heap.size o) (w.drew.alloc ob) where
 frame m hm _:=RowKit.Below.heap_alloc _ _ _ hm
 size:=by simp
 os:=rfl
 tape:=rfl
 output:=rfl
 names m h0 hm:=by
  rw[CY _ _ (by omega)];by_cases e:m=n
  .subst e;exact DL _ _
  .rw[G0 _ e];exact h0
def UP {t e : TypeId} {i:TypeInfo} {z:Value} (ty:TypeId) (ht:P.underlying t=some (.slice e)) (hi:P.info? e=some i) (hz:i.zero=some z) (hzs:z.cells.size=i.size) (hb:i.bytes<=4096)
    (hR:Rel F Z w) {vx vy:V} {cx cy:Value} (hx:Ab (Hh F Z w) vx cx) (hy:Ab (Hh F Z w) vy cy) (h:AJ i.bytes Z i.size vx vy k) :
    CW F Z w k kp ((Builtin.append_ #[t,t] ty #[cx,cy]).run P w):=by
 have h':=Kt hR hy h;clear h;obtain⟨ys,base,c2,⟨hone,h⟩,rfl,hyl,hys⟩:=h'
 have hnews:ys≠[]-> ∃b o,base=some ⟨b,o,none⟩/\ ∃news:List Value,news.length=ys.length*i.size/\(∀j v,news[j]? =some v->w.cell? ((⟨b,o,none⟩:Addr).add j)=some v)/\
  BH (Hh F Z w) (fun q=>news[q]?) i.size 0 ys/\ ∀u∈news,u.oneCell'=true:=fun hne=>by
  rcases hys with hys|⟨b,o,g,rfl,hg,hrow⟩
  .exact absurd hys hne
  .obtain⟨news,h1,h2,h3⟩:=Jp hrow
   refine⟨b,o,rfl,news,h1,fun j v hv=>by rw[Ch];exact hg _ _ (h2 j v hv),h3,fun u hu=>?_⟩;obtain⟨j,hj⟩:=List.mem_iff_getElem?.1 hu;have hlt:j<ys.length*i.size:=by rw[<-h1];exact(IN.1 hj).1
   obtain⟨h4,h5⟩:=Tq hlt;obtain⟨h6,h7⟩:=BE.1 h3 (j / i.size) _ (Cy h4);obtain⟨c,hc,hr⟩:=BW.1 h7 (j % i.size) _ (Cy (by omega));have hdm:=Nat.div_add_mod' j i.size;rw[show 0+j / i.size*i.size+j % i.size=j by omega,hj]at hc;cases hc;exact Pc hr (hone _ (List.getElem_mem h4) _ (List.getElem_mem _))
 have grown: ∀(es:List (List V)) (olds news:List Value) (L cap n:Nat),olds.length=es.length*i.size->news.length=ys.length*i.size->BH (Hh F Z w) (fun q=>olds[q]?) i.size 0 es->BH (Hh F Z w) (fun q=>news[q]?) i.size 0 ys->
  L=es.length+ys.length->L<=AY->
  (∀n' cap',del Z n n'=none->L<=cap'->k (.sl n' L cap') (Bd (del Z n) n' (.arr i.size (es++ys) cap')))->
  CW F Z w k kp (.ok (.slice (some ⟨w.heap.size,0,none⟩) L (grownCap w L cap e)) (w.drew.alloc (.cells (olds.toArray++news.toArray++Builtin.zeroCells z.cells (grownCap w L cap e - L)) e))):=by
  intro es olds news L cap n ho hn hro hrn hL hLm hk;have hge:=grownCap_ge w L cap e;have ha:Bu F Z w (Bd (del Z n) w.heap.size (.arr i.size (es++ys) (grownCap w L cap e))) (w.drew.alloc (.cells (olds.toArray++news.toArray++Builtin.zeroCells z.cells (grownCap w L cap e - L)) e)):=Ww
  have hfresh:del Z n w.heap.size=none:=by
   unfold del;split
   .rfl
   .exact hR.new
  refine⟨_,_,hk w.heap.size _ hfresh hge,⟨rfl,hge⟩,?_,ha⟩;refine hR.step ha fun m o' hm=>?_
  by_cases em:m=w.heap.size
  .subst em
   rw[C2]at hm;cases hm;refine .inr ⟨fun hl=>absurd (hR.lock _ hl) (Nat.lt_irrefl _),_,heap_alloc_new w.drew _,_,e,rfl,?_,by simp;omega,by simp;omega,?_⟩
   .refine Nat.le_of_eq (Eq.symm ?_)
    simp only[Array.size_append,List.size_toArray,size_zeroCells,hzs,ho,hn,<-Nat.add_mul];congr 1;omega
   .refine Gh (BH.mono ha.hle (fun _ _ e=>e) _ _ _ (EN hro fun j hj=>?_)) (BH.mono ha.hle (fun _ _ e=>e) _ _ _ (EN hrn fun j hj=>?_))
    .simp only[Gj]
     rw[Array.getElem?_append_left (by simp[ho,hn];omega),Array.getElem?_append_left (by simp[ho];omega)];simp
    .simp only[Gj]
     rw[Array.getElem?_append_left (by simp[ho,hn];omega),Array.getElem?_append_right (by simp[ho])];simp[ho]
  .rw[CY _ _ em]at hm
   have hmn:m≠n:=fun e=>by rw[e,DL]at hm;cases hm
   rw[G0 _ hmn]at hm;exact .inl ⟨hm,heap_alloc_old w.drew _ _ (hR.lt hm)⟩
 by_cases hne:ys= []
 .subst hne
  have hrun: ∀(n cap:Nat) (b:Option Addr),n<=cap->(Builtin.append_ #[t,t] ty #[.slice b n cap,.slice base ([]:List (List V)).length c2]).run P w= .ok (.slice b n cap) w:=fun n cap b hn=>K9 t ty e i ht hi b n cap hn base c2
  cases vx<;>simp only at h
  .rename_i es full
   obtain⟨_,_,h,_⟩:=h;have hx':=hx;obtain⟨a,cap,rfl,h2,_⟩:=hx;rw[hrun _ _ _ h2];exact As hR (h trivial) hx'
  .rename_i n len cap
   split at h
   .rename_i s es c hs
    obtain⟨rfl,rfl,rfl,hm,h⟩:=h;have hx':=hx;obtain⟨rfl,h2⟩:=hx;rw[hrun _ _ _ h2];have:=h n c (DL _ _) (by simpa using h2);simp only[List.length_nil,Nat.add_zero,Ip]at this
    have e:Bd (del Z n) n (.arr i.size es c)=Z:=by
     funext m;unfold Bd del;split
     .rename_i e;rw[e,hs]
     .rfl
    rw[e]at this;exact As hR this hx'
   .exact h.elim
 .obtain ⟨b,o,rfl,news,hnl,hnc,hnr,hn1⟩:=hnews hne
  have hpos:0<ys.length:=List.length_pos_iff.2 hne;cases vx<;>simp only at h
  .rename_i es full
   obtain⟨hel,hm,_,h⟩:=h;obtain⟨rfl,hkk⟩:=h hne;obtain⟨a,cap,rfl,h2,h3,h4,h5,h6⟩:=hx;obtain rfl:=h3 rfl
   have hk': ∀n' cap',del Z w.heap.size n'=none->es.length+ys.length<=cap'->k (.sl n' (es.length+ys.length) cap') (Bd (del Z w.heap.size) n' (.arr i.size (es++ys) cap')):=by
    have hd:del Z w.heap.size=Z:=by
     funext m;unfold del;split
     .rename_i e;rw[e,hR.new]
     .rfl
    rw[hd];exact hkk
   cases a with
   | none=>
     have h0:es.length=0:=by simpa using h5 rfl
     obtain rfl:es= []:=List.eq_nil_of_length_eq_zero h0;simp only[List.length_nil,Gj]at hm hk' ⊢;rw[run_append_nil w t ty e i z ht hi hz ⟨b,o,none⟩ ys.length c2 news hnl hnc hpos (by have:=hm.1;unfold AY at this;omega) (by have:=hm.2;omega)];have hgo:=grown [] [] news ys.length 0 w.heap.size (by simp) hnl trivial hnr (by simp) hm.1 hk';simpa using hgo
   | some a=>
     have holds: ∃olds:List Value,olds.length=es.length*i.size/\(∀j v,olds[j]? =some v->w.cell? (a.add j)=some v)/\BH (Hh F Z w) (fun q=>olds[q]?) i.size 0 es:=by
      by_cases hes:es= []
      .subst hes;exact⟨[],by simp,by simp,trivial⟩
      .obtain⟨b',o',s,ha,h7⟩:=h6 hes
       cases ha;obtain⟨e0,r,rfl⟩:=List.exists_cons_of_ne_nil hes;have:s=i.size:=by rw[<-hel e0 (by simp)];exact(JE h7 (by simp)).symm
       subst this;obtain⟨olds,h8,h9,h10⟩:=Jp h7;exact⟨olds,h8,fun j v hv=>by rw[Ch];exact(Fu (h9 j v hv)).2.2,h10⟩
     obtain⟨olds,h8,h9,h10⟩:=holds;rw[run_append_grow w t ty e i z ht hi hz a es.length es.length olds h8 h9 ⟨b,o,none⟩ ys.length c2 news hnl hnc (by omega) (by have:=hm.1;unfold AY at this;omega) (growslice_fits (by omega) hm.2)];exact grown es olds news _ _ w.heap.size h8 hnl h10 hnr rfl hm.1 hk'
  .rename_i n len cap
   split at h
   .rename_i s es c hs
    obtain⟨rfl,rfl,rfl,hm,h⟩:=h;obtain⟨rfl,h2⟩:=hx;obtain⟨cur,et,h3,h4,h5,h6,h7⟩:=Er hR hs;by_cases hroom:es.length+ys.length<=c
    ·
     have hmul:(es.length+ys.length)*i.size<=c*i.size:=UW _ hroom;rw[Nat.add_mul]at hmul;have hcell:et=et:=rfl;have hrunF:=run_firstCells_some (P:=P) w i.size ys.length ⟨b,o,none⟩ ys.length c2 news hnl hnc;have hst:=Ci (P:=P) news w cur (es.length*i.size) 0 h3 (by omega) hn1;simp only[Nat.add_zero]at hst
     have hrun:(Builtin.append_ #[t,t] ty #[.slice (some ⟨n,0,none⟩) es.length c,.slice (some ⟨b,o,none⟩) ys.length c2]).run P w =
      .ok (.slice (some ⟨n,0,none⟩) (es.length+ys.length) c) (CO w n (.cells (Cu cur (es.length*i.size) news) et (0,0))):=by
      simp[Builtin.append_,run_underlying ht,sizeOf,typeInfo,hi,Builtin.lenOf,hroom,hrunF,Ch,hst]
     rw[hrun];have hk:=h n c (DL _ _) hroom
     have eu:Bd (del Z n) n (.arr i.size (es++ys) c)=Bd Z n (.arr i.size (es++ys) c):=by
      funext m;unfold Bd del;split
      .rfl
      .rfl
     rw[eu]at hk;refine⟨_,_,hk,⟨rfl,hroom⟩,JV hR hs ⟨_,et,rfl,by rw[Dq];exact h4,by simp;omega,by simp;omega,?_⟩,Gf hs _ _⟩;refine Gh (EN h7 fun j hj=>?_) (EN hnr fun j hj=>?_)
     .exact DD _ _ _ _ (by omega)
     .simp only[Gj]
      exact F3 _ _ _ _ (by omega) (by omega)
    .obtain⟨olds,h8,h9,h10⟩:=Jp h7
     rw[run_append_grow w t ty e i z ht hi hz ⟨n,0,none⟩ es.length c olds h8 (fun j v hv=>by rw[Ch,DM h3];simpa using h9 j v hv) ⟨b,o,none⟩ ys.length c2 news hnl hnc (by omega) (by have:=hm.1;unfold AY at this;omega)
      (growslice_fits (by omega) hm.2)]
     exact grown es olds news _ _ n h8 hnl h10 hnr rfl hm.1 h
   .exact h.elim
end Go.Gl
namespace Go.Gl
variable {P:Program} {F:Nat->Prop} {Z:AE} {w:World} {k kp:V->AE->Prop}
def YI (hR:Rel F Z w) {n sz cap:Nat} {es:List (List V)} (hs:Z n=some (.arr sz es cap)):BH (Hh F (del Z n) w) (Hh F (del Z n) w n) sz 0 es/\es.length<=cap/\es.length<=AY:=by
 obtain⟨c,e,h1,h2,h3,h4,h5⟩:=Er hR hs;refine⟨BH.mono (Et fun m hm=>(Fo Z n).none hm) (fun i v hv=>?_) _ _ _ h5,h3,h4⟩;rw[N0 (hR.own n _ hs).1 (DL Z n),DM h1];exact hv
def cB (hR:Rel F Z w) {n sz cap:Nat} {es:List (List V)} (hs:Z n=some (.arr sz es cap)):Rel F (Bd Z n (.arr sz es es.length)) w/\Bu F Z w (Bd Z n (.arr sz es es.length)) w:=by
 have hh:Hh F (Bd Z n (.arr sz es es.length)) w=Hh F Z w:=by
  funext b o
  have e:(Bd Z n (.arr sz es es.length) b).isSome=(Z b).isSome:=by
   by_cases e:b=n
   .rw[e,C2,hs];rfl
   .rw[CY _ _ e]
  unfold Hh;by_cases hl:F b\/(Z b).isSome=true
  .rw[if_pos hl,if_pos (by rw[e];exact hl)]
  .rw[if_neg hl,if_neg (by rw[e];exact hl)]
 refine⟨⟨fun m o ho=>?_,hR.lock⟩,⟨fun _ _ _=>rfl,Io _,rfl,rfl,rfl,fun m hm _=>?_⟩⟩
 .rw[hh]
  by_cases e:m=n
  .subst e
   rw[C2]at ho;cases ho;obtain⟨h1,ob,h2,c,ce,h3,h4,h5,h6,h7⟩:=hR.own m _ hs;exact⟨h1,ob,h2,c,ce,h3,Nat.le_trans (UW _ h5) h4,Io _,h6,h7⟩
  .rw[CY _ _ e]at ho
   exact hR.own m o ho
 .have e:m≠n:=fun e=>by rw[e,hs]at hm;cases hm
  rw[CY _ _ e];exact hm
def eJ (H:Nat->Nat->Option Value) (v:Option V) (c:Option Value):Prop:=match v,c with|none,none=>True|some v,some c=>Ab H v c|_,_=>False
def BRel (o:Option V) (c:Option Value):Prop:=
 match o,c with
 | none,none=>True
 | some v,some c=> ∃ki n,v= .i ki n/\c= .int ki n
 | _,_=>False
def M8 {o:Option V} {c:Option Value} {H:Nat->Nat->Option Value} {d:Int} {K:Int->Prop} (hr:eJ H o c) (h:OL o d K) :
    BRel o c/\ ∃n,K n/\((o=none/\n=d)\/ ∃ki,c=some (.int ki n)):=by
 cases o with
 | none=>
   cases c with
   | none=>exact⟨trivial,d,h,.inl ⟨rfl,rfl⟩⟩
   | some c=>exact hr.elim
 | some v=>
   cases c with
   | none=>exact hr.elim
   | some c=>
     cases v<;>simp only[OL]at h
     rename_i ki n;obtain⟨rfl,_⟩:=hr;exact⟨⟨ki,n,rfl,rfl⟩,n,h,.inr ⟨ki,rfl⟩⟩
def OU {len cap:Nat} {lo hi mx:Option Value} {l h m:Int} (hl:(lo=none/\l=0)\/ ∃ki,lo=some (.int ki l)) (hh:(hi=none/\h=len)\/ ∃ki,hi=some (.int ki h))
    (hm:(mx=none/\m=cap)\/ ∃ki,mx=some (.int ki m)) (hmh:mx.isSome=true->hi.isSome=true) (h0:0<=l) (h1:l<=h) (h2:h<=m) (h3:m<=cap) :
    (Instr.sliceBounds true len cap lo hi mx).run P w= .ok (l.toNat,h.toNat,m.toNat) w:=by
 have eh:(h.toNat:Int)=h:=Int.toNat_of_nonneg (by omega);have em:(m.toNat:Int)=m:=Int.toNat_of_nonneg (by omega);have bl: ∀ki code,(Instr.sliceBound (.int ki l) h.toNat code).run P w= .ok l.toNat w:=fun ki code=>run_sliceBound w ki l _ code h0 (by omega)
 have bh: ∀ki code,(Instr.sliceBound (.int ki h) m.toNat code).run P w= .ok h.toNat w:=fun ki code=>run_sliceBound w ki h _ code (by omega) (by omega)
 have bm: ∀ki code,(Instr.sliceBound (.int ki m) cap code).run P w= .ok m.toNat w:=fun ki code=>run_sliceBound w ki m _ code (by omega) (by omega)
 unfold Instr.sliceBounds;rcases hm with⟨rfl,rfl⟩|⟨km,rfl⟩
 .simp only[JP]at bh
  rcases hh with⟨rfl,rfl⟩|⟨kh,rfl⟩
  .simp only[JP]at bl
   rcases hl with⟨rfl,rfl⟩|⟨kl,rfl⟩
   .simp
   .simp[bl]
  .rcases hl with⟨rfl,rfl⟩|⟨kl,rfl⟩
   .simp[bh]
   .simp[bh,bl]
 .rcases hh with⟨rfl,rfl⟩|⟨kh,rfl⟩
  .simp at hmh
  .rcases hl with⟨rfl,rfl⟩|⟨kl,rfl⟩
   .simp[bm,bh]
   .simp[bm,bh,bl]
def Fe {t e:TypeId} {sz:Nat} (hu:P.underlying t=some (.slice e)) (hs:D6 P e=some sz) {a:Option Addr} {len cap:Nat} {lo hi mx:Option Value} {l h m:Int} (hl:(lo=none/\l=0)\/ ∃ki,lo=some (.int ki l)) (hh:(hi=none/\h=len)\/ ∃ki,hi=some (.int ki h))
    (hm:(mx=none/\m=cap)\/ ∃ki,mx=some (.int ki m)) (hmh:mx.isSome=true->hi.isSome=true) (h0:0<=l) (h1:l<=h) (h2:h<=m) (h3:m<=cap) :
    (Instr.sliceAt t (.slice a len cap) lo hi mx).run P w= .ok (.slice (if m.toNat=l.toNat then a else a.map (·.add (l.toNat*sz))) (h.toNat - l.toNat) (m.toNat - l.toNat)) w:=by
 simp only[Instr.sliceAt,DG,BI hu,Result.andThen,Instr.slice,OU hl hh hm hmh h0 h1 h2 h3,EA hs,Ej]
def Wl {t e : TypeId} {sz:Nat} (hu:P.underlying t=some (.slice e)) (hs:D6 P e=some sz) (h0:0<sz)
    (hR:Rel F Z w) {vx:V} {cx:Value} (hx:Ab (Hh F Z w) vx cx) {vl vh vm:Option V} {cl ch cm:Option Value}
    (hl:eJ (Hh F Z w) vl cl)
    (hh:eJ (Hh F Z w) vh ch)
    (hm:eJ (Hh F Z w) vm cm)
    (hmh:cm.isSome=true->ch.isSome=true) (h:AQ Z sz vx vl vh vm k):CW F Z w k kp ((Instr.sliceAt t cx cl ch cm).run P w):=by
 have hlo: ∀n,((vl=none/\n=0)\/ ∃ki,cl=some (.int ki n))->(cl=none/\n=0)\/ ∃ki,cl=some (.int ki n):=by
  rintro n (⟨rfl,rfl⟩|h)
  .cases cl with
   | none=>exact .inl ⟨rfl,rfl⟩
   | some c=>exact hl.elim
  .exact .inr h
 have hhi: ∀n (d:Int),((vh=none/\n=d)\/ ∃ki,ch=some (.int ki n))->(ch=none/\n=d)\/ ∃ki,ch=some (.int ki n):=by
  rintro n d (⟨rfl,rfl⟩|h)
  .cases ch with
   | none=>exact .inl ⟨rfl,rfl⟩
   | some c=>exact hh.elim
  .exact .inr h
 have hno:vm=none->cm=none:=by
  rintro rfl;cases cm with
  | none=>rfl
  | some c=>exact hm.elim
 cases vx<;>simp only[AQ]at h
 .rename_i es full
  obtain⟨hel,h⟩:=h;obtain⟨a,cap,rfl,h2,h3,h4,h5,h6⟩:=hx;replace h:=M8 hh h;obtain⟨_,hi,h,hhi'⟩:=h;replace h:=M8 hl h;obtain⟨_,li,⟨hl0,hlh,hhl,h⟩,hli'⟩:=h;have hlen:((es.take hi.toNat).drop li.toNat).length=hi.toNat - li.toNat:=by simp;omega
  have hrow: ∀cap':Nat,(es.take hi.toNat).drop li.toNat≠[]->cap'≠li.toNat->
   ∃b o s,(if cap'=li.toNat then a else a.map (·.add (li.toNat*sz)))=some ⟨b,o,none⟩/\BH (Hh F Z w) (Hh F Z w b) s o ((es.take hi.toNat).drop li.toNat):=fun cap' hne hcap=>by
   have hes:es≠[]:=by rintro rfl;simp at hne
   obtain⟨b,o,s,rfl,h7⟩:=h6 hes
   have hss:s=sz:=by
    obtain⟨e0,r,rfl⟩:=List.exists_cons_of_ne_nil hes;rw[<-hel e0 (by simp)];exact(JE h7 (by simp)).symm
   subst hss;refine⟨b,o+li.toNat*s,s,?_,NL (HY h7 _) _⟩;rw[if_neg hcap];simp[Ch]
  have hne: ∀cap':Nat,hi.toNat<=cap'->(es.take hi.toNat).drop li.toNat≠[]->cap'≠li.toNat:=fun cap' hc hn=>by
   have:=List.length_pos_iff.2 hn;rw[hlen]at this;omega
  cases vm with
  | none=>
    obtain rfl:=hno rfl;rw[Fe (m:=cap) hu hs (hlo _ hli') (hhi _ _ hhi') (.inl ⟨rfl,rfl⟩) (by simp) hl0 hlh (by omega) (Int.le_refl _)];refine As hR h ?_;simp only[JP];refine⟨_,_,by rw[hlen],by rw[hlen];omega,fun hf=>?_,Vk (fun e he=>List.mem_of_mem_take (List.mem_of_mem_drop he)) h4 (by rw[hlen];omega),fun ha=>?_,fun hn=>hrow _ hn (hne _ (by omega) hn)⟩
    .simp at hf
     have:=h3 hf.1;rw[hlen];omega
    .cases a with
     | none=>have:=h5 rfl;omega
     | some a=>split at ha<;>simp at ha
  | some v=>
    cases v<;>simp only at h
    rename_i km mi;obtain⟨rfl,h⟩:=h;cases cm with
    | none=>exact hm.elim
    | some c=>
      obtain⟨rfl,_⟩:=hm;rw[Fe (m:=mi) hu hs (hlo _ hli') (hhi _ _ hhi') (.inr ⟨_,rfl⟩) hmh hl0 hlh (Int.le_refl _) (by omega)];refine As hR h ?_;refine⟨_,_,by rw[hlen],by rw[hlen];omega,fun _=>by rw[hlen],Vk (fun e he=>List.mem_of_mem_take (List.mem_of_mem_drop he)) h4 (by rw[hlen];omega),fun ha=>?_,fun hn=>hrow _ hn (hne _ (Io _) hn)⟩;cases a with
      | none=>have:=h5 rfl;omega
      | some a=>split at ha<;>simp at ha
 .rename_i n len cap
  obtain⟨rfl,h2⟩:=hx;replace h:=M8 hh h;obtain⟨_,hi,h,hhi'⟩:=h;replace h:=M8 hl h;obtain⟨_,li,⟨hl0,hlh,hhl,h⟩,hli'⟩:=h;cases vm with
  | none=>
    obtain rfl:=hno rfl;rw[Fe (m:=cap) hu hs (hlo _ hli') (hhi _ _ hhi') (.inl ⟨rfl,rfl⟩) (by simp) hl0 hlh (by omega) (Int.le_refl _)];refine As hR h ⟨_,_,by congr 1;omega,by omega,fun hn=>?_⟩;rw[if_neg (by omega)];simp[Ch]
  | some v=>
    cases v<;>simp only at h
    rename_i km mi;obtain⟨rfl,rfl,rfl,h⟩:=h;split at h
    .rename_i s es c hs'
     obtain⟨rfl,rfl,rfl,h⟩:=h;cases cm with
     | none=>exact hm.elim
     | some c=>
       obtain⟨rfl,_⟩:=hm;rw[Fe (m:=(es.length:Int)) hu hs (hlo _ hli') (hhi _ _ hhi') (.inr ⟨_,rfl⟩) hmh hl0 hlh (Int.le_refl _) (by omega)];rcases h with h|h
       .obtain⟨h7,h8,h9⟩:=YI hR hs'
        refine⟨_,_,h,?_,hR.drop (Fo Z n),Bu.drop w (Fo Z n)⟩;refine⟨some ⟨n,0,none⟩,es.length,?_,Io _,fun _=>rfl,Lg h9,fun ha=>by simp at ha,fun hn=>⟨n,0,s,rfl,h7⟩⟩;simp only[JP,Int.toNat_zero,Nat.sub_zero,Nat.zero_mul,W6,Ch,Nat.add_zero,ite_self]
       .obtain⟨cc,ce,g1,g2,g3,g4,g5⟩:=Er hR hs'
        have hle:=cB hR hs';refine⟨_,_,h,⟨?_,Io _⟩,hle.1,hle.2⟩;simp only[JP,Int.toNat_zero,Nat.sub_zero,Nat.zero_mul,W6,Ch,Nat.add_zero,ite_self]
    .exact h.elim
 .rename_i n s off len
  obtain⟨a,cap,rfl,h2,h3⟩:=hx;replace h:=M8 hh h;obtain⟨_,hi,h,hhi'⟩:=h;replace h:=M8 hl h;obtain⟨_,li,⟨hl0,hlh,hhl,rfl,rfl,h⟩,hli'⟩:=h;obtain rfl:=hno rfl;rw[Fe (m:=cap) hu hs (hlo _ hli') (hhi _ _ hhi') (.inl ⟨rfl,rfl⟩) (by simp) hl0 hlh (by omega) (Int.le_refl _)];refine As hR h ⟨_,_,by congr 1;omega,by omega,fun hn=>?_⟩;obtain rfl:=h3 (by omega);rw[if_neg (by omega)];simp[Ch,Nat.add_mul]
def MQ {H:Nat->Nat->Option Value}: ∀ {kvs:List (V×V)} {es:List MapEntry},Fb H kvs es->es.length=kvs.length
 | [],[],_=>rfl
 | (_,_)::r,_::es,h=>by simp only[Fb]at h;simp[MQ h.2.2]
 | [],_::_,h=>h.elim
 | _::_,[],h=>h.elim
def l5 (hR:Rel F Z w) {n:Nat} {kvs:List (V×V)} (h:Z n=some (.map kvs)): ∃es clk,w.heap[n]? =some (.map es clk)/\Fb (Hh F Z w) kvs es.toList:=by
 obtain⟨_,ob,h2,es,clk,rfl,h4⟩:=hR.own n _ h;exact⟨es,clk,h2,h4.1⟩
def Ja {n:Nat} (h:n<=AY):IntKind.i64.min<=(n:Int)/\(n:Int)<=IntKind.i64.max:=by
 unfold AY at h;simp only[IntKind.min,IntKind.max,IntKind.signed,IntKind.bits,if_true];omega
def ir {n:Nat} (h:n<=140737488355328):IntKind.i64.min<=(n:Int)/\(n:Int)<=IntKind.i64.max:=by
 simp only[IntKind.min,IntKind.max,IntKind.signed,IntKind.bits,if_true];omega
def cM {t e:TypeId} (ty:TypeId) (hu:P.underlying t=some (.slice e))
    (hR:Rel F Z w) {vx:V} {cx:Value} (hx:Ab (Hh F Z w) vx cx) (h:A4 vx fun v=>k v Z):CW F Z w k kp ((Builtin.len_ #[t] ty #[cx]).run P w):=by
 cases vx<;>simp only[A4]at h
 .rename_i es full
  obtain⟨a,cap,rfl,h2,h3,h4,h5,h6⟩:=hx;have:(Builtin.len_ #[t] ty #[.slice a es.length cap]).run P w= .ok (goInt es.length) w:=by simp[Builtin.len_,BI hu]
  rw[this];exact As hR h ⟨rfl,ir (Nat.le_trans h4 (l8 es))⟩
 .rename_i n len cap
  obtain⟨rfl,_⟩:=hx;have:(Builtin.len_ #[t] ty #[.slice (some ⟨n,0,none⟩) len cap]).run P w= .ok (goInt len) w:=by simp[Builtin.len_,BI hu]
  rw[this];exact As hR h.2 ⟨rfl,Ja h.1⟩
 .rename_i n s o len
  obtain⟨a,cap,rfl,_⟩:=hx;have:(Builtin.len_ #[t] ty #[.slice a len cap]).run P w= .ok (goInt len) w:=by simp[Builtin.len_,BI hu]
  rw[this];exact As hR h.2 ⟨rfl,Ja h.1⟩
def YE {t e f:TypeId} (ty:TypeId) (hu:P.underlying t=some (.map e f))
    (hR:Rel F Z w) {vx:V} {cx:Value} (hx:Ab (Hh F Z w) vx cx) (h:J7 Z vx fun v=>k v Z):CW F Z w k kp ((Builtin.len_ #[t] ty #[cx]).run P w):=by
 cases vx<;>simp only[J7]at h
 .rename_i n
  split at h
  .rename_i kvs hs
   obtain⟨es,clk,h1,h2⟩:=l5 hR hs;simp only[Ab]at hx;subst hx;have hl:=MQ h2
   have:(Builtin.len_ #[t] ty #[.map (some n)]).run P w= .ok (goInt kvs.length) w:=by
    simp[Builtin.len_,BI hu,getObj,Sem.run,h1,<-hl]
   rw[this];exact As hR h.2 ⟨rfl,Ja h.1⟩
  .exact h.elim
 .simp only[Ab]at hx
  subst hx;have:(Builtin.len_ #[t] ty #[.map none]).run P w= .ok (goInt 0) w:=by simp[Builtin.len_,BI hu]
  rw[this];exact As hR h ⟨rfl,Ja (Nat.zero_le _)⟩
end Go.Gl
namespace Go.Gl
variable {P:Program} {F:Nat->Prop} {Z:AE} {w:World} {k kp:V->AE->Prop}
def JS (ki:IntKind) (n:Int):ki.min<=ki.wrap n/\ki.wrap n<=ki.max:=by
 have:=WideShapes.wf_wrap ki n;simpa[Lit.wf]using this
def K1 (ki:IntKind):ki.min<=0:=by cases ki<;>decide
def QP (ki:IntKind):0<=ki.max:=by cases ki<;>decide
def ku {ki:IntKind} {a:Int} (b:Int) (h:ki.min<=a/\a<=ki.max):ki.min<=a.tmod b/\a.tmod b<=ki.max:=by
 have h1:=K1 ki;have h2:=QP ki;have h5:(a.tmod b).natAbs<=a.natAbs:=by rw[Int.natAbs_tmod];exact Nat.mod_le _ _
 rcases Int.le_total 0 a with h0|h0
 .have h3:=Int.tmod_nonneg b h0
  omega
 .have h4:=Int.tmod_nonneg b (show 0<= -a by omega)
  rw[Int.neg_tmod]at h4;omega
def mu {ki:IntKind} {a:Int} (n:Nat) (h:ki.min<=a/\a<=ki.max):ki.min<=a.fdiv (2 ^ n)/\a.fdiv (2 ^ n)<=ki.max:=by
 have h1:=K1 ki;have h2:=QP ki;have hp:(0:Int)<2 ^ n:=Int.pow_pos (by omega);rw[Int.fdiv_eq_ediv_of_nonneg _ (by omega)];constructor
 .rw[Int.le_ediv_iff_mul_le hp]
  have:ki.min*2 ^ n<=ki.min*1:=Int.mul_le_mul_of_nonpos_left h1 (by omega);omega
 .have:a / 2 ^ n<ki.max+1:=by
   rw[Int.ediv_lt_iff_lt_mul hp];have:(ki.max+1)*1<=(ki.max+1)*2 ^ n:=Int.mul_le_mul_of_nonneg_left (by omega) (by omega);omega
  omega
def cR {t : TypeId} (op:BinOp) (x y:Operand) (hR:Rel F Z w) {vx vy:V} {cx cy:Value} (hx:Ab (Hh F Z w) vx cx) (hy:Ab (Hh F Z w) vy cy) (h:Up op vx vy fun v=>k v Z) :
    CW F Z w k kp ((do eqGuard op t x y cx cy;binOp op t cx cy:Sem Value).run P w):=by
 cases vx<;>simp only[Up]at h
 cases vy<;>simp only at h
 rename_i ka a kb b;obtain⟨rfl,ha⟩:=hx;obtain⟨rfl,hb⟩:=hy
 have hg:(eqGuard op t x y (.int ka a) (.int kb b)).run P w= .ok () w:=by
  unfold eqGuard;cases op<;>rfl
 simp only[DG,hg,Result.andThen]
 cases op<;>simp only at h<;>first
  | (obtain ⟨rfl,h⟩:=h
     first
      | (obtain⟨hb0,h⟩:=h
         simp only[binOp,Op.intDiv,hb0,if_false,ne_eq,not_true_eq_false]
         first
          | exact As hR h ⟨rfl,JS _ _⟩
          | exact As hR h ⟨rfl,ku _ ha⟩)
      | (simp only[binOp,Op.intArith,Op.intCmp,Op.intBits,ne_eq,not_true_eq_false,if_false]
         first
          | exact As hR h rfl
          | exact As hR h ⟨rfl,JS _ _⟩))
  | (obtain⟨h0,h⟩:=h
     have hn: ¬b<0:=by omega
     simp only[binOp,Op.shift,hn,if_false]
     first
      | exact As hR h ⟨rfl,JS _ _⟩
      | exact As hR h ⟨rfl,mu _ ha⟩)
def UR {t:TypeId} (hu:P.underlying t=some .bool) (d:Nat) (p q:Bool):(Op.equalIn (d+1) t (.bool p) (.bool q)).run P w= .ok (p==q) w:=by
 simp only[Op.equalIn,DG,BI hu,Result.andThen,Ej]
def SV {t:TypeId} (hu:P.underlying t=some .bool) (op:BinOp) (hop:op= .eql\/op= .neq) (x y:Operand) (hR:Rel F Z w) {p q:Bool} (h:k (.b (bif (match op with| .neq=>true|_=>false)then p != q else p==q)) Z) :
    CW F Z w k kp ((do eqGuard op t x y (.bool p) (.bool q);binOp op t (.bool p) (.bool q):Sem Value).run P w):=by
 have hg:(eqGuard op t x y (.bool p) (.bool q)).run P w= .ok () w:=by
  unfold eqGuard;rcases hop with rfl|rfl<;>rfl
 simp only[DG,hg,Result.andThen]
 have he:(Op.equal t (.bool p) (.bool q)).run P w= .ok (p==q) w:=by
  exact UR hu 9999 p q
 rcases hop with rfl|rfl
 .simp only[binOp,DG,he,Result.andThen,Ej]
  exact As hR h rfl
 .simp only[binOp,DG,he,Result.andThen,Ej]
  exact As hR h (by simp only[Ab,cond_true];cases p<;>cases q<;>rfl)
def SX (off:Nat): ∀(l:List Value) (j:Nat) (c:Array Value),(l.zipIdx j).foldl (fun cs (x:Value×Nat)=>cs.setIfInBounds (off+x.2) x.1) c=Cu c (off+j) l
 | [],_,_=>rfl
 | v::l,j,c=>by
   simp only[List.zipIdx_cons,List.foldl_cons,Cu];rw[SX off l (j+1),show off+(j+1)=off+j+1 by omega]
def P4 (off:Nat) (d c:Array Value):d.zipIdx.foldl (fun cs (x:Value×Nat)=>cs.setIfInBounds (off+x.2) x.1) c=Cu c off d.toList:=by
 rw[<-Array.foldl_toList,Array.toList_zipIdx];exact SX off d.toList 0 c
def Pt {H : Nat->Nat->Option Value} {env:Env} {a:Act} (he:CD H env a.tmps) {place:Nat->Option (Nat×Nat)}: ∀ {parts:List (Nat×Operand)} {ps:List (Nat×Nat×Bf)},
    (List.length parts=ps.length/\ ∀(i:Nat) (q:Nat×Operand) (r:Nat×Nat×Bf),parts[i]? =some q->ps[i]? =some r->place q.1=some (r.1,r.2.1)/\BR q.2=some r.2.2)->
    ∀ {c:Array Value} {vs us:List V},c.size=vs.length->BT H (fun i=>c[i]?) 0 vs->J9 env vs ps=some us->
    ∃d,Instr.fill place c (parts.map fun(i,x)=>(i,a.eval x))=some d/\d.size=us.length/\BT H (fun i=>d[i]?) 0 us
 | [],ps,hp,c,vs,us,hs,hv,hf=>by
   have:ps= []:=List.eq_nil_of_length_eq_zero hp.1.symm;subst this;cases hf;exact⟨c,rfl,hs,hv⟩
 | (i, x) :: parts,ps,hp,c,vs,us,hs,hv,hf=>by
   cases ps with
   | nil=>simp at hp
   | cons r ps=>
     obtain⟨off,sz,o⟩:=r;obtain⟨h1,h2⟩:=hp.2 0 _ _ rfl rfl;simp only at h1 h2;simp only[J9]at hf;split at hf
     .rename_i v hev
      split at hf
      .rename_i vc hc
       cases hq:(Nat.beq vc.length sz&&Nat.ble (off+sz) vs.length)with
       | false=>rw[hq]at hf;simp at hf
       | true=>
         rw[hq]at hf;simp only[cond_true]at hf;simp only[BD,Nat.beq_eq,Nat.ble_eq]at hq;obtain⟨h3,h4⟩:=Cs (An he h2 hev) hc
         obtain⟨d,h5,h6⟩:=Pt he (parts:=parts) (ps:=ps) ⟨by simpa using hp.1,fun j q r hq hr=>hp.2 (j+1) q r (by simpa using hq) (by simpa using hr)⟩ (c:=Cu c off (a.eval x).cells.toList) (vs:=putAt vs off vc)
          (by rw[Dq,Eu];exact hs) (Ls hs hv (by simpa using h3) (BA h4 (fun i _=>by simp))) hf
         refine⟨d,?_,h6⟩;simp only[Ex,Instr.fill,h1];rw[if_neg (by simp;omega),P4];exact h5
      .cases hf
     .cases hf
def QF {fields:Array Field}: ∀ {parts:List (Nat×Operand)} {ps:List (Nat×Nat×Bf)},TN fields P parts=some ps->
    parts.length=ps.length/\ ∀(i:Nat) (q:Nat×Operand) (r:Nat×Nat×Bf),parts[i]? =some q->ps[i]? =some r->(∃f:Field,fields[q.1]? =some f/\r.1=f.offset/\D6 P f.type=some r.2.1)/\BR q.2=some r.2.2
 | [],ps,h=>by cases h;simp
 | (i, x)::parts,ps,h=>by
   simp only[TN]at h;split at h
   .rename_i f o ps' h1 h2 h3
    cases hs:D6 P f.type with
    | none=>rw[hs]at h;cases h
    | some s=>
      rw[hs]at h;cases h;obtain⟨h4,h5⟩:=QF h3;refine⟨by simp[h4],fun j q r hq hr=>?_⟩;cases j with
      | zero=>simp at hq hr;subst hq;subst hr;exact⟨⟨f,h1,rfl,hs⟩,h2⟩
      | succ j=>exact h5 j q r (by simpa using hq) (by simpa using hr)
   .cases h
def N7 {sz:Nat}: ∀ {parts:List (Nat×Operand)} {ps:List (Nat×Nat×Bf)},Oe sz parts=some ps->
    parts.length=ps.length/\ ∀(i:Nat) (q:Nat×Operand) (r:Nat×Nat×Bf),parts[i]? =some q->ps[i]? =some r->(r.1=q.1*sz/\r.2.1=sz)/\BR q.2=some r.2.2
 | [],ps,h=>by cases h;simp
 | (i,x)::parts,ps,h=>by
   simp only[Oe]at h;split at h
   .rename_i o ps' h2 h3
    cases h;obtain⟨h4,h5⟩:=N7 h3;refine⟨by simp[h4],fun j q r hq hr=>?_⟩;cases j with
    | zero=>simp at hq hr;subst hq;subst hr;exact⟨⟨rfl,rfl⟩,h2⟩
    | succ j=>exact h5 j q r (by simpa using hq) (by simpa using hr)
   .cases h
def N6: ∀ {parts:List (Nat×Operand)} {ps:List (Nat×Bf)},Od parts=some ps->
    parts.length=ps.length/\ ∀(i:Nat) (q:Nat×Operand) (r:Nat×Bf),parts[i]? =some q->ps[i]? =some r->r.1=q.1/\BR q.2=some r.2
 | [],ps,h=>by cases h;simp
 | (i,x)::parts,ps,h=>by
   simp only[Od]at h;split at h
   .rename_i o ps' h2 h3
    cases h;obtain⟨h4,h5⟩:=N6 h3;refine⟨by simp[h4],fun j q r hq hr=>?_⟩;cases j with
    | zero=>simp at hq hr;subst hq;subst hr;exact⟨rfl,h2⟩
    | succ j=>exact h5 j q r (by simpa using hq) (by simpa using hr)
   .cases h
end Go.Gl
