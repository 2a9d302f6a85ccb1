import Derived.Laws.AppendOwn
import Derived.Laws.Tables
import Derived.Great.BuildSlice
import Derived.Laws.MakeOwn
import Derived.ChangeKeysEq
import Derived.Laws.StructEq
import Derived.Laws.BytesArg
import Derived.Test.YtegbmnmnaijioaaGreatQ1
set_option linter.all false
set_option linter.defProp false
set_option maxHeartbeats 8000000
noncomputable section
namespace Go.Gl
variable {P:Program} {F:Nat->Prop} {Z:AE} {w:World} {k kp:V->AE->Prop}
def U3 {n sz j:Nat} (h:j<n*sz):j / sz<n/\j % sz<sz:=by
 have hs:0<sz:=by
  rcases Nat.eq_zero_or_pos sz with h0|h0
  .subst h0;simp at h
  .exact h0
 exact⟨(Nat.div_lt_iff_lt_mul hs).2 h,Nat.mod_lt _ hs⟩
def Kh {H:Nat->Nat->Option Value} {g:Nat->Option Value} {sz o:Nat} {es:List (List V)} (h:BJ H g sz o es) :
    ∃cs:List Value,cs.length=es.length*sz/\(∀j v,cs[j]? =some v->g (o+j)=some v)/\BJ H (fun i=>cs[i]?) sz 0 es:=by
 have hex: ∀j,j<es.length*sz-> ∃c,g (o+j)=some c:=fun j hj=>by
  obtain⟨h1,h2⟩:=U3 hj;obtain⟨h3,h4⟩:=BH.1 h (j / sz) es[j / sz] (Cr h1);obtain⟨c,hc,_⟩:=Bi.1 h4 (j % sz) _ (Cr (by omega));refine⟨c,?_⟩;rw[<-hc];congr 1;have:=Nat.div_add_mod' j sz;omega
 refine⟨(List.range (es.length*sz)).map fun j=>(g (o+j)).getD undef,by simp,fun j v hv=>?_,?_⟩
 .have hlt:j<es.length*sz:=by simpa using(JC.1 hv).1
  rw[Je,List.getElem?_range hlt]at hv;obtain⟨c,hc⟩:=hex j hlt;simp[hc]at hv;rw[hc,hv]
 .rw[BH]at *
  intro i e he;obtain⟨h1,h2⟩:=h i e he;refine⟨h1,BF h2 (fun q hq=>?_)⟩;have hi:=(JC.1 he).1
  have hlt:0+i*sz+q<es.length*sz:=by
   have:(i+1)*sz<=es.length*sz:=Vi _ hi;rw[Nat.succ_mul]at this;omega
  obtain⟨c,hc⟩:=hex _ hlt;rw[Je,List.getElem?_range hlt];rw[show o+i*sz+q=o+(0+i*sz+q) by omega,hc];simp only[YH,hc,Option.getD_some]
def HO {H:Nat->Nat->Option Value} {g:Nat->Option Value} {sz o:Nat} {es fs:List (List V)} (h:BJ H g sz o es) (k:BJ H g sz (o+es.length*sz) fs):BJ H g sz o (es++fs):=by
 rw[BH]at *;intro i e he;rw[List.getElem?_append]at he;split at he
 .exact h i e he
 .rename_i hlt
  obtain⟨h1,h2⟩:=k _ e he;refine⟨h1,?_⟩
  have:o+es.length*sz+(i - es.length)*sz=o+i*sz:=by
   rw[Nat.add_assoc,<-Nat.add_mul];congr 2;omega
  rw[<-this];exact h2
def En {H:Nat->Nat->Option Value} {g g':Nat->Option Value} {sz o o':Nat} {es:List (List V)} (h:BJ H g sz o es) (hg: ∀j,j<es.length*sz->g' (o'+j)=g (o+j)):BJ H g' sz o' es:=by
 rw[BH]at *;intro i e he;obtain⟨h1,h2⟩:=h i e he;refine⟨h1,BF h2 (fun q hq=>?_)⟩;have hi:=(JC.1 he).1
 have hlt:i*sz+q<es.length*sz:=by
  have:(i+1)*sz<=es.length*sz:=Vi _ hi;rw[Nat.succ_mul]at this;omega
 have:=hg _ hlt;rw[Nat.add_assoc,Nat.add_assoc];exact this
def IJ {H:Nat->Nat->Option Value} {g:Nat->Option Value} {sz o:Nat} {es:List (List V)} (h:BJ H g sz o es) (n:Nat):BJ H g sz o (es.take n):=by
 rw[BH]at *;intro i e he;rw[List.getElem?_take]at he;split at he
 .exact h i e he
 .cases he
def OC {H:Nat->Nat->Option Value} {g:Nat->Option Value} {sz o:Nat} {es:List (List V)} (h:BJ H g sz o es) (n:Nat):BJ H g sz (o+n*sz) (es.drop n):=by
 rw[BH]at *;intro i e he;rw[y4]at he;obtain⟨h1,h2⟩:=h _ e he;refine⟨h1,?_⟩;rw[Nat.add_mul,<-Nat.add_assoc]at h2;exact h2
def J1 {H:Nat->Nat->Option Value} {g:Nat->Option Value} {sz o:Nat} {es:List (List V)} (h:BJ H g sz o es) {e:List V} (he:e∈es):e.length=sz:=by
 obtain⟨i,hi⟩:=List.mem_iff_getElem?.1 he;exact(BH.1 h i e hi).1
def Li (hR:Rel F Z w) {sz:Nat} {vy:V} {cy:Value} (hy:Ag (Hh F Z w) vy cy) {K:List (List V)->Prop} (h:rowsOf Z sz vy K) :
    ∃ ys base cap,K ys/\cy= .slice base ys.length cap/\(∀e∈ys,e.length=sz)/\
      (ys= []\/ ∃b o g,base=some ⟨b,o,none⟩/\(∀i c,g i=some c->w.cell? ⟨b,i,none⟩=some c)/\BJ (Hh F Z w) g sz o ys):=by
 cases vy<;>simp only[rowsOf]at h
 .rename_i ys full
  obtain⟨hl,h⟩:=h;obtain⟨a,cap,rfl,_,_,_,_,h6⟩:=hy;refine⟨ys,a,cap,h,rfl,hl,?_⟩;by_cases hne:ys= []
  .exact .inl hne
  .obtain⟨b,o,s,rfl,h7⟩:=h6 hne
   right;obtain⟨e,r,rfl⟩:=List.exists_cons_of_ne_nil hne;have:s=sz:=by rw[<-hl e (by simp)];exact(J1 h7 (by simp)).symm
   subst this;exact⟨b,o,_,rfl,fun i c hc=>(GX hc).2.2,h7⟩
 .rename_i m len cap
  split at h
  .rename_i s ys c hs
   obtain⟨rfl,hle,h⟩:=h;obtain⟨rfl,_⟩:=hy;obtain⟨c',e,h1,h2,h3,h4,h5⟩:=FF hR hs;refine⟨_,_,cap,h,by simp[Nat.min_eq_left hle],fun e he=>J1 h5 (List.mem_of_mem_take he),.inr ⟨m,0,_,rfl,fun i c hc=>?_,IJ h5 _⟩⟩;rw[Dd h1];exact hc
  .exact h.elim
 .rename_i m s off len
  split at h
  .rename_i s' ys c hs
   obtain⟨rfl,rfl,hle,h⟩:=h;obtain⟨a,cap,rfl,_,h6⟩:=hy;obtain⟨c',e,h1,h2,h3,h4,h5⟩:=FF hR hs;refine⟨_,a,cap,h,by simp;omega,fun e he=>J1 h5 (List.mem_of_mem_drop (List.mem_of_mem_take he)),?_⟩;by_cases h0:len=0
   .left;simp[h0]
   .right
    obtain rfl:=h6 h0;refine⟨m,off*s',_,rfl,fun i c hc=>?_,IJ (by have:=OC h5 off;simpa using this) _⟩;rw[Dd h1];exact hc
  .exact h.elim
def L0 (t ty e:TypeId) (i:TypeInfo) (ht:P.underlying t=some (.slice e)) (hi:P.info? e=some i) (base:Option Addr) (n cap:Nat) (hn:n<=cap) (b2:Option Addr) (c2:Nat) :
    (Builtin.append_ #[t,t] ty #[.slice base n cap,.slice b2 0 c2]).run P w= .ok (.slice base n cap) w:=by
 cases base<;>cases b2<;>simp[Builtin.append_,run_underlying ht,sizeOf,typeInfo,hi,Builtin.lenOf,hn,Builtin.firstCells,loadCells,loadCellsFrom,storeCells]
def YD {o:O} {ob:Obj} {n:Nat}:B8 F Z w (B3 (del Z n) w.heap.size o) (w.drew.alloc ob) where
 frame m hm _:=RowKit.Below.heap_alloc _ _ _ hm
 size:=by simp
 os:=rfl
 tape:=rfl
 output:=rfl
 names m h0 hm:=by
  rw[Cm _ _ (by omega)];by_cases e:m=n
  .subst e;exact Dc _ _
  .rw[He _ e];exact h0
def Vc {t e : TypeId} {i:TypeInfo} {z:Value} (ty:TypeId) (ht:P.underlying t=some (.slice e)) (hi:P.info? e=some i) (hz:i.zero=some z) (hzs:z.cells.size=i.size) (hb:i.bytes<=4096)
    (hR:Rel F Z w) {vx vy:V} {cx cy:Value} (hx:Ag (Hh F Z w) vx cx) (hy:Ag (Hh F Z w) vy cy) (h:AK i.bytes Z i.size vx vy k) :
    Cl F Z w k kp ((Builtin.append_ #[t,t] ty #[cx,cy]).run P w):=by
 have h':=Li hR hy h;clear h;obtain⟨ys,base,c2,⟨hone,h⟩,rfl,hyl,hys⟩:=h'
 have hnews:ys≠[]-> ∃b o,base=some ⟨b,o,none⟩/\ ∃news:List Value,news.length=ys.length*i.size/\(∀j v,news[j]? =some v->w.cell? ((⟨b,o,none⟩:Addr).add j)=some v)/\
  BJ (Hh F Z w) (fun q=>news[q]?) i.size 0 ys/\ ∀u∈news,u.oneCell'=true:=fun hne=>by
  rcases hys with hys|⟨b,o,g,rfl,hg,hrow⟩
  .exact absurd hys hne
  .obtain⟨news,h1,h2,h3⟩:=Kh hrow
   refine⟨b,o,rfl,news,h1,fun j v hv=>by rw[Cu];exact hg _ _ (h2 j v hv),h3,fun u hu=>?_⟩;obtain⟨j,hj⟩:=List.mem_iff_getElem?.1 hu;have hlt:j<ys.length*i.size:=by rw[<-h1];exact(JC.1 hj).1
   obtain⟨h4,h5⟩:=U3 hlt;obtain⟨h6,h7⟩:=BH.1 h3 (j / i.size) _ (Cr h4);obtain⟨c,hc,hr⟩:=Bi.1 h7 (j % i.size) _ (Cr (by omega));have hdm:=Nat.div_add_mod' j i.size;rw[show 0+j / i.size*i.size+j % i.size=j by omega,hj]at hc;cases hc;exact Qr hr (hone _ (List.getElem_mem h4) _ (List.getElem_mem _))
 have grown: ∀(es:List (List V)) (olds news:List Value) (L cap n:Nat),olds.length=es.length*i.size->news.length=ys.length*i.size->BJ (Hh F Z w) (fun q=>olds[q]?) i.size 0 es->BJ (Hh F Z w) (fun q=>news[q]?) i.size 0 ys->
  L=es.length+ys.length->L<=AZ->
  (∀n' cap',del Z n n'=none->L<=cap'->k (.sl n' L cap') (B3 (del Z n) n' (.arr i.size (es++ys) cap')))->
  Cl F Z w k kp (.ok (.slice (some ⟨w.heap.size,0,none⟩) L (grownCap w L cap e)) (w.drew.alloc (.cells (olds.toArray++news.toArray++Builtin.zeroCells z.cells (grownCap w L cap e - L)) e))):=by
  intro es olds news L cap n ho hn hro hrn hL hLm hk;have hge:=grownCap_ge w L cap e;have ha:B8 F Z w (B3 (del Z n) w.heap.size (.arr i.size (es++ys) (grownCap w L cap e))) (w.drew.alloc (.cells (olds.toArray++news.toArray++Builtin.zeroCells z.cells (grownCap w L cap e - L)) e)):=YD
  have hfresh:del Z n w.heap.size=none:=by
   unfold del;split
   .rfl
   .exact hR.new
  refine⟨_,_,hk w.heap.size _ hfresh hge,⟨rfl,hge⟩,?_,ha⟩;refine hR.step ha fun m o' hm=>?_
  by_cases em:m=w.heap.size
  .subst em
   rw[DJ]at hm;cases hm;refine .inr ⟨fun hl=>absurd (hR.lock _ hl) (Nat.lt_irrefl _),_,heap_alloc_new w.drew _,_,e,rfl,?_,by simp;omega,by simp;omega,?_⟩
   .refine Nat.le_of_eq (Eq.symm ?_)
    simp only[Array.size_append,List.size_toArray,size_zeroCells,hzs,ho,hn,<-Nat.add_mul];congr 1;omega
   .refine HO (BJ.mono ha.hle (fun _ _ e=>e) _ _ _ (En hro fun j hj=>?_)) (BJ.mono ha.hle (fun _ _ e=>e) _ _ _ (En hrn fun j hj=>?_))
    .simp only[G8]
     rw[Array.getElem?_append_left (by simp[ho,hn];omega),Array.getElem?_append_left (by simp[ho];omega)];simp
    .simp only[G8]
     rw[Array.getElem?_append_left (by simp[ho,hn];omega),Array.getElem?_append_right (by simp[ho])];simp[ho]
  .rw[Cm _ _ em]at hm
   have hmn:m≠n:=fun e=>by rw[e,Dc]at hm;cases hm
   rw[He _ hmn]at hm;exact .inl ⟨hm,heap_alloc_old w.drew _ _ (hR.lt hm)⟩
 by_cases hne:ys= []
 .subst hne
  have hrun: ∀(n cap:Nat) (b:Option Addr),n<=cap->(Builtin.append_ #[t,t] ty #[.slice b n cap,.slice base ([]:List (List V)).length c2]).run P w= .ok (.slice b n cap) w:=fun n cap b hn=>L0 t ty e i ht hi b n cap hn base c2
  cases vx<;>simp only at h
  .rename_i es full
   obtain⟨_,_,h,_⟩:=h;have hx':=hx;obtain⟨a,cap,rfl,h2,_⟩:=hx;rw[hrun _ _ _ h2];exact Aw hR (h trivial) hx'
  .rename_i n len cap
   split at h
   .rename_i s es c hs
    obtain⟨rfl,rfl,rfl,hm,h⟩:=h;have hx':=hx;obtain⟨rfl,h2⟩:=hx;rw[hrun _ _ _ h2];have:=h n c (Dc _ _) (by simpa using h2);simp only[List.length_nil,Nat.add_zero,GA]at this
    have e:B3 (del Z n) n (.arr i.size es c)=Z:=by
     funext m;unfold B3 del;split
     .rename_i e;rw[e,hs]
     .rfl
    rw[e]at this;exact Aw hR this hx'
   .exact h.elim
 .obtain ⟨b,o,rfl,news,hnl,hnc,hnr,hn1⟩:=hnews hne
  have hpos:0<ys.length:=List.length_pos_iff.2 hne;cases vx<;>simp only at h
  .rename_i es full
   obtain⟨hel,hm,_,h⟩:=h;obtain⟨rfl,hkk⟩:=h hne;obtain⟨a,cap,rfl,h2,h3,h4,h5,h6⟩:=hx;obtain rfl:=h3 rfl
   have hk': ∀n' cap',del Z w.heap.size n'=none->es.length+ys.length<=cap'->k (.sl n' (es.length+ys.length) cap') (B3 (del Z w.heap.size) n' (.arr i.size (es++ys) cap')):=by
    have hd:del Z w.heap.size=Z:=by
     funext m;unfold del;split
     .rename_i e;rw[e,hR.new]
     .rfl
    rw[hd];exact hkk
   cases a with
   | none=>
     have h0:es.length=0:=by simpa using h5 rfl
     obtain rfl:es= []:=List.eq_nil_of_length_eq_zero h0;simp only[List.length_nil,G8]at hm hk' ⊢;rw[run_append_nil w t ty e i z ht hi hz ⟨b,o,none⟩ ys.length c2 news hnl hnc hpos (by have:=hm.1;unfold AZ at this;omega) (by have:=hm.2;omega)];have hgo:=grown [] [] news ys.length 0 w.heap.size (by simp) hnl trivial hnr (by simp) hm.1 hk';simpa using hgo
   | some a=>
     have holds: ∃olds:List Value,olds.length=es.length*i.size/\(∀j v,olds[j]? =some v->w.cell? (a.add j)=some v)/\BJ (Hh F Z w) (fun q=>olds[q]?) i.size 0 es:=by
      by_cases hes:es= []
      .subst hes;exact⟨[],by simp,by simp,trivial⟩
      .obtain⟨b',o',s,ha,h7⟩:=h6 hes
       cases ha;obtain⟨e0,r,rfl⟩:=List.exists_cons_of_ne_nil hes;have:s=i.size:=by rw[<-hel e0 (by simp)];exact(J1 h7 (by simp)).symm
       subst this;obtain⟨olds,h8,h9,h10⟩:=Kh h7;exact⟨olds,h8,fun j v hv=>by rw[Cu];exact(GX (h9 j v hv)).2.2,h10⟩
     obtain⟨olds,h8,h9,h10⟩:=holds;rw[run_append_grow w t ty e i z ht hi hz a es.length es.length olds h8 h9 ⟨b,o,none⟩ ys.length c2 news hnl hnc (by omega) (by have:=hm.1;unfold AZ at this;omega) (growslice_fits (by omega) hm.2)];exact grown es olds news _ _ w.heap.size h8 hnl h10 hnr rfl hm.1 hk'
  .rename_i n len cap
   split at h
   .rename_i s es c hs
    obtain⟨rfl,rfl,rfl,hm,h⟩:=h;obtain⟨rfl,h2⟩:=hx;obtain⟨cur,et,h3,h4,h5,h6,h7⟩:=FF hR hs;by_cases hroom:es.length+ys.length<=c
    ·
     have hmul:(es.length+ys.length)*i.size<=c*i.size:=Vi _ hroom;rw[Nat.add_mul]at hmul;have hcell:et=et:=rfl;have hrunF:=run_firstCells_some (P:=P) w i.size ys.length ⟨b,o,none⟩ ys.length c2 news hnl hnc;have hst:=Cv (P:=P) news w cur (es.length*i.size) 0 h3 (by omega) hn1;simp only[Nat.add_zero]at hst
     have hrun:(Builtin.append_ #[t,t] ty #[.slice (some ⟨n,0,none⟩) es.length c,.slice (some ⟨b,o,none⟩) ys.length c2]).run P w =
      .ok (.slice (some ⟨n,0,none⟩) (es.length+ys.length) c) (Cf w n (.cells (C6 cur (es.length*i.size) news) et (0,0))):=by
      simp[Builtin.append_,run_underlying ht,sizeOf,typeInfo,hi,Builtin.lenOf,hroom,hrunF,Cu,hst]
     rw[hrun];have hk:=h n c (Dc _ _) hroom
     have eu:B3 (del Z n) n (.arr i.size (es++ys) c)=B3 Z n (.arr i.size (es++ys) c):=by
      funext m;unfold B3 del;split
      .rfl
      .rfl
     rw[eu]at hk;refine⟨_,_,hk,⟨rfl,hroom⟩,KM hR hs ⟨_,et,rfl,by rw[D9];exact h4,by simp;omega,by simp;omega,?_⟩,HM hs _ _⟩;refine HO (En h7 fun j hj=>?_) (En hnr fun j hj=>?_)
     .exact DR _ _ _ _ (by omega)
     .simp only[G8]
      exact Gd _ _ _ _ (by omega) (by omega)
    .obtain⟨olds,h8,h9,h10⟩:=Kh h7
     rw[run_append_grow w t ty e i z ht hi hz ⟨n,0,none⟩ es.length c olds h8 (fun j v hv=>by rw[Cu,Dd h3];simpa using h9 j v hv) ⟨b,o,none⟩ ys.length c2 news hnl hnc (by omega) (by have:=hm.1;unfold AZ at this;omega)
      (growslice_fits (by omega) hm.2)]
     exact grown es olds news _ _ n h8 hnl h10 hnr rfl hm.1 h
   .exact h.elim
end Go.Gl
namespace Go.Gl
variable {P:Program} {F:Nat->Prop} {Z:AE} {w:World} {k kp:V->AE->Prop}
def ZX (hR:Rel F Z w) {n sz cap:Nat} {es:List (List V)} (hs:Z n=some (.arr sz es cap)):BJ (Hh F (del Z n) w) (Hh F (del Z n) w n) sz 0 es/\es.length<=cap/\es.length<=AZ:=by
 obtain⟨c,e,h1,h2,h3,h4,h5⟩:=FF hR hs;refine⟨BJ.mono (FJ fun m hm=>(GV Z n).none hm) (fun i v hv=>?_) _ _ _ h5,h3,h4⟩;rw[Ot (hR.own n _ hs).1 (Dc Z n),Dd h1];exact hv
def dw (hR:Rel F Z w) {n sz cap:Nat} {es:List (List V)} (hs:Z n=some (.arr sz es cap)):Rel F (B3 Z n (.arr sz es es.length)) w/\B8 F Z w (B3 Z n (.arr sz es es.length)) w:=by
 have hh:Hh F (B3 Z n (.arr sz es es.length)) w=Hh F Z w:=by
  funext b o
  have e:(B3 Z n (.arr sz es es.length) b).isSome=(Z b).isSome:=by
   by_cases e:b=n
   .rw[e,DJ,hs];rfl
   .rw[Cm _ _ e]
  unfold Hh;by_cases hl:F b\/(Z b).isSome=true
  .rw[if_pos hl,if_pos (by rw[e];exact hl)]
  .rw[if_neg hl,if_neg (by rw[e];exact hl)]
 refine⟨⟨fun m o ho=>?_,hR.lock⟩,⟨fun _ _ _=>rfl,IW _,rfl,rfl,rfl,fun m hm _=>?_⟩⟩
 .rw[hh]
  by_cases e:m=n
  .subst e
   rw[DJ]at ho;cases ho;obtain⟨h1,ob,h2,c,ce,h3,h4,h5,h6,h7⟩:=hR.own m _ hs;exact⟨h1,ob,h2,c,ce,h3,Nat.le_trans (Vi _ h5) h4,IW _,h6,h7⟩
  .rw[Cm _ _ e]at ho
   exact hR.own m o ho
 .have e:m≠n:=fun e=>by rw[e,hs]at hm;cases hm
  rw[Cm _ _ e];exact hm
def ga (H:Nat->Nat->Option Value) (v:Option V) (c:Option Value):Prop:=match v,c with|none,none=>True|some v,some c=>Ag H v c|_,_=>False
def BRel (o:Option V) (c:Option Value):Prop:=
 match o,c with
 | none,none=>True
 | some v,some c=> ∃ki n,v= .i ki n/\c= .int ki n
 | _,_=>False
def N0 {o:Option V} {c:Option Value} {H:Nat->Nat->Option Value} {d:Int} {K:Int->Prop} (hr:ga H o c) (h:Of o d K) :
    BRel o c/\ ∃n,K n/\((o=none/\n=d)\/ ∃ki,c=some (.int ki n)):=by
 cases o with
 | none=>
   cases c with
   | none=>exact⟨trivial,d,h,.inl ⟨rfl,rfl⟩⟩
   | some c=>exact hr.elim
 | some v=>
   cases c with
   | none=>exact hr.elim
   | some c=>
     cases v<;>simp only[Of]at h
     rename_i ki n;obtain⟨rfl,_⟩:=hr;exact⟨⟨ki,n,rfl,rfl⟩,n,h,.inr ⟨ki,rfl⟩⟩
def PS {len cap:Nat} {lo hi mx:Option Value} {l h m:Int} (hl:(lo=none/\l=0)\/ ∃ki,lo=some (.int ki l)) (hh:(hi=none/\h=len)\/ ∃ki,hi=some (.int ki h))
    (hm:(mx=none/\m=cap)\/ ∃ki,mx=some (.int ki m)) (hmh:mx.isSome=true->hi.isSome=true) (h0:0<=l) (h1:l<=h) (h2:h<=m) (h3:m<=cap) :
    (Instr.sliceBounds true len cap lo hi mx).run P w= .ok (l.toNat,h.toNat,m.toNat) w:=by
 have eh:(h.toNat:Int)=h:=Int.toNat_of_nonneg (by omega);have em:(m.toNat:Int)=m:=Int.toNat_of_nonneg (by omega);have bl: ∀ki code,(Instr.sliceBound (.int ki l) h.toNat code).run P w= .ok l.toNat w:=fun ki code=>run_sliceBound w ki l _ code h0 (by omega)
 have bh: ∀ki code,(Instr.sliceBound (.int ki h) m.toNat code).run P w= .ok h.toNat w:=fun ki code=>run_sliceBound w ki h _ code (by omega) (by omega)
 have bm: ∀ki code,(Instr.sliceBound (.int ki m) cap code).run P w= .ok m.toNat w:=fun ki code=>run_sliceBound w ki m _ code (by omega) (by omega)
 unfold Instr.sliceBounds;rcases hm with⟨rfl,rfl⟩|⟨km,rfl⟩
 .simp only[GB]at bh
  rcases hh with⟨rfl,rfl⟩|⟨kh,rfl⟩
  .simp only[GB]at bl
   rcases hl with⟨rfl,rfl⟩|⟨kl,rfl⟩
   .simp
   .simp[bl]
  .rcases hl with⟨rfl,rfl⟩|⟨kl,rfl⟩
   .simp[bh]
   .simp[bh,bl]
 .rcases hh with⟨rfl,rfl⟩|⟨kh,rfl⟩
  .simp at hmh
  .rcases hl with⟨rfl,rfl⟩|⟨kl,rfl⟩
   .simp[bm,bh]
   .simp[bm,bh,bl]
def F9 {t e:TypeId} {sz:Nat} (hu:P.underlying t=some (.slice e)) (hs:EU P e=some sz) {a:Option Addr} {len cap:Nat} {lo hi mx:Option Value} {l h m:Int} (hl:(lo=none/\l=0)\/ ∃ki,lo=some (.int ki l)) (hh:(hi=none/\h=len)\/ ∃ki,hi=some (.int ki h))
    (hm:(mx=none/\m=cap)\/ ∃ki,mx=some (.int ki m)) (hmh:mx.isSome=true->hi.isSome=true) (h0:0<=l) (h1:l<=h) (h2:h<=m) (h3:m<=cap) :
    (Instr.sliceAt t (.slice a len cap) lo hi mx).run P w= .ok (.slice (if m.toNat=l.toNat then a else a.map (·.add (l.toNat*sz))) (h.toNat - l.toNat) (m.toNat - l.toNat)) w:=by
 simp only[Instr.sliceAt,DU,BK hu,Result.andThen,Instr.slice,PS hl hh hm hmh h0 h1 h2 h3,EY hs,E8]
def X2 {t e : TypeId} {sz:Nat} (hu:P.underlying t=some (.slice e)) (hs:EU P e=some sz) (h0:0<sz)
    (hR:Rel F Z w) {vx:V} {cx:Value} (hx:Ag (Hh F Z w) vx cx) {vl vh vm:Option V} {cl ch cm:Option Value}
    (hl:ga (Hh F Z w) vl cl)
    (hh:ga (Hh F Z w) vh ch)
    (hm:ga (Hh F Z w) vm cm)
    (hmh:cm.isSome=true->ch.isSome=true) (h:AQ Z sz vx vl vh vm k):Cl F Z w k kp ((Instr.sliceAt t cx cl ch cm).run P w):=by
 have hlo: ∀n,((vl=none/\n=0)\/ ∃ki,cl=some (.int ki n))->(cl=none/\n=0)\/ ∃ki,cl=some (.int ki n):=by
  rintro n (⟨rfl,rfl⟩|h)
  .cases cl with
   | none=>exact .inl ⟨rfl,rfl⟩
   | some c=>exact hl.elim
  .exact .inr h
 have hhi: ∀n (d:Int),((vh=none/\n=d)\/ ∃ki,ch=some (.int ki n))->(ch=none/\n=d)\/ ∃ki,ch=some (.int ki n):=by
  rintro n d (⟨rfl,rfl⟩|h)
  .cases ch with
   | none=>exact .inl ⟨rfl,rfl⟩
   | some c=>exact hh.elim
  .exact .inr h
 have hno:vm=none->cm=none:=by
  rintro rfl;cases cm with
  | none=>rfl
  | some c=>exact hm.elim
 cases vx<;>simp only[AQ]at h
 .rename_i es full
  obtain⟨hel,h⟩:=h;obtain⟨a,cap,rfl,h2,h3,h4,h5,h6⟩:=hx;replace h:=N0 hh h;obtain⟨_,hi,h,hhi'⟩:=h;replace h:=N0 hl h;obtain⟨_,li,⟨hl0,hlh,hhl,h⟩,hli'⟩:=h;have hlen:((es.take hi.toNat).drop li.toNat).length=hi.toNat - li.toNat:=by simp;omega
  have hrow: ∀cap':Nat,(es.take hi.toNat).drop li.toNat≠[]->cap'≠li.toNat->
   ∃b o s,(if cap'=li.toNat then a else a.map (·.add (li.toNat*sz)))=some ⟨b,o,none⟩/\BJ (Hh F Z w) (Hh F Z w b) s o ((es.take hi.toNat).drop li.toNat):=fun cap' hne hcap=>by
   have hes:es≠[]:=by rintro rfl;simp at hne
   obtain⟨b,o,s,rfl,h7⟩:=h6 hes
   have hss:s=sz:=by
    obtain⟨e0,r,rfl⟩:=List.exists_cons_of_ne_nil hes;rw[<-hel e0 (by simp)];exact(J1 h7 (by simp)).symm
   subst hss;refine⟨b,o+li.toNat*s,s,?_,OC (IJ h7 _) _⟩;rw[if_neg hcap];simp[Cu]
  have hne: ∀cap':Nat,hi.toNat<=cap'->(es.take hi.toNat).drop li.toNat≠[]->cap'≠li.toNat:=fun cap' hc hn=>by
   have:=List.length_pos_iff.2 hn;rw[hlen]at this;omega
  cases vm with
  | none=>
    obtain rfl:=hno rfl;rw[F9 (m:=cap) hu hs (hlo _ hli') (hhi _ _ hhi') (.inl ⟨rfl,rfl⟩) (by simp) hl0 hlh (by omega) (Int.le_refl _)];refine Aw hR h ?_;simp only[GB];refine⟨_,_,by rw[hlen],by rw[hlen];omega,fun hf=>?_,by rw[hlen];omega,fun ha=>?_,fun hn=>hrow _ hn (hne _ (by omega) hn)⟩
    .simp at hf
     have:=h3 hf.1;rw[hlen];omega
    .cases a with
     | none=>have:=h5 rfl;omega
     | some a=>split at ha<;>simp at ha
  | some v=>
    cases v<;>simp only at h
    rename_i km mi;obtain⟨rfl,h⟩:=h;cases cm with
    | none=>exact hm.elim
    | some c=>
      obtain⟨rfl,_⟩:=hm;rw[F9 (m:=mi) hu hs (hlo _ hli') (hhi _ _ hhi') (.inr ⟨_,rfl⟩) hmh hl0 hlh (Int.le_refl _) (by omega)];refine Aw hR h ?_;refine⟨_,_,by rw[hlen],by rw[hlen];omega,fun _=>by rw[hlen],by rw[hlen];omega,fun ha=>?_,fun hn=>hrow _ hn (hne _ (IW _) hn)⟩;cases a with
      | none=>have:=h5 rfl;omega
      | some a=>split at ha<;>simp at ha
 .rename_i n len cap
  obtain⟨rfl,h2⟩:=hx;replace h:=N0 hh h;obtain⟨_,hi,h,hhi'⟩:=h;replace h:=N0 hl h;obtain⟨_,li,⟨hl0,hlh,hhl,h⟩,hli'⟩:=h;cases vm with
  | none=>
    obtain rfl:=hno rfl;rw[F9 (m:=cap) hu hs (hlo _ hli') (hhi _ _ hhi') (.inl ⟨rfl,rfl⟩) (by simp) hl0 hlh (by omega) (Int.le_refl _)];refine Aw hR h ⟨_,_,by congr 1;omega,by omega,fun hn=>?_⟩;rw[if_neg (by omega)];simp[Cu]
  | some v=>
    cases v<;>simp only at h
    rename_i km mi;obtain⟨rfl,rfl,rfl,h⟩:=h;split at h
    .rename_i s es c hs'
     obtain⟨rfl,rfl,rfl,h⟩:=h;cases cm with
     | none=>exact hm.elim
     | some c=>
       obtain⟨rfl,_⟩:=hm;rw[F9 (m:=(es.length:Int)) hu hs (hlo _ hli') (hhi _ _ hhi') (.inr ⟨_,rfl⟩) hmh hl0 hlh (Int.le_refl _) (by omega)];rcases h with h|h
       .obtain⟨h7,h8,h9⟩:=ZX hR hs'
        refine⟨_,_,h,?_,hR.drop (GV Z n),B8.drop w (GV Z n)⟩;refine⟨some ⟨n,0,none⟩,es.length,?_,IW _,fun _=>rfl,h9,fun ha=>by simp at ha,fun hn=>⟨n,0,s,rfl,h7⟩⟩;simp only[GB,Int.toNat_zero,Nat.sub_zero,Nat.zero_mul,YH,Cu,Nat.add_zero,ite_self]
       .obtain⟨cc,ce,g1,g2,g3,g4,g5⟩:=FF hR hs'
        have hle:=dw hR hs';refine⟨_,_,h,⟨?_,IW _⟩,hle.1,hle.2⟩;simp only[GB,Int.toNat_zero,Nat.sub_zero,Nat.zero_mul,YH,Cu,Nat.add_zero,ite_self]
    .exact h.elim
 .rename_i n s off len
  obtain⟨a,cap,rfl,h2,h3⟩:=hx;replace h:=N0 hh h;obtain⟨_,hi,h,hhi'⟩:=h;replace h:=N0 hl h;obtain⟨_,li,⟨hl0,hlh,hhl,rfl,rfl,h⟩,hli'⟩:=h;obtain rfl:=hno rfl;rw[F9 (m:=cap) hu hs (hlo _ hli') (hhi _ _ hhi') (.inl ⟨rfl,rfl⟩) (by simp) hl0 hlh (by omega) (Int.le_refl _)];refine Aw hR h ⟨_,_,by congr 1;omega,by omega,fun hn=>?_⟩;obtain rfl:=h3 (by omega);rw[if_neg (by omega)];simp[Cu,Nat.add_mul]
def NJ {H:Nat->Nat->Option Value}: ∀ {kvs:List (V×V)} {es:List MapEntry},F3 H kvs es->es.length=kvs.length
 | [],[],_=>rfl
 | (_,_)::r,_::es,h=>by simp only[F3]at h;simp[NJ h.2.2]
 | [],_::_,h=>h.elim
 | _::_,[],h=>h.elim
def o8 (hR:Rel F Z w) {n:Nat} {kvs:List (V×V)} (h:Z n=some (.map kvs)): ∃es clk,w.heap[n]? =some (.map es clk)/\F3 (Hh F Z w) kvs es.toList:=by
 obtain⟨_,ob,h2,es,clk,rfl,h4⟩:=hR.own n _ h;exact⟨es,clk,h2,h4.1⟩
def Ip {n:Nat} (h:n<=AZ):IntKind.i64.min<=(n:Int)/\(n:Int)<=IntKind.i64.max:=by
 unfold AZ at h;simp only[IntKind.min,IntKind.max,IntKind.signed,IntKind.bits,if_true];omega
def eM {t e:TypeId} (ty:TypeId) (hu:P.underlying t=some (.slice e))
    (hR:Rel F Z w) {vx:V} {cx:Value} (hx:Ag (Hh F Z w) vx cx) (h:Ax vx fun v=>k v Z):Cl F Z w k kp ((Builtin.len_ #[t] ty #[cx]).run P w):=by
 cases vx<;>simp only[Ax]at h
 .rename_i es full
  obtain⟨a,cap,rfl,h2,h3,h4,h5,h6⟩:=hx;have:(Builtin.len_ #[t] ty #[.slice a es.length cap]).run P w= .ok (goInt es.length) w:=by simp[Builtin.len_,BK hu]
  rw[this];exact Aw hR h ⟨rfl,Ip h4⟩
 .rename_i n len cap
  obtain⟨rfl,_⟩:=hx;have:(Builtin.len_ #[t] ty #[.slice (some ⟨n,0,none⟩) len cap]).run P w= .ok (goInt len) w:=by simp[Builtin.len_,BK hu]
  rw[this];exact Aw hR h.2 ⟨rfl,Ip h.1⟩
 .rename_i n s o len
  obtain⟨a,cap,rfl,_⟩:=hx;have:(Builtin.len_ #[t] ty #[.slice a len cap]).run P w= .ok (goInt len) w:=by simp[Builtin.len_,BK hu]
  rw[this];exact Aw hR h.2 ⟨rfl,Ip h.1⟩
def ZT {t e f:TypeId} (ty:TypeId) (hu:P.underlying t=some (.map e f))
    (hR:Rel F Z w) {vx:V} {cx:Value} (hx:Ag (Hh F Z w) vx cx) (h:K7 Z vx fun v=>k v Z):Cl F Z w k kp ((Builtin.len_ #[t] ty #[cx]).run P w):=by
 cases vx<;>simp only[K7]at h
 .rename_i n
  split at h
  .rename_i kvs hs
   obtain⟨es,clk,h1,h2⟩:=o8 hR hs;simp only[Ag]at hx;subst hx;have hl:=NJ h2
   have:(Builtin.len_ #[t] ty #[.map (some n)]).run P w= .ok (goInt kvs.length) w:=by
    simp[Builtin.len_,BK hu,getObj,Sem.run,h1,<-hl]
   rw[this];exact Aw hR h.2 ⟨rfl,Ip h.1⟩
  .exact h.elim
 .simp only[Ag]at hx
  subst hx;have:(Builtin.len_ #[t] ty #[.map none]).run P w= .ok (goInt 0) w:=by simp[Builtin.len_,BK hu]
  rw[this];exact Aw hR h ⟨rfl,Ip (Nat.zero_le _)⟩
end Go.Gl
namespace Go.Gl
variable {P:Program} {F:Nat->Prop} {Z:AE} {w:World} {k kp:V->AE->Prop}
def KH (ki:IntKind) (n:Int):ki.min<=ki.wrap n/\ki.wrap n<=ki.max:=by
 have:=WideShapes.wf_wrap ki n;simpa[Lit.wf]using this
def Lp (ki:IntKind):ki.min<=0:=by cases ki<;>decide
def Rn (ki:IntKind):0<=ki.max:=by cases ki<;>decide
def nz {ki:IntKind} {a:Int} (b:Int) (h:ki.min<=a/\a<=ki.max):ki.min<=a.tmod b/\a.tmod b<=ki.max:=by
 have h1:=Lp ki;have h2:=Rn ki;have h5:(a.tmod b).natAbs<=a.natAbs:=by rw[Int.natAbs_tmod];exact Nat.mod_le _ _
 rcases Int.le_total 0 a with h0|h0
 .have h3:=Int.tmod_nonneg b h0
  omega
 .have h4:=Int.tmod_nonneg b (show 0<= -a by omega)
  rw[Int.neg_tmod]at h4;omega
def qI {ki:IntKind} {a:Int} (n:Nat) (h:ki.min<=a/\a<=ki.max):ki.min<=a.fdiv (2 ^ n)/\a.fdiv (2 ^ n)<=ki.max:=by
 have h1:=Lp ki;have h2:=Rn ki;have hp:(0:Int)<2 ^ n:=Int.pow_pos (by omega);rw[Int.fdiv_eq_ediv_of_nonneg _ (by omega)];constructor
 .rw[Int.le_ediv_iff_mul_le hp]
  have:ki.min*2 ^ n<=ki.min*1:=Int.mul_le_mul_of_nonpos_left h1 (by omega);omega
 .have:a / 2 ^ n<ki.max+1:=by
   rw[Int.ediv_lt_iff_lt_mul hp];have:(ki.max+1)*1<=(ki.max+1)*2 ^ n:=Int.mul_le_mul_of_nonneg_left (by omega) (by omega);omega
  omega
def eR {t : TypeId} (op:BinOp) (x y:Operand) (hR:Rel F Z w) {vx vy:V} {cx cy:Value} (hx:Ag (Hh F Z w) vx cx) (hy:Ag (Hh F Z w) vy cy) (h:Vv op vx vy fun v=>k v Z) :
    Cl F Z w k kp ((do eqGuard op t x y cx cy;binOp op t cx cy:Sem Value).run P w):=by
 cases vx<;>simp only[Vv]at h
 cases vy<;>simp only at h
 rename_i ka a kb b;obtain⟨rfl,ha⟩:=hx;obtain⟨rfl,hb⟩:=hy
 have hg:(eqGuard op t x y (.int ka a) (.int kb b)).run P w= .ok () w:=by
  unfold eqGuard;cases op<;>rfl
 simp only[DU,hg,Result.andThen]
 cases op<;>simp only at h<;>first
  | (obtain ⟨rfl,h⟩:=h
     first
      | (obtain⟨hb0,h⟩:=h
         simp only[binOp,Op.intDiv,hb0,if_false,ne_eq,not_true_eq_false]
         first
          | exact Aw hR h ⟨rfl,KH _ _⟩
          | exact Aw hR h ⟨rfl,nz _ ha⟩)
      | (simp only[binOp,Op.intArith,Op.intCmp,Op.intBits,ne_eq,not_true_eq_false,if_false]
         first
          | exact Aw hR h rfl
          | exact Aw hR h ⟨rfl,KH _ _⟩))
  | (obtain⟨h0,h⟩:=h
     have hn: ¬b<0:=by omega
     simp only[binOp,Op.shift,hn,if_false]
     first
      | exact Aw hR h ⟨rfl,KH _ _⟩
      | exact Aw hR h ⟨rfl,qI _ ha⟩)
def Ve {t:TypeId} (hu:P.underlying t=some .bool) (d:Nat) (p q:Bool):(Op.equalIn (d+1) t (.bool p) (.bool q)).run P w= .ok (p==q) w:=by
 simp only[Op.equalIn,DU,BK hu,Result.andThen,E8]
def Th {t:TypeId} (hu:P.underlying t=some .bool) (op:BinOp) (hop:op= .eql\/op= .neq) (x y:Operand) (hR:Rel F Z w) {p q:Bool} (h:k (.b (bif (match op with| .neq=>true|_=>false)then p != q else p==q)) Z) :
    Cl F Z w k kp ((do eqGuard op t x y (.bool p) (.bool q);binOp op t (.bool p) (.bool q):Sem Value).run P w):=by
 have hg:(eqGuard op t x y (.bool p) (.bool q)).run P w= .ok () w:=by
  unfold eqGuard;rcases hop with rfl|rfl<;>rfl
 simp only[DU,hg,Result.andThen]
 have he:(Op.equal t (.bool p) (.bool q)).run P w= .ok (p==q) w:=by
  exact Ve hu 9999 p q
 rcases hop with rfl|rfl
 .simp only[binOp,DU,he,Result.andThen,E8]
  exact Aw hR h rfl
 .simp only[binOp,DU,he,Result.andThen,E8]
  exact Aw hR h (by simp only[Ag,cond_true];cases p<;>cases q<;>rfl)
def Tj (off:Nat): ∀(l:List Value) (j:Nat) (c:Array Value),(l.zipIdx j).foldl (fun cs (x:Value×Nat)=>cs.setIfInBounds (off+x.2) x.1) c=C6 c (off+j) l
 | [],_,_=>rfl
 | v::l,j,c=>by
   simp only[List.zipIdx_cons,List.foldl_cons,C6];rw[Tj off l (j+1),show off+(j+1)=off+j+1 by omega]
def RN (off:Nat) (d c:Array Value):d.zipIdx.foldl (fun cs (x:Value×Nat)=>cs.setIfInBounds (off+x.2) x.1) c=C6 c off d.toList:=by
 rw[<-Array.foldl_toList,Array.toList_zipIdx];exact Tj off d.toList 0 c
def Q8 {H : Nat->Nat->Option Value} {env:Env} {a:Act} (he:CW H env a.tmps) {place:Nat->Option (Nat×Nat)}: ∀ {parts:List (Nat×Operand)} {ps:List (Nat×Nat×Bn)},
    (List.length parts=ps.length/\ ∀(i:Nat) (q:Nat×Operand) (r:Nat×Nat×Bn),parts[i]? =some q->ps[i]? =some r->place q.1=some (r.1,r.2.1)/\BX q.2=some r.2.2)->
    ∀ {c:Array Value} {vs us:List V},c.size=vs.length->Ba H (fun i=>c[i]?) 0 vs->K9 env vs ps=some us->
    ∃d,Instr.fill place c (parts.map fun(i,x)=>(i,a.eval x))=some d/\d.size=us.length/\Ba H (fun i=>d[i]?) 0 us
 | [],ps,hp,c,vs,us,hs,hv,hf=>by
   have:ps= []:=List.eq_nil_of_length_eq_zero hp.1.symm;subst this;cases hf;exact⟨c,rfl,hs,hv⟩
 | (i, x) :: parts,ps,hp,c,vs,us,hs,hv,hf=>by
   cases ps with
   | nil=>simp at hp
   | cons r ps=>
     obtain⟨off,sz,o⟩:=r;obtain⟨h1,h2⟩:=hp.2 0 _ _ rfl rfl;simp only at h1 h2;simp only[K9]at hf;split at hf
     .rename_i v hev
      split at hf
      .rename_i vc hc
       cases hq:(Nat.beq vc.length sz&&Nat.ble (off+sz) vs.length)with
       | false=>rw[hq]at hf;simp at hf
       | true=>
         rw[hq]at hf;simp only[cond_true]at hf;simp only[A9,Nat.beq_eq,Nat.ble_eq]at hq;obtain⟨h3,h4⟩:=C2 (Ap he h2 hev) hc
         obtain⟨d,h5,h6⟩:=Q8 he (parts:=parts) (ps:=ps) ⟨by simpa using hp.1,fun j q r hq hr=>hp.2 (j+1) q r (by simpa using hq) (by simpa using hr)⟩ (c:=C6 c off (a.eval x).cells.toList) (vs:=putAt vs off vc)
          (by rw[D9,FL];exact hs) (Mh hs hv (by simpa using h3) (BF h4 (fun i _=>by simp))) hf
         refine⟨d,?_,h6⟩;simp only[E3,Instr.fill,h1];rw[if_neg (by simp;omega),RN];exact h5
      .cases hf
     .cases hf
def Re {fields:Array Field}: ∀ {parts:List (Nat×Operand)} {ps:List (Nat×Nat×Bn)},UW fields P parts=some ps->
    parts.length=ps.length/\ ∀(i:Nat) (q:Nat×Operand) (r:Nat×Nat×Bn),parts[i]? =some q->ps[i]? =some r->(∃f:Field,fields[q.1]? =some f/\r.1=f.offset/\EU P f.type=some r.2.1)/\BX q.2=some r.2.2
 | [],ps,h=>by cases h;simp
 | (i, x)::parts,ps,h=>by
   simp only[UW]at h;split at h
   .rename_i f o ps' h1 h2 h3
    cases hs:EU P f.type with
    | none=>rw[hs]at h;cases h
    | some s=>
      rw[hs]at h;cases h;obtain⟨h4,h5⟩:=Re h3;refine⟨by simp[h4],fun j q r hq hr=>?_⟩;cases j with
      | zero=>simp at hq hr;subst hq;subst hr;exact⟨⟨f,h1,rfl,hs⟩,h2⟩
      | succ j=>exact h5 j q r (by simpa using hq) (by simpa using hr)
   .cases h
def O1 {sz:Nat}: ∀ {parts:List (Nat×Operand)} {ps:List (Nat×Nat×Bn)},Pe sz parts=some ps->
    parts.length=ps.length/\ ∀(i:Nat) (q:Nat×Operand) (r:Nat×Nat×Bn),parts[i]? =some q->ps[i]? =some r->(r.1=q.1*sz/\r.2.1=sz)/\BX q.2=some r.2.2
 | [],ps,h=>by cases h;simp
 | (i,x)::parts,ps,h=>by
   simp only[Pe]at h;split at h
   .rename_i o ps' h2 h3
    cases h;obtain⟨h4,h5⟩:=O1 h3;refine⟨by simp[h4],fun j q r hq hr=>?_⟩;cases j with
    | zero=>simp at hq hr;subst hq;subst hr;exact⟨⟨rfl,rfl⟩,h2⟩
    | succ j=>exact h5 j q r (by simpa using hq) (by simpa using hr)
   .cases h
def O0: ∀ {parts:List (Nat×Operand)} {ps:List (Nat×Bn)},Pd parts=some ps->
    parts.length=ps.length/\ ∀(i:Nat) (q:Nat×Operand) (r:Nat×Bn),parts[i]? =some q->ps[i]? =some r->r.1=q.1/\BX q.2=some r.2
 | [],ps,h=>by cases h;simp
 | (i,x)::parts,ps,h=>by
   simp only[Pd]at h;split at h
   .rename_i o ps' h2 h3
    cases h;obtain⟨h4,h5⟩:=O0 h3;refine⟨by simp[h4],fun j q r hq hr=>?_⟩;cases j with
    | zero=>simp at hq hr;subst hq;subst hr;exact⟨rfl,h2⟩
    | succ j=>exact h5 j q r (by simpa using hq) (by simpa using hr)
   .cases h
end Go.Gl
namespace Go.Gl
variable {P:Program} {F:Nat->Prop} {Z:AE} {w:World} {k kp:V->AE->Prop}
def I8 {f:FuncId} (h:okF P f=true) (args:Array Value) (w:World):(callFunc f args).run P w= .ok (.enter f args) w:=by
 unfold okF at h;split at h
 .rename_i fn hf
  simp only[A9,zrJ,ne_eq]at h;have hb:fn.body.isNone=false:=by cases hb:fn.body<;>simp[hb]at h ⊢
  have hn:(fn.name== "runtime.NumGoroutine")=false:=by simpa using h.2
  simp only[callFunc,DU,run_program,G3,hf,hn,hb,L2,if_false,E8]
 .cases h
def Iv {H:Nat->Nat->Option Value} {vs us:List V} {cs ds:Array Value} (h:fy H vs cs) (k:fy H us ds):fy H (vs++us) (cs++ds):=by
 refine⟨by simp[h.1,k.1],Ou (BF h.2 fun i hi=>?_) (BF k.2 fun i hi=>?_)⟩
 .simp only[G8]
  rw[Array.getElem?_append_left (by rw[h.1];exact hi)]
 .simp only[G8]
  rw[Array.getElem?_append_right (by rw[h.1];omega),h.1];simp
def KU {H:Nat->Nat->Option Value} {env:Env} {a:Act} (he:CW H env a.tmps) {xs:Array Operand} {os:List Bn} (ho:K1 xs.toList=some os) {vs:List V} (hv:Vl env os=some vs):fy H vs (xs.map a.eval):=by
 obtain⟨h1,h2⟩:=bZ he ho hv;exact⟨by simpa using h1,BF h2 (fun i _=>by simp)⟩
def Eo {s:Sem Value} (h:Cl F Z w k kp (s.run P w)):Good P F Z w k kp ((s.run P w).andThen fun c w=> .ok (.value c) w):=by
 have:=A5 (P:=P) h;simpa only[DU,E8]using this
def Q2 {f:FuncId} {vs:List V} {cs:Array Value} (hR:Rel F Z w) (hv:fy (Hh F Z w) vs cs) (h:Au P f vs Z (qk k kp)):Good P F Z w k kp ((callFunc f cs).run P w):=by
 rw[I8 h.1];exact h.2 F w cs hR hv
def OF {H:Nat->Nat->Option Value} {env:Env} {a:Act} (he:CW H env a.tmps) {x:Option Operand} {o:Option Bn} (ho:cg x=some o) {v:Option V} (hv:Hz env o=some v) :
    ga H v (x.map a.eval):=by
 cases x with
 | none=>
   cases ho;cases hv;trivial
 | some x=>
   simp only[cg]at ho;cases hq:BX x with
   | none=>rw[hq]at ho;cases ho
   | some q=>
     rw[hq]at ho;cases ho;simp only[Hz]at hv;split at hv
     .rename_i u hu
      cases hv;exact Ap he hq hu
     .cases hv
def ZQ {env : Env} {a:Act} {c:Call} {ao:GJ} (ty:TypeId) (ho:gj P c=some ao) (h:Fp P ao env Z k kp) (he:CW (Hh F Z w) env a.tmps) (hR:Rel F Z w) :
    Good P F Z w k kp ((do let d<-resolve a.eval c ty;invoke d.target d.args:Sem Next).run P w):=by
 obtain⟨callee,args,tys⟩:=c;unfold gj at ho;split at ho
 ·
  rename_i x t hc ha ht;simp only at hc ha ht;subst hc;obtain rfl:args= #[x]:=by apply Array.ext';simpa using ha
  obtain rfl:tys= #[t]:=by apply Array.ext';simpa using ht
  simp only[resolve,DU,E8,G3,invoke,builtin,List.map_toArray,E3,List.map_nil];split at ho
  .rename_i e hu
   cases hx:BX x with
   | none=>rw[hx]at ho;cases ho
   | some o=>
     rw[hx]at ho;cases ho;obtain⟨v,h1,h2⟩:=Ak h;exact Eo (eM (P:=P) (kp:=kp) ty hu hR (Ap he hx h1) h2)
  .rename_i e f hu
   cases hx:BX x with
   | none=>rw[hx]at ho;cases ho
   | some o=>
     rw[hx]at ho;cases ho;obtain⟨v,h1,h2⟩:=Ak h;exact Eo (ZT (P:=P) (kp:=kp) ty hu hR (Ap he hx h1) h2)
  .rename_i n e hu
   split at ho
   .rename_i hn
    cases ho;simp only[Fp,ev,FD]at h;have hr:(Builtin.len_ #[t] ty #[a.eval x]).run P w= .ok (goInt n) w:=by simp[Builtin.len_,BK hu]
    exact Eo (s:=Builtin.len_ #[t] ty #[a.eval x]) (k:=k) (kp:=kp) (by rw[hr];exact Aw hR h ⟨rfl,by have:=Lp .i64;omega,hn⟩)
   .cases ho
  .cases ho
 ·
  rename_i x y t u hc ha ht;simp only at hc ha ht;subst hc;obtain rfl:args= #[x,y]:=by apply Array.ext';simpa using ha
  obtain rfl:tys= #[t,u]:=by apply Array.ext';simpa using ht
  split at ho
  .rename_i e e2 hu1 hu2
   split at ho
   .rename_i x' y' i hx hy hi
    split at ho
    .rename_i hcond
     obtain⟨rfl,hb,hz⟩:=hcond;cases ho;obtain⟨vx,h1,h⟩:=Ak h;obtain⟨vy,h2,h⟩:=Ak h;cases hzz:i.zero with
     | none=>rw[hzz]at hz;cases hz
     | some z=>
       rw[hzz]at hz;simp only[YH,JD]at hz;simp only[resolve,DU,E8,G3,invoke,builtin,List.map_toArray,E3,List.map_nil];exact Eo (Vc (P:=P) (kp:=kp) ty hu1 hi hzz hz hb hR (Ap he hx h1) (Ap he hy h2) h)
    .cases ho
   .cases ho
  .cases ho
 ·
  rename_i x y hc ha;simp only at hc ha;subst hc;obtain rfl:args= #[x,y]:=by apply Array.ext';simpa using ha
  split at ho
  .rename_i x' y' hx hy
   cases ho;obtain⟨vx,h1,g⟩:=Ak h;clear h;obtain⟨vy,h2,h⟩:=Ak g;clear g;cases vx<;>try exact h.elim
   cases vy<;>try exact h.elim
   rename_i ka p kb q;obtain⟨rfl,h⟩:=h;obtain⟨ex,bx⟩:=Ap he hx h1;obtain⟨ey,by'⟩:=Ap he hy h2
   have hr:(Builtin.max_ tys ty #[a.eval x,a.eval y]).run P w= .ok (.int ka (if q > p then q else p)) w:=by
    rw[ex,ey];simp[Builtin.max_,Builtin.max2]
   simp only[resolve,DU,E8,G3,invoke,builtin,List.map_toArray,E3,List.map_nil];exact Eo (s:=Builtin.max_ tys ty #[a.eval x,a.eval y]) (k:=k) (kp:=kp) (by rw[hr];exact Aw hR h ⟨rfl,by split<;>assumption⟩)
  .cases ho
 ·
  rename_i x y hc ha;simp only at hc ha;subst hc;obtain rfl:args= #[x,y]:=by apply Array.ext';simpa using ha
  split at ho
  .rename_i x' y' hx hy
   cases ho;obtain⟨vx,h1,g⟩:=Ak h;clear h;obtain⟨vy,h2,h⟩:=Ak g;clear g;cases vx<;>try exact h.elim
   cases vy<;>try exact h.elim
   rename_i ka p kb q;obtain⟨rfl,h⟩:=h;obtain⟨ex,bx⟩:=Ap he hx h1;obtain⟨ey,by'⟩:=Ap he hy h2
   have hr:(Builtin.min_ tys ty #[a.eval x,a.eval y]).run P w= .ok (.int ka (if q<p then q else p)) w:=by
    rw[ex,ey];simp[Builtin.min_,Builtin.min2]
   simp only[resolve,DU,E8,G3,invoke,builtin,List.map_toArray,E3,List.map_nil];exact Eo (s:=Builtin.min_ tys ty #[a.eval x,a.eval y]) (k:=k) (kp:=kp) (by rw[hr];exact Aw hR h ⟨rfl,by split<;>assumption⟩)
  .cases ho
 ·
  rename_i f hc;simp only at hc;subst hc;cases hx:K1 args.toList with
  | none=>simp[hx]at ho
  | some os=>
    simp only[hx,YH,JD]at ho;subst ho;obtain⟨vs,h1,h⟩:=Ik h;have:=Q2 hR (KU he hx h1) h;simp only[resolve,Act.eval,Deferred.ofValue,DU,E8,G3,invoke,Array.append_empty,Array.empty_append];exact this
 ·
  rename_i x _ hc;simp only at hc;subst hc;split at ho
  .rename_i x' os hx hos
   cases ho;obtain⟨vx,h1,g⟩:=Ak h;clear h;obtain⟨vs,h2,h⟩:=Ik g;clear g;cases vx<;>try exact h.elim
   rename_i fn first cap
   cases fn<;>try exact h.elim
   case yield l=>
    have hfc:first= []/\cap= []:=by
     cases first<;>cases cap<;>first|exact⟨rfl,rfl⟩|exact h.elim
    obtain⟨rfl,rfl⟩:=hfc;obtain⟨f',c',e1,e2,e3,e4,e5⟩:=Ap he hx h1;obtain⟨f,tmps,assign,body,e6,e7⟩:=h F w _ hR (KU he hos h2);have e2':f'= #[]:=Array.size_eq_zero_iff.1 e2;have e4':c'= #[]:=Array.size_eq_zero_iff.1 e4;subst e2' e4';simp only[resolve,e1,Deferred.ofValue,DU,E8,G3,invoke,Array.append_empty,Array.empty_append];rw[e6];exact e7
   rename_i f;simp only[Ao]at h;obtain⟨f',c',e1,e2,e3,e4,e5⟩:=Ap he hx h1;have:=Q2 hR (Iv (Iv ⟨e2,e3⟩ (KU he hos h2)) ⟨e4,e5⟩) h;simp only[resolve,e1,Deferred.ofValue,DU,E8,G3,invoke];exact this
  .cases ho
 .cases ho
end Go.Gl
namespace Go.Gl
variable {P:Program} {F:Nat->Prop} {Z:AE} {w:World} {k kp:V->AE->Prop}
def KD {sz:Nat} {z:List V} (hz:z.length=sz) {H:Nat->Nat->Option Value} {c:Array Value} (hc:c.size=sz) (hv:Ba H (fun i=>c[i]?) 0 z) (len:Nat) :
    BJ H (fun i=>((Array.range (len*sz)).map (c[· % c.size]!))[i]?) sz 0 (List.replicate len z):=by
 rw[BH];intro i e he;have hi:i<len:=by have:=(JC.1 he).1;simpa using this
 rw[List.getElem?_replicate,if_pos hi]at he;cases he;refine⟨hz,BF hv (fun q hq=>?_)⟩
 have hlt:0+i*sz+q<len*sz:=by
  have:(i+1)*sz<=len*sz:=Vi _ hi;rw[Nat.succ_mul]at this;omega
 rw[Array.getElem?_map,Array.getElem?_range,if_pos hlt];simp only[YH,hc,G8];rw[Nat.add_comm,Nat.add_mul_mod_self_right,Nat.mod_eq_of_lt (by omega)];rw[getElem!_pos c q (by omega)];exact(Array.getElem?_eq_getElem (by omega)).symm
def Ts {H : Nat -> Nat->Option Value} {env:Env} {a:Act} (he:CW H env a.tmps) {sz:Nat}: ∀ {parts:List (Nat×Operand)} {ps:List (Nat×Bn)},
    (List.length parts=ps.length/\ ∀(i:Nat) (q:Nat×Operand) (r:Nat×Bn),parts[i]? =some q->ps[i]? =some r->r.1=q.1/\BX q.2=some r.2)->
    ∀ {c:Array Value} {es fs:List (List V)},c.size=es.length*sz->BJ H (fun i=>c[i]?) sz 0 es->Jv env sz es ps=some fs->
    ∃d,Instr.fill (fun i=>some (i*sz,sz)) c (parts.map fun(i,x)=>(i,a.eval x))=some d/\d.size=fs.length*sz/\BJ H (fun i=>d[i]?) sz 0 fs/\fs.length=es.length
 | [],ps,hp,c,es,fs,hs,hv,hf=>by
   have:ps= []:=List.eq_nil_of_length_eq_zero hp.1.symm;subst this;cases hf;exact⟨c,rfl,hs,hv,rfl⟩
 | (i, x) :: parts,ps,hp,c,es,fs,hs,hv,hf=>by
   cases ps with
   | nil=>simp at hp
   | cons r ps =>
     obtain⟨j,o⟩:=r;obtain⟨h1,h2⟩:=hp.2 0 _ _ rfl rfl;simp only at h1 h2;subst h1;simp only[Jv]at hf;split at hf
     .rename_i v hev
      split at hf
      .rename_i vc hc
       cases hq:(Nat.beq vc.length sz&&Nat.blt j es.length)with
       | false=>rw[hq]at hf;simp at hf
       | true=>
         rw[hq]at hf;simp only[cond_true]at hf;simp only[A9,Nat.beq_eq,Nat.blt_eq]at hq;obtain⟨h3,h4⟩:=C2 (Ap he h2 hev) hc
         have hb:j*sz+sz<=c.size:=by
          rw[hs,<-Nat.succ_mul];exact Vi _ hq.2
         have hrow:BJ H (fun i=>(C6 c (j*sz) (a.eval x).cells.toList)[i]?) sz 0 (es.set j vc):=by
          rw[BH]at hv ⊢;intro q u hu;rw[List.getElem?_set]at hu;split at hu
          .rename_i ej
           subst ej;rw[if_pos hq.2]at hu;cases hu;refine⟨hq.1,BF h4 (fun p hp=>?_)⟩;simp only[G8];rw[Gd _ _ _ _ (by simp;omega) (by simp;omega)];simp
          .rename_i ej
           obtain⟨h5,h6⟩:=hv q u hu;refine⟨h5,BF h6 (fun p hp=>?_)⟩;rw[DR];rcases Nat.lt_or_ge q j with hji|hji
           .left
            have:(q+1)*sz<=j*sz:=Vi _ hji;rw[Nat.succ_mul]at this;omega
           .right
            have:(j+1)*sz<=q*sz:=Vi _ (by omega);rw[Nat.succ_mul]at this;simp;omega
         obtain⟨d,h5,h6,h7,h8⟩:=Ts he (parts:=parts) (ps:=ps) ⟨by simpa using hp.1,fun j q r hq hr=>hp.2 (j+1) q r (by simpa using hq) (by simpa using hr)⟩ (c:=C6 c (j*sz) (a.eval x).cells.toList) (es:=es.set j vc)
          (by rw[D9];simpa using hs) hrow hf
         refine⟨d,?_,h6,h7,by simpa using h8⟩;simp only[E3,Instr.fill];rw[if_neg (by simp;omega),RN];exact h5
      .cases hf
     .cases hf
def TA {t:TypeId} (h:isInt P t=true): ∃ki,P.underlying t=some (.int ki):=by
 unfold isInt at h;split at h
 .rename_i ki hu;exact⟨ki,hu⟩
 .cases h
def RU {t:TypeId} (h:isBool P t=true):P.underlying t=some .bool:=by
 unfold isBool at h;split at h
 .assumption
 .cases h
def Aj {α β:Type} {f:α->β} {o:Option α} {b:β} (h:o.map f=some b): ∃a,o=some a/\f a=b:=by
 cases o with
 | none=>cases h
 | some a=>exact⟨a,rfl,by simpa using h⟩
def dZ {env : Env} {a:Act} {o:Oper} {ao:GJ} (ho:rOp P o.op=some ao) (h:Fp P ao env Z k kp) (he:CW (Hh F Z w) env a.tmps) (hR:Rel F Z w) :
    Good P F Z w k kp ((execOp a.eval o).run P w):=by
 unfold execOp;cases hop:o.op<;>simp only[hop,rOp]at ho<;>try(cases ho;done)
 all_goals dsimp only
 case move x=>
  obtain⟨x',hx,rfl⟩:=Aj ho;obtain⟨v,h1,h2⟩:=Ak h;exact⟨v,Z,h2,Ap he hx h1,hR,B8.refl _ _ _⟩
 case assign x=>
  obtain⟨x',hx,rfl⟩:=Aj ho;obtain⟨v,h1,h2⟩:=Ak h;exact⟨v,Z,h2,Ap he hx h1,hR,B8.refl _ _ _⟩
 case pick c x y=>
  split at ho
  .rename_i c' x' y' hc hx hy
   cases ho;obtain⟨vc,h1,g⟩:=Ak h;clear h;obtain⟨vx,h2,h⟩:=Ak g;clear g;obtain⟨vy,h3,g⟩:=Ak h;clear h;cases vc<;>try exact g.elim
   rename_i t;have hct:=Ap he hc h1;simp only[Ag]at hct;simp only[hct,asBool,DU,E8,G3]
   have g':k (bif t then vx else vy) Z:=by
    simp only at g;split at g
    .cases t<;>exact g
    .exact g
   cases t
   .exact⟨vy,Z,g',Ap he hy h3,hR,B8.refl _ _ _⟩
   .exact⟨vx,Z,g',Ap he hx h2,hR,B8.refl _ _ _⟩
  .cases ho
 case alloc e=>
  obtain⟨z,hz,rfl⟩:=Aj ho;exact A5 (X6 hz hR h)
 case box e x=>
  obtain⟨x',hx,rfl⟩:=Aj ho;obtain⟨v,h1,h2⟩:=Ak h;cases hc:cellsOf v with
  | none=>rw[hc]at h2;exact h2.elim
  | some cs=>
    rw[hc]at h2;exact A5 (eQ e hR (Ap he hx h1) hc h2)
 case build t parts=>
  split at ho
  .rename_i z fields hz hu
   split at ho
   .rename_i hall
    obtain⟨ps,hps,rfl⟩:=Aj ho;obtain⟨us,h1,h2⟩:=Ik h;obtain⟨v,hz1,hz2⟩:=Gx hz;obtain⟨c,hz3,hz4⟩:=Em hz1 w;obtain⟨h5,h6⟩:=C2 (HF (H:=Hh F Z w) hz4) hz2;obtain⟨h7,h8⟩:=Re hps
    have hplaces: ∃places,fields.toList.mapM (fun f=>(P.info? f.type).map fun i=>(f.offset,i.size))=some places/\places.length=fields.size/\ ∀(j:Nat) (f:Field) (s:Nat),fields[j]? =some f->EU P f.type=some s->places[j]? =some (f.offset,s):=by
     have hgen: ∀l:List Field,l.all (fun f=>(EU P f.type).isSome)=true-> ∃places,l.mapM (fun f=>(P.info? f.type).map fun i=>(f.offset,i.size))=some places/\places.length=l.length/\
      ∀(j:Nat) (f:Field) (s:Nat),l[j]? =some f->EU P f.type=some s->places[j]? =some (f.offset,s):=by
      intro l
      induction l with
      | nil=>intro _;exact⟨[],by simp,rfl,by simp⟩
      | cons f l ih=>
        intro hl;simp only[KE,A9]at hl;obtain⟨places,g1,g2,g3⟩:=ih hl.2;obtain⟨s,hs⟩:=Option.isSome_iff_exists.1 hl.1;obtain⟨i,hi,hsz⟩:=NL hs;refine⟨(f.offset,s)::places,by simp[List.mapM_cons,hi,g1,hsz],by simp[g2],fun j f' s' hj hs'=>?_⟩;cases j with
        | zero=>simp at hj;subst hj;rw[hs]at hs';cases hs';rfl
        | succ j=>exact g3 j f' s' (by simpa using hj) hs'
     obtain⟨places,g1,g2,g3⟩:=hgen fields.toList hall;exact⟨places,g1,by simpa using g2,fun j f s hj hs=>g3 j f s (by simpa using hj) hs⟩
    obtain⟨places,g1,g2,g3⟩:=hplaces
    obtain⟨d,h9,h10,h11⟩:=Q8 he (parts:=parts.toList) (ps:=ps) (place:=fun x=>places[x]?) ⟨h7,fun i q r hq hr=>by
     obtain⟨⟨f,e1,e2,e3⟩,e4⟩:=h8 i q r hq hr
     exact⟨by rw[g3 _ f _ e1 e3,e2],e4⟩⟩ h5 h6 h1
    have hrun:(Instr.build t (parts.map fun(i,x)=>(i,a.eval x))).run P w= .ok (.agg d) w:=by
     refine run_build w t _ d ?_;obtain⟨it,c',q1,q2,q3⟩:=Xh hz1
     have hcc:c'=c:=by
      have:(zeroValue t).run P w= .ok c' w:=by simp[zeroValue,typeInfo,q1,q2]
      rw[hz3]at this;cases this;rfl
     subst hcc;simp only[Program.built,q1,hu,q2,g1,Array.toList_map,List.getElem?_toArray];exact h9
    exact A5 (by rw[hrun];exact Aw hR h2 ⟨d,rfl,h10,h11⟩)
   .cases ho
  .rename_i z len e hz hu
   cases hsz:EU P e with
   | none=>rw[hsz]at ho;cases ho
   | some sz=>
     rw[hsz]at ho;simp only[Option.bind_some]at ho;obtain⟨ps,hps,rfl⟩:=Aj ho;obtain⟨us,h1,h2⟩:=Ik h;obtain⟨v,hz1,hz2⟩:=Gx hz;obtain⟨c,hz3,hz4⟩:=Em hz1 w;obtain⟨h5,h6⟩:=C2 (HF (H:=Hh F Z w) hz4) hz2;obtain⟨h7,h8⟩:=O1 hps
     obtain⟨d,h9,h10,h11⟩:=Q8 he (parts:=parts.toList) (ps:=ps) (place:=fun i=>some (i*sz,sz)) ⟨h7,fun i q r hq hr=>by
      obtain⟨⟨e1,e2⟩,e4⟩:=h8 i q r hq hr
      exact⟨by rw[e1,e2],e4⟩⟩ h5 h6 h1
     have hrun:(Instr.build t (parts.map fun(i,x)=>(i,a.eval x))).run P w= .ok (.agg d) w:=by
      unfold Instr.build;simp only[DU,hz3,G3,BK hu,EY hsz,Array.toList_map,h9,E8]
     exact A5 (by rw[hrun];exact Aw hR h2 ⟨d,rfl,h10,h11⟩)
  .cases ho
 case buildSlice t len parts=>
  split at ho
  .rename_i e hu
   split at ho
   .rename_i z sz hz hsz
    split at ho
    .rename_i hcond
     obtain⟨hzl,h0,hln,hsmall⟩:=hcond;obtain⟨ps,hps,rfl⟩:=Aj ho;simp only[Fp]at h;rw[hzl]at h;obtain⟨fs,h1,h3⟩:=aH h
     have h2:len<=AZ:=by
      have:len*1<=len*sz:=Nat.mul_le_mul_left _ (by omega);simp only[AZ];omega
     obtain⟨v,hz1,hz2⟩:=Gx hz;obtain⟨c,hz3,hz4⟩:=Em hz1 w;obtain⟨h5,h6⟩:=C2 (HF (H:=Hh F Z w) hz4) hz2;obtain⟨h7,h8⟩:=O0 hps
     obtain⟨d,h9,h10,h11,h12⟩:=Ts he (sz:=sz) (parts:=parts.toList) (ps:=ps) ⟨h7,h8⟩ (c:=(Array.range (len*sz)).map (c.cells[· % c.cells.size]!)) (by simp)
      (KD hzl (by omega) h6 len) h1
     have hfl:fs.length=len:=by simpa using h12
     have hrun:(Instr.buildSlice t len (parts.map fun(i,x)=>(i,a.eval x))).run P w= .ok (.slice (some ⟨w.heap.size,0,none⟩) len len) (w.alloc (.cells d e)):=by
      unfold Instr.buildSlice;have hns: ¬len*sz > 2 ^ 24:=by omega
      simp only[DU,BK hu,G3,EY hsz,hns,if_false];have hl0: ¬len*sz=0:=fun h=>by rcases Nat.mul_eq_zero.1 h with h|h<;>omega
      simp only[hl0,if_false,DU,hz3,G3,E8,Array.toList_map,h9];rfl
     refine A5 ?_;rw[hrun];have ha:B8 F Z w Z (w.alloc (.cells d e)):=I7 w _;refine⟨_,Z,h3,?_,Lk hR _,ha⟩;refine⟨some ⟨w.heap.size,0,none⟩,len,by rw[hfl],by omega,fun _=>hfl.symm,by omega,by simp,fun _=>⟨w.heap.size,0,sz,rfl,?_⟩⟩;refine BJ.mono ha.hle (fun i v hv=>?_) _ _ _ h11;rw[Ot (fun hl=>absurd (hR.lock _ hl) (Nat.lt_irrefl _)) hR.new,Dd (heap_alloc_new w _)];exact hv
    .cases ho
   .cases ho
  .cases ho
 case load t x=>
  split at ho
  .rename_i agg x' hA hx
   cases ho;obtain⟨v,h1,h2⟩:=Ak h;exact A5 (ZS hA hR (Ap he hx h1) h2)
  .cases ho
 case store t ad x=>
  split at ho
  .rename_i s a' x' hs ha hx
   cases ho;obtain⟨va,h1,g⟩:=Ak h;obtain⟨vx,h2,h3⟩:=Ak g;obtain⟨Z',w',e1,e2,e3,e4⟩:=X1 hs hR (Ap he ha h1) (Ap he hx h2) h3;simp only[DU,e1,G3,E8];exact⟨Z',e2,e3,e4⟩
  .cases ho
 case binOp op t x y yt=>
  split at ho
  .rename_i x' y' hx hy
   unfold zq at ho;split at ho
   .cases ho
    obtain⟨vx,h1,g⟩:=Ak h;obtain⟨vy,h2,h3⟩:=Ak g;exact A5 (eR op x y hR (Ap he hx h1) (Ap he hy h2) h3)
   .split at ho
    .rename_i _ hb
     split at ho
     .cases ho
      obtain⟨vx,h1,g⟩:=Ak h;obtain⟨vy,h2,h3⟩:=Ak g;cases vx<;>try exact h3.elim
      cases vy<;>try exact h3.elim
      have ex:=Ap he hx h1;have ey:=Ap he hy h2;simp only[Ag]at ex ey;rw[ex,ey];exact A5 (Th (RU hb) _ (.inl rfl) x y hR h3)
     .cases ho
      obtain⟨vx,h1,g⟩:=Ak h;obtain⟨vy,h2,h3⟩:=Ak g;cases vx<;>try exact h3.elim
      cases vy<;>try exact h3.elim
      have ex:=Ap he hx h1;have ey:=Ap he hy h2;simp only[Ag]at ex ey;rw[ex,ey];exact A5 (Th (RU hb) _ (.inr rfl) x y hR h3)
     .cases ho
    .cases ho
  .cases ho
 case unOp op t x=>
  cases op<;>simp only at ho
  case not=>
   obtain⟨x',hx,rfl⟩:=Aj ho;obtain⟨v,h1,h2⟩:=Ak h;cases v<;>try exact h2.elim
   have ex:=Ap he hx h1;simp only[Ag]at ex;rw[ex];exact A5 (s:=Op.unary .not (.bool _)) (Aw hR h2 rfl)
  case neg=>
   split at ho
   .obtain⟨x',hx,rfl⟩:=Aj ho
    obtain⟨v,h1,h2⟩:=Ak h;cases v<;>try exact h2.elim
    obtain⟨ex,_⟩:=Ap he hx h1;rw[ex];exact A5 (s:=Op.unary .neg (.int _ _)) (Aw hR h2 ⟨rfl,KH _ _⟩)
   .cases ho
  case xor=>
   split at ho
   .obtain⟨x',hx,rfl⟩:=Aj ho
    obtain⟨v,h1,h2⟩:=Ak h;cases v<;>try exact h2.elim
    rename_i ka n;obtain⟨ex,_⟩:=Ap he hx h1;rw[ex];refine A5 (s:=Op.unary .xor (.int ka n)) ?_
    have:(Op.unary .xor (.int ka n)).run P w= .ok (.int ka (bits .xor ka (bif ka.signed then -1 else ka.max) n)) w:=by
     simp only[Op.unary,Op.intBits,E8,bits];cases ka.signed<;>rfl
    rw[this];exact Aw hR h2 ⟨rfl,KH _ _⟩
   .cases ho
  all_goals cases ho
 case convert s d x=>
  split at ho
  .rename_i k1 k2 hs hd
   obtain⟨x',hx,rfl⟩:=Aj ho;obtain⟨v,h1,h2⟩:=Ak h;cases v<;>try exact h2.elim
   rename_i ka n;obtain⟨ex,_⟩:=Ap he hx h1;rw[ex];refine A5 (s:=convert s d (.int ka n)) ?_
   have:(convert s d (.int ka n)).run P w= .ok (.int k2 (k2.wrap n)) w:=by
    simp only[convert,DU,BK hs,BK hd,G3,Conv.intToInt,E8]
   rw[this];exact Aw hR h2 ⟨rfl,KH _ _⟩
  .cases ho
 case makeInterface t x=>
  split at ho
  .cases ho
  .rename_i d hd hu
   obtain⟨x',hx,rfl⟩:=Aj ho;obtain⟨v,h1,h2⟩:=Ak h;refine A5 ?_
   have:(Instr.makeInterface t (a.eval x)).run P w= .ok (.iface t (a.eval x)) w:=by
    simp only[Instr.makeInterface,DU,BK hu,G3];cases d<;>first|rfl|exact absurd hu (hd _)
   rw[this];exact Aw hR h2 ⟨_,rfl,Ap he hx h1⟩
  .cases ho
 case makeFunc fn first cap=>
  cases fn<;>simp only at ho<;>try(cases ho;done)
  rename_i f;split at ho
  .rename_i os ps h1 h2
   cases ho;obtain⟨vf,h3,g⟩:=Ik h;obtain⟨vc,h4,h5⟩:=Ik g;have e1:=KU he h1 h3;have e2:=KU he h2 h4;exact⟨_,Z,h5,⟨_,_,rfl,e1.1,e1.2,e2.1,e2.2⟩,hR,B8.refl _ _ _⟩
  .cases ho
 case slice t x lo hi mx=>
  split at ho
  .rename_i e hu
   split at ho
   .rename_i s x' l' h' m' hs hx hl hh hm
    split at ho
    .rename_i hcond
     cases ho;obtain⟨vx,h1,g⟩:=Ak h;obtain⟨vl,h2,g2⟩:=Ux g;obtain⟨vh,h3,g3⟩:=Ux g2;obtain⟨vm,h4,g4⟩:=Ux g3;refine A5 (X2 hu hs hcond.1 hR (Ap he hx h1) (OF he hl h2) (OF he hh h3) (OF he hm h4) (fun hms=>?_) g4)
     have:m'.isSome=true:=by
      cases mx with
      | none=>simp at hms
      | some q=>
        simp only[cg]at hm;cases hq:BX q with
        | none=>rw[hq]at hm;cases hm
        | some z=>rw[hq]at hm;cases hm;rfl
     have:=hcond.2 this;cases hi with
     | none=>cases hh;simp at this
     | some q=>rfl
    .cases ho
   .cases ho
  .cases ho
 case fieldAddr s x f=>
  split at ho
  .rename_i fields hu
   split at ho
   .rename_i fd hf
    split at ho
    .rename_i sz hs
     split at ho
     .cases ho
     .rename_i h0
      obtain⟨x',hx,rfl⟩:=Aj ho;obtain⟨v,h1,h2⟩:=Ak h;exact A5 (X5 hu hf hs h0 hR (Ap he hx h1) h2)
    .cases ho
   .cases ho
  .cases ho
 case field t x f=>
  split at ho
  .rename_i fields hu
   split at ho
   .rename_i fd hf
    split at ho
    .rename_i agg x' hA hx
     cases ho;obtain⟨v,h1,h2⟩:=Ak h;cases v<;>try exact h2.elim
     exact A5 (X4 hu hf hA hR (Ap he hx h1) h2)
    .cases ho
   .cases ho
  .cases ho
 case indexAddr t x i=>
  split at ho
  .rename_i e hu
   split at ho
   .rename_i s x' i' hs hx hi
    cases ho;obtain⟨vx,h1,g⟩:=Ak h;obtain⟨vi,h2,h3⟩:=Ak g;exact A5 (NS hu hs hR (Ap he hx h1) (Ap he hi h2) h3)
   .cases ho
  .rename_i n e hu
   split at ho
   .rename_i s x' i' hs hx hi
    cases ho;obtain⟨vx,h1,g⟩:=Ak h;obtain⟨vi,h2,h3⟩:=Ak g;exact A5 (NT hu hs hR (Ap he hx h1) (Ap he hi h2) h3)
   .cases ho
  .cases ho
 case index t x i=>
  split at ho
  .rename_i n e hu
   split at ho
   .rename_i s ag x' i' hs hA hx hi
    cases ho;obtain⟨vx,h1,g⟩:=Ak h;obtain⟨vi,h2,h3⟩:=Ak g;exact A5 (X3 hu hs hA hR (Ap he hx h1) (Ap he hi h2) h3)
   .cases ho
  .cases ho
 case extract x i=>
  obtain⟨x',hx,rfl⟩:=Aj ho;obtain⟨v,h1,h2⟩:=Ak h;cases v<;>try exact h2.elim
  rename_i vs;simp only at h2;split at h2
  .rename_i u hu
   obtain⟨c,e1,e2,e3⟩:=Ap he hx h1;obtain⟨d,hd,hr⟩:=Bi.1 e3 i u hu;simp only[G8]at hd;refine A5 ?_
   have:(Instr.extract (a.eval x) i).run P w= .ok d w:=by
    rw[e1];simp only[Instr.extract,hd,E8]
   rw[this];exact Aw hR h2 hr
  .exact h2.elim
 case nilCheck x=>
  obtain⟨x',hx,rfl⟩:=Aj ho;obtain⟨v,h1,h2⟩:=Ak h;have hev:=Ap he hx h1;cases v<;>try exact h2.elim
  case p n off=>
   have e:=hev;simp only[Ag]at e;simp only[e];exact⟨_,Z,h2,rfl,hR,B8.refl _ _ _⟩
  case rp cs=>
   have hev':=hev;obtain⟨b,o',e,_⟩:=hev;simp only[e];rw[e]at hev';exact⟨_,Z,h2,hev',hR,B8.refl _ _ _⟩
  case pe n sz i off=>
   have e:=hev;simp only[Ag]at e;simp only[e];exact⟨_,Z,h2,rfl,hR,B8.refl _ _ _⟩
  case f fn first cap=>
   cases fn<;>try exact h2.elim
   all_goals
    have hev':=hev;obtain⟨f',c',e,_⟩:=hev;simp only[e];rw[e]at hev';exact⟨_,Z,h2,hev',hR,B8.refl _ _ _⟩
 case typeAssert x xt t ok=>
  split at ho
  .cases ho
  .rename_i d hd hu
   split at ho
   .rename_i x' z hx hz
    cases ho;obtain⟨v,h1,h2⟩:=Ak h;have hev:=Ap he hx h1;obtain⟨c,hz3,hz4⟩:=Em hz w;have hzr:=HF (H:=Hh F Z w) hz4;cases v<;>try exact h2.elim
    case FO t' u=>
     obtain⟨c',e,hr⟩:=hev;rw[e];refine A5 ?_;by_cases htt:t'=t
     .have:(Instr.typeAssert (.iface t' c') xt t ok).run P w= .ok (if ok then .tuple #[c',.bool true]else c') w:=by
       unfold Instr.typeAssert;simp only[DU,BK hu,G3];cases d<;>first|(simp[htt];done)|exact absurd hu (hd _)
      rw[this];refine Aw hR (h2.1 htt) ?_;cases ok
      .exact hr
      .exact⟨_,rfl,rfl,⟨c',rfl,hr⟩,⟨_,rfl,rfl⟩,trivial⟩
     .obtain⟨rfl,h3⟩:=h2.2 htt
      have:(Instr.typeAssert (.iface t' c') xt t true).run P w= .ok (.tuple #[c,.bool false]) w:=by
       unfold Instr.typeAssert;simp only[DU,BK hu,G3];cases d<;>first|(simp[htt,hz3];done)|exact absurd hu (hd _)
      rw[this];exact Aw hR h3 ⟨_,rfl,rfl,⟨c,rfl,hzr⟩,⟨_,rfl,rfl⟩,trivial⟩
    case Dv=>
     simp only[Ag]at hev;rw[hev];obtain⟨rfl,h3⟩:=h2;refine A5 ?_
     have:(Instr.typeAssert .nilIface xt t true).run P w= .ok (.tuple #[c,.bool false]) w:=by
      unfold Instr.typeAssert;simp only[DU,BK hu,G3];cases d<;>first|(simp[hz3];done)|exact absurd hu (hd _)
     rw[this];exact Aw hR h3 ⟨_,rfl,rfl,⟨c,rfl,hzr⟩,⟨_,rfl,rfl⟩,trivial⟩
   .cases ho
  .cases ho
 case panic x=>
  obtain⟨x',hx,rfl⟩:=Aj ho;obtain⟨v,h1,h2⟩:=Ak h;cases v<;>try exact h2.elim
  have hev:=Ap he hx h1;have hev':=hev;obtain⟨c',e,hr⟩:=hev;rw[e]at hev' ⊢;exact⟨_,Z,h2,hev',hR,B8.refl _ _ _⟩
 case call c=>exact ZQ o.type ho h he hR
end Go.Gl
namespace Go.Gl
variable {P:Program} {F:Nat->Prop} {Z:AE} {w:World} {k kp:V->AE->Prop}
def sr (P:Program) (t:TypeId) (y:Operand):Option Nat:=match P.underlying t,y with
 | some (.pointer _),.const (.pointer none)=>some 0
 | some (.slice _),.const (.slice none _ _)=>some 1
 | some (.interface _),.const .nilIface=>some 2
 | some (.map _ _),.const (.map none)=>some 3
 | some (.func _ _ _),.const .nilFunc=>some 4
 | _,_=>none
def IM (P:Program):Nat->List Field->Bool
 | _,[]=>true
 | j,f::fs=>isInt P f.type&&(decide (f.name≠ "_")&&(Nat.beq f.offset j&&IM P (j+1) fs))
def rEq (P:Program) (neg:Bool) (t:TypeId) (x y:Operand):Option GJ:=
 match sr P t y with
 | some q=>(BX x).map (.fm q neg)
 | none=>match P.underlying t with
   | some (.array n e)=>if isInt P e&& !P.eqGuardType P.depth t&&Nat.beq (P.cellsOf e) 1 then match BX x,BX y with|some x,some y=>some (.nC n neg x y)|_,_=>none else none
   | some (.struct fs)=>if IM P 0 fs.toList&& !P.eqGuardType P.depth t&& !P.stoodInHeld t then match BX x,BX y with|some x,some y=>some (.nC fs.size neg x y)|_,_=>none else none
   | _=>none
def gh (P:Program):Op->Option GJ
 | .binOp op t x y _=>match op with
   | .eql=>rEq P false t x y
   | .neq=>rEq P true t x y
   | _=>none
 | .makeSlice t l c=>match P.underlying t with
   | some (.slice e)=>match Lb (zeroOf P e),P.info? e,BX l,BX c with
     | some z,some i,some l,some c=>if z.length=i.size/\0<i.size/\i.bytes<=4096 then some (.GW i.size i.bytes z l c)else none
     | _,_,_,_=>none
   | _=>none
 | .index t x i=>match P.underlying t with
   | some .string=>match BX x,BX i with|some x,some i=>some (.Vp x i)|_,_=>none
   | _=>none
 | .convert s d x=>match P.underlying s,P.underlying d with
   | some (.slice e),some .string=>match P.underlying e with
     | some (.int .u8)=>(BX x).map .str
     | _=>none
   | _,_=>none
 | .buildSlice t 0 parts=>match P.underlying t with
   | some (.slice e)=>match EU P e,parts.toList with
     | some _,[]=>some (.Hi 1 0 [] [])
     | _,_=>none
   | _=>none
 | _=>none
def Sr {t e:TypeId} {z:List V} {i:TypeInfo} (hu:P.underlying t=some (.slice e)) (hz:Lb (zeroOf P e)=some z) (hi:P.info? e=some i) (hs:z.length=i.size/\0<i.size/\i.bytes<=4096)
    {vl vc:V} {cl cc:Value} (hR:Rel F Z w) (hl:Ag (Hh F Z w) vl cl) (hc:Ag (Hh F Z w) vc cc) (h:AJ Z i.size z vl vc k):Cl F Z w k kp ((Instr.makeSlice t cl cc).run P w):=by
 unfold AJ at h;split at h
 .rename_i kl n kc m
  obtain⟨h0,hnm,hm,hk⟩:=h;obtain⟨rfl,_⟩:=hl;obtain⟨rfl,_⟩:=hc;obtain⟨v,hz1,hz2⟩:=Gx hz;obtain⟨zc,hz3,hz4⟩:=Em hz1 w;obtain⟨h5,h6⟩:=C2 (HF (H:=Hh F Z w) hz4) hz2
  have hiz:i.zero=some zc:=by
   cases hq:i.zero with
   | none=>simp[zeroValue,typeInfo,hi,hq]at hz3
   | some q=>simp[zeroValue,typeInfo,hi,hq]at hz3;rw[hz3]
  have hb:(i.bytes:Int)*m<=281474976710656:=by
   have h1:(i.bytes:Int)*m<=4096*m:=Int.mul_le_mul_of_nonneg_right (by have:=hs.2.2;omega) (by omega);have h2:m<=1073741824:=hm;omega
  rw[run_make w t e i zc hu hi hiz kl kc n m h0 hnm hb (by omega)];have hlen:(List.replicate n.toNat z).length=n.toNat:=by simp
  refine⟨_,_,hk w.heap.size hR.new,?_,IK hR ?_,EI _ _⟩
  .exact⟨rfl,by omega⟩
  .refine⟨_,_,rfl,by simp[madeCells],by simp only[hlen];omega,by simp only[hlen,AZ]at *;omega,?_⟩
   have hrow:=BH.1 (KD hs.1 (by omega) h6 m.toNat);refine BH.2 fun j e hj=>hrow j e ?_
   rw[List.getElem?_replicate]at hj ⊢;split at hj
   .rw[if_pos (by omega)];exact hj
   .cases hj
 .exact h.elim
def cn (op:BinOp):Bool:=match op with| .neq=>true|_=>false
def KA {t:TypeId} (op:BinOp) (hop:op= .eql\/op= .neq) (x y:Operand) {cx cy:Value} (hg:(eqGuard op t x y cx cy).run P w= .ok () w)
    (hb:binOp op t cx cy=if op= .eql then(do pure (.bool (<-Op.equal t cx cy)))else(do pure (.bool (!(<-Op.equal t cx cy))))) {r:Bool} (he:(Op.equal t cx cy).run P w= .ok r w) (hR:Rel F Z w)
    (h:k (.b (bif cn op then !r else r)) Z):Cl F Z w k kp ((do eqGuard op t x y cx cy;binOp op t cx cy:Sem Value).run P w):=by
 simp only[DU,hg,G3];rw[hb];rcases hop with rfl|rfl
 .simp only[if_true,DU,he,G3,E8]
  exact Aw hR h rfl
 .simp only[reduceCtorEq,if_false,DU,he,G3,E8]
  exact Aw hR h rfl
section nils
variable {t:TypeId} (d:Nat)
def tr {e:TypeId} (hu:P.underlying t=some (.pointer e)):(Op.equalIn (d+1) t (.pointer none) (.pointer none)).run P w= .ok true w:=by simp only[Op.equalIn,DU,BK hu,Result.andThen,E8];rfl
def tq {e:TypeId} {a:Addr} (hu:P.underlying t=some (.pointer e)):(Op.equalIn (d+1) t (.pointer (some a)) (.pointer none)).run P w= .ok false w:=by simp only[Op.equalIn,DU,BK hu,Result.andThen,E8]
def tp {e:TypeId} {l c l' c':Nat} (hu:P.underlying t=some (.slice e)):(Op.equalIn (d+1) t (.slice none l c) (.slice none l' c')).run P w= .ok true w:=by simp only[Op.equalIn,DU,BK hu,Result.andThen,E8];rfl
def ib {e:TypeId} {a:Addr} {l c l' c':Nat} (hu:P.underlying t=some (.slice e)):(Op.equalIn (d+1) t (.slice (some a) l c) (.slice none l' c')).run P w= .ok false w:=by simp only[Op.equalIn,DU,BK hu,Result.andThen,E8]
def tv {m:Array (String×TypeId)} (hu:P.underlying t=some (.interface m)):(Op.equalIn (d+1) t .nilIface .nilIface).run P w= .ok true w:=by simp only[Op.equalIn,DU,BK hu,Result.andThen,E8]
def tu {m:Array (String×TypeId)} {u:TypeId} {v:Value} (hu:P.underlying t=some (.interface m)):(Op.equalIn (d+1) t (.iface u v) .nilIface).run P w= .ok false w:=by simp only[Op.equalIn,DU,BK hu,Result.andThen,E8]
def tt {a b:TypeId} (hu:P.underlying t=some (.map a b)):(Op.equalIn (d+1) t (.map none) (.map none)).run P w= .ok true w:=by simp only[Op.equalIn,DU,BK hu,Result.andThen,E8];rfl
def ts {a b:TypeId} {n:Nat} (hu:P.underlying t=some (.map a b)):(Op.equalIn (d+1) t (.map (some n)) (.map none)).run P w= .ok false w:=by simp only[Op.equalIn,DU,BK hu,Result.andThen,E8]
def tx {a b:Array TypeId} {v:Bool} (hu:P.underlying t=some (.func a b v)):(Op.equalIn (d+1) t .nilFunc .nilFunc).run P w= .ok true w:=by simp only[Op.equalIn,DU,BK hu,Result.andThen,E8]
def tw {a b:Array TypeId} {v:Bool} {fn:Fn} {f' c':Array Value} (hu:P.underlying t=some (.func a b v)):(Op.equalIn (d+1) t (.func fn f' c') .nilFunc).run P w= .ok false w:=by simp only[Op.equalIn,DU,BK hu,Result.andThen,E8]
end nils
def eO {t : TypeId} {q:Nat} (op:BinOp) (hop:op= .eql\/op= .neq) (x y:Operand) {cy:Value} (hq:sr P t y=some q) (hy: ∀c,y= .const c->cy=c) (hR:Rel F Z w) {vx:V} {cx:Value}
    (hx:Ag (Hh F Z w) vx cx) (h:Ji q (cn op) vx fun v=>k v Z):Cl F Z w k kp ((do eqGuard op t x y cx cy;binOp op t cx cy:Sem Value).run P w):=by
 have fin: ∀ {r:Bool},(eqGuard op t x y cx cy).run P w= .ok () w->(binOp op t cx cy=if op= .eql then(do pure (.bool (<-Op.equal t cx cy)))else(do pure (.bool (!(<-Op.equal t cx cy)))))->(Op.equalIn 10000 t cx cy).run P w= .ok r w->
  k (.b (bif cn op then !r else r)) Z->Cl F Z w k kp ((do eqGuard op t x y cx cy;binOp op t cx cy:Sem Value).run P w):=fun hg hb he hk=>KA op hop x y hg hb he hR hk
 unfold sr at hq;split at hq<;>first|(cases hq;done)|skip
 all_goals
  cases hq;have hc:=hy _ rfl;subst hc
 .rename_i hu
  unfold Ji at h;split at h<;>first|exact h.elim|(rename_i h0;cases h0;done)|skip
  .simp only[Ag]at hx;subst hx
   refine fin (r:=true) ?_ ?_ (tr 9999 hu) ?_
   .unfold eqGuard;rcases hop with rfl|rfl<;>rfl
   .rcases hop with rfl|rfl<;>rfl
   .rcases hop with rfl|rfl<;>exact h
  all_goals
   first|(obtain⟨b,o,rfl,_⟩:=hx)|(simp only[Ag]at hx;subst hx)
   refine fin (r:=false) ?_ ?_ (tq 9999 hu) ?_
   .unfold eqGuard;rcases hop with rfl|rfl<;>rfl
   .rcases hop with rfl|rfl<;>rfl
   .rcases hop with rfl|rfl<;>exact h
 .rename_i hu
  unfold Ji at h;split at h<;>first|exact h.elim|(rename_i h0;cases h0;done)|skip
  .obtain⟨rfl,_⟩:=hx
   refine fin (r:=false) ?_ ?_ (ib 9999 hu) ?_
   .unfold eqGuard;rcases hop with rfl|rfl<;>rfl
   .rcases hop with rfl|rfl<;>rfl
   .rcases hop with rfl|rfl<;>exact h
  .rename_i es f _
   obtain⟨a,cap,rfl,h1,h2,h3,h4,h5⟩:=hx;cases a with
   | none=>
     refine fin (r:=true) ?_ ?_ (tp 9999 hu) ?_
     .unfold eqGuard;rcases hop with rfl|rfl<;>rfl
     .rcases hop with rfl|rfl<;>rfl
     .have:es= []:=by
       have:=h4 rfl;exact YE.1 (by omega)
      exact h.1 this _
   | some a=>
     refine fin (r:=false) ?_ ?_ (ib 9999 hu) ?_
     .unfold eqGuard;rcases hop with rfl|rfl<;>rfl
     .rcases hop with rfl|rfl<;>rfl
     .by_cases he:es= []
      .exact h.1 he _
      .rcases hop with rfl|rfl<;>exact h.2 he
 .rename_i hu
  unfold Ji at h;split at h<;>first|exact h.elim|(rename_i h0;cases h0;done)|skip
  .simp only[Ag]at hx;subst hx
   refine fin (r:=true) ?_ ?_ (tv 9999 hu) ?_
   .unfold eqGuard;rcases hop with rfl|rfl<;>simp
   .rcases hop with rfl|rfl<;>rfl
   .rcases hop with rfl|rfl<;>exact h
  .obtain⟨c',rfl,_⟩:=hx
   refine fin (r:=false) ?_ ?_ (tu 9999 hu) ?_
   .unfold eqGuard;rcases hop with rfl|rfl<;>rfl
   .rcases hop with rfl|rfl<;>rfl
   .rcases hop with rfl|rfl<;>exact h
 .rename_i hu
  unfold Ji at h;split at h<;>first|exact h.elim|(rename_i h0;cases h0;done)|skip
  .simp only[Ag]at hx;subst hx
   refine fin (r:=true) ?_ ?_ (tt 9999 hu) ?_
   .unfold eqGuard;rcases hop with rfl|rfl<;>rfl
   .rcases hop with rfl|rfl<;>rfl
   .rcases hop with rfl|rfl<;>exact h
  .simp only[Ag]at hx;subst hx
   refine fin (r:=false) ?_ ?_ (ts 9999 hu) ?_
   .unfold eqGuard;rcases hop with rfl|rfl<;>rfl
   .rcases hop with rfl|rfl<;>rfl
   .rcases hop with rfl|rfl<;>exact h
 .rename_i hu
  unfold Ji at h;split at h<;>first|exact h.elim|(rename_i h0;cases h0;done)|skip
  .simp only[Ag]at hx;subst hx
   refine fin (r:=true) ?_ ?_ (tx 9999 hu) ?_
   .unfold eqGuard;rcases hop with rfl|rfl<;>rfl
   .rcases hop with rfl|rfl<;>rfl
   .rcases hop with rfl|rfl<;>exact h
  .obtain⟨f',c',rfl,_⟩:=hx
   refine fin (r:=false) ?_ ?_ (tw 9999 hu) ?_
   .unfold eqGuard;rcases hop with rfl|rfl<;>rfl
   .rcases hop with rfl|rfl<;>rfl
   .rcases hop with rfl|rfl<;>exact h
def O9 {d : Nat} {e:TypeId} {ki:IntKind} (hue:P.underlying e=some (.int ki)) {xs ys:Array Value} {H:Nat->Nat->Option Value}: ∀(cs ds:List V) (j:Nat) (r:Bool),
    Ba H (fun i=>xs[i]?) j cs->Ba H (fun i=>ys[i]?) j ds->Bv cs ds=some r->(Op.eqItems (d+1) e 1 xs ys (List.range' j cs.length)).run P w= .ok r w
 | [],ds,j,r,_,_,h=>by
   cases ds with
   | nil=>simp only[Bv,JD]at h;subst h;rfl
   | cons _ _=>simp[Bv]at h
 | c ::cs,ds,j,r,hx,hy,h=>by
   cases ds with
   | nil=>cases c<;>simp[Bv]at h
   | cons q ds=>
     cases c<;>first|(simp[Bv]at h;done)|skip
     cases q<;>first|(simp[Bv]at h;done)|skip
     rename_i k a k' b;simp only[Bv]at h;split at h
     .rename_i hk
      subst hk;obtain⟨⟨cx,h1,⟨rfl,_⟩⟩,h2⟩:=hx;obtain⟨⟨cy,h3,⟨rfl,_⟩⟩,h4⟩:=hy;obtain⟨r',h5,h6⟩:=Aj h;have hp:P.plainKey e=true:=by simp[Program.plainKey,hue]
      simp only[Ky,List.range'_succ,Op.eqItems,Nat.mul_one,DU,run_part_plain w hp h1,run_part_plain w hp h3,G3,run_equalIn_int w d e _ ki a b hue];have ih:=O9 (d:=d) hue cs ds (j+1) r' h2 h4 h5;cases hab:(a==b)
      .rw[hab]at h6
       simp only[Bool.false_and]at h6;subst h6;simp
      .rw[hab]at h6
       simp only[EA]at h6;subst h6;simpa using ih
     .cases h
def eP {t e:TypeId} {n:Nat} (op:BinOp) (hop:op= .eql\/op= .neq) (x y:Operand) (hu:P.underlying t=some (.array n e)) (he:isInt P e=true) (hg:P.eqGuardType P.depth t=false) (h1:P.cellsOf e=1) (hR:Rel F Z w) {vx vy:V} {cx cy:Value}
    (hx:Ag (Hh F Z w) vx cx) (hy:Ag (Hh F Z w) vy cy) (h:UO n (cn op) vx vy fun v=>k v Z):Cl F Z w k kp ((do eqGuard op t x y cx cy;binOp op t cx cy:Sem Value).run P w):=by
 unfold UO at h;split at h
 .rename_i cs ds
  obtain⟨xs,rfl,h2,h3⟩:=hx;obtain⟨ys,rfl,h4,h5⟩:=hy;split at h
  .rename_i r hl hr
   have hl:cs.length=n:=Vj hl;obtain⟨ki,hki⟩:=TA he;have hi: ∃i,P.info? e=some i:=info_of_underlying hki;obtain⟨i,hi⟩:=hi;refine KA op hop x y (r:=r) (run_eqGuard_agg w op t x y xs ys hg) ?_ ?_ hR h
   .rcases hop with rfl|rfl<;>rfl
   .show(Op.equalIn (9999+1) t (.agg xs) (.agg ys)).run P w= .ok r w
    rw[run_equalIn_array w 9999 xs ys hu hi,h1,List.range_eq_range',<-hl];exact O9 (d:=9998) hki cs ds 0 r h3 h5 hr
  .exact h.elim
 .exact h.elim
def NO {d : Nat} {xs ys:Array Value} {H:Nat->Nat->Option Value}: ∀(fs:List Field) (cs ds:List V) (j:Nat) (r:Bool),IM P j fs=true->cs.length=fs.length->
    Ba H (fun i=>xs[i]?) j cs->Ba H (fun i=>ys[i]?) j ds->Bv cs ds=some r->(Op.eqFields (d+1) xs ys fs).run P w= .ok r w
 | [],cs,ds,j,r,_,hl,_,_,h=>by
   cases cs with
   | cons _ _=>cases hl
   | nil=>
     cases ds with
     | nil=>simp only[Bv,JD]at h;subst h;rfl
     | cons _ _=>simp[Bv]at h
 | f ::fs,cs,ds,j,r,hf,hl,hx,hy,h=>by
   cases cs with
   | nil=>cases hl
   | cons c cs=>
   cases ds with
   | nil=>cases c<;>simp[Bv]at h
   | cons q ds=>
     cases c<;>first|(simp[Bv]at h;done)|skip
     cases q<;>first|(simp[Bv]at h;done)|skip
     rename_i k a k' b;simp only[Bv]at h;split at h
     .rename_i hk
      subst hk;simp only[IM,A9,Cc]at hf;obtain⟨f1,f2,f3,f4⟩:=hf;obtain⟨ki,hue⟩:=TA f1;have f3:=Vj f3;obtain⟨⟨cx,h1,⟨rfl,_⟩⟩,h2⟩:=hx;obtain⟨⟨cy,h3,⟨rfl,_⟩⟩,h4⟩:=hy;obtain⟨r',h5,h6⟩:=Aj h;have hp:P.plainKey f.type=true:=by simp[Program.plainKey,hue]
      simp only[Op.eqFields];rw[if_pos f2,f3];simp only[DU,run_part_plain w hp h1,run_part_plain w hp h3,G3,run_equalIn_int w d f.type _ ki a b hue];have ih:=NO (d:=d) fs cs ds (j+1) r' f4 (by simpa using hl) h2 h4 h5;cases hab:(a==b)
      .rw[hab]at h6
       simp only[Bool.false_and]at h6;subst h6;simp
      .rw[hab]at h6
       simp only[EA]at h6;subst h6;simpa using ih
     .cases h
def eN {t:TypeId} {fs:Array Field} (op:BinOp) (hop:op= .eql\/op= .neq) (x y:Operand) (hu:P.underlying t=some (.struct fs)) (he:IM P 0 fs.toList=true) (hg:P.eqGuardType P.depth t=false) (h1:P.stoodInHeld t=false) (hR:Rel F Z w) {vx vy:V} {cx cy:Value}
    (hx:Ag (Hh F Z w) vx cx) (hy:Ag (Hh F Z w) vy cy) (h:UO fs.size (cn op) vx vy fun v=>k v Z):Cl F Z w k kp ((do eqGuard op t x y cx cy;binOp op t cx cy:Sem Value).run P w):=by
 unfold UO at h;split at h
 .rename_i cs ds
  obtain⟨xs,rfl,h2,h3⟩:=hx;obtain⟨ys,rfl,h4,h5⟩:=hy;split at h
  .rename_i r hl hr
   have hl:cs.length=fs.size:=Vj hl;have hfs:P.fieldsOf t=fs:=by simp[Program.fieldsOf,hu]
   refine KA op hop x y (r:=r) (run_eqGuard_agg w op t x y xs ys hg) ?_ ?_ hR h
   .rcases hop with rfl|rfl<;>rfl
   .show(Op.equalIn (9999+1) t (.agg xs) (.agg ys)).run P w= .ok r w
    rw[run_equalIn_struct w 9999 t xs ys (by rw[hfs];exact hu) h1,hfs];exact NO (d:=9998) fs.toList cs ds 0 r he (by simpa using hl) h3 h5 hr
  .exact h.elim
 .exact h.elim
def Rg: ∀ {ys:List (List V)} {ns:List Int},Fb ys=some ns->ns.length=ys.length/\ ∀(i:Nat) (n:Int),ns[i]? =some n->ys[i]? =some [V.i .u8 n]
 | [],ns,h=>by
   cases h;exact⟨rfl,fun _ _ h=>by simp at h⟩
 | e ::r,ns,h=>by
   unfold Fb at h;split at h
   .cases ‹_= []›
   .rename_i n r' he
    cases he;split at h
    .rename_i l hl
     cases h;obtain⟨h1,h2⟩:=Rg hl;refine⟨by simp[h1],fun i m hi=>?_⟩;cases i with
     | zero=>simp at hi;subst hi;rfl
     | succ i=>exact h2 i m (by simpa using hi)
    .cases h
   .cases h
def eK {s d e:TypeId} (hs:P.underlying s=some (.slice e)) (hd:P.underlying d=some .string) (he:P.underlying e=some (.int .u8)) (hR:Rel F Z w) {vx:V} {cx:Value} (hx:Ag (Hh F Z w) vx cx) (h:gP Z vx fun v=>k v Z) :
    Cl F Z w k kp ((convert s d cx).run P w):=by
 obtain⟨ys,base,cap,U,rfl,_,hc⟩:=Li hR hx h;cases hn:Fb ys with
 | none=>rw[hn]at U;exact U.elim
 | some ns=>
   rw[hn]at U;obtain⟨h1,h2⟩:=Rg hn
   have fin:(convert s d (.slice base ys.length cap)).run P w= .ok (.string ⟨(ns.map fun n=>UInt8.ofNat n.toNat).toArray⟩) w->Cl F Z w k kp ((convert s d (.slice base ys.length cap)).run P w):=fun e=>by
    rw[e];exact Aw hR U rfl
   have nilB: ∀ {l c:Nat},ys= []->(convert s d (.slice none l c)).run P w= .ok (.string ⟨(ns.map fun n=>UInt8.ofNat n.toNat).toArray⟩) w:=fun e=>by
    subst e;simp only[Fb,JD]at hn;subst hn;exact run_convert_bytes_nil w s e hs he _ _ d hd
   have main: ∀ {b o:Nat} {g:Nat->Option Value},base=some ⟨b,o,none⟩->(∀i c,g i=some c->w.cell? ⟨b,i,none⟩=some c)->BJ (Hh F Z w) g 1 o ys->(convert s d (.slice base ys.length cap)).run P w= .ok (.string ⟨(ns.map fun n=>UInt8.ofNat n.toNat).toArray⟩) w:=fun {b o g} hb hg hr=>by
    subst hb;refine run_convert_bytes_arg w s e hs he b o ys.length cap ns h1 (fun i hi=>?_) d hd;have hi':i<ns.length:=by omega
    have h3:=h2 i ns[i] (Cr hi');obtain⟨_,h4⟩:=BH.1 hr i _ h3;simp only[Ba]at h4;obtain⟨⟨c,h5,h6⟩,_⟩:=h4;obtain⟨rfl,_⟩:=h6;have:=hg _ _ h5;simp only[Nat.mul_one]at this;rw[this];simp[List.getD,Cr hi']
   refine fin ?_;rcases hc with hc|⟨b,o,g,hb,hg,hr⟩
   .cases base with
    | none=>exact nilB hc
    | some a=>
      subst hc;simp only[Fb,JD]at hn;subst hn;rw[run_convert_bytes_string w s d e _ _ cap hs he hd];exact run_bytesToString w a 0 cap [] (by unfold loadCells loadCellsFrom;rfl)
   .exact main hb hg hr
def ZR {t:TypeId} (hu:P.underlying t=some .string) (hR:Rel F Z w) {vx vi:V} {cx ci:Value} (hx:Ag (Hh F Z w) vx cx) (hi:Ag (Hh F Z w) vi ci) (h:QM vx vi fun v=>k v Z):Cl F Z w k kp ((Instr.index t cx ci).run P w):=by
 unfold QM at h;split at h
 .rename_i b ki j
  obtain⟨h0,h⟩:=h;have hx':cx= .string b:=hx;subst hx';obtain⟨rfl,_⟩:=hi;split at h
  .rename_i c hc
   have hb:b[j.toNat]? =some c:=by
    rw[Array.getElem?_toList]at hc;obtain⟨h1,h2⟩:=sO.1 hc;rw[getElem?_pos b j.toNat h1];exact congrArg some h2
   simp only[Instr.index,DU,asIntOf,E8,Result.andThen,BK hu,h0,if_true,hb];have:=UInt8.toNat_lt c;exact Aw hR h ⟨rfl,by simp only[IntKind.min,IntKind.max,IntKind.signed,IntKind.bits];simp<;>omega⟩
  .exact h.elim
 .exact h.elim
def Xn {env : Env} {a:Act} {o:Oper} {ao:GJ} (ho:gh P o.op=some ao) (h:Fp P ao env Z k kp) (he:CW (Hh F Z w) env a.tmps) (hR:Rel F Z w) :
    Good P F Z w k kp ((execOp a.eval o).run P w):=by
 have heq: ∀ {op:BinOp} {t yt:TypeId} {x y:Operand},(op= .eql\/op= .neq)->rEq P (cn op) t x y=some ao->o.op= .binOp op t x y yt->Good P F Z w k kp ((execOp a.eval o).run P w):=fun {op t yt x y} hop hr hoo=>by
  unfold execOp;rw[hoo];dsimp only;unfold rEq at hr;split at hr
  .rename_i q hq
   obtain⟨x',hx,rfl⟩:=Aj hr;obtain⟨vx,h1,h2⟩:=Ak h;exact A5 (eO op hop x y hq (fun c hc=>by rw[hc];rfl) hR (Ap he hx h1) h2)
  .split at hr
   .rename_i n e hu
    split at hr
    .rename_i hc
     simp only[A9,Bool.not_eq_true']at hc;split at hr
     .rename_i x' y' hx hy
      cases hr;obtain⟨vx,h1,g⟩:=Ak h;obtain⟨vy,h2,h3⟩:=Ak g;exact A5 (eP op hop x y hu hc.1.1 hc.1.2 (Vj hc.2) hR (Ap he hx h1) (Ap he hy h2) h3)
     .cases hr
    .cases hr
   .rename_i fs hu
    split at hr
    .rename_i hc
     simp only[A9,Bool.not_eq_true']at hc;split at hr
     .rename_i x' y' hx hy
      cases hr;obtain⟨vx,h1,g⟩:=Ak h;obtain⟨vy,h2,h3⟩:=Ak g;exact A5 (eN op hop x y hu hc.1.1 hc.1.2 hc.2 hR (Ap he hx h1) (Ap he hy h2) h3)
     .cases hr
    .cases hr
   .cases hr
 unfold gh at ho;split at ho
 .rename_i op t x y yt hop
  split at ho
  .exact heq (.inl rfl) ho hop
  .exact heq (.inr rfl) ho hop
  .cases ho
 .rename_i t l c hop
  split at ho
  .rename_i e hu
   split at ho
   .rename_i z i l' c' hz hi hl hc
    split at ho
    .rename_i hs
     cases ho;obtain⟨vl,h1,g⟩:=Ak h;obtain⟨vc,h2,h3⟩:=Ak g;unfold execOp;rw[hop];dsimp only;exact A5 (Sr hu hz hi hs hR (Ap he hl h1) (Ap he hc h2) h3)
    .cases ho
   .cases ho
  .cases ho
 .rename_i t x i hop
  split at ho
  .rename_i hu
   split at ho
   .rename_i x' i' hx hi
    cases ho;obtain⟨vx,h1,g⟩:=Ak h;obtain⟨vi,h2,h3⟩:=Ak g;unfold execOp;rw[hop];exact A5 (ZR hu hR (Ap he hx h1) (Ap he hi h2) h3)
   .cases ho
  .cases ho
 .rename_i s d x hop
  split at ho
  .rename_i e hs hd
   split at ho
   .rename_i he8
    obtain⟨x',hx,rfl⟩:=Aj ho;obtain⟨vx,h1,h2⟩:=Ak h;unfold execOp;rw[hop];exact A5 (eK hs hd he8 hR (Ap he hx h1) h2)
   .cases ho
  .cases ho
 .rename_i t parts hop
  split at ho
  .rename_i e hu
   split at ho
   .rename_i sz hsz hp
    cases ho;simp only[Fp]at h;obtain⟨fs,h1,h3⟩:=aH h;simp only[Jv,List.replicate,JD]at h1;subst h1
    have hps:parts= #[]:=by
     cases parts;simp at hp;rw[hp]
    subst hps;unfold execOp;rw[hop];dsimp only
    have hrun:(Instr.buildSlice t 0 ((#[]:Array (Nat×Operand)).map fun(i,x)=>(i,a.eval x))).run P w= .ok (.slice (some ⟨w.heap.size,0,none⟩) 0 0) (w.alloc (.cells #[] e)):=by
     unfold Instr.buildSlice;have hns: ¬0 > 2 ^ 24:=by omega
     simp only[DU,BK hu,G3,EY hsz,Nat.zero_mul,hns,if_false,if_true,E8];have hz: ∀g:Nat->Value,(Array.range 0).map g= #[]:=fun g=>by simp[Array.range]
     rw[hz];simp only[List.map_toArray,List.map_nil,Instr.fill];rfl
    refine A5 ?_;rw[hrun];exact⟨_,Z,h3,⟨_,0,rfl,IW _,fun _=>rfl,Nat.zero_le _,fun h=>(by cases h),fun h=>absurd rfl h⟩,Lk hR _,I7 w _⟩
   .cases ho
  .cases ho
 .cases ho
def sg (P:Program) (o:Op):Option GJ:=match rOp P o with|some a=>some a|none=>gh P o
def ZE {env:Env} {a:Act} {o:Oper} {ao:GJ} (ho:sg P o.op=some ao) (h:Fp P ao env Z k kp) (he:CW (Hh F Z w) env a.tmps) (hR:Rel F Z w) :
    Good P F Z w k kp ((execOp a.eval o).run P w):=by
 unfold sg at ho;split at ho
 .rename_i h';cases ho;exact dZ h' h he hR
 .exact Xn ho h he hR
end Go.Gl
