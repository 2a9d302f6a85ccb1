import Derived.Test.YtinppljblkpedaaGreatU14
import Derived.Test.YtinppljblkpedaaGreatU18
import Derived.Test.YtinppljblkpedaaGreatU19
import Derived.Test.YtinppljblkpedaaGreatU24
import Derived.Test.YtinppljblkpedaaGreatU27
set_option linter.all false
set_option linter.defProp false
set_option maxHeartbeats 8000000
noncomputable section
namespace Go.Gl
open Go.Proofs
def Fv {α:Type} {l l':List α} (h:l <+: l') {i:Nat} (hi:i<l.length):l'[i]? =l[i]? :=by
 obtain⟨t,rfl⟩:=h;rw[X1 hi]
abbrev Gj:=List Nat×List Ob
def JO (w:AF) (m:Nat):Prop:= ∀c,3<=c->m.testBit c=true-> ∀q∈par w.parents c,m.testBit q.toNat=true
def Cx (w:AF) (more:List Nat) (m:Nat):Int×List Nat:=
 match(List.range w.parents.length).find? fun i=>FT ((Ah w.parents).getD (3+i) 0)==m with
 | some i=>(3+(i:Int),more)
 | none=>if more.contains m then(3+(w.parents.length:Int)+(more.idxOf m:Nat),more)else(3+(w.parents.length:Int)+(more.length:Nat),more++[m])
def CX (w:AF) (m:Nat) (sl:List Int) (rec:Int->Gj->(Int×Int)×Gj):List Int->Gj->List (Int×Int)->Gj×List (Int×Int)
 | [],st,vs=>(st,vs)
 | s::r,st,vs=>if m.testBit (BG w s).toNat then(if sl.contains s then CX w m sl rec r (rec s st).2 (vs++[(rec s st).1])else CX w m sl rec r st (vs++[(2,0)]))else CX w m sl rec r st vs
def Is (w:AF) (kf:Int->List Int->Kn) (a:Int) (p:List Int) (can:Int->Bool) (rec:Int->Gj->(Int×Int)×Gj) (st:Gj):(Int×Int)×Gj:=
 if Dq kf a p then((1,Cy (kf a p)),st)else if CR kf a p then((2,0),st)else
 let m:=(Ef w (kf a p) (fun s=>(kf a (p++[s])).AV) can).1
 let c:=Cx w st.1 m
 let x:=CX w m (kf a p).AI rec (Aw w.owner.length) (c.2,st.2++[(c.1,[])]) []
 ((3,(st.2.length:Int)),(x.1.1,x.1.2.set st.2.length (c.1,x.2)))
def EO (w:AF) (kf:Int->List Int->Kn) (a:Int):Nat->List Int->Gj->(Int×Int)×Gj
 | 0,p,st=>Is w kf a p (fun _=>false) (fun _ st=>((2,0),st)) st
 | d+1,p,st=>Is w kf a p (fun s=>EZ w kf a d (p++[s])) (fun s st=>EO w kf a d (p++[s]) st) st
def sE (w:AF) (os:List Ob) (o:Ob):Prop:=((3:Int)<=o.1/\o.1<3+(w.parents.length:Int))/\o.2.length=(CS w o.1).length/\ ∀v∈o.2,DH os.length v=true
def yw (st st':Gj) (os:List Ob):Prop:=st'.2.length<=os.length/\ ∀i,st.2.length<=i->i<st'.2.length->os[i]? =st'.2[i]?
structure SV (w:AF) (d:Nat) (t:Er) (v:Int×Int) (st st':Gj):Prop where
 m1:st.1 <+: st'.1
 o1:st.2 <+: st'.2
 ok:(∀m∈st.1,JO w m)-> ∀m∈st'.1,JO w m
 fin: ∀more os,(∀m∈more,JO w m)->st'.1 <+: more->yw st st' os->DH os.length v=true/\Pd w d t (X3 (C4 w more) os d v)/\ ∀i o,st.2.length<=i->i<st'.2.length->st'.2[i]? =some o->sE (C4 w more) os o
def l6 (w:AF) (more:List Nat) (m:Nat):more <+: (Cx w more m).2:=by
 rw[Cx];split
 .exact List.prefix_refl _
 .split
  .exact List.prefix_refl _
  .exact List.prefix_append _ _
def p9 {w:AF} {more:List Nat} {m:Nat} (hm:JO w m) (h: ∀x∈more,JO w x): ∀x∈(Cx w more m).2,JO w x:=by
 rw[Cx];split
 .exact h
 .split
  .exact h
  .intro x hx
   rcases Dn.1 hx with hx|hx
   .exact h x hx
   .rw[Jf.1 hx];exact hm
def p8 {w:AF} (ho:ordered w.parents) {more:List Nat} {m:Nat} {all:List Nat} (hall: ∀x∈all,JO w x) (hpre:(Cx w more m).2 <+: all) :
    (3<=(Cx w more m).1/\(Cx w more m).1<3+((C4 w all).parents.length:Int))/\ ∀b,3<=b->b<3+w.parents.length->FQ (C4 w all).parents (Cx w more m).1.toNat b=m.testBit b:=by
 have hlen:((C4 w all).parents.length:Int)=w.parents.length+all.length:=by
  show((w.parents++_).length:Int)=_;rw[HQ,Bc];omega
 rw[hlen]
 revert hpre
 rw[Cx];split
 .rename_i i hi
  intro _;have h1:=List.find?_some hi;have h2:=List.mem_range.1 (List.mem_of_find?_eq_some hi);refine⟨by dsimp only;omega,fun b hb3 hb=>?_⟩;dsimp only;rw[show(3+(i:Int)).toNat=3+i by omega,jO ho all b (3+i) (by omega),<-CF.1 h1,M6,J4 ho (by omega)];have:(b==0)=false:=by rw[beq_eq_false_iff_ne];omega
  rw[this,Bool.false_or,Bool.not_false,Bool.and_true]
 .split
  .rename_i hc
   intro hpre;have hmem:=List.contains_iff_mem.1 hc;have hlt:=List.idxOf_lt_length_of_mem hmem;have hle:=hpre.length_le
   have hg:all[more.idxOf m]? =some m:=by
    rw[Fv hpre hlt,Cd hlt,List.getElem_idxOf hlt]
   dsimp only at hle ⊢;refine⟨by omega,fun b hb3 hb=>?_⟩;rw[show(3+(w.parents.length:Int)+(more.idxOf m:Nat)).toNat=3+w.parents.length+more.idxOf m by omega];exact bq ho hg (hall m (B6 hg)) hb3 hb
  .intro hpre
   have hle:=hpre.length_le;rw[HQ]at hle
   have hg:all[more.length]? =some m:=by
    rw[Fv hpre (by simp),List.getElem?_append_right (Ft _),Nat.sub_self];rfl
   simp only[HH,List.length_nil]at hle;dsimp only;refine⟨by omega,fun b hb3 hb=>?_⟩;rw[show(3+(w.parents.length:Int)+(more.length:Nat)).toNat=3+w.parents.length+more.length by omega];exact bq ho hg (hall m (B6 hg)) hb3 hb
def PR {w : AF} {m:Nat} {sl:List Int} {rec:Int->Gj->(Int×Int)×Gj} {kid:Int->Er} {d:Nat} (hrec: ∀s∈sl,m.testBit (BG w s).toNat=true-> ∀st,SV w d (kid s) (rec s st).1 st (rec s st).2) (hnon: ∀s,s∉sl->kid s= .Gi) :
    ∀ (l:List Int) (st:Gj) (vs:List (Int×Int)),∃vs',(CX w m sl rec l st vs).2=vs++vs'/\st.1 <+: (CX w m sl rec l st vs).1.1/\st.2 <+: (CX w m sl rec l st vs).1.2/\((∀y∈st.1,JO w y)-> ∀y∈(CX w m sl rec l st vs).1.1,JO w y)/\
      ∀ more os,(∀m∈more,JO w m)->(CX w m sl rec l st vs).1.1 <+: more->yw st (CX w m sl rec l st vs).1 os->
        (vs'.length=(l.filter fun s=>m.testBit (BG w s).toNat).length/\ ∀(i:Nat) (s:Int),(l.filter fun s=>m.testBit (BG w s).toNat)[i]? =some s-> ∃v:Int×Int,vs'[i]? =some v/\Pd w d (kid s) (X3 (C4 w more) os d v))/\(∀v∈vs',DH os.length v=true)/\
        ∀i o,st.2.length<=i->i<(CX w m sl rec l st vs).1.2.length->(CX w m sl rec l st vs).1.2[i]? =some o->sE (C4 w more) os o
 | [],st,vs=>⟨[],by simp[CX],List.prefix_refl _,List.prefix_refl _,fun h=>h,fun more os _ _ _=>⟨⟨rfl,fun i s h=>(by simp at h)⟩,fun v hv=>(by cases hv),fun i o h1 h2=>absurd h2 (by simp only[CX];omega)⟩⟩
 | s :: r, st,vs=>by
   cases hb:m.testBit (BG w s).toNat
   .rw[CX,hb,if_neg (by decide),List.filter_cons,hb,if_neg (by decide)]
    exact PR hrec hnon r st vs
   .rw [CX,hb,if_pos rfl,List.filter_cons,hb,if_pos rfl]
    cases hc:sl.contains s
    .rw [if_neg (by decide)]
     have hks:=hnon s fun h=>by rw[List.contains_iff_mem.2 h]at hc;cases hc
     obtain⟨vs',e,p1,p2,p3,p4⟩:=PR hrec hnon r st (vs++[(2,0)]);refine⟨(2,0)::vs',by rw[e];simp,p1,p2,p3,fun more os q1 q2 q3=>?_⟩;obtain⟨⟨r1,r2⟩,r3,r4⟩:=p4 more os q1 q2 q3;refine⟨⟨by simp[r1],fun i x hx=>?_⟩,fun v hv=>?_,r4⟩
     .cases i with
      | zero=>
        simp only[fL,Gh]at hx;subst hx;refine⟨(2,0),rfl,?_⟩;rw[hks];cases d<;>simp[X3,ma,DH,Pd]
      | succ i=>exact r2 i x hx
     .rcases Ep.1 hv with rfl|hv
      .simp[DH]
      .exact r3 v hv
    .rw [if_pos rfl]
     have g:=hrec s (List.contains_iff_mem.1 hc) hb st;obtain⟨vs',e,p1,p2,p3,p4⟩:=PR hrec hnon r (rec s st).2 (vs++[(rec s st).1]);refine⟨(rec s st).1::vs',by rw[e];simp,g.m1.trans p1,g.o1.trans p2,fun h=>p3 (g.ok h),fun more os q1 q2 q3=>?_⟩;have hl1:=g.o1.length_le;have hl2:=p2.length_le;obtain⟨⟨r1,r2⟩,r3,r4⟩:=p4 more os q1 q2 ⟨q3.1,fun i h1 h2=>q3.2 i (by omega) h2⟩;obtain⟨t1,t2,t3⟩:=g.fin more os q1 (p1.trans q2) ⟨by have:=q3.1;omega,fun i h1 h2=>by rw[q3.2 i h1 (by omega),Fv p2 h2]⟩;refine⟨⟨by simp[r1],fun i x hx=>?_⟩,fun v hv=>?_,fun i o h1 h2 h3=>?_⟩
     .cases i with
      | zero=>
        simp only[fL,Gh]at hx;subst hx;exact⟨_,rfl,t2⟩
      | succ i=>exact r2 i x hx
     .rcases Ep.1 hv with rfl|hv
      .exact t1
      .exact r3 v hv
     .by_cases hi:i<(rec s st).2.2.length
      .refine t3 i o h1 hi ?_
       rw[<-Fv p2 hi];exact h3
      .exact r4 i o (by omega) h2 h3
def pJ {w:AF} (hw:Fu w) (more:List Nat) {c s:Int} (hc:3<=c) (hs:0<=s/\s<(w.owner.length:Int)):hasB (C4 w more) c s=FQ (C4 w more).parents c.toNat (BG w s).toNat:=by
 have ho:=Fh hw hs;have eo:BG (C4 w more) s=BG w s:=rfl;rw[hasB,Gn,eo,decide_eq_true hc,Cc,beq_eq_false_iff_ne.2 (show BG w s≠0 by omega),Bool.false_or,Cc];by_cases he:c=BG w s
 .rw[<-he,Cl (Mf hw.ord more)];simp
 .rw[beq_eq_false_iff_ne.2 he,Bool.false_or]
def aX {w:AF} {k:Kn} {AV can:Int->Bool} {m:Nat} (h:Ef w k AV can=(m,true)) {s:Int} (hs:s∈k.AI) (hb:m.testBit (BG w s).toNat=true):can s=true:=by
 rw[Ef]at h;split at h
 .simp at h
 .split at h
  .simp at h
  .rename_i u hu
   simp only[Prod.mk.injEq]at h;obtain⟨h1,h2⟩:=h;obtain⟨-,-,f3⟩:=Lz _ hu;cases hc:can s
   .rw[h1]at h2
    exact absurd ((f3 s hs).2 hc) fun e=>IS.1 h2 _ hb e
   .rfl
def aW {w:AF} (hw:Fu w) {m:Nat} (hm:JO w m) {sl:List Int} {rec:Int->Gj->(Int×Int)×Gj} {kid:Int->Er} {D d:Nat} (hD:D=0\/D=d+1)
    (hrec: ∀s∈sl,m.testBit (BG w s).toNat=true-> ∀st,SV w d (kid s) (rec s st).1 st (rec s st).2) (hnon: ∀s,s∉sl->kid s= .Gi) (st:Gj) :
    SV w D (.obj (fun b=>m.testBit b) kid) (3,(st.2.length:Int)) st
     ((CX w m sl rec (Aw w.owner.length) ((Cx w st.1 m).2,st.2++[((Cx w st.1 m).1,[])]) []).1.1,
      (CX w m sl rec (Aw w.owner.length) ((Cx w st.1 m).2,st.2++[((Cx w st.1 m).1,[])]) []).1.2.set st.2.length ((Cx w st.1 m).1,(CX w m sl rec (Aw w.owner.length) ((Cx w st.1 m).2,st.2++[((Cx w st.1 m).1,[])]) []).2)):=by
 obtain⟨vs,e,p1,p2,p3,p4⟩:=PR hrec hnon (Aw w.owner.length) ((Cx w st.1 m).2,st.2++[((Cx w st.1 m).1,[])]) [];have hcp:=l6 w st.1 m;have hco:=fun h=>p9 (w:=w) (more:=st.1) hm h
 have hcu:=fun all hall hpre=>p8 (w:=w) hw.ord (more:=st.1) (m:=m) (all:=all) hall hpre
 generalize CX w m sl rec (Aw w.owner.length) ((Cx w st.1 m).2,st.2++[((Cx w st.1 m).1,[])]) []=x at *;generalize Cx w st.1 m=c at *;obtain⟨c,cm⟩:=c;obtain⟨⟨xm,xo⟩,xv⟩:=x;dsimp only at *;rw[List.nil_append]at e;subst e;obtain⟨t,rfl⟩:=p2
 have hset:(st.2++[(c,[])]++t).set st.2.length (c,xv)=st.2++(c,xv)::t:=by
  rw[LC,List.set_append_right _ _ (Ft _),Nat.sub_self];rfl
 rw[hset];refine⟨hcp.trans p1,List.prefix_append _ _,fun h=>p3 (hco h),fun more os hmore hpre hin=>?_⟩;obtain⟨i1,i2⟩:=hin;dsimp only at i1 i2
 have hat:os[st.2.length]? =some (c,xv):=by
  rw[i2 _ (Ft _) (by simp),List.getElem?_append_right (Ft _),Nat.sub_self];rfl
 have hrest: ∀i,st.2.length+1<=i->(st.2++(c,xv)::t)[i]? =(st.2++[(c,[])]++t)[i]? :=fun i hi=>by
  rw[List.getElem?_append_right (by omega),LC,List.getElem?_append_right (by omega)];obtain⟨j,hj⟩: ∃j,i - st.2.length=j+1:=⟨i - st.2.length - 1,by omega⟩
  rw[hj];rfl
 obtain⟨⟨r1,r2⟩,r3,r4⟩:=p4 more os hmore hpre ⟨by simpa using i1,fun i h1 h2=>by
  rw[HQ]at h1
  rw[i2 i (by simp at h1;omega) (by simpa using h2),hrest i h1]⟩
 obtain⟨hc3,hcb⟩:=hcu more hmore (p1.trans hpre);have hlt:st.2.length<os.length:=by simp at i1;omega
 have hob:Tm os (3,(st.2.length:Int))=(c,xv):=by
  rw[Tm,Cq,GR,hat];rfl
 have hv:DH os.length (3,(st.2.length:Int))=true:=by
  simp[DH];omega
 have hF:CS (C4 w more) c=(Aw w.owner.length).filter fun s=>m.testBit (BG w s).toNat:=by
  rw[CS];refine List.filter_congr fun s hs=>?_
  have hs2:=BW.1 hs;have ho:=Fh hw hs2;rw[pJ hw more hc3.1 hs2,hcb _ (by omega) (by omega)]
 refine⟨hv,?_,fun i o h1 h2 h3=>?_⟩
 .have hbits: ∀b,3<=b->b<3+w.parents.length->m.testBit b=FQ (C4 w more).parents c.toNat b:=fun b b1 b2=>(hcb b b1 b2).symm
  rcases hD with rfl|rfl
  .rw[X3,ma,if_pos hv,if_neg (show¬(3:Int)=1 by decide),if_neg (show¬(3:Int)=2 by decide),hob]
   exact hbits
  .rw[X3,ma,if_pos hv,if_neg (show¬(3:Int)=1 by decide),if_neg (show¬(3:Int)=2 by decide),hob]
   refine⟨hbits,fun s s0 s1 hb=>?_⟩
   have hmem:s∈CS (C4 w more) c:=by
    rw[hF,HD];exact⟨BW.2 ⟨s0,s1⟩,hb⟩
   have hil:=List.idxOf_lt_length_of_mem hmem;have hix:(CS (C4 w more) c)[(CS (C4 w more) c).idxOf s]? =some s:=by rw[Cd hil,List.getElem_idxOf hil]
   have hst:Jo (C4 w more) os s (3,(st.2.length:Int))=xv.getD ((CS (C4 w more) c).idxOf s) (0,0):=by rw[Jo,hob]
   show Pd w d (kid s) (X3 (C4 w more) os d (Jo (C4 w more) os s (3,(st.2.length:Int))));rw[hst];rw[hF]at hix ⊢;obtain⟨v,v1,v2⟩:=r2 _ s hix;rw[Cq,v1];exact v2
 .by_cases hi:i=st.2.length
  .subst hi
   rw[List.getElem?_append_right (Ft _),Nat.sub_self]at h3;simp only[fL,Gh]at h3;subst h3;exact⟨hc3,by rw[hF];exact r1,r3⟩
  .rw[hrest i (by omega)]at h3
   exact r4 i o (by rw[HQ];simp;omega) (by simpa using h2) h3
def a7 {w:AF} {D:Nat} {n:Int} (h: -1000000000<=n/\n<=1000000000) (st:Gj):SV w D (.int n) (1,n) st st:=
 ⟨List.prefix_refl _,List.prefix_refl _,fun h=>h,fun more os _ _ _=>⟨by simp[DH];omega,by cases D<;>simp[X3,ma,DH,h.1,h.2,Pd],fun i o h1 h2=>absurd h2 (by omega)⟩⟩
def ae {w:AF} {D:Nat} (st:Gj):SV w D .Gi (2,0) st st:=
 ⟨List.prefix_refl _,List.prefix_refl _,fun h=>h,fun more os _ _ _=>⟨by simp[DH],by cases D<;>simp[X3,ma,DH,Pd],fun i o h1 h2=>absurd h2 (by omega)⟩⟩
def T4 {w : AF} (hw:Fu w) {ls:List Fact} (hl: ∀l∈ls,CQ w l) (a:Int): ∀(d:Nat) (p:List Int),p.length+d=2->EZ w (kn ls) a d p=true-> ∀st,SV w d (cD w (kn ls) a d p) (EO w (kn ls) a d p st).1 st (EO w (kn ls) a d p st).2
 | 0, p, hp,h,st=>by
   rw[cD,yS,EO,Is];rw[EZ]at h;cases h1:Dq (kn ls) a p
   .rw [h1,Bool.false_or]at h
    cases h2:CR (kn ls) a p
    .rw[h2,Bool.false_or]at h
     simp only[JX,if_false]
     have hsl:(kn ls a p).AI= []:=by
      rw[FJ (Nc hl)];exact IW (m:=2) (fun l h=>(hl l h).short) (by omega)
     obtain⟨k1,-⟩:=PE (kid:=fun _=> .Gi) hw hl (Prod.ext rfl h) (fun _=>trivial) fun s hs hc=>by cases hc
     exact aW hw k1.1 (d:=0) (.inl rfl) (fun s hs=>by rw[hsl]at hs;cases hs) (fun s _=>rfl) st
    .simp only[JX,if_false,if_true]
     exact ae st
   .simp only[if_true]
    exact a7 (PK hw hl h1).1 st
 | d + 1,p,hp,h,st=>by
   have ih:=fun s hc=>T4 hw hl a d (p++[s]) (by simp;omega) hc
   have iw:=fun s=>YQ hw hl a d (p++[s]) (by simp;omega)
   rw[cD,yS,EO,Is];rw[EZ]at h;cases h1:Dq (kn ls) a p
   .rw [h1,Bool.false_or]at h
    cases h2:CR (kn ls) a p
    .rw [h2,Bool.false_or]at h
     simp only[JX,if_false]
     obtain⟨k1,-⟩:=PE (kid:=fun s=>if EZ w (kn ls) a d (p++[s])then cD w (kn ls) a d (p++[s])else .Gi) (can:=fun s=>EZ w (kn ls) a d (p++[s])) hw hl (Prod.ext rfl h) (fun s=>by
      split
      .rename_i hc;exact(iw s hc).1
      .trivial) fun s hs hc=>by rw[if_pos hc];exact(iw s hc).2
     refine aW hw k1.1 (d:=d) (.inr rfl) (fun s hs hb st=>?_) (fun s hs=>?_) st
     .have hc:=aX (Prod.ext rfl h) hs hb
      have:((kn ls a p).AI.contains s&&EZ w (kn ls) a d (p++[s]))=true:=by
       rw[A4];exact⟨List.contains_iff_mem.2 hs,hc⟩
      rw[if_pos this];exact ih s hc st
     .have:(kn ls a p).AI.contains s=false:=by
       rw[<-Bool.not_eq_true,List.contains_iff_mem];exact hs
      rw[this,Bool.false_and];rfl
    .simp only[JX,if_false,if_true]
     exact ae st
   .simp only[if_true]
    exact a7 (PK hw hl h1).1 st
end Go.Gl
namespace Go.Gl
open Go.Proofs
attribute [local irreducible] As Ag AY AQ AL AX AP AR AK AW AM AN Ai Ap Sat AT An AZ W
abbrev uR (xs:List Nat):List (List V):=xs.map fun x=>[eU x]
def pQ:Dj (fun x:Nat=>[eU x]) 1:=fun x=>⟨rfl,fun v hv=>by simp at hv;subst hv;rfl⟩
def VM (m:Nat):List Nat->Int->Int
 | [],_=> -1
 | x::r,k=>if x=m then k else VM m r (k+1)
def bB (m:Nat): ∀(l:List Nat) (k:Int),VM m l k=if l.contains m then k+(l.idxOf m:Nat)else -1
 | [],k=>rfl
 | x ::r,k=>by
   rw[VM,bB m r,List.contains_cons,List.idxOf_cons];by_cases h:x=m
   .subst h
    simp
   .rw[if_neg h,beq_eq_false_iff_ne.2 (fun e=>h e.symm),Bool.false_or,beq_eq_false_iff_ne.2 h,cond_false]
    split<;>omega
def lQ {v:V} (xs:List Nat) (m:Nat) (hxl:xs.length<=1000000):BL zP 215 [v,eU m] [.own v 1 (uR xs)] fun r post=>r= .ret (eI (VM m xs 0))/\post= [.own v 1 (uR xs)]:=by
 intro Z hs;have hM:=Mx;refine wV kZ ?_
 conv=>whnf
 repeat'((first|apply st|(apply sq;intro K U)|(apply si;intro A B hA hB)|(refine hA _ _ ?_;clear hB B hA A)|(apply U;clear U K)|refine lo ?_|fail)<;>conv=>whnf)
 refine B4 xs.length (fun k (_:Unit)=>[(8,eI (A7 k))]) (fun _ _=>[.own v 1 (uR xs)]) (fun k _=>VM m xs 0=VM m (xs.drop k) k) () rfl rfl hs ?_;clear hs;rintro k - Z hk hn hs;have hck:A7 k=k:=AS (by omega);rcases A9 xs hk with⟨y,hy,hlt⟩|hke
 .rw[drop_cons hy]at hn
  rw[VM]at hn
  conv=>whnf
  repeat'((first|apply st|(apply sq;intro K U)|(apply si;intro A B hA hB)|(refine hA _ _ ?_;clear hB B hA A)|(apply U;clear U K)|refine⟨rfl,?_⟩|refine oi ?_|refine ol fun x hx=>?_|(refine NT (fun hc=>?_)<;>(try rw[hc])<;>clear hc)|(constructor<;>intro hc<;>(try rw[hc])<;>(replace hc:=bp hc))|clear U K)<;>conv=>whnf)
  all_goals
   obtain rfl:x=y:=by rw[hck,GR,hy]at hx;exact(Option.some.inj hx).symm
  .rw[if_pos (by omega)]at hn
   rw[hn];exact AJ ⟨_,⟨by rw[hck],rfl⟩,hs⟩
  .rw[if_neg (by omega)]at hn
   exact⟨hlt,(),rfl,hn,hs⟩
 .rw[Aj hke,VM]at hn
  conv=>whnf
  repeat'((first|apply st|(apply sq;intro K U)|(apply si;intro A B hA hB)|(refine hA _ _ ?_;clear hB B hA A)|(apply U;clear U K)|refine⟨rfl,?_⟩|(refine SF (fun hc=>?_)<;>(try rw[hc])<;>clear hc)|clear U K)<;>conv=>whnf)
  rw[hn];exact AJ ⟨_,⟨rfl,rfl⟩,hs⟩
def mB (w:AF) (hw:BR w) (more:List Nat) (m:Nat) {nM L:Nat} {vm vo:V} (hm:m<18446744073709551616) (hml:more.length<=100000):BL zP 134 [.p nM 0,eU m] [.box nM [HF w (Ah w.parents) L,vm,vo],.own vm 1 (uR more)] fun r post=>r= .ret (eI (Cx w more m).1)/\ ∃vm',post= [.box nM [HF w (Ah w.parents) L,vm',vo],.own vm' 1 (uR (Cx w more m).2)]:=by
 intro Z hs;have hM:=Mx;have hgl:=hw.1.1;have hu:mb (Ah w.parents):=D0 _ _ (by omega);have hul:(Ah w.parents).length=3+w.parents.length:=Cf _ _;have hcl:Cx w more m=Cx w more m:=rfl
 conv at hcl=>rhs;unfold Cx
 have hix:=lQ (v:=vm) more m (by omega);rw[bB]at hix;generalize Ah w.parents=us at *;have hwl:IntKind.i64.wrap (3+((EV w.parents).length:Nat))=3+(w.parents.length:Int):=by rw[Bc,wrap64 (by omega) (by omega)]
 refine xW kZ ?_
 conv=>whnf
 repeat'((first|apply st|(apply sq;intro K U)|(apply si;intro A B hA hB)|(refine hA _ _ ?_;clear hB B hA A)|(apply U;clear U K)|refine⟨rfl,?_⟩|refine ld ?_|fail)<;>conv=>whnf)
 refine B4 w.parents.length (fun k (_:Unit)=>[(6,eI (HO 3 k))]) (fun _ _=>[.box nM [HF w us L,vm,vo],.own vm 1 (uR more)]) (fun k _=>(List.range w.parents.length).find? (fun i=>FT (us.getD (3+i) 0)==m)=((List.range w.parents.length).drop k).find? (fun i=>FT (us.getD (3+i) 0)==m)) () rfl rfl hs ?_;clear hs;rintro k - Z hk hF hs;have hc3:HO 3 k=3+k:=Kl (by omega) (by omega);by_cases hlt:k<w.parents.length
 .have hup:(List.drop ((HO 3 k).toNat*1) (List.drop 2 (wC w us)))[0]? =some (eU (us.getD (3+k) 0)):=by
   rw[fD,fD,<-VV w us (i:=3+k) (by omega)];congr 1;omega
  have hx64:us.getD (3+k) 0<18446744073709551616:=Jx hu _;rw[drop_cons (x:=k) (by simp[hlt]),List.find?_cons]at hF;generalize us.getD (3+k) 0=x at *
  have hA:bits .andNot .u64 (x:Int) 1=((FT x:Nat):Int):=by
   have:=Gd (a:=x) (b:=1);rw[XC hx64]at this;exact this
  conv=>whnf
  repeat'((first|apply st|(apply sq;intro K U)|(apply si;intro A B hA hB)|(refine hA _ _ ?_;clear hB B hA A)|(apply U;clear U K)|refine⟨rfl,?_⟩|refine iar ?_|refine ld ?_|(rw[hup])|(constructor<;>intro hc<;>(try rw[hc])<;>(replace hc:=bp hc)<;>(try simp(disch:=omega) only[Bc,wrap64,AS]at hc)<;>try(exfalso;omega))|clear U K)<;>conv=>whnf)
  .rw[hA]at hc
   have e:(FT x==m)=true:=by rw[CF];omega
   rw[e]at hF;rw[hF]at hcl;rw[hcl];exact AJ ⟨_,⟨by rw[hc3],vm,rfl⟩,hs⟩
  .rw[hA]at hc
   have e:(FT x==m)=false:=by rw[beq_eq_false_iff_ne];omega
   rw[e]at hF;exact⟨hlt,(),rfl,hF,hs⟩
 .have hke:k=w.parents.length:=by omega
  rw[List.drop_of_length_le (by simp;omega),List.find?_nil]at hF;rw[hF]at hcl;clear hF
  conv=>whnf
  repeat'((first|apply st|(apply sq;intro K U)|(apply si;intro A B hA hB)|(refine hA _ _ ?_;clear hB B hA A)|(apply U;clear U K)|refine⟨rfl,?_⟩|refine ld ?_|(constructor<;>intro hc<;>(try rw[hc])<;>(replace hc:=bp hc)<;>(try simp(disch:=omega) only[Bc,wrap64,AS]at hc)<;>try(exfalso;omega))|clear U K)<;>conv=>whnf)
  refine hix.use (rest:=[.box nM [HF w us L,vm,vo]]) (hs.perm (.swap _ _ _)) ?_;clear hs;rintro r post Z ⟨rfl,rfl⟩ hs;replace hs:Sat Z [.box nM [HF w us L,vm,vo],.own vm 1 (uR more)]:=hs.perm (.swap _ _ _);by_cases hct:more.contains m=true
  .rw[if_pos hct]
   simp only[if_pos hct]at hcl;have hix2:more.idxOf m<more.length:=List.idxOf_lt_length_iff.2 (List.contains_iff_mem.1 hct)
   conv=>whnf
   repeat'((first|apply st|(apply sq;intro K U)|(apply si;intro A B hA hB)|(refine hA _ _ ?_;clear hB B hA A)|(apply U;clear U K)|refine⟨rfl,?_⟩|(constructor<;>intro hc<;>(try rw[hc])<;>(replace hc:=bp hc)<;>try(exfalso;omega))|fail)<;>conv=>whnf)
   rw[hcl,hwl,wrap64 (by omega) (by omega)];exact AJ ⟨_,⟨by rw[Int.zero_add],vm,rfl⟩,hs⟩
  .rw[if_neg hct]
   simp only[if_neg hct]at hcl;have hll:more.length<Ab/\(more.length+1)*8<=140737488355328:=by omega
   conv=>whnf
   repeat'((first|apply st|(apply sq;intro K U)|(apply si;intro A B hA hB)|(refine hA _ _ ?_;clear hB B hA A)|(apply U;clear U K)|refine⟨rfl,?_⟩|refine lo ?_|refine ld ?_|refine MA fun Z hs=>?_|refine aq (enc:=fun x:Nat=>[eU x]) (x:=m) (fun v Z hs hsl=>?_) (hg:=pQ)|(constructor<;>intro hc<;>(try rw[hc])<;>(replace hc:=bp hc)<;>try(exfalso;omega))|fail)<;>conv=>whnf)
   have e1:((uR more).length:Int)=more.length:=by simp
   rw[hcl,hwl,e1,wrap64 (by omega) (by omega)];exact AJ ⟨_,⟨rfl,_,rfl⟩,hs⟩
def KA (xs:List Int) (f:Bool):Pure zP 138 [.l (iL xs) f] (.l (iL xs) false):=by
 refine Pure.fit (by kernel_rfl) fun hf=>?_
 have hxl:=Nj hf.1;have hM:=Mx;refine jF kZ ?_;have hs:=Sn
 conv=>whnf
 repeat'((first|clear U K|apply st|(apply zk;intro K U)|fail)<;>conv=>whnf)
 refine⟨fun e t=>?_,fun _=>?_⟩
 .have hx:xs= []:=List.map_eq_nil_iff.1 e
  subst hx
  conv=>whnf
  repeat'((first|clear U K|apply st|(apply zk;intro K U)|refine za (fun hc=>?_) fun hc=>?_|fail)<;>conv=>whnf)
  .exact Af Bm
  .replace hs:=Ch hs 1
   refine JI hs 0 (xs:=[]) (ys:=[]) rfl (by simp) Cs fun v Z hs=>?_
   refine zz ?_;(repeat clear U K);repeat intro K U
   exact G0 hs 0 rfl rfl
 .refine zz ?_;(repeat clear U K);repeat intro K U
  replace hs:=Ch hs 1;refine JI hs 0 (xs:=[]) (ys:=xs) rfl (by simp;omega) Cs fun v Z hs=>?_
  refine zz ?_;(repeat clear U K);repeat intro K U
  exact G0 hs 0 rfl rfl
def tG (c:Rp):Pure zP 285 [.a (MG c)] (.l (iL c.parents) false):=by
 refine vO kZ ?_;have hs:=Sn
 conv=>whnf
 repeat'((first|clear U K|apply st|(apply zk;intro K U)|refine Pure.use (KA _ _) ?_|fail)<;>conv=>whnf)
 exact AG rfl
def qE (xs:List (List Int)) (v:V) (hl:xs.length<=Ab):BL zP 340 [v] [.own v 1 (EV xs)] fun r post=>r= .ret (.l (EV xs) true)/\post= []:=by
 intro Z hs;have hg:=Ew DQ xs;refine u3 kZ ?_;refine zz ?_;(repeat clear U K);repeat intro K U
 refine rK (i:=0) hs rfl hg.1 (by simpa using hl) fun Z hs=>?_
 refine zz ?_;(repeat clear U K);repeat intro K U
 exact Au hs (List.Sublist.refl _) (.refl _) fun Z' hs'=>⟨_,⟨rfl,rfl⟩,hs'⟩
def QA (xs:List Int) (v:V) (hl:xs.length<=Ab):BL zP 286 [v] [.own v 1 (iL xs)] fun r post=>r= .ret (.l (iL xs) true)/\post= []:=by
 intro Z hs;have hg:=Ew Cs xs;refine ie kZ ?_;refine zz ?_;(repeat clear U K);repeat intro K U
 refine rK (i:=0) hs rfl hg.1 (by simpa using hl) fun Z hs=>?_
 refine zz ?_;(repeat clear U K);repeat intro K U
 exact Au hs (List.Sublist.refl _) (.refl _) fun Z' hs'=>⟨_,⟨rfl,rfl⟩,hs'⟩
def pq (cs:List Rp) (hl:cs.length<=1000000):Pure zP 284 [.l (cs.map MG) false,.f (.func 285) [] []] (.l (EV (cs.map (·.parents))) false):=by
 have hM:=Mx;refine vP kZ ?_;have hs:=Sn;refine zz ?_;(repeat clear U K);repeat intro K U
 refine B4 cs.length (fun k v=>[(5,v),(10,eI (A7 k))]) (fun k v=>[.own v 1 (EV ((cs.take k).map (·.parents)))]) (fun _ _=>True) (.l [] true) rfl trivial (Ch hs 1) ?_;clear hs;rintro k v Z hk - hs;rcases A9 cs hk with⟨c,hc,hlt⟩|hke
 .conv=>whnf
  repeat'((first|clear U K|apply st|(apply zk;intro K U)|refine zY ?_|refine zs fun Z hs=>?_|refine zo fun nn hnn Z hs=>?_|fail)<;>conv=>whnf)
  refine A0 ((tG c).use ?_)
  conv=>whnf
  repeat'((first|clear U K|apply st|(apply zk;intro K U)|refine zY ?_|refine aq fun v Z hs hsl=>?_|fail)<;>conv=>whnf)
  exact⟨hlt,_,rfl,trivial,by rw[AU hc,LX];exact hs.less (Gg _ _)⟩
 .rw[BA hke]at hs
  refine zz ?_;(repeat clear U K);repeat intro K U
  refine(qE (cs.map (·.parents)) v (by simp;omega)).use (rest:=[]) hs ?_;clear hs;rintro r post Z ⟨rfl,rfl⟩ hs;refine zz ?_;(repeat clear U K);repeat intro K U
  exact Af OQ
def M3 (p:Prog) (hk0:p.AO.length<=1000):Pure zP 223 [.a (BF p)] (.l (EV (Ay p)) false):=by
 refine Pure.fit (by kernel_rfl) fun hf=>?_
 have hP:=JM hf.1;refine wO kZ ?_;have hs:=Sn;refine zz ?_;(repeat clear U K);repeat intro K U
 refine(pq p.AO (by omega)).use ?_;exact zW
def Vs (p:Prog) (hk0:p.AO.length<=1000) (hm:Br p.AO<=Ab):Pure zP 144 [.a (BF p)] (.a (A5 (AH p))):=by
 refine Pure.fit (by kernel_rfl) fun hf=>?_
 have hP:=JM hf.1;have hcl:=hP.1;have hM:=Mx;refine xP kZ ?_;have hs:=Sn
 conv=>whnf
 repeat'((first|clear U K|apply st|(apply zk;intro K U)|refine zY ?_|refine zs fun Z hs=>?_|refine Pure.use (M3 _ hk0) ?_|refine zo fun nn hnn Z hs=>?_|fail)<;>conv=>whnf)
 rename_i n2 _ _ _ _ _
 rename Nat=>n3
 replace hs:Sat Z [.box n3 [.l (EV (Ay p)) false,.l [] true],.box n2 [.l [] true,.l [] true]]:=hs;refine B4 p.AO.length (fun k (_:V)=>[(12,eI (A7 k))]) (fun k v=>[.own v 1 (iL (BN 0 (p.AO.take k))),.box n3 [.l (EV (Ay p)) false,v],.box n2 [.l [] true,.l [] true]]) (fun _ _=>True) (.l [] true) rfl trivial (Ch hs 1) ?_;clear hs;rintro k v Z hk - hs;rcases A9 p.AO hk with⟨c,hc,hlt⟩|hke
 .have hcm:=hP.2 c (B6 hc)
  have htk:=RI hc;have hck:A7 k=k:=AS (by omega)
  have hap:BN 0 (p.AO.take (k+1))=BN 0 (p.AO.take k)++List.replicate c.AI.length ((k:Int)+3):=by
   rw[AU hc,JU];have:(p.AO.take k).length=k:=by simp;omega
   rw[this];simp[BN]
  have hol:=CV 0 (p.AO.take k);have hw3:IntKind.i64.wrap (A7 k+3)=(k:Int)+3:=by rw[hck,wrap64 (by omega) (by omega)]
  have hcs:=hcm.2.1;generalize BN 0 (p.AO.take k)=os at *
  conv=>whnf
  repeat'((first|clear U K|apply st|(apply zk;intro K U)|refine zY ?_|refine zs fun Z hs=>?_|refine zo fun nn hnn Z hs=>?_|fail)<;>conv=>whnf)
  refine B4 c.AI.length (fun j (_:V)=>[(20,eI (A7 j))]) (fun j v=>[.own v 1 (iL (os++List.replicate j ((k:Int)+3))),.box n3 [.l (EV (Ay p)) false,v],.box n2 [.l [] true,.l [] true]]) (fun _ _=>True) v rfl trivial (by simpa using hs.less (Gg _ _)) ?_;clear hs;rintro j v Z hj - hs;rcases A9 c.AI hj with⟨s,hsl,hjlt⟩|hje
  .have hsv0:=FZ hs 0 rfl
   conv=>whnf
   repeat'((first|clear U K|apply st|(apply zk;intro K U)|refine zY ?_|refine zs fun Z hs=>?_|refine aq fun v Z hs hsl=>?_|fail)<;>conv=>whnf)
   have hsv:=FZ hs 0 rfl
   conv=>whnf
   refine⟨hjlt,v,rfl,trivial,?_⟩;rw[List.replicate_succ',<-LC];rw[hw3]at hs;exact hs
  .refine zz ?_;(repeat clear U K);repeat intro K U
   exact⟨hlt,v,rfl,trivial,by rw[hap,<-hje];exact hs⟩
 .rw[BA hke]at hs
  have hsv:=FZ hs 0 rfl
  conv=>whnf
  repeat'((first|clear U K|apply st|(apply zk;intro K U)|refine zY ?_|refine zs fun Z hs=>?_|fail)<;>conv=>whnf)
  exact Af (.a (.cons (.refl _) (.cons (hs.MB 0 rfl) .nil)))
def K5 (n m:Nat):List Int:=(Aw (3+n)).filter fun c=>decide (3<=c)&&m.testBit c.toNat
def Sl (j m:Nat):K5 (j+1) m=K5 j m++if m.testBit (3+j)then [((3+j:Nat):Int)]else []:=by
 rw[K5,K5,show 3+(j+1)=(3+j)+1 by omega,KG,List.filter_append];congr 1;have h3:(decide ((3:Int)<=((3+j:Nat):Int)))=true:=decide_eq_true (by omega);simp only[List.filter_cons,List.filter_nil,GR,h3,Cc]
def QL (m:Nat): ∀j,(K5 j m).length<=j
 | 0=>Ft 0
 | j+1=>by
   rw[Sl,HQ];have:=QL m j;split<;>simp<;>omega
def jw (w : AF) (hw:BR w) (more:List Nat) {nM L:Nat} {vm vo:V} (hm: ∀x∈more,x<18446744073709551616) (hml:more.length<=90000):BL zP 66 [.p nM 0] [.box nM [HF w (Ah w.parents) L,vm,vo],.own vm 1 (uR more)] fun r post=>r= .ret (.a (A5 (C4 w more)))/\post= [.box nM [HF w (Ah w.parents) L,vm,vo],.own vm 1 (uR more)]:=by
 intro Z hs;have hM:=Mx;have hgl:=hw.1.1;refine AAR kZ ?_
 conv=>whnf
 repeat'((first|apply st|(apply sq;intro K U)|(apply si;intro A B hA hB)|(refine hA _ _ ?_;clear hB B hA A)|(apply U;clear U K)|refine ld ?_|refine FX fun Z hs=>?_|refine Pure.use (KA _ _) ?_|(intro nn hnn;generalize hg:BZ _ nn _=Z;refine GF hg fun hs=>?_;clear hg)|fail)<;>conv=>whnf)
 rename_i n2 _ _ _ _ _;refine B4 w.parents.length (fun k (_:V)=>[(35,eI (A7 k))]) (fun k v=>[.box nn [v,.l (iL w.owner) false],.box n2 [.l [] true,.l [] true],.box nM [HF w (Ah w.parents) L,vm,vo],.own vm 1 (uR more),.own v 1 (EV (w.parents.take k))]) (fun _ _=>True) (.l [] true) rfl trivial (EY hs 1) ?_;clear hs;rintro k v Z hk - hs;have hck:A7 k=k:=AS (by omega);rcases A9 w.parents hk with⟨y,hy,hlt⟩|hke
 .have htk:w.parents.take (k+1)=w.parents.take k++[y]:=AU hy
  have htl:(w.parents.take k).length<=60:=by rw[Je];omega
  rw[htk];generalize w.parents.take k=zs at *;have hll:zs.length<Ab/\(zs.length+1)*24<=140737488355328:=by omega
  conv=>whnf
  repeat'((first|apply st|(refine Ta ?_;intro K U)|(apply si;intro A B hA hB)|(refine hA _ _ ?_;clear hB B hA A)|(apply U;clear U K)|apply dr|refine rk ?_ ?_|exact fun s e=>by cases e;rfl|refine⟨rfl,?_⟩|refine ix ?_|refine ld ?_|refine aq fun v Z hs hsl=>?_|(refine NT (fun hc=>?_)<;>(try rw[hc])<;>clear hc)|refine Pure.use (KA _ _) ?_|refine cE ?_|fail)<;>conv=>whnf)
  refine Iz hs 0 rfl (FZ hs 4 rfl) (by simp) fun Z hs=>?_
  conv=>whnf
  repeat'((first|(apply si;intro A B hA hB)|(refine hA _ _ ?_;clear hB B hA A)|(apply U;clear U K)|apply dr|refine⟨rfl,?_⟩|refine cE ?_|clear U K)<;>conv=>whnf)
  exact⟨hlt,_,rfl,trivial,hs⟩
 .rw [BA hke]at hs
  conv=>whnf
  repeat'((first|apply st|(apply sq;intro K U)|(apply si;intro A B hA hB)|(refine hA _ _ ?_;clear hB B hA A)|(apply U;clear U K)|refine⟨rfl,?_⟩|refine lo ?_|refine ld ?_|(refine SF (fun hc=>?_)<;>(try rw[hc])<;>clear hc)|clear U K)<;>conv=>whnf)
  clear hck hke hk k;refine B4 more.length (fun k (_:V)=>[(52,eI (A7 k))]) (fun k v=>[.box nn [v,.l (iL w.owner) false],.box n2 [.l [] true,.l [] true],.box nM [HF w (Ah w.parents) L,vm,vo],.own vm 1 (uR more),.own v 1 (EV (w.parents++(more.take k).map (K5 w.parents.length)))]) (fun _ _=>True) v rfl trivial (by rw[List.take_zero,List.map_nil,D8];exact hs) ?_;clear hs;rintro k v Z hk - hs;have hck:A7 k=k:=AS (by omega);rcases A9 more hk with⟨m,hy,hlt⟩|hke
  .have htk:(more.take (k+1)).map (K5 w.parents.length)=(more.take k).map (K5 w.parents.length)++[K5 w.parents.length m]:=by rw[AU hy,LX];rfl
   have htl:((more.take k).map (K5 w.parents.length)).length<=90000:=by rw[Bc,Je];omega
   rw[htk,<-LC];have hzl:(w.parents++(more.take k).map (K5 w.parents.length)).length<=90100:=by rw[HQ];omega
   generalize w.parents++(more.take k).map (K5 w.parents.length)=zs at *;have hll:zs.length<Ab/\(zs.length+1)*24<=140737488355328:=by omega
   have hm64:=hm m (B6 hy)
   conv=>whnf
   repeat'((first|apply st|(apply sq;intro K U)|(apply si;intro A B hA hB)|(refine hA _ _ ?_;clear hB B hA A)|(apply U;clear U K)|refine⟨rfl,?_⟩|refine oi ?_|refine ol fun x hx=>?_|(refine NT (fun hc=>?_)<;>(try rw[hc])<;>clear hc)|fail)<;>conv=>whnf)
   obtain rfl:x=m:=by rw[hck,GR,hy]at hx;exact(Option.some.inj hx).symm
   refine B4 w.parents.length (fun j u=>[(8,u),(9,eI (HO 3 j))]) (fun j u=>[.box nn [v,.l (iL w.owner) false],.box n2 [.l [] true,.l [] true],.box nM [HF w (Ah w.parents) L,vm,vo],.own vm 1 (uR more),.own v 1 (EV zs),.own u 1 (iL (K5 j x))]) (fun _ _=>True) (.l [] true) rfl trivial (EY hs 1) ?_;clear hs;rintro j u Z hj - hs;have hcj:HO 3 j=3+j:=Kl (by omega) (by omega);have hrl:=QL x j;have hrs:=Sl j x;by_cases hjl:j<w.parents.length
   .have hbt:x.testBit (HO 3 j).toNat=x.testBit (3+j):=by rw[hcj];congr 1
    rw[hrs];generalize K5 j x=rs at *;have hlr:rs.length<Ab/\(rs.length+1)*8<=140737488355328:=by omega
    conv=>whnf
    repeat'((first|apply st|(apply sq;intro K U)|(apply si;intro A B hA hB)|(refine hA _ _ ?_;clear hB B hA A)|(apply U;clear U K)|refine⟨rfl,?_⟩|refine ld ?_|refine aq fun v Z hs hsl=>?_|refine Pure.use (PL x (HO 3 j) hm64 (by omega) (by omega)) ?_|(constructor<;>intro hc<;>(try rw[hc])<;>(replace hc:=bp hc)<;>(try simp(disch:=omega) only[Bc,wrap64,AS]at hc)<;>try(exfalso;omega))|clear U K)<;>conv=>whnf)
    .rename_i hc
     rw[<-hbt,hc,if_pos rfl,<-show HO 3 j=((3+j:Nat):Int) by rw[hcj];rfl];exact⟨hjl,_,rfl,trivial,hs⟩
    .rename_i hc
     rw[<-hbt,hc,if_neg (by decide),D8];exact⟨hjl,_,rfl,trivial,hs⟩
   .have hje:j=w.parents.length:=by omega
    rw[hje]at hs
    conv=>whnf
    repeat'((first|apply st|(refine Ta ?_;intro K U)|(apply si;intro A B hA hB)|(refine hA _ _ ?_;clear hB B hA A)|(apply U;clear U K)|refine⟨rfl,?_⟩|refine ld ?_|fail)<;>conv=>whnf)
    refine Vm hs 5 rfl (fun Z2 h=> .cons (.refl _) (.cons (.refl _) (.cons (.refl _) (.cons (.refl _) (.cons h (.cons (.refl _) (.cons (.refl _) (.cons (.refl _) (.cons (.refl _) (.cons (.refl _) .nil)))))))))) fun Z hs=>?_
    conv=>whnf
    repeat'((first|apply st|(apply si;intro A B hA hB)|(apply U;clear U K)|refine ld ?_|refine aq fun v Z hs hsl=>?_|(constructor<;>intro hc<;>(try rw[hc])<;>(replace hc:=bp hc)<;>(try simp(disch:=omega) only[Bc,wrap64,AS]at hc)<;>try(exfalso;omega))|clear U K)<;>conv=>whnf)
    refine Iz hs 0 rfl (FZ hs 4 rfl) (by simp) fun Z hs=>?_
    conv=>whnf
    repeat'((first|(apply si;intro A B hA hB)|(refine hA _ _ ?_;clear hB B hA A)|(apply U;clear U K)|refine⟨rfl,?_⟩|clear U K)<;>conv=>whnf)
    exact⟨hlt,_,rfl,trivial,hs⟩
  .rw[List.take_of_length_le (by omega)]at hs
   conv=>whnf
   repeat'((first|apply st|(apply sq;intro K U)|(apply si;intro A B hA hB)|(refine hA _ _ ?_;clear hB B hA A)|(apply U;clear U K)|refine⟨rfl,?_⟩|refine⟨kZ,?_⟩|refine ld ?_|(refine SF (fun hc=>?_)<;>(try rw[hc])<;>clear hc)|clear U K)<;>conv=>whnf)
   have o1:=FZ hs 4 rfl;refine FF hs 1 rfl rfl rfl (by simp[o1]) (by decide) fun Z hs=>?_
   conv=>whnf
   repeat'((first|apply st|(refine hA _ _ ?_;clear hB B hA A)|(apply U;clear U K)|refine⟨kZ,?_⟩|refine ld ?_|fail)<;>conv=>whnf)
   obtain⟨Z2,q1,q2,q3⟩:=HT hs 4 rfl;exact Fx q1 (.a (.cons q2 (.cons (.refl _) .nil))) ⟨_,⟨rfl,rfl⟩,q3.less (.cons _ (.cons _ (.refl _)))⟩
end Go.Gl
