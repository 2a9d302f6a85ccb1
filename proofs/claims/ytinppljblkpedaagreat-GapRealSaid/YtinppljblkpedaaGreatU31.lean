import Derived.Test.YtinppljblkpedaaGreatU14
import Derived.Test.YtinppljblkpedaaGreatU20
import Derived.Test.YtinppljblkpedaaGreatU22
import Derived.Test.YtinppljblkpedaaGreatU28
import Derived.Test.YtinppljblkpedaaGreatU30
set_option linter.all false
set_option linter.defProp false
set_option maxHeartbeats 8000000
noncomputable section
namespace Go.Gl
open Go.Proofs
def aR {κ:Type} [DecidableEq κ] {v:κ}: ∀ {AA:List κ},AA.Nodup->(AA.map fun u=>if v=u then 1 else 0).sum<=1
 | [],_=>by simp
 | u ::r,h=>by
   rw[List.nodup_cons]at h;rw[CK,List.sum_cons];by_cases e:v=u
   .have:(r.map fun u=>if v=u then 1 else 0)=r.map fun _=>0:=List.map_congr_left fun x hx=>by
     rw[if_neg];rintro rfl;exact h.1 (e ▸ hx)
    rw[this,if_pos e];have: ∀l:List κ,(l.map fun _=>0).sum=0:=fun l=>by induction l<;>simp_all
    rw[this];omega
   .rw[if_neg e,GZ]
    exact aR h.2
def sum_add {α:Type} (f g:α->Nat): ∀l:List α,(l.map fun x=>f x+g x).sum=(l.map f).sum+(l.map g).sum
 | []=>rfl
 | x::r=>by simp only[CK,List.sum_cons,sum_add f g r];omega
def gr {α:Type} {f g:α->Nat}: ∀ {l:List α},(∀x∈l,f x<=g x)->(l.map f).sum<=(l.map g).sum
 | [],_=>by simp
 | x::r,h=>by
   simp only[CK,List.sum_cons];have h1:=h x (.head _);have h2:=gr (l:=r) fun y hy=>h y (.tail _ hy)
   omega
def Ml {β κ:Type} [DecidableEq κ] (key:β->Option κ) {AA:List κ} (hU:AA.Nodup): ∀ls:List β,(AA.map fun u=>(ls.filter fun l=>key l==some u).length).sum<=ls.length
 | []=>by
   have: ∀l:List κ,(l.map fun _=>0).sum=0:=fun l=>by induction l<;>simp_all
   simp[this]
 | l ::r=>by
   have ih:=Ml key hU r
   have e:(AA.map fun u=>((l::r).filter fun l=>key l==some u).length)=AA.map fun u=>(if key l=some u then 1 else 0)+(r.filter fun l=>key l==some u).length:=List.map_congr_left fun u _=>by
    rw[List.filter_cons];by_cases h:key l=some u
    .rw[if_pos (by rw[h];exact beq_self_eq_true _),if_pos h,HH];omega
    .rw[if_neg (by simpa using h),if_neg h];omega
   rw[e,sum_add]
   have h1:(AA.map fun u=>if key l=some u then 1 else 0).sum<=1:=by
    cases hk:key l with
    | none=>
      have:(AA.map fun u=>if(none:Option κ)=some u then 1 else 0)=AA.map fun _=>0:=List.map_congr_left fun u _=>by simp
      rw[this];have: ∀l:List κ,(l.map fun _=>0).sum=0:=fun l=>by induction l<;>simp_all
      rw[this];omega
    | some v=>
      have:(AA.map fun u=>if some v=some u then 1 else 0)=AA.map fun u=>if v=u then 1 else 0:=List.map_congr_left fun u _=>by simp
      rw[this];exact aR hU
   rw[HH];omega
def Wc {β κ:Type} [DecidableEq κ] (key:β->Option κ) {AA:List κ} (hU:AA.Nodup) {ls:List β} (h: ∀u∈AA,∃l∈ls,key l=some u):AA.length<=ls.length:=by
 refine Nat.le_trans ?_ (Ml key hU ls)
 have: ∀V:List κ,(∀u∈V,u∈AA)->V.length<=(V.map fun u=>(ls.filter fun l=>key l==some u).length).sum:=by
  intro V
  induction V with
  | nil=>intro _;simp
  | cons v r ih=>
    intro hV;rw[CK,List.sum_cons,HH];have h1:=ih fun u hu=>hV u (.tail _ hu)
    obtain⟨l,hl,hk⟩:=h v (hV v (.head _));have:0<(ls.filter fun l=>key l==some v).length:=List.length_pos_of_mem (HD.2 ⟨hl,by rw[hk];exact beq_self_eq_true _⟩);omega
 exact this AA fun _ h=>h
def IC (kf:Int->List Int->Kn) (a:Int):Nat->List Int->Nat
 | 0,_=>1
 | d+1,p=>1+((kf a p).AI.map fun s=>IC kf a d (p++[s])).sum
def Gb {w:AF} {m:Nat} {sl:List Int} {rec:Int->Gj->(Int×Int)×Gj} {N:Int->Nat} (hrec: ∀s∈sl,∀st,(rec s st).2.2.length<=st.2.length+N s/\(rec s st).2.1.length<=st.1.length+N s) :
    ∀(l:List Int) (st:Gj) (vs:List (Int×Int)),(CX w m sl rec l st vs).1.2.length<=st.2.length+((l.filter sl.contains).map N).sum/\(CX w m sl rec l st vs).1.1.length<=st.1.length+((l.filter sl.contains).map N).sum
 | [],st,vs=>by simp[CX]
 | s ::r,st,vs=>by
   rw[CX];split
   .split
    .rename_i hc
     have h1:=hrec s (List.contains_iff_mem.1 hc) st;have h2:=Gb (w:=w) (m:=m) hrec r (rec s st).2 (vs++[(rec s st).1]);rw[List.filter_cons,if_pos hc,CK,List.sum_cons];omega
    .rename_i hc
     have h2:=Gb (w:=w) (m:=m) hrec r st (vs++[(2,0)]);rw[List.filter_cons,if_neg hc];exact h2
   .have h2:=Gb (w:=w) (m:=m) hrec r st vs
    rw[List.filter_cons];split
    .rw[CK,List.sum_cons];omega
    .exact h2
def Kw (w:AF) (more:List Nat) (m:Nat):(Cx w more m).2.length<=more.length+1:=by
 rw[Cx];split
 .dsimp only;omega
 .split
  .dsimp only;omega
  .simp
def ZI {P:Int->Bool} (l:List Int):l.filter (l.filter P).contains=l.filter P:=by
 refine List.filter_congr fun s hs=>?_
 rw[Hl,List.contains_iff_mem,HD];exact⟨fun h=>h.2,fun h=>⟨hs,h⟩⟩
def QV {w:AF} {ls:List Fact} (hl: ∀l∈ls,CQ w l) (a:Int): ∀(d:Nat) (p:List Int) (st:Gj),p.length+d=2->(EO w (kn ls) a d p st).2.2.length<=st.2.length+IC (kn ls) a d p/\(EO w (kn ls) a d p st).2.1.length<=st.1.length+IC (kn ls) a d p:=by
 intro d;have hsl: ∀p,(kn ls a p).AI=CN w.owner.length ls a p:=fun p=>FJ (Nc hl) a p
 have hfil: ∀p,(Aw w.owner.length).filter (kn ls a p).AI.contains=(kn ls a p).AI:=fun p=>by rw[hsl,CN];exact ZI _
 induction d with
 | zero=>
   intro p st hp;rw[EO,Is,IC];split
   .dsimp only;omega
   split
   .dsimp only;omega
   have he:(kn ls a p).AI= []:=by
    rw[hsl];exact IW (m:=2) (fun l h=>(hl l h).short) (by omega)
   have h1:=Gb (w:=w) (m:=(Ef w (kn ls a p) (fun s=>(kn ls a (p++[s])).AV) fun _=>false).1) (sl:=(kn ls a p).AI) (rec:=fun _ st=>((2,0),st)) (N:=fun _=>0) (fun s hs=>by rw[he]at hs;cases hs) (Aw w.owner.length)
    ((Cx w st.1 (Ef w (kn ls a p) (fun s=>(kn ls a (p++[s])).AV) fun _=>false).1).2,st.2++[((Cx w st.1 (Ef w (kn ls a p) (fun s=>(kn ls a (p++[s])).AV) fun _=>false).1).1,[])]) []
   have h2:=Kw w st.1 (Ef w (kn ls a p) (fun s=>(kn ls a (p++[s])).AV) fun _=>false).1;rw[hfil,he]at h1;simp only[List.map_nil,List.sum_nil,Nat.add_zero,HQ,HH,List.length_nil]at h1;dsimp only;rw[List.length_set];rw[he];exact⟨by omega,by omega⟩
 | succ d ih=>
   intro p st hp;rw[EO,Is,IC];split
   .dsimp only;omega
   split
   .dsimp only;omega
   have h1:=Gb (w:=w) (m:=(Ef w (kn ls a p) (fun s=>(kn ls a (p++[s])).AV) fun s=>EZ w (kn ls) a d (p++[s])).1) (sl:=(kn ls a p).AI) (rec:=fun s st=>EO w (kn ls) a d (p++[s]) st) (N:=fun s=>IC (kn ls) a d (p++[s])) (fun s hs st=>ih (p++[s]) st (by simp;omega)) (Aw w.owner.length)
    ((Cx w st.1 (Ef w (kn ls a p) (fun s=>(kn ls a (p++[s])).AV) fun s=>EZ w (kn ls) a d (p++[s])).1).2,st.2++[((Cx w st.1 (Ef w (kn ls a p) (fun s=>(kn ls a (p++[s])).AV) fun s=>EZ w (kn ls) a d (p++[s])).1).1,[])]) []
   have h2:=Kw w st.1 (Ef w (kn ls a p) (fun s=>(kn ls a (p++[s])).AV) fun s=>EZ w (kn ls) a d (p++[s])).1;rw[hfil]at h1;simp only[HQ,HH,List.length_nil]at h1;dsimp only;rw[List.length_set];exact⟨by omega,by omega⟩
def VJ (ls:List Fact) (a:Int):List Fact:=ls.filter fun l=>some (Ad l).1.arg==some a
def KE {w:AF} {ls:List Fact} (hl: ∀l∈ls,CQ w l) (a:Int) (p:List Int):(kn ls a p).AI.Nodup:=by
 rw[FJ (Nc hl),CN];exact((Fy _).filter _).imp fun h=>Int.ne_of_lt h
def YR {w:AF} {ls:List Fact} (hl: ∀l∈ls,CQ w l) (a:Int):IC (kn ls) a 2 []<=1+2*(VJ ls a).length:=by
 have hkey1: ∀s∈(kn ls a []).AI,∃l∈VJ ls a,(Ad l).1.path.head? =some s:=fun s hs=>by
  obtain⟨l,h1,h2,q,h3⟩:=(gK hl).1 hs;exact⟨l,HD.2 ⟨h1,by rw[h2];exact beq_self_eq_true _⟩,by rw[h3];rfl⟩
 have e1:=Wc (fun l=>(Ad l).1.path.head?) (KE hl a []) hkey1;have e2:=Ml (fun l=>(Ad l).1.path.head?) (KE hl a []) (VJ ls a)
 have hm1: ∀s,IC (kn ls) a 1 [s]=1+(kn ls a [s]).AI.length:=fun s=>by
  rw[IC]
  have: ∀l:List Int,(l.map fun x=>IC (kn ls) a 0 ([s]++[x])).sum=l.length:=fun l=>by
   induction l with
   | nil=>rfl
   | cons x r ih=>rw[CK,List.sum_cons,ih,IC,HH];omega
  rw[this]
 have hm2: ∀s∈(kn ls a []).AI,(kn ls a [s]).AI.length<=((VJ ls a).filter fun l=>(Ad l).1.path.head? ==some s).length:=fun s _=>by
  refine Wc (fun l=>(Ad l).1.path.tail.head?) (KE hl a [s]) fun u hu=>?_
  obtain⟨l,h1,h2,q,h3⟩:=(gK hl).1 hu;exact⟨l,HD.2 ⟨HD.2 ⟨h1,by rw[h2];exact beq_self_eq_true _⟩,by rw[h3];exact beq_self_eq_true _⟩,by rw[h3];rfl⟩
 rw[IC]
 have e3:((kn ls a []).AI.map fun s=>IC (kn ls) a 1 ([]++[s])).sum=((kn ls a []).AI.map fun s=>1+(kn ls a [s]).AI.length).sum:=by
  congr 1;exact List.map_congr_left fun s _=>hm1 s
 rw[e3,sum_add (fun _=>1)]
 have e4: ∀l:List Int,(l.map fun _=>1).sum=l.length:=fun l=>by
  induction l with
  | nil=>rfl
  | cons x r ih=>rw[CK,List.sum_cons,ih,HH];omega
 rw[e4];have e5:=gr hm2;omega
abbrev OI (o:Ob×Bool):List V:=[eI o.1.1,.l (pP o.1.2) o.2]
def lY:Dj OI 2:=fun x=>⟨rfl,fun v hv=>by
 simp only[OI,Ep,List.not_mem_nil,or_false]at hv
 rcases hv with rfl|rfl<;>rfl⟩
def Qc:Dj pI 2:=fun x=>⟨rfl,fun v hv=>by
 simp only[pI,Ep,List.not_mem_nil,or_false]at hv
 rcases hv with rfl|rfl<;>rfl⟩
abbrev FR (t:List Ob):List (Ob×Bool):=t.map fun o=>(o,false)
abbrev nE (w:AF) (nM L:Nat) (vm vo:V) (more:List Nat) (os:List (Ob×Bool)):List At:=[.box nM [HF w (Ah w.parents) L,vm,vo],.own vm 1 (uR more),.own vo 2 (os.map OI)]
def rq (w:AF) (kf:Int->List Int->Kn) (nM L:Nat) (vo:V) (es:List Bv) (os:List (Ob×Bool)) (st:Gj) (x:(Int×Int)×Gj) (r:R) (post:List At):Prop:=
 r= .ret (.a (pI x.1))/\ ∃vm' vo' t es',(x.2.2=st.2++t/\((Bi vo).isSome=true->(Bi vo').isSome=true))/\(Jc es es'/\Bj kf es')/\post=nE w nM L vm' vo' x.2.1 (os++FR t)++BM L es'
def Ww {w:AF} (hw:BR w) {AV can:Int->Bool}: ∀(sl:List Int) {u u':Nat×Nat},(∀s∈sl,0<=s/\s<(w.owner.length:Int))->GP w AV can sl u=some u'->u.1<18446744073709551616->u'.1<18446744073709551616
 | [],u,u',_,h,hu=>by cases h;exact hu
 | s ::r,u,u',hr,h,hu=>by
   rw[GP,SJ]at h;split at h
   .cases h
   .rw[Option.bind_some]at h
    refine Ww hw r (fun x hx=>hr x (.tail _ hx)) h ?_;dsimp only;split
    .obtain⟨h0,h1⟩:=hr s (.head _)
     obtain⟨o,ho⟩: ∃o,w.owner[s.toNat]? =some o:=⟨_,Cd (by omega)⟩
     have hoI:BG w s=o:=by simp only[BG,Cq,ho];rfl
     have hoo:=hw.2.2 o (B6 ho);have hwp:=hw.1.1;rw[hoI];exact Gp hu (GI (by omega))
    .exact hu
def aY {w:AF} (hw:BR w) {k:Kn} {AV can:Int->Bool} (hk:k.BO<18446744073709551616) (hs: ∀s∈k.AI,0<=s/\s<(w.owner.length:Int)):(Ef w k AV can).1<18446744073709551616:=by
 rw[Ef];split
 .decide
 .split
  .decide
  .rename_i u hu
   have h1:=Ww hw k.AI hs hu hk;have h2:=OB (us:=Ah w.parents) (D0 _ _ (by have:=hw.1.1;omega)) h1 w.parents.length;show FT _<_;unfold FT;omega
def cn (G:Nat) (l:List Int):(l.map fun _=>G).sum=l.length*G:=by
 induction l with
 | nil=>simp
 | cons x r ih=>rw[CK,List.sum_cons,ih,HH,Nat.add_mul];omega
def Sx {w:AF} (ho:w.owner.length<=40) {kf:Int->List Int->Kn} {a:Int} {p:List Int} {can:Int->Bool} {rec:Int->Gj->(Int×Int)×Gj} {G:Nat} (hN: ∀s∈(kf a p).AI,∀st,(rec s st).2.2.length<=st.2.length+G/\(rec s st).2.1.length<=st.1.length+G) (st:Gj) :
    (Is w kf a p can rec st).2.2.length<=st.2.length+(1+40*G)/\(Is w kf a p can rec st).2.1.length<=st.1.length+(1+40*G):=by
 rw[Is];split
 .dsimp only;omega
 split
 .dsimp only;omega
 dsimp only;generalize (Ef w (kf a p) (fun s=>(kf a (p++[s])).AV) can).1=m;have h1:=Gb (w:=w) (m:=m) (N:=fun _=>G) hN (Aw w.owner.length) ((Cx w st.1 m).2,st.2++[((Cx w st.1 m).1,[])]) [];have h2:=Kw w st.1 m;rw[cn]at h1
 have h3:((Aw w.owner.length).filter (kf a p).AI.contains).length<=40:=by
  refine Nat.le_trans (TZ _ _) ?_;rw[G1];exact ho
 have h4:=SE G h3;simp only[HQ,HH,List.length_nil]at h1;rw[List.length_set];omega
attribute [local irreducible] As Ag AY AQ AL AX AP AR AK AW AM AN Ai Ap Sat AT An AZ W
structure ValX where
 u:V
 vs:List (Int×Int)
 vm:V
 vo:V
 cur:Gj
 t:List Ob
 es:List Bv
attribute [local irreducible] Fz
def Qv (w : AF) (hw:BR w) {kf:Int->List Int->Kn} (hr:DC w kf) {a:Int} {p:List Int} (hp:p.length<=2) (can:Int->Bool) (rec:Int->Gj->(Int×Int)×Gj) (G:Nat) (hG:G<=2000)
    (hN: ∀s∈(kf a p).AI,∀z0,(rec s z0).2.2.length<=z0.2.length+G/\(rec s z0).2.1.length<=z0.1.length+G)
    (hcan: ∀s∈(kf a p).AI,∀L es,Bj kf es->BL zP 211 [HF w (Ah w.parents) L,B2 a (p++[s])] (BM L es) fun r post=>r= .ret (.b (can s))/\OO kf L es post) {nM L:Nat}
    (hrec: ∀s∈(kf a p).AI,can s=true-> ∀(z0:Gj) (vm vo:V) (os:List (Ob×Bool)) (es:List Bv),Bj kf es->os.length=z0.2.length->(z0.1.length+G<=90000/\z0.2.length+G<=90000)->
     BL zP 65 [.p nM 0,B2 a (p++[s])] (nE w nM L vm vo z0.1 os++BM L es) (rq w kf nM L vo es os z0 (rec s z0)))
    (z0:Gj) (vm vo:V) (os:List (Ob×Bool)) (es:List Bv) (h:Bj kf es) (hol:os.length=z0.2.length) (hb:z0.1.length+(1+40*G)<=90000/\z0.2.length+(1+40*G)<=90000)
    (hok:(Dq kf a p||(CR kf a p||(Ef w (kf a p) (fun s=>(kf a (p++[s])).AV) can).2))=true) :
    BL zP 65 [.p nM 0,B2 a p] (nE w nM L vm vo z0.1 os++BM L es) (rq w kf nM L vo es os z0 (Is w kf a p can rec z0)):=by
 intro Z hs;generalize hX:Is w kf a p can rec z0=X;have hM:=Mx;have hint:=Lx w (Ah w.parents) hr h (L:=L) (a:=a) (p:=p) hp;have hnone:=fun es h=>Ua w (Ah w.parents) hr (es:=es) h (L:=L) (a:=a) (p:=p) hp
 have hobj:=fun es h=>Ny w hw hr (a:=a) (p:=p) hp can hcan (L:=L) (es:=es) h
 replace hs:Sat Z ([.box nM [HF w (Ah w.parents) L,vm,vo],.own vm 1 (uR z0.1),.own vo 2 (os.map OI)]++BM L es):=hs;refine AAS kZ ?_
 conv=>whnf
 repeat'((first|apply st|(apply sq;intro K U)|(apply si;intro A B hA hB)|(refine hA _ _ ?_;clear hB B hA A)|(apply U;clear U K)|apply dr|refine⟨kZ,?_⟩|refine ld ?_|(intro nn hnn;generalize hg:BZ _ nn _=Z;refine GF hg fun hs=>?_;clear hg)|fail)<;>conv=>whnf)
 generalize nn=n4 at *;replace hs:Sat Z ([.box n4 [eI 0,eI 0],.box nM [HF w (Ah w.parents) L,vm,vo],.own vm 1 (uR z0.1),.own vo 2 (os.map OI)]++BM L es):=hs;refine hint.use (rest:=_) (hs.perm HP) ?_;clear hs hint;rintro r post Z ⟨rfl,es2,hx2,hi2,rfl⟩ hs;replace hs:=hs.perm HP;cases hI:Dq kf a p
 rotate_left
 .have hmk:Is w kf a p can rec z0=((1,Cy (kf a p)),z0):=by rw[Is,if_pos hI]
  rw[hmk]at hX;subst hX
  conv=>whnf
  repeat'((first|apply st|(apply sq;intro K U)|(apply si;intro A B hA hB)|(refine hA _ _ ?_;clear hB B hA A)|(apply U;clear U K)|apply dr|refine⟨kZ,?_⟩|refine ld ?_|refine FX fun Z hs=>?_|clear U K)<;>conv=>whnf)
  refine AJ ⟨_,⟨rfl,vm,vo,[],es2,⟨(D8 _).symm,id⟩,⟨hx2,hi2⟩,rfl⟩,?_⟩;rw[show FR []= [] from rfl,D8];exact hs.less (Gg _ _)
 conv=>whnf
 repeat'((first|apply st|(apply sq;intro K U)|(apply si;intro A B hA hB)|(refine hA _ _ ?_;clear hB B hA A)|(apply U;clear U K)|apply dr|refine⟨kZ,?_⟩|refine ld ?_|fail)<;>conv=>whnf)
 refine(hnone es2 hi2).use (rest:=_) (hs.perm HP) ?_;clear hs hnone;rintro r post Z ⟨rfl,es3,hx3,hi3,rfl⟩ hs;replace hs:=hs.perm HP;cases hNo:CR kf a p
 rotate_left
 .have hmk:Is w kf a p can rec z0=((2,0),z0):=by rw[Is,if_neg (by rw[hI];decide),if_pos hNo]
  rw[hmk]at hX;subst hX
  conv=>whnf
  repeat'((first|apply st|(apply sq;intro K U)|(apply si;intro A B hA hB)|(refine hA _ _ ?_;clear hB B hA A)|(apply U;clear U K)|apply dr|refine⟨kZ,?_⟩|refine ld ?_|refine FX fun Z hs=>?_|clear U K)<;>conv=>whnf)
  refine AJ ⟨_,⟨rfl,vm,vo,[],es3,⟨(D8 _).symm,id⟩,⟨hx2.trans hx3,hi3⟩,rfl⟩,?_⟩;rw[show FR []= [] from rfl,D8];exact hs.less (Gg _ _)
 rw[hI,hNo,Bool.false_or,Bool.false_or]at hok;have hm64:=aY hw (k:=kf a p) (AV:=fun s=>(kf a (p++[s])).AV) (can:=can) (hr.ok a p).1 (hr.AI a p);obtain⟨m,hme⟩: ∃m,Ef w (kf a p) (fun s=>(kf a (p++[s])).AV) can=(m,true):=⟨_,Prod.ext rfl hok⟩
 have hoc:=fun s hs hb=>aX (s:=s) hme hs hb
 have hmk:Is w kf a p can rec z0=((3,(z0.2.length:Int)),((CX w m (kf a p).AI rec (Aw w.owner.length) ((Cx w z0.1 m).2,z0.2++[((Cx w z0.1 m).1,[])]) []).1.1,(CX w m (kf a p).AI rec (Aw w.owner.length) ((Cx w z0.1 m).2,z0.2++[((Cx w z0.1 m).1,[])]) []).1.2.set z0.2.length ((Cx w z0.1 m).1,(CX w m (kf a p).AI rec (Aw w.owner.length) ((Cx w z0.1 m).2,z0.2++[((Cx w z0.1 m).1,[])]) []).2))):=by
  rw[Is,if_neg (by rw[hI];decide),if_neg (by rw[hNo];decide),hme]
 rw[hmk]at hX;rw[hme]at hm64 hobj;dsimp only at hm64 hobj;have hcls:=mB w hw z0.1 m (nM:=nM) (L:=L) (vm:=vm) (vo:=vo) hm64 (by omega);have hcm:=Kw w z0.1 m;clear hmk hok hme;generalize Cx w z0.1 m=cm at *;obtain⟨c,mo⟩:=cm;dsimp only at hcm hcls hX
 conv=>whnf
 repeat'((first|apply st|(apply sq;intro K U)|(apply si;intro A B hA hB)|(refine hA _ _ ?_;clear hB B hA A)|(apply U;clear U K)|apply dr|refine⟨kZ,?_⟩|refine ld ?_|fail)<;>conv=>whnf)
 refine(hobj es3 hi3).use (rest:=_) (hs.perm HP) ?_;clear hs hobj;rintro r post Z ⟨rfl,es4,hx4,hi4,rfl⟩ hs;replace hs:=hs.perm HP;have hx:=(hx2.trans hx3).trans hx4;clear hx2 hx3 hx4 hi2 hi3;have hll:os.length<Ab/\(os.length+1)*32<=140737488355328:=by omega
 conv=>whnf
 repeat'((first|(apply sq;intro K U)|(apply si;intro A B hA hB)|(refine hA _ _ ?_;clear hB B hA A)|(apply U;clear U K)|apply dr|refine lo ?_|refine ld ?_|fail)<;>conv=>whnf)
 refine hcls.use (rest:= .own vo 2 (os.map OI)::(BM L es4++[.box n4 [eI 0,eI 0]])) (hs.perm (HP (l₁:=[_]))) ?_;clear hs hcls;rintro r post Z ⟨rfl,vm1,rfl⟩ hs;replace hs:Sat Z ([.box n4 [eI 0,eI 0],.box nM [HF w (Ah w.parents) L,vm1,vo],.own vm1 1 (uR mo),.own vo 2 (os.map OI)]++BM L es4):=hs.perm (HP (l₁:= .box nM _:: .own vm1 _ _:: .own vo _ _::BM L es4) (l₂:=[_]))
 conv=>whnf
 repeat'((first|apply st|(apply sq;intro K U)|(apply si;intro A B hA hB)|(refine hA _ _ ?_;clear hB B hA A)|(apply U;clear U K)|apply dr|refine rk ?_ ?_|exact fun s e=>by cases e;rfl|refine ld ?_|refine MA fun Z hs=>?_|refine aq (enc:=OI) (x:=((c,[]),true)) (fun v Z hs hsl=>?_) (hg:=lY)|fail)<;>conv=>whnf)
 generalize v=vo1 at *;replace hs:Sat Z ([.box n4 [eI 0,eI 0],.box nM [HF w (Ah w.parents) L,vm1,vo1],.own vm1 1 (uR mo),.own vo1 2 ((os++[((c,[]),true)]).map OI)]++BM L es4):=hs;generalize hF:CX w m (kf a p).AI rec (Aw w.owner.length) (mo,z0.2++[(c,[])]) []=AD at hX
 refine B4 w.owner.length (fun k (x:ValX)=>[(10,x.u),(72,eI (A7 k))]) (fun k x=>[.own x.u 2 (pP x.vs),.box n4 [eI 0,eI 0],.box nM [HF w (Ah w.parents) L,x.vm,x.vo],.own x.vm 1 (uR x.cur.1),.own x.vo 2 ((os++[((c,[]),true)]++FR x.t).map OI)]++BM L x.es)
  (fun k x=>(Bj kf x.es/\Jc es x.es)/\(x.cur.2=z0.2++[(c,[])]++x.t/\(Bi x.vo).isSome=true)/\(x.cur.1.length<=z0.1.length+1+k*G/\x.cur.2.length<=z0.2.length+1+k*G/\x.vs.length<=k)/\CX w m (kf a p).AI rec ((Aw w.owner.length).drop k) x.cur x.vs=AD)
  ⟨.l [] true,[],vm1,vo1,(mo,z0.2++[(c,[])]),[],es4⟩ rfl ⟨⟨hi4,hx⟩,⟨(D8 _).symm,hsl⟩,⟨by dsimp only;omega,by simp,Ft _⟩,hF⟩ (by dsimp only;rw[show FR []= [] from rfl,D8];exact Ch hs 2) ?_
 clear hs
 try clear hs
 clear hF hi4 hx hsl hll hcm;rintro k ⟨u,vs,vm1,vo1,cur,t,es4⟩ Z hk ⟨⟨hi,hx⟩,⟨hct,hslo⟩,⟨hb1,hb2,hb3⟩,hF⟩ hs;dsimp only at hi hx hct hslo hb1 hb2 hb3 hF hs;have hwo:=hw.2.1;have hck:A7 k=k:=AS (by omega);by_cases hlt:k<w.owner.length
 .rw [drop_cons (show(Aw w.owner.length)[k]? =some (k:Int) by simp[Aw,hlt]),CX]at hF
  obtain⟨o,ho⟩: ∃o,w.owner[k]? =some o:=⟨_,Cd hlt⟩
  have hoI:BG w (k:Int)=o:=by simp only[BG,GR,Cq,ho];rfl
  have hoo:=hw.2.2 o (B6 ho);have hwp:=hw.1.1
  have hkG:k*G+G<=40*G:=by
   have:=SE G (show k+1<=40 by omega);rw[Nat.succ_mul]at this;exact this
  have hkS:(k+1)*G=k*G+G:=Nat.succ_mul k G;rw[hoI]at hF;have hoc2:=fun h=>hoc (k:Int) h
  rw[hoI]at hoc2;have c1:=PL m o hm64 (by omega) (by omega);cases hbt:m.testBit o.toNat<;>rw[hbt]at c1 hF hoc2
  .rw[if_neg (by decide)]at hF
   conv=>whnf
   repeat'((first|apply st|(apply sq;intro K U)|(apply si;intro A B hA hB)|(refine hA _ _ ?_;clear hB B hA A)|(apply U;clear U K)|refine⟨rfl,?_⟩|refine ix ?_|refine Zg ?_|(refine NT (fun hc=>?_)<;>(try rw[hc])<;>clear hc)|refine c1.use ?_|clear U K)<;>conv=>whnf)
   exact⟨hlt,⟨u,vs,vm1,vo1,cur,t,es4⟩,rfl,⟨⟨hi,hx⟩,⟨hct,hslo⟩,⟨by dsimp only;omega,by dsimp only;omega,by dsimp only;omega⟩,hF⟩,hs⟩
  .rw [if_pos rfl]at hF
   conv=>whnf
   repeat'((first|apply st|(apply sq;intro K U)|(apply si;intro A B hA hB)|(refine hA _ _ ?_;clear hB B hA A)|(apply U;clear U K)|apply dr|refine⟨rfl,?_⟩|refine⟨kZ,?_⟩|refine ix ?_|refine ld ?_|refine FX fun Z hs=>?_|refine SG ?_|(refine NT (fun hc=>?_)<;>(try rw[hc])<;>clear hc)|refine c1.use ?_|(intro nn hnn;generalize hg:BZ _ nn _=Z;refine GF hg fun hs=>?_;clear hg)|fail)<;>conv=>whnf)
   generalize nn=n13 at *;replace hs:Sat Z ([.box n13 [eI 2,eI 0],.own u 2 (pP vs),.box n4 [eI 0,eI 0],.box nM [HF w (Ah w.parents) L,vm1,vo1],.own vm1 1 (uR cur.1),.own vo1 2 ((os++[((c,[]),true)]++FR t).map OI)]++BM L es4):=hs;refine(LP w (Ah w.parents) hi (a:=a) (p:=p) hp).use (rest:=_) (hs.perm HP) ?_;clear hs;rintro r post Z ⟨es5,e5,got,rfl,rfl⟩ hs;replace hs:=hs.perm HP;have hx5:=hx.trans got.ext;have hi5:=got.inv;have hek:=got.k;obtain⟨pre,post,rfl⟩:=List.append_of_mem got.mem;replace hs:=HS hs;have c2:=B3 e5.k.AI false (A7 k);rw[show e5.k.AI.contains (A7 k)=(kf a p).AI.contains (k:Int) by rw[hek,hck]]at c2;have hll:vs.length<Ab/\(vs.length+1)*16<=140737488355328:=by omega
   cases hct2:(kf a p).AI.contains (k:Int)<;>rw[hct2]at c2 hF
   .rw[if_neg (by decide)]at hF
    conv=>whnf
    repeat'((first|apply st|(apply si;intro A B hA hB)|(refine hA _ _ ?_;clear hB B hA A)|(apply U;clear U K)|apply dr|refine⟨rfl,?_⟩|refine⟨kZ,?_⟩|refine ld ?_|refine Pure.Pk c2 (.cons (hs.MB 2 rfl) (.cons (.refl _) .nil)) rfl ?_|refine aq (enc:=pI) (x:=((2,0):Int×Int)) (fun v Z hs hsl=>?_) (hg:=Qc)|clear U K)<;>conv=>whnf)
    have hs2:=Dy (e:=e5) (e':=e5) rfl rfl rfl (X:=[.box n13 [eI 2,eI 0],.own v 2 (pP (vs++[(2,0)])),.box n4 [eI 0,eI 0],.box nM [HF w (Ah w.parents) L,vm1,vo1],.own vm1 1 (uR cur.1),.own vo1 2 ((os++[((c,[]),true)]++FR t).map OI)]) hs;exact⟨hlt,⟨v,vs++[(2,0)],vm1,vo1,cur,t,_⟩,rfl,⟨⟨hi5,hx5⟩,⟨hct,hslo⟩,⟨by dsimp only;omega,by dsimp only;omega,by dsimp only;rw[HQ];simp;omega⟩,hF⟩,hs2.less (Gg _ _)⟩
   .rw[if_pos rfl]at hF
    have hmem:(k:Int)∈(kf a p).AI:=List.contains_iff_mem.1 hct2
    have hp2:p.length<2:=by
     rcases Nat.lt_or_ge p.length 2 with h'|h'
     .exact h'
     .rw[hr.short a p h']at hmem;cases hmem
    have hrk:=hrec (k:Int) hmem (hoc2 hmem rfl) cur vm1 vo1 (os++[((c,[]),true)]++FR t) _ hi5 (by rw[hct];simp;omega) ⟨by omega,by omega⟩;obtain⟨hn1,hn2⟩:=hN (k:Int) hmem cur;rw[<-hck]at hrk hn1 hn2 hF;generalize rec (A7 k) cur=y at *
    conv=>whnf
    repeat'((first|apply st|(apply si;intro A B hA hB)|(refine hA _ _ ?_;clear hB B hA A)|(apply U;clear U K)|apply dr|refine⟨kZ,?_⟩|refine ld ?_|refine Pure.use (MZ a p _ hp2) ?_|refine Pure.Pk c2 (.cons (hs.MB 2 rfl) (.cons (.refl _) .nil)) rfl ?_|fail)<;>conv=>whnf)
    have hs2:=Dy (e:=e5) (e':=e5) rfl rfl rfl (X:=[.box n13 [eI 2,eI 0],.own u 2 (pP vs),.box n4 [eI 0,eI 0],.box nM [HF w (Ah w.parents) L,vm1,vo1],.own vm1 1 (uR cur.1),.own vo1 2 ((os++[((c,[]),true)]++FR t).map OI)]) hs;clear hs;refine hrk.use (rest:=[.box n13 [eI 2,eI 0],.own u 2 (pP vs),.box n4 [eI 0,eI 0]]) (hs2.perm (HP (l₁:=[_,_,_]))) ?_;clear hs2 hrk;rintro r post' Z ⟨rfl,vm2,vo2,t2,es6,⟨ht2,hsl2⟩,⟨hx6,hi6⟩,rfl⟩ hs;replace hs:Sat Z ([.box n13 [eI 2,eI 0],.own u 2 (pP vs),.box n4 [eI 0,eI 0],.box nM [HF w (Ah w.parents) L,vm2,vo2],.own vm2 1 (uR y.2.1),.own vo2 2 ((os++[((c,[]),true)]++FR t++FR t2).map OI)]++BM L es6):=hs.perm HP;have hx7:=hx5.trans hx6;obtain⟨v1,hv1⟩: ∃v1,v1=y.1:=⟨_,rfl⟩
    rw[<-hv1]at hF ⊢
    conv=>whnf
    repeat'((first|(apply si;intro A B hA hB)|(refine hA _ _ ?_;clear hB B hA A)|(apply U;clear U K)|refine⟨rfl,?_⟩|refine⟨kZ,?_⟩|refine ld ?_|refine FX fun Z hs=>?_|refine aq (enc:=pI) (x:=v1) (fun v Z hs hsl=>?_) (hg:=Qc)|clear U K)<;>conv=>whnf)
    have hs3:Sat Z ([.own v 2 (pP (vs++[v1])),.box n4 [eI 0,eI 0],.box nM [HF w (Ah w.parents) L,vm2,vo2],.own vm2 1 (uR y.2.1),.own vo2 2 ((os++[((c,[]),true)]++FR t++FR t2).map OI)]++BM L es6):=hs.less (Gg _ _);refine⟨hlt,⟨v,vs++[v1],vm2,vo2,y.2,t++t2,es6⟩,rfl,⟨⟨hi6,hx7⟩,⟨by rw[ht2,hct];simp,hsl2 hslo⟩,⟨by dsimp only;omega,by dsimp only;omega,by dsimp only;rw[HQ];simp;omega⟩,hF⟩,?_⟩;dsimp only;rw[show FR (t++t2)=FR t++FR t2 from LX,<-LC];exact hs3
 .have hke:k=w.owner.length:=by omega
  rw[List.drop_of_length_le (by rw[G1];omega),CX]at hF;subst hF;subst hX;obtain⟨nO,lO,cO,rfl⟩:=VZ hslo
  conv=>whnf
  repeat'((first|(refine Ta ?_;intro K U)|(apply si;intro A B hA hB)|(refine hA _ _ ?_;clear hB B hA A)|(apply U;clear U K)|refine⟨rfl,?_⟩|fail)<;>conv=>whnf)
  refine Vm hs 0 rfl (fun Z2 h=> .cons (.refl _) (.cons (.refl _) (.cons (.refl _) (.cons (.refl _) (.cons (.refl _) (.cons h (.cons (.refl _) (.cons (.refl _) (.cons (.refl _) (.cons (.refl _) .nil)))))))))) fun Z hs=>?_
  replace hs:Sat Z ([.box n4 [eI 0,eI 0],.box nM [HF w (Ah w.parents) L,vm1,.sl nO lO cO],.own vm1 1 (uR cur.1),.own (.sl nO lO cO) 2 ((os++[((c,[]),true)]++FR t).map OI)]++BM L es4):=hs
  conv=>whnf
  repeat'((first|apply st|(refine Ta ?_;intro K U)|(apply si;intro A B hA hB)|(refine hA _ _ ?_;clear hB B hA A)|(apply U;clear U K)|refine⟨kZ,?_⟩|refine ld ?_|refine FX fun Z hs=>?_|(refine SF (fun hc=>?_)<;>(try rw[hc])<;>clear hc)|refine fG hs 3 os.length rfl (by rw[Bc]) (by simp) ?_|refine F8 hs 3 (e:=OI ((c,[]),true)) rfl (by simp) rfl (by decide) fun Z hs=>?_|refine cE ?_|clear U K)<;>conv=>whnf)
  have he:((os++[((c,[]),true)]++FR t).map OI).set os.length ((OI ((c,[]),true)).set 1 (.l (pP vs) false))=(os++FR ((c,vs)::t)).map OI:=by
   rw[LX,LX,LC,List.set_append_right _ _ (by simp),Bc,Nat.sub_self,LX];rfl
  refine AJ ⟨_,⟨by rw[Bc,hol];rfl,vm1,.sl nO lO cO,(c,vs)::t,es4,⟨?_,fun _=>rfl⟩,⟨hx,hi⟩,rfl⟩,?_⟩
  .rw[hct,LC,List.set_append_right _ _ (Ft _),Nat.sub_self]
   rfl
  .have hs3:Sat Z ([.box nM [HF w (Ah w.parents) L,vm1,.sl nO lO cO],.own vm1 1 (uR cur.1),.own (.sl nO lO cO) 2 (((os++[((c,[]),true)]++FR t).map OI).set os.length ((OI ((c,[]),true)).set 1 (.l (pP vs) false)))]++BM L es4):=hs.less (Gg _ _)
   rw[he]at hs3;exact hs3
def gM:Nat->Nat
 | 0=>1+40*0
 | d+1=>1+40*gM d
def YS {w:AF} (ho:w.owner.length<=40) {kf:Int->List Int->Kn} (hsh: ∀a p,2<=p.length->(kf a p).AI= []) (a:Int): ∀(d:Nat) (p:List Int) (z0:Gj),p.length+d=2->(EO w kf a d p z0).2.2.length<=z0.2.length+gM d/\(EO w kf a d p z0).2.1.length<=z0.1.length+gM d
 | 0,p,z0,hp=>Sx ho (fun s hs=>by rw[hsh a p (by omega)]at hs;cases hs) z0
 | d+1,p,z0,hp=>Sx ho (fun s _ z=>YS ho hsh a d (p++[s]) z (by simp;omega)) z0
def j3 (w:AF) (hw:BR w) {kf:Int->List Int->Kn} (hr:DC w kf) (a:Int) {nM L:Nat}: ∀(d:Nat) (p:List Int),p.length+d=2->d<=2->EZ w kf a d p=true-> ∀(z0:Gj) (vm vo:V) (os:List (Ob×Bool)) (es:List Bv),Bj kf es->os.length=z0.2.length->(z0.1.length+gM d<=90000/\z0.2.length+gM d<=90000)->
    BL zP 65 [.p nM 0,B2 a p] (nE w nM L vm vo z0.1 os++BM L es) (rq w kf nM L vo es os z0 (EO w kf a d p z0)):=by
 intro d
 induction d with
 | zero=>
   intro p hp _ hc z0 vm vo os es h hol hb;rw[EO];rw[EZ]at hc;exact Qv w hw hr (by omega) _ _ 0 (by omega) (fun s hs=>by rw[hr.short a p (by omega)]at hs;cases hs) (fun s hs=>by rw[hr.short a p (by omega)]at hs;cases hs) (fun s hs=>by rw[hr.short a p (by omega)]at hs;cases hs) z0 vm vo os es h hol hb (by simpa[Bool.or_assoc]using hc)
 | succ d ih=>
   intro p hp hd hc z0 vm vo os es h hol hb;rw[EO];rw[EZ]at hc
   have hg:gM d<=2000:=by
    rcases d with _|_|d
    .decide
    .decide
    .omega
   exact Qv w hw hr (by omega) _ _ (gM d) hg (fun s _ z=>YS hw.2.1 (fun a p hp=>hr.short a p hp) a d (p++[s]) z (by simp;omega)) (fun s _ L es h=>jK w hw hr a d (p++[s]) (by simp;omega) L es h) (fun s _ hcs z vm vo os es h hol hb=>ih (p++[s]) (by simp;omega) (by omega) hcs z vm vo os es h hol hb) z0 vm vo os es h hol hb (by simpa[Bool.or_assoc]using hc)
end Go.Gl
namespace Go.Gl
open Go.Proofs
attribute [local irreducible] As Ag AY AQ AL AX AP AR AK AW AM AN Ai Ap Sat AT An AZ W
def Nf (w:AF) (f:Fact):Bool:=decide (0<=f.arg)&&(decide (f.arg<3)&&(EH w f.path&&(if f.op=2 then f.n==0&&O1 w f.cls else f.cls==0&&(decide (-1000000000<=f.n)&&decide (f.n<=1000000000)))))
def Es (w:AF) (f:Fact):Int->Int->Bool×Int:=f.Fe fun f l left deep=>
 if IntKind.i64.wrap (left - 1)<0\/deep=0\/f.op<1\/7<f.op\/f.kids.length≠Bp f.op then(false,IntKind.i64.wrap (left - 1))else
 if Be f then(Nf w f,IntKind.i64.wrap (left - 1))else
 if f.arg≠0\/0<f.path.length\/f.cls≠0\/f.n≠0 then(false,IntKind.i64.wrap (left - 1))else
 By (fun(k:Int->Int->Bool×Int) s=>k s (deep - 1)) l (IntKind.i64.wrap (left - 1))
def NC {α β S:Type} (g:α->β) (stp:β->S->Bool×S): ∀(l:List α) (s:S),By stp (l.map g) s=By (fun a s=>stp (g a) s) l s
 | [],_=>rfl
 | a::r,s=>by simp only[CK,By,NC g stp r]
def IM (w:AF) (f:Fact) (left deep:Int):Es w f left deep =
    if IntKind.i64.wrap (left - 1)<0\/deep=0\/f.op<1\/7<f.op\/f.kids.length≠Bp f.op then(false,IntKind.i64.wrap (left - 1))else
    if Be f then(Nf w f,IntKind.i64.wrap (left - 1))else
    if f.arg≠0\/0<f.path.length\/f.cls≠0\/f.n≠0 then(false,IntKind.i64.wrap (left - 1))else
    By (fun k s=>Es w k s (deep - 1)) f.kids (IntKind.i64.wrap (left - 1)):=by
 rw[Es,Fact.CJ,NC];rfl
def Zi {w:AF} {f:Fact} {left deep L1:Int} {b:Bool} {nL:Nat} {Z:AE} (hs:Sat Z [.box nL [eI L1]]) (h:Es w f left deep=(b,L1)):Ag Z (.b b) fun r Z'=> ∃post:List At,(r=R.ret (.b (Es w f left deep).1)/\post= [.box nL [eI (Es w f left deep).2]])/\Sat Z' post:=by
 rw[h];exact AJ ⟨_,⟨rfl,rfl⟩,hs⟩
def oZ (w:AF) (us:List Nat) (hw1:w.parents.length<=60) (hw2:w.owner.length<=60) (nL:Nat) (f:Fact): ∀(left deep:Int),0<=deep->deep<=12->
    BL zP 206 [.rp (wC w us),.a (xF f),.p nL 0,eI deep] [.box nL [eI left]] fun r post=>r= .ret (.b (Es w f left deep).1)/\post= [.box nL [eI (Es w f left deep).2]]:=by
 induction f using Fact.ind with
 | h f ih=>
   intro left deep hd0 hd1 Z hs;refine As.fit (by kernel_rfl) fun hf=>?_
   have⟨h2,h3,h4⟩:=JL hf.2.1;have hM:=Mx;have hdw:IntKind.i64.wrap (deep - 1)=deep - 1:=wrap64 (by omega) (by omega);refine wc kZ ?_
   have hstep:Cw zP (.f (.func 275) [] [.rp [.rp (wC w us)],.rp [.p nL 0],.rp [eI deep]]) (fun y=> .a (xF y)) (fun s=>[.box nL [eI s]]) (fun k s=>Es w k s (deep - 1)) (fun y _=>y∈f.kids/\deep≠0):=by
    rintro y s ⟨hy,hdn⟩ Z hs;refine A0 ?_;show As zP 275 ([]++[.a (xF y)]++[.rp [.rp (wC w us)],.rp [.p nL 0],.rp [eI deep]]) Z _;refine vX kZ ?_;refine zz ?_;(repeat clear U K);repeat intro K U
    rw[hdw];refine(ih y hy s (deep - 1) (by omega) (by omega)).use (rest:=[]) hs ?_;rintro r post Z ⟨rfl,rfl⟩ hs;refine zz ?_;(repeat clear U K);repeat intro K U
    exact AJ ⟨rfl,hs⟩
   conv=>whnf
   repeat'((first|clear U K|apply st|(apply zk;intro K U)|refine zY ?_|refine rk ?_ ?_|exact fun s e=>by cases e;rfl|refine zs fun Z hs=>?_|refine Pure.use (PI _) ?_|refine Pure.use (o8 _) ?_|refine Pure.use (mA w us _ hw1) ?_|refine Pure.use (oL w us _ _ hw2) ?_|(refine zd (fun hc=>?_) (fun hc=>?_)<;>try exact⟨⟩)|fail)<;>conv=>whnf)
   all_goals first
    | (refine Zi hs ?_;rw[IM,if_pos (by omega)];done)
    | (refine Zi hs ?_;rw[IM,if_neg (by omega),if_pos (by assumption)];simp[Nf, *];done)
    | (refine Zi hs ?_;rw[IM,if_neg (by omega),if_pos (by assumption)];simp[Nf, *];intros;omega)
    | (refine Zi hs ?_;rw[IM,if_neg (by omega),if_neg (by simp[*]),if_pos (by omega)];done)
    | skip
   refine(jV 275 [] _ _ _ _ hstep f.kids false (IntKind.i64.wrap (left - 1)) h2 (Hs fun y hy _=>⟨hy,by omega⟩)).use (rest:=[]) hs ?_;have hE:=IM w f left deep;rw[if_neg (by omega),if_neg (by simp[*]),if_neg (by omega)]at hE;rw[<-hE];rintro r post Z ⟨rfl,rfl⟩ hs;refine zz ?_;(repeat clear U K);repeat intro K U
   exact AJ ⟨_,⟨rfl,rfl⟩,hs⟩
def JK (w:AF) (f:Fact):Bool:=(Es w f 24 12).1
def eK (w:AF) (us:List Nat) (hw1:w.parents.length<=60) (hw2:w.owner.length<=60) (f:Fact):Pure zP 205 [.a (xF f),.rp [.rp (wC w us)]] (.b (JK w f)):=by
 refine Pure.of ?_;refine we kZ ?_;have hs:=Sn
 conv=>whnf
 repeat'((first|clear U K|apply st|(apply zk;intro K U)|refine zY ?_|refine zs fun Z hs=>?_|refine zo fun nn hnn Z hs=>?_|fail)<;>conv=>whnf)
 refine(oZ w us hw1 hw2 _ f 24 12 (by omega) (by omega)).use (rest:=[]) hs ?_;rintro r post Z ⟨rfl,rfl⟩ hs;refine zz ?_;(repeat clear U K);repeat intro K U
 exact AJ rfl
def qP {g:FuncId} {fi ca:List V} {f:Fact->Bool} {xs:List Fact} (b:Bool) (hl:xs.length<=Ab) (h: ∀y∈xs,Pure zP g (fi++[.a (xF y)]++ca) (.b (f y))):Pure zP 204 [.l (facts xs) b,.f (.func g) fi ca] (.b (xs.all f)):=by
 have:=jV g fi ca (fun _=>[]) (fun y (_:Unit)=>(f y,())) (fun y _=>y∈xs) (fun y s hy Z hs=>A0 (As.mono ((h y hy).use (k:=fun v Z'=>v= .b (f y)/\Sat Z' []) (kp:=fun _ _=>False) ⟨rfl,Sat.nil⟩) (by
  rintro(v|v) Z' hq
  .obtain⟨rfl,h⟩:=hq
   exact⟨rfl,h⟩
  .exact hq.elim))) xs b () hl (Hs fun y hy _=>hy)
 rw[K2]at this;exact Pure.of (As.mono (this emp Sat.nil) fun r Z' ⟨post,⟨h1,h2⟩,h3⟩=>h1)
def eM (w:AF) (us:List Nat) (hw1:w.parents.length<=60) (hw2:w.owner.length<=60) (l:List Fact) (b:Bool) (hl:l.length<=60):Pure zP 121 [.rp (wC w us),.l (facts l) b] (.b (l.all (JK w))):=by
 have hall:=qP (g:=205) (fi:=[]) (ca:=[.rp [.rp (wC w us)]]) (f:=JK w) (xs:=l) b (by simp only[Ab];omega) fun y _=>eK w us hw1 hw2 y
 refine xj kZ ?_;have hs:=Sn;exact zW
def KY (w:AF) (hw:BR w) (l:List Fact) (b:Bool) (hl:l.length<=60):Pure zP 60 [.a (A5 w),.l (facts l) b] (.t [.rp (wC w (Ah w.parents)),.b (l.all (JK w))]):=by
 have hfo:=eM w (Ah w.parents) (by have:=hw.1.1;omega) (by have:=hw.2.1;omega) l b hl;refine AAX kZ ?_;have hs:=Sn
 conv=>whnf
 repeat'((first|clear U K|apply st|(apply zk;intro K U)|refine zY ?_|refine Pure.use (oU w hw) ?_|refine hfo.use ?_|fail)<;>conv=>whnf)
 all_goals exact AG rfl
def fA (w:AF) (hw:BR w) (f:Fact):Pure zP 72 [.a (A5 w),.a (xF f)] (eI (if JK w f then 0 else 2)):=by
 have hfo: ∀b,Pure zP 60 [.a (A5 w),.l [EI f] b] (.t [.rp (wC w (Ah w.parents)),.b (JK w f)]):=fun b=>by
  have:=KY w hw [f] b (by simp);simpa using this
 refine AAO kZ ?_;have hs:=Sn;refine zz ?_;(repeat clear U K);repeat intro K U
 rw[BC]at hfo;refine(hfo _).use ?_
 conv=>whnf
 repeat'((first|clear U K|apply st|(apply zk;intro K U)|refine Pure.use (Yu _) ?_|fail)<;>conv=>whnf)
 exact AG rfl
end Go.Gl
