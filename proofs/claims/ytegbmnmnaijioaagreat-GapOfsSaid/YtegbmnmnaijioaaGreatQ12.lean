import Derived.Test.YtegbmnmnaijioaaGreatQ6
import Derived.Test.YtegbmnmnaijioaaGreatQ11
set_option linter.all false
set_option linter.defProp false
set_option maxHeartbeats 8000000
noncomputable section
namespace Go.Gl
open Go.Proofs
attribute [local irreducible] Au Am Ab AR AK AY AQ AS AJ AX AN AP Ao Az Sat AU Ax Ad W
def H0 {Z:AE} {X:List At} {L:Nat} {pre post:List B5} {e:B5} (h:Sat Z (X++CL L (pre++e::post))):Sat Z (.box e.b [eI e.k.low,eI e.k.high,e.vn,eU e.k.BU,eU e.k.Dt,.b e.k.whole,.b e.k.Ah,e.vs]:: .own e.vn 1 (iL e.k.no):: .own e.vs 1 (iL e.k.AG)::(X++Hy L (pre++e::post) pre post)):=by
 have h2:Sat Z (WO e++(X++Hy L (pre++e::post) pre post)):=h.perm ((List.Perm.append_left X (XA L pre post e)).trans (by rw[<-PD,<-PD];exact NV.append_right _));exact h2
def Ej {Z:AE} {X:List At} {L:Nat} {pre post:List B5} {e e':B5} (h1:e'.a=e.a) (h2:e'.p=e.p) (h3:e'.b=e.b) (h:Sat Z (WO e'++(X++Hy L (pre++e::post) pre post))):Sat Z (X++CL L (pre++e'::post)):=by
 rw[<-VU h1 h2 h3]at h;exact h.perm ((List.Perm.append_left X (XA L pre post e')).trans (by rw[<-PD,<-PD];exact NV.append_right _)).symm
def Jp {α:Type} (a b c:α) (l:List α):(a::b::c::l).Perm (b::c::a::l):=(List.Perm.swap _ _ _).trans (.cons _ (.swap _ _ _))
def OL {α:Type} (a:α) (l:List α):(a::l).Perm (l++[a]):=(List.perm_append_singleton a l).symm
def cT (m:Nat) (k:Kn):Prop:=k.BU<18446744073709551616/\k.Dt<18446744073709551616/\k.no.length<=m/\k.AG.length<=m
def pJ (f:Fact) (c:Bool) (j:Nat) (a:Int) (p:List Int) (k:Kn):(Dq f c j a p k).BU=k.BU:=by unfold Dq;(repeat' split)<;>rfl
def uO (f:Fact) (c:Bool) (j:Nat) (a:Int) (p:List Int) (k:Kn):(Dq f c j a p k).Dt=k.Dt:=by unfold Dq;(repeat' split)<;>rfl
def AAg (f:Fact) (c:Bool) (j:Nat) (a:Int) (p:List Int) (k:Kn):(Dq f c j a p k).no=k.no:=by unfold Dq;(repeat' split)<;>rfl
def lU (f:Fact) (c:Bool) (j:Nat) (a:Int) (p:List Int) (k:Kn):(Dq f c j a p k).AG.length<=k.AG.length+1:=by
 unfold Dq
 repeat' split
 .exact T8 _ _
 all_goals simp[Bz]
def AAf {m:Nat} {k:Kn} (h:cT m k) (f:Fact) (c:Bool) (j:Nat) (a:Int) (p:List Int):cT (m+1) (Dq f c j a p k):=by
 obtain⟨h1,h2,h3,h4⟩:=h;refine⟨by rw[pJ];exact h1,by rw[uO];exact h2,by rw[AAg];omega,?_⟩;have:=lU f c j a p k;omega
def Kk {k:Kn} (c:Bool) (h:k.Ah=true):Bz k c= {k with Ah:=true}:=by simp[Bz,h]
def I0 {k:Kn} (c:Bool) (h:k.Ah=false):Bz k c= {k with Ah:= !c}:=by simp[Bz,h]
abbrev GD (a:Int) (p:List Int):List V:=[eI a,eI (p.length:Int),eI (p.getD 0 0),eI (p.getD 1 0)]
structure iB (f:Fact):Prop where
 op:f.op=2\/f.op=3\/f.op=4
 path:f.path.length<=2
 cls:f.op=2->0<=f.cls/\f.cls<64
 n: -1000000000<=f.n/\f.n<=1000000000
def rA (w : AH) (us:List Nat) {kf:Int->List Int->Kn} {L:Nat} {es:List B5} (h:B9 kf es) (f:Fact) (c:Bool) (hl:iB f) {m:Nat} (hm:m<1000) (hb: ∀a p,cT m (kf a p)) :
    BT zP 193 [Vm w us L,.a (xF f++[.b c])] (CL L es) fun r post=>r= .ret (.t [])/\ ∃es',B9 (fun a p=>if a=f.arg/\p=f.path then By (Dq f c f.path.length a p (kf a p)) f c else Dq f c f.path.length a p (kf a p)) es'/\post=CL L es':=by
 intro Z hs;have hM:=Mx;obtain⟨l1,l2,l3,l4⟩:=hl;refine xx kZ ?_;rw[show xF f++[V.b c]= [eI f.op,eI f.arg,.l (iL f.path) false,eI f.cls,eI f.n,.l (f.kids.map FY) false,.b c] from rfl]
 conv=>whnf
 repeat'((first|clear U K|apply st|(apply zk;intro K U)|refine zY ?_|refine zs fun Z hs=>?_|refine zo fun nn hnn Z hs=>?_|fail)<;>conv=>whnf)
 generalize nn=nx at *;refine(ML w us h (a:=f.arg) (p:=[]) (by simp)).use (rest:=[.box nx (GD f.arg [])]) (hs.perm (OL _ _)) ?_;clear hs hnn;rintro r post Z ⟨es1,e1,got,rfl,rfl⟩ hs;have hek:=got.k;obtain⟨hea,hep⟩:=Gn.1 got.is;obtain⟨pre,post,rfl⟩:=List.append_of_mem got.mem;replace hs:=H0 (X:=[.box nx (GD f.arg [])]) (hs.perm NV);cases hnd:e1.k.Ah<;>rw[hnd]at hs
 all_goals
  conv=>whnf
  repeat'((first|clear U K|apply st|(apply zk;intro K U)|refine zY ?_|refine zs fun Z hs=>?_|fail)<;>conv=>whnf)
  obtain⟨e2,es2,hA,hB,hC⟩: ∃(e2:B5) (es2:List B5),(B9 (fun a p=>Dq f c 0 a p (kf a p)) es2/\e2∈es2/\e2.is f.arg (f.path.take 0)=true)/\e2.b=e1.b/\Sat Z (.box nx (GD f.arg (f.path.take 0))::CL L es2):=by
   refine⟨⟨e1.a,e1.p,e1.b,e1.vn,e1.vs,Bz e1.k c⟩,_,⟨(got.inv.change e1.b e1.vn e1.vs (Bz e1.k c)).congr fun a p=>?_,Od _ (.head _),got.is⟩,rfl,?_⟩
   .rw[pG,NY,hea,hep,hek]
    by_cases ha:a=f.arg/\p= []
    .rw[if_pos ha,if_pos ha,ha.1,ha.2]
    .rw[if_neg ha,if_neg ha]
   .refine Ej (X:=[.box nx (GD f.arg [])]) (e:=e1) rfl rfl rfl ?_
    first
     | (rw[Kk c hnd];exact hs)
     | (rw[I0 c hnd];exact hs)
  rw[<-hB];clear hs hnd got hek hea hep;refine Bw f.path.length (fun j (x:List B5×B5)=>[(31,eI (A6 j)),(5,.p x.2.b 0)]) (fun j x=> .box nx (GD f.arg (f.path.take j))::CL L x.1) (fun j x=>B9 (fun a p=>Dq f c j a p (kf a p)) x.1/\x.2∈x.1/\x.2.is f.arg (f.path.take j)=true) (es2,e2) rfl hA hC ?_;clear hA hC;generalize e2.b=b0 at *;clear hB e2 es2;rintro j ⟨es2,e2⟩ Z hj ⟨hinv,hmem,his⟩ hs;simp only at hinv hmem his hs
  have hek:e2.k=Dq f c j f.arg (f.path.take j) (kf f.arg (f.path.take j)):=by
   have:=hinv.val e2 hmem;obtain⟨h1,h2⟩:=Gn.1 his;rw[this,h1,h2]
  have hok:cT (m+1) e2.k:=by rw[hek];exact AAf (hb _ _) f c j _ _
  obtain⟨hea,hep⟩:=Gn.1 his;obtain⟨pre2,post2,rfl⟩:=List.append_of_mem hmem;replace hs:=H0 (X:=[.box nx (GD f.arg (f.path.take j))]) hs;have hck:A6 j=j:=Ae (by omega);rcases A7 f.path hj with⟨s,hsj,hjlt⟩|hje
  .have hct:=fun b=>C1 e2.k.AG b s
   have hk4:=hok.2.2.2;have hsl0:fv e2.k s= {e2.k with AG:=JR e2.k.AG s}:=rfl
   have hne:f.path.take j++[s]≠f.path.take j:=by
    intro e;have:=congrArg List.length e;simp at this
   have hgd:f.path.getD j 0=s:=by rw[C4,hsj];rfl
   have htk:f.path.take (j+1)=f.path.take j++[s]:=AO hsj;cases hcB:e2.k.AG.contains s
   all_goals
    rw[hcB]at hct
    conv=>whnf
    repeat'((first|clear U K|apply st|(apply zk;intro K U)|refine zY ?_|refine zs fun Z hs=>?_|refine aq fun v Z hs hsl=>?_|refine Pure.L7 (hct false) (.cons (hs.GC 2 rfl) (.cons (.refl _) .nil)) rfl ?_|refine Pure.use (Pk f.arg (f.path.take j) s (by rw[Jd];omega)) ?_|fail)<;>conv=>whnf)
   refine(gb (.inl hsl)).use (rest:=_) (hs.front (j:=2) rfl) ?_;clear hs;rintro r post Z ⟨rfl,rfl⟩ hs;replace hs:Sat Z (.box e2.b [eI e2.k.low,eI e2.k.high,e2.vn,eU e2.k.BU,eU e2.k.Dt,.b e2.k.whole,.b e2.k.Ah,v]:: .own e2.vn 1 (iL e2.k.no):: .own v 1 (iL ((e2.k.AG++[s]).mergeSort Hn))::([.box nx (GD f.arg (f.path.take j))]++Hy L (pre2++e2::post2) pre2 post2)):=hs.perm (Jp _ _ _ _)
   conv=>whnf
   repeat'((first|clear U K|apply st|(apply zk;intro K U)|refine zY ?_|refine zs fun Z hs=>?_|refine Pure.use (Pk f.arg (f.path.take j) s (by rw[Jd];omega)) ?_|fail)<;>conv=>whnf)
   have hs3: ∃vs3,Sat Z (.box nx (GD f.arg (f.path.take j++[s]))::CL L (pre2++⟨e2.a,e2.p,e2.b,e2.vn,vs3,fv e2.k s⟩::post2)):=⟨v,Ej (X:=[_]) (e:=e2) rfl rfl rfl (by rw[hsl0,JR,if_neg (by rw[hcB];decide)];exact hs)⟩
   rotate_left
   have hs3: ∃vs3,Sat Z (.box nx (GD f.arg (f.path.take j++[s]))::CL L (pre2++⟨e2.a,e2.p,e2.b,e2.vn,vs3,fv e2.k s⟩::post2)):=⟨e2.vs,Ej (X:=[_]) (e:=e2) rfl rfl rfl (by rw[hsl0,JR,if_pos hcB];exact hs)⟩
   all_goals
    clear hs;obtain⟨vs3,hs⟩:=hs3;have hinv3:=hinv.change e2.b e2.vn vs3 (fv e2.k s);refine(ML w us hinv3 (a:=f.arg) (p:=f.path.take j++[s]) (by rw[NW,Jd];simp;omega)).use (rest:=[.box nx (GD f.arg (f.path.take j++[s]))]) (hs.perm (OL _ _)) ?_;clear hs;rintro r post Z ⟨es4,e4,got,rfl,rfl⟩ hs;have hek4:=got.k;obtain⟨hea4,hep4⟩:=Gn.1 got.is;obtain⟨pre4,post4,rfl⟩:=List.append_of_mem got.mem;replace hs:=H0 (X:=[.box nx (GD f.arg (f.path.take j++[s]))]) (hs.perm NV);cases hnd:e4.k.Ah<;>rw[hnd]at hs
    all_goals
     conv=>whnf
     repeat'((first|clear U K|apply st|(apply zk;intro K U)|refine zY ?_|refine zs fun Z hs=>?_|fail)<;>conv=>whnf)
     refine⟨hjlt,(pre4++⟨e4.a,e4.p,e4.b,e4.vn,e4.vs,Bz e4.k c⟩::post4,⟨e4.a,e4.p,e4.b,e4.vn,e4.vs,Bz e4.k c⟩),rfl,⟨(got.inv.change e4.b e4.vn e4.vs (Bz e4.k c)).congr fun a p=>?_,Od _ (.head _),by rw[htk];exact got.is⟩,?_⟩
     .rw[pH f c hjlt,NY,hea4,hep4,htk,hgd]
      by_cases h1:a=f.arg/\p=f.path.take j++[s]
      .rw[if_pos h1,if_pos h1,hek4,NY,hea,hep,if_neg (fun h=>hne h.2),h1.1,h1.2]
      .rw[if_neg h1,if_neg h1,NY,hea,hep]
       by_cases h2:a=f.arg/\p=f.path.take j
       .rw[if_pos h2,if_pos h2,hek,h2.1,h2.2]
       .rw[if_neg h2,if_neg h2]
     .rw[htk]
      refine Ej (X:=[.box nx (GD f.arg (f.path.take j++[s]))]) (e:=e4) rfl rfl rfl ?_
      first
       | (rw[Kk c hnd];exact hs)
       | (rw[I0 c hnd];exact hs)
  .have etk:f.path.take j=f.path:=Aq hje
   rw[etk]at his hs hek hep;refine zz ?_;(repeat clear U K);repeat intro K U
   refine(yu f c l1 l3 hok.1 hok.2.1 (by have:=hok.2.2.1;omega) l4).use (rest:=[.box nx (GD f.arg f.path)]++Hy L (pre2++e2::post2) pre2 post2) hs ?_;rintro r post Z ⟨rfl,vn',rfl⟩ hs
   conv=>whnf
   repeat'((first|clear U K|apply st|fail)<;>conv=>whnf)
   refine AI ⟨_,⟨rfl,_,(hinv.change e2.b vn' e2.vs (By e2.k f c)).congr fun a p=>?_,rfl⟩,(Ej (X:=[.box nx (GD f.arg f.path)]) (e:=e2) (e':=⟨e2.a,e2.p,e2.b,vn',e2.vs,By e2.k f c⟩) rfl rfl rfl hs).less (Ku _ _)⟩;rw[NY,hea,hep,hek,<-hje];by_cases h1:a=f.arg/\p=f.path
   .rw[if_pos h1,if_pos h1,h1.1,h1.2]
   .rw[if_neg h1,if_neg h1]
def yy (w:AH) (us:List Nat) {kf:Int->List Int->Kn} {L:Nat} {es:List B5} (h:B9 kf es) (l:Fact) (hl:iB (Af l).1) {m:Nat} (hm:m<1000) (hb: ∀a p,cT m (kf a p)) :
    BT zP 193 [Vm w us L,.a (Jb l)] (CL L es) fun r post=>r= .ret (.t [])/\ ∃es',B9 (fun a p=>Cz a p (kf a p) l) es'/\post=CL L es':=fun Z hs=>
 Au.mono (rA w us h (Af l).1 (Af l).2 hl hm hb Z hs) fun r Z' ⟨post,⟨h1,es',h2,h3⟩,h4⟩=>⟨post,⟨h1,es',h2.congr fun a p=>(uP a p (kf a p) l).symm,h3⟩,h4⟩
def N1 (ls:List Fact):Prop:= ∀l∈ls,iB (Af l).1
def il {ls:List Fact} (h:N1 ls) (a:Int) (p:List Int):cT ls.length (kn ls a p):=by
 have hc:G6 64 ls:=fun l hl ho=>(h l hl).cls ho
 obtain⟨h1,h2⟩:=pM hc a p;obtain⟨h3,h4⟩:=im a p ls k0;exact⟨by simpa using h1,by simpa using h2,by simpa[kn,k0]using h3,by simpa[kn,k0]using h4⟩
def inv0:B9 (kn []) []:=⟨fun x hx=>(by cases hx),fun a p _=>rfl,.nil,fun x hx=>(by cases hx)⟩
def kR (w:AH) (us:List Nat) (ls:List Fact) (b:Bool) (h:N1 ls) (hlen:ls.length<900) :
    BT zP 128 [.rp (wC w us),.l (Dx ls) b] [] fun r post=> ∃L es,r= .ret (Vm w us L)/\B9 (kn ls) es/\post=CL L es:=by
 intro Z hs;have hM:=Mx;refine yZ kZ ?_
 conv=>whnf
 repeat'((first|clear U K|apply st|(apply zk;intro K U)|refine zo fun nn hnn Z hs=>?_|fail)<;>conv=>whnf)
 generalize nn=L at *;refine Bw ls.length (fun k (x:List B5)=>[(14,eI (A6 k))]) (fun k x=>CL L x) (fun k x=>B9 (kn (ls.take k)) x) [] rfl inv0 hs ?_;clear hs hnn;rintro k es Z hk hinv hs;rcases A7 ls hk with⟨l,hlk,hlt⟩|hke
 .have hlm:l∈ls:=Bo hlk
  have htk:ls.take (k+1)=ls.take k++[l]:=AO hlk;have hbk: ∀a p,cT (ls.take k).length (kn (ls.take k) a p):=il fun x hx=>h x (List.mem_of_mem_take hx)
  conv=>whnf
  repeat'((first|clear U K|apply st|(apply zk;intro K U)|refine zY ?_|refine zs fun Z hs=>?_|refine zo fun nn hnn Z hs=>?_|fail)<;>conv=>whnf)
  rename_i nb hnb _ hs;generalize nn=n7 at *;refine(yy w us hinv l (h l hlm) (m:=(ls.take k).length) (by rw[Jd];omega) hbk).use (rest:=[.box n7 (Jb l)]) (hs.perm (OL _ _)) ?_;clear hs;rintro r post Z ⟨rfl,es',hinv',rfl⟩ hs;refine zz ?_;(repeat clear U K);repeat intro K U
  refine⟨hlt,es',rfl,?_,hs.less (List.sublist_append_left _ _)⟩;rw[htk];exact hinv'.congr fun a p=>(pK _ _ _ _).symm
 .have etk:ls.take k=ls:=Aq hke
  rw[etk]at hinv;refine zz ?_;(repeat clear U K);repeat intro K U
  exact AI ⟨_,⟨L,es,rfl,hinv,rfl⟩,hs⟩
structure FC (w:AH) (kf:Int->List Int->Kn):Prop where
 ok: ∀a p,cT 1000 (kf a p)
 low: ∀a p,-1000000000<=(kf a p).low/\(kf a p).low<=1000000000
 short: ∀a p,2<=p.length->(kf a p).AG= []
 AG: ∀a p,∀s∈(kf a p).AG,0<=s/\s<w.owner.length
abbrev Hx (L:Nat) (pre post:List B5) (e:B5) (s:List B5):List At:=
 .box e.b [eI e.k.low,eI e.k.high,e.vn,eU e.k.BU,eU e.k.Dt,.b e.k.whole,.b e.k.Ah,e.vs]:: .own e.vn 1 (iL e.k.no)::Hy L (pre++e::(post++s)) pre (post++s)
def zf {Z:AE} {L:Nat} {pre post:List B5} {e:B5} {s:List B5} (h:Sat Z (CL L (pre++e::(post++s)))):Sat Z (.own e.vs 1 (iL e.k.AG)::Hx L pre post e s):=
 (H0 (X:=[]) h).perm ((Jp _ _ _ _).symm)
def sm {Z:AE} {L:Nat} {pre post:List B5} {e:B5} {s:List B5} (h:Sat Z (.own e.vs 1 (iL e.k.AG)::Hx L pre post e s)):Sat Z (CL L (pre++e::(post++s))):=
 Ej (X:=[]) (e:=e) (e':=e) rfl rfl rfl (h.perm (Jp _ _ _ _))
def QL (kf:Int->List Int->Kn) (L:Nat) (es:List B5) (post:List At):Prop:= ∃es',LR es es'/\B9 kf es'/\post=CL L es'
def qK (w:AH) (us:List Nat) {kf:Int->List Int->Kn} {L:Nat} {pre post:List B5} {e:B5} {a:Int} {p:List Int} (hp:p.length<2) :
    Oq zP (.f (.func 350) [] [.rp [Vm w us L],.rp (GD a p)]) eI (fun s=> .own e.vs 1 (iL e.k.AG)::Hx L pre post e s) (fun y=> !(kf a (p++[y])).Ah) (fun s=>B9 kf (pre++e::(post++s))/\ ∀x∈s,x.k=k0) (fun _=>True):=by
 rintro y s - ⟨hj,hj0⟩ Z hs;refine BN ?_;show Au zP 350 ([]++[eI y]++[.rp [Vm w us L],.rp (GD a p)]) Z _;refine vP kZ ?_
 conv=>whnf
 repeat'((first|clear U K|apply st|(apply zk;intro K U)|refine zY ?_|refine rk ?_ ?_|exact fun s e=>by cases e;rfl|refine Pure.use (Pk a p y hp) ?_|fail)<;>conv=>whnf)
 refine(ML w us hj (a:=a) (p:=p++[y]) (by simp;omega)).use (rest:=[]) (by simpa using sm hs) ?_;clear hs;rintro r post' Z ⟨es4,e4,got,rfl,rfl⟩ hs;have hek4:=got.k;obtain⟨new,he4,hnew⟩:=got.ext;have hinv:=got.inv;obtain⟨pre4,post4,he5⟩:=List.append_of_mem got.mem;rw[GA,he5]at hs;replace hs:=H0 (X:=[]) hs;refine zz ?_;(repeat clear U K);repeat intro K U
 refine AI ⟨by rw[hek4],s++new,⟨?_,fun x hx=>?_⟩,?_⟩
 .rw[he4]at hinv
  simpa using hinv
 .rcases Du.1 hx with hx|hx
  .exact hj0 x hx
  .exact hnew x hx
 .have h2:=Ej (X:=[]) (e:=e4) (e':=e4) rfl rfl rfl hs
  rw[<-he5,he4]at h2;refine zf ?_;simpa using h2
def qL (w:AH) (us:List Nat) {kf:Int->List Int->Kn} (hr:FC w kf) {L:Nat} {es:List B5} (h:B9 kf es) {a:Int} {p:List Int} (hp:p.length<=2) :
    BT zP 316 [Vm w us L,Cd a p] (CL L es) fun r post=>r= .ret (.b (H3 kf a p))/\QL kf L es post:=by
 intro Z hs;have hM:=Mx;refine wD kZ ?_;refine zz ?_;(repeat clear U K);repeat intro K U
 refine(ML w us h (a:=a) (p:=p) hp).use (rest:=[]) (by simpa using hs) ?_;clear hs;rintro r post Z ⟨es4,e4,got,rfl,rfl⟩ hs;have hek:=got.k;obtain⟨pre,post,rfl⟩:=List.append_of_mem got.mem;rw[GA]at hs;replace hs:=H0 (X:=[]) hs;have hsl:=(hr.ok a p).2.2.2;have hsh:=hr.short a p;rw[<-hek]at hsl hsh
 have hst:p.length<2\/e4.k.AG= []:=by
  rcases Nat.lt_or_ge p.length 2 with h'|h'
  .exact .inl h'
  .exact .inr (hsh h')
 have hE:H3 kf a p=e4.k.AG.all fun y=> !(kf a (p++[y])).Ah:=by rw[H3,hek]
 refine zz ?_;(repeat clear U K);repeat intro K U
 have hall:BT zP 246 [e4.vs,.f (.func 350) [] [.rp [Vm w us L],.rp (GD a p)]] (.own e4.vs 1 (iL e4.k.AG)::Hx L pre post e4 []) fun r post'=>r= .ret (.b (e4.k.AG.all fun y=> !(kf a (p++[y])).Ah))/\ ∃s',(B9 kf (pre++e4::(post++s'))/\ ∀x∈s',x.k=k0)/\post'= .own e4.vs 1 (iL e4.k.AG)::Hx L pre post e4 s':=by
  rcases hst with h'|h'
  .exact cD 350 [] [.rp [Vm w us L],.rp (GD a p)] (Hx L pre post e4) _ _ _ (qK w us h') (fun _ _=>trivial) (by omega) [] ⟨by simpa using got.inv,by simp⟩
  .exact cD 350 [] [.rp [Vm w us L],.rp (GD a p)] (Hx L pre post e4) _ _ (fun _=>False) (fun y s hf=>hf.elim) (fun x hx=>by rw[h']at hx;cases hx) (by omega) [] ⟨by simpa using got.inv,by simp⟩
 refine hall.use (rest:=[]) (by
  have h2:=zf (L:=L) (pre:=pre) (post:=post) (e:=e4) (s:=[]) (by simpa using Ej (X:=[]) (e:=e4) (e':=e4) rfl rfl rfl hs)
  simpa using h2) ?_
 clear hs;rintro r post' Z ⟨rfl,s',⟨hi,hn⟩,rfl⟩ hs;refine zz ?_;(repeat clear U K);repeat intro K U
 refine AI ⟨_,⟨by rw[hE],pre++e4::(post++s'),got.ext.trans ⟨s',by simp,hn⟩,hi,rfl⟩,sm (by simpa using hs)⟩
def M8 {m u:Nat} (hm:m<18446744073709551616):(ME m u=0)↔Hp m u=true:=by
 rw[Mi (by simpa using hm)];constructor
 .intro h b hb
  have hlt:b<64:=by
   rcases Nat.lt_or_ge b 64 with h'|h'
   .exact h'
   .rw[Nat.testBit_lt_two_pow (Nat.lt_of_lt_of_le hm (by simpa using Nat.pow_le_pow_right (n:=2) (by decide) h'))]at hb;cases hb
  have:=RI (a:=m) (b:=u) hlt;rw[h,Nat.zero_testBit,hb]at this;simpa using this
 .intro h
  refine Nat.eq_of_testBit_eq fun i=>?_
  rw[Nat.zero_testBit];rcases Nat.lt_or_ge i 64 with hlt|hge
  .rw[RI hlt]
   cases hb:m.testBit i with
   | false=>rfl
   | true=>rw[h i hb];rfl
  .exact Nat.testBit_lt_two_pow (Nat.lt_of_lt_of_le (VR _ _) (by simpa using Nat.pow_le_pow_right (n:=2) (by decide) hge))
def Wy (w:AH) (us:List Nat) {kf:Int->List Int->Kn} (hr:FC w kf) {L:Nat} {es:List B5} (h:B9 kf es) {a:Int} {p:List Int} (hp:p.length<=2) (c:Nat) (hc:c<64) :
    BT zP 270 [Vm w us L,Cd a p,eI c] (CL L es) fun r post=>r= .ret (.b (Ed kf a p c))/\QL kf L es post:=by
 intro Z hs;refine wy kZ ?_;refine zz ?_;(repeat clear U K);repeat intro K U
 refine(ML w us h (a:=a) (p:=p) hp).use (rest:=[]) (by simpa using hs) ?_;clear hs;rintro r post Z ⟨es4,e4,got,rfl,rfl⟩ hs;have hek:=got.k;obtain⟨pre,post,rfl⟩:=List.append_of_mem got.mem;rw[GA]at hs;replace hs:=H0 (X:=[]) hs;have hok:=hr.ok a p;rw[<-hek]at hok;have hu:1|||2 ^ c<18446744073709551616:=K3 (by decide) (Ie hc)
 have hb1:bits .andNot .u64 (e4.k.BU:Int) ((1|||2 ^ c:Nat):Int)=((ME e4.k.BU (1|||2 ^ c):Nat):Int):=IU;have hb2:bits .and .u64 (e4.k.Dt:Int) ((1|||2 ^ c:Nat):Int)=((e4.k.Dt&&&(1|||2 ^ c):Nat):Int):=F7 hok.2.1 hu;have hb3:=M8 (u:=1|||2 ^ c) hok.1;have hP:Ed kf a p c=(Hp e4.k.BU (1|||2 ^ c)&&(e4.k.Dt&&&(1|||2 ^ c)==0&&H3 kf a p)):=by rw[Ed,hek]
 conv=>whnf
 repeat'((first|clear U K|apply st|(apply zk;intro K U)|refine zY ?_|refine Pure.use (aJ 1 c (by decide) hc) ?_|refine za (fun hc=>?_) fun hc=>?_|fail)<;>conv=>whnf)
 .have h1:Hp e4.k.BU (1|||2 ^ c)=true:=hb3.1 (by omega)
  have h2:(e4.k.Dt&&&(1|||2 ^ c)==0)=true:=by rw[DD];omega
  refine(qL w us hr got.inv hp).use (rest:=[]) (by simpa using Ej (X:=[]) (e:=e4) (e':=e4) rfl rfl rfl hs) ?_;clear hs;rintro r post' Z ⟨rfl,es5,hx,hi,rfl⟩ hs;refine zz ?_;(repeat clear U K);repeat intro K U
  exact AI ⟨_,⟨by rw[hP,h1,h2];rfl,es5,got.ext.trans hx,hi,rfl⟩,by simpa using hs⟩
 .have h2:(e4.k.Dt&&&(1|||2 ^ c)==0)=false:=by rw[beq_eq_false_iff_ne];omega
  exact AI ⟨_,⟨by rw[hP,h2];simp,_,got.ext,got.inv,rfl⟩,by simpa using Ej (X:=[]) (e:=e4) (e':=e4) rfl rfl rfl hs⟩
 .have h1:Hp e4.k.BU (1|||2 ^ c)=false:=by
   rw[<-Bool.not_eq_true,<-hb3];omega
  exact AI ⟨_,⟨by rw[hP,h1];simp,_,got.ext,got.inv,rfl⟩,by simpa using Ej (X:=[]) (e:=e4) (e':=e4) rfl rfl rfl hs⟩
def Rv (w:AH) (us:List Nat) {kf:Int->List Int->Kn} (hr:FC w kf) {L:Nat} {es:List B5} (h:B9 kf es) {a:Int} {p:List Int} (hp:p.length<=2) :
    BT zP 194 [Vm w us L,Cd a p] (CL L es) fun r post=>r= .ret (.t [eI (Eh (kf a p)),.b (Hs kf a p)])/\QL kf L es post:=by
 intro Z hs;have hM:=Mx;refine xw kZ ?_;refine zz ?_;(repeat clear U K);repeat intro K U
 refine(ML w us h (a:=a) (p:=p) hp).use (rest:=[]) (by simpa using hs) ?_;clear hs;rintro r post Z ⟨es4,e4,got,rfl,rfl⟩ hs;have hek:=got.k;obtain⟨pre,post,rfl⟩:=List.append_of_mem got.mem;rw[GA]at hs;replace hs:=H0 (X:=[]) hs;have hok:=hr.ok a p;have hlo:=hr.low a p;rw[<-hek]at hok hlo;have hno:=hok.2.2.1;have hle:=VJ e4.k.no e4.k.low;have hL:Eh (kf a p)=G4 e4.k.no (from_ e4.k.no e4.k.low) e4.k.low:=by rw[Eh,<-hek];exact Pz hle (IW _)
 refine zz ?_;(repeat clear U K);repeat intro K U
 refine D1 (fun n:Int=>from_ e4.k.no n) (fun n=>[(7,eI n)]) (fun _=> .box e4.b [eI e4.k.low,eI e4.k.high,e4.vn,eU e4.k.BU,eU e4.k.Dt,.b e4.k.whole,.b e4.k.Ah,e4.vs]:: .own e4.vn 1 (iL e4.k.no):: .own e4.vs 1 (iL e4.k.AG)::([]++Hy L (pre++e4::post) pre post)) (fun n=> -1000000000<=n/\n+from_ e4.k.no n<=1000001000/\Eh (kf a p)=G4 e4.k.no (from_ e4.k.no n) n) e4.k.low rfl ⟨by omega,by omega,hL⟩ hs ?_;clear hs hL hle;rintro n Z ⟨hn0,hn1,hL⟩ hs;have hct2:=fun b=>C1 e4.k.no b n
 cases hcB:e4.k.no.contains n<;>rw[hcB]at hct2
 .have hout:n∉e4.k.no:=by simpa using hcB
  rw[cE hout]at hL;have hI:Hs kf a p=(decide (n<=e4.k.high)&&Ed kf a p 1):=by rw[Hs,hL,hek]
  conv=>whnf
  repeat'((first|clear U K|apply st|(apply zk;intro K U)|refine zY ?_|refine Pure.L7 (hct2 false) (.cons (hs.GC 1 rfl) (.cons (.refl _) .nil)) rfl ?_|refine za (fun hc=>?_) fun hc=>?_|fail)<;>conv=>whnf)
  all_goals
   have hsc:Sat Z (CL L (pre++e4::post)):=by simpa using Ej (X:=[]) (e:=e4) (e':=e4) rfl rfl rfl hs
  .refine(Wy w us hr got.inv hp 1 (by decide)).use (rest:=[]) (by simpa using hsc) ?_
   clear hs hsc;rintro r post' Z ⟨rfl,es5,hx,hi,rfl⟩ hs;refine zz ?_;(repeat clear U K);repeat intro K U
   exact AI ⟨_,⟨by rw[hL,hI,decide_eq_true (by assumption)];rfl,es5,got.ext.trans hx,hi,rfl⟩,by simpa using hs⟩
  .exact AI ⟨_,⟨by rw[hL,hI,decide_eq_false (by omega)];rfl,_,got.ext,got.inv,rfl⟩,hsc⟩
 .have hin:n∈e4.k.no:=by simpa using hcB
  have hlt:=Pt hin;have hwr:IntKind.i64.wrap (n+1)=n+1:=wrap64 (by omega) (by omega);obtain⟨m,hm⟩: ∃m,from_ e4.k.no n=m+1:=⟨from_ e4.k.no n - 1,by omega⟩
  have hL2:Eh (kf a p)=G4 e4.k.no (from_ e4.k.no (n+1)) (n+1):=by rw[hL,hm,jk hin];exact Pz (by omega) (IW _)
  conv=>whnf
  repeat'((first|clear U K|apply st|(apply zk;intro K U)|refine zY ?_|refine Pure.L7 (hct2 false) (.cons (hs.GC 1 rfl) (.cons (.refl _) .nil)) rfl ?_|fail)<;>conv=>whnf)
  exact⟨n+1,hlt,by rw[hwr];rfl,⟨by omega,by omega,hL2⟩,hs⟩
def a8 (w:AH) (us:List Nat) {kf:Int->List Int->Kn} (hr:FC w kf) {L:Nat} {es:List B5} (h:B9 kf es) {a:Int} {p:List Int} (hp:p.length<=2) :
    BT zP 195 [Vm w us L,Cd a p] (CL L es) fun r post=>r= .ret (.b (Et kf a p))/\QL kf L es post:=by
 intro Z hs;refine xv kZ ?_;refine zz ?_;(repeat clear U K);repeat intro K U
 refine(ML w us h (a:=a) (p:=p) hp).use (rest:=[]) (by simpa using hs) ?_;clear hs;rintro r post Z ⟨es4,e4,got,rfl,rfl⟩ hs;have hek:=got.k;obtain⟨pre,post,rfl⟩:=List.append_of_mem got.mem;rw[GA]at hs;have hsc:=hs;replace hs:=H0 (X:=[]) hs;have hN:Et kf a p=(!e4.k.whole&&Ed kf a p 2):=by rw[Et,hek]
 cases hw:e4.k.whole<;>rw[hw]at hs hN
 .refine zz ?_;(repeat clear U K);repeat intro K U
  refine(Wy w us hr got.inv hp 2 (by decide)).use (rest:=[]) (by simpa using hsc) ?_;clear hs hsc;rintro r post' Z ⟨rfl,es5,hx,hi,rfl⟩ hs;refine zz ?_;(repeat clear U K);repeat intro K U
  exact AI ⟨_,⟨by rw[hN];rfl,es5,got.ext.trans hx,hi,rfl⟩,by simpa using hs⟩
 .refine zz ?_;(repeat clear U K);repeat intro K U
  exact AI ⟨_,⟨by rw[hN];rfl,_,got.ext,got.inv,rfl⟩,hsc⟩
def UY {Z:AE} {X:List At} {L:Nat} {pre post:List B5} {e:B5} {s:List B5} (h:Sat Z (X++CL L (pre++e::(post++s)))):Sat Z (.own e.vs 1 (iL e.k.AG)::(X++Hx L pre post e s)):=by
 have h2:=H0 h;refine h2.perm ((Jp _ _ _ _).symm.trans (.cons _ ?_));exact(List.perm_middle.trans (.cons _ List.perm_middle)).symm
def qc {Z:AE} {X:List At} {L:Nat} {pre post:List B5} {e:B5} {s:List B5} (h:Sat Z (.own e.vs 1 (iL e.k.AG)::(X++Hx L pre post e s))):Sat Z (X++CL L (pre++e::(post++s))):=by
 refine Ej (X:=X) (e:=e) (e':=e) rfl rfl rfl ?_;refine h.perm ?_;refine List.Perm.trans (.cons _ (List.perm_middle.trans (.cons _ List.perm_middle))) ?_;exact Jp _ _ _ _
def pX (s:Nat) (c:Int) (hs0:s<18446744073709551616) (h0:0<=c) (hc:c<64):Pure zP 182 [eU s,eI c] (.b (s.testBit c.toNat)):=by
 have:=Uf s c.toNat hs0 (by omega);rw[Int.toNat_of_nonneg h0]at this;exact this
def mc {m:Nat} (hm:m<18446744073709551616):ME m 1=Ht m:=by
 refine Nat.eq_of_testBit_eq fun i=>?_
 rw[XP];rcases Nat.lt_or_ge i 64 with hlt|hge
 .rw[RI hlt,show(1:Nat)=2 ^ 0 from rfl,Nat.testBit_two_pow]
  congr 2;rw[IZ,Cc,DD];omega
 .have h64:18446744073709551616<=2 ^ i:=by simpa using Nat.pow_le_pow_right (n:=2) (by decide) hge
  rw[Nat.testBit_lt_two_pow (Nat.lt_of_lt_of_le (VR _ _) h64),Nat.testBit_lt_two_pow (Nat.lt_of_lt_of_le hm h64)];rfl
def TR (w : AH) (hw:DB w) {kf:Int->List Int->Kn} (hr:FC w kf) {a:Int} {p:List Int} (hp:p.length<=2) (can:Int->Bool)
    (hcan: ∀s∈(kf a p).AG,∀L es,B9 kf es->BT zP 267 [Vm w (CJ w.parents) L,Cd a (p++[s])] (CL L es) fun r post=>r= .ret (.b (can s))/\QL kf L es post) {L:Nat} {es:List B5} (h:B9 kf es) :
    BT zP 196 [Vm w (CJ w.parents) L,Cd a p] (CL L es) fun r post=>r= .ret (.t [eU (PG w (kf a p) (fun s=>(kf a (p++[s])).Ah) can).1,.b (PG w (kf a p) (fun s=>(kf a (p++[s])).Ah) can).2])/\QL kf L es post:=by
 intro Z hs;have hM:=Mx;generalize hus:CJ w.parents=us at *;refine xu kZ ?_;refine zz ?_;(repeat clear U K);repeat intro K U
 refine(ML w us h (a:=a) (p:=p) hp).use (rest:=[]) (by simpa using hs) ?_;clear hs;rintro r post Z ⟨es4,e4,got,rfl,rfl⟩ hs;have hek:=got.k;obtain⟨pre,post,rfl⟩:=List.append_of_mem got.mem;rw[GA]at hs;have hsc:=hs;replace hs:=H0 (X:=[]) hs;have hok:=hr.ok a p;have hsl:=(hr.ok a p).2.2.2;have hsh:=hr.short a p;have hsw:=hr.AG a p;rw[<-hek]at hok hsl hsh hsw hcan;have hO:PG w (kf a p) (fun s=>(kf a (p++[s])).Ah) can=PG w e4.k (fun s=>(kf a (p++[s])).Ah) can:=by rw[hek]
 have hOn:(e4.k.whole=true\/e4.k.BU.testBit 1=true\/e4.k.BU.testBit 2=true\/e4.k.Dt.testBit 0=true)->PG w (kf a p) (fun s=>(kf a (p++[s])).Ah) can=(0,false):=fun h=>by
  rw[hO,PG,if_pos];rcases h with h|h|h|h<;>rw[h]<;>simp
 have hOy:e4.k.whole=false->e4.k.BU.testBit 1=false->e4.k.BU.testBit 2=false->e4.k.Dt.testBit 0=false->PG w (kf a p) (fun s=>(kf a (p++[s])).Ah) can=match JN w (fun s=>(kf a (p++[s])).Ah) can e4.k.AG (e4.k.BU,e4.k.Dt)with
  | none=>(0,false)
  | some u=>(Ht (Dm (CJ w.parents) w.parents.length u.1),Ht (Dm (CJ w.parents) w.parents.length u.1)&&&u.2==0):=fun h1 h2 h3 h4=>by
  rw[hO,PG,h1,h2,h3,h4];rfl
 clear hO;cases hb0:e4.k.whole<;>rw[hb0]at hs
 rotate_left
 .refine zz ?_;(repeat clear U K);repeat intro K U
  exact AI ⟨_,⟨by rw[hOn (.inl hb0)];rfl,_,got.ext,got.inv,rfl⟩,hsc⟩
 .conv => whnf
  repeat'((first|clear U K|apply st|(apply zk;intro K U)|refine zY ?_|refine Pure.use (Uf e4.k.BU 1 hok.1 (by decide)) ?_|refine Pure.use (Uf e4.k.BU 2 hok.1 (by decide)) ?_|refine Pure.use (Uf e4.k.Dt 0 hok.2.1 (by decide)) ?_|refine za (fun hc=>?_) fun hc=>?_|fail)<;>conv=>whnf)
  all_goals first
   | exact AI ⟨_,⟨by rw[hOn (by first|exact .inl (by assumption)|exact .inr (.inl (by assumption))|exact .inr (.inr (.inl (by assumption)))|exact .inr (.inr (.inr (by assumption))))];rfl,_,got.ext,got.inv,rfl⟩,hsc⟩
   | skip
  replace hOy:=hOy hb0 (by assumption) (by assumption) (by assumption);clear hOn;generalize hnf:(fun s=>(kf a (p++[s])).Ah)=Ah at *
  have hs1:Sat Z (.own e4.vs 1 (iL e4.k.AG)::Hx L pre post e4 []):=by
   have h2:=UY (X:=[]) (L:=L) (pre:=pre) (post:=post) (e:=e4) (s:=[]) (by simpa using hsc);simpa using h2
  refine Bw e4.k.AG.length (fun k (x:(Nat×Nat)×List B5)=>[(47,eI (A6 k)),(7,eU x.1.1),(8,eU x.1.2)]) (fun k x=> .own e4.vs 1 (iL e4.k.AG)::Hx L pre post e4 x.2) (fun k x=>(x.1.1<18446744073709551616/\x.1.2<18446744073709551616)/\(B9 kf (pre++e4::(post++x.2))/\ ∀y∈x.2,y.k=k0)/\JN w Ah can e4.k.AG (e4.k.BU,e4.k.Dt)=JN w Ah can (e4.k.AG.drop k) x.1) ((e4.k.BU,e4.k.Dt),[]) rfl ⟨⟨hok.1,hok.2.1⟩,⟨by simpa using got.inv,by simp⟩,rfl⟩ hs1 ?_;clear hs hs1 hsc;rintro k ⟨⟨m,no⟩,new⟩ Z hk ⟨⟨hm,hno⟩,⟨hinv,hnew⟩,hF⟩ hs;simp only at hm hno hinv hnew hF hs;have hck:A6 k=k:=Ae (by have:=hok.2.2.2;omega);rcases A7 e4.k.AG hk with⟨s,hsk,hlt⟩|hke
  .have hsm:=Bo hsk
   have hp2:p.length<2:=by
    rcases Nat.lt_or_ge p.length 2 with h'|h'
    .exact h'
    .rw[hsh h']at hsm;cases hsm
   obtain⟨hs0,hs1⟩:=hsw s hsm;rw[drop_cons hsk,JN]at hF
   conv=>whnf
   repeat'((first|clear U K|apply st|(apply zk;intro K U)|refine zY ?_|refine ze fun x hx=>?_|refine zs fun Z hs=>?_|refine Pure.use (Pk a p _ hp2) ?_|refine zo fun nn hnn Z hs=>?_|fail)<;>conv=>whnf)
   obtain rfl:x=s:=by rw[hck,GB,hsk]at hx;exact(Option.some.inj hx).symm
   generalize nn=n7 at *;have hs2:Sat Z ([.box n7 (GD a (p++[x]))]++CL L (pre++e4::(post++new))):=qc (X:=[.box n7 (GD a (p++[x]))]) (hs.perm (.swap _ _ _));clear hs;obtain⟨o,ho⟩: ∃o,w.owner[x.toNat]? =some o:=⟨_,Cr (by omega)⟩
   have hoI:B4 w x=o:=by simp only[B4,C4,ho];rfl
   obtain⟨ho1,ho2⟩:=hw.2.2 o (Bo ho);have hwp:=hw.1.1;have hcx:=hcan x hsm L;cases hnx:Ah x<;>cases hcy:can x
   all_goals
    rw[hcy]at hcx;rw[Z1,hnx,hcy,hoI]at hF;refine(ML w us hinv (a:=a) (p:=p++[x]) (by simp;omega)).use (rest:=[.box n7 (GD a (p++[x]))]) (hs2.perm NV) ?_;clear hs2;rintro r post' Z ⟨es5,e5,got5,rfl,rfl⟩ hs;have hek5:e5.k.Ah=Ah x:=by rw[got5.k,<-hnf]
    rw[hnx]at hek5;obtain⟨newA,heA,hnA⟩:=got5.ext;obtain⟨pre5,post5,he5⟩:=List.append_of_mem got5.mem;rw[he5]at hs;replace hs:=H0 (X:=[.box n7 (GD a (p++[x]))]) (hs.perm NV);rw[hek5]at hs
    conv=>whnf
    repeat'((first|apply st|refine zY ?_|refine rk ?_ ?_|exact fun s e=>by cases e;rfl|fail)<;>conv=>whnf)
    have hs2:Sat Z ([.box n7 (GD a (p++[x]))]++CL L (pre5++e5::post5)):=Ej (X:=[.box n7 (GD a (p++[x]))]) (e:=e5) (e':=e5) rfl rfl rfl (by rw[<-hek5]at hs;exact hs);clear hs;refine(hcx es5 got5.inv).use (rest:=[.box n7 (GD a (p++[x]))]) (by rw[he5];exact hs2.perm NV) ?_;clear hs2;rintro r post' Z ⟨rfl,es6,⟨new6,he6,hn6⟩,hi6,rfl⟩ hs;have he7:es6=pre5++e5::(post5++new6):=by rw[he6,he5];simp
    rw[he7]at hs;replace hs:=H0 (X:=[.box n7 (GD a (p++[x]))]) (hs.perm NV);rw[hek5]at hs
    conv=>whnf
    repeat'((first|clear U K|apply st|(apply zk;intro K U)|refine zY ?_|refine rk ?_ ?_|exact fun s e=>by cases e;rfl|refine Pure.use (H5 m o hm (by omega) (by omega)) ?_|refine Pure.use (H5 no o hno (by omega) (by omega)) ?_|fail)<;>conv=>whnf)
    simp only[Bool.not_false,Bool.not_true,Bool.and_true,Bool.and_false,L2,if_false,if_true,Option.bind_some,Option.bind_none]at hF;have e7:es6=pre++e4::(post++(new++newA++new6)):=by rw[he6,heA];simp
    have hs2:Sat Z ([.box n7 (GD a (p++[x]))]++CL L (pre5++e5::(post5++new6))):=Ej (X:=[.box n7 (GD a (p++[x]))]) (e:=e5) (e':=e5) rfl rfl rfl (by rw[<-hek5]at hs;exact hs)
    have hs3:Sat Z (CL L (pre++e4::(post++(new++newA++new6)))):=by
     rw[<-he7,e7]at hs2;exact hs2.less (List.sublist_append_right _ _)
    have hi7:B9 kf (pre++e4::(post++(new++newA++new6))):=by rw[<-e7];exact hi6
    have hn7: ∀y∈new++newA++new6,y.k=k0:=fun y hy=>by
     rcases Du.1 hy with hy|hy
     .rcases Du.1 hy with hy|hy
      .exact hnew y hy
      .exact hnA y hy
     .exact hn6 y hy
    have hob:2 ^ o.toNat<18446744073709551616:=Ie (by omega)
   .exact⟨hlt,((m,no|||2 ^ o.toNat),new++newA++new6),rfl,⟨⟨hm,K3 hno hob⟩,⟨hi7,hn7⟩,hF⟩,UY (X:=[]) hs3⟩
   .exact⟨hlt,((m,no),new++newA++new6),rfl,⟨⟨hm,hno⟩,⟨hi7,hn7⟩,hF⟩,UY (X:=[]) hs3⟩
   .rw[hF]at hOy
    exact AI ⟨_,⟨by rw[hOy];rfl,_,got.ext.trans ⟨_,by simp,hn7⟩,hi7,rfl⟩,hs3⟩
   .exact⟨hlt,((m|||2 ^ o.toNat,no),new++newA++new6),rfl,⟨⟨K3 hm hob,hno⟩,⟨hi7,hn7⟩,hF⟩,UY (X:=[]) hs3⟩
  .rw [Ai hke,JN]at hF
   rw[hF]at hOy;simp only at hOy;refine zz ?_;(repeat clear U K);repeat intro K U
   have hu:zB us:=by rw[<-hus];exact H6 _ _ (by have:=hw.1.1;omega)
   have hul:us.length=3+w.parents.length:=by rw[<-hus];exact EG _ _
   have hwp:=hw.1.1;have hwl:IntKind.i64.wrap (3+((EK w.parents).length:Nat))=3+(w.parents.length:Int):=by rw[B2,wrap64 (by omega) (by omega)]
   refine Bw w.parents.length (fun k (x:Nat)=>[(14,eI (MB 3 k)),(7,eU x)]) (fun _ _=> .own e4.vs 1 (iL e4.k.AG)::Hx L pre post e4 new) (fun k x=>x<18446744073709551616/\x=Dm us k m) m rfl ⟨hm,rfl⟩ hs ?_;clear hs;clear hke hck hk k;rintro k x Z hk ⟨hx64,hxe⟩ hs;have hc3:MB 3 k=3+k:=Pv (by omega) (by omega);by_cases hlt:k<w.parents.length
   .have hbt:Dm us (k+1) m=if x.testBit (MB 3 k).toNat then x|||us.getD (3+k) 0 else x:=by
     rw[Dm,<-hxe,hc3,show(3+(k:Int)).toNat=3+k by omega]
    have hup:(List.drop ((MB 3 k).toNat*1) (List.drop 2 (wC w us)))[0]? =some (eU (us.getD (3+k) 0)):=by
     rw[y4,y4,<-rJ w us (i:=3+k) (by omega)];congr 1;omega
    conv=>whnf
    repeat'((first|clear U K|apply st|(apply zk;intro K U)|refine zY ?_|(rw[hup])|refine Pure.use (pX x (MB 3 k) hx64 (by omega) (by omega)) ?_|(refine zb (fun hc=>?_) (fun hc=>?_)<;>try exact⟨⟩)|fail)<;>conv=>whnf)
    .refine⟨hlt,x|||us.getD (3+k) 0,?_,⟨K3 hx64 (UZ hu _),by rw[hbt,if_pos (by assumption)]⟩,hs⟩
     rw[It hx64 (UZ hu _)];rfl
    .exact⟨hlt,x,rfl,⟨hx64,by rw[hbt,if_neg (by rw[‹x.testBit _=false›];decide)]⟩,hs⟩
   .have hke:k=w.parents.length:=by omega
    rw[hus,<-hke,<-hxe]at hOy
    have hA:bits .andNot .u64 (x:Int) 1=((Ht x:Nat):Int):=by
     have:=IU (a:=x) (b:=1);rw[mc hx64]at this;exact this
    have hcl:Ht x<18446744073709551616:=by unfold Ht;omega
    have hB:bits .and .u64 ((Ht x:Nat):Int) (no:Int)=((Ht x&&&no:Nat):Int):=F7 hcl hno
    conv=>whnf
    repeat'((first|clear U K|apply st|(apply zk;intro K U)|refine zY ?_|(refine zb (fun hc=>?_) (fun hc=>?_)<;>try exact⟨⟩)|fail)<;>conv=>whnf)
    rw[hA,hB];refine AI ⟨_,⟨?_,_,got.ext.trans ⟨new,by simp,hnew⟩,hinv,rfl⟩,sm hs⟩;rw[hOy]
    have hz:(((Ht x&&&no:Nat):Int)==0)=(Ht x&&&no==0):=by
     rw[IZ,DD,DD];omega
    rw[<-hz]
def ym (w:AH) (hw:DB w) {kf:Int->List Int->Kn} (hr:FC w kf) (a:Int): ∀(d:Nat) (p:List Int),p.length+d=2-> ∀(L:Nat) (es:List B5),B9 kf es->
    BT zP 267 [Vm w (CJ w.parents) L,Cd a p] (CL L es) fun r post=>r= .ret (.b (PJ w kf a d p))/\QL kf L es post:=by
 intro d
 induction d with
 | zero=>
   intro p hp L es h Z hs;have hint:=Rv w (CJ w.parents) hr h (L:=L) (a:=a) (p:=p) (by omega);have hnone:=fun es h=>a8 w (CJ w.parents) hr (es:=es) h (L:=L) (a:=a) (p:=p) (by omega)
   have hobj:=fun es h=>TR w hw hr (a:=a) (p:=p) (by omega) (fun _=>false) (by rw[hr.short a p (by omega)];intro s hs;cases hs) (L:=L) (es:=es) h
   rw[PJ];cases hI:Hs kf a p<;>cases hN:Et kf a p<;>rw[hI]at hint<;>rw[hN]at hnone
   all_goals
    refine jQ kZ ?_;refine zz ?_;(repeat clear U K);repeat intro K U
    refine hint.use (rest:=[]) (by simpa using hs) ?_;clear hs;rintro r post Z ⟨rfl,es2,hx2,hi2,rfl⟩ hs;rw[GA]at hs;refine zz ?_;(repeat clear U K);repeat intro K U
   rotate_left 2
   .exact AI ⟨_,⟨rfl,es2,hx2,hi2,rfl⟩,hs⟩
   .exact AI ⟨_,⟨rfl,es2,hx2,hi2,rfl⟩,hs⟩
   all_goals
    refine(hnone es2 hi2).use (rest:=[]) (by simpa using hs) ?_;clear hs;rintro r post Z ⟨rfl,es3,hx3,hi3,rfl⟩ hs;rw[GA]at hs;refine zz ?_;(repeat clear U K);repeat intro K U
   rotate_left 1
   .exact AI ⟨_,⟨rfl,es3,hx2.trans hx3,hi3,rfl⟩,hs⟩
   .refine(hobj es3 hi3).use (rest:=[]) (by simpa using hs) ?_
    clear hs;rintro r post Z ⟨rfl,es4,hx4,hi4,rfl⟩ hs;rw[GA]at hs;refine zz ?_;(repeat clear U K);repeat intro K U
    exact AI ⟨_,⟨rfl,es4,(hx2.trans hx3).trans hx4,hi4,rfl⟩,hs⟩
 | succ d ih=>
   intro p hp L es h Z hs;have hint:=Rv w (CJ w.parents) hr h (L:=L) (a:=a) (p:=p) (by omega);have hnone:=fun es h=>a8 w (CJ w.parents) hr (es:=es) h (L:=L) (a:=a) (p:=p) (by omega)
   have hobj:=fun es h=>TR w hw hr (a:=a) (p:=p) (by omega) (fun s=>PJ w kf a d (p++[s])) (fun s hs L es h=>ih (p++[s]) (by simp;omega) L es h) (L:=L) (es:=es) h
   rw[PJ];cases hI:Hs kf a p<;>cases hN:Et kf a p<;>rw[hI]at hint<;>rw[hN]at hnone
   all_goals
    refine jQ kZ ?_;refine zz ?_;(repeat clear U K);repeat intro K U
    refine hint.use (rest:=[]) (by simpa using hs) ?_;clear hs;rintro r post Z ⟨rfl,es2,hx2,hi2,rfl⟩ hs;rw[GA]at hs;refine zz ?_;(repeat clear U K);repeat intro K U
   rotate_left 2
   .exact AI ⟨_,⟨rfl,es2,hx2,hi2,rfl⟩,hs⟩
   .exact AI ⟨_,⟨rfl,es2,hx2,hi2,rfl⟩,hs⟩
   all_goals
    refine(hnone es2 hi2).use (rest:=[]) (by simpa using hs) ?_;clear hs;rintro r post Z ⟨rfl,es3,hx3,hi3,rfl⟩ hs;rw[GA]at hs;refine zz ?_;(repeat clear U K);repeat intro K U
   rotate_left 1
   .exact AI ⟨_,⟨rfl,es3,hx2.trans hx3,hi3,rfl⟩,hs⟩
   .refine(hobj es3 hi3).use (rest:=[]) (by simpa using hs) ?_
    clear hs;rintro r post Z ⟨rfl,es4,hx4,hi4,rfl⟩ hs;rw[GA]at hs;refine zz ?_;(repeat clear U K);repeat intro K U
    exact AI ⟨_,⟨rfl,es4,(hx2.trans hx3).trans hx4,hi4,rfl⟩,hs⟩
abbrev sC:V:= .FO 260 (.a [])
def kG (w:AH) (hw:DB w) {kf:Int->List Int->Kn} (hr:FC w kf) {L:Nat} {es:List B5} (h:B9 kf es) :
    BT zP 192 [Vm w (CJ w.parents) L] (CL L es) fun r post=>r=(if gA w kf then .ret (.t [])else .Bj sC)/\post= []:=by
 intro Z hs;refine xy kZ ?_;refine zz ?_;(repeat clear U K);repeat intro K U
 refine Bw 3 (fun k (x:List B5)=>[(3,eI (A6 k))]) (fun k x=>CL L x) (fun k x=>B9 kf x/\gA w kf=((BV 3).drop k).all fun a=>PJ w kf a 2 []) es rfl ⟨h,rfl⟩ hs ?_;clear hs h;rintro k es Z hk ⟨h,hn⟩ hs;have hck:A6 k=k:=Ae (by simp only[AZ];omega);have hl3:(BV 3).length=3:=rfl;rcases A7 (BV 3) hk with⟨a,ha,hlt⟩|hke
 .rw[drop_cons ha,KE]at hn
  have hak:a=A6 k:=by
   rw[hck];simp only[BV,Je,List.getElem?_range (show k<3 from hlt),YH]at ha;exact(Option.some.inj ha).symm
  subst hak;have hcan:=ym w hw hr (A6 k) 2 [] rfl L es h;cases hC:PJ w kf (A6 k) 2 []<;>rw[hC]at hcan hn
  all_goals
   conv=>whnf
   repeat'((first|clear U K|apply st|(apply zk;intro K U)|refine zY ?_|(refine zb (fun hc=>?_) (fun hc=>?_)<;>try exact⟨⟩)|fail)<;>conv=>whnf)
   refine hcan.use (rest:=[]) (by simpa using hs) ?_;clear hs;rintro r post Z ⟨rfl,es2,hx2,hi2,rfl⟩ hs;rw[GA]at hs;refine zz ?_;(repeat clear U K);repeat intro K U
  .exact DS ⟨_,⟨by rw[hn];rfl,rfl⟩,hs.less (JW _)⟩
  .exact⟨by omega,es2,rfl,⟨hi2,by simpa using hn⟩,hs⟩
 .rw[Ai hke]at hn
  conv=>whnf
  repeat'((first|clear U K|apply st|(apply zk;intro K U)|refine zY ?_|(refine zb (fun hc=>?_) (fun hc=>?_)<;>try exact⟨⟩)|fail)<;>conv=>whnf)
  exact AI ⟨_,⟨by rw[hn];rfl,rfl⟩,hs.less (JW _)⟩
def P0 {w:AH} {ls:List Fact} (hw:w.parents.length<=60) (h: ∀x∈ls,Dj w x):N1 ls:=by
 intro l hl;obtain⟨-,hc,hsm,hsh⟩:=IA h;obtain⟨-,hn,hlf⟩:=IB (h l hl);exact⟨Ft hlf,hsh l hl,fun ho=>by have:=hc l hl ho;omega,hsm l hl⟩
def uQ {ls:List Fact} (h:HV ls) (a:Int) (p:List Int): -1000000000<=(kn ls a p).low/\(kn ls a p).low<=1000000000:=by
 have key: ∀(ls:List Fact) (k:Kn),HV ls->(-1000000000<=k.low/\k.low<=1000000000)-> -1000000000<=(ls.foldl (Cz a p) k).low/\(ls.foldl (Cz a p) k).low<=1000000000:=by
  intro ls
  induction ls with
  | nil=>intro k _ h;exact h
  | cons l r ih=>
    intro k hs hk;refine ih _ (fun x hx=>hs x (.tail _ hx)) ?_;have hn:=hs l (.head _);unfold Cz By Bz fv
    repeat' split
    all_goals first
     | exact hk
     | exact hn
     | (simp only;exact hk)
     | (simp only;exact hn)
 exact key ls k0 h ⟨by decide,by decide⟩
def aj {w:AH} {ls:List Fact} (h: ∀x∈ls,Dj w x):HY w.owner.length ls:=by
 intro l hl s hs;obtain⟨-,hn,-⟩:=IB (h l hl);rw[CM,A9]at hn;have:=hn.1;simp only[DE,FT,A9,EB,JH,Cc]at this;exact this.2.2.2.2.1.1 s hs
def aW {w:AH} (hw:DB w) {ls:List Fact} (h: ∀x∈ls,Dj w x) (hlen:ls.length<900):FC w (kn ls):=by
 have hadd:=P0 (by have:=hw.1.1;omega) h;obtain⟨-,-,hsm,hsh⟩:=IA h;have hp:=aj h;refine⟨fun a p=>?_,uQ hsm,fun a p hpl=>?_,fun a p s hs=>?_⟩
 .obtain⟨h1,h2,h3,h4⟩:=il hadd a p
  exact⟨h1,h2,by omega,by omega⟩
 .rw[J4 hp]
  exact II hsh hpl
 .rw[J4 hp]at hs
  exact Fc hs
def tI {w:AH} (hw:DB w) {ls:List Fact} (h: ∀x∈ls,Dj w x):gA w (kn ls)=G5 w ls:=by
 obtain⟨-,hc,-,-⟩:=IA h;refine tJ ?_ (fun s h0 h1=>?_) (by have:=hw.1.1;omega) (fun l hl ho=>by have:=hc l hl ho;omega) (aj h)
 .exact Km hw.1
 .obtain⟨o,ho⟩: ∃o,w.owner[s.toNat]? =some o:=⟨_,Cr (by omega)⟩
  have hoI:B4 w s=o:=by simp only[B4,C4,ho];rfl
  rw[hoI];exact hw.2.2 o (Bo ho)
def qV {Z:AE} {n:Nat} {x:V} {rest:List At} (hs:Sat Z (.box n [x]::rest)) {Q:AE->Prop} (hq: ∀Z',Sat Z' (.box n [.b false]::rest)->Q Z'):Hv zP 191 [.p n 0] (some sC) Z Q:=by
 refine bq kZ ?_
 conv=>whnf
 repeat'((first|clear U K|apply st|(apply zk;intro K U)|refine zs fun Z hs=>?_|refine sZ rfl ?_|refine zo fun nn hnn Z hs=>?_|fail)<;>conv=>whnf)
 exact hq _ (hs.less (Ku _ _))
def qW {Z:AE} {n:Nat} {x:V} {rest:List At} (hs:Sat Z (.box n [x]::rest)) {Q:AE->Prop} (hq: ∀Z',Sat Z' (.box n [x]::rest)->Q Z'):Hv zP 191 [.p n 0] none Z Q:=by
 refine bq kZ ?_
 conv=>whnf
 repeat'((first|clear U K|apply st|(apply zk;intro K U)|refine zY ?_|refine zs fun Z hs=>?_|refine zo fun nn hnn Z hs=>?_|fail)<;>conv=>whnf)
 exact hq _ (hs.less (Ku _ _))
attribute [local irreducible] Hv
def Xi (w:AH) (hw:DB w) (ls:List Fact) (b:Bool) (hl: ∀x∈ls,Dj w x) (hlen:ls.length<900):Pure zP 127 [.rp (wC w (CJ w.parents)),.l (Dx ls) b] (.b (G5 w ls)):=by
 refine Pure.of ?_;refine ya kZ ?_;have hs:=Sn
 conv=>whnf
 repeat'((first|clear U K|apply st|(apply zk;intro K U)|refine zo fun nn hnn Z hs=>?_|fail)<;>conv=>whnf)
 refine(kR w (CJ w.parents) ls b (P0 (by have:=hw.1.1;omega) hl) hlen).use (rest:=[.box nn [.b false]]) (by simpa using hs) ?_;clear hs;rintro r post Z ⟨L,es,rfl,hinv,rfl⟩ hs;have hwh:=kG w hw (aW hw hl hlen) hinv (L:=L);rw[tI hw hl]at hwh;cases ht:G5 w ls<;>rw[ht]at hwh
 all_goals
  conv=>whnf
  refine hwh.use (rest:=[.box nn [.b false]]) hs ?_;clear hs;rintro r post Z ⟨rfl,rfl⟩ hs
  conv=>whnf
  repeat'((first|clear U K|apply st|(apply zk;intro K U)|refine zs fun Z hs=>?_|fail)<;>conv=>whnf)
 .refine qV (rest:=[]) hs fun Z hs=>?_
  refine zz ?_;(repeat clear U K);repeat intro K U
  exact AI (by rw[ht];rfl)
 .refine qW (rest:=[]) (x:= .b true) hs fun Z hs=>?_
  refine zz ?_;(repeat clear U K);repeat intro K U
  exact AI (by rw[ht];rfl)
end Go.Gl
namespace Go.Gl
open Go.Proofs
attribute [local irreducible] Au Am Ab AR AK AY AQ AS AJ AX AN AP Ao Az Sat AU Ax Ad W
def SX {α S:Type} (stp:α->S->Bool×S) (D:α->S->Prop):List α->S->Prop
 | [],_=>True
 | y::r,s=>D y s/\((stp y s).1=true->SX stp D r (stp y s).2)
section
variable {α β S:Type} {stp:α->S->Bool×S} {D:α->S->Prop}
def NB: ∀(A B:List α) (s:S),CQ stp (A++B) s=if(CQ stp A s).1 then CQ stp B (CQ stp A s).2 else(false,(CQ stp A s).2)
 | [],B,s=>by simp[CQ]
 | y::r,B,s=>by
   rw[List.cons_append,CQ,CQ];cases(stp y s).1
   .rfl
   .simpa using NB r B (stp y s).2
def RJ (l:α) (s:S):CQ stp [l] s=stp l s:=by
 rw[CQ,CQ];rcases stp l s with⟨b,s'⟩;cases b<;>rfl
def Ph: ∀ {A B:List α} {s:S},SX stp D (A++B) s->SX stp D A s/\((CQ stp A s).1=true->SX stp D B (CQ stp A s).2)
 | [],B,s,h=>⟨trivial,fun _=>h⟩
 | y ::r,B,s,h=>by
   obtain⟨h1,h2⟩:=h;rw[SX,CQ];cases hy:(stp y s).1
   .exact⟨⟨h1,fun h=>(by cases h)⟩,fun h=>(by simp at h)⟩
   .obtain⟨h3,h4⟩:=Ph (h2 hy)
    exact⟨⟨h1,fun _=>h3⟩,by simpa using h4⟩
def Pg {A:List α}: ∀ {B:List α} {s:S},(∀y∈B,y∈A)->SX stp D B s->SX stp (fun y s=>y∈A/\D y s) B s
 | [],_,_,_=>trivial
 | y::r,_,hm,h=>⟨⟨hm y (.head _),h.1⟩,fun hy=>Pg (fun z hz=>hm z (.tail _ hz)) (h.2 hy)⟩
def au {g:β->α}: ∀ {B:List β} {s:S},SX stp D (B.map g) s->SX (fun b s=>stp (g b) s) (fun b s=>D (g b) s) B s
 | [],_,_=>trivial
 | y::r,_,h=>⟨h.1,fun hy=>au (h.2 hy)⟩
end
section
variable {S:Type} {stp:List Fact->S->Bool×S} {D:List Fact->S->Prop}
def T5 (B:List (List Fact)): ∀(A:List (List Fact)) (s:S),CQ stp (DW A B) s=CQ (fun x s=>CQ (fun y s=>stp (CY x y) s) B s) A s
 | [],s=>rfl
 | x::r,s=>by
   have ih:=T5 B r;rw[DW,List.flatMap_cons,NB,NA,CQ];simp only[DW]at ih;rw[ih]
def W0 (B:List (List Fact)): ∀ {A:List (List Fact)} {s:S},SX stp D (DW A B) s->SX (fun x s=>CQ (fun y s=>stp (CY x y) s) B s) (fun x s=>SX (fun y s=>stp (CY x y) s) (fun y s=>D (CY x y) s) B s) A s
 | [],_,_=>trivial
 | x::r,s,h=>by
   rw[DW,List.flatMap_cons]at h;obtain⟨h1,h2⟩:=Ph h;refine⟨au h1,fun hy=>?_⟩;rw[NA]at h2;exact W0 B (h2 hy)
end
abbrev L6 (l:List Fact) (b:Bool):V:= .l (Dx l) b
def S3 {S:Type} (x:V) (H:S->List At) (stp:List Fact->S->Bool×S) (D:List Fact->S->Prop):Prop:= ∀b,DG zP x (fun l=>L6 l b) H stp D
abbrev V7 (n:Nat):V:= .f (.func 187) [] [.p n 0]
def TW {f:Fact} (hl:CI f=true) (c:Bool):Jb (if c then EV f else f)=xF f++[.b c]:=by
 have:=Ft hl;cases c with
 | true=>rfl
 | false=>
   have h5: ¬f.op=5:=by omega
   simp only[Jb,L2,if_false,Af,if_neg h5]
def WalkC (f:Fact):Prop:= ∀(c:Bool) (S:Type) (fn:Fn) (fi ca:List V) (H:S->List At) (stp:List Fact->S->Bool×S) (D:List Fact->S->Prop) (nW:Nat) (s:S),
 S3 (.f fn fi ca) (fun s=> .box nW [V7 nW]::H s) stp D->SX stp D (BE f c) s-> ∀Z,Sat Z (.box nW [V7 nW]::H s)->
  Ao zP (V7 nW) [.a (xF f),.b c,.f fn fi ca] Z fun r Z'=>r= .ret (.b (CQ stp (BE f c) s).1)/\Sat Z' (.box nW [V7 nW]::H (CQ stp (BE f c) s).2)
def mO {w:AH} {S:Type} {fn:Fn} {fi ca:List V} {H:S->List At} {stp:List Fact->S->Bool×S} {D:List Fact->S->Prop} (hT:S3 (.f fn fi ca) H stp D) {k0 k1:Fact} {c:Bool} (hn0:Bb w k0=true) (hn1:Bb w k1=true) (hv0:lv k0<=100) (hv1:lv k1<=100) {a:List Fact} (ha:a∈BE k0 c) (fa:Bool) :
    S3 (.f (.func 189) [] [.rp [.f fn fi ca],.rp [L6 a fa]]) H (fun y s=>stp (CY a y) s) (fun y s=>y∈BE k1 c/\D (CY a y) s):=by
 rintro b y s ⟨hy,hd⟩ Z hs;refine BN ?_;show Au zP 189 ([]++[L6 y b]++[.rp [.f fn fi ca],.rp [L6 a fa]]) Z _;have hla:=(D8 k0 (Bl _ hn0) c).2 a ha;have hly:=(D8 k1 (Bl _ hn1) c).2 y hy;have hM:=Mx;refine x3 kZ ?_
 conv=>whnf
 repeat'((first|clear U K|apply st|(apply zk;intro K U)|refine rk ?_ ?_|exact fun s e=>by cases e;rfl|refine Pure.use (eF (w:=w) a y fa b (C3 k0 hn0 c a ha) (C3 k1 hn1 c y hy) (by omega)) ?_|fail)<;>conv=>whnf)
 refine(hT false).use hd hs ?_;clear hs;intro Z hs;refine zz ?_;(repeat clear U K);repeat intro K U
 exact AI ⟨rfl,hs⟩
def mP {w:AH} {S:Type} {fn:Fn} {fi ca:List V} {H:S->List At} {stp:List Fact->S->Bool×S} {D:List Fact->S->Prop} {nW:Nat} (hT:S3 (.f fn fi ca) (fun s=> .box nW [V7 nW]::H s) stp D) {f k0 k1:Fact} (hk:f.kids= [k0,k1]) {c:Bool} (hn0:Bb w k0=true) (hn1:Bb w k1=true) (hv0:lv k0<=100) (hv1:lv k1<=100) (hw1:WalkC k1) :
    S3 (.f (.func 188) [] [.p nW 0,.rp (xF f),.rp [.b c],.rp [.f fn fi ca]]) (fun s=> .box nW [V7 nW]::H s) (fun a s=>CQ (fun y s=>stp (CY a y) s) (BE k1 c) s) (fun a s=>a∈BE k0 c/\SX (fun y s=>stp (CY a y) s) (fun y s=>D (CY a y) s) (BE k1 c) s):=by
 rintro fa a s ⟨ha,hd⟩ Z hs;refine BN ?_;show Au zP 188 ([]++[L6 a fa]++[.p nW 0,.rp (xF f),.rp [.b c],.rp [.f fn fi ca]]) Z _;have h1:f.kids[(1:Int).toNat]? =some k1:=by rw[hk];rfl
 refine x4 kZ ?_;refine zz ?_;(repeat clear U K);repeat intro K U
 refine(hw1 c S _ _ _ H _ _ nW s (mO hT hn0 hn1 hv0 hv1 ha fa) (Pg (fun y hy=>hy) hd) Z hs).mono ?_;clear hs;rintro r Z ⟨rfl,hs⟩;refine zz ?_;(repeat clear U K);repeat intro K U
 exact AI ⟨rfl,hs⟩
def nq {w : AH} (f:Fact):Bb w f=true->lv f<=100->WalkC f:=by
 induction f using Fact.ind with
 | h f ih=>
   intro hn hv c S fn fi ca H stp D nW s hT hd Z hs;have har:=Bl _ hn
   have hnk: ∀k∈f.kids,Bb w k=true:=by
    rw[CM,A9,EB]at hn;exact hn.2
   have hop:f.op=1\/f.op=5\/CI f=true\/f.op=6\/f.op=7:=by
    rw[CM,A9]at hn;have h1:=hn.1;simp only[DE,YF,A9]at h1;rw[Mu];simp only[A9,Cc];have h2:=h1.1;split at h2
    .omega
    .split at h2
     .omega
     .simp only[Fm,DD]at h2
      omega
   refine BN ?_;show Au zP 187 ([]++[.a (xF f),.b c,.f fn fi ca]++[.p nW 0]) Z _;refine x5 kZ ?_;rw[Ey,Ek]at hd;have hcs:=Ey f c;rw[Ek]at hcs;rcases hop with h1|h5|hl|h67
   .rw[if_pos h1]at hd hcs
    rw[hcs];cases c
    .rw[if_neg (by decide)]at hd ⊢
     rw[RJ]
     conv=>whnf
     repeat'((first|clear U K|apply st|(apply zk;intro K U)|refine zY ?_|(refine zb (fun hc=>?_) (fun hc=>?_)<;>try exact⟨⟩)|fail)<;>conv=>whnf)
     refine(hT true).use (y:=[]) hd.1 hs ?_;clear hs;intro Z hs;refine zz ?_;(repeat clear U K);repeat intro K U
     exact AI ⟨rfl,hs⟩
    .rw[if_pos rfl]at hd ⊢
     conv=>whnf
     repeat'((first|clear U K|apply st|(apply zk;intro K U)|refine zY ?_|(refine zb (fun hc=>?_) (fun hc=>?_)<;>try exact⟨⟩)|fail)<;>conv=>whnf)
     exact AI ⟨rfl,hs⟩
   .obtain⟨k,hk,-⟩:=FH har h5
    have hkm:k∈f.kids:=by rw[hk];exact .head _
    have hvk:lv k<=100:=by
     rw[Jq,YJ,if_pos h5,hk]at hv;exact hv
    rw[if_neg (by omega),if_pos h5,hk]at hd hcs;have hcs2:BE f c=BE k (!c):=hcs;have h0:f.kids[(0:Int).toNat]? =some k:=by rw[hk];rfl
    rw[hcs2]
    conv=>whnf
    repeat'((first|clear U K|apply st|(apply zk;intro K U)|refine zY ?_|(refine zb (fun hc=>?_) (fun hc=>?_)<;>try exact⟨⟩)|fail)<;>conv=>whnf)
    refine(ih k hkm (hnk k hkm) hvk (!c) S _ _ _ H stp D nW s hT hd Z hs).mono ?_;clear hs;rintro r Z ⟨rfl,hs⟩;refine zz ?_;(repeat clear U K);repeat intro K U
    exact AI ⟨rfl,hs⟩
   .have hlo:=Ft hl
    have hlB:=VA f;rw[hl]at hlB;rw[if_neg (by omega),if_neg (by omega),if_neg (by omega)]at hd hcs;have hcs2:BE f c= [[if c then EV f else f]]:=by rw[hcs];cases c<;>rfl
    rw[<-hcs,hcs2]at hd;rw[hcs2,RJ]
    have e:L6 [if c then EV f else f] true= .l [xF f++[.b c]] true:=by
     show V.l [Jb (if c then EV f else f)] true=_;rw[TW hl]
    have hst:=(hT true) [if c then EV f else f] s hd.1;simp only[e]at hst
    conv=>whnf
    repeat'((first|clear U K|apply st|(apply zk;intro K U)|refine zY ?_|refine hlB.use ?_|(refine zb (fun hc=>?_) (fun hc=>?_)<;>try exact⟨⟩)|fail)<;>conv=>whnf)
    refine(hst Z hs).mono ?_;clear hs;rintro r Z ⟨rfl,hs⟩;refine zz ?_;(repeat clear U K);repeat intro K U
    exact AI ⟨rfl,hs⟩
   .obtain⟨k0,k1,hk,-,-⟩:=FG har h67
    have hkm0:k0∈f.kids:=by rw[hk];exact .head _
    have hkm1:k1∈f.kids:=by rw[hk];exact .tail _ (.head _)
    have hlf:CI f=false:=by rw[Mu,decide_eq_false (show¬f.op<=4 by omega),Bool.and_false]
    have hlB:=VA f;rw[hlf]at hlB
    have hvk:lv k0+lv k1<=100:=by
     rw[Jq,YJ,if_neg (by omega),if_pos h67,hk]at hv;exact hv
    rw[if_neg (by omega),if_neg (by omega),if_pos h67,hk]at hd hcs;have h0:f.kids[(0:Int).toNat]? =some k0:=by rw[hk];rfl
    have h1:f.kids[(1:Int).toNat]? =some k1:=by rw[hk];rfl
    have i0:=ih k0 hkm0 (hnk k0 hkm0) (by omega);have i1:=ih k1 hkm1 (hnk k1 hkm1) (by omega);by_cases hap:(c != (f.op==7))=true
    .rw [if_pos hap]at hd hcs
     have hcs2:BE f c=BE k0 c++BE k1 c:=hcs;have hd2:SX stp D (BE k0 c++BE k1 c) s:=hd;obtain⟨hd3,hd4⟩:=Ph hd2;rw[hcs2,NB];clear hcs hcs2 hd hd2;rcases h67 with h6|h7
     .have h6b:(f.op==6)=true:=by rw[h6];rfl
      have hct:c=true:=by rw[h6]at hap;cases c<;>simp_all
      subst hct
      conv=>whnf
      repeat'((first|clear U K|apply st|(apply zk;intro K U)|refine zY ?_|refine hlB.use ?_|(rw[h6b])|(refine zb (fun hc=>?_) (fun hc=>?_)<;>try exact⟨⟩)|fail)<;>conv=>whnf)
      refine(i0 true S _ _ _ H stp D nW s hT hd3 Z hs).mono ?_;clear hs;rintro r Z ⟨rfl,hs⟩;generalize CQ stp (BE k0 true) s=x at *;obtain⟨b1,s1⟩:=x;cases b1
      .refine zz ?_;(repeat clear U K);repeat intro K U
       exact AI ⟨rfl,hs⟩
      .refine zz ?_;(repeat clear U K);repeat intro K U
       refine(i1 true S _ _ _ H stp D nW s1 hT (hd4 rfl) Z hs).mono ?_;clear hs;rintro r Z ⟨rfl,hs⟩;refine zz ?_;(repeat clear U K);repeat intro K U
       exact AI ⟨rfl,hs⟩
     .have h6b:(f.op==6)=false:=by rw[h7];rfl
      have hct:c=false:=by rw[h7]at hap;cases c<;>simp_all
      subst hct
      conv=>whnf
      repeat'((first|clear U K|apply st|(apply zk;intro K U)|refine zY ?_|refine hlB.use ?_|(rw[h6b])|(refine zb (fun hc=>?_) (fun hc=>?_)<;>try exact⟨⟩)|fail)<;>conv=>whnf)
      refine(i0 false S _ _ _ H stp D nW s hT hd3 Z hs).mono ?_;clear hs;rintro r Z ⟨rfl,hs⟩;generalize CQ stp (BE k0 false) s=x at *;obtain⟨b1,s1⟩:=x;cases b1
      .refine zz ?_;(repeat clear U K);repeat intro K U
       exact AI ⟨rfl,hs⟩
      .refine zz ?_;(repeat clear U K);repeat intro K U
       refine(i1 false S _ _ _ H stp D nW s1 hT (hd4 rfl) Z hs).mono ?_;clear hs;rintro r Z ⟨rfl,hs⟩;refine zz ?_;(repeat clear U K);repeat intro K U
       exact AI ⟨rfl,hs⟩
    .rw[if_neg hap]at hd hcs
     have hcs2:BE f c=DW (BE k0 c) (BE k1 c):=hcs;have hd2:SX stp D (DW (BE k0 c) (BE k1 c)) s:=hd;have hd3:=W0 _ hd2;have hT2:=mP hT hk (c:=c) (hnk k0 hkm0) (hnk k1 hkm1) (by omega) (by omega) i1;rw[hcs2,T5];clear hcs hcs2 hd hd2;rcases h67 with h6|h7
     .have h6b:(f.op==6)=true:=by rw[h6];rfl
      have hct:c=false:=by rw[h6]at hap;cases c<;>simp_all
      subst hct
      conv=>whnf
      repeat'((first|clear U K|apply st|(apply zk;intro K U)|refine zY ?_|refine hlB.use ?_|(rw[h6b])|(refine zb (fun hc=>?_) (fun hc=>?_)<;>try exact⟨⟩)|fail)<;>conv=>whnf)
      refine(i0 false S _ _ _ H _ _ nW s hT2 (Pg (fun y hy=>hy) hd3) Z hs).mono ?_;clear hs;rintro r Z ⟨rfl,hs⟩;refine zz ?_;(repeat clear U K);repeat intro K U
      exact AI ⟨rfl,hs⟩
     .have h6b:(f.op==6)=false:=by rw[h7];rfl
      have hct:c=true:=by rw[h7]at hap;cases c<;>simp_all
      subst hct
      conv=>whnf
      repeat'((first|clear U K|apply st|(apply zk;intro K U)|refine zY ?_|refine hlB.use ?_|(rw[h6b])|(refine zb (fun hc=>?_) (fun hc=>?_)<;>try exact⟨⟩)|fail)<;>conv=>whnf)
      refine(i0 true S _ _ _ H _ _ nW s hT2 (Pg (fun y hy=>hy) hd3) Z hs).mono ?_;clear hs;rintro r Z ⟨rfl,hs⟩;refine zz ?_;(repeat clear U K);repeat intro K U
      exact AI ⟨rfl,hs⟩
def uc {w:AH} (f:Fact) (hn:Bb w f=true) (hv:lv f<=100) (c:Bool) {S:Type} {fn:Fn} {fi ca:List V} {H:S->List At} {stp:List Fact->S->Bool×S} {D:List Fact->S->Prop} {s:S} (hT: ∀nW,S3 (.f fn fi ca) (fun s=> .box nW [V7 nW]::H s) stp D) (hd:SX stp D (BE f c) s) (Z:AE) (hs:Sat Z (H s)) :
    Au zP 186 [.f fn fi ca,.rp (xF f),.rp [.b c]] Z fun r Z'=>r= .ret (.t [])/\Sat Z' (H (CQ stp (BE f c) s).2):=by
 refine x6 kZ ?_
 conv=>whnf
 repeat'((first|clear U K|apply st|(apply zk;intro K U)|refine zY ?_|refine zs fun Z hs=>?_|refine zo fun nn hnn Z hs=>?_|fail)<;>conv=>whnf)
 refine(nq f hn hv c S fn fi ca H stp D nn s (hT nn) hd Z hs).mono ?_;clear hs;rintro r Z ⟨rfl,hs⟩
 conv=>whnf
 repeat'((first|clear U K|apply st|fail)<;>conv=>whnf)
 exact AI ⟨rfl,hs.less (Ku _ _)⟩
def mR (f:Fact) (c:Bool):Pure zP 126 [.a (xF f),.b c] (.f (.func 186) [] [.rp (xF f),.rp [.b c]]):=by
 refine yb kZ ?_;have hs:=Sn;exact zW
abbrev P7 (w:AH) (l:List Fact) (s:Bool):Bool×Bool:=if G5 w l then(false,true)else(true,s)
def XX {w:AH}: ∀(cs:List (List Fact)),CQ (P7 w) cs false=(!cs.any (G5 w),cs.any (G5 w))
 | []=>rfl
 | l::r=>by
   rw[CQ,PV];simp only[P7];cases h:G5 w l
   .simpa using XX r
   .rfl
def av {w:AH} {G:List Fact->Prop}: ∀ {cs:List (List Fact)},(∀l∈cs,G l)->SX (P7 w) (fun l s=>s=false/\G l) cs false
 | [],_=>trivial
 | l ::r,h=>⟨⟨rfl,h l (.head _)⟩,fun hy=>by
     cases ht:G5 w l
     .have e:(P7 w l false).2=false:=by simp[P7,ht]
      rw[e];exact av fun x hx=>h x (.tail _ hx)
     .simp[P7,ht]at hy⟩
abbrev y0 (w:AH) (L:Nat) (E:Env) (ok:FuncId->Array Tmp->Code->Code->Nat->Prop) (nF:Nat):Prop:=
 N2 zP L E ok (fun(x:List Fact×Bool)=>[L6 x.1 x.2]) (fun s:Bool=>[.box nF [.b s]]) (fun _=>True) (fun x s=>if G5 w x.1 then .stop (.exit 0) true else .go s) (fun x s=>s=false/\(∀y∈x.1,Dj w y)/\x.1.length<900)
def ph {w:AH} (f:Fact) (hn:Bb w f=true) (hv:lv f<=100) {L:Nat} {E:Env} {ok:FuncId->Array Tmp->Code->Code->Nat->Prop} {nF:Nat} (hY:y0 w L E ok nF) (Z:AE) (hs:Sat Z [.obj L (.loop .ready E ok),.box nF [.b false]]) :
    Au zP 186 [.f (.yield L) [] [],.rp (xF f),.rp [.b false]] Z fun r Z'=>r= .ret (.t [])/\Sat Z' [.obj L (.loop (if Sc w f then .exit 0 else .ready) E ok),.box nF [.b (Sc w f)]]:=by
 have hg:=uc f hn hv false (fn:= .yield L) (fi:=[]) (ca:=[]) (H:=fun s:Bool=>[.obj L (.loop (if s then .exit 0 else .ready) E ok),.box nF [.b s]]) (stp:=P7 w) (D:=fun l s=>s=false/\(∀y∈l,Dj w y)/\l.length<900) (s:=false) (by
  rintro nW b l s ⟨rfl,hl,hlen⟩ Z hs;refine hY.use (y:=(l,b)) (s:=false) ⟨rfl,hl,hlen⟩ (rest:=[.box nW [V7 nW]]) (hs.perm (Jp _ _ _ _)) ?_;intro r Z' hq;cases ht:G5 w l
  .simp only[ht,L2,if_false]at hq
   obtain⟨rfl,hs'⟩:=hq;have e:P7 w l false=(true,false):=by simp[P7,ht]
   rw[e];exact⟨rfl,hs'.perm (Jp _ _ _ _).symm⟩
  .simp only[ht,if_true]at hq
   obtain⟨rfl,hs'⟩:=hq;have e:P7 w l false=(false,true):=by simp[P7,ht]
   rw[e]
   exact⟨rfl,hs'.perm (Jp _ _ _ _).symm⟩) (av fun l hl=>⟨C3 f hn false l hl,by have:=(D8 f (Bl _ hn) false).2 l hl;omega⟩) Z hs
 rw[XX]at hg;exact hg
def yp (w:AH) (hw:DB w) (f:Fact) (hn:Bb w f=true) (hv:lv f<=100):Pure zP 125 [.rp (wC w (CJ w.parents)),.a (xF f)] (.b (Sc w f)):=by
 refine Pure.of ?_;refine yc kZ ?_;have hs:=Sn
 conv=>whnf
 repeat'((first|clear U K|apply st|(apply zk;intro K U)|refine zY ?_|refine zs fun Z hs=>?_|refine Pure.use (mR _ _) ?_|refine zo fun nn hnn Z hs=>?_|fail)<;>conv=>whnf)
 rename_i _ nF hnF _ _ _ _;refine Au.mono (ph (w:=w) f hn hv (L:=nn) (nF:=nF) ?_ Z hs) ?_
 .refine Oz (fun y=>rfl) ?_
  clear hs hnn hnF;rintro⟨l,b⟩ s ⟨rfl,hl,hlen⟩ rest Z hs;dsimp only at hl hlen;have htg:=Xi w hw l b hl hlen;dsimp only;cases ht:G5 w l<;>rw[ht]at htg
  .conv=>whnf
   repeat'((first|clear U K|apply st|(apply zk;intro K U)|refine htg.use ?_|fail)<;>conv=>whnf)
   intro hn;exact Wv (H:=fun s:Bool=>[.box nF [.b s]]) (J:=fun _=>True) (s:=false) rfl hs hn
  .conv=>whnf
   repeat'((first|clear U K|apply st|(apply zk;intro K U)|refine zs fun Z hs=>?_|refine htg.use ?_|fail)<;>conv=>whnf)
   intro hn;exact Y8 (H:=fun s:Bool=>[.box nF [.b s]]) (J:=fun _=>True) (s:=true) (st:= .exit 0) rfl hs hn
 .clear hs hnn hnF
  cases hp:Sc w f
  .rintro r Z ⟨rfl,hs⟩
   refine Mo hs fun Z hs=>?_
   refine zz ?_;(repeat clear U K);repeat intro K U
   exact AI (by rw[hp])
  .rintro r Z ⟨rfl,hs⟩
   refine ZB hs fun Z hs=>?_
   refine zz ?_;(repeat clear U K);repeat intro K U
   exact AI (by rw[hp])
def tl (f:Fact):Pure zP 224 [.a (xF f)] (.a (xF (EV f))):=by
 refine xX kZ ?_;have hs:=Sn
 conv=>whnf
 repeat'((first|clear U K|apply st|(apply zk;intro K U)|refine zX ?_|refine zr fun Z hs=>?_|refine zp fun nn hnn Z hs=>?_|fail)<;>conv=>whnf)
 refine A8 (.a (.cons (.refl _) (.cons (.refl _) (.cons FE (.cons (.refl _) (.cons (.refl _) (.cons ?_ .nil)))))));refine .l (fun h=>by cases h) ?_;simp only[EV,Fact.kids,List.map,Bg];exact Ez _
def yw (f g:Fact):Pure zP 295 [.a (xF f),.a (xF g)] (.a (xF (PO f g))):=by
 refine wT kZ ?_;have hs:=Sn
 conv=>whnf
 repeat'((first|clear U K|apply st|(apply zk;intro K U)|refine zX ?_|refine zr fun Z hs=>?_|refine zp fun nn hnn Z hs=>?_|fail)<;>conv=>whnf)
 refine A8 (.a (.cons (.refl _) (.cons (.refl _) (.cons FE (.cons (.refl _) (.cons (.refl _) (.cons ?_ .nil)))))));refine .l (fun h=>by cases h) ?_;simp only[PO,Fact.kids,List.map,Bg];exact Ez _
def ZP (w:AH) (hw:DB w) (a b:Fact) (ha:Bb w a=true) (hb:Bb w b=true) (hl:lv a+lv b<=100):Pure zP 229 [.rp (wC w (CJ w.parents)),.a (xF a),.a (xF b)] (.b (UP w a b)):=by
 have hcan:=yp w hw (PO a (EV b)) (Qt ha hb) (by rw[ig];exact hl);refine xV kZ ?_;have hs:=Sn
 conv=>whnf
 repeat'((first|clear U K|apply st|(apply zk;intro K U)|refine zY ?_|refine rk ?_ ?_|exact fun s e=>by cases e;rfl|refine Pure.use (tl _) ?_|refine Pure.use (yw _ _) ?_|refine hcan.use ?_|fail)<;>conv=>whnf)
 all_goals exact AF rfl
def fY (w:AH) (hw:DB w) (a b:Fact) (ha:DM w a=true) (hb:DM w b=true) (hna:Bb w a=true) (hnb:Bb w b=true) (hl:lv a+lv b<=100):Pure zP 338 [.a (A0 w),.a (xF a),.a (xF b)] (.t [.b (UP w a b),eI 0]):=by
 have hrd: ∀f,Pure zP 118 [.a (A0 w),.l [xF a,xF b] f] (.t [.rp (wC w (CJ w.parents)),.b true]):=fun f=>by
  have:=aX w hw [a,b] f (by simp);rw[show([a,b].all (MG w))=true by simp[bT,ha,hb]]at this;simpa[Bg]using this
 have hip:=ZP w hw a b hna hnb hl;refine vS kZ ?_;have hs:=Sn
 conv=>whnf
 repeat'((first|clear U K|apply st|(apply zk;intro K U)|refine zY ?_|refine Pure.use (hrd _) ?_|refine hip.use ?_|fail)<;>conv=>whnf)
 all_goals exact AF rfl
attribute [local irreducible] Hv
def szP (p:Prog) (nO:Nat) (r:R) (post:List At):Prop:=
 match BY p with
 | some s=>r= .ret (.t [])/\ ∃v,post= [.box nO [v],.own v 1 (iL s)]
 | none=>r= .Bj D5/\ ∃v s,post= [.box nO [v],.own v 1 (iL s)]
def dQ (p:Prog) (nO:Nat):BT zP 281 [.rp (BG p),.p nO 0] [.box nO [.l [] true]] (szP p nO):=fun Z hs=>
 Au.mono (kY p nO Z hs) fun r Z' hq=>by
  unfold y7 at hq;unfold szP;cases h:BY p with
  | some s=>
    rw[h]at hq;obtain⟨h1,v,h2⟩:=hq;exact⟨_,⟨h1,v,rfl⟩,h2⟩
  | none=>
    rw[h]at hq;obtain⟨h1,v,s,h2⟩:=hq;exact⟨_,⟨h1,v,s,rfl⟩,h2⟩
def qX {Z:AE} {n:Nat} {x:V} {rest:List At} (hs:Sat Z (.box n [x]::rest)) {Q:AE->Prop} (hq: ∀Z',Sat Z' (.box n [.b false]::rest)->Q Z'):Hv zP 322 [.p n 0] (some D5) Z Q:=by
 refine bo kZ ?_
 conv=>whnf
 repeat'((first|clear U K|apply st|(apply zk;intro K U)|refine zY ?_|refine zs fun Z hs=>?_|refine sZ rfl ?_|refine zo fun nn hnn Z hs=>?_|fail)<;>conv=>whnf)
 exact hq _ (hs.less (Ku _ _))
def qY {Z:AE} {n:Nat} {x:V} {rest:List At} (hs:Sat Z (.box n [x]::rest)) {Q:AE->Prop} (hq: ∀Z',Sat Z' (.box n [x]::rest)->Q Z'):Hv zP 322 [.p n 0] none Z Q:=by
 refine bo kZ ?_;refine zz ?_;(repeat clear U K);repeat intro K U
 exact hq _ hs
def eV (p:Prog) (nO:Nat):BT zP 280 [.f (.func 281) [] [.rp (BG p),.p nO 0]] [.box nO [.l [] true]] fun r post=>r= .ret (.b (BY p).isSome)/\ ∃v s,post= [.box nO [v],.own v 1 (iL s)]/\(BY p=none\/BY p=some s):=by
 intro Z hs;refine wh kZ ?_
 conv=>whnf
 repeat'((first|clear U K|apply st|(apply zk;intro K U)|refine zo fun nn hnn Z hs=>?_|fail)<;>conv=>whnf)
 refine BN ?_;refine(dQ p nO).use (rest:=[.box nn [.b false]]) (hs.perm (.swap _ _ _)) ?_;clear hs hnn;rintro r post Z hq hs;unfold szP at hq;cases h:BY p with
 | none=>
   rw[h]at hq;obtain⟨rfl,v,s,rfl⟩:=hq
   conv=>whnf
   repeat'((first|clear U K|apply st|fail)<;>conv=>whnf)
   refine qX (rest:=[.box nO [v],.own v 1 (iL s)]) (hs.perm NV) fun Z hs=>?_
   refine zz ?_;(repeat clear U K);repeat intro K U
   exact AI ⟨_,⟨by rw[h];rfl,v,s,rfl,.inl h⟩,hs.less (Ku _ _)⟩
 | some s=>
   rw[h]at hq;obtain⟨rfl,v,rfl⟩:=hq
   conv=>whnf
   repeat'((first|clear U K|apply st|(apply zk;intro K U)|refine zs fun Z hs=>?_|fail)<;>conv=>whnf)
   replace hs:Sat Z ([.box nO [v],.own v 1 (iL s)]++[.box nn [.b true]]):=hs;refine qY (x:= .b true) (rest:=[.box nO [v],.own v 1 (iL s)]) (hs.perm NV) fun Z hs=>?_
   refine zz ?_;(repeat clear U K);repeat intro K U
   exact AI ⟨_,⟨by rw[h];rfl,v,s,rfl,.inr h⟩,hs.less (Ku _ _)⟩
def ke (p:Prog):BT zP 222 [.a (BG p)] [] fun r post=> ∃v s,r= .ret (.t [v,.b (BY p).isSome])/\post= [.own v 1 (iL s)]/\(BY p=none\/BY p=some s):=by
 intro Z hs;refine xZ kZ ?_
 conv=>whnf
 repeat'((first|clear U K|apply st|(apply zk;intro K U)|refine zo fun nn hnn Z hs=>?_|fail)<;>conv=>whnf)
 refine(eV p nn).use (rest:=[]) (by simpa using hs) ?_;clear hs;rintro r post Z ⟨rfl,v,s,rfl,hl⟩ hs;refine zz ?_;(repeat clear U K);repeat intro K U
 exact AI ⟨_,⟨v,s,rfl,rfl,hl⟩,hs.less (.cons _ (.cons₂ _ (JW _)))⟩
def Xg (p:Prog):Pure zP 150 [.a (BG p)] (eI (if(BY p).isSome then 0 else 2)):=by
 refine Pure.of ?_;have hz:=ke p;cases h:(BY p).isSome<;>rw[h]at hz
 all_goals
  refine yL kZ ?_;have hs:=Sn;refine zz ?_;(repeat clear U K);repeat intro K U
  refine hz.use (rest:=[]) (by simpa using hs) ?_;clear hs;rintro r post Z ⟨v,s,rfl,rfl,-⟩ hs;refine zz ?_;(repeat clear U K);repeat intro K U
  exact AI rfl
def AAc {p:Prog} (h:(BY p).isSome=true):Bq p.AM<=40:=by
 obtain⟨hh,-⟩:=Fg h;simp only[DA,A9,Cc]at hh;exact(M3 hh.1).2.1
def Yu {p:Prog} (h:(BY p).isSome=true):p.AM.length<=10:=by
 obtain⟨hh,-⟩:=Fg h;simp only[DA,A9,Cc]at hh;exact(M3 hh.1).2.2
def gx {p:Prog} (h:(BY p).isSome=true):DB (AL p):=by
 obtain⟨hh,-⟩:=Fg h;simp only[DA,A9,Cc]at hh;exact(M3 hh.1).1
def cL (p:Prog):Pure zP 92 [.a (BG p)] (if(BY p).isSome then .t [.a (A0 (AL p)),eI 0]else .t [.a [.l [] true,.l [] true],eI 2]):=by
 have hz:=Xg p;have hM:=Mx;cases h:(BY p).isSome<;>rw[h]at hz
 .simp only[L2,if_false]at hz ⊢
  refine r8 kZ ?_;have hs:=Sn
  conv=>whnf
  repeat'((first|clear U K|apply st|(apply zk;intro K U)|refine zY ?_|refine zs fun Z hs=>?_|refine hz.use ?_|(refine zb (fun hc=>?_) (fun hc=>?_)<;>try exact⟨⟩)|refine zo fun nn hnn Z hs=>?_|fail)<;>conv=>whnf)
  all_goals exact AF rfl
 .simp only[if_true]at hz ⊢
  have hm:=AAc h;have hc10:=Yu h;refine r8 kZ ?_;have hs:=Sn
  conv=>whnf
  repeat'((first|clear U K|apply st|(apply zk;intro K U)|refine zY ?_|refine zs fun Z hs=>?_|refine hz.use ?_|refine Pure.use (Wa p (by omega) (by omega)) ?_|(refine zb (fun hc=>?_) (fun hc=>?_)<;>try exact⟨⟩)|refine zo fun nn hnn Z hs=>?_|fail)<;>conv=>whnf)
  all_goals exact AF rfl
end Go.Gl
namespace Go.Gl
open Go.Proofs
attribute [local irreducible] Au Am Ab AR AK AY AQ AS AJ AX AN AP Ao Az Sat AU Ax Ad W
abbrev rkC (p:Prog) (L:Nat):List V:=BG p++(A0 (AL p)++[.m L])
abbrev UC (p:Prog) (L:Nat):V:= .rp (rkC p L)
abbrev kM (x:Int×Int):V:= .a [eI x.1,eI x.2]
def LL (p:Prog) (M:List (Int×Int)):List (V×V):=M.map fun x=>(kM x,.b (Gg p x.1 x.2))
def Qv (p:Prog) (M:List (Int×Int)): ∀kv∈LL p M,BW (.a [.i64,.i64]) kv.1=true:=by
 intro kv h;obtain⟨e,_,rfl⟩:=IX.1 h;rfl
def ri (x y:Int×Int):D0 (kM x) (kM y)=(x==y):=by
 obtain⟨a,b⟩:=x;obtain⟨c,d⟩:=y;have e:D0 (kM (a,b)) (kM (c,d))=(a==c&&b==d):=by simp[D0,Bv,kM]
 rw[e];rfl
def W7 (p:Prog) (x:Int×Int): ∀(M:List (Int×Int)),Cn (kM x) (LL p M)=if M.contains x then some (.b (Gg p x.1 x.2))else none
 | []=>rfl
 | y ::r=>by
   rw[LL,E3,Cn,ri,List.contains_cons];cases h:x==y
   .rw[cond_false,Bool.false_or]
    exact W7 p x r
   .rw[cond_true,Bool.true_or,if_pos rfl]
    have:x=y:=by simpa using h
    rw[this]
def bE (p:Prog) (x:Int×Int): ∀(M:List (Int×Int)),M.contains x=false->DX (kM x) (.b (Gg p x.1 x.2)) (LL p M)=LL p (M++[x])
 | [],_=>rfl
 | y::r,h=>by
   rw[List.contains_cons,Bool.or_eq_false_iff]at h;have ih:=bE p x r h.2;simp only[LL]at ih;rw[LL,E3,DX,ri,h.1,cond_false,ih];rfl
def kx (p:Prog):BT zP 114 [.a (BG p)] [] fun r post=>if(BY p).isSome then∃L,r= .ret (UC p L)/\post= [.map L []]else r= .ret .pn/\post= []:=by
 intro Z hs;have hw:=cL p;cases h:(BY p).isSome<;>rw[h]at hw
 .simp only[L2,if_false]at hw ⊢
  refine jZ kZ ?_
  conv=>whnf
  repeat'((first|clear U K|apply st|(apply zk;intro K U)|refine zY ?_|refine zs fun Z hs=>?_|refine hw.use ?_|(refine zb (fun hc=>?_) (fun hc=>?_)<;>try exact⟨⟩)|refine zo fun nn hnn Z hs=>?_|fail)<;>conv=>whnf)
  exact AI ⟨_,⟨rfl,rfl⟩,hs.less (JW _)⟩
 .simp only[if_true]at hw ⊢
  refine jZ kZ ?_
  conv=>whnf
  repeat'((first|clear U K|apply st|(apply zk;intro K U)|refine zY ?_|refine zs fun Z hs=>?_|refine hw.use ?_|(refine zb (fun hc=>?_) (fun hc=>?_)<;>try exact⟨⟩)|refine zo fun nn hnn Z hs=>?_|fail)<;>conv=>whnf)
  exact AI ⟨_,⟨nn,rfl,rfl⟩,hs.less (.cons₂ _ (JW _))⟩
def AAl (p:Prog) (L:Nat) (m:Int):Pure zP 317 [eI m,.rp [UC p L]] (.b (!BM p m)):=by
 refine wB kZ ?_;have hs:=Sn
 conv=>whnf
 repeat'((first|clear U K|apply st|(apply zk;intro K U)|refine zY ?_|refine za (fun hc=>?_) fun hc=>?_|fail)<;>conv=>whnf)
 .refine AF ?_
  have e1:decide (0<=m)=true:=decide_eq_true hc;rw[BM,e1,EA,B2];show V.b (decide (m≥(p.methods.length:Int)))=_;by_cases hl:m<(p.methods.length:Int)
  .rw[decide_eq_true hl,decide_eq_false (by omega)];rfl
  .rw[decide_eq_false hl,decide_eq_true (by omega)];rfl
 .refine AF ?_
  rw[BM,decide_eq_false (by omega)];rfl
def JV {g:FuncId} {fi ca:List V} {f:Int->Bool} {xs:List Int} (b:Bool) (h: ∀y∈xs,Pure zP g (fi++[eI y]++ca) (.b (f y))):Pure zP 49 [.l (iL xs) b,.f (.func g) fi ca] (.b (xs.any f)):=by
 have:=G1 g fi ca (fun _=>[]) (fun y (_:Unit)=>(f y,())) (fun y _=>y∈xs) (RY fun y hy=>h y hy) xs b () (HZ fun y hy _=>hy);rw[M4]at this;exact Pure.of (Au.mono (this emp Sat.nil) fun r Z' ⟨post,⟨h1,h2⟩,h3⟩=>h1)
def AAm (p:Prog) (L:Nat) (l:List Int) (b:Bool):Pure zP 272 [UC p L,.l (iL l) b] (.b (l.all (BM p))):=by
 have hc:=fun b=>JV (g:=317) (fi:=[]) (ca:=[.rp [UC p L]]) (f:=fun m=> !BM p m) (xs:=l) b fun y _=>AAl p L y
 refine jP kZ ?_;have hs:=Sn
 conv=>whnf
 repeat'((first|clear U K|apply st|(apply zk;intro K U)|refine Pure.use (hc _) ?_|fail)<;>conv=>whnf)
 all_goals exact AF (by rw[List.all_eq_not_any_not];rfl)
def uU (l:List Int) (b:Bool):Pure zP 272 [.pn,.l (iL l) b] (.b false):=by
 refine jP kZ ?_;have hs:=Sn;exact zW
def qx (p:Prog) (L:Nat) (m n:Int) (hm:BM p m=true) (hn:BM p n=true):Pure zP 273 [UC p L,eI m,eI n] (.b (Dn p m n)):=by
 refine Pure.fit (by kernel_rfl) fun hf=>?_
 have hxm:=CE hm;have hxn:=CE hn;simp only[BM,A9,Cc]at hm hn;refine wx kZ ?_;have hs:=Sn
 conv=>whnf
 repeat'((first|clear U K|apply st|(apply zk;intro K U)|refine zY ?_|refine rk ?_ ?_|exact fun s e=>by cases e;rfl|refine zs fun Z hs=>?_|refine za (fun hc=>?_) fun hc=>?_|refine zo fun nn hnn Z hs=>?_|fail)<;>conv=>whnf)
 all_goals exact AF (by simp[Dn, *])
def qE {p:Prog} (h:(BY p).isSome=true): ∀x∈p.methods,DM (AL p) x.fact=true:=fun x hx=>by
 have:=(Fg h).2 x hx;simp only[P4,A9]at this;exact this.2.2.2.2.1
end Go.Gl
namespace Go.Gl
open Go.Proofs
def gd {Z:AE} {α:Type} {enc:α->List V} {xs:List α} {f:Bool} {sz:Nat} {ki:IntKind} {j:Int} {K:V->AE->Prop} (h:K (.l ((xs.drop j.toNat).map enc) f) Z) (h0:0<=j) (h1:j<=xs.length) (hs: ∀x,(enc x).length=sz) :
    AQ Z sz (.l (xs.map enc) f) (some (.i ki j)) none none K:=by
 unfold AQ;refine⟨fun e he=>?_,?_⟩
 .obtain⟨x,_,rfl⟩:=IX.1 he
  exact hs x
 .simp only[Of,B2]
  refine⟨by omega,by omega,by omega,?_⟩;rw[List.take_of_length_le (by simp)];simpa[List.map_drop]using h
attribute [local irreducible] Au Am Ab AR AK AY AQ AS AJ AX AN AP Ao Az Sat AU Ax Ad W
abbrev rB (T:List (List Bool)):V:= .l (T.map fun r=>[.l (bL r) false]) false
def Dp (T:List (List Bool)) (m n:Int):Bool:=(T.getD m.toNat []).getD n.toNat false
structure JY (T:List (List Bool)) (l:List Int):Prop where
 len:T.length<=16
 sq: ∀r∈T,r.length=T.length
 ins: ∀x∈l,0<=x/\x<(T.length:Int)
 many:l.length<=16
def rM {T:List (List Bool)} {l:List Int} (h:JY T l) {m n:Int} (hm:0<=m/\m<(T.length:Int)) (hn:0<=n/\n<(T.length:Int)): ∃r,T[m.toNat]? =some r/\r[n.toNat]? =some (Dp T m n):=by
 have h1:m.toNat<T.length:=by omega
 refine⟨T[m.toNat],Cr h1,?_⟩;have h2:=h.sq T[m.toNat] (List.getElem_mem h1);have h3:n.toNat<T[m.toNat].length:=by omega
 rw[Cr h3];simp only[Dp,C4,Cr h1,Option.getD_some,Cr h3]
def RT (l:List Int) (f:Bool) (i:Nat) (ha:i<l.length) (hl:l.length<=16):Pure zP 319 [.l (iL l) f,eI (i:Int)] (.l (iL (l.eraseIdx i)) false):=by
 have hM:=Mx;refine vw kZ ?_;have hs:=Sn
 conv=>whnf
 repeat'((first|clear U K|apply st|(apply zk;intro K U)|refine zY ?_|(rw[wrap64 (by omega) (by omega)];refine gd ?_ (by omega) (by omega) fun _=>rfl)|fail)<;>conv=>whnf)
 replace hs:=Dw hs 1;refine FV hs 0 (xs:=[]) (ys:=l.take (i:Int).toNat) rfl (by simp;omega) Bm fun v Z hs=>?_
 refine zz ?_;(repeat clear U K);repeat intro K U
 refine FV hs 0 (xs:=[]++l.take (i:Int).toNat) (ys:=l.drop ((i:Int)+1).toNat) rfl (by simp;omega) Bm fun v Z hs=>?_
 refine zz ?_;(repeat clear U K);repeat intro K U
 have e: []++l.take (i:Int).toNat++l.drop ((i:Int)+1).toNat=l.eraseIdx i:=by
  rw[List.eraseIdx_eq_take_drop_succ,List.nil_append,GB,show((i:Int)+1).toNat=i+1 by omega]
 rw[e]at hs;exact A8 (hs.GC 0 rfl)
def HR (A:Int->Int->Bool) (l:List Int) (i k:Nat):Bool:=(List.range k).all fun j=>j==i||A (l.getD i 0) (l.getD j 0)
def Ei (A:Int->Int->Bool) (l:List Int):Option Nat:=(List.range l.length).find? fun i=>HR A l i l.length
def Ns (A:Int->Int->Bool) (l:List Int):Int:=match Ei A l with|some i=>i|none=> -1
def TB (A:Int->Int->Bool) (l:List Int) (i k:Nat):HR A l i (k+1)=(HR A l i k&&(k==i||A (l.getD i 0) (l.getD k 0))):=by
 rw[HR,List.range_succ,List.all_append,HR];simp
def CS {l:List Int} {k:Nat} {x:Int} (h:l[k]? =some x):l.getD k 0=x:=by rw[C4,h];rfl
def ed {A:Int->Int->Bool} {l:List Int} {i:Nat} (h:Ei A l=some i):i<l.length:=by
 have:=List.mem_of_find?_eq_some h;simpa using this
def ly {A:Int->Int->Bool} {l:List Int} {i:Nat} (hi:i<l.length) (h:HR A l i l.length=true) (hn: ∀j,j<i->HR A l j l.length=false):Ns A l=i:=by
 have:Ei A l=some i:=by
  rw[Ei,List.find?_range_eq_some];exact⟨h,List.mem_range.2 hi,fun j hj=>by rw[hn j hj];rfl⟩
 rw[Ns,this]
def Zc {A:Int->Int->Bool} {l:List Int} (hn: ∀j,j<l.length->HR A l j l.length=false):Ns A l= -1:=by
 have:Ei A l=none:=by
  rw[Ei,List.find?_range_eq_none];exact fun j hj=>by rw[hn j hj];rfl
 rw[Ns,this]
def lz (T : List (List Bool)) (l:List Int) (f:Bool) (h:JY T l):Pure zP 318 [rB T,.l (iL l) f] (eI (Ns (Dp T) l)):=by
 have hM:=Mx;have hm:=h.many;have hT:=h.len;refine wA kZ ?_;have hs:=Sn;refine zz ?_;(repeat clear U K);repeat intro K U
 refine Bw l.length (fun i (_:Unit)=>[(5,eI (A6 i))]) (fun _ _=>[]) (fun i _=> ∀j,j<i->HR (Dp T) l j l.length=false) () rfl (fun j hj=>by omega) hs ?_;clear hs;rintro i - Z hi hn hs;rcases A7 l hi with⟨x,hx,hlt⟩|hie
 .have hxi:=h.ins x (Bo hx)
  refine zz ?_;(repeat clear U K);repeat intro K U
  refine Bw l.length (fun k (b:Bool)=>[(6,.b b),(7,eI (A6 k))]) (fun _ _=>[]) (fun k b=>b=HR (Dp T) l i k) true rfl rfl hs ?_;clear hs;rintro k b Z hk hb hs;rcases A7 l hk with⟨y,hy,hklt⟩|hke
  .have hyi:=h.ins y (Bo hy)
   obtain⟨r,hr,hry⟩:=rM h hxi hyi;have hsu:=TB (Dp T) l i k;rw[CS hx,CS hy,<-hb]at hsu;have hci:A6 i=i:=Ae (by omega);have hck:A6 k=k:=Ae (by omega);have hrl:=h.sq r (Bo hr);cases b
   .refine zz ?_;(repeat clear U K);repeat intro K U
    exact⟨hklt,false,rfl,(hsu.trans (by simp)).symm,hs⟩
   .by_cases hki:k=i
    .conv=>whnf
     repeat'((first|clear U K|apply st|(apply zk;intro K U)|refine zY ?_|(refine zb (fun hc=>?_) (fun hc=>?_)<;>try exact⟨⟩)|fail)<;>conv=>whnf)
     exact⟨hklt,true,rfl,(hsu.trans (by simp[hki])).symm,hs⟩
    .conv=>whnf
     repeat'((first|clear U K|apply st|(apply zk;intro K U)|refine zY ?_|(refine zb (fun hc=>?_) (fun hc=>?_)<;>try exact⟨⟩)|fail)<;>conv=>whnf)
     exact⟨hklt,Dp T x y,rfl,(hsu.trans (by simp[hki])).symm,hs⟩
  .conv=>whnf
   repeat'((first|clear U K|apply st|(apply zk;intro K U)|refine zY ?_|refine za (fun hc=>?_) fun hc=>?_|fail)<;>conv=>whnf)
   .exact AF (by rw[ly hlt (by rw[<-hke,<-hb,hc]) hn,Ae (by omega)])
   .refine⟨hlt,(),rfl,fun j hj=>?_,hs⟩
    rcases Nat.lt_or_ge j i with h'|h'
    .exact hn j h'
    .rw[show j=i by omega,<-hke,<-hb,hc]
 .refine zz ?_;(repeat clear U K);repeat intro K U
  exact AF (by rw[Zc fun j hj=>hn j (by omega)])
def Be (A:Int->Int->Bool):Nat->List Int->List Int×Bool
 | 0,_=>([],false)
 | k+1,l=>match Ei A l with
   | none=>([],!l.isEmpty)
   | some i=>(l.getD i 0::(Be A k (l.eraseIdx i)).1,(Be A k (l.eraseIdx i)).2)
def JY.less {T:List (List Bool)} {l:List Int} (h:JY T l) (i:Nat):JY T (l.eraseIdx i):=
 ⟨h.len,h.sq,fun x hx=>h.ins x (List.mem_of_mem_eraseIdx hx),Nat.le_trans (List.length_eraseIdx_le _ _) h.many⟩
def XR (T:List (List Bool)) (l:List Int) (f:Bool) (h:JY T l):Pure zP 275 [rB T,.l (iL l) f] (.t [.l (iL (Be (Dp T) l.length l).1) false,.b (Be (Dp T) l.length l).2]):=by
 have hM:=Mx;refine wq kZ ?_;have hs:=Sn;refine zz ?_;(repeat clear U K);repeat intro K U
 refine D1 (fun(x:List Int×Bool×V×List Int)=>x.1.length) (fun x=>[(1,.l (iL x.1) x.2.1),(6,x.2.2.1)]) (fun x=>[.own x.2.2.1 1 (iL x.2.2.2)])
  (fun x=>JY T x.1/\x.2.2.2.length+x.1.length<=16/\Be (Dp T) l.length l=(x.2.2.2++(Be (Dp T) x.1.length x.1).1,(Be (Dp T) x.1.length x.1).2)) (l,f,.l [] true,[]) rfl ⟨h,by simpa using h.many,by simp⟩ (Dw hs 1) ?_
 clear hs;rintro⟨l',f',v,out⟩ Z ⟨ho,hlen,hm⟩ hs;dsimp only at ho hlen hm hs;dsimp only;have c1:=lz T l' f' ho;have hll:out.length<AZ/\(out.length+1)*8<=140737488355328:=by omega
 by_cases hz:l'.length=0
 .conv=>whnf
  repeat'((first|clear U K|apply st|(apply zk;intro K U)|refine zY ?_|(refine zb (fun hc=>?_) (fun hc=>?_)<;>try exact⟨⟩)|fail)<;>conv=>whnf)
  rw[hz]at hm;simp only[Be,GA]at hm;rw[hm];exact A8 (.t (.cons (hs.GC 0 rfl) (.cons (.refl _) .nil)))
 .rw[Ns]at c1
  obtain⟨n,hn⟩: ∃n,l'.length=n+1:=⟨l'.length - 1,by omega⟩
  have hne:l'.isEmpty=false:=by cases l' with
   | nil=>simp at hz
   | cons=>rfl
  rw[hn,Be]at hm;cases hfo:Ei (Dp T) l' with
  | none=>
    rw[hfo]at c1 hm;dsimp only at c1 hm
    conv=>whnf
    repeat'((first|clear U K|apply st|(apply zk;intro K U)|refine zY ?_|refine zC ?_|(refine zb (fun hc=>?_) (fun hc=>?_)<;>try exact⟨⟩)|fail)<;>conv=>whnf)
    rw[hm,hne,GA];exact A8 (.t (.cons (hs.GC 0 rfl) (.cons (.refl _) .nil)))
  | some i=>
    rw[hfo]at c1 hm;dsimp only at c1 hm;have hi:=ed hfo;have c2:=RT l' f' i hi ho.many;obtain⟨x,hx⟩: ∃x,l'[i]? =some x:=⟨_,Cr hi⟩
    have hel:=List.length_eraseIdx_of_lt hi;rw[CS hx]at hm
    conv=>whnf
    repeat'((first|clear U K|apply st|(apply zk;intro K U)|refine zY ?_|refine aq fun v Z hs hsl=>?_|refine zC ?_|(refine zb (fun hc=>?_) (fun hc=>?_)<;>try exact⟨⟩)|fail)<;>conv=>whnf)
    refine⟨(l'.eraseIdx i,false,v,out++[x]),by dsimp only;omega,rfl,⟨ho.less i,by simp;omega,?_⟩,hs⟩;dsimp only;rw[hm,hel,show l'.length - 1=n by omega];simp
end Go.Gl
