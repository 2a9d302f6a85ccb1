import Derived.Test.YtcfkfhaedllcpaaGreatW14
import Derived.Test.YtcfkfhaedllcpaaGreatW23
import Derived.Test.YtcfkfhaedllcpaaGreatW25
import Derived.Test.YtcfkfhaedllcpaaGreatW27
set_option linter.all false
set_option linter.defProp false
set_option maxHeartbeats 8000000
noncomputable section
namespace Go.Gl
open Go.Proofs
attribute [local irreducible] A3 Aq Af AR AJ Ad AQ AT AK Ac AM AN Ax A5 Sat AX A4 Ah W
def HH {Z:AE} {X:List At} {L:Nat} {pre post:List Cx} {e:Cx} (h:Sat Z (X++B8 L (pre++e::post))):Sat Z (.box e.b [eI e.k.low,eI e.k.high,e.vn,eU e.k.B3,eU e.k.GV,.b e.k.whole,.b e.k.A0,e.vs]:: .own e.vn 1 (iL e.k.no):: .own e.vs 1 (iL e.k.AG)::(X++HF L (pre++e::post) pre post)):=by
 have h2:Sat Z (U9 e++(X++HF L (pre++e::post) pre post)):=h.perm ((List.Perm.append_left X (Vr L pre post e)).trans (by rw[<-Wx,<-Wx];exact RP.append_right _));exact h2
def EL {Z:AE} {X:List At} {L:Nat} {pre post:List Cx} {e e':Cx} (h1:e'.a=e.a) (h2:e'.p=e.p) (h3:e'.b=e.b) (h:Sat Z (U9 e'++(X++HF L (pre++e::post) pre post))):Sat Z (X++B8 L (pre++e'::post)):=by
 rw[<-UH h1 h2 h3]at h;exact h.perm ((List.Perm.append_left X (Vr L pre post e')).trans (by rw[<-Wx,<-Wx];exact RP.append_right _)).symm
def LS {α:Type} (a b c:α) (l:List α):(a::b::c::l).Perm (b::c::a::l):=(List.Perm.swap _ _ _).trans (.cons _ (.swap _ _ _))
def NT {α:Type} (a:α) (l:List α):(a::l).Perm (l++[a]):=(List.perm_append_singleton a l).symm
def nv (m:Nat) (k:Kn):Prop:=k.B3<18446744073709551616/\k.GV<18446744073709551616/\k.no.length<=m/\k.AG.length<=m
def mF (f:Fact) (c:Bool) (j:Nat) (a:Int) (p:List Int) (k:Kn):(DW f c j a p k).B3=k.B3:=by unfold DW;(repeat' split)<;>rfl
def rE (f:Fact) (c:Bool) (j:Nat) (a:Int) (p:List Int) (k:Kn):(DW f c j a p k).GV=k.GV:=by unfold DW;(repeat' split)<;>rfl
def xD (f:Fact) (c:Bool) (j:Nat) (a:Int) (p:List Int) (k:Kn):(DW f c j a p k).no=k.no:=by unfold DW;(repeat' split)<;>rfl
def ie (f:Fact) (c:Bool) (j:Nat) (a:Int) (p:List Int) (k:Kn):(DW f c j a p k).AG.length<=k.AG.length+1:=by
 unfold DW
 repeat' split
 .exact Sz _ _
 all_goals simp[Db]
def xC {m:Nat} {k:Kn} (h:nv m k) (f:Fact) (c:Bool) (j:Nat) (a:Int) (p:List Int):nv (m+1) (DW f c j a p k):=by
 obtain⟨h1,h2,h3,h4⟩:=h;refine⟨by rw[mF];exact h1,by rw[rE];exact h2,by rw[xD];omega,?_⟩;have:=ie f c j a p k;omega
def SF {k:Kn} (c:Bool) (h:k.A0=true):Db k c= {k with A0:=true}:=by simp[Db,h]
def QM {k:Kn} (c:Bool) (h:k.A0=false):Db k c= {k with A0:= !c}:=by simp[Db,h]
abbrev LI (a:Int) (p:List Int):List V:=[eI a,eI (p.length:Int),eI (p.getD 0 0),eI (p.getD 1 0)]
structure eg (f:Fact):Prop where
 op:f.op=2\/f.op=3\/f.op=4
 path:f.path.length<=2
 cls:f.op=2->0<=f.cls/\f.cls<64
 n: -1000000000<=f.n/\f.n<=1000000000
def nk (w : AI) (us:List Nat) {kf:Int->List Int->Kn} {L:Nat} {es:List Cx} (h:Dr kf es) (f:Fact) (c:Bool) (hl:eg f) {m:Nat} (hm:m<1000) (hb: ∀a p,nv m (kf a p)) :
    Bc zP 403 [Uh w us L,.a (xF f++[.b c])] (B8 L es) fun r post=>r= .ret (.t [])/\ ∃es',Dr (fun a p=>if a=f.arg/\p=f.path then Ck (DW f c f.path.length a p (kf a p)) f c else DW f c f.path.length a p (kf a p)) es'/\post=B8 L es':=by
 intro Z hs;have hM:=Mx;obtain⟨l1,l2,l3,l4⟩:=hl;refine sA kZ ?_;rw[show xF f++[V.b c]= [eI f.op,eI f.arg,.l (iL f.path) false,eI f.cls,eI f.n,.l (f.kids.map GB) false,.b c] from rfl]
 conv=>whnf
 repeat'((first|clear U K|apply st|(apply zk;intro K U)|refine zY ?_|refine zs fun Z hs=>?_|refine zo fun nn hnn Z hs=>?_|fail)<;>conv=>whnf)
 generalize nn=nx at *;refine(LZ w us h (a:=f.arg) (p:=[]) (by simp)).use (rest:=[.box nx (LI f.arg [])]) (hs.perm (NT _ _)) ?_;clear hs hnn;rintro r post Z ⟨es1,e1,got,rfl,rfl⟩ hs;have hek:=got.k;obtain⟨hea,hep⟩:=Kc.1 got.is;obtain⟨pre,post,rfl⟩:=List.append_of_mem got.mem;replace hs:=HH (X:=[.box nx (LI f.arg [])]) (hs.perm RP);cases hnd:e1.k.A0<;>rw[hnd]at hs
 all_goals
  conv=>whnf
  repeat'((first|clear U K|apply st|(apply zk;intro K U)|refine zY ?_|refine zs fun Z hs=>?_|fail)<;>conv=>whnf)
  obtain⟨e2,es2,hA,hB,hC⟩: ∃(e2:Cx) (es2:List Cx),(Dr (fun a p=>DW f c 0 a p (kf a p)) es2/\e2∈es2/\e2.is f.arg (f.path.take 0)=true)/\e2.b=e1.b/\Sat Z (.box nx (LI f.arg (f.path.take 0))::B8 L es2):=by
   refine⟨⟨e1.a,e1.p,e1.b,e1.vn,e1.vs,Db e1.k c⟩,_,⟨(got.inv.change e1.b e1.vn e1.vs (Db e1.k c)).congr fun a p=>?_,RT _ (.head _),got.is⟩,rfl,?_⟩
   .rw[mC,Uj,hea,hep,hek]
    by_cases ha:a=f.arg/\p= []
    .rw[if_pos ha,if_pos ha,ha.1,ha.2]
    .rw[if_neg ha,if_neg ha]
   .refine EL (X:=[.box nx (LI f.arg [])]) (e:=e1) rfl rfl rfl ?_
    first
     | (rw[SF c hnd];exact hs)
     | (rw[QM c hnd];exact hs)
  rw[<-hB];clear hs hnd got hek hea hep;refine B0 f.path.length (fun j (x:List Cx×Cx)=>[(31,eI (A8 j)),(5,.p x.2.b 0)]) (fun j x=> .box nx (LI f.arg (f.path.take j))::B8 L x.1) (fun j x=>Dr (fun a p=>DW f c j a p (kf a p)) x.1/\x.2∈x.1/\x.2.is f.arg (f.path.take j)=true) (es2,e2) rfl hA hC ?_;clear hA hC;generalize e2.b=b0 at *;clear hB e2 es2;rintro j ⟨es2,e2⟩ Z hj ⟨hinv,hmem,his⟩ hs;simp only at hinv hmem his hs
  have hek:e2.k=DW f c j f.arg (f.path.take j) (kf f.arg (f.path.take j)):=by
   have:=hinv.val e2 hmem;obtain⟨h1,h2⟩:=Kc.1 his;rw[this,h1,h2]
  have hok:nv (m+1) e2.k:=by rw[hek];exact xC (hb _ _) f c j _ _
  obtain⟨hea,hep⟩:=Kc.1 his;obtain⟨pre2,post2,rfl⟩:=List.append_of_mem hmem;replace hs:=HH (X:=[.box nx (LI f.arg (f.path.take j))]) hs;have hck:A8 j=j:=AO (by omega);rcases BC f.path hj with⟨s,hsj,hjlt⟩|hje
  .have hct:=fun b=>Dp e2.k.AG b s
   have hk4:=hok.2.2.2;have hsl0:jt e2.k s= {e2.k with AG:=JA e2.k.AG s}:=rfl
   have hne:f.path.take j++[s]≠f.path.take j:=by
    intro e;have:=congrArg List.length e;simp at this
   have hgd:f.path.getD j 0=s:=by rw[DH,hsj];rfl
   have htk:f.path.take (j+1)=f.path.take j++[s]:=AL hsj;cases hcB:e2.k.AG.contains s
   all_goals
    rw[hcB]at hct
    conv=>whnf
    repeat'((first|clear U K|apply st|(apply zk;intro K U)|refine zY ?_|refine zs fun Z hs=>?_|refine aq fun v Z hs hsl=>?_|refine Pure.an (hct false) (.cons (hs.GW 2 rfl) (.cons (.refl _) .nil)) rfl ?_|refine Pure.use (Oh f.arg (f.path.take j) s (by rw[Mf];omega)) ?_|fail)<;>conv=>whnf)
   refine(eK (.inl hsl)).use (rest:=_) (hs.front (j:=2) rfl) ?_;clear hs;rintro r post Z ⟨rfl,rfl⟩ hs;replace hs:Sat Z (.box e2.b [eI e2.k.low,eI e2.k.high,e2.vn,eU e2.k.B3,eU e2.k.GV,.b e2.k.whole,.b e2.k.A0,v]:: .own e2.vn 1 (iL e2.k.no):: .own v 1 (iL ((e2.k.AG++[s]).mergeSort G8))::([.box nx (LI f.arg (f.path.take j))]++HF L (pre2++e2::post2) pre2 post2)):=hs.perm (LS _ _ _ _)
   conv=>whnf
   repeat'((first|clear U K|apply st|(apply zk;intro K U)|refine zY ?_|refine zs fun Z hs=>?_|refine Pure.use (Oh f.arg (f.path.take j) s (by rw[Mf];omega)) ?_|fail)<;>conv=>whnf)
   have hs3: ∃vs3,Sat Z (.box nx (LI f.arg (f.path.take j++[s]))::B8 L (pre2++⟨e2.a,e2.p,e2.b,e2.vn,vs3,jt e2.k s⟩::post2)):=⟨v,EL (X:=[_]) (e:=e2) rfl rfl rfl (by rw[hsl0,JA,if_neg (by rw[hcB];decide)];exact hs)⟩
   rotate_left
   have hs3: ∃vs3,Sat Z (.box nx (LI f.arg (f.path.take j++[s]))::B8 L (pre2++⟨e2.a,e2.p,e2.b,e2.vn,vs3,jt e2.k s⟩::post2)):=⟨e2.vs,EL (X:=[_]) (e:=e2) rfl rfl rfl (by rw[hsl0,JA,if_pos hcB];exact hs)⟩
   all_goals
    clear hs;obtain⟨vs3,hs⟩:=hs3;have hinv3:=hinv.change e2.b e2.vn vs3 (jt e2.k s);refine(LZ w us hinv3 (a:=f.arg) (p:=f.path.take j++[s]) (by rw[RQ,Mf];simp;omega)).use (rest:=[.box nx (LI f.arg (f.path.take j++[s]))]) (hs.perm (NT _ _)) ?_;clear hs;rintro r post Z ⟨es4,e4,got,rfl,rfl⟩ hs;have hek4:=got.k;obtain⟨hea4,hep4⟩:=Kc.1 got.is;obtain⟨pre4,post4,rfl⟩:=List.append_of_mem got.mem;replace hs:=HH (X:=[.box nx (LI f.arg (f.path.take j++[s]))]) (hs.perm RP);cases hnd:e4.k.A0<;>rw[hnd]at hs
    all_goals
     conv=>whnf
     repeat'((first|clear U K|apply st|(apply zk;intro K U)|refine zY ?_|refine zs fun Z hs=>?_|fail)<;>conv=>whnf)
     refine⟨hjlt,(pre4++⟨e4.a,e4.p,e4.b,e4.vn,e4.vs,Db e4.k c⟩::post4,⟨e4.a,e4.p,e4.b,e4.vn,e4.vs,Db e4.k c⟩),rfl,⟨(got.inv.change e4.b e4.vn e4.vs (Db e4.k c)).congr fun a p=>?_,RT _ (.head _),by rw[htk];exact got.is⟩,?_⟩
     .rw[mD f c hjlt,Uj,hea4,hep4,htk,hgd]
      by_cases h1:a=f.arg/\p=f.path.take j++[s]
      .rw[if_pos h1,if_pos h1,hek4,Uj,hea,hep,if_neg (fun h=>hne h.2),h1.1,h1.2]
      .rw[if_neg h1,if_neg h1,Uj,hea,hep]
       by_cases h2:a=f.arg/\p=f.path.take j
       .rw[if_pos h2,if_pos h2,hek,h2.1,h2.2]
       .rw[if_neg h2,if_neg h2]
     .rw[htk]
      refine EL (X:=[.box nx (LI f.arg (f.path.take j++[s]))]) (e:=e4) rfl rfl rfl ?_
      first
       | (rw[SF c hnd];exact hs)
       | (rw[QM c hnd];exact hs)
  .have etk:f.path.take j=f.path:=Au hje
   rw[etk]at his hs hek hep;refine zz ?_;(repeat clear U K);repeat intro K U
   refine(vH f c l1 l3 hok.1 hok.2.1 (by have:=hok.2.2.1;omega) l4).use (rest:=[.box nx (LI f.arg f.path)]++HF L (pre2++e2::post2) pre2 post2) hs ?_;rintro r post Z ⟨rfl,vn',rfl⟩ hs
   conv=>whnf
   repeat'((first|clear U K|apply st|fail)<;>conv=>whnf)
   refine AU ⟨_,⟨rfl,_,(hinv.change e2.b vn' e2.vs (Ck e2.k f c)).congr fun a p=>?_,rfl⟩,(EL (X:=[.box nx (LI f.arg f.path)]) (e:=e2) (e':=⟨e2.a,e2.p,e2.b,vn',e2.vs,Ck e2.k f c⟩) rfl rfl rfl hs).less (Mc _ _)⟩;rw[Uj,hea,hep,hek,<-hje];by_cases h1:a=f.arg/\p=f.path
   .rw[if_pos h1,if_pos h1,h1.1,h1.2]
   .rw[if_neg h1,if_neg h1]
def vM (w:AI) (us:List Nat) {kf:Int->List Int->Kn} {L:Nat} {es:List Cx} (h:Dr kf es) (l:Fact) (hl:eg (Av l).1) {m:Nat} (hm:m<1000) (hb: ∀a p,nv m (kf a p)) :
    Bc zP 403 [Uh w us L,.a (KQ l)] (B8 L es) fun r post=>r= .ret (.t [])/\ ∃es',Dr (fun a p=>C5 a p (kf a p) l) es'/\post=B8 L es':=fun Z hs=>
 A3.mono (nk w us h (Av l).1 (Av l).2 hl hm hb Z hs) fun r Z' ⟨post,⟨h1,es',h2,h3⟩,h4⟩=>⟨post,⟨h1,es',h2.congr fun a p=>(rF a p (kf a p) l).symm,h3⟩,h4⟩
def Xl (ls:List Fact):Prop:= ∀l∈ls,eg (Av l).1
def fX {ls:List Fact} (h:Xl ls) (a:Int) (p:List Int):nv ls.length (kn ls a p):=by
 have hc:I0 64 ls:=fun l hl ho=>(h l hl).cls ho
 obtain⟨h1,h2⟩:=mH hc a p;obtain⟨h3,h4⟩:=fY a p ls k0;exact⟨by simpa using h1,by simpa using h2,by simpa[kn,k0]using h3,by simpa[kn,k0]using h4⟩
def yc:Dr (kn []) []:=⟨fun x hx=>(by cases hx),fun a p _=>rfl,.nil,fun x hx=>(by cases hx)⟩
def gv (w:AI) (us:List Nat) (ls:List Fact) (b:Bool) (h:Xl ls) (hlen:ls.length<900) :
    Bc zP 397 [.rp (wC w us),.l (E7 ls) b] [] fun r post=> ∃L es,r= .ret (Uh w us L)/\Dr (kn ls) es/\post=B8 L es:=by
 intro Z hs;have hM:=Mx;refine sG kZ ?_
 conv=>whnf
 repeat'((first|clear U K|apply st|(apply zk;intro K U)|refine zo fun nn hnn Z hs=>?_|fail)<;>conv=>whnf)
 generalize nn=L at *;refine B0 ls.length (fun k (x:List Cx)=>[(14,eI (A8 k))]) (fun k x=>B8 L x) (fun k x=>Dr (kn (ls.take k)) x) [] rfl yc hs ?_;clear hs hnn;rintro k es Z hk hinv hs;rcases BC ls hk with⟨l,hlk,hlt⟩|hke
 .have hlm:l∈ls:=B1 hlk
  have htk:ls.take (k+1)=ls.take k++[l]:=AL hlk;have hbk: ∀a p,nv (ls.take k).length (kn (ls.take k) a p):=fX fun x hx=>h x (List.mem_of_mem_take hx)
  conv=>whnf
  repeat'((first|clear U K|apply st|(apply zk;intro K U)|refine zY ?_|refine zs fun Z hs=>?_|refine zo fun nn hnn Z hs=>?_|fail)<;>conv=>whnf)
  rename_i nb hnb _ hs;generalize nn=n7 at *;refine(vM w us hinv l (h l hlm) (m:=(ls.take k).length) (by rw[Mf];omega) hbk).use (rest:=[.box n7 (KQ l)]) (hs.perm (NT _ _)) ?_;clear hs;rintro r post Z ⟨rfl,es',hinv',rfl⟩ hs;refine zz ?_;(repeat clear U K);repeat intro K U
  refine⟨hlt,es',rfl,?_,hs.less (List.sublist_append_left _ _)⟩;rw[htk];exact hinv'.congr fun a p=>(mG _ _ _ _).symm
 .have etk:ls.take k=ls:=Au hke
  rw[etk]at hinv;refine zz ?_;(repeat clear U K);repeat intro K U
  exact AU ⟨_,⟨L,es,rfl,hinv,rfl⟩,hs⟩
structure JB (w:AI) (kf:Int->List Int->Kn):Prop where
 ok: ∀a p,nv 1000 (kf a p)
 low: ∀a p,-1000000000<=(kf a p).low/\(kf a p).low<=1000000000
 short: ∀a p,2<=p.length->(kf a p).AG= []
 AG: ∀a p,∀s∈(kf a p).AG,0<=s/\s<w.owner.length
abbrev Hx (L:Nat) (pre post:List Cx) (e:Cx) (s:List Cx):List At:=
 .box e.b [eI e.k.low,eI e.k.high,e.vn,eU e.k.B3,eU e.k.GV,.b e.k.whole,.b e.k.A0,e.vs]:: .own e.vn 1 (iL e.k.no)::HF L (pre++e::(post++s)) pre (post++s)
def wD {Z:AE} {L:Nat} {pre post:List Cx} {e:Cx} {s:List Cx} (h:Sat Z (B8 L (pre++e::(post++s)))):Sat Z (.own e.vs 1 (iL e.k.AG)::Hx L pre post e s):=
 (HH (X:=[]) h).perm ((LS _ _ _ _).symm)
def pc {Z:AE} {L:Nat} {pre post:List Cx} {e:Cx} {s:List Cx} (h:Sat Z (.own e.vs 1 (iL e.k.AG)::Hx L pre post e s)):Sat Z (B8 L (pre++e::(post++s))):=
 EL (X:=[]) (e:=e) (e':=e) rfl rfl rfl (h.perm (LS _ _ _ _))
def PD (kf:Int->List Int->Kn) (L:Nat) (es:List Cx) (post:List At):Prop:= ∃es',Q5 es es'/\Dr kf es'/\post=B8 L es'
def mz (w:AI) (us:List Nat) {kf:Int->List Int->Kn} {L:Nat} {pre post:List Cx} {e:Cx} {a:Int} {p:List Int} (hp:p.length<2) :
    Nz zP (.f (.func 415) [] [.rp [Uh w us L],.rp (LI a p)]) eI (fun s=> .own e.vs 1 (iL e.k.AG)::Hx L pre post e s) (fun y=> !(kf a (p++[y])).A0) (fun s=>Dr kf (pre++e::(post++s))/\ ∀x∈s,x.k=k0) (fun _=>True):=by
 rintro y s - ⟨hj,hj0⟩ Z hs;refine By ?_;show A3 zP 415 ([]++[eI y]++[.rp [Uh w us L],.rp (LI a p)]) Z _;refine rj kZ ?_
 conv=>whnf
 repeat'((first|clear U K|apply st|(apply zk;intro K U)|refine zY ?_|refine rk ?_ ?_|exact fun s e=>by cases e;rfl|refine Pure.use (Oh a p y hp) ?_|fail)<;>conv=>whnf)
 refine(LZ w us hj (a:=a) (p:=p++[y]) (by simp;omega)).use (rest:=[]) (by simpa using pc hs) ?_;clear hs;rintro r post' Z ⟨es4,e4,got,rfl,rfl⟩ hs;have hek4:=got.k;obtain⟨new,he4,hnew⟩:=got.ext;have hinv:=got.inv;obtain⟨pre4,post4,he5⟩:=List.append_of_mem got.mem;rw[Ip,he5]at hs;replace hs:=HH (X:=[]) hs;refine zz ?_;(repeat clear U K);repeat intro K U
 refine AU ⟨by rw[hek4],s++new,⟨?_,fun x hx=>?_⟩,?_⟩
 .rw[he4]at hinv
  simpa using hinv
 .rcases E4.1 hx with hx|hx
  .exact hj0 x hx
  .exact hnew x hx
 .have h2:=EL (X:=[]) (e:=e4) (e':=e4) rfl rfl rfl hs
  rw[<-he5,he4]at h2;refine wD ?_;simpa using h2
def m4 (w:AI) (us:List Nat) {kf:Int->List Int->Kn} (hr:JB w kf) {L:Nat} {es:List Cx} (h:Dr kf es) {a:Int} {p:List Int} (hp:p.length<=2) :
    Bc zP 414 [Uh w us L,EV a p] (B8 L es) fun r post=>r= .ret (.b (PF kf a p))/\PD kf L es post:=by
 intro Z hs;have hM:=Mx;refine rl kZ ?_;refine zz ?_;(repeat clear U K);repeat intro K U
 refine(LZ w us h (a:=a) (p:=p) hp).use (rest:=[]) (by simpa using hs) ?_;clear hs;rintro r post Z ⟨es4,e4,got,rfl,rfl⟩ hs;have hek:=got.k;obtain⟨pre,post,rfl⟩:=List.append_of_mem got.mem;rw[Ip]at hs;replace hs:=HH (X:=[]) hs;have hsl:=(hr.ok a p).2.2.2;have hsh:=hr.short a p;rw[<-hek]at hsl hsh
 have hst:p.length<2\/e4.k.AG= []:=by
  rcases Nat.lt_or_ge p.length 2 with h'|h'
  .exact .inl h'
  .exact .inr (hsh h')
 have hE:PF kf a p=e4.k.AG.all fun y=> !(kf a (p++[y])).A0:=by rw[PF,hek]
 refine zz ?_;(repeat clear U K);repeat intro K U
 have hall:Bc zP 330 [e4.vs,.f (.func 415) [] [.rp [Uh w us L],.rp (LI a p)]] (.own e4.vs 1 (iL e4.k.AG)::Hx L pre post e4 []) fun r post'=>r= .ret (.b (e4.k.AG.all fun y=> !(kf a (p++[y])).A0))/\ ∃s',(Dr kf (pre++e4::(post++s'))/\ ∀x∈s',x.k=k0)/\post'= .own e4.vs 1 (iL e4.k.AG)::Hx L pre post e4 s':=by
  rcases hst with h'|h'
  .exact aE 415 [] [.rp [Uh w us L],.rp (LI a p)] (Hx L pre post e4) _ _ _ (mz w us h') (fun _ _=>trivial) (by omega) [] ⟨by simpa using got.inv,by simp⟩
  .exact aE 415 [] [.rp [Uh w us L],.rp (LI a p)] (Hx L pre post e4) _ _ (fun _=>False) (fun y s hf=>hf.elim) (fun x hx=>by rw[h']at hx;cases hx) (by omega) [] ⟨by simpa using got.inv,by simp⟩
 refine hall.use (rest:=[]) (by
  have h2:=wD (L:=L) (pre:=pre) (post:=post) (e:=e4) (s:=[]) (by simpa using EL (X:=[]) (e:=e4) (e':=e4) rfl rfl rfl hs)
  simpa using h2) ?_
 clear hs;rintro r post' Z ⟨rfl,s',⟨hi,hn⟩,rfl⟩ hs;refine zz ?_;(repeat clear U K);repeat intro K U
 refine AU ⟨_,⟨by rw[hE],pre++e4::(post++s'),got.ext.trans ⟨s',by simp,hn⟩,hi,rfl⟩,pc (by simpa using hs)⟩
def jk {m u:Nat} (hm:m<18446744073709551616):(O7 m u=0)↔Q2 m u=true:=by
 rw[PY (by simpa using hm)];constructor
 .intro h b hb
  have hlt:b<64:=by
   rcases Nat.lt_or_ge b 64 with h'|h'
   .exact h'
   .rw[Nat.testBit_lt_two_pow (Nat.lt_of_lt_of_le hm (by simpa using Nat.pow_le_pow_right (n:=2) (by decide) h'))]at hb;cases hb
  have:=P0 (a:=m) (b:=u) hlt;rw[h,Nat.zero_testBit,hb]at this;simpa using this
 .intro h
  refine Nat.eq_of_testBit_eq fun i=>?_
  rw[Nat.zero_testBit];rcases Nat.lt_or_ge i 64 with hlt|hge
  .rw[P0 hlt]
   cases hb:m.testBit i with
   | false=>rfl
   | true=>rw[h i hb];rfl
  .exact Nat.testBit_lt_two_pow (Nat.lt_of_lt_of_le (UF _ _) (by simpa using Nat.pow_le_pow_right (n:=2) (by decide) hge))
def Ve (w:AI) (us:List Nat) {kf:Int->List Int->Kn} (hr:JB w kf) {L:Nat} {es:List Cx} (h:Dr kf es) {a:Int} {p:List Int} (hp:p.length<=2) (c:Nat) (hc:c<64) :
    Bc zP 413 [Uh w us L,EV a p,eI c] (B8 L es) fun r post=>r= .ret (.b (Hs kf a p c))/\PD kf L es post:=by
 intro Z hs;refine rm kZ ?_;refine zz ?_;(repeat clear U K);repeat intro K U
 refine(LZ w us h (a:=a) (p:=p) hp).use (rest:=[]) (by simpa using hs) ?_;clear hs;rintro r post Z ⟨es4,e4,got,rfl,rfl⟩ hs;have hek:=got.k;obtain⟨pre,post,rfl⟩:=List.append_of_mem got.mem;rw[Ip]at hs;replace hs:=HH (X:=[]) hs;have hok:=hr.ok a p;rw[<-hek]at hok;have hu:1|||2 ^ c<18446744073709551616:=LU (by decide) (KX hc)
 have hb1:bits .andNot .u64 (e4.k.B3:Int) ((1|||2 ^ c:Nat):Int)=((O7 e4.k.B3 (1|||2 ^ c):Nat):Int):=Sq;have hb2:bits .and .u64 (e4.k.GV:Int) ((1|||2 ^ c:Nat):Int)=((e4.k.GV&&&(1|||2 ^ c):Nat):Int):=ME hok.2.1 hu;have hb3:=jk (u:=1|||2 ^ c) hok.1;have hP:Hs kf a p c=(Q2 e4.k.B3 (1|||2 ^ c)&&(e4.k.GV&&&(1|||2 ^ c)==0&&PF kf a p)):=by rw[Hs,hek]
 conv=>whnf
 repeat'((first|clear U K|apply st|(apply zk;intro K U)|refine zY ?_|refine Pure.use (Y7 1 c (by decide) hc) ?_|refine za (fun hc=>?_) fun hc=>?_|fail)<;>conv=>whnf)
 .have h1:Q2 e4.k.B3 (1|||2 ^ c)=true:=hb3.1 (by omega)
  have h2:(e4.k.GV&&&(1|||2 ^ c)==0)=true:=by rw[EU];omega
  refine(m4 w us hr got.inv hp).use (rest:=[]) (by simpa using EL (X:=[]) (e:=e4) (e':=e4) rfl rfl rfl hs) ?_;clear hs;rintro r post' Z ⟨rfl,es5,hx,hi,rfl⟩ hs;refine zz ?_;(repeat clear U K);repeat intro K U
  exact AU ⟨_,⟨by rw[hP,h1,h2];rfl,es5,got.ext.trans hx,hi,rfl⟩,by simpa using hs⟩
 .have h2:(e4.k.GV&&&(1|||2 ^ c)==0)=false:=by rw[beq_eq_false_iff_ne];omega
  exact AU ⟨_,⟨by rw[hP,h2];simp,_,got.ext,got.inv,rfl⟩,by simpa using EL (X:=[]) (e:=e4) (e':=e4) rfl rfl rfl hs⟩
 .have h1:Q2 e4.k.B3 (1|||2 ^ c)=false:=by
   rw[<-Bool.not_eq_true,<-hb3];omega
  exact AU ⟨_,⟨by rw[hP,h1];simp,_,got.ext,got.inv,rfl⟩,by simpa using EL (X:=[]) (e:=e4) (e':=e4) rfl rfl rfl hs⟩
def QU (w:AI) (us:List Nat) {kf:Int->List Int->Kn} (hr:JB w kf) {L:Nat} {es:List Cx} (h:Dr kf es) {a:Int} {p:List Int} (hp:p.length<=2) :
    Bc zP 410 [Uh w us L,EV a p] (B8 L es) fun r post=>r= .ret (.t [eI (KZ (kf a p)),.b (TE kf a p)])/\PD kf L es post:=by
 intro Z hs;have hM:=Mx;refine ry kZ ?_;refine zz ?_;(repeat clear U K);repeat intro K U
 refine(LZ w us h (a:=a) (p:=p) hp).use (rest:=[]) (by simpa using hs) ?_;clear hs;rintro r post Z ⟨es4,e4,got,rfl,rfl⟩ hs;have hek:=got.k;obtain⟨pre,post,rfl⟩:=List.append_of_mem got.mem;rw[Ip]at hs;replace hs:=HH (X:=[]) hs;have hok:=hr.ok a p;have hlo:=hr.low a p;rw[<-hek]at hok hlo;have hno:=hok.2.2.1;have hle:=Zn e4.k.no e4.k.low;have hL:KZ (kf a p)=G9 e4.k.no (from_ e4.k.no e4.k.low) e4.k.low:=by rw[KZ,<-hek];exact aG hle (Io _)
 refine zz ?_;(repeat clear U K);repeat intro K U
 refine Dz (fun n:Int=>from_ e4.k.no n) (fun n=>[(7,eI n)]) (fun _=> .box e4.b [eI e4.k.low,eI e4.k.high,e4.vn,eU e4.k.B3,eU e4.k.GV,.b e4.k.whole,.b e4.k.A0,e4.vs]:: .own e4.vn 1 (iL e4.k.no):: .own e4.vs 1 (iL e4.k.AG)::([]++HF L (pre++e4::post) pre post)) (fun n=> -1000000000<=n/\n+from_ e4.k.no n<=1000001000/\KZ (kf a p)=G9 e4.k.no (from_ e4.k.no n) n) e4.k.low rfl ⟨by omega,by omega,hL⟩ hs ?_;clear hs hL hle;rintro n Z ⟨hn0,hn1,hL⟩ hs;have hct2:=fun b=>Dp e4.k.no b n
 cases hcB:e4.k.no.contains n<;>rw[hcB]at hct2
 .have hout:n∉e4.k.no:=by simpa using hcB
  rw[nh hout]at hL;have hI:TE kf a p=(decide (n<=e4.k.high)&&Hs kf a p 1):=by rw[TE,hL,hek]
  conv=>whnf
  repeat'((first|clear U K|apply st|(apply zk;intro K U)|refine zY ?_|refine Pure.an (hct2 false) (.cons (hs.GW 1 rfl) (.cons (.refl _) .nil)) rfl ?_|refine za (fun hc=>?_) fun hc=>?_|fail)<;>conv=>whnf)
  all_goals
   have hsc:Sat Z (B8 L (pre++e4::post)):=by simpa using EL (X:=[]) (e:=e4) (e':=e4) rfl rfl rfl hs
  .refine(Ve w us hr got.inv hp 1 (by decide)).use (rest:=[]) (by simpa using hsc) ?_
   clear hs hsc;rintro r post' Z ⟨rfl,es5,hx,hi,rfl⟩ hs;refine zz ?_;(repeat clear U K);repeat intro K U
   exact AU ⟨_,⟨by rw[hL,hI,decide_eq_true (by assumption)];rfl,es5,got.ext.trans hx,hi,rfl⟩,by simpa using hs⟩
  .exact AU ⟨_,⟨by rw[hL,hI,decide_eq_false (by omega)];rfl,_,got.ext,got.inv,rfl⟩,hsc⟩
 .have hin:n∈e4.k.no:=by simpa using hcB
  have hlt:=T8 hin;have hwr:IntKind.i64.wrap (n+1)=n+1:=wrap64 (by omega) (by omega);obtain⟨m,hm⟩: ∃m,from_ e4.k.no n=m+1:=⟨from_ e4.k.no n - 1,by omega⟩
  have hL2:KZ (kf a p)=G9 e4.k.no (from_ e4.k.no (n+1)) (n+1):=by rw[hL,hm,vL hin];exact aG (by omega) (Io _)
  conv=>whnf
  repeat'((first|clear U K|apply st|(apply zk;intro K U)|refine zY ?_|refine Pure.an (hct2 false) (.cons (hs.GW 1 rfl) (.cons (.refl _) .nil)) rfl ?_|fail)<;>conv=>whnf)
  exact⟨n+1,hlt,by rw[hwr];rfl,⟨by omega,by omega,hL2⟩,hs⟩
def ZY (w:AI) (us:List Nat) {kf:Int->List Int->Kn} (hr:JB w kf) {L:Nat} {es:List Cx} (h:Dr kf es) {a:Int} {p:List Int} (hp:p.length<=2) :
    Bc zP 411 [Uh w us L,EV a p] (B8 L es) fun r post=>r= .ret (.b (LV kf a p))/\PD kf L es post:=by
 intro Z hs;refine ru kZ ?_;refine zz ?_;(repeat clear U K);repeat intro K U
 refine(LZ w us h (a:=a) (p:=p) hp).use (rest:=[]) (by simpa using hs) ?_;clear hs;rintro r post Z ⟨es4,e4,got,rfl,rfl⟩ hs;have hek:=got.k;obtain⟨pre,post,rfl⟩:=List.append_of_mem got.mem;rw[Ip]at hs;have hsc:=hs;replace hs:=HH (X:=[]) hs;have hN:LV kf a p=(!e4.k.whole&&Hs kf a p 2):=by rw[LV,hek]
 cases hw:e4.k.whole<;>rw[hw]at hs hN
 .refine zz ?_;(repeat clear U K);repeat intro K U
  refine(Ve w us hr got.inv hp 2 (by decide)).use (rest:=[]) (by simpa using hsc) ?_;clear hs hsc;rintro r post' Z ⟨rfl,es5,hx,hi,rfl⟩ hs;refine zz ?_;(repeat clear U K);repeat intro K U
  exact AU ⟨_,⟨by rw[hN];rfl,es5,got.ext.trans hx,hi,rfl⟩,by simpa using hs⟩
 .refine zz ?_;(repeat clear U K);repeat intro K U
  exact AU ⟨_,⟨by rw[hN];rfl,_,got.ext,got.inv,rfl⟩,hsc⟩
def TO {Z:AE} {X:List At} {L:Nat} {pre post:List Cx} {e:Cx} {s:List Cx} (h:Sat Z (X++B8 L (pre++e::(post++s)))):Sat Z (.own e.vs 1 (iL e.k.AG)::(X++Hx L pre post e s)):=by
 have h2:=HH h;refine h2.perm ((LS _ _ _ _).symm.trans (.cons _ ?_));exact(List.perm_middle.trans (.cons _ List.perm_middle)).symm
def nP {Z:AE} {X:List At} {L:Nat} {pre post:List Cx} {e:Cx} {s:List Cx} (h:Sat Z (.own e.vs 1 (iL e.k.AG)::(X++Hx L pre post e s))):Sat Z (X++B8 L (pre++e::(post++s))):=by
 refine EL (X:=X) (e:=e) (e':=e) rfl rfl rfl ?_;refine h.perm ?_;refine List.Perm.trans (.cons _ (List.perm_middle.trans (.cons _ List.perm_middle))) ?_;exact LS _ _ _ _
def mP (s:Nat) (c:Int) (hs0:s<18446744073709551616) (h0:0<=c) (hc:c<64):Pure zP 306 [eU s,eI c] (.b (s.testBit c.toNat)):=by
 have:=TW s c.toNat hs0 (by omega);rw[Int.toNat_of_nonneg h0]at this;exact this
def jl {m:Nat} (hm:m<18446744073709551616):O7 m 1=HC m:=by
 refine Nat.eq_of_testBit_eq fun i=>?_
 rw[V7];rcases Nat.lt_or_ge i 64 with hlt|hge
 .rw[P0 hlt,show(1:Nat)=2 ^ 0 from rfl,Nat.testBit_two_pow]
  congr 2;rw[J1,CN,EU];omega
 .have h64:18446744073709551616<=2 ^ i:=by simpa using Nat.pow_le_pow_right (n:=2) (by decide) hge
  rw[Nat.testBit_lt_two_pow (Nat.lt_of_lt_of_le (UF _ _) h64),Nat.testBit_lt_two_pow (Nat.lt_of_lt_of_le hm h64)];rfl
def SC (w : AI) (hw:Dx w) {kf:Int->List Int->Kn} (hr:JB w kf) {a:Int} {p:List Int} (hp:p.length<=2) (can:Int->Bool)
    (hcan: ∀s∈(kf a p).AG,∀L es,Dr kf es->Bc zP 404 [Uh w (Ek w.parents) L,EV a (p++[s])] (B8 L es) fun r post=>r= .ret (.b (can s))/\PD kf L es post) {L:Nat} {es:List Cx} (h:Dr kf es) :
    Bc zP 412 [Uh w (Ek w.parents) L,EV a p] (B8 L es) fun r post=>r= .ret (.t [eU (OO w (kf a p) (fun s=>(kf a (p++[s])).A0) can).1,.b (OO w (kf a p) (fun s=>(kf a (p++[s])).A0) can).2])/\PD kf L es post:=by
 intro Z hs;have hM:=Mx;generalize hus:Ek w.parents=us at *;refine rn kZ ?_;refine zz ?_;(repeat clear U K);repeat intro K U
 refine(LZ w us h (a:=a) (p:=p) hp).use (rest:=[]) (by simpa using hs) ?_;clear hs;rintro r post Z ⟨es4,e4,got,rfl,rfl⟩ hs;have hek:=got.k;obtain⟨pre,post,rfl⟩:=List.append_of_mem got.mem;rw[Ip]at hs;have hsc:=hs;replace hs:=HH (X:=[]) hs;have hok:=hr.ok a p;have hsl:=(hr.ok a p).2.2.2;have hsh:=hr.short a p;have hsw:=hr.AG a p;rw[<-hek]at hok hsl hsh hsw hcan;have hO:OO w (kf a p) (fun s=>(kf a (p++[s])).A0) can=OO w e4.k (fun s=>(kf a (p++[s])).A0) can:=by rw[hek]
 have hOn:(e4.k.whole=true\/e4.k.B3.testBit 1=true\/e4.k.B3.testBit 2=true\/e4.k.GV.testBit 0=true)->OO w (kf a p) (fun s=>(kf a (p++[s])).A0) can=(0,false):=fun h=>by
  rw[hO,OO,if_pos];rcases h with h|h|h|h<;>rw[h]<;>simp
 have hOy:e4.k.whole=false->e4.k.B3.testBit 1=false->e4.k.B3.testBit 2=false->e4.k.GV.testBit 0=false->OO w (kf a p) (fun s=>(kf a (p++[s])).A0) can=match Ib w (fun s=>(kf a (p++[s])).A0) can e4.k.AG (e4.k.B3,e4.k.GV)with
  | none=>(0,false)
  | some u=>(HC (DU (Ek w.parents) w.parents.length u.1),HC (DU (Ek w.parents) w.parents.length u.1)&&&u.2==0):=fun h1 h2 h3 h4=>by
  rw[hO,OO,h1,h2,h3,h4];rfl
 clear hO;cases hb0:e4.k.whole<;>rw[hb0]at hs
 rotate_left
 .refine zz ?_;(repeat clear U K);repeat intro K U
  exact AU ⟨_,⟨by rw[hOn (.inl hb0)];rfl,_,got.ext,got.inv,rfl⟩,hsc⟩
 .conv => whnf
  repeat'((first|clear U K|apply st|(apply zk;intro K U)|refine zY ?_|refine Pure.use (TW e4.k.B3 1 hok.1 (by decide)) ?_|refine Pure.use (TW e4.k.B3 2 hok.1 (by decide)) ?_|refine Pure.use (TW e4.k.GV 0 hok.2.1 (by decide)) ?_|refine za (fun hc=>?_) fun hc=>?_|fail)<;>conv=>whnf)
  all_goals first
   | exact AU ⟨_,⟨by rw[hOn (by first|exact .inl (by assumption)|exact .inr (.inl (by assumption))|exact .inr (.inr (.inl (by assumption)))|exact .inr (.inr (.inr (by assumption))))];rfl,_,got.ext,got.inv,rfl⟩,hsc⟩
   | skip
  replace hOy:=hOy hb0 (by assumption) (by assumption) (by assumption);clear hOn;generalize hnf:(fun s=>(kf a (p++[s])).A0)=A0 at *
  have hs1:Sat Z (.own e4.vs 1 (iL e4.k.AG)::Hx L pre post e4 []):=by
   have h2:=TO (X:=[]) (L:=L) (pre:=pre) (post:=post) (e:=e4) (s:=[]) (by simpa using hsc);simpa using h2
  refine B0 e4.k.AG.length (fun k (x:(Nat×Nat)×List Cx)=>[(47,eI (A8 k)),(7,eU x.1.1),(8,eU x.1.2)]) (fun k x=> .own e4.vs 1 (iL e4.k.AG)::Hx L pre post e4 x.2) (fun k x=>(x.1.1<18446744073709551616/\x.1.2<18446744073709551616)/\(Dr kf (pre++e4::(post++x.2))/\ ∀y∈x.2,y.k=k0)/\Ib w A0 can e4.k.AG (e4.k.B3,e4.k.GV)=Ib w A0 can (e4.k.AG.drop k) x.1) ((e4.k.B3,e4.k.GV),[]) rfl ⟨⟨hok.1,hok.2.1⟩,⟨by simpa using got.inv,by simp⟩,rfl⟩ hs1 ?_;clear hs hs1 hsc;rintro k ⟨⟨m,no⟩,new⟩ Z hk ⟨⟨hm,hno⟩,⟨hinv,hnew⟩,hF⟩ hs;simp only at hm hno hinv hnew hF hs;have hck:A8 k=k:=AO (by have:=hok.2.2.2;omega);rcases BC e4.k.AG hk with⟨s,hsk,hlt⟩|hke
  .have hsm:=B1 hsk
   have hp2:p.length<2:=by
    rcases Nat.lt_or_ge p.length 2 with h'|h'
    .exact h'
    .rw[hsh h']at hsm;cases hsm
   obtain⟨hs0,hs1⟩:=hsw s hsm;rw[drop_cons hsk,Ib]at hF
   conv=>whnf
   repeat'((first|clear U K|apply st|(apply zk;intro K U)|refine zY ?_|refine ze fun x hx=>?_|refine zs fun Z hs=>?_|refine Pure.use (Oh a p _ hp2) ?_|refine zo fun nn hnn Z hs=>?_|fail)<;>conv=>whnf)
   obtain rfl:x=s:=by rw[hck,JP,hsk]at hx;exact(Option.some.inj hx).symm
   generalize nn=n7 at *;have hs2:Sat Z ([.box n7 (LI a (p++[x]))]++B8 L (pre++e4::(post++new))):=nP (X:=[.box n7 (LI a (p++[x]))]) (hs.perm (.swap _ _ _));clear hs;obtain⟨o,ho⟩: ∃o,w.owner[x.toNat]? =some o:=⟨_,Cy (by omega)⟩
   have hoI:Cm w x=o:=by simp only[Cm,DH,ho];rfl
   obtain⟨ho1,ho2⟩:=hw.2.2 o (B1 ho);have hwp:=hw.1.1;have hcx:=hcan x hsm L;cases hnx:A0 x<;>cases hcy:can x
   all_goals
    rw[hcy]at hcx;rw[Yp,hnx,hcy,hoI]at hF;refine(LZ w us hinv (a:=a) (p:=p++[x]) (by simp;omega)).use (rest:=[.box n7 (LI a (p++[x]))]) (hs2.perm RP) ?_;clear hs2;rintro r post' Z ⟨es5,e5,got5,rfl,rfl⟩ hs;have hek5:e5.k.A0=A0 x:=by rw[got5.k,<-hnf]
    rw[hnx]at hek5;obtain⟨newA,heA,hnA⟩:=got5.ext;obtain⟨pre5,post5,he5⟩:=List.append_of_mem got5.mem;rw[he5]at hs;replace hs:=HH (X:=[.box n7 (LI a (p++[x]))]) (hs.perm RP);rw[hek5]at hs
    conv=>whnf
    repeat'((first|apply st|refine zY ?_|refine rk ?_ ?_|exact fun s e=>by cases e;rfl|fail)<;>conv=>whnf)
    have hs2:Sat Z ([.box n7 (LI a (p++[x]))]++B8 L (pre5++e5::post5)):=EL (X:=[.box n7 (LI a (p++[x]))]) (e:=e5) (e':=e5) rfl rfl rfl (by rw[<-hek5]at hs;exact hs);clear hs;refine(hcx es5 got5.inv).use (rest:=[.box n7 (LI a (p++[x]))]) (by rw[he5];exact hs2.perm RP) ?_;clear hs2;rintro r post' Z ⟨rfl,es6,⟨new6,he6,hn6⟩,hi6,rfl⟩ hs;have he7:es6=pre5++e5::(post5++new6):=by rw[he6,he5];simp
    rw[he7]at hs;replace hs:=HH (X:=[.box n7 (LI a (p++[x]))]) (hs.perm RP);rw[hek5]at hs
    conv=>whnf
    repeat'((first|clear U K|apply st|(apply zk;intro K U)|refine zY ?_|refine rk ?_ ?_|exact fun s e=>by cases e;rfl|refine Pure.use (HM m o hm (by omega) (by omega)) ?_|refine Pure.use (HM no o hno (by omega) (by omega)) ?_|fail)<;>conv=>whnf)
    simp only[Bool.not_false,Bool.not_true,Bool.and_true,Bool.and_false,LG,if_false,if_true,Option.bind_some,Option.bind_none]at hF;have e7:es6=pre++e4::(post++(new++newA++new6)):=by rw[he6,heA];simp
    have hs2:Sat Z ([.box n7 (LI a (p++[x]))]++B8 L (pre5++e5::(post5++new6))):=EL (X:=[.box n7 (LI a (p++[x]))]) (e:=e5) (e':=e5) rfl rfl rfl (by rw[<-hek5]at hs;exact hs)
    have hs3:Sat Z (B8 L (pre++e4::(post++(new++newA++new6)))):=by
     rw[<-he7,e7]at hs2;exact hs2.less (List.sublist_append_right _ _)
    have hi7:Dr kf (pre++e4::(post++(new++newA++new6))):=by rw[<-e7];exact hi6
    have hn7: ∀y∈new++newA++new6,y.k=k0:=fun y hy=>by
     rcases E4.1 hy with hy|hy
     .rcases E4.1 hy with hy|hy
      .exact hnew y hy
      .exact hnA y hy
     .exact hn6 y hy
    have hob:2 ^ o.toNat<18446744073709551616:=KX (by omega)
   .exact⟨hlt,((m,no|||2 ^ o.toNat),new++newA++new6),rfl,⟨⟨hm,LU hno hob⟩,⟨hi7,hn7⟩,hF⟩,TO (X:=[]) hs3⟩
   .exact⟨hlt,((m,no),new++newA++new6),rfl,⟨⟨hm,hno⟩,⟨hi7,hn7⟩,hF⟩,TO (X:=[]) hs3⟩
   .rw[hF]at hOy
    exact AU ⟨_,⟨by rw[hOy];rfl,_,got.ext.trans ⟨_,by simp,hn7⟩,hi7,rfl⟩,hs3⟩
   .exact⟨hlt,((m|||2 ^ o.toNat,no),new++newA++new6),rfl,⟨⟨LU hm hob,hno⟩,⟨hi7,hn7⟩,hF⟩,TO (X:=[]) hs3⟩
  .rw [Ao hke,Ib]at hF
   rw[hF]at hOy;simp only at hOy;refine zz ?_;(repeat clear U K);repeat intro K U
   have hu:vw us:=by rw[<-hus];exact Lt _ _ (by have:=hw.1.1;omega)
   have hul:us.length=3+w.parents.length:=by rw[<-hus];exact Fy _ _
   have hwp:=hw.1.1;have hwl:IntKind.i64.wrap (3+((Ee w.parents).length:Nat))=3+(w.parents.length:Int):=by rw[BU,wrap64 (by omega) (by omega)]
   refine B0 w.parents.length (fun k (x:Nat)=>[(14,eI (LP 3 k)),(7,eU x)]) (fun _ _=> .own e4.vs 1 (iL e4.k.AG)::Hx L pre post e4 new) (fun k x=>x<18446744073709551616/\x=DU us k m) m rfl ⟨hm,rfl⟩ hs ?_;clear hs;clear hke hck hk k;rintro k x Z hk ⟨hx64,hxe⟩ hs;have hc3:LP 3 k=3+k:=Ot (by omega) (by omega);by_cases hlt:k<w.parents.length
   .have hbt:DU us (k+1) m=if x.testBit (LP 3 k).toNat then x|||us.getD (3+k) 0 else x:=by
     rw[DU,<-hxe,hc3,show(3+(k:Int)).toNat=3+k by omega]
    have hup:(List.drop ((LP 3 k).toNat*1) (List.drop 2 (wC w us)))[0]? =some (eU (us.getD (3+k) 0)):=by
     rw[vS,vS,<-oG w us (i:=3+k) (by omega)];congr 1;omega
    conv=>whnf
    repeat'((first|clear U K|apply st|(apply zk;intro K U)|refine zY ?_|(rw[hup])|refine Pure.use (mP x (LP 3 k) hx64 (by omega) (by omega)) ?_|(refine zb (fun hc=>?_) (fun hc=>?_)<;>try exact⟨⟩)|fail)<;>conv=>whnf)
    .refine⟨hlt,x|||us.getD (3+k) 0,?_,⟨LU hx64 (TP hu _),by rw[hbt,if_pos (by assumption)]⟩,hs⟩
     rw[Lq hx64 (TP hu _)];rfl
    .exact⟨hlt,x,rfl,⟨hx64,by rw[hbt,if_neg (by rw[‹x.testBit _=false›];decide)]⟩,hs⟩
   .have hke:k=w.parents.length:=by omega
    rw[hus,<-hke,<-hxe]at hOy
    have hA:bits .andNot .u64 (x:Int) 1=((HC x:Nat):Int):=by
     have:=Sq (a:=x) (b:=1);rw[jl hx64]at this;exact this
    have hcl:HC x<18446744073709551616:=by unfold HC;omega
    have hB:bits .and .u64 ((HC x:Nat):Int) (no:Int)=((HC x&&&no:Nat):Int):=ME hcl hno
    conv=>whnf
    repeat'((first|clear U K|apply st|(apply zk;intro K U)|refine zY ?_|(refine zb (fun hc=>?_) (fun hc=>?_)<;>try exact⟨⟩)|fail)<;>conv=>whnf)
    rw[hA,hB];refine AU ⟨_,⟨?_,_,got.ext.trans ⟨new,by simp,hnew⟩,hinv,rfl⟩,pc hs⟩;rw[hOy]
    have hz:(((HC x&&&no:Nat):Int)==0)=(HC x&&&no==0):=by
     rw[J1,EU,EU];omega
    rw[<-hz]
end Go.Gl
