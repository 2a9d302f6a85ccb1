import Derived.Test.YtegbmnmnaijioaaGreatY4
import Derived.Test.YtegbmnmnaijioaaGreatY6
set_option linter.all false
set_option linter.defProp false
set_option maxHeartbeats 8000000
noncomputable section
namespace Go.Gl
open Go.Proofs
attribute [local irreducible] Au Am Ae AR AK AY AQ AS AJ AX AM AO Ao A0 Sat AU Ay Af W
def IC {Z:AE} {X:List At} {L:Nat} {pre post:List B8} {e:B8} (h:Sat Z (X++CN L (pre++e::post))):Sat Z (.box e.b [eI e.k.low,eI e.k.high,e.vn,eU e.k.BM,eU e.k.Dz,.b e.k.whole,.b e.k.Ab,e.vs]:: .own e.vn 1 (iL e.k.no):: .own e.vs 1 (iL e.k.AG)::(X++H9 L (pre++e::post) pre post)):=by
 have h2:Sat Z (Wb e++(X++H9 L (pre++e::post) pre post)):=h.perm ((List.Perm.append_left X (XO L pre post e)).trans (by rw[<-PR,<-PR];exact Nk.append_right _));exact h2
def Er {Z:AE} {X:List At} {L:Nat} {pre post:List B8} {e e':B8} (h1:e'.a=e.a) (h2:e'.p=e.p) (h3:e'.b=e.b) (h:Sat Z (Wb e'++(X++H9 L (pre++e::post) pre post))):Sat Z (X++CN L (pre++e'::post)):=by
 rw[<-Vd h1 h2 h3]at h;exact h.perm ((List.Perm.append_left X (XO L pre post e')).trans (by rw[<-PR,<-PR];exact Nk.append_right _)).symm
def Jy {α:Type} (a b c:α) (l:List α):(a::b::c::l).Perm (b::c::a::l):=(List.Perm.swap _ _ _).trans (.cons _ (.swap _ _ _))
def OZ {α:Type} (a:α) (l:List α):(a::l).Perm (l++[a]):=(List.perm_append_singleton a l).symm
def dB (m:Nat) (k:Kn):Prop:=k.BM<18446744073709551616/\k.Dz<18446744073709551616/\k.no.length<=m/\k.AG.length<=m
def po (f:Fact) (c:Bool) (j:Nat) (a:Int) (p:List Int) (k:Kn):(Du f c j a p k).BM=k.BM:=by unfold Du;(repeat' split)<;>rfl
def um (f:Fact) (c:Bool) (j:Nat) (a:Int) (p:List Int) (k:Kn):(Du f c j a p k).Dz=k.Dz:=by unfold Du;(repeat' split)<;>rfl
def AAu (f:Fact) (c:Bool) (j:Nat) (a:Int) (p:List Int) (k:Kn):(Du f c j a p k).no=k.no:=by unfold Du;(repeat' split)<;>rfl
def mB (f:Fact) (c:Bool) (j:Nat) (a:Int) (p:List Int) (k:Kn):(Du f c j a p k).AG.length<=k.AG.length+1:=by
 unfold Du
 repeat' split
 .exact UE _ _
 all_goals simp[B5]
def AAt {m:Nat} {k:Kn} (h:dB m k) (f:Fact) (c:Bool) (j:Nat) (a:Int) (p:List Int):dB (m+1) (Du f c j a p k):=by
 obtain⟨h1,h2,h3,h4⟩:=h;refine⟨by rw[po];exact h1,by rw[um];exact h2,by rw[AAu];omega,?_⟩;have:=mB f c j a p k;omega
def Ku {k:Kn} (c:Bool) (h:k.Ab=true):B5 k c= {k with Ab:=true}:=by simp[B5,h]
def I8 {k:Kn} (c:Bool) (h:k.Ab=false):B5 k c= {k with Ab:= !c}:=by simp[B5,h]
abbrev GH (a:Int) (p:List Int):List V:=[eI a,eI (p.length:Int),eI (p.getD 0 0),eI (p.getD 1 0)]
structure iW (f:Fact):Prop where
 op:f.op=2\/f.op=3\/f.op=4
 path:f.path.length<=2
 cls:f.op=2->0<=f.cls/\f.cls<64
 n: -1000000000<=f.n/\f.n<=1000000000
def rR (w : AF) (us:List Nat) {kf:Int->List Int->Kn} {L:Nat} {es:List B8} (h:B2 kf es) (f:Fact) (c:Bool) (hl:iW f) {m:Nat} (hm:m<1000) (hb: ∀a p,dB m (kf a p)) :
    BQ zP 193 [Vv w us L,.a (xF f++[.b c])] (CN L es) fun r post=>r= .ret (.t [])/\ ∃es',B2 (fun a p=>if a=f.arg/\p=f.path then B4 (Du f c f.path.length a p (kf a p)) f c else Du f c f.path.length a p (kf a p)) es'/\post=CN L es':=by
 intro Z hs;have hM:=Mx;obtain⟨l1,l2,l3,l4⟩:=hl;refine yN kZ ?_;rw[show xF f++[V.b c]= [eI f.op,eI f.arg,.l (iL f.path) false,eI f.cls,eI f.n,.l (f.kids.map Fh) false,.b c] from rfl]
 conv=>whnf
 repeat'((first|clear U K|apply st|(apply zk;intro K U)|refine zY ?_|refine zs fun Z hs=>?_|refine zo fun nn hnn Z hs=>?_|fail)<;>conv=>whnf)
 generalize nn=nx at *;refine(MX w us h (a:=f.arg) (p:=[]) (by simp)).use (rest:=[.box nx (GH f.arg [])]) (hs.perm (OZ _ _)) ?_;clear hs hnn;rintro r post Z ⟨es1,e1,got,rfl,rfl⟩ hs;have hek:=got.k;obtain⟨hea,hep⟩:=Gt.1 got.is;obtain⟨pre,post,rfl⟩:=List.append_of_mem got.mem;replace hs:=IC (X:=[.box nx (GH f.arg [])]) (hs.perm Nk);cases hnd:e1.k.Ab<;>rw[hnd]at hs
 all_goals
  conv=>whnf
  repeat'((first|clear U K|apply st|(apply zk;intro K U)|refine zY ?_|refine zs fun Z hs=>?_|fail)<;>conv=>whnf)
  obtain⟨e2,es2,hA,hB,hC⟩: ∃(e2:B8) (es2:List B8),(B2 (fun a p=>Du f c 0 a p (kf a p)) es2/\e2∈es2/\e2.is f.arg (f.path.take 0)=true)/\e2.b=e1.b/\Sat Z (.box nx (GH f.arg (f.path.take 0))::CN L es2):=by
   refine⟨⟨e1.a,e1.p,e1.b,e1.vn,e1.vs,B5 e1.k c⟩,_,⟨(got.inv.change e1.b e1.vn e1.vs (B5 e1.k c)).congr fun a p=>?_,Ov _ (.head _),got.is⟩,rfl,?_⟩
   .rw[ph,No,hea,hep,hek]
    by_cases ha:a=f.arg/\p= []
    .rw[if_pos ha,if_pos ha,ha.1,ha.2]
    .rw[if_neg ha,if_neg ha]
   .refine Er (X:=[.box nx (GH f.arg [])]) (e:=e1) rfl rfl rfl ?_
    first
     | (rw[Ku c hnd];exact hs)
     | (rw[I8 c hnd];exact hs)
  rw[<-hB];clear hs hnd got hek hea hep;refine B1 f.path.length (fun j (x:List B8×B8)=>[(31,eI (A4 j)),(5,.p x.2.b 0)]) (fun j x=> .box nx (GH f.arg (f.path.take j))::CN L x.1) (fun j x=>B2 (fun a p=>Du f c j a p (kf a p)) x.1/\x.2∈x.1/\x.2.is f.arg (f.path.take j)=true) (es2,e2) rfl hA hC ?_;clear hA hC;generalize e2.b=b0 at *;clear hB e2 es2;rintro j ⟨es2,e2⟩ Z hj ⟨hinv,hmem,his⟩ hs;simp only at hinv hmem his hs
  have hek:e2.k=Du f c j f.arg (f.path.take j) (kf f.arg (f.path.take j)):=by
   have:=hinv.val e2 hmem;obtain⟨h1,h2⟩:=Gt.1 his;rw[this,h1,h2]
  have hok:dB (m+1) e2.k:=by rw[hek];exact AAt (hb _ _) f c j _ _
  obtain⟨hea,hep⟩:=Gt.1 his;obtain⟨pre2,post2,rfl⟩:=List.append_of_mem hmem;replace hs:=IC (X:=[.box nx (GH f.arg (f.path.take j))]) hs;have hck:A4 j=j:=Ag (by omega);rcases A8 f.path hj with⟨s,hsj,hjlt⟩|hje
  .have hct:=fun b=>C3 e2.k.AG b s
   have hk4:=hok.2.2.2;have hsl0:gR e2.k s= {e2.k with AG:=Jb e2.k.AG s}:=rfl
   have hne:f.path.take j++[s]≠f.path.take j:=by
    intro e;have:=congrArg List.length e;simp at this
   have hgd:f.path.getD j 0=s:=by rw[C6,hsj];rfl
   have htk:f.path.take (j+1)=f.path.take j++[s]:=AN hsj;cases hcB:e2.k.AG.contains s
   all_goals
    rw[hcB]at hct
    conv=>whnf
    repeat'((first|clear U K|apply st|(apply zk;intro K U)|refine zY ?_|refine zs fun Z hs=>?_|refine aq fun v Z hs hsl=>?_|refine Pure.MI (hct false) (.cons (hs.GG 2 rfl) (.cons (.refl _) .nil)) rfl ?_|refine Pure.use (Py f.arg (f.path.take j) s (by rw[Jl];omega)) ?_|fail)<;>conv=>whnf)
   refine(iA (.inl hsl)).use (rest:=_) (hs.front (j:=2) rfl) ?_;clear hs;rintro r post Z ⟨rfl,rfl⟩ hs;replace hs:Sat Z (.box e2.b [eI e2.k.low,eI e2.k.high,e2.vn,eU e2.k.BM,eU e2.k.Dz,.b e2.k.whole,.b e2.k.Ab,v]:: .own e2.vn 1 (iL e2.k.no):: .own v 1 (iL ((e2.k.AG++[s]).mergeSort Hy))::([.box nx (GH f.arg (f.path.take j))]++H9 L (pre2++e2::post2) pre2 post2)):=hs.perm (Jy _ _ _ _)
   conv=>whnf
   repeat'((first|clear U K|apply st|(apply zk;intro K U)|refine zY ?_|refine zs fun Z hs=>?_|refine Pure.use (Py f.arg (f.path.take j) s (by rw[Jl];omega)) ?_|fail)<;>conv=>whnf)
   have hs3: ∃vs3,Sat Z (.box nx (GH f.arg (f.path.take j++[s]))::CN L (pre2++⟨e2.a,e2.p,e2.b,e2.vn,vs3,gR e2.k s⟩::post2)):=⟨v,Er (X:=[_]) (e:=e2) rfl rfl rfl (by rw[hsl0,Jb,if_neg (by rw[hcB];decide)];exact hs)⟩
   rotate_left
   have hs3: ∃vs3,Sat Z (.box nx (GH f.arg (f.path.take j++[s]))::CN L (pre2++⟨e2.a,e2.p,e2.b,e2.vn,vs3,gR e2.k s⟩::post2)):=⟨e2.vs,Er (X:=[_]) (e:=e2) rfl rfl rfl (by rw[hsl0,Jb,if_pos hcB];exact hs)⟩
   all_goals
    clear hs;obtain⟨vs3,hs⟩:=hs3;have hinv3:=hinv.change e2.b e2.vn vs3 (gR e2.k s);refine(MX w us hinv3 (a:=f.arg) (p:=f.path.take j++[s]) (by rw[Nl,Jl];simp;omega)).use (rest:=[.box nx (GH f.arg (f.path.take j++[s]))]) (hs.perm (OZ _ _)) ?_;clear hs;rintro r post Z ⟨es4,e4,got,rfl,rfl⟩ hs;have hek4:=got.k;obtain⟨hea4,hep4⟩:=Gt.1 got.is;obtain⟨pre4,post4,rfl⟩:=List.append_of_mem got.mem;replace hs:=IC (X:=[.box nx (GH f.arg (f.path.take j++[s]))]) (hs.perm Nk);cases hnd:e4.k.Ab<;>rw[hnd]at hs
    all_goals
     conv=>whnf
     repeat'((first|clear U K|apply st|(apply zk;intro K U)|refine zY ?_|refine zs fun Z hs=>?_|fail)<;>conv=>whnf)
     refine⟨hjlt,(pre4++⟨e4.a,e4.p,e4.b,e4.vn,e4.vs,B5 e4.k c⟩::post4,⟨e4.a,e4.p,e4.b,e4.vn,e4.vs,B5 e4.k c⟩),rfl,⟨(got.inv.change e4.b e4.vn e4.vs (B5 e4.k c)).congr fun a p=>?_,Ov _ (.head _),by rw[htk];exact got.is⟩,?_⟩
     .rw[pj f c hjlt,No,hea4,hep4,htk,hgd]
      by_cases h1:a=f.arg/\p=f.path.take j++[s]
      .rw[if_pos h1,if_pos h1,hek4,No,hea,hep,if_neg (fun h=>hne h.2),h1.1,h1.2]
      .rw[if_neg h1,if_neg h1,No,hea,hep]
       by_cases h2:a=f.arg/\p=f.path.take j
       .rw[if_pos h2,if_pos h2,hek,h2.1,h2.2]
       .rw[if_neg h2,if_neg h2]
     .rw[htk]
      refine Er (X:=[.box nx (GH f.arg (f.path.take j++[s]))]) (e:=e4) rfl rfl rfl ?_
      first
       | (rw[Ku c hnd];exact hs)
       | (rw[I8 c hnd];exact hs)
  .have etk:f.path.take j=f.path:=Aq hje
   rw[etk]at his hs hek hep;refine zz ?_;(repeat clear U K);repeat intro K U
   refine(zK f c l1 l3 hok.1 hok.2.1 (by have:=hok.2.2.1;omega) l4).use (rest:=[.box nx (GH f.arg f.path)]++H9 L (pre2++e2::post2) pre2 post2) hs ?_;rintro r post Z ⟨rfl,vn',rfl⟩ hs
   conv=>whnf
   repeat'((first|clear U K|apply st|fail)<;>conv=>whnf)
   refine AI ⟨_,⟨rfl,_,(hinv.change e2.b vn' e2.vs (B4 e2.k f c)).congr fun a p=>?_,rfl⟩,(Er (X:=[.box nx (GH f.arg f.path)]) (e:=e2) (e':=⟨e2.a,e2.p,e2.b,vn',e2.vs,B4 e2.k f c⟩) rfl rfl rfl hs).less (K6 _ _)⟩;rw[No,hea,hep,hek,<-hje];by_cases h1:a=f.arg/\p=f.path
   .rw[if_pos h1,if_pos h1,h1.1,h1.2]
   .rw[if_neg h1,if_neg h1]
def zN (w:AF) (us:List Nat) {kf:Int->List Int->Kn} {L:Nat} {es:List B8} (h:B2 kf es) (l:Fact) (hl:iW (Ad l).1) {m:Nat} (hm:m<1000) (hb: ∀a p,dB m (kf a p)) :
    BQ zP 193 [Vv w us L,.a (Jj l)] (CN L es) fun r post=>r= .ret (.t [])/\ ∃es',B2 (fun a p=>C1 a p (kf a p) l) es'/\post=CN L es':=fun Z hs=>
 Au.mono (rR w us h (Ad l).1 (Ad l).2 hl hm hb Z hs) fun r Z' ⟨post,⟨h1,es',h2,h3⟩,h4⟩=>⟨post,⟨h1,es',h2.congr fun a p=>(uo a p (kf a p) l).symm,h3⟩,h4⟩
def OG (ls:List Fact):Prop:= ∀l∈ls,iW (Ad l).1
def jQ {ls:List Fact} (h:OG ls) (a:Int) (p:List Int):dB ls.length (kn ls a p):=by
 have hc:HD 64 ls:=fun l hl ho=>(h l hl).cls ho
 obtain⟨h1,h2⟩:=pt hc a p;obtain⟨h3,h4⟩:=jR a p ls k0;exact⟨by simpa using h1,by simpa using h2,by simpa[kn,k0]using h3,by simpa[kn,k0]using h4⟩
def inv0:B2 (kn []) []:=⟨fun x hx=>(by cases hx),fun a p _=>rfl,.nil,fun x hx=>(by cases hx)⟩
def lD (w:AF) (us:List Nat) (ls:List Fact) (b:Bool) (h:OG ls) (hlen:ls.length<900) :
    BQ zP 128 [.rp (wC w us),.l (D3 ls) b] [] fun r post=> ∃L es,r= .ret (Vv w us L)/\B2 (kn ls) es/\post=CN L es:=by
 intro Z hs;have hM:=Mx;refine y0 kZ ?_
 conv=>whnf
 repeat'((first|clear U K|apply st|(apply zk;intro K U)|refine zo fun nn hnn Z hs=>?_|fail)<;>conv=>whnf)
 generalize nn=L at *;refine B1 ls.length (fun k (x:List B8)=>[(14,eI (A4 k))]) (fun k x=>CN L x) (fun k x=>B2 (kn (ls.take k)) x) [] rfl inv0 hs ?_;clear hs hnn;rintro k es Z hk hinv hs;rcases A8 ls hk with⟨l,hlk,hlt⟩|hke
 .have hlm:l∈ls:=Bp hlk
  have htk:ls.take (k+1)=ls.take k++[l]:=AN hlk;have hbk: ∀a p,dB (ls.take k).length (kn (ls.take k) a p):=jQ fun x hx=>h x (List.mem_of_mem_take hx)
  conv=>whnf
  repeat'((first|clear U K|apply st|(apply zk;intro K U)|refine zY ?_|refine zs fun Z hs=>?_|refine zo fun nn hnn Z hs=>?_|fail)<;>conv=>whnf)
  rename_i nb hnb _ hs;generalize nn=n7 at *;refine(zN w us hinv l (h l hlm) (m:=(ls.take k).length) (by rw[Jl];omega) hbk).use (rest:=[.box n7 (Jj l)]) (hs.perm (OZ _ _)) ?_;clear hs;rintro r post Z ⟨rfl,es',hinv',rfl⟩ hs;refine zz ?_;(repeat clear U K);repeat intro K U
  refine⟨hlt,es',rfl,?_,hs.less (List.sublist_append_left _ _)⟩;rw[htk];exact hinv'.congr fun a p=>(pq _ _ _ _).symm
 .have etk:ls.take k=ls:=Aq hke
  rw[etk]at hinv;refine zz ?_;(repeat clear U K);repeat intro K U
  exact AI ⟨_,⟨L,es,rfl,hinv,rfl⟩,hs⟩
structure ER (w:AF) (kf:Int->List Int->Kn):Prop where
 ok: ∀a p,dB 1000 (kf a p)
 low: ∀a p,-1000000000<=(kf a p).low/\(kf a p).low<=1000000000
 short: ∀a p,2<=p.length->(kf a p).AG= []
 AG: ∀a p,∀s∈(kf a p).AG,0<=s/\s<w.owner.length
abbrev Hx (L:Nat) (pre post:List B8) (e:B8) (s:List B8):List At:=
 .box e.b [eI e.k.low,eI e.k.high,e.vn,eU e.k.BM,eU e.k.Dz,.b e.k.whole,.b e.k.Ab,e.vs]:: .own e.vn 1 (iL e.k.no)::H9 L (pre++e::(post++s)) pre (post++s)
def AAB {Z:AE} {L:Nat} {pre post:List B8} {e:B8} {s:List B8} (h:Sat Z (CN L (pre++e::(post++s)))):Sat Z (.own e.vs 1 (iL e.k.AG)::Hx L pre post e s):=
 (IC (X:=[]) h).perm ((Jy _ _ _ _).symm)
def tL {Z:AE} {L:Nat} {pre post:List B8} {e:B8} {s:List B8} (h:Sat Z (.own e.vs 1 (iL e.k.AG)::Hx L pre post e s)):Sat Z (CN L (pre++e::(post++s))):=
 Er (X:=[]) (e:=e) (e':=e) rfl rfl rfl (h.perm (Jy _ _ _ _))
def QZ (kf:Int->List Int->Kn) (L:Nat) (es:List B8) (post:List At):Prop:= ∃es',LD es es'/\B2 kf es'/\post=CN L es'
def qd (w:AF) (us:List Nat) {kf:Int->List Int->Kn} {L:Nat} {pre post:List B8} {e:B8} {a:Int} {p:List Int} (hp:p.length<2) :
    O5 zP (.f (.func 350) [] [.rp [Vv w us L],.rp (GH a p)]) eI (fun s=> .own e.vs 1 (iL e.k.AG)::Hx L pre post e s) (fun y=> !(kf a (p++[y])).Ab) (fun s=>B2 kf (pre++e::(post++s))/\ ∀x∈s,x.k=k0) (fun _=>True):=by
 rintro y s - ⟨hj,hj0⟩ Z hs;refine BO ?_;show Au zP 350 ([]++[eI y]++[.rp [Vv w us L],.rp (GH a p)]) Z _;refine wE kZ ?_
 conv=>whnf
 repeat'((first|clear U K|apply st|(apply zk;intro K U)|refine zY ?_|refine rk ?_ ?_|exact fun s e=>by cases e;rfl|refine Pure.use (Py a p y hp) ?_|fail)<;>conv=>whnf)
 refine(MX w us hj (a:=a) (p:=p++[y]) (by simp;omega)).use (rest:=[]) (by simpa using tL hs) ?_;clear hs;rintro r post' Z ⟨es4,e4,got,rfl,rfl⟩ hs;have hek4:=got.k;obtain⟨new,he4,hnew⟩:=got.ext;have hinv:=got.inv;obtain⟨pre4,post4,he5⟩:=List.append_of_mem got.mem;rw[Ez,he5]at hs;replace hs:=IC (X:=[]) hs;refine zz ?_;(repeat clear U K);repeat intro K U
 refine AI ⟨by rw[hek4],s++new,⟨?_,fun x hx=>?_⟩,?_⟩
 .rw[he4]at hinv
  simpa using hinv
 .rcases Dy.1 hx with hx|hx
  .exact hj0 x hx
  .exact hnew x hx
 .have h2:=Er (X:=[]) (e:=e4) (e':=e4) rfl rfl rfl hs
  rw[<-he5,he4]at h2;refine AAB ?_;simpa using h2
def qe (w:AF) (us:List Nat) {kf:Int->List Int->Kn} (hr:ER w kf) {L:Nat} {es:List B8} (h:B2 kf es) {a:Int} {p:List Int} (hp:p.length<=2) :
    BQ zP 316 [Vv w us L,CL a p] (CN L es) fun r post=>r= .ret (.b (IE kf a p))/\QZ kf L es post:=by
 intro Z hs;have hM:=Mx;refine wa kZ ?_;refine zz ?_;(repeat clear U K);repeat intro K U
 refine(MX w us h (a:=a) (p:=p) hp).use (rest:=[]) (by simpa using hs) ?_;clear hs;rintro r post Z ⟨es4,e4,got,rfl,rfl⟩ hs;have hek:=got.k;obtain⟨pre,post,rfl⟩:=List.append_of_mem got.mem;rw[Ez]at hs;replace hs:=IC (X:=[]) hs;have hsl:=(hr.ok a p).2.2.2;have hsh:=hr.short a p;rw[<-hek]at hsl hsh
 have hst:p.length<2\/e4.k.AG= []:=by
  rcases Nat.lt_or_ge p.length 2 with h'|h'
  .exact .inl h'
  .exact .inr (hsh h')
 have hE:IE kf a p=e4.k.AG.all fun y=> !(kf a (p++[y])).Ab:=by rw[IE,hek]
 refine zz ?_;(repeat clear U K);repeat intro K U
 have hall:BQ zP 246 [e4.vs,.f (.func 350) [] [.rp [Vv w us L],.rp (GH a p)]] (.own e4.vs 1 (iL e4.k.AG)::Hx L pre post e4 []) fun r post'=>r= .ret (.b (e4.k.AG.all fun y=> !(kf a (p++[y])).Ab))/\ ∃s',(B2 kf (pre++e4::(post++s'))/\ ∀x∈s',x.k=k0)/\post'= .own e4.vs 1 (iL e4.k.AG)::Hx L pre post e4 s':=by
  rcases hst with h'|h'
  .exact cY 350 [] [.rp [Vv w us L],.rp (GH a p)] (Hx L pre post e4) _ _ _ (qd w us h') (fun _ _=>trivial) (by omega) [] ⟨by simpa using got.inv,by simp⟩
  .exact cY 350 [] [.rp [Vv w us L],.rp (GH a p)] (Hx L pre post e4) _ _ (fun _=>False) (fun y s hf=>hf.elim) (fun x hx=>by rw[h']at hx;cases hx) (by omega) [] ⟨by simpa using got.inv,by simp⟩
 refine hall.use (rest:=[]) (by
  have h2:=AAB (L:=L) (pre:=pre) (post:=post) (e:=e4) (s:=[]) (by simpa using Er (X:=[]) (e:=e4) (e':=e4) rfl rfl rfl hs)
  simpa using h2) ?_
 clear hs;rintro r post' Z ⟨rfl,s',⟨hi,hn⟩,rfl⟩ hs;refine zz ?_;(repeat clear U K);repeat intro K U
 refine AI ⟨_,⟨by rw[hE],pre++e4::(post++s'),got.ext.trans ⟨s',by simp,hn⟩,hi,rfl⟩,tL (by simpa using hs)⟩
def NM {m u:Nat} (hm:m<18446744073709551616):(MP m u=0)↔H2 m u=true:=by
 rw[Mv (by simpa using hm)];constructor
 .intro h b hb
  have hlt:b<64:=by
   rcases Nat.lt_or_ge b 64 with h'|h'
   .exact h'
   .rw[Nat.testBit_lt_two_pow (Nat.lt_of_lt_of_le hm (by simpa using Nat.pow_le_pow_right (n:=2) (by decide) h'))]at hb;cases hb
  have:=RT (a:=m) (b:=u) hlt;rw[h,Nat.zero_testBit,hb]at this;simpa using this
 .intro h
  refine Nat.eq_of_testBit_eq fun i=>?_
  rw[Nat.zero_testBit];rcases Nat.lt_or_ge i 64 with hlt|hge
  .rw[RT hlt]
   cases hb:m.testBit i with
   | false=>rfl
   | true=>rw[h i hb];rfl
  .exact Nat.testBit_lt_two_pow (Nat.lt_of_lt_of_le (Va _ _) (by simpa using Nat.pow_le_pow_right (n:=2) (by decide) hge))
def XE (w:AF) (us:List Nat) {kf:Int->List Int->Kn} (hr:ER w kf) {L:Nat} {es:List B8} (h:B2 kf es) {a:Int} {p:List Int} (hp:p.length<=2) (c:Nat) (hc:c<64) :
    BQ zP 270 [Vv w us L,CL a p,eI c] (CN L es) fun r post=>r= .ret (.b (Ek kf a p c))/\QZ kf L es post:=by
 intro Z hs;refine xT kZ ?_;refine zz ?_;(repeat clear U K);repeat intro K U
 refine(MX w us h (a:=a) (p:=p) hp).use (rest:=[]) (by simpa using hs) ?_;clear hs;rintro r post Z ⟨es4,e4,got,rfl,rfl⟩ hs;have hek:=got.k;obtain⟨pre,post,rfl⟩:=List.append_of_mem got.mem;rw[Ez]at hs;replace hs:=IC (X:=[]) hs;have hok:=hr.ok a p;rw[<-hek]at hok;have hu:1|||2 ^ c<18446744073709551616:=IA (by decide) (Gr hc)
 have hb1:bits .andNot .u64 (e4.k.BM:Int) ((1|||2 ^ c:Nat):Int)=((MP e4.k.BM (1|||2 ^ c):Nat):Int):=Ih;have hb2:bits .and .u64 (e4.k.Dz:Int) ((1|||2 ^ c:Nat):Int)=((e4.k.Dz&&&(1|||2 ^ c):Nat):Int):=GD hok.2.1 hu;have hb3:=NM (u:=1|||2 ^ c) hok.1;have hP:Ek kf a p c=(H2 e4.k.BM (1|||2 ^ c)&&(e4.k.Dz&&&(1|||2 ^ c)==0&&IE kf a p)):=by rw[Ek,hek]
 conv=>whnf
 repeat'((first|clear U K|apply st|(apply zk;intro K U)|refine zY ?_|refine Pure.use (ae 1 c (by decide) hc) ?_|refine za (fun hc=>?_) fun hc=>?_|fail)<;>conv=>whnf)
 .have h1:H2 e4.k.BM (1|||2 ^ c)=true:=hb3.1 (by omega)
  have h2:(e4.k.Dz&&&(1|||2 ^ c)==0)=true:=by rw[C0];omega
  refine(qe w us hr got.inv hp).use (rest:=[]) (by simpa using Er (X:=[]) (e:=e4) (e':=e4) rfl rfl rfl hs) ?_;clear hs;rintro r post' Z ⟨rfl,es5,hx,hi,rfl⟩ hs;refine zz ?_;(repeat clear U K);repeat intro K U
  exact AI ⟨_,⟨by rw[hP,h1,h2];rfl,es5,got.ext.trans hx,hi,rfl⟩,by simpa using hs⟩
 .have h2:(e4.k.Dz&&&(1|||2 ^ c)==0)=false:=by rw[beq_eq_false_iff_ne];omega
  exact AI ⟨_,⟨by rw[hP,h2];simp,_,got.ext,got.inv,rfl⟩,by simpa using Er (X:=[]) (e:=e4) (e':=e4) rfl rfl rfl hs⟩
 .have h1:H2 e4.k.BM (1|||2 ^ c)=false:=by
   rw[<-Bool.not_eq_true,<-hb3];omega
  exact AI ⟨_,⟨by rw[hP,h1];simp,_,got.ext,got.inv,rfl⟩,by simpa using Er (X:=[]) (e:=e4) (e':=e4) rfl rfl rfl hs⟩
def R1 (w:AF) (us:List Nat) {kf:Int->List Int->Kn} (hr:ER w kf) {L:Nat} {es:List B8} (h:B2 kf es) {a:Int} {p:List Int} (hp:p.length<=2) :
    BQ zP 194 [Vv w us L,CL a p] (CN L es) fun r post=>r= .ret (.t [eI (Eo (kf a p)),.b (GJ kf a p)])/\QZ kf L es post:=by
 intro Z hs;have hM:=Mx;refine yM kZ ?_;refine zz ?_;(repeat clear U K);repeat intro K U
 refine(MX w us h (a:=a) (p:=p) hp).use (rest:=[]) (by simpa using hs) ?_;clear hs;rintro r post Z ⟨es4,e4,got,rfl,rfl⟩ hs;have hek:=got.k;obtain⟨pre,post,rfl⟩:=List.append_of_mem got.mem;rw[Ez]at hs;replace hs:=IC (X:=[]) hs;have hok:=hr.ok a p;have hlo:=hr.low a p;rw[<-hek]at hok hlo;have hno:=hok.2.2.1;have hle:=VR e4.k.no e4.k.low;have hL:Eo (kf a p)=HC e4.k.no (from_ e4.k.no e4.k.low) e4.k.low:=by rw[Eo,<-hek];exact QB hle (Hz _)
 refine zz ?_;(repeat clear U K);repeat intro K U
 refine D7 (fun n:Int=>from_ e4.k.no n) (fun n=>[(7,eI n)]) (fun _=> .box e4.b [eI e4.k.low,eI e4.k.high,e4.vn,eU e4.k.BM,eU e4.k.Dz,.b e4.k.whole,.b e4.k.Ab,e4.vs]:: .own e4.vn 1 (iL e4.k.no):: .own e4.vs 1 (iL e4.k.AG)::([]++H9 L (pre++e4::post) pre post)) (fun n=> -1000000000<=n/\n+from_ e4.k.no n<=1000001000/\Eo (kf a p)=HC e4.k.no (from_ e4.k.no n) n) e4.k.low rfl ⟨by omega,by omega,hL⟩ hs ?_;clear hs hL hle;rintro n Z ⟨hn0,hn1,hL⟩ hs;have hct2:=fun b=>C3 e4.k.no b n
 cases hcB:e4.k.no.contains n<;>rw[hcB]at hct2
 .have hout:n∉e4.k.no:=by simpa using hcB
  rw[cZ hout]at hL;have hI:GJ kf a p=(decide (n<=e4.k.high)&&Ek kf a p 1):=by rw[GJ,hL,hek]
  conv=>whnf
  repeat'((first|clear U K|apply st|(apply zk;intro K U)|refine zY ?_|refine Pure.MI (hct2 false) (.cons (hs.GG 1 rfl) (.cons (.refl _) .nil)) rfl ?_|refine za (fun hc=>?_) fun hc=>?_|fail)<;>conv=>whnf)
  all_goals
   have hsc:Sat Z (CN L (pre++e4::post)):=by simpa using Er (X:=[]) (e:=e4) (e':=e4) rfl rfl rfl hs
  .refine(XE w us hr got.inv hp 1 (by decide)).use (rest:=[]) (by simpa using hsc) ?_
   clear hs hsc;rintro r post' Z ⟨rfl,es5,hx,hi,rfl⟩ hs;refine zz ?_;(repeat clear U K);repeat intro K U
   exact AI ⟨_,⟨by rw[hL,hI,decide_eq_true (by assumption)];rfl,es5,got.ext.trans hx,hi,rfl⟩,by simpa using hs⟩
  .exact AI ⟨_,⟨by rw[hL,hI,decide_eq_false (by omega)];rfl,_,got.ext,got.inv,rfl⟩,hsc⟩
 .have hin:n∈e4.k.no:=by simpa using hcB
  have hlt:=P6 hin;have hwr:IntKind.i64.wrap (n+1)=n+1:=wrap64 (by omega) (by omega);obtain⟨m,hm⟩: ∃m,from_ e4.k.no n=m+1:=⟨from_ e4.k.no n - 1,by omega⟩
  have hL2:Eo (kf a p)=HC e4.k.no (from_ e4.k.no (n+1)) (n+1):=by rw[hL,hm,kI hin];exact QB (by omega) (Hz _)
  conv=>whnf
  repeat'((first|clear U K|apply st|(apply zk;intro K U)|refine zY ?_|refine Pure.MI (hct2 false) (.cons (hs.GG 1 rfl) (.cons (.refl _) .nil)) rfl ?_|fail)<;>conv=>whnf)
  exact⟨n+1,hlt,by rw[hwr];rfl,⟨by omega,by omega,hL2⟩,hs⟩
def bS (w:AF) (us:List Nat) {kf:Int->List Int->Kn} (hr:ER w kf) {L:Nat} {es:List B8} (h:B2 kf es) {a:Int} {p:List Int} (hp:p.length<=2) :
    BQ zP 195 [Vv w us L,CL a p] (CN L es) fun r post=>r= .ret (.b (DY kf a p))/\QZ kf L es post:=by
 intro Z hs;refine yL kZ ?_;refine zz ?_;(repeat clear U K);repeat intro K U
 refine(MX w us h (a:=a) (p:=p) hp).use (rest:=[]) (by simpa using hs) ?_;clear hs;rintro r post Z ⟨es4,e4,got,rfl,rfl⟩ hs;have hek:=got.k;obtain⟨pre,post,rfl⟩:=List.append_of_mem got.mem;rw[Ez]at hs;have hsc:=hs;replace hs:=IC (X:=[]) hs;have hN:DY kf a p=(!e4.k.whole&&Ek kf a p 2):=by rw[DY,hek]
 cases hw:e4.k.whole<;>rw[hw]at hs hN
 .refine zz ?_;(repeat clear U K);repeat intro K U
  refine(XE w us hr got.inv hp 2 (by decide)).use (rest:=[]) (by simpa using hsc) ?_;clear hs hsc;rintro r post' Z ⟨rfl,es5,hx,hi,rfl⟩ hs;refine zz ?_;(repeat clear U K);repeat intro K U
  exact AI ⟨_,⟨by rw[hN];rfl,es5,got.ext.trans hx,hi,rfl⟩,by simpa using hs⟩
 .refine zz ?_;(repeat clear U K);repeat intro K U
  exact AI ⟨_,⟨by rw[hN];rfl,_,got.ext,got.inv,rfl⟩,hsc⟩
def Ue {Z:AE} {X:List At} {L:Nat} {pre post:List B8} {e:B8} {s:List B8} (h:Sat Z (X++CN L (pre++e::(post++s)))):Sat Z (.own e.vs 1 (iL e.k.AG)::(X++Hx L pre post e s)):=by
 have h2:=IC h;refine h2.perm ((Jy _ _ _ _).symm.trans (.cons _ ?_));exact(List.perm_middle.trans (.cons _ List.perm_middle)).symm
def qw {Z:AE} {X:List At} {L:Nat} {pre post:List B8} {e:B8} {s:List B8} (h:Sat Z (.own e.vs 1 (iL e.k.AG)::(X++Hx L pre post e s))):Sat Z (X++CN L (pre++e::(post++s))):=by
 refine Er (X:=X) (e:=e) (e':=e) rfl rfl rfl ?_;refine h.perm ?_;refine List.Perm.trans (.cons _ (List.perm_middle.trans (.cons _ List.perm_middle))) ?_;exact Jy _ _ _ _
def qD (s:Nat) (c:Int) (hs0:s<18446744073709551616) (h0:0<=c) (hc:c<64):Pure zP 182 [eU s,eI c] (.b (s.testBit c.toNat)):=by
 have:=Ul s c.toNat hs0 (by omega);rw[Int.toNat_of_nonneg h0]at this;exact this
def nD {m:Nat} (hm:m<18446744073709551616):MP m 1=H5 m:=by
 refine Nat.eq_of_testBit_eq fun i=>?_
 rw[Xe];rcases Nat.lt_or_ge i 64 with hlt|hge
 .rw[RT hlt,show(1:Nat)=2 ^ 0 from rfl,Nat.testBit_two_pow]
  congr 2;rw[JK,Cp,C0];omega
 .have h64:18446744073709551616<=2 ^ i:=by simpa using Nat.pow_le_pow_right (n:=2) (by decide) hge
  rw[Nat.testBit_lt_two_pow (Nat.lt_of_lt_of_le (Va _ _) h64),Nat.testBit_lt_two_pow (Nat.lt_of_lt_of_le hm h64)];rfl
def TX (w : AF) (hw:Ct w) {kf:Int->List Int->Kn} (hr:ER w kf) {a:Int} {p:List Int} (hp:p.length<=2) (can:Int->Bool)
    (hcan: ∀s∈(kf a p).AG,∀L es,B2 kf es->BQ zP 267 [Vv w (Bc w.parents) L,CL a (p++[s])] (CN L es) fun r post=>r= .ret (.b (can s))/\QZ kf L es post) {L:Nat} {es:List B8} (h:B2 kf es) :
    BQ zP 196 [Vv w (Bc w.parents) L,CL a p] (CN L es) fun r post=>r= .ret (.t [eU (PU w (kf a p) (fun s=>(kf a (p++[s])).Ab) can).1,.b (PU w (kf a p) (fun s=>(kf a (p++[s])).Ab) can).2])/\QZ kf L es post:=by
 intro Z hs;have hM:=Mx;generalize hus:Bc w.parents=us at *;refine yK kZ ?_;refine zz ?_;(repeat clear U K);repeat intro K U
 refine(MX w us h (a:=a) (p:=p) hp).use (rest:=[]) (by simpa using hs) ?_;clear hs;rintro r post Z ⟨es4,e4,got,rfl,rfl⟩ hs;have hek:=got.k;obtain⟨pre,post,rfl⟩:=List.append_of_mem got.mem;rw[Ez]at hs;have hsc:=hs;replace hs:=IC (X:=[]) hs;have hok:=hr.ok a p;have hsl:=(hr.ok a p).2.2.2;have hsh:=hr.short a p;have hsw:=hr.AG a p;rw[<-hek]at hok hsl hsh hsw hcan;have hO:PU w (kf a p) (fun s=>(kf a (p++[s])).Ab) can=PU w e4.k (fun s=>(kf a (p++[s])).Ab) can:=by rw[hek]
 have hOn:(e4.k.whole=true\/e4.k.BM.testBit 1=true\/e4.k.BM.testBit 2=true\/e4.k.Dz.testBit 0=true)->PU w (kf a p) (fun s=>(kf a (p++[s])).Ab) can=(0,false):=fun h=>by
  rw[hO,PU,if_pos];rcases h with h|h|h|h<;>rw[h]<;>simp
 have hOy:e4.k.whole=false->e4.k.BM.testBit 1=false->e4.k.BM.testBit 2=false->e4.k.Dz.testBit 0=false->PU w (kf a p) (fun s=>(kf a (p++[s])).Ab) can=match JX w (fun s=>(kf a (p++[s])).Ab) can e4.k.AG (e4.k.BM,e4.k.Dz)with
  | none=>(0,false)
  | some u=>(H5 (Br (Bc w.parents) w.parents.length u.1),H5 (Br (Bc w.parents) w.parents.length u.1)&&&u.2==0):=fun h1 h2 h3 h4=>by
  rw[hO,PU,h1,h2,h3,h4];rfl
 clear hO;cases hb0:e4.k.whole<;>rw[hb0]at hs
 rotate_left
 .refine zz ?_;(repeat clear U K);repeat intro K U
  exact AI ⟨_,⟨by rw[hOn (.inl hb0)];rfl,_,got.ext,got.inv,rfl⟩,hsc⟩
 .conv => whnf
  repeat'((first|clear U K|apply st|(apply zk;intro K U)|refine zY ?_|refine Pure.use (Ul e4.k.BM 1 hok.1 (by decide)) ?_|refine Pure.use (Ul e4.k.BM 2 hok.1 (by decide)) ?_|refine Pure.use (Ul e4.k.Dz 0 hok.2.1 (by decide)) ?_|refine za (fun hc=>?_) fun hc=>?_|fail)<;>conv=>whnf)
  all_goals first
   | exact AI ⟨_,⟨by rw[hOn (by first|exact .inl (by assumption)|exact .inr (.inl (by assumption))|exact .inr (.inr (.inl (by assumption)))|exact .inr (.inr (.inr (by assumption))))];rfl,_,got.ext,got.inv,rfl⟩,hsc⟩
   | skip
  replace hOy:=hOy hb0 (by assumption) (by assumption) (by assumption);clear hOn;generalize hnf:(fun s=>(kf a (p++[s])).Ab)=Ab at *
  have hs1:Sat Z (.own e4.vs 1 (iL e4.k.AG)::Hx L pre post e4 []):=by
   have h2:=Ue (X:=[]) (L:=L) (pre:=pre) (post:=post) (e:=e4) (s:=[]) (by simpa using hsc);simpa using h2
  refine B1 e4.k.AG.length (fun k (x:(Nat×Nat)×List B8)=>[(47,eI (A4 k)),(7,eU x.1.1),(8,eU x.1.2)]) (fun k x=> .own e4.vs 1 (iL e4.k.AG)::Hx L pre post e4 x.2) (fun k x=>(x.1.1<18446744073709551616/\x.1.2<18446744073709551616)/\(B2 kf (pre++e4::(post++x.2))/\ ∀y∈x.2,y.k=k0)/\JX w Ab can e4.k.AG (e4.k.BM,e4.k.Dz)=JX w Ab can (e4.k.AG.drop k) x.1) ((e4.k.BM,e4.k.Dz),[]) rfl ⟨⟨hok.1,hok.2.1⟩,⟨by simpa using got.inv,by simp⟩,rfl⟩ hs1 ?_;clear hs hs1 hsc;rintro k ⟨⟨m,no⟩,new⟩ Z hk ⟨⟨hm,hno⟩,⟨hinv,hnew⟩,hF⟩ hs;simp only at hm hno hinv hnew hF hs;have hck:A4 k=k:=Ag (by have:=hok.2.2.2;omega);rcases A8 e4.k.AG hk with⟨s,hsk,hlt⟩|hke
  .have hsm:=Bp hsk
   have hp2:p.length<2:=by
    rcases Nat.lt_or_ge p.length 2 with h'|h'
    .exact h'
    .rw[hsh h']at hsm;cases hsm
   obtain⟨hs0,hs1⟩:=hsw s hsm;rw[drop_cons hsk,JX]at hF
   conv=>whnf
   repeat'((first|clear U K|apply st|(apply zk;intro K U)|refine zY ?_|refine ze fun x hx=>?_|refine zs fun Z hs=>?_|refine Pure.use (Py a p _ hp2) ?_|refine zo fun nn hnn Z hs=>?_|fail)<;>conv=>whnf)
   obtain rfl:x=s:=by rw[hck,Fi,hsk]at hx;exact(Option.some.inj hx).symm
   generalize nn=n7 at *;have hs2:Sat Z ([.box n7 (GH a (p++[x]))]++CN L (pre++e4::(post++new))):=qw (X:=[.box n7 (GH a (p++[x]))]) (hs.perm (.swap _ _ _));clear hs;obtain⟨o,ho⟩: ∃o,w.owner[x.toNat]? =some o:=⟨_,Cs (by omega)⟩
   have hoI:Bl w x=o:=by simp only[Bl,C6,ho];rfl
   obtain⟨ho1,ho2⟩:=hw.2.2 o (Bp ho);have hwp:=hw.1.1;have hcx:=hcan x hsm L;cases hnx:Ab x<;>cases hcy:can x
   all_goals
    rw[hcy]at hcx;rw[aK,hnx,hcy,hoI]at hF;refine(MX w us hinv (a:=a) (p:=p++[x]) (by simp;omega)).use (rest:=[.box n7 (GH a (p++[x]))]) (hs2.perm Nk) ?_;clear hs2;rintro r post' Z ⟨es5,e5,got5,rfl,rfl⟩ hs;have hek5:e5.k.Ab=Ab x:=by rw[got5.k,<-hnf]
    rw[hnx]at hek5;obtain⟨newA,heA,hnA⟩:=got5.ext;obtain⟨pre5,post5,he5⟩:=List.append_of_mem got5.mem;rw[he5]at hs;replace hs:=IC (X:=[.box n7 (GH a (p++[x]))]) (hs.perm Nk);rw[hek5]at hs
    conv=>whnf
    repeat'((first|apply st|refine zY ?_|refine rk ?_ ?_|exact fun s e=>by cases e;rfl|fail)<;>conv=>whnf)
    have hs2:Sat Z ([.box n7 (GH a (p++[x]))]++CN L (pre5++e5::post5)):=Er (X:=[.box n7 (GH a (p++[x]))]) (e:=e5) (e':=e5) rfl rfl rfl (by rw[<-hek5]at hs;exact hs);clear hs;refine(hcx es5 got5.inv).use (rest:=[.box n7 (GH a (p++[x]))]) (by rw[he5];exact hs2.perm Nk) ?_;clear hs2;rintro r post' Z ⟨rfl,es6,⟨new6,he6,hn6⟩,hi6,rfl⟩ hs;have he7:es6=pre5++e5::(post5++new6):=by rw[he6,he5];simp
    rw[he7]at hs;replace hs:=IC (X:=[.box n7 (GH a (p++[x]))]) (hs.perm Nk);rw[hek5]at hs
    conv=>whnf
    repeat'((first|clear U K|apply st|(apply zk;intro K U)|refine zY ?_|refine rk ?_ ?_|exact fun s e=>by cases e;rfl|refine Pure.use (IG m o hm (by omega) (by omega)) ?_|refine Pure.use (IG no o hno (by omega) (by omega)) ?_|fail)<;>conv=>whnf)
    simp only[Bool.not_false,Bool.not_true,Bool.and_true,Bool.and_false,ME,if_false,if_true,Option.bind_some,Option.bind_none]at hF;have e7:es6=pre++e4::(post++(new++newA++new6)):=by rw[he6,heA];simp
    have hs2:Sat Z ([.box n7 (GH a (p++[x]))]++CN L (pre5++e5::(post5++new6))):=Er (X:=[.box n7 (GH a (p++[x]))]) (e:=e5) (e':=e5) rfl rfl rfl (by rw[<-hek5]at hs;exact hs)
    have hs3:Sat Z (CN L (pre++e4::(post++(new++newA++new6)))):=by
     rw[<-he7,e7]at hs2;exact hs2.less (List.sublist_append_right _ _)
    have hi7:B2 kf (pre++e4::(post++(new++newA++new6))):=by rw[<-e7];exact hi6
    have hn7: ∀y∈new++newA++new6,y.k=k0:=fun y hy=>by
     rcases Dy.1 hy with hy|hy
     .rcases Dy.1 hy with hy|hy
      .exact hnew y hy
      .exact hnA y hy
     .exact hn6 y hy
    have hob:2 ^ o.toNat<18446744073709551616:=Gr (by omega)
   .exact⟨hlt,((m,no|||2 ^ o.toNat),new++newA++new6),rfl,⟨⟨hm,IA hno hob⟩,⟨hi7,hn7⟩,hF⟩,Ue (X:=[]) hs3⟩
   .exact⟨hlt,((m,no),new++newA++new6),rfl,⟨⟨hm,hno⟩,⟨hi7,hn7⟩,hF⟩,Ue (X:=[]) hs3⟩
   .rw[hF]at hOy
    exact AI ⟨_,⟨by rw[hOy];rfl,_,got.ext.trans ⟨_,by simp,hn7⟩,hi7,rfl⟩,hs3⟩
   .exact⟨hlt,((m|||2 ^ o.toNat,no),new++newA++new6),rfl,⟨⟨IA hm hob,hno⟩,⟨hi7,hn7⟩,hF⟩,Ue (X:=[]) hs3⟩
  .rw [Ai hke,JX]at hF
   rw[hF]at hOy;simp only at hOy;refine zz ?_;(repeat clear U K);repeat intro K U
   have hu:sx us:=by rw[<-hus];exact Gv _ _ (by have:=hw.1.1;omega)
   have hul:us.length=3+w.parents.length:=by rw[<-hus];exact Dh _ _
   have hwp:=hw.1.1;have hwl:IntKind.i64.wrap (3+((EN w.parents).length:Nat))=3+(w.parents.length:Int):=by rw[B9,wrap64 (by omega) (by omega)]
   refine B1 w.parents.length (fun k (x:Nat)=>[(14,eI (MN 3 k)),(7,eU x)]) (fun _ _=> .own e4.vs 1 (iL e4.k.AG)::Hx L pre post e4 new) (fun k x=>x<18446744073709551616/\x=Br us k m) m rfl ⟨hm,rfl⟩ hs ?_;clear hs;clear hke hck hk k;rintro k x Z hk ⟨hx64,hxe⟩ hs;have hc3:MN 3 k=3+k:=P8 (by omega) (by omega);by_cases hlt:k<w.parents.length
   .have hbt:Br us (k+1) m=if x.testBit (MN 3 k).toNat then x|||us.getD (3+k) 0 else x:=by
     rw[Br,<-hxe,hc3,show(3+(k:Int)).toNat=3+k by omega]
    have hup:(List.drop ((MN 3 k).toNat*1) (List.drop 2 (wC w us)))[0]? =some (eU (us.getD (3+k) 0)):=by
     rw[zZ,zZ,<-rZ w us (i:=3+k) (by omega)];congr 1;omega
    conv=>whnf
    repeat'((first|clear U K|apply st|(apply zk;intro K U)|refine zY ?_|(rw[hup])|refine Pure.use (qD x (MN 3 k) hx64 (by omega) (by omega)) ?_|(refine zb (fun hc=>?_) (fun hc=>?_)<;>try exact⟨⟩)|fail)<;>conv=>whnf)
    .refine⟨hlt,x|||us.getD (3+k) 0,?_,⟨IA hx64 (Uf hu _),by rw[hbt,if_pos (by assumption)]⟩,hs⟩
     rw[HT hx64 (Uf hu _)];rfl
    .exact⟨hlt,x,rfl,⟨hx64,by rw[hbt,if_neg (by rw[‹x.testBit _=false›];decide)]⟩,hs⟩
   .have hke:k=w.parents.length:=by omega
    rw[hus,<-hke,<-hxe]at hOy
    have hA:bits .andNot .u64 (x:Int) 1=((H5 x:Nat):Int):=by
     have:=Ih (a:=x) (b:=1);rw[nD hx64]at this;exact this
    have hcl:H5 x<18446744073709551616:=by unfold H5;omega
    have hB:bits .and .u64 ((H5 x:Nat):Int) (no:Int)=((H5 x&&&no:Nat):Int):=GD hcl hno
    conv=>whnf
    repeat'((first|clear U K|apply st|(apply zk;intro K U)|refine zY ?_|(refine zb (fun hc=>?_) (fun hc=>?_)<;>try exact⟨⟩)|fail)<;>conv=>whnf)
    rw[hA,hB];refine AI ⟨_,⟨?_,_,got.ext.trans ⟨new,by simp,hnew⟩,hinv,rfl⟩,tL hs⟩;rw[hOy]
    have hz:(((H5 x&&&no:Nat):Int)==0)=(H5 x&&&no==0):=by
     rw[JK,C0,C0];omega
    rw[<-hz]
def zE (w:AF) (hw:Ct w) {kf:Int->List Int->Kn} (hr:ER w kf) (a:Int): ∀(d:Nat) (p:List Int),p.length+d=2-> ∀(L:Nat) (es:List B8),B2 kf es->
    BQ zP 267 [Vv w (Bc w.parents) L,CL a p] (CN L es) fun r post=>r= .ret (.b (PX w kf a d p))/\QZ kf L es post:=by
 intro d
 induction d with
 | zero=>
   intro p hp L es h Z hs;have hint:=R1 w (Bc w.parents) hr h (L:=L) (a:=a) (p:=p) (by omega);have hnone:=fun es h=>bS w (Bc w.parents) hr (es:=es) h (L:=L) (a:=a) (p:=p) (by omega)
   have hobj:=fun es h=>TX w hw hr (a:=a) (p:=p) (by omega) (fun _=>false) (by rw[hr.short a p (by omega)];intro s hs;cases hs) (L:=L) (es:=es) h
   rw[PX];cases hI:GJ kf a p<;>cases hN:DY kf a p<;>rw[hI]at hint<;>rw[hN]at hnone
   all_goals
    refine jl kZ ?_;refine zz ?_;(repeat clear U K);repeat intro K U
    refine hint.use (rest:=[]) (by simpa using hs) ?_;clear hs;rintro r post Z ⟨rfl,es2,hx2,hi2,rfl⟩ hs;rw[Ez]at hs;refine zz ?_;(repeat clear U K);repeat intro K U
   rotate_left 2
   .exact AI ⟨_,⟨rfl,es2,hx2,hi2,rfl⟩,hs⟩
   .exact AI ⟨_,⟨rfl,es2,hx2,hi2,rfl⟩,hs⟩
   all_goals
    refine(hnone es2 hi2).use (rest:=[]) (by simpa using hs) ?_;clear hs;rintro r post Z ⟨rfl,es3,hx3,hi3,rfl⟩ hs;rw[Ez]at hs;refine zz ?_;(repeat clear U K);repeat intro K U
   rotate_left 1
   .exact AI ⟨_,⟨rfl,es3,hx2.trans hx3,hi3,rfl⟩,hs⟩
   .refine(hobj es3 hi3).use (rest:=[]) (by simpa using hs) ?_
    clear hs;rintro r post Z ⟨rfl,es4,hx4,hi4,rfl⟩ hs;rw[Ez]at hs;refine zz ?_;(repeat clear U K);repeat intro K U
    exact AI ⟨_,⟨rfl,es4,(hx2.trans hx3).trans hx4,hi4,rfl⟩,hs⟩
 | succ d ih=>
   intro p hp L es h Z hs;have hint:=R1 w (Bc w.parents) hr h (L:=L) (a:=a) (p:=p) (by omega);have hnone:=fun es h=>bS w (Bc w.parents) hr (es:=es) h (L:=L) (a:=a) (p:=p) (by omega)
   have hobj:=fun es h=>TX w hw hr (a:=a) (p:=p) (by omega) (fun s=>PX w kf a d (p++[s])) (fun s hs L es h=>ih (p++[s]) (by simp;omega) L es h) (L:=L) (es:=es) h
   rw[PX];cases hI:GJ kf a p<;>cases hN:DY kf a p<;>rw[hI]at hint<;>rw[hN]at hnone
   all_goals
    refine jl kZ ?_;refine zz ?_;(repeat clear U K);repeat intro K U
    refine hint.use (rest:=[]) (by simpa using hs) ?_;clear hs;rintro r post Z ⟨rfl,es2,hx2,hi2,rfl⟩ hs;rw[Ez]at hs;refine zz ?_;(repeat clear U K);repeat intro K U
   rotate_left 2
   .exact AI ⟨_,⟨rfl,es2,hx2,hi2,rfl⟩,hs⟩
   .exact AI ⟨_,⟨rfl,es2,hx2,hi2,rfl⟩,hs⟩
   all_goals
    refine(hnone es2 hi2).use (rest:=[]) (by simpa using hs) ?_;clear hs;rintro r post Z ⟨rfl,es3,hx3,hi3,rfl⟩ hs;rw[Ez]at hs;refine zz ?_;(repeat clear U K);repeat intro K U
   rotate_left 1
   .exact AI ⟨_,⟨rfl,es3,hx2.trans hx3,hi3,rfl⟩,hs⟩
   .refine(hobj es3 hi3).use (rest:=[]) (by simpa using hs) ?_
    clear hs;rintro r post Z ⟨rfl,es4,hx4,hi4,rfl⟩ hs;rw[Ez]at hs;refine zz ?_;(repeat clear U K);repeat intro K U
    exact AI ⟨_,⟨rfl,es4,(hx2.trans hx3).trans hx4,hi4,rfl⟩,hs⟩
abbrev sW:V:= .FV 260 (.a [])
def ku (w:AF) (hw:Ct w) {kf:Int->List Int->Kn} (hr:ER w kf) {L:Nat} {es:List B8} (h:B2 kf es) :
    BQ zP 192 [Vv w (Bc w.parents) L] (CN L es) fun r post=>r=(if gU w kf then .ret (.t [])else .Bk sW)/\post= []:=by
 intro Z hs;refine yO kZ ?_;refine zz ?_;(repeat clear U K);repeat intro K U
 refine B1 3 (fun k (x:List B8)=>[(3,eI (A4 k))]) (fun k x=>CN L x) (fun k x=>B2 kf x/\gU w kf=((BS 3).drop k).all fun a=>PX w kf a 2 []) es rfl ⟨h,rfl⟩ hs ?_;clear hs h;rintro k es Z hk ⟨h,hn⟩ hs;have hck:A4 k=k:=Ag (by simp only[Aa];omega);have hl3:(BS 3).length=3:=rfl;rcases A8 (BS 3) hk with⟨a,ha,hlt⟩|hke
 .rw[drop_cons ha,K5]at hn
  have hak:a=A4 k:=by
   rw[hck];simp only[BS,Jm,List.getElem?_range (show k<3 from hlt),Ya]at ha;exact(Option.some.inj ha).symm
  subst hak;have hcan:=zE w hw hr (A4 k) 2 [] rfl L es h;cases hC:PX w kf (A4 k) 2 []<;>rw[hC]at hcan hn
  all_goals
   conv=>whnf
   repeat'((first|clear U K|apply st|(apply zk;intro K U)|refine zY ?_|(refine zb (fun hc=>?_) (fun hc=>?_)<;>try exact⟨⟩)|fail)<;>conv=>whnf)
   refine hcan.use (rest:=[]) (by simpa using hs) ?_;clear hs;rintro r post Z ⟨rfl,es2,hx2,hi2,rfl⟩ hs;rw[Ez]at hs;refine zz ?_;(repeat clear U K);repeat intro K U
  .exact DS ⟨_,⟨by rw[hn];rfl,rfl⟩,hs.less (Jf _)⟩
  .exact⟨by omega,es2,rfl,⟨hi2,by simpa using hn⟩,hs⟩
 .rw[Ai hke]at hn
  conv=>whnf
  repeat'((first|clear U K|apply st|(apply zk;intro K U)|refine zY ?_|(refine zb (fun hc=>?_) (fun hc=>?_)<;>try exact⟨⟩)|fail)<;>conv=>whnf)
  exact AI ⟨_,⟨by rw[hn];rfl,rfl⟩,hs.less (Jf _)⟩
def Mr {w:AF} {ls:List Fact} (hw:w.parents.length<=60) (h: ∀x∈ls,DV w x):OG ls:=by
 intro l hl;obtain⟨-,hc,hsm,hsh⟩:=IM h;obtain⟨-,hn,hlf⟩:=IN (h l hl);exact⟨Fy hlf,hsh l hl,fun ho=>by have:=hc l hl ho;omega,hsm l hl⟩
def uq {ls:List Fact} (h:Hf ls) (a:Int) (p:List Int): -1000000000<=(kn ls a p).low/\(kn ls a p).low<=1000000000:=by
 have key: ∀(ls:List Fact) (k:Kn),Hf ls->(-1000000000<=k.low/\k.low<=1000000000)-> -1000000000<=(ls.foldl (C1 a p) k).low/\(ls.foldl (C1 a p) k).low<=1000000000:=by
  intro ls
  induction ls with
  | nil=>intro k _ h;exact h
  | cons l r ih=>
    intro k hs hk;refine ih _ (fun x hx=>hs x (.tail _ hx)) ?_;have hn:=hs l (.head _);unfold C1 B4 B5 gR
    repeat' split
    all_goals first
     | exact hk
     | exact hn
     | (simp only;exact hk)
     | (simp only;exact hn)
 exact key ls k0 h ⟨by decide,by decide⟩
def bJ {w:AF} {ls:List Fact} (h: ∀x∈ls,DV w x):Hj w.owner.length ls:=by
 intro l hl s hs;obtain⟨-,hn,-⟩:=IN (h l hl);rw[CO,A9]at hn;have:=hn.1;simp only[DE,Fb,A9,EG,JR,Cp]at this;exact this.2.2.2.2.1.1 s hs
def bC {w:AF} (hw:Ct w) {ls:List Fact} (h: ∀x∈ls,DV w x) (hlen:ls.length<900):ER w (kn ls):=by
 have hadd:=Mr (by have:=hw.1.1;omega) h;obtain⟨-,-,hsm,hsh⟩:=IM h;have hp:=bJ h;refine⟨fun a p=>?_,uq hsm,fun a p hpl=>?_,fun a p s hs=>?_⟩
 .obtain⟨h1,h2,h3,h4⟩:=jQ hadd a p
  exact⟨h1,h2,by omega,by omega⟩
 .rw[KC hp]
  exact IV hsh hpl
 .rw[KC hp]at hs
  exact Fl hs
def tg {w:AF} (hw:Ct w) {ls:List Fact} (h: ∀x∈ls,DV w x):gU w (kn ls)=FW w ls:=by
 obtain⟨-,hc,-,-⟩:=IM h;refine th ?_ (fun s h0 h1=>?_) (by have:=hw.1.1;omega) (fun l hl ho=>by have:=hc l hl ho;omega) (bJ h)
 .exact Kx hw.1
 .obtain⟨o,ho⟩: ∃o,w.owner[s.toNat]? =some o:=⟨_,Cs (by omega)⟩
  have hoI:Bl w s=o:=by simp only[Bl,C6,ho];rfl
  rw[hoI];exact hw.2.2 o (Bp ho)
def qo {Z:AE} {n:Nat} {x:V} {rest:List At} (hs:Sat Z (.box n [x]::rest)) {Q:AE->Prop} (hq: ∀Z',Sat Z' (.box n [.b false]::rest)->Q Z'):H7 zP 191 [.p n 0] (some sW) Z Q:=by
 refine cM kZ ?_
 conv=>whnf
 repeat'((first|clear U K|apply st|(apply zk;intro K U)|refine zs fun Z hs=>?_|refine tB rfl ?_|refine zo fun nn hnn Z hs=>?_|fail)<;>conv=>whnf)
 exact hq _ (hs.less (K6 _ _))
def qp {Z:AE} {n:Nat} {x:V} {rest:List At} (hs:Sat Z (.box n [x]::rest)) {Q:AE->Prop} (hq: ∀Z',Sat Z' (.box n [x]::rest)->Q Z'):H7 zP 191 [.p n 0] none Z Q:=by
 refine cM kZ ?_
 conv=>whnf
 repeat'((first|clear U K|apply st|(apply zk;intro K U)|refine zY ?_|refine zs fun Z hs=>?_|refine zo fun nn hnn Z hs=>?_|fail)<;>conv=>whnf)
 exact hq _ (hs.less (K6 _ _))
attribute [local irreducible] H7
def X0 (w:AF) (hw:Ct w) (ls:List Fact) (b:Bool) (hl: ∀x∈ls,DV w x) (hlen:ls.length<900):Pure zP 127 [.rp (wC w (Bc w.parents)),.l (D3 ls) b] (.b (FW w ls)):=by
 refine Pure.of ?_;refine y1 kZ ?_;have hs:=Sn
 conv=>whnf
 repeat'((first|clear U K|apply st|(apply zk;intro K U)|refine zo fun nn hnn Z hs=>?_|fail)<;>conv=>whnf)
 refine(lD w (Bc w.parents) ls b (Mr (by have:=hw.1.1;omega) hl) hlen).use (rest:=[.box nn [.b false]]) (by simpa using hs) ?_;clear hs;rintro r post Z ⟨L,es,rfl,hinv,rfl⟩ hs;have hwh:=ku w hw (bC hw hl hlen) hinv (L:=L);rw[tg hw hl]at hwh;cases ht:FW w ls<;>rw[ht]at hwh
 all_goals
  conv=>whnf
  refine hwh.use (rest:=[.box nn [.b false]]) hs ?_;clear hs;rintro r post Z ⟨rfl,rfl⟩ hs
  conv=>whnf
  repeat'((first|clear U K|apply st|(apply zk;intro K U)|refine zs fun Z hs=>?_|fail)<;>conv=>whnf)
 .refine qo (rest:=[]) hs fun Z hs=>?_
  refine zz ?_;(repeat clear U K);repeat intro K U
  exact AI (by rw[ht];rfl)
 .refine qp (rest:=[]) (x:= .b true) hs fun Z hs=>?_
  refine zz ?_;(repeat clear U K);repeat intro K U
  exact AI (by rw[ht];rfl)
end Go.Gl
namespace Go.Gl
open Go.Proofs
attribute [local irreducible] Au Am Ae AR AK AY AQ AS AJ AX AM AO Ao A0 Sat AU Ay Af W
def Sc {α S:Type} (stp:α->S->Bool×S) (D:α->S->Prop):List α->S->Prop
 | [],_=>True
 | y::r,s=>D y s/\((stp y s).1=true->Sc stp D r (stp y s).2)
section
variable {α β S:Type} {stp:α->S->Bool×S} {D:α->S->Prop}
def NP: ∀(A B:List α) (s:S),CS stp (A++B) s=if(CS stp A s).1 then CS stp B (CS stp A s).2 else(false,(CS stp A s).2)
 | [],B,s=>by simp[CS]
 | y::r,B,s=>by
   rw[List.cons_append,CS,CS];cases(stp y s).1
   .rfl
   .simpa using NP r B (stp y s).2
def RU (l:α) (s:S):CS stp [l] s=stp l s:=by
 rw[CS,CS];rcases stp l s with⟨b,s'⟩;cases b<;>rfl
def Pw: ∀ {A B:List α} {s:S},Sc stp D (A++B) s->Sc stp D A s/\((CS stp A s).1=true->Sc stp D B (CS stp A s).2)
 | [],B,s,h=>⟨trivial,fun _=>h⟩
 | y ::r,B,s,h=>by
   obtain⟨h1,h2⟩:=h;rw[Sc,CS];cases hy:(stp y s).1
   .exact⟨⟨h1,fun h=>(by cases h)⟩,fun h=>(by simp at h)⟩
   .obtain⟨h3,h4⟩:=Pw (h2 hy)
    exact⟨⟨h1,fun _=>h3⟩,by simpa using h4⟩
def Pv {A:List α}: ∀ {B:List α} {s:S},(∀y∈B,y∈A)->Sc stp D B s->Sc stp (fun y s=>y∈A/\D y s) B s
 | [],_,_,_=>trivial
 | y::r,_,hm,h=>⟨⟨hm y (.head _),h.1⟩,fun hy=>Pv (fun z hz=>hm z (.tail _ hz)) (h.2 hy)⟩
def bN {g:β->α}: ∀ {B:List β} {s:S},Sc stp D (B.map g) s->Sc (fun b s=>stp (g b) s) (fun b s=>D (g b) s) B s
 | [],_,_=>trivial
 | y::r,_,h=>⟨h.1,fun hy=>bN (h.2 hy)⟩
end
section
variable {S:Type} {stp:List Fact->S->Bool×S} {D:List Fact->S->Prop}
def UB (B:List (List Fact)): ∀(A:List (List Fact)) (s:S),CS stp (DX A B) s=CS (fun x s=>CS (fun y s=>stp (Ca x y) s) B s) A s
 | [],s=>rfl
 | x::r,s=>by
   have ih:=UB B r;rw[DX,List.flatMap_cons,NP,NO,CS];simp only[DX]at ih;rw[ih]
def XG (B:List (List Fact)): ∀ {A:List (List Fact)} {s:S},Sc stp D (DX A B) s->Sc (fun x s=>CS (fun y s=>stp (Ca x y) s) B s) (fun x s=>Sc (fun y s=>stp (Ca x y) s) (fun y s=>D (Ca x y) s) B s) A s
 | [],_,_=>trivial
 | x::r,s,h=>by
   rw[DX,List.flatMap_cons]at h;obtain⟨h1,h2⟩:=Pw h;refine⟨bN h1,fun hy=>?_⟩;rw[NO]at h2;exact XG B (h2 hy)
end
abbrev Lb (l:List Fact) (b:Bool):V:= .l (D3 l) b
def S7 {S:Type} (x:V) (H:S->List At) (stp:List Fact->S->Bool×S) (D:List Fact->S->Prop):Prop:= ∀b,DG zP x (fun l=>Lb l b) H stp D
abbrev WJ (n:Nat):V:= .f (.func 187) [] [.p n 0]
def Tb {f:Fact} (hl:CK f=true) (c:Bool):Jj (if c then EZ f else f)=xF f++[.b c]:=by
 have:=Fy hl;cases c with
 | true=>rfl
 | false=>
   have h5: ¬f.op=5:=by omega
   simp only[Jj,ME,if_false,Ad,if_neg h5]
def WalkC (f:Fact):Prop:= ∀(c:Bool) (S:Type) (fn:Fn) (fi ca:List V) (H:S->List At) (stp:List Fact->S->Bool×S) (D:List Fact->S->Prop) (nW:Nat) (s:S),
 S7 (.f fn fi ca) (fun s=> .box nW [WJ nW]::H s) stp D->Sc stp D (BE f c) s-> ∀Z,Sat Z (.box nW [WJ nW]::H s)->
  Ao zP (WJ nW) [.a (xF f),.b c,.f fn fi ca] Z fun r Z'=>r= .ret (.b (CS stp (BE f c) s).1)/\Sat Z' (.box nW [WJ nW]::H (CS stp (BE f c) s).2)
def mr {w:AF} {S:Type} {fn:Fn} {fi ca:List V} {H:S->List At} {stp:List Fact->S->Bool×S} {D:List Fact->S->Prop} (hT:S7 (.f fn fi ca) H stp D) {k0 k1:Fact} {c:Bool} (hn0:Bb w k0=true) (hn1:Bb w k1=true) (hv0:lv k0<=100) (hv1:lv k1<=100) {a:List Fact} (ha:a∈BE k0 c) (fa:Bool) :
    S7 (.f (.func 189) [] [.rp [.f fn fi ca],.rp [Lb a fa]]) H (fun y s=>stp (Ca a y) s) (fun y s=>y∈BE k1 c/\D (Ca a y) s):=by
 rintro b y s ⟨hy,hd⟩ Z hs;refine BO ?_;show Au zP 189 ([]++[Lb y b]++[.rp [.f fn fi ca],.rp [Lb a fa]]) Z _;have hla:=(EE k0 (Bn _ hn0) c).2 a ha;have hly:=(EE k1 (Bn _ hn1) c).2 y hy;have hM:=Mx;refine yQ kZ ?_
 conv=>whnf
 repeat'((first|clear U K|apply st|(apply zk;intro K U)|refine rk ?_ ?_|exact fun s e=>by cases e;rfl|refine Pure.use (ei (w:=w) a y fa b (C5 k0 hn0 c a ha) (C5 k1 hn1 c y hy) (by omega)) ?_|fail)<;>conv=>whnf)
 refine(hT false).use hd hs ?_;clear hs;intro Z hs;refine zz ?_;(repeat clear U K);repeat intro K U
 exact AI ⟨rfl,hs⟩
def mu {w:AF} {S:Type} {fn:Fn} {fi ca:List V} {H:S->List At} {stp:List Fact->S->Bool×S} {D:List Fact->S->Prop} {nW:Nat} (hT:S7 (.f fn fi ca) (fun s=> .box nW [WJ nW]::H s) stp D) {f k0 k1:Fact} (hk:f.kids= [k0,k1]) {c:Bool} (hn0:Bb w k0=true) (hn1:Bb w k1=true) (hv0:lv k0<=100) (hv1:lv k1<=100) (hw1:WalkC k1) :
    S7 (.f (.func 188) [] [.p nW 0,.rp (xF f),.rp [.b c],.rp [.f fn fi ca]]) (fun s=> .box nW [WJ nW]::H s) (fun a s=>CS (fun y s=>stp (Ca a y) s) (BE k1 c) s) (fun a s=>a∈BE k0 c/\Sc (fun y s=>stp (Ca a y) s) (fun y s=>D (Ca a y) s) (BE k1 c) s):=by
 rintro fa a s ⟨ha,hd⟩ Z hs;refine BO ?_;show Au zP 188 ([]++[Lb a fa]++[.p nW 0,.rp (xF f),.rp [.b c],.rp [.f fn fi ca]]) Z _;have h1:f.kids[(1:Int).toNat]? =some k1:=by rw[hk];rfl
 refine yR kZ ?_;refine zz ?_;(repeat clear U K);repeat intro K U
 refine(hw1 c S _ _ _ H _ _ nW s (mr hT hn0 hn1 hv0 hv1 ha fa) (Pv (fun y hy=>hy) hd) Z hs).mono ?_;clear hs;rintro r Z ⟨rfl,hs⟩;refine zz ?_;(repeat clear U K);repeat intro K U
 exact AI ⟨rfl,hs⟩
def oQ {w : AF} (f:Fact):Bb w f=true->lv f<=100->WalkC f:=by
 induction f using Fact.ind with
 | h f ih=>
   intro hn hv c S fn fi ca H stp D nW s hT hd Z hs;have har:=Bn _ hn
   have hnk: ∀k∈f.kids,Bb w k=true:=by
    rw[CO,A9,EG]at hn;exact hn.2
   have hop:f.op=1\/f.op=5\/CK f=true\/f.op=6\/f.op=7:=by
    rw[CO,A9]at hn;have h1:=hn.1;simp only[DE,YX,A9]at h1;rw[M9];simp only[A9,Cp];have h2:=h1.1;split at h2
    .omega
    .split at h2
     .omega
     .simp only[E9,C0]at h2
      omega
   refine BO ?_;show Au zP 187 ([]++[.a (xF f),.b c,.f fn fi ca]++[.p nW 0]) Z _;refine yS kZ ?_;rw[E5,Es]at hd;have hcs:=E5 f c;rw[Es]at hcs;rcases hop with h1|h5|hl|h67
   .rw[if_pos h1]at hd hcs
    rw[hcs];cases c
    .rw[if_neg (by decide)]at hd ⊢
     rw[RU]
     conv=>whnf
     repeat'((first|clear U K|apply st|(apply zk;intro K U)|refine zY ?_|(refine zb (fun hc=>?_) (fun hc=>?_)<;>try exact⟨⟩)|fail)<;>conv=>whnf)
     refine(hT true).use (y:=[]) hd.1 hs ?_;clear hs;intro Z hs;refine zz ?_;(repeat clear U K);repeat intro K U
     exact AI ⟨rfl,hs⟩
    .rw[if_pos rfl]at hd ⊢
     conv=>whnf
     repeat'((first|clear U K|apply st|(apply zk;intro K U)|refine zY ?_|(refine zb (fun hc=>?_) (fun hc=>?_)<;>try exact⟨⟩)|fail)<;>conv=>whnf)
     exact AI ⟨rfl,hs⟩
   .obtain⟨k,hk,-⟩:=FN har h5
    have hkm:k∈f.kids:=by rw[hk];exact .head _
    have hvk:lv k<=100:=by
     rw[J0,Yc,if_pos h5,hk]at hv;exact hv
    rw[if_neg (by omega),if_pos h5,hk]at hd hcs;have hcs2:BE f c=BE k (!c):=hcs;have h0:f.kids[(0:Int).toNat]? =some k:=by rw[hk];rfl
    rw[hcs2]
    conv=>whnf
    repeat'((first|clear U K|apply st|(apply zk;intro K U)|refine zY ?_|(refine zb (fun hc=>?_) (fun hc=>?_)<;>try exact⟨⟩)|fail)<;>conv=>whnf)
    refine(ih k hkm (hnk k hkm) hvk (!c) S _ _ _ H stp D nW s hT hd Z hs).mono ?_;clear hs;rintro r Z ⟨rfl,hs⟩;refine zz ?_;(repeat clear U K);repeat intro K U
    exact AI ⟨rfl,hs⟩
   .have hlo:=Fy hl
    have hlB:=VH f;rw[hl]at hlB;rw[if_neg (by omega),if_neg (by omega),if_neg (by omega)]at hd hcs;have hcs2:BE f c= [[if c then EZ f else f]]:=by rw[hcs];cases c<;>rfl
    rw[<-hcs,hcs2]at hd;rw[hcs2,RU]
    have e:Lb [if c then EZ f else f] true= .l [xF f++[.b c]] true:=by
     show V.l [Jj (if c then EZ f else f)] true=_;rw[Tb hl]
    have hst:=(hT true) [if c then EZ f else f] s hd.1;simp only[e]at hst
    conv=>whnf
    repeat'((first|clear U K|apply st|(apply zk;intro K U)|refine zY ?_|refine hlB.use ?_|(refine zb (fun hc=>?_) (fun hc=>?_)<;>try exact⟨⟩)|fail)<;>conv=>whnf)
    refine(hst Z hs).mono ?_;clear hs;rintro r Z ⟨rfl,hs⟩;refine zz ?_;(repeat clear U K);repeat intro K U
    exact AI ⟨rfl,hs⟩
   .obtain⟨k0,k1,hk,-,-⟩:=FM har h67
    have hkm0:k0∈f.kids:=by rw[hk];exact .head _
    have hkm1:k1∈f.kids:=by rw[hk];exact .tail _ (.head _)
    have hlf:CK f=false:=by rw[M9,decide_eq_false (show¬f.op<=4 by omega),Bool.and_false]
    have hlB:=VH f;rw[hlf]at hlB
    have hvk:lv k0+lv k1<=100:=by
     rw[J0,Yc,if_neg (by omega),if_pos h67,hk]at hv;exact hv
    rw[if_neg (by omega),if_neg (by omega),if_pos h67,hk]at hd hcs;have h0:f.kids[(0:Int).toNat]? =some k0:=by rw[hk];rfl
    have h1:f.kids[(1:Int).toNat]? =some k1:=by rw[hk];rfl
    have i0:=ih k0 hkm0 (hnk k0 hkm0) (by omega);have i1:=ih k1 hkm1 (hnk k1 hkm1) (by omega);by_cases hap:(c != (f.op==7))=true
    .rw [if_pos hap]at hd hcs
     have hcs2:BE f c=BE k0 c++BE k1 c:=hcs;have hd2:Sc stp D (BE k0 c++BE k1 c) s:=hd;obtain⟨hd3,hd4⟩:=Pw hd2;rw[hcs2,NP];clear hcs hcs2 hd hd2;rcases h67 with h6|h7
     .have h6b:(f.op==6)=true:=by rw[h6];rfl
      have hct:c=true:=by rw[h6]at hap;cases c<;>simp_all
      subst hct
      conv=>whnf
      repeat'((first|clear U K|apply st|(apply zk;intro K U)|refine zY ?_|refine hlB.use ?_|(rw[h6b])|(refine zb (fun hc=>?_) (fun hc=>?_)<;>try exact⟨⟩)|fail)<;>conv=>whnf)
      refine(i0 true S _ _ _ H stp D nW s hT hd3 Z hs).mono ?_;clear hs;rintro r Z ⟨rfl,hs⟩;generalize CS stp (BE k0 true) s=x at *;obtain⟨b1,s1⟩:=x;cases b1
      .refine zz ?_;(repeat clear U K);repeat intro K U
       exact AI ⟨rfl,hs⟩
      .refine zz ?_;(repeat clear U K);repeat intro K U
       refine(i1 true S _ _ _ H stp D nW s1 hT (hd4 rfl) Z hs).mono ?_;clear hs;rintro r Z ⟨rfl,hs⟩;refine zz ?_;(repeat clear U K);repeat intro K U
       exact AI ⟨rfl,hs⟩
     .have h6b:(f.op==6)=false:=by rw[h7];rfl
      have hct:c=false:=by rw[h7]at hap;cases c<;>simp_all
      subst hct
      conv=>whnf
      repeat'((first|clear U K|apply st|(apply zk;intro K U)|refine zY ?_|refine hlB.use ?_|(rw[h6b])|(refine zb (fun hc=>?_) (fun hc=>?_)<;>try exact⟨⟩)|fail)<;>conv=>whnf)
      refine(i0 false S _ _ _ H stp D nW s hT hd3 Z hs).mono ?_;clear hs;rintro r Z ⟨rfl,hs⟩;generalize CS stp (BE k0 false) s=x at *;obtain⟨b1,s1⟩:=x;cases b1
      .refine zz ?_;(repeat clear U K);repeat intro K U
       exact AI ⟨rfl,hs⟩
      .refine zz ?_;(repeat clear U K);repeat intro K U
       refine(i1 false S _ _ _ H stp D nW s1 hT (hd4 rfl) Z hs).mono ?_;clear hs;rintro r Z ⟨rfl,hs⟩;refine zz ?_;(repeat clear U K);repeat intro K U
       exact AI ⟨rfl,hs⟩
    .rw[if_neg hap]at hd hcs
     have hcs2:BE f c=DX (BE k0 c) (BE k1 c):=hcs;have hd2:Sc stp D (DX (BE k0 c) (BE k1 c)) s:=hd;have hd3:=XG _ hd2;have hT2:=mu hT hk (c:=c) (hnk k0 hkm0) (hnk k1 hkm1) (by omega) (by omega) i1;rw[hcs2,UB];clear hcs hcs2 hd hd2;rcases h67 with h6|h7
     .have h6b:(f.op==6)=true:=by rw[h6];rfl
      have hct:c=false:=by rw[h6]at hap;cases c<;>simp_all
      subst hct
      conv=>whnf
      repeat'((first|clear U K|apply st|(apply zk;intro K U)|refine zY ?_|refine hlB.use ?_|(rw[h6b])|(refine zb (fun hc=>?_) (fun hc=>?_)<;>try exact⟨⟩)|fail)<;>conv=>whnf)
      refine(i0 false S _ _ _ H _ _ nW s hT2 (Pv (fun y hy=>hy) hd3) Z hs).mono ?_;clear hs;rintro r Z ⟨rfl,hs⟩;refine zz ?_;(repeat clear U K);repeat intro K U
      exact AI ⟨rfl,hs⟩
     .have h6b:(f.op==6)=false:=by rw[h7];rfl
      have hct:c=true:=by rw[h7]at hap;cases c<;>simp_all
      subst hct
      conv=>whnf
      repeat'((first|clear U K|apply st|(apply zk;intro K U)|refine zY ?_|refine hlB.use ?_|(rw[h6b])|(refine zb (fun hc=>?_) (fun hc=>?_)<;>try exact⟨⟩)|fail)<;>conv=>whnf)
      refine(i0 true S _ _ _ H _ _ nW s hT2 (Pv (fun y hy=>hy) hd3) Z hs).mono ?_;clear hs;rintro r Z ⟨rfl,hs⟩;refine zz ?_;(repeat clear U K);repeat intro K U
      exact AI ⟨rfl,hs⟩
def vD {w:AF} (f:Fact) (hn:Bb w f=true) (hv:lv f<=100) (c:Bool) {S:Type} {fn:Fn} {fi ca:List V} {H:S->List At} {stp:List Fact->S->Bool×S} {D:List Fact->S->Prop} {s:S} (hT: ∀nW,S7 (.f fn fi ca) (fun s=> .box nW [WJ nW]::H s) stp D) (hd:Sc stp D (BE f c) s) (Z:AE) (hs:Sat Z (H s)) :
    Au zP 186 [.f fn fi ca,.rp (xF f),.rp [.b c]] Z fun r Z'=>r= .ret (.t [])/\Sat Z' (H (CS stp (BE f c) s).2):=by
 refine yT kZ ?_
 conv=>whnf
 repeat'((first|clear U K|apply st|(apply zk;intro K U)|refine zY ?_|refine zs fun Z hs=>?_|refine zo fun nn hnn Z hs=>?_|fail)<;>conv=>whnf)
 refine(oQ f hn hv c S fn fi ca H stp D nn s (hT nn) hd Z hs).mono ?_;clear hs;rintro r Z ⟨rfl,hs⟩
 conv=>whnf
 repeat'((first|clear U K|apply st|fail)<;>conv=>whnf)
 exact AI ⟨rfl,hs.less (K6 _ _)⟩
def mz (f:Fact) (c:Bool):Pure zP 126 [.a (xF f),.b c] (.f (.func 186) [] [.rp (xF f),.rp [.b c]]):=by
 refine y2 kZ ?_;have hs:=Sn;exact zW
abbrev QJ (w:AF) (l:List Fact) (s:Bool):Bool×Bool:=if FW w l then(false,true)else(true,s)
def Xo {w:AF}: ∀(cs:List (List Fact)),CS (QJ w) cs false=(!cs.any (FW w),cs.any (FW w))
 | []=>rfl
 | l::r=>by
   rw[CS,Pj];simp only[QJ];cases h:FW w l
   .simpa using Xo r
   .rfl
def bO {w:AF} {G:List Fact->Prop}: ∀ {cs:List (List Fact)},(∀l∈cs,G l)->Sc (QJ w) (fun l s=>s=false/\G l) cs false
 | [],_=>trivial
 | l ::r,h=>⟨⟨rfl,h l (.head _)⟩,fun hy=>by
     cases ht:FW w l
     .have e:(QJ w l false).2=false:=by simp[QJ,ht]
      rw[e];exact bO fun x hx=>h x (.tail _ hx)
     .simp[QJ,ht]at hy⟩
abbrev zS (w:AF) (L:Nat) (E:Env) (ok:FuncId->Array Tmp->Code->Code->Nat->Prop) (nF:Nat):Prop:=
 OH zP L E ok (fun(x:List Fact×Bool)=>[Lb x.1 x.2]) (fun s:Bool=>[.box nF [.b s]]) (fun _=>True) (fun x s=>if FW w x.1 then .stop (.exit 0) true else .go s) (fun x s=>s=false/\(∀y∈x.1,DV w y)/\x.1.length<900)
def qL {w:AF} (f:Fact) (hn:Bb w f=true) (hv:lv f<=100) {L:Nat} {E:Env} {ok:FuncId->Array Tmp->Code->Code->Nat->Prop} {nF:Nat} (hY:zS w L E ok nF) (Z:AE) (hs:Sat Z [.obj L (.loop .ready E ok),.box nF [.b false]]) :
    Au zP 186 [.f (.yield L) [] [],.rp (xF f),.rp [.b false]] Z fun r Z'=>r= .ret (.t [])/\Sat Z' [.obj L (.loop (if Sg w f then .exit 0 else .ready) E ok),.box nF [.b (Sg w f)]]:=by
 have hg:=vD f hn hv false (fn:= .yield L) (fi:=[]) (ca:=[]) (H:=fun s:Bool=>[.obj L (.loop (if s then .exit 0 else .ready) E ok),.box nF [.b s]]) (stp:=QJ w) (D:=fun l s=>s=false/\(∀y∈l,DV w y)/\l.length<900) (s:=false) (by
  rintro nW b l s ⟨rfl,hl,hlen⟩ Z hs;refine hY.use (y:=(l,b)) (s:=false) ⟨rfl,hl,hlen⟩ (rest:=[.box nW [WJ nW]]) (hs.perm (Jy _ _ _ _)) ?_;intro r Z' hq;cases ht:FW w l
  .simp only[ht,ME,if_false]at hq
   obtain⟨rfl,hs'⟩:=hq;have e:QJ w l false=(true,false):=by simp[QJ,ht]
   rw[e];exact⟨rfl,hs'.perm (Jy _ _ _ _).symm⟩
  .simp only[ht,if_true]at hq
   obtain⟨rfl,hs'⟩:=hq;have e:QJ w l false=(false,true):=by simp[QJ,ht]
   rw[e]
   exact⟨rfl,hs'.perm (Jy _ _ _ _).symm⟩) (bO fun l hl=>⟨C5 f hn false l hl,by have:=(EE f (Bn _ hn) false).2 l hl;omega⟩) Z hs
 rw[Xo]at hg;exact hg
def zH (w:AF) (hw:Ct w) (f:Fact) (hn:Bb w f=true) (hv:lv f<=100):Pure zP 125 [.rp (wC w (Bc w.parents)),.a (xF f)] (.b (Sg w f)):=by
 refine Pure.of ?_;refine y3 kZ ?_;have hs:=Sn
 conv=>whnf
 repeat'((first|clear U K|apply st|(apply zk;intro K U)|refine zY ?_|refine zs fun Z hs=>?_|refine Pure.use (mz _ _) ?_|refine zo fun nn hnn Z hs=>?_|fail)<;>conv=>whnf)
 rename_i _ nF hnF _ _ _ _;refine Au.mono (qL (w:=w) f hn hv (L:=nn) (nF:=nF) ?_ Z hs) ?_
 .refine PC (fun y=>rfl) ?_
  clear hs hnn hnF;rintro⟨l,b⟩ s ⟨rfl,hl,hlen⟩ rest Z hs;dsimp only at hl hlen;have htg:=X0 w hw l b hl hlen;dsimp only;cases ht:FW w l<;>rw[ht]at htg
  .conv=>whnf
   repeat'((first|clear U K|apply st|(apply zk;intro K U)|refine htg.use ?_|fail)<;>conv=>whnf)
   intro hn;exact XA (H:=fun s:Bool=>[.box nF [.b s]]) (J:=fun _=>True) (s:=false) rfl hs hn
  .conv=>whnf
   repeat'((first|clear U K|apply st|(apply zk;intro K U)|refine zs fun Z hs=>?_|refine htg.use ?_|fail)<;>conv=>whnf)
   intro hn;exact ZR (H:=fun s:Bool=>[.box nF [.b s]]) (J:=fun _=>True) (s:=true) (st:= .exit 0) rfl hs hn
 .clear hs hnn hnF
  cases hp:Sg w f
  .rintro r Z ⟨rfl,hs⟩
   refine M3 hs fun Z hs=>?_
   refine zz ?_;(repeat clear U K);repeat intro K U
   exact AI (by rw[hp])
  .rintro r Z ⟨rfl,hs⟩
   refine ZU hs fun Z hs=>?_
   refine zz ?_;(repeat clear U K);repeat intro K U
   exact AI (by rw[hp])
def uM (f:Fact):Pure zP 224 [.a (xF f)] (.a (xF (EZ f))):=by
 refine xx kZ ?_;have hs:=Sn
 conv=>whnf
 repeat'((first|clear U K|apply st|(apply zk;intro K U)|refine zX ?_|refine zr fun Z hs=>?_|refine zp fun nn hnn Z hs=>?_|fail)<;>conv=>whnf)
 refine A7 (.a (.cons (.refl _) (.cons (.refl _) (.cons FK (.cons (.refl _) (.cons (.refl _) (.cons ?_ .nil)))))));refine .l (fun h=>by cases h) ?_;simp only[EZ,Fact.kids,List.map,Bh];exact E6 _
def zL (f g:Fact):Pure zP 295 [.a (xF f),.a (xF g)] (.a (xF (Pb f g))):=by
 refine w8 kZ ?_;have hs:=Sn
 conv=>whnf
 repeat'((first|clear U K|apply st|(apply zk;intro K U)|refine zX ?_|refine zr fun Z hs=>?_|refine zp fun nn hnn Z hs=>?_|fail)<;>conv=>whnf)
 refine A7 (.a (.cons (.refl _) (.cons (.refl _) (.cons FK (.cons (.refl _) (.cons (.refl _) (.cons ?_ .nil)))))));refine .l (fun h=>by cases h) ?_;simp only[Pb,Fact.kids,List.map,Bh];exact E6 _
def Zh (w:AF) (hw:Ct w) (a b:Fact) (ha:Bb w a=true) (hb:Bb w b=true) (hl:lv a+lv b<=100):Pure zP 229 [.rp (wC w (Bc w.parents)),.a (xF a),.a (xF b)] (.b (UW w a b)):=by
 have hcan:=zH w hw (Pb a (EZ b)) (Q2 ha hb) (by rw[jM];exact hl);refine xv kZ ?_;have hs:=Sn
 conv=>whnf
 repeat'((first|clear U K|apply st|(apply zk;intro K U)|refine zY ?_|refine rk ?_ ?_|exact fun s e=>by cases e;rfl|refine Pure.use (uM _) ?_|refine Pure.use (zL _ _) ?_|refine hcan.use ?_|fail)<;>conv=>whnf)
 all_goals exact AH rfl
def gA (w:AF) (hw:Ct w) (a b:Fact) (ha:DM w a=true) (hb:DM w b=true) (hna:Bb w a=true) (hnb:Bb w b=true) (hl:lv a+lv b<=100):Pure zP 338 [.a (Az w),.a (xF a),.a (xF b)] (.t [.b (UW w a b),eI 0]):=by
 have hrd: ∀f,Pure zP 118 [.a (Az w),.l [xF a,xF b] f] (.t [.rp (wC w (Bc w.parents)),.b true]):=fun f=>by
  have:=bD w hw [a,b] f (by simp);rw[show([a,b].all (MR w))=true by simp[b6,ha,hb]]at this;simpa[Bh]using this
 have hip:=Zh w hw a b hna hnb hl;refine wH kZ ?_;have hs:=Sn
 conv=>whnf
 repeat'((first|clear U K|apply st|(apply zk;intro K U)|refine zY ?_|refine Pure.use (hrd _) ?_|refine hip.use ?_|fail)<;>conv=>whnf)
 all_goals exact AH rfl
attribute [local irreducible] H7
def szP (p:Prog) (nO:Nat) (r:R) (post:List At):Prop:=
 match BX p with
 | some s=>r= .ret (.t [])/\ ∃v,post= [.box nO [v],.own v 1 (iL s)]
 | none=>r= .Bk EA/\ ∃v s,post= [.box nO [v],.own v 1 (iL s)]
def dj (p:Prog) (nO:Nat):BQ zP 281 [.rp (BG p),.p nO 0] [.box nO [.l [] true]] (szP p nO):=fun Z hs=>
 Au.mono (lK p nO Z hs) fun r Z' hq=>by
  unfold zl at hq;unfold szP;cases h:BX p with
  | some s=>
    rw[h]at hq;obtain⟨h1,v,h2⟩:=hq;exact⟨_,⟨h1,v,rfl⟩,h2⟩
  | none=>
    rw[h]at hq;obtain⟨h1,v,s,h2⟩:=hq;exact⟨_,⟨h1,v,s,rfl⟩,h2⟩
def qq {Z:AE} {n:Nat} {x:V} {rest:List At} (hs:Sat Z (.box n [x]::rest)) {Q:AE->Prop} (hq: ∀Z',Sat Z' (.box n [.b false]::rest)->Q Z'):H7 zP 322 [.p n 0] (some EA) Z Q:=by
 refine cL kZ ?_
 conv=>whnf
 repeat'((first|clear U K|apply st|(apply zk;intro K U)|refine zY ?_|refine zs fun Z hs=>?_|refine tB rfl ?_|refine zo fun nn hnn Z hs=>?_|fail)<;>conv=>whnf)
 exact hq _ (hs.less (K6 _ _))
def qs {Z:AE} {n:Nat} {x:V} {rest:List At} (hs:Sat Z (.box n [x]::rest)) {Q:AE->Prop} (hq: ∀Z',Sat Z' (.box n [x]::rest)->Q Z'):H7 zP 322 [.p n 0] none Z Q:=by
 refine cL kZ ?_;refine zz ?_;(repeat clear U K);repeat intro K U
 exact hq _ hs
def fH (p:Prog) (nO:Nat):BQ zP 280 [.f (.func 281) [] [.rp (BG p),.p nO 0]] [.box nO [.l [] true]] fun r post=>r= .ret (.b (BX p).isSome)/\ ∃v s,post= [.box nO [v],.own v 1 (iL s)]/\(BX p=none\/BX p=some s):=by
 intro Z hs;refine xL kZ ?_
 conv=>whnf
 repeat'((first|clear U K|apply st|(apply zk;intro K U)|refine zo fun nn hnn Z hs=>?_|fail)<;>conv=>whnf)
 refine BO ?_;refine(dj p nO).use (rest:=[.box nn [.b false]]) (hs.perm (.swap _ _ _)) ?_;clear hs hnn;rintro r post Z hq hs;unfold szP at hq;cases h:BX p with
 | none=>
   rw[h]at hq;obtain⟨rfl,v,s,rfl⟩:=hq
   conv=>whnf
   repeat'((first|clear U K|apply st|fail)<;>conv=>whnf)
   refine qq (rest:=[.box nO [v],.own v 1 (iL s)]) (hs.perm Nk) fun Z hs=>?_
   refine zz ?_;(repeat clear U K);repeat intro K U
   exact AI ⟨_,⟨by rw[h];rfl,v,s,rfl,.inl h⟩,hs.less (K6 _ _)⟩
 | some s=>
   rw[h]at hq;obtain⟨rfl,v,rfl⟩:=hq
   conv=>whnf
   repeat'((first|clear U K|apply st|(apply zk;intro K U)|refine zs fun Z hs=>?_|fail)<;>conv=>whnf)
   replace hs:Sat Z ([.box nO [v],.own v 1 (iL s)]++[.box nn [.b true]]):=hs;refine qs (x:= .b true) (rest:=[.box nO [v],.own v 1 (iL s)]) (hs.perm Nk) fun Z hs=>?_
   refine zz ?_;(repeat clear U K);repeat intro K U
   exact AI ⟨_,⟨by rw[h];rfl,v,s,rfl,.inr h⟩,hs.less (K6 _ _)⟩
def lL (p:Prog):BQ zP 222 [.a (BG p)] [] fun r post=> ∃v s,r= .ret (.t [v,.b (BX p).isSome])/\post= [.own v 1 (iL s)]/\(BX p=none\/BX p=some s):=by
 intro Z hs;refine xz kZ ?_
 conv=>whnf
 repeat'((first|clear U K|apply st|(apply zk;intro K U)|refine zo fun nn hnn Z hs=>?_|fail)<;>conv=>whnf)
 refine(fH p nn).use (rest:=[]) (by simpa using hs) ?_;clear hs;rintro r post Z ⟨rfl,v,s,rfl,hl⟩ hs;refine zz ?_;(repeat clear U K);repeat intro K U
 exact AI ⟨_,⟨v,s,rfl,rfl,hl⟩,hs.less (.cons _ (.cons₂ _ (Jf _)))⟩
def Xy (p:Prog):Pure zP 150 [.a (BG p)] (eI (if(BX p).isSome then 0 else 2)):=by
 refine Pure.of ?_;have hz:=lL p;cases h:(BX p).isSome<;>rw[h]at hz
 all_goals
  refine yi kZ ?_;have hs:=Sn;refine zz ?_;(repeat clear U K);repeat intro K U
  refine hz.use (rest:=[]) (by simpa using hs) ?_;clear hs;rintro r post Z ⟨v,s,rfl,rfl,-⟩ hs;refine zz ?_;(repeat clear U K);repeat intro K U
  exact AI rfl
def AAq {p:Prog} (h:(BX p).isSome=true):Bt p.AP<=40:=by
 obtain⟨hh,-⟩:=Gg h;simp only[DD,A9,Cp]at hh;exact(NH hh.1).2.1
def zJ {p:Prog} (h:(BX p).isSome=true):p.AP.length<=10:=by
 obtain⟨hh,-⟩:=Gg h;simp only[DD,A9,Cp]at hh;exact(NH hh.1).2.2
def aS {p:Prog} (h:(BX p).isSome=true):Ct (AL p):=by
 obtain⟨hh,-⟩:=Gg h;simp only[DD,A9,Cp]at hh;exact(NH hh.1).1
def cr (p:Prog):Pure zP 92 [.a (BG p)] (if(BX p).isSome then .t [.a (Az (AL p)),eI 0]else .t [.a [.l [] true,.l [] true],eI 2]):=by
 have hz:=Xy p;have hM:=Mx;cases h:(BX p).isSome<;>rw[h]at hz
 .simp only[ME,if_false]at hz ⊢
  refine sP kZ ?_;have hs:=Sn
  conv=>whnf
  repeat'((first|clear U K|apply st|(apply zk;intro K U)|refine zY ?_|refine zs fun Z hs=>?_|refine hz.use ?_|(refine zb (fun hc=>?_) (fun hc=>?_)<;>try exact⟨⟩)|refine zo fun nn hnn Z hs=>?_|fail)<;>conv=>whnf)
  all_goals exact AH rfl
 .simp only[if_true]at hz ⊢
  have hm:=AAq h;have hc10:=zJ h;refine sP kZ ?_;have hs:=Sn
  conv=>whnf
  repeat'((first|clear U K|apply st|(apply zk;intro K U)|refine zY ?_|refine zs fun Z hs=>?_|refine hz.use ?_|refine Pure.use (Wm p (by omega) (by omega)) ?_|(refine zb (fun hc=>?_) (fun hc=>?_)<;>try exact⟨⟩)|refine zo fun nn hnn Z hs=>?_|fail)<;>conv=>whnf)
  all_goals exact AH rfl
end Go.Gl
namespace Go.Gl
open Go.Proofs
attribute [local irreducible] Au Am Ae AR AK AY AQ AS AJ AX AM AO Ao A0 Sat AU Ay Af W
abbrev rkC (p:Prog) (L:Nat):List V:=BG p++(Az (AL p)++[.m L])
abbrev UI (p:Prog) (L:Nat):V:= .rp (rkC p L)
abbrev kM (x:Int×Int):V:= .a [eI x.1,eI x.2]
def LX (p:Prog) (M:List (Int×Int)):List (V×V):=M.map fun x=>(kM x,.b (Gk p x.1 x.2))
def Q4 (p:Prog) (M:List (Int×Int)): ∀kv∈LX p M,BW (.a [.i64,.i64]) kv.1=true:=by
 intro kv h;obtain⟨e,_,rfl⟩:=Il.1 h;rfl
def sG (x y:Int×Int):D6 (kM x) (kM y)=(x==y):=by
 obtain⟨a,b⟩:=x;obtain⟨c,d⟩:=y;have e:D6 (kM (a,b)) (kM (c,d))=(a==c&&b==d):=by simp[D6,Bz,kM]
 rw[e];rfl
def XL (p:Prog) (x:Int×Int): ∀(M:List (Int×Int)),Cn (kM x) (LX p M)=if M.contains x then some (.b (Gk p x.1 x.2))else none
 | []=>rfl
 | y ::r=>by
   rw[LX,FA,Cn,sG,List.contains_cons];cases h:x==y
   .rw[cond_false,Bool.false_or]
    exact XL p x r
   .rw[cond_true,Bool.true_or,if_pos rfl]
    have:x=y:=by simpa using h
    rw[this]
def bY (p:Prog) (x:Int×Int): ∀(M:List (Int×Int)),M.contains x=false->DZ (kM x) (.b (Gk p x.1 x.2)) (LX p M)=LX p (M++[x])
 | [],_=>rfl
 | y::r,h=>by
   rw[List.contains_cons,Bool.or_eq_false_iff]at h;have ih:=bY p x r h.2;simp only[LX]at ih;rw[LX,FA,DZ,sG,h.1,cond_false,ih];rfl
def lP (p:Prog):BQ zP 114 [.a (BG p)] [] fun r post=>if(BX p).isSome then∃L,r= .ret (UI p L)/\post= [.map L []]else r= .ret .pn/\post= []:=by
 intro Z hs;have hw:=cr p;cases h:(BX p).isSome<;>rw[h]at hw
 .simp only[ME,if_false]at hw ⊢
  refine jv kZ ?_
  conv=>whnf
  repeat'((first|clear U K|apply st|(apply zk;intro K U)|refine zY ?_|refine zs fun Z hs=>?_|refine hw.use ?_|(refine zb (fun hc=>?_) (fun hc=>?_)<;>try exact⟨⟩)|refine zo fun nn hnn Z hs=>?_|fail)<;>conv=>whnf)
  exact AI ⟨_,⟨rfl,rfl⟩,hs.less (Jf _)⟩
 .simp only[if_true]at hw ⊢
  refine jv kZ ?_
  conv=>whnf
  repeat'((first|clear U K|apply st|(apply zk;intro K U)|refine zY ?_|refine zs fun Z hs=>?_|refine hw.use ?_|(refine zb (fun hc=>?_) (fun hc=>?_)<;>try exact⟨⟩)|refine zo fun nn hnn Z hs=>?_|fail)<;>conv=>whnf)
  exact AI ⟨_,⟨nn,rfl,rfl⟩,hs.less (.cons₂ _ (Jf _))⟩
def AAz (p:Prog) (L:Nat) (m:Int):Pure zP 317 [eI m,.rp [UI p L]] (.b (!BN p m)):=by
 refine wZ kZ ?_;have hs:=Sn
 conv=>whnf
 repeat'((first|clear U K|apply st|(apply zk;intro K U)|refine zY ?_|refine za (fun hc=>?_) fun hc=>?_|fail)<;>conv=>whnf)
 .refine AH ?_
  have e1:decide (0<=m)=true:=decide_eq_true hc;rw[BN,e1,Ds,B9];show V.b (decide (m≥(p.methods.length:Int)))=_;by_cases hl:m<(p.methods.length:Int)
  .rw[decide_eq_true hl,decide_eq_false (by omega)];rfl
  .rw[decide_eq_false hl,decide_eq_true (by omega)];rfl
 .refine AH ?_
  rw[BN,decide_eq_false (by omega)];rfl
def Pf {g:FuncId} {fi ca:List V} {f:Int->Bool} {xs:List Int} (b:Bool) (h: ∀y∈xs,Pure zP g (fi++[eI y]++ca) (.b (f y))):Pure zP 49 [.l (iL xs) b,.f (.func g) fi ca] (.b (xs.any f)):=by
 have:=G7 g fi ca (fun _=>[]) (fun y (_:Unit)=>(f y,())) (fun y _=>y∈xs) (Rf fun y hy=>h y hy) xs b () (Hl fun y hy _=>hy);rw[NI]at this;exact Pure.of (Au.mono (this emp Sat.nil) fun r Z' ⟨post,⟨h1,h2⟩,h3⟩=>h1)
def AA0 (p:Prog) (L:Nat) (l:List Int) (b:Bool):Pure zP 272 [UI p L,.l (iL l) b] (.b (l.all (BN p))):=by
 have hc:=fun b=>Pf (g:=317) (fi:=[]) (ca:=[.rp [UI p L]]) (f:=fun m=> !BN p m) (xs:=l) b fun y _=>AAz p L y
 refine jk kZ ?_;have hs:=Sn
 conv=>whnf
 repeat'((first|clear U K|apply st|(apply zk;intro K U)|refine Pure.use (hc _) ?_|fail)<;>conv=>whnf)
 all_goals exact AH (by rw[List.all_eq_not_any_not];rfl)
def uw (l:List Int) (b:Bool):Pure zP 272 [.pn,.l (iL l) b] (.b false):=by
 refine jk kZ ?_;have hs:=Sn;exact zW
def rO (p:Prog) (L:Nat) (m n:Int) (hm:BN p m=true) (hn:BN p n=true):Pure zP 273 [UI p L,eI m,eI n] (.b (Dr p m n)):=by
 refine Pure.fit (by kernel_rfl) fun hf=>?_
 have hxm:=CH hm;have hxn:=CH hn;simp only[BN,A9,Cp]at hm hn;refine xS kZ ?_;have hs:=Sn
 conv=>whnf
 repeat'((first|clear U K|apply st|(apply zk;intro K U)|refine zY ?_|refine rk ?_ ?_|exact fun s e=>by cases e;rfl|refine zs fun Z hs=>?_|refine za (fun hc=>?_) fun hc=>?_|refine zo fun nn hnn Z hs=>?_|fail)<;>conv=>whnf)
 all_goals exact AH (by simp[Dr, *])
def qY {p:Prog} (h:(BX p).isSome=true): ∀x∈p.methods,DM (AL p) x.fact=true:=fun x hx=>by
 have:=(Gg h).2 x hx;simp only[QF,A9]at this;exact this.2.2.2.2.1
end Go.Gl
namespace Go.Gl
open Go.Proofs
def iB {Z:AE} {α:Type} {enc:α->List V} {xs:List α} {f:Bool} {sz:Nat} {ki:IntKind} {j:Int} {K:V->AE->Prop} (h:K (.l ((xs.drop j.toNat).map enc) f) Z) (h0:0<=j) (h1:j<=xs.length) (hs: ∀x,(enc x).length=sz) :
    AQ Z sz (.l (xs.map enc) f) (some (.i ki j)) none none K:=by
 unfold AQ;refine⟨fun e he=>?_,?_⟩
 .obtain⟨x,_,rfl⟩:=Il.1 he
  exact hs x
 .simp only[Ow,B9]
  refine⟨by omega,by omega,by omega,?_⟩;rw[List.take_of_length_le (by simp)];simpa[List.map_drop]using h
attribute [local irreducible] Au Am Ae AR AK AY AQ AS AJ AX AM AO Ao A0 Sat AU Ay Af W
abbrev rS (T:List (List Bool)):V:= .l (T.map fun r=>[.l (bL r) false]) false
def Dt (T:List (List Bool)) (m n:Int):Bool:=(T.getD m.toNat []).getD n.toNat false
structure Jg (T:List (List Bool)) (l:List Int):Prop where
 len:T.length<=16
 sq: ∀r∈T,r.length=T.length
 ins: ∀x∈l,0<=x/\x<(T.length:Int)
 many:l.length<=16
def ri {T:List (List Bool)} {l:List Int} (h:Jg T l) {m n:Int} (hm:0<=m/\m<(T.length:Int)) (hn:0<=n/\n<(T.length:Int)): ∃r,T[m.toNat]? =some r/\r[n.toNat]? =some (Dt T m n):=by
 have h1:m.toNat<T.length:=by omega
 refine⟨T[m.toNat],Cs h1,?_⟩;have h2:=h.sq T[m.toNat] (List.getElem_mem h1);have h3:n.toNat<T[m.toNat].length:=by omega
 rw[Cs h3];simp only[Dt,C6,Cs h1,Option.getD_some,Cs h3]
def Rb (l:List Int) (f:Bool) (i:Nat) (ha:i<l.length) (hl:l.length<=16):Pure zP 319 [.l (iL l) f,eI (i:Int)] (.l (iL (l.eraseIdx i)) false):=by
 have hM:=Mx;refine wX kZ ?_;have hs:=Sn
 conv=>whnf
 repeat'((first|clear U K|apply st|(apply zk;intro K U)|refine zY ?_|(rw[wrap64 (by omega) (by omega)];refine iB ?_ (by omega) (by omega) fun _=>rfl)|fail)<;>conv=>whnf)
 replace hs:=D1 hs 1;refine Fe hs 0 (xs:=[]) (ys:=l.take (i:Int).toNat) rfl (by simp;omega) Bo fun v Z hs=>?_
 refine zz ?_;(repeat clear U K);repeat intro K U
 refine Fe hs 0 (xs:=[]++l.take (i:Int).toNat) (ys:=l.drop ((i:Int)+1).toNat) rfl (by simp;omega) Bo fun v Z hs=>?_
 refine zz ?_;(repeat clear U K);repeat intro K U
 have e: []++l.take (i:Int).toNat++l.drop ((i:Int)+1).toNat=l.eraseIdx i:=by
  rw[List.eraseIdx_eq_take_drop_succ,List.nil_append,Fi,show((i:Int)+1).toNat=i+1 by omega]
 rw[e]at hs;exact A7 (hs.GG 0 rfl)
def Ha (A:Int->Int->Bool) (l:List Int) (i k:Nat):Bool:=(List.range k).all fun j=>j==i||A (l.getD i 0) (l.getD j 0)
def Ep (A:Int->Int->Bool) (l:List Int):Option Nat:=(List.range l.length).find? fun i=>Ha A l i l.length
def N7 (A:Int->Int->Bool) (l:List Int):Int:=match Ep A l with|some i=>i|none=> -1
def TF (A:Int->Int->Bool) (l:List Int) (i k:Nat):Ha A l i (k+1)=(Ha A l i k&&(k==i||A (l.getD i 0) (l.getD k 0))):=by
 rw[Ha,List.range_succ,List.all_append,Ha];simp
def CU {l:List Int} {k:Nat} {x:Int} (h:l[k]? =some x):l.getD k 0=x:=by rw[C6,h];rfl
def fL {A:Int->Int->Bool} {l:List Int} {i:Nat} (h:Ep A l=some i):i<l.length:=by
 have:=List.mem_of_find?_eq_some h;simpa using this
def mQ {A:Int->Int->Bool} {l:List Int} {i:Nat} (hi:i<l.length) (h:Ha A l i l.length=true) (hn: ∀j,j<i->Ha A l j l.length=false):N7 A l=i:=by
 have:Ep A l=some i:=by
  rw[Ep,List.find?_range_eq_some];exact⟨h,List.mem_range.2 hi,fun j hj=>by rw[hn j hj];rfl⟩
 rw[N7,this]
def Zu {A:Int->Int->Bool} {l:List Int} (hn: ∀j,j<l.length->Ha A l j l.length=false):N7 A l= -1:=by
 have:Ep A l=none:=by
  rw[Ep,List.find?_range_eq_none];exact fun j hj=>by rw[hn j hj];rfl
 rw[N7,this]
def mR (T : List (List Bool)) (l:List Int) (f:Bool) (h:Jg T l):Pure zP 318 [rS T,.l (iL l) f] (eI (N7 (Dt T) l)):=by
 have hM:=Mx;have hm:=h.many;have hT:=h.len;refine wY kZ ?_;have hs:=Sn;refine zz ?_;(repeat clear U K);repeat intro K U
 refine B1 l.length (fun i (_:Unit)=>[(5,eI (A4 i))]) (fun _ _=>[]) (fun i _=> ∀j,j<i->Ha (Dt T) l j l.length=false) () rfl (fun j hj=>by omega) hs ?_;clear hs;rintro i - Z hi hn hs;rcases A8 l hi with⟨x,hx,hlt⟩|hie
 .have hxi:=h.ins x (Bp hx)
  refine zz ?_;(repeat clear U K);repeat intro K U
  refine B1 l.length (fun k (b:Bool)=>[(6,.b b),(7,eI (A4 k))]) (fun _ _=>[]) (fun k b=>b=Ha (Dt T) l i k) true rfl rfl hs ?_;clear hs;rintro k b Z hk hb hs;rcases A8 l hk with⟨y,hy,hklt⟩|hke
  .have hyi:=h.ins y (Bp hy)
   obtain⟨r,hr,hry⟩:=ri h hxi hyi;have hsu:=TF (Dt T) l i k;rw[CU hx,CU hy,<-hb]at hsu;have hci:A4 i=i:=Ag (by omega);have hck:A4 k=k:=Ag (by omega);have hrl:=h.sq r (Bp hr);cases b
   .refine zz ?_;(repeat clear U K);repeat intro K U
    exact⟨hklt,false,rfl,(hsu.trans (by simp)).symm,hs⟩
   .by_cases hki:k=i
    .conv=>whnf
     repeat'((first|clear U K|apply st|(apply zk;intro K U)|refine zY ?_|(refine zb (fun hc=>?_) (fun hc=>?_)<;>try exact⟨⟩)|fail)<;>conv=>whnf)
     exact⟨hklt,true,rfl,(hsu.trans (by simp[hki])).symm,hs⟩
    .conv=>whnf
     repeat'((first|clear U K|apply st|(apply zk;intro K U)|refine zY ?_|(refine zb (fun hc=>?_) (fun hc=>?_)<;>try exact⟨⟩)|fail)<;>conv=>whnf)
     exact⟨hklt,Dt T x y,rfl,(hsu.trans (by simp[hki])).symm,hs⟩
  .conv=>whnf
   repeat'((first|clear U K|apply st|(apply zk;intro K U)|refine zY ?_|refine za (fun hc=>?_) fun hc=>?_|fail)<;>conv=>whnf)
   .exact AH (by rw[mQ hlt (by rw[<-hke,<-hb,hc]) hn,Ag (by omega)])
   .refine⟨hlt,(),rfl,fun j hj=>?_,hs⟩
    rcases Nat.lt_or_ge j i with h'|h'
    .exact hn j h'
    .rw[show j=i by omega,<-hke,<-hb,hc]
 .refine zz ?_;(repeat clear U K);repeat intro K U
  exact AH (by rw[Zu fun j hj=>hn j (by omega)])
def Bf (A:Int->Int->Bool):Nat->List Int->List Int×Bool
 | 0,_=>([],false)
 | k+1,l=>match Ep A l with
   | none=>([],!l.isEmpty)
   | some i=>(l.getD i 0::(Bf A k (l.eraseIdx i)).1,(Bf A k (l.eraseIdx i)).2)
def Jg.less {T:List (List Bool)} {l:List Int} (h:Jg T l) (i:Nat):Jg T (l.eraseIdx i):=
 ⟨h.len,h.sq,fun x hx=>h.ins x (List.mem_of_mem_eraseIdx hx),Nat.le_trans (List.length_eraseIdx_le _ _) h.many⟩
def Xg (T:List (List Bool)) (l:List Int) (f:Bool) (h:Jg T l):Pure zP 275 [rS T,.l (iL l) f] (.t [.l (iL (Bf (Dt T) l.length l).1) false,.b (Bf (Dt T) l.length l).2]):=by
 have hM:=Mx;refine xQ kZ ?_;have hs:=Sn;refine zz ?_;(repeat clear U K);repeat intro K U
 refine D7 (fun(x:List Int×Bool×V×List Int)=>x.1.length) (fun x=>[(1,.l (iL x.1) x.2.1),(6,x.2.2.1)]) (fun x=>[.own x.2.2.1 1 (iL x.2.2.2)])
  (fun x=>Jg T x.1/\x.2.2.2.length+x.1.length<=16/\Bf (Dt T) l.length l=(x.2.2.2++(Bf (Dt T) x.1.length x.1).1,(Bf (Dt T) x.1.length x.1).2)) (l,f,.l [] true,[]) rfl ⟨h,by simpa using h.many,by simp⟩ (D1 hs 1) ?_
 clear hs;rintro⟨l',f',v,out⟩ Z ⟨ho,hlen,hm⟩ hs;dsimp only at ho hlen hm hs;dsimp only;have c1:=mR T l' f' ho;have hll:out.length<Aa/\(out.length+1)*8<=140737488355328:=by omega
 by_cases hz:l'.length=0
 .conv=>whnf
  repeat'((first|clear U K|apply st|(apply zk;intro K U)|refine zY ?_|(refine zb (fun hc=>?_) (fun hc=>?_)<;>try exact⟨⟩)|fail)<;>conv=>whnf)
  rw[hz]at hm;simp only[Bf,Ez]at hm;rw[hm];exact A7 (.t (.cons (hs.GG 0 rfl) (.cons (.refl _) .nil)))
 .rw[N7]at c1
  obtain⟨n,hn⟩: ∃n,l'.length=n+1:=⟨l'.length - 1,by omega⟩
  have hne:l'.isEmpty=false:=by cases l' with
   | nil=>simp at hz
   | cons=>rfl
  rw[hn,Bf]at hm;cases hfo:Ep (Dt T) l' with
  | none=>
    rw[hfo]at c1 hm;dsimp only at c1 hm
    conv=>whnf
    repeat'((first|clear U K|apply st|(apply zk;intro K U)|refine zY ?_|refine zC ?_|(refine zb (fun hc=>?_) (fun hc=>?_)<;>try exact⟨⟩)|fail)<;>conv=>whnf)
    rw[hm,hne,Ez];exact A7 (.t (.cons (hs.GG 0 rfl) (.cons (.refl _) .nil)))
  | some i=>
    rw[hfo]at c1 hm;dsimp only at c1 hm;have hi:=fL hfo;have c2:=Rb l' f' i hi ho.many;obtain⟨x,hx⟩: ∃x,l'[i]? =some x:=⟨_,Cs hi⟩
    have hel:=List.length_eraseIdx_of_lt hi;rw[CU hx]at hm
    conv=>whnf
    repeat'((first|clear U K|apply st|(apply zk;intro K U)|refine zY ?_|refine aq fun v Z hs hsl=>?_|refine zC ?_|(refine zb (fun hc=>?_) (fun hc=>?_)<;>try exact⟨⟩)|fail)<;>conv=>whnf)
    refine⟨(l'.eraseIdx i,false,v,out++[x]),by dsimp only;omega,rfl,⟨ho.less i,by simp;omega,?_⟩,hs⟩;dsimp only;rw[hm,hel,show l'.length - 1=n by omega];simp
end Go.Gl
namespace Go.Gl
open Go.Proofs
def uz {b:Nat} {Z:AE} {l:List At} (h:Sat Z l) (i j:Nat) {v:V} {n len cap off ln sz:Nat} {es ys:List (List V)} {K:V->AE->Prop} (hi:l[i]? =some (.own v sz es)) (hj:l[j]? =some (.own (.sl n len cap) sz ys)) (hle:off+ln<=ys.length) (hl:es.length+ln<=Aa/\(es.length+ln)*b<=140737488355328) (hys: ∀e∈ys,e.length=sz) (ho: ∀e∈ys,∀v∈e,CR v=true)
    (hk: ∀v' Z',Sat Z' (l.set i (.own v' sz (es++(ys.drop off).take ln)))->K v' Z'):AK b Z sz v (.sv n sz off ln) K:=by
 have hlen:((ys.drop off).take ln).length=ln:=by rw[Jl,sj];omega
 have hm: ∀e∈(ys.drop off).take ln,e∈ys:=fun e he=>List.mem_of_mem_drop (List.mem_of_mem_take he)
 have hA:AK b Z sz v (.l ((ys.drop off).take ln) true) K:=hAppend h i hi (by rw[hlen];exact hl) (fun e he=>hys e (hm e he)) (fun e he=>ho e (hm e he)) hk;rcases h.get hj with⟨e1,hel⟩|⟨n',cap',e1,hn⟩
 .cases e1
 .cases e1
  unfold AK at hA ⊢;simp only[rowsOf]at hA ⊢;rw[hn];refine⟨?_,?_,hle,hA.2⟩<;>first|trivial|rfl
def P2 {b:Nat} {Z:AE} {l:List At} (h:Sat Z l) (i j:Nat) {α:Type} {enc:α->List V} {xs ys:List α} {v:V} {n len cap off ln sz:Nat} {K:V->AE->Prop} (hi:l[i]? =some (.own v sz (xs.map enc))) (hj:l[j]? =some (.own (.sl n len cap) sz (ys.map enc))) (hle:off+ln<=ys.length) (hl:xs.length+ln<=Aa/\(xs.length+ln)*b<=140737488355328) (hg:Ec enc sz)
    (hk: ∀v' Z',Sat Z' (l.set i (.own v' sz ((xs++(ys.drop off).take ln).map enc)))->K v' Z'):AK b Z sz v (.sv n sz off ln) K:=
 uz h i j hi hj (by simpa using hle) (by simpa using hl) (DL hg ys).1 (DL hg ys).2 fun v' Z' hs=>hk v' Z' (by simpa[List.map_take,List.map_drop]using hs)
def JI {b sz:Nat} {Z:AE} {v y:V} {K:V->AE->Prop} (hv:(CC v).isSome=true) (h:AK b Z sz v y fun v' Z'=>(CC v').isSome=true->K v' Z'):AK b Z sz v y K:=by
 obtain⟨n,l,c,rfl⟩:=iC hv;unfold AK at h ⊢;refine E7 h fun ys h=>⟨h.1,?_⟩
 have h2:=h.2;dsimp only at h2 ⊢;cases hn:Z n with
 | none=>rw[hn]at h2;exact h2
 | some o=>
   rw[hn]at h2;cases o with
   | arr s es c'=>exact⟨h2.1,h2.2.1,h2.2.2.1,h2.2.2.2.1,fun n' cap' h3 h4=>h2.2.2.2.2 n' cap' h3 h4 rfl⟩
   | _=>exact h2
def uI {Z:AE} {l:List At} (h:Sat Z l) {i:Nat} {v:V} {sz:Nat} {es:List (List V)} (hi:l[i]? =some (.own v sz es)) (hv:(CC v).isSome=true): ∃n cp,v= .sl n es.length cp:=by
 rcases h.get hi with⟨e,_⟩|⟨n,cp,e,_⟩
 .rw[e]at hv;cases hv
 .exact⟨n,cp,e⟩
attribute [local irreducible] Au Am Ae AR AK AY AQ AS AJ AX AM AO Ao A0 Sat AU Ay Af W
def Hc (x:Int) (out:List Int):List Int:=out.takeWhile (fun y=>decide (y<x))++x::out.dropWhile (fun y=>decide (y<x))
def Cy (l:List Int):List Int:=l.foldl (fun out x=>Hc x out) []
def ND (x:Int) (out:List Int):(Hc x out).length=out.length+1:=by
 have:=congrArg List.length (List.takeWhile_append_dropWhile (p:=fun y=>decide (y<x)) (l:=out));rw[Nl]at this;rw[Hc,Nl,LF];omega
def VN {x:Int} {out:List Int} {k:Nat} (h1:out.takeWhile (fun y=>decide (y<x))=out.take k++(out.drop k).takeWhile (fun y=>decide (y<x))) (h2:(out.drop k).takeWhile (fun y=>decide (y<x))= []) (hk:k<=out.length):Hc x out=out.take k++x::out.drop k:=by
 rw[h2,Ez]at h1;have:=List.takeWhile_append_dropWhile (p:=fun y=>decide (y<x)) (l:=out);rw[h1]at this
 have e:out.dropWhile (fun y=>decide (y<x))=out.drop k:=by
  have h3:out.take k++out.dropWhile (fun y=>decide (y<x))=out.take k++out.drop k:=by rw[this,List.take_append_drop]
  exact List.append_cancel_left h3
 rw[Hc,h1,e]
def tk (l : List Int) (f:Bool) (hl:l.length<=16):Pure zP 320 [.l (iL l) f] (.l (iL (Cy l)) false):=by
 have hM:=Mx;refine wW kZ ?_;have hs:=Sn;refine zz ?_;(repeat clear U K);repeat intro K U
 refine B1 l.length (fun i (x:V×List Int)=>[(3,x.1),(4,eI (A4 i))]) (fun _ x=>[.own x.1 1 (iL x.2)]) (fun i x=>x.2=Cy (l.take i)/\x.2.length=i/\(i=0->x.1= .l [] true)/\(1<=i->(CC x.1).isSome=true)) (.l [] true,[]) rfl ⟨rfl,rfl,fun _=>rfl,fun h=>by omega⟩ (D1 hs 1) ?_;clear hs;rintro i ⟨v,out⟩ Z hi ⟨ho,hol,h0,h1⟩ hs;dsimp only at ho hol h0 h1 hs;dsimp only;rcases A8 l hi with⟨z,hz,hlt⟩|hie
 .have hsr:Cy (l.take (i+1))=Hc z out:=by rw[AN hz,Cy,List.foldl_append,ho];rfl
  refine zz ?_;(repeat clear U K);repeat intro K U
  refine D7 (fun k:Nat=>out.length - k) (fun k=>[(5,eI (A4 k))]) (fun _=>[.own v 1 (iL out)]) (fun k=>k<=out.length/\out.takeWhile (fun y=>decide (y<z))=out.take k++(out.drop k).takeWhile (fun y=>decide (y<z))) 0 rfl ⟨Nat.zero_le _,rfl⟩ hs ?_;clear hs;rintro k Z ⟨hk,htw⟩ hs;have hck:A4 k=k:=Ag (by omega);by_cases hi0:i=0
  .obtain rfl:=h0 hi0
   have hins:=VN htw (by rw[Ai (by omega)];rfl) hk
   conv=>whnf
   repeat'((first|clear U K|apply st|(apply zk;intro K U)|refine zY ?_|refine slq (xs:=([]:List Int)) (enc:=fun x:Int=>[eI x]) ?_ (by omega) (by simp;omega) (fun _=>rfl)|refine iB (xs:=([]:List Int)) (enc:=fun x:Int=>[eI x]) ?_ (by omega) (by simp;omega) (fun _=>rfl)|(refine zd (fun hc=>?_) (fun hc=>?_)<;>try exact⟨⟩)|fail)<;>conv=>whnf)
   .exfalso
    simp at hc;omega
   replace hs:=Cq hs 1;refine Fe hs 0 (xs:=[]) (ys:=List.take (A4 k).toNat []) rfl (by simp) Bo fun v1 Z hs=>?_
   conv=>whnf
   repeat'((first|apply st|refine rk ?_ ?_|exact fun s e=>by cases e;rfl|refine aq fun v Z hs hsl=>?_|refine iB (xs:=([]:List Int)) (enc:=fun x:Int=>[eI x]) ?_ (by omega) (by simp;omega) (fun _=>rfl)|fail)<;>conv=>whnf)
   refine JI (by assumption) (Fe hs 0 (xs:=([]++List.take (A4 k).toNat [])++[z]) (ys:=List.drop (A4 k).toNat []) rfl (by simp[Aa]) Bo fun v1 Z hs hsl=>?_);refine zz ?_;(repeat clear U K);repeat intro K U
   refine⟨hlt,(v1,Hc z out),rfl,⟨hsr.symm,by rw[ND];omega,fun h=>by omega,fun _=>hsl⟩,?_⟩;have ho0:out= []:=YW.1 (by omega);rw[hins,ho0];simp at hs ⊢;exact hs.less (.cons₂ _ (Jf _))
  .obtain⟨n,cp,rfl⟩:=uI hs (i:=0) rfl (h1 (by omega))
   have hlen:(iL out).length=out.length:=B9 _;rcases A8 out hk with⟨y,hy,hklt⟩|hke
   .conv=>whnf
    repeat'((first|clear U K|apply st|(apply zk;intro K U)|refine zY ?_|refine ze fun x hx=>?_|refine tH ?_|refine gY ?_|refine za (fun hc=>?_) fun hc=>?_|fail)<;>conv=>whnf)
    all_goals
     rw[hck,Fi,hy]at hx;obtain rfl:=Option.some.inj hx
    .refine⟨k+1,by omega,rfl,⟨by omega,?_⟩,hs⟩
     rw[htw,drop_cons hy,List.takeWhile_cons,if_pos (by simpa using hc),AN hy];simp
    have hins:=VN htw (by rw[drop_cons hy,List.takeWhile_cons,if_neg (by simpa using hc)]) hk;replace hs:=Cq hs 1;refine P2 hs 0 1 (xs:=[]) (ys:=out) rfl rfl (by omega) (by simp;omega) Bo fun v1 Z hs=>?_
    conv=>whnf
    repeat'((first|apply st|refine rk ?_ ?_|exact fun s e=>by cases e;rfl|refine aq fun v Z hs hsl=>?_|refine gY ?_|fail)<;>conv=>whnf)
    refine JI (by assumption) (P2 hs 0 1 (xs:=([]++(out.drop 0).take (A4 k).toNat)++[z]) (ys:=out) rfl rfl (by omega) (by simp;omega) Bo fun v1 Z hs hsl=>?_);refine zz ?_;(repeat clear U K);repeat intro K U
    refine⟨hlt,(v1,Hc z out),rfl,⟨hsr.symm,by rw[ND];omega,fun h=>by omega,fun _=>hsl⟩,?_⟩;rw[hins]
    have e:([]++(out.drop 0).take (A4 k).toNat)++[z]++(out.drop (A4 k).toNat).take (((iL out).length:Int) - A4 k).toNat=out.take k++z::out.drop k:=by
     have e1:(out.drop k).take (((iL out).length:Int) - A4 k).toNat=out.drop k:=List.take_of_length_le (by rw[sj];omega);rw[show(A4 k).toNat=k by omega,e1];simp
    rw[e]at hs;exact hs.less (.cons₂ _ (Jf _))
   .have hins:=VN htw (by rw[Ai hke];rfl) hk
    conv=>whnf
    repeat'((first|clear U K|apply st|(apply zk;intro K U)|refine zY ?_|refine tH ?_|refine gY ?_|fail)<;>conv=>whnf)
    replace hs:=Cq hs 1;refine P2 hs 0 1 (xs:=[]) (ys:=out) rfl rfl (by omega) (by simp;omega) Bo fun v1 Z hs=>?_
    conv=>whnf
    repeat'((first|apply st|refine rk ?_ ?_|exact fun s e=>by cases e;rfl|refine aq fun v Z hs hsl=>?_|refine gY ?_|fail)<;>conv=>whnf)
    refine JI (by assumption) (P2 hs 0 1 (xs:=([]++(out.drop 0).take (A4 k).toNat)++[z]) (ys:=out) rfl rfl (by omega) (by simp;omega) Bo fun v1 Z hs hsl=>?_);refine zz ?_;(repeat clear U K);repeat intro K U
    refine⟨hlt,(v1,Hc z out),rfl,⟨hsr.symm,by rw[ND];omega,fun h=>by omega,fun _=>hsl⟩,?_⟩;rw[hins]
    have e:([]++(out.drop 0).take (A4 k).toNat)++[z]++(out.drop (A4 k).toNat).take (((iL out).length:Int) - A4 k).toNat=out.take k++z::out.drop k:=by
     have e1:(out.drop k).take (((iL out).length:Int) - A4 k).toNat=out.drop k:=List.take_of_length_le (by rw[sj];omega);rw[show(A4 k).toNat=k by omega,e1];simp
    rw[e]at hs;exact hs.less (.cons₂ _ (Jf _))
 .refine zz ?_;(repeat clear U K);repeat intro K U
  rw[hie,List.take_length]at ho;rw[<-ho];exact A7 (hs.GG 0 rfl)
end Go.Gl
namespace Go.Gl
open Go.Proofs
attribute [local irreducible] Au Am Ae AR AK AY AQ AS AJ AX AM AO Ao A0 Sat AU Ay Af W
def LZ (A:Int->Int->Bool) (l:List Int) (i k:Nat):Bool:=(List.range k).all fun j=> !A (l.getD j 0) (l.getD i 0)
def Ns (A:Int->Int->Bool) (l:List Int):Option Nat:=(List.range l.length).find? fun i=>LZ A l i l.length
def DN (A:Int->Int->Bool):Nat->List Int->List Int
 | 0,_=>[]
 | k+1,l=>l.getD ((Ns A l).getD 0) 0::DN A k (l.eraseIdx ((Ns A l).getD 0))
def eQ (A:Int->Int->Bool) (l:List Int) (i k:Nat):LZ A l i (k+1)=(LZ A l i k&& !A (l.getD k 0) (l.getD i 0)):=by
 rw[LZ,List.range_succ,List.all_append,LZ];simp
def dnD (p:Nat->Bool) (n:Nat) (i a:Int):Prop:=(a=0/\ ∀t:Nat,i<t->t<n->p t=false)\/ ∃b:Nat,a=b/\i<b/\b<n/\p b=true/\ ∀t:Nat,i<t->t<b->p t=false
def qn {p:Nat->Bool} {n:Nat} {a:Int} (h:dnD p n (-1) a):a=(((List.range n).find? p).getD 0:Nat):=by
 rcases h with⟨h1,h2⟩|⟨b,h1,-,h3,h4,h5⟩
 .rw[List.find?_range_eq_none.2 fun t ht=>by rw[h2 t (by omega) ht];rfl]
  exact h1
 .rw[List.find?_range_eq_some.2 ⟨h4,List.mem_range.2 h3,fun t ht=>by rw[h5 t (by omega) ht];rfl⟩]
  exact h1
def mY {p:Nat->Bool} {n:Nat} {i:Nat} {a:Int} (h:dnD p n i a) (hi:i<n):dnD p n ((i:Int) - 1) (if p i then(i:Int)else a):=by
 cases hp:p i
 .rw[if_neg (by decide)]
  rcases h with⟨h1,h2⟩|⟨b,h1,h2,h3,h4,h5⟩
  .refine .inl ⟨h1,fun t ht hn=>?_⟩
   by_cases e:t=i
   .rw[e];exact hp
   .exact h2 t (by omega) hn
  .refine .inr ⟨b,h1,by omega,h3,h4,fun t ht hb=>?_⟩
   by_cases e:t=i
   .rw[e];exact hp
   .exact h5 t (by omega) hb
 .rw[if_pos rfl]
  exact .inr ⟨i,rfl,by omega,hi,hp,fun t h1 h2=>by omega⟩
def T8 (T : List (List Bool)) (l:List Int) (f:Bool) (h:Jg T (Cy l)) (hl16:l.length<=16):Pure zP 276 [rS T,.l (iL l) f] (.l (iL (DN (Dt T) (Cy l).length (Cy l))) false):=by
 have hM:=Mx;have c1:=tk l f hl16;refine xP kZ ?_;have hs:=Sn
 conv=>whnf
 repeat'((first|clear U K|apply st|(apply zk;intro K U)|refine zC ?_|fail)<;>conv=>whnf)
 clear c1
 refine D7 (fun(x:List Int×Bool×V×List Int)=>x.1.length) (fun x=>[(1,.l (iL x.1) x.2.1),(5,x.2.2.1)]) (fun x=>[.own x.2.2.1 1 (iL x.2.2.2)])
  (fun x=>Jg T x.1/\x.2.2.2.length+x.1.length<=16/\DN (Dt T) (Cy l).length (Cy l)=x.2.2.2++DN (Dt T) x.1.length x.1) (Cy l,false,.l [] true,[]) rfl ⟨h,by simpa using h.many,by simp⟩ (D1 hs 1) ?_
 clear hs;rintro⟨l',f',v,out⟩ Z ⟨ho,hlen,hm⟩ hs;dsimp only at ho hlen hm hs;dsimp only;have hll:out.length<Aa/\(out.length+1)*8<=140737488355328:=by omega
 by_cases hz:l'.length=0
 .conv=>whnf
  repeat'((first|clear U K|apply st|(apply zk;intro K U)|refine zY ?_|(refine zb (fun hc=>?_) (fun hc=>?_)<;>try exact⟨⟩)|fail)<;>conv=>whnf)
  rw[hz]at hm;simp only[DN,Ez]at hm;rw[hm];exact A7 (hs.GG 0 rfl)
 .obtain⟨n,hn⟩: ∃n,l'.length=n+1:=⟨l'.length - 1,by omega⟩
  rw[hn,DN]at hm;have hm16:=ho.many
  conv=>whnf
  repeat'((first|clear U K|apply st|(apply zk;intro K U)|refine zY ?_|(refine zb (fun hc=>?_) (fun hc=>?_)<;>try exact⟨⟩)|fail)<;>conv=>whnf)
  refine D7 (fun x:Int×Int=>(x.2+1).toNat) (fun x=>[(6,eI x.1),(7,eI x.2)]) (fun _=>[.own v 1 (iL out)]) (fun x=> -1<=x.2/\x.2<l'.length/\dnD (fun i=>LZ (Dt T) l' i l'.length) l'.length x.2 x.1) (0,IntKind.i64.wrap ((iL l').length - 1)) rfl (by
   have e:((iL l').length:Int)=l'.length:=by simp
   have e2:IntKind.i64.wrap ((iL l').length - 1)=(l'.length:Int) - 1:=by rw[e,wrap64 (by omega) (by omega)]
   dsimp only;rw[e2]
   exact⟨by omega,by omega,.inl ⟨rfl,fun t h1 h2=>by omega⟩⟩) hs ?_
  clear hs;rintro⟨a,i⟩ Z ⟨hi1,hi2,hok⟩ hs;dsimp only at hi1 hi2 hok hs;dsimp only;by_cases hneg:i<0
  .obtain rfl:i= -1:=by omega
   have hae:=qn hok;rw[show(List.range l'.length).find? (fun i=>LZ (Dt T) l' i l'.length)=Ns (Dt T) l' from rfl]at hae
   have hj:(Ns (Dt T) l').getD 0<l'.length:=by
    cases h:Ns (Dt T) l' with
    | none=>exact Nat.pos_of_ne_zero hz
    | some j=>simpa using List.mem_of_find?_eq_some h
   generalize (Ns (Dt T) l').getD 0=j at *;subst hae;have c2:=Rb l' f' j hj ho.many;obtain⟨x,hx⟩: ∃x,l'[j]? =some x:=⟨_,Cs hj⟩
   have hel:=List.length_eraseIdx_of_lt hj;rw[CU hx]at hm
   conv=>whnf
   repeat'((first|clear U K|apply st|(apply zk;intro K U)|refine zY ?_|refine aq fun v Z hs hsl=>?_|refine zC ?_|(refine zb (fun hc=>?_) (fun hc=>?_)<;>try exact⟨⟩)|fail)<;>conv=>whnf)
   refine⟨(l'.eraseIdx j,false,v,out++[x]),by dsimp only;omega,rfl,⟨ho.less j,by simp;omega,?_⟩,hs⟩;dsimp only;rw[hm,hel,show l'.length - 1=n by omega];simp
  .have hpos:0<=i:=by omega
   obtain⟨x,hx⟩: ∃x,l'[i.toNat]? =some x:=⟨_,Cs (by omega)⟩
   have hxi:=ho.ins x (Bp hx)
   conv=>whnf
   repeat'((first|clear U K|apply st|(apply zk;intro K U)|refine zY ?_|(refine zb (fun hc=>?_) (fun hc=>?_)<;>try exact⟨⟩)|fail)<;>conv=>whnf)
   refine B1 l'.length (fun k (b:Bool)=>[(8,.b b),(9,eI (A4 k))]) (fun _ _=>[.own v 1 (iL out)]) (fun k b=>b=LZ (Dt T) l' i.toNat k) true rfl rfl hs ?_;clear hs;rintro k b Z hk hb hs;rcases A8 l' hk with⟨y,hy,hklt⟩|hke
   .have hyi:=ho.ins y (Bp hy)
    obtain⟨r,hr,hry⟩:=ri ho hyi hxi;have hsu:=eQ (Dt T) l' i.toNat k;rw[CU hx,CU hy,<-hb]at hsu;have hck:A4 k=k:=Ag (by omega);have hrl:=ho.sq r (Bp hr);cases b
    .refine zz ?_;(repeat clear U K);repeat intro K U
     exact⟨hklt,false,rfl,(hsu.trans (by simp)).symm,hs⟩
    .refine zz ?_;(repeat clear U K);repeat intro K U
     exact⟨hklt,!Dt T y x,rfl,(hsu.trans (by simp)).symm,hs⟩
   .have hwi:IntKind.i64.wrap (i - 1)=i - 1:=wrap64 (by omega) (by omega)
    have hst:=mY (i:=i.toNat) (by rw[Int.toNat_of_nonneg hpos];exact hok) (by omega);rw[hke]at hb;rw[Int.toNat_of_nonneg hpos,<-hb]at hst
    conv=>whnf
    repeat'((first|clear U K|apply st|(apply zk;intro K U)|refine zY ?_|refine za (fun hc=>?_) fun hc=>?_|fail)<;>conv=>whnf)
    .rw[hc,if_pos rfl]at hst
     exact⟨(i,IntKind.i64.wrap (i - 1)),by dsimp only;omega,rfl,by dsimp only;rw[hwi];exact⟨by omega,by omega,hst⟩,hs⟩
    .rw[hc,if_neg (by decide)]at hst
     exact⟨(a,IntKind.i64.wrap (i - 1)),by dsimp only;omega,rfl,by dsimp only;rw[hwi];exact⟨by omega,by omega,hst⟩,hs⟩
end Go.Gl
namespace Go.Gl
open Go.Proofs
def Sat.oks {Z:AE} {l:List At} (h:Sat Z l) {a:At} (ha:a∈l):a.ok Z:=h.1 a ha
def nM {Z:AE} {v vf:V} {Q:R->AE->Prop} (hf:F3 Z emp v vf) (hq:Q (.ret vf) emp):Am Z v Q:=⟨vf,emp,fun n o ho=>(by cases ho),hf,hq⟩
structure Hid (p:Prop):Prop where
 un:p
attribute [local irreducible] Au Am Ae AR AK AY AQ AS AJ AX AM AO Ao A0 Sat AU Ay Af W
abbrev RW:=Nat×List Bool
abbrev MF (n:Nat) (r:RW):List V:=[.sl r.1 n n]
abbrev FB (n:Nat) (r:RW):At:= .own (.sl r.1 n n) 1 (bL r.2)
def bn (n:Nat):Ec (MF n) 1:=fun r=>⟨rfl,fun v hv=>by rw[KV.1 hv];rfl⟩
abbrev nR (n:Nat) (v6 v7:V) (R6 R7:List RW):List At:= .own v6 1 (R6.map (MF n)):: .own v7 1 (R7.map (MF n))::(R6.map (FB n)++R7.map (FB n))
def k8 {n:Nat} {v6 v7:V} {R6 R7:List RW} {r6 r7:RW}:List.Perm (FB n r7::FB n r6:: .own v6 1 ((R6++[r6]).map (MF n)):: .own v7 1 ((R7++[r7]).map (MF n))::(R6.map (FB n)++R7.map (FB n))) (nR n v6 v7 (R6++[r6]) (R7++[r7])):=by
 have e:(R6++[r6]).map (FB n)++(R7++[r7]).map (FB n)=R6.map (FB n)++(FB n r6::(R7.map (FB n)++[FB n r7])):=by simp
 have h1:((R6++[r6]).map (FB n)++(R7++[r7]).map (FB n)).Perm (FB n r7::FB n r6::(R6.map (FB n)++R7.map (FB n))):=by
  rw[e];refine List.perm_middle.trans (.trans (.cons _ ?_) (.swap _ _ _));rw[<-PR];exact List.perm_append_singleton _ _
 exact((Nk (l₁:=[FB n r7,FB n r6]) (l₂:=[_,_])).append_right _).trans (.cons _ (.cons _ h1.symm))
def K7 (R:List RW):List (List Bool):=R.map fun r=>r.2
def EL {l:List Int} {k:Nat} (h:k<l.length):l.getD k 0∈l:=by
 rw[C6,Cs h];exact List.getElem_mem h
structure Sf (n:Nat) (R:List RW):Prop where
 len:R.length=n
 row: ∀r∈R,r.2.length=n
def Sf.put {n:Nat} {R:List RW} {r:RW} (h:Sf n R) {j k:Nat} {b:Bool} (hr:R[j]? =some r):Sf n (R.set j (r.1,r.2.set k b)):=by
 refine⟨by rw[List.length_set];exact h.len,fun q hq=>?_⟩;rcases List.mem_or_eq_of_mem_set hq with hq|rfl
 .exact h.row q hq
 .rw[List.length_set];exact h.row r (Bp hr)
def Yu {n:Nat} {R:List RW} {r:RW} (h:Sf n R) {j k:Nat} {b:Bool} (hr:R[j]? =some r) (hk:k<n) (u v:Int):Dt (K7 (R.set j (r.1,r.2.set k b))) u v=if u.toNat=j/\v.toNat=k then b else Dt (K7 R) u v:=by
 have hj:j<R.length:=(JL.1 hr).1;have hl:=h.row r (Bp hr);rw[Dt,Dt,K7,List.map_set];rw[C6 (l:=(R.map fun r=>r.2).set j _)];by_cases hu:u.toNat=j
 .rw[hu,List.getElem?_set_self (by simpa using hj),Option.getD_some,Ee (by omega)]
  have e:(K7 R).getD j []=r.2:=by rw[K7,C6,Jm,hr];rfl
  by_cases hv:v.toNat=k
  .rw[if_pos hv,if_pos ⟨rfl,hv⟩]
  .rw[if_neg hv,if_neg fun h=>hv h.2,e]
 .rw[List.getElem?_set_ne (fun h=>hu h.symm),if_neg fun h=>hu h.1,<-C6]
  rfl
def mH {Z:AE} {n:Nat} {v6:V} {R:List RW} {r r':RW} {j:Nat} {B:At} {AB X:List At} (hr:R[j]? =some r) (he:r'.1=r.1) (hs:Sat Z (FB n r'::B:: .own v6 1 (R.map (MF n))::(AB++(R.map (FB n)++X).eraseIdx j))):Sat Z (B:: .own v6 1 ((R.set j r').map (MF n))::(AB++((R.set j r').map (FB n)++X))):=by
 have hj:j<R.length:=(JL.1 hr).1
 have e1:(R.set j r').map (MF n)=R.map (MF n):=by
  rw[List.map_set];refine List.ext_getElem? fun i=>?_
  by_cases hi:j=i
  .subst hi
   rw[List.getElem?_set_self (by simpa using hj),Jm,hr];simp only[Ya,MF,he]
  .rw[List.getElem?_set_ne hi]
 have e2:(R.set j r').map (FB n)++X=(R.map (FB n)++X).set j (FB n r'):=by
  rw[List.map_set,List.set_append_left _ _ (by simpa using hj)]
 rw[e1,e2]
 have hp:((R.map (FB n)++X).set j (FB n r')).Perm (FB n r'::(R.map (FB n)++X).eraseIdx j):=by
  have:=I7 (l:=(R.map (FB n)++X).set j (FB n r')) (j:=j) (a:=FB n r') (List.getElem?_set_self (by rw[Nl,B9];omega))
  rwa [List.eraseIdx_set_eq]at this
 refine hs.perm (List.Perm.trans ?_ (.cons _ (.cons _ ((hp.symm).append_left AB))));exact((Nk (l₁:=[FB n r']) (l₂:=B:: .own v6 1 (R.map (MF n))::AB)).append_right _).trans (by simp)
def rh {R:List RW} {r:RW} {m n:Nat} {b:Bool} (hr:R[m]? =some r) (hb:r.2[n]? =some b):Dt (K7 R) m n=b:=by
 simp only[Dt,K7,Fi,C6,Jm,hr,Ya,Option.getD_some,hb]
def Ti {n:Nat} {v7:V} {R Q:List RW} {r r':RW} {j:Nat} {B C:At} (hr:Q[j]? =some r) (he:r'.1=r.1):(B::C:: .own v7 1 (Q.map (MF n))::(R.map (FB n)++Q.map (FB n))).set (R.length+j+3) (FB n r')=B::C:: .own v7 1 ((Q.set j r').map (MF n))::(R.map (FB n)++(Q.set j r').map (FB n)):=by
 have e1:(Q.set j r').map (MF n)=Q.map (MF n):=by
  have hj:j<Q.length:=(JL.1 hr).1;rw[List.map_set];refine List.ext_getElem? fun i=>?_
  by_cases hi:j=i
  .subst hi
   rw[List.getElem?_set_self (by simpa using hj),Jm,hr];simp only[Ya,MF,he]
  .rw[List.getElem?_set_ne hi]
 rw[e1];show B::C:: .own v7 1 (Q.map (MF n))::(R.map (FB n)++Q.map (FB n)).set (R.length+j) (FB n r')=_;rw[List.set_append_right _ _ (by rw[B9];omega),B9,show R.length+j - R.length=j by omega,List.map_set]
def RC {Z:AE} {n:Nat}: ∀Q:List RW,(∀r∈Q,(FB n r).ok Z)->Fa Z emp (Q.map (MF n)) ((K7 Q).map fun r=>[.l (bL r) false])
 | [],_=> .nil
 | r ::s,h=>by
   refine .cons (.cons ?_ .nil) (RC s fun q hq=>h q (.tail _ hq));rcases h r (.head _)with⟨e,_⟩|⟨m,cap,e,hm⟩
   .cases e
   .injection e with e1 e2 e3
    subst e1 e3;exact .arr hm rfl e2 (.refl _ _ _)
def vG {Z:AE} {n:Nat} {v:V} {Q:List RW} (hv:(At.own v 1 (Q.map (MF n))).ok Z) (h: ∀r∈Q,(FB n r).ok Z):F3 Z emp v (rS (K7 Q)):=by
 rcases hv with⟨rfl,_⟩|⟨m,cap,rfl,hm⟩
 .exact .l (fun h=>by cases h) (RC Q h)
 .exact .arr hm rfl rfl (RC Q h)
def nE (p : Prog) (l:List Int) (f:Bool) (hok:ES p) (hl16:l.length<=16) (hin: ∀x∈l,BN p x=true):BQ zP 136 [.a (BG p),.l (iL l) f] [] fun r post=>post= []/\ ∃T,r= .ret (rS T)/\Jg T l/\ ∀x∈l,∀y∈l,Dr p x y=true->Dt T x y=Ax p x y:=by
 refine BQ.fit (by kernel_rfl) fun hf=>?_
 intro Z hs;have⟨p1,p2,p3,p4⟩:=Gn hf.1;have hM:=Mx;have h16:=hok.many;have hP:=J3 hf.1;have c1:=Pn p hP hok.sD hok.AG;refine yw kZ ?_
 conv=>whnf
 repeat'((first|clear U K|apply st|(apply zk;intro K U)|refine zY ?_|refine zs fun Z hs=>?_|refine zC ?_|refine zo fun nn hnn Z hs=>?_|fail)<;>conv=>whnf)
 replace hs:=Sat.front (j:=2) (Cq (Cq hs 1) 1) rfl;refine B1 p.methods.length (fun m (x:V×V×List RW×List RW)=>[(6,x.1),(7,x.2.1),(8,eI (A4 m))]) (fun _ x=> .box nn (Az (AL p))::nR p.methods.length x.1 x.2.1 x.2.2.1 x.2.2.2) (fun m x=>x.2.2.1.length=m/\x.2.2.2.length=m/\(∀r∈x.2.2.1,r.2=List.replicate p.methods.length false)/\ ∀r∈x.2.2.2,r.2=List.replicate p.methods.length false) (.l [] true,.l [] true,[],[]) rfl ⟨rfl,rfl,fun r h=>(by cases h),fun r h=>(by cases h)⟩ hs ?_;clear hs hnn;rintro m ⟨v6,v7,R6,R7⟩ Z hm ⟨h6,h7,ha6,ha7⟩ hs;dsimp only at h6 h7 ha6 ha7 hs;dsimp only;rcases A8 p.methods hm with⟨x,hx,hlt⟩|hme
 .have hll6:R6.length<Aa/\(R6.length+1)*24<=140737488355328:=by omega
  have hll7:R7.length<Aa/\(R7.length+1)*24<=140737488355328:=by omega
  refine zz ?_;(repeat clear U K);repeat intro K U
  simp only[B9];refine oD hs (Hz _) (by omega) fun u6 Z hs hu6=>?_
  obtain⟨a6,rfl⟩:=hu6
  conv=>whnf
  repeat'((first|clear U K|apply st|(apply zk;intro K U)|refine aq (enc:=MF p.methods.length) (x:=((_:Nat),List.replicate p.methods.length false)) (fun v Z hs hsl=>?_) (hg:=bn _)|fail)<;>conv=>whnf)
  rename V=>w6
  simp only[B9];refine oD hs (Hz _) (by omega) fun u7 Z hs hu7=>?_
  obtain⟨a7,rfl⟩:=hu7
  conv=>whnf
  repeat'((first|clear U K|apply st|(apply zk;intro K U)|refine zY ?_|refine aq (enc:=MF p.methods.length) (x:=((_:Nat),List.replicate p.methods.length false)) (fun v Z hs hsl=>?_) (hg:=bn _)|fail)<;>conv=>whnf)
  refine⟨hlt,(w6,v,R6++[(a6,List.replicate p.methods.length false)],R7++[(a7,List.replicate p.methods.length false)]),rfl,⟨by simp;omega,by simp;omega,fun r hr=>?_,fun r hr=>?_⟩,?_⟩
  .rcases Dy.1 hr with hr|hr
   .exact ha6 r hr
   .rw[KV.1 hr]
  .rcases Dy.1 hr with hr|hr
   .exact ha7 r hr
   .rw[KV.1 hr]
  .refine Sat.perm ?_ (((Nk (l₁:=[_,_]) (l₂:=[_])).append_right _).trans (.cons _ k8))
   have hbl:bL (List.replicate p.methods.length false)=List.replicate p.methods.length [V.b false]:=by simp[bL]
   dsimp only[FB];rw[hbl];exact hs
 .refine zz ?_;(repeat clear U K);repeat intro K U
  have hs2:=hs;refine B1 l.length (fun i (R:List RW)=>[(9,eI (A4 i))]) (fun _ R=> .box nn (Az (AL p))::nR p.methods.length v6 v7 R R7) (fun i R=>Sf p.methods.length R/\ ∀i' k',i'<i->k'<l.length->Dr p (l.getD i' 0) (l.getD k' 0)=true->Dt (K7 R) (l.getD i' 0) (l.getD k' 0)=Gk p (l.getD i' 0) (l.getD k' 0)) R6 rfl ⟨⟨by omega,fun r hr=>by rw[ha6 r hr];simp⟩,fun i' k' h=>by omega⟩ hs ?_;clear hs hs2;rintro i R Z hi ⟨hR,hE⟩ hs;rcases A8 l hi with⟨x,hx,hlt⟩|hie
  .have hxm:=hin x (Bp hx)
   have hxP:=CH hxm;have hxr:=hxm;simp only[BN,A9,Cp]at hxr;refine zz ?_;(repeat clear U K);repeat intro K U
   refine B1 l.length (fun k (R:List RW)=>[(10,eI (A4 k))]) (fun _ R=> .box nn (Az (AL p))::nR p.methods.length v6 v7 R R7) (fun k R=>Sf p.methods.length R/\(∀i' k',i'<i->k'<l.length->Dr p (l.getD i' 0) (l.getD k' 0)=true->Dt (K7 R) (l.getD i' 0) (l.getD k' 0)=Gk p (l.getD i' 0) (l.getD k' 0))/\ ∀k',k'<k->Dr p x (l.getD k' 0)=true->Dt (K7 R) x (l.getD k' 0)=Gk p x (l.getD k' 0)) R rfl ⟨hR,hE,fun k' h=>by omega⟩ hs ?_;clear hs hR hE R;rintro k R Z hk ⟨hR,hE,hF⟩ hs;rcases A8 l hk with⟨y,hy,hklt⟩|hke
   .have hym:=hin y (Bp hy)
    have hyP:=CH hym;have hyr:=hym;simp only[BN,A9,Cp]at hyr;have c2:=rN p x y hxm hym;have c3:=eo (AL p) (Be p x).fact (Be p y).fact hok.zj (hok.facts _ (Bp hxP)).1 (hok.facts _ (Bp hyP)).1 (hok.facts _ (Bp hxP)).2 (hok.facts _ (Bp hyP)).2;cases hal:Dr p x y<;>rw[hal]at c2
    .conv=>whnf
     repeat'((first|clear U K|apply st|(apply zk;intro K U)|refine zY ?_|refine zC ?_|fail)<;>conv=>whnf)
     refine⟨hklt,R,rfl,⟨hR,hE,fun k' h=>?_⟩,hs⟩;rcases Nat.lt_or_ge k' k with h'|h'
     .exact hF k' h'
     .rw[show k'=k by omega,CU hy,hal]
      intro e;cases e
    .obtain⟨r,hr⟩: ∃r,R[x.toNat]? =some r:=⟨_,Cs (by have:=hR.len;omega)⟩
     have hl0:=hR.len;have hl1:(R.map (MF p.methods.length)).length=p.methods.length:=by rw[B9];exact hR.len
     have hl2:=hR.row r (Bp hr);have hl3:(bL r.2).length=p.methods.length:=by simpa using hl2
     have hj:(At.box nn (Az (AL p))::nR p.methods.length v6 v7 R R7)[x.toNat+3]? =some (FB p.methods.length r):=by
      show(R.map (FB p.methods.length)++R7.map (FB p.methods.length))[x.toNat]? =_;rw[cz (by rw[B9];have:=hR.len;omega),Jm,hr];rfl
     replace hs:Sat Z (FB p.methods.length r:: .box nn (Az (AL p)):: .own v6 1 (R.map (MF p.methods.length)):: .own v7 1 (R7.map (MF p.methods.length))::(R.map (FB p.methods.length)++R7.map (FB p.methods.length)).eraseIdx x.toNat):=hs.front hj
     conv=>whnf
     repeat'((first|clear U K|apply st|(apply zk;intro K U)|refine zY ?_|refine rk ?_ ?_|exact fun s e=>by cases e;rfl|refine zs fun Z hs=>?_|refine zC ?_|fail)<;>conv=>whnf)
     have hk2:y.toNat<p.methods.length:=by omega
     have hkeep: ∀u v,BN p u=true->BN p v=true->Dt (K7 R) u v=Gk p u v->Dt (K7 (R.set x.toNat (r.1,r.2.set y.toNat (Gk p x y)))) u v=Gk p u v:=fun u v hu hv e=>by
      simp only[BN,A9,Cp]at hu hv;rw[Yu hR hr hk2];split
      .rename_i h
       rw[show u=x by omega,show v=y by omega]
      .exact e
     refine⟨hklt,R.set x.toNat (r.1,r.2.set y.toNat (Gk p x y)),rfl,⟨hR.put hr,fun i' k' h1 h2 h3=>?_,fun k' h1 h2=>?_⟩,mH (AB:=[_]) hr rfl hs⟩
     .exact hkeep _ _ (hin _ (EL (by omega))) (hin _ (EL h2)) (hE i' k' h1 h2 h3)
     .rcases Nat.lt_or_ge k' k with h'|h'
      .exact hkeep _ _ hxm (hin _ (EL (by omega))) (hF k' h' h2)
      .rw[show k'=k by omega,CU hy,Yu hR hr hk2,if_pos ⟨rfl,rfl⟩]
   .refine zz ?_;(repeat clear U K);repeat intro K U
    refine⟨hlt,R,rfl,⟨hR,fun i' k' h1 h2=>?_⟩,hs⟩;rcases Nat.lt_or_ge i' i with h'|h'
    .exact hE i' k' h' h2
    .rw[show i'=i by omega,CU hx]
     exact hF k' (by omega)
  .have hlR:=hR.len
   have hnr:Sf p.methods.length R7:=⟨by omega,fun r hr=>by rw[ha7 r hr];simp⟩
   refine zz ?_;(repeat clear U K);repeat intro K U
   refine B1 p.methods.length (fun m (Q:List RW)=>[(11,eI (A4 m))]) (fun _ Q=> .box nn (Az (AL p))::nR p.methods.length v6 v7 R Q) (fun m Q=>Sf p.methods.length Q/\ ∀m' n':Nat,m'<m->n'<p.methods.length->Dt (K7 Q) m' n'=(Dt (K7 R) m' n'&& !Dt (K7 R) n' m')) R7 rfl ⟨hnr,fun m' n' h=>by omega⟩ hs ?_;clear hs hnr;rintro m Q Z hm ⟨hQ,hG⟩ hs;have hlQ:=hQ.len;have hl5:(Q.map (MF p.methods.length)).length=p.methods.length:=by rw[B9];exact hlQ
   have hl6:(R.map (MF p.methods.length)).length=p.methods.length:=by rw[B9];exact hlR
   rcases Nat.lt_or_ge m p.methods.length with hlt|hme
   .obtain ⟨ra,hra⟩: ∃r,R[m]? =some r:=⟨_,Cs (by omega)⟩
    conv=>whnf
    repeat'((first|clear U K|apply st|(apply zk;intro K U)|refine zY ?_|(refine zb (fun hc=>?_) (fun hc=>?_)<;>try exact⟨⟩)|fail)<;>conv=>whnf)
    refine B1 p.methods.length (fun n (Q:List RW)=>[(12,eI (A4 n))]) (fun _ Q=> .box nn (Az (AL p))::nR p.methods.length v6 v7 R Q) (fun n Q=>Sf p.methods.length Q/\(∀m' n':Nat,m'<m->n'<p.methods.length->Dt (K7 Q) m' n'=(Dt (K7 R) m' n'&& !Dt (K7 R) n' m'))/\ ∀n':Nat,n'<n->Dt (K7 Q) m n'=(Dt (K7 R) m n'&& !Dt (K7 R) n' m)) Q rfl ⟨hQ,hG,fun n' h=>by omega⟩ hs ?_;clear hs hQ hG hlQ hl5;rintro n Q Z hn ⟨hQ,hG,hI⟩ hs;have hlQ:=hQ.len;have hl5:(Q.map (MF p.methods.length)).length=p.methods.length:=by rw[B9];exact hlQ
    rcases Nat.lt_or_ge n p.methods.length with hnlt|hne
    .obtain⟨rb,hrb⟩: ∃r,R[n]? =some r:=⟨_,Cs (by omega)⟩
     obtain⟨rq,hrq⟩: ∃r,Q[m]? =some r:=⟨_,Cs (by omega)⟩
     have hla:=hR.row ra (Bp hra);have hlb:=hR.row rb (Bp hrb);have hlq:=hQ.row rq (Bp hrq);have hcm:A4 m=m:=Ag (by omega);have hcn:A4 n=n:=Ag (by omega);obtain⟨ba,hba⟩: ∃b,ra.2[n]? =some b:=⟨_,Cs (by omega)⟩
     obtain⟨bb,hbb⟩: ∃b,rb.2[m]? =some b:=⟨_,Cs (by omega)⟩
     have g1:Hid ((At.box nn (Az (AL p))::nR p.methods.length v6 v7 R Q)[m+3]? =some (FB p.methods.length ra)):=by
      refine .mk ?_;show(R.map (FB p.methods.length)++Q.map (FB p.methods.length))[m]? =_;rw[cz (by rw[B9];omega),Jm,hra];rfl
     have g2:Hid ((At.box nn (Az (AL p))::nR p.methods.length v6 v7 R Q)[n+3]? =some (FB p.methods.length rb)):=by
      refine .mk ?_;show(R.map (FB p.methods.length)++Q.map (FB p.methods.length))[n]? =_;rw[cz (by rw[B9];omega),Jm,hrb];rfl
     have g3:Hid ((At.box nn (Az (AL p))::nR p.methods.length v6 v7 R Q)[R.length+m+3]? =some (FB p.methods.length rq)):=by
      refine .mk ?_;show(R.map (FB p.methods.length)++Q.map (FB p.methods.length))[R.length+m]? =_;rw[List.getElem?_append_right (by rw[B9];omega),B9,show R.length+m - R.length=m by omega,Jm,hrq];rfl
     have hra2:R[(A4 m).toNat]? =some ra:=by rw[hcm,Fi];exact hra
     have hrb2:R[(A4 n).toNat]? =some rb:=by rw[hcn,Fi];exact hrb
     have hrq2:Q[(A4 m).toNat]? =some rq:=by rw[hcm,Fi];exact hrq
     have eab:=rh hra hba;have eba:=rh hrb hbb;have hput: ∀b,Sf p.methods.length (Q.set m (rq.1,rq.2.set n b)):=fun b=>hQ.put hrq
     have hnew: ∀(b:Bool) (u v:Nat),Dt (K7 (Q.set m (rq.1,rq.2.set n b))) u v=if u=m/\v=n then b else Dt (K7 Q) u v:=fun b u v=>by
      have:=Yu (b:=b) hQ hrq hnlt u v;simpa using this
     have hfin: ∀b,b=(ba&& !bb)->(∀m' n':Nat,m'<m->n'<p.methods.length->Dt (K7 (Q.set m (rq.1,rq.2.set n b))) m' n'=(Dt (K7 R) m' n'&& !Dt (K7 R) n' m'))/\ ∀n':Nat,n'<n+1->Dt (K7 (Q.set m (rq.1,rq.2.set n b))) m n'=(Dt (K7 R) m n'&& !Dt (K7 R) n' m):=fun b hb=>by
      refine⟨fun m' n' h1 h2=>?_,fun n' h1=>?_⟩
      .rw[hnew,if_neg fun h=>by omega]
       exact hG m' n' h1 h2
      .rw[hnew]
       split
       .rename_i h
        rw[h.2,eab,eba,hb]
       .exact hI n' (by omega)
     cases ba
     .conv=>whnf
      repeat'((first|clear U K|apply st|(apply zk;intro K U)|refine zY ?_|refine os2 (fun Z hs=>?_) (hi:=g3.un) (h1:=by omega)|refine oc ?_ (hi:=g1.un) (h1:=by rw[B9];omega)|refine oc ?_ (hi:=g3.un) (h1:=by rw[B9];omega)|refine sw ?_ (hi:=g1.un)|(refine zb (fun hc=>?_) (fun hc=>?_)<;>try exact⟨⟩)|fail)<;>conv=>whnf)
      refine⟨hnlt,Q.set m (rq.1,rq.2.set n false),rfl,⟨hput _,hfin _ rfl⟩,?_⟩;refine(congrArg (Sat Z) (Ti (n:=p.methods.length) (v7:=v7) (R:=R) (B:= .box nn (Az (AL p))) (C:= .own v6 1 (R.map (MF p.methods.length))) (r':=(rq.1,rq.2.set n false)) hrq rfl)).mp ?_
      first
       | exact hs
       | (rw[hcn,Fi]at hs;exact hs)
     .conv=>whnf
      repeat'((first|clear U K|apply st|(apply zk;intro K U)|refine zY ?_|refine os2 (fun Z hs=>?_) (hi:=g3.un) (h1:=by omega)|refine oc ?_ (hi:=g1.un) (h1:=by rw[B9];omega)|refine oc ?_ (hi:=g2.un) (h1:=by rw[B9];omega)|refine oc ?_ (hi:=g3.un) (h1:=by rw[B9];omega)|refine sw ?_ (hi:=g1.un)|refine sw ?_ (hi:=g2.un)|(refine zb (fun hc=>?_) (fun hc=>?_)<;>try exact⟨⟩)|fail)<;>conv=>whnf)
      refine⟨hnlt,Q.set m (rq.1,rq.2.set n (!bb)),rfl,⟨hput _,hfin _ rfl⟩,?_⟩;refine(congrArg (Sat Z) (Ti (n:=p.methods.length) (v7:=v7) (R:=R) (B:= .box nn (Az (AL p))) (C:= .own v6 1 (R.map (MF p.methods.length))) (r':=(rq.1,rq.2.set n (!bb))) hrq rfl)).mp ?_
      first
       | exact hs
       | (rw[hcn,Fi]at hs;exact hs)
    .conv=>whnf
     repeat'((first|clear U K|apply st|(apply zk;intro K U)|refine zY ?_|(refine zb (fun hc=>?_) (fun hc=>?_)<;>try exact⟨⟩)|fail)<;>conv=>whnf)
     refine⟨hlt,Q,rfl,⟨hQ,fun m' n' h1 h2=>?_⟩,hs⟩;rcases Nat.lt_or_ge m' m with h'|h'
     .exact hG m' n' h' h2
     .rw[show m'=m by omega]
      exact hI n' (by omega)
   .conv=>whnf
    repeat'((first|clear U K|apply st|(apply zk;intro K U)|refine zY ?_|(refine zb (fun hc=>?_) (fun hc=>?_)<;>try exact⟨⟩)|fail)<;>conv=>whnf)
    have hrow: ∀r∈Q,(FB p.methods.length r).ok Z:=fun r hr=>hs.oks (.tail _ (.tail _ (.tail _ (Ov _ (Il.2 ⟨r,hr,rfl⟩)))))
    refine nM (vG (hs.oks (.tail _ (.tail _ (.head _)))) hrow) ⟨[],⟨rfl,_,rfl,?_,fun x hx y hy hal=>?_⟩,Sat.nil⟩
    .have hlT:(K7 Q).length=p.methods.length:=by rw[K7,B9];exact hlQ
     refine⟨by omega,fun r hr=>?_,fun x hx=>?_,hl16⟩
     .obtain⟨q,hq,rfl⟩:=Il.1 hr
      rw[hlT];exact hQ.row q hq
     .have:=hin x hx
      simp only[BN,A9,Cp]at this;rw[hlT];omega
    .have mx:=hin x hx
     have my:=hin y hy;simp only[BN,A9,Cp]at mx my
     have hal2:Dr p y x=true:=by
      simp only[Dr,A9,C0]at hal ⊢;exact⟨hal.1.symm,hal.2.symm⟩
     obtain⟨a,ha,rfl⟩:=List.getElem_of_mem hx;obtain⟨b,hb,rfl⟩:=List.getElem_of_mem hy;have e1:l.getD a 0=l[a]:=CU (Cs ha);have e2:l.getD b 0=l[b]:=CU (Cs hb);have h1:=hE a b (by omega) hb;have h2:=hE b a (by omega) ha;rw[e1,e2]at h1 h2;have h3:=hG l[a].toNat l[b].toNat (by omega) (by omega);rw[Int.toNat_of_nonneg mx.1,Int.toNat_of_nonneg my.1,h1 hal,h2 hal2]at h3;exact h3
end Go.Gl
namespace Go.Gl
open Go.Proofs
attribute [local irreducible] Au Am Ae AR AK AY AQ AS AJ AX AM AO Ao A0 Sat AU Ay Af W
def MA {f g:Nat->Bool}: ∀ {l:List Nat},(∀x∈l,f x=g x)->l.all f=l.all g
 | [],_=>rfl
 | x::r,h=>by rw[K5,K5,h x (.head _),MA fun y hy=>h y (.tail _ hy)]
def ZM {A B:Int->Int->Bool} {l:List Int} (h: ∀x∈l,∀y∈l,A x y=B x y) {i:Nat} (hi:i<l.length):Ha A l i l.length=Ha B l i l.length:=by
 rw[Ha,Ha];refine MA fun k hk=>?_
 rw[h _ (EL hi) _ (EL (List.mem_range.1 hk))]
def find_congr {f g:Nat->Bool}: ∀ {l:List Nat},(∀x∈l,f x=g x)->l.find? f=l.find? g
 | [],_=>rfl
 | x::r,h=>by
   rw[List.find?_cons,List.find?_cons,h x (.head _),find_congr fun y hy=>h y (.tail _ hy)]
def Vm {A B:Int->Int->Bool} {l:List Int} (h: ∀x∈l,∀y∈l,A x y=B x y):Ep A l=Ep B l:=
 find_congr fun i hi=>ZM h (List.mem_range.1 hi)
def Nd {A B:Int->Int->Bool}: ∀(k:Nat) (l:List Int),(∀x∈l,∀y∈l,A x y=B x y)->Bf A k l=Bf B k l
 | 0,_,_=>rfl
 | k + 1,l,h=>by
   rw[Bf,Bf,Vm h];cases Ep B l with
   | none=>rfl
   | some i=>
     dsimp only;rw[Nd k (l.eraseIdx i) fun x hx y hy=>h x (List.mem_of_mem_eraseIdx hx) y (List.mem_of_mem_eraseIdx hy)]
def Ze {A B:Int->Int->Bool} {l:List Int} (h: ∀x∈l,∀y∈l,A x y=B x y):Ns A l=Ns B l:=
 find_congr fun i hi=>by
  rw[LZ,LZ];refine MA fun k hk=>?_
  rw[h _ (EL (List.mem_range.1 hk)) _ (EL (List.mem_range.1 hi))]
def SM {A B:Int->Int->Bool}: ∀(k:Nat) (l:List Int),(∀x∈l,∀y∈l,A x y=B x y)->DN A k l=DN B k l
 | 0,_,_=>rfl
 | k+1,l,h=>by
   rw[DN,DN,Ze h,SM k (l.eraseIdx _) fun x hx y hy=>h x (List.mem_of_mem_eraseIdx hx) y (List.mem_of_mem_eraseIdx hy)]
def Q7 {x y:Int} {out:List Int}:y∈Hc x out↔y=x\/y∈out:=by
 have h:=List.takeWhile_append_dropWhile (p:=fun y=>decide (y<x)) (l:=out);rw[Hc];constructor
 .intro hy
  rcases Dy.1 hy with hy|hy
  .right;rw[<-h];exact Pk _ hy
  .rcases GM.1 hy with rfl|hy
   .exact .inl rfl
   .right;rw[<-h];exact Ov _ hy
 .rintro(rfl|hy)
  .exact Ov _ (.head _)
  .rw[<-h]at hy
   rcases Dy.1 hy with hy|hy
   .exact Pk _ hy
   .exact Ov _ (.tail _ hy)
def R9: ∀(l out:List Int) (y:Int),y∈l.foldl (fun out x=>Hc x out) out↔y∈l\/y∈out
 | [],out,y=>by simp
 | x ::r,out,y=>by
   rw[List.foldl_cons,R9 r,Q7,GM];constructor
   .rintro(h|h|h)
    .exact .inl (.inr h)
    .exact .inl (.inl h)
    .exact .inr h
   .rintro((h|h)|h)
    .exact .inr (.inl h)
    .exact .inl h
    .exact .inr (.inr h)
def Kp {l:List Int} {y:Int}:y∈Cy l↔y∈l:=by rw[Cy,R9];simp
def SA: ∀(l out:List Int),(l.foldl (fun out x=>Hc x out) out).length=l.length+out.length
 | [],out=>by simp
 | x::r,out=>by rw[List.foldl_cons,SA r,ND,LF];omega
def TJ (l:List Int):(Cy l).length=l.length:=by rw[Cy,SA];simp
structure Uj (p:Prog) (l:List Int):Prop where
 F6: ∀x∈l,BN p x=true
 alike: ∀x∈l,∀y∈l,Dr p x y=true
 many:l.length<=16
def nc (p:Prog) (l:List Int) (kd:Bool) (x:Int):Bool:=BN p x&&((Be p x).gen==(Be p (l.getD 0 0)).gen&&(!kd||Dr p x (l.getD 0 0)))
def GQ (p:Prog) (l:List Int) (kd:Bool):Bool:=l.all (nc p l kd)&&decide l.Nodup
def eW {p:Prog} {l:List Int} {kd:Bool} {i:Nat} {x:Int} (hx:l[i]? =some x) (h:nc p l kd x=false):GQ p l kd=false:=by
 rw[GQ,Bool.and_eq_false_iff];left;rw[<-Bool.not_eq_true,EG];intro h2;rw[h2 x (Bp hx)]at h;cases h
def eV {p:Prog} {l:List Int} {kd:Bool} {i k:Nat} {x:Int} (hx:l[i]? =some x) (hk:l[k]? =some x) (h:k<i):GQ p l kd=false:=by
 rw[GQ,Bool.and_eq_false_iff];right;rw[decide_eq_false_iff_not];intro h2;have hi:=(JL.1 hx)
 have hj:=(JL.1 hk)
 have:=(List.nodup_iff_pairwise_ne.1 h2)
 rw[List.pairwise_iff_getElem]at this;exact this k i hj.1 hi.1 h (by rw[hj.2,hi.2])
def Zd {l:List Int} {i:Nat} {x:Int} (hx:l[i]? =some x) (h:(l.take i).Nodup) (hn: ∀k y,k<i->l[k]? =some y->y≠x):(l.take (i+1)).Nodup:=by
 rw[AN hx,List.nodup_append];refine⟨h,by simp,fun a ha b hb=>?_⟩;rw[KV.1 hb];obtain⟨k,hk⟩:=List.getElem?_of_mem ha;rw[List.getElem?_take]at hk;split at hk
 .exact hn k a (by assumption) hk
 .cases hk
def Q1: ∀(n:Nat) (l:List Int),l.Nodup->(∀x∈l,0<=x/\x<(n:Int))->l.length<=n
 | 0,l,_,h=>by
   cases l with
   | nil=>simp
   | cons x r=>have:=h x (.head _);omega
 | n + 1,l,hn,h=>by
   have h1:=Q1 n (l.erase (n:Int)) (hn.erase _) fun x hx=>by
    have hm:=(List.Nodup.mem_erase_iff hn).1 hx;have:=h x hm.2;have:=hm.1;omega
   have h2:=List.length_erase (a:=(n:Int)) (l:=l);split at h2<;>omega
abbrev pI (p:Int×Int):List V:=[eI p.1,eI p.2]
abbrev pP (l:List (Int×Int)):List (List V):=l.map pI
def Yj (p:Prog) (g:Int):Bool:=decide (0<=g)&&decide (g<(p.Dx.length:Int))
def AA6 (p:Prog) (g:Int):Pure zP 87 [.a (BG p),eI g] (.b (Yj p g)):=by
 refine Pure.fit (by kernel_rfl) fun hf=>?_
 have⟨p1,p2,p3,p4⟩:=Gn hf.1;refine ABF kZ ?_;have hs:=Sn
 conv=>whnf
 repeat'((first|clear U K|apply st|(apply zk;intro K U)|refine zY ?_|refine za (fun hc=>?_) fun hc=>?_|fail)<;>conv=>whnf)
 all_goals exact AH (by simp[Yj, *]<;>omega)
abbrev Ob:=Int×List (Int×Int)
abbrev eOb (o:Ob):List V:=[eI o.1,.l (pP o.2) false]
end Go.Gl
namespace Go.Gl
open Go.Proofs
section
variable {H:Type} {enc:TypeId×Value->H} {W:World}
end
structure Giv where
 p:Prog
 gen:Int
 ms:List Int
 cl:List Int
 st:Int
abbrev Yn (g:Giv):List V:=BG g.p++([eI g.gen]++([.l (iL g.ms) false]++([.l (iL g.cl) false]++([eI g.st]++[]))))
section
variable {H:Type} {enc:TypeId×Value->H} {W:World}
def AAe : Vx enc Tryz.prog W 30 Yn:=fun n=>
 Iv (Ge Tryz.underlying30
  (fun n=>BT (c:=6) rfl (by kernel_rfl) (fun _=>rfl) (tv n)
   (BT (c:=1) rfl (by kernel_rfl) (fun _=>rfl) (PT n) (BT (c:=1) rfl (by kernel_rfl) (fun _=>rfl) (QV n)
    (BT (c:=1) rfl (by kernel_rfl) (fun _=>rfl) (QV n) (BT (c:=1) rfl (by kernel_rfl) (fun _=>rfl) (Qh Tryz.underlying28 n) Iw))))) (fun _=>(show _=10 from rfl).trans (by kernel_rfl)) n) (fun x=>⟨x.1,x.2.1,x.2.2.1,x.2.2.2.1,x.2.2.2.2.1⟩) fun _=>rfl
end
end Go.Gl
