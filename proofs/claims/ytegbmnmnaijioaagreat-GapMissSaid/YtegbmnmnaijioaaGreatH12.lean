import Derived.Test.YtegbmnmnaijioaaGreatH11
set_option linter.all false
set_option linter.defProp false
noncomputable section
namespace Go.Gl
open Go.Proofs
attribute [local irreducible] A7 Ap Af AT AM Ae AS AU AL Ad AO AP Aw A1 Sat AX Az Ah W
def HW {σ:AH} {X:List At} {L:Nat} {pre post:List DJ} {e:DJ} (h:Sat σ (X++CJ L (pre++e::post))):Sat σ (.box e.b [eI e.k.low,eI e.k.high,e.vn,eU e.k.Ch,eU e.k.Gt,.b e.k.whole,.b e.k.A6,e.vs]:: .own e.vn 1 (iL e.k.no):: .own e.vs 1 (iL e.k.AK)::(X++HU L (pre++e::post) pre post)):=by
 have h2:Sat σ (U2 e++(X++HU L (pre++e::post) pre post)):=h.perm ((List.Perm.append_left X (Vw L pre post e)).trans (by rw[←W5,←W5];exact UB.append_right _));exact h2
def Ec {σ:AH} {X:List At} {L:Nat} {pre post:List DJ} {e e':DJ} (h1:e'.a=e.a) (h2:e'.p=e.p) (h3:e'.b=e.b) (h:Sat σ (U2 e'++(X++HU L (pre++e::post) pre post))):Sat σ (X++CJ L (pre++e'::post)):=by
 rw[←Ty h1 h2 h3]at h;exact h.perm ((List.Perm.append_left X (Vw L pre post e')).trans (by rw[←W5,←W5];exact UB.append_right _)).symm
def LB {α:Type} (a b c:α) (l:List α):(a::b::c::l).Perm (b::c::a::l):=(List.Perm.swap _ _ _).trans (.cons _ (.swap _ _ _))
def M8 {α:Type} (a:α) (l:List α):(a::l).Perm (l++[a]):=(List.perm_append_singleton a l).symm
def oQ (m:Nat) (k:Kn):Prop:=k.Ch<18446744073709551616∧k.Gt<18446744073709551616∧k.no.length≤m∧k.AK.length≤m
def mZ (f:Fact) (c:Bool) (j:Nat) (a:Int) (p:List Int) (k:Kn):(Dr f c j a p k).Ch=k.Ch:=by unfold Dr;(repeat' split)<;>rfl
def ry (f:Fact) (c:Bool) (j:Nat) (a:Int) (p:List Int) (k:Kn):(Dr f c j a p k).Gt=k.Gt:=by unfold Dr;(repeat' split)<;>rfl
def xX (f:Fact) (c:Bool) (j:Nat) (a:Int) (p:List Int) (k:Kn):(Dr f c j a p k).no=k.no:=by unfold Dr;(repeat' split)<;>rfl
def jJ (f:Fact) (c:Bool) (j:Nat) (a:Int) (p:List Int) (k:Kn):(Dr f c j a p k).AK.length≤k.AK.length+1:=by
 unfold Dr
 repeat' split
 ·exact SU _ _
 all_goals simp[Dx]
def xW {m:Nat} {k:Kn} (h:oQ m k) (f:Fact) (c:Bool) (j:Nat) (a:Int) (p:List Int):oQ (m+1) (Dr f c j a p k):=by
 obtain⟨h1,h2,h3,h4⟩:=h;refine⟨by rw[mZ];exact h1,by rw[ry];exact h2,by rw[xX];omega,?_⟩;have:=jJ f c j a p k;omega
def Rt {k:Kn} (c:Bool) (h:k.A6=true):Dx k c= {k with A6:=true}:=by simp[Dx,h]
def QH {k:Kn} (c:Bool) (h:k.A6=false):Dx k c= {k with A6:= !c}:=by simp[Dx,h]
abbrev K2 (a:Int) (p:List Int):List V:=[eI a,eI (p.length:Int),eI (p.getD 0 0),eI (p.getD 1 0)]
structure fF (f:Fact):Prop where
 op:f.op=2∨f.op=3∨f.op=4
 path:f.path.length≤2
 cls:f.op=2→0≤f.cls∧f.cls<64
 n: -1000000000≤f.n∧f.n≤1000000000
set_option maxHeartbeats 2000000 in
def oK (w : AJ) (us:List Nat) {kf:Int→List Int→Kn} {L:Nat} {es:List DJ} (h:EB kf es) (f:Fact) (c:Bool) (hl:fF f) {m:Nat} (hm:m<1000) (hb: ∀a p,oQ m (kf a p)) :
    B3 Tryz.prog 193 [UP w us L,.a (xF f++[.b c])] (CJ L es) fun r post=>r= .ret (.t [])∧ ∃es',EB (fun a p=>if a=f.arg∧p=f.path then C2 (Dr f c f.path.length a p (kf a p)) f c else Dr f c f.path.length a p (kf a p)) es'∧post=CJ L es':=by
 intro σ hs;have hM:=Mx;obtain⟨l1,l2,l3,l4⟩:=hl;refine uQ kZ ?_;rw[show xF f++[V.b c]= [eI f.op,eI f.arg,.l (iL f.path) false,eI f.cls,eI f.n,.l (f.kids.map Fw) false,.b c] from rfl]
 conv=>whnf
 repeat'((first|apply st|(apply sq;intro K U)|(apply si;intro A B Y Z)|(apply Y;clear Z B Y A)|(apply U;clear U K)|refine⟨kZ,?_⟩|refine ld ?_|refine Cg fun σ hs=>?_|(intro nn hnn;generalize hg:A5 _ nn _=σ;refine CN hg fun hs=>?_;clear hg)|fail)<;>conv=>whnf)
 generalize nn=nx at *;refine(LJ w us h (a:=f.arg) (p:=[]) (by simp)).use (rest:=[.box nx (K2 f.arg [])]) (hs.perm (M8 _ _)) ?_;clear hs hnn;rintro r post σ ⟨es1,e1,got,rfl,rfl⟩ hs;have hek:=got.k;obtain⟨hea,hep⟩:=KX.1 got.is;obtain⟨pre,post,rfl⟩:=List.append_of_mem got.mem;replace hs:=HW (X:=[.box nx (K2 f.arg [])]) (hs.perm UB);cases hnd:e1.k.A6<;>rw[hnd]at hs
 all_goals
  conv=>whnf
  repeat'((first|apply st|(apply sq;intro K U)|(apply si;intro A B Y Z)|(apply Y;clear Z B Y A)|(apply U;clear U K)|refine ld ?_|refine Io fun σ hs=>?_|fail)<;>conv=>whnf)
  obtain⟨e2,es2,Y,Z,hC⟩: ∃(e2:DJ) (es2:List DJ),(EB (fun a p=>Dr f c 0 a p (kf a p)) es2∧e2∈es2∧e2.is f.arg (f.path.take 0)=true)∧e2.b=e1.b∧Sat σ (.box nx (K2 f.arg (f.path.take 0))::CJ L es2):=by
   refine⟨⟨e1.a,e1.p,e1.b,e1.vn,e1.vs,Dx e1.k c⟩,_,⟨(got.inv.change e1.b e1.vn e1.vs (Dx e1.k c)).congr fun a p=>?_,UO _ (.head _),got.is⟩,rfl,?_⟩
   ·rw[mX,UU,hea,hep,hek]
    by_cases ha:a=f.arg∧p= []
    ·rw[if_pos ha,if_pos ha,ha.1,ha.2]
    ·rw[if_neg ha,if_neg ha]
   ·refine Ec (X:=[.box nx (K2 f.arg [])]) (e:=e1) rfl rfl rfl ?_
    first
     | (rw[Rt c hnd];exact hs)
     | (rw[QH c hnd];exact hs)
  rw[←Z];clear hs hnd got hek hea hep;refine C3 f.path.length (fun j (x:List DJ×DJ)=>[(31,eI (Bc j)),(5,.p x.2.b 0)]) (fun j x=> .box nx (K2 f.arg (f.path.take j))::CJ L x.1) (fun j x=>EB (fun a p=>Dr f c j a p (kf a p)) x.1∧x.2∈x.1∧x.2.is f.arg (f.path.take j)=true) (es2,e2) rfl Y hC ?_;clear Y hC;generalize e2.b=b0 at *;clear Z e2 es2;rintro j ⟨es2,e2⟩ σ hj ⟨hinv,hmem,his⟩ hs;simp only at hinv hmem his hs
  have hek:e2.k=Dr f c j f.arg (f.path.take j) (kf f.arg (f.path.take j)):=by
   have:=hinv.val e2 hmem;obtain⟨h1,h2⟩:=KX.1 his;rw[this,h1,h2]
  have hok:oQ (m+1) e2.k:=by rw[hek];exact xW (hb _ _) f c j _ _
  obtain⟨hea,hep⟩:=KX.1 his;obtain⟨pre2,post2,rfl⟩:=List.append_of_mem hmem;replace hs:=HW (X:=[.box nx (K2 f.arg (f.path.take j))]) hs;have hck:Bc j=j:=AN (by omega);rcases BU f.path hj with⟨s,hsj,hjlt⟩|hje
  ·have hct:=fun b=>D7 e2.k.AK b s
   have hk4:=hok.2.2.2;have hsl0:kO e2.k s= {e2.k with AK:=JB e2.k.AK s}:=rfl
   have hne:f.path.take j++[s]≠f.path.take j:=by
    intro e;have:=congrArg List.length e;simp at this
   have hgd:f.path.getD j 0=s:=by rw[D9,hsj];rfl
   have htk:f.path.take (j+1)=f.path.take j++[s]:=Aa hsj;cases hcB:e2.k.AK.contains s
   all_goals
    rw[hcB]at hct
    conv=>whnf
    repeat'((first|apply st|(apply sq;intro K U)|(apply si;intro A B Y Z)|(apply Y;clear Z B Y A)|(apply U;clear U K)|refine⟨rfl,?_⟩|refine⟨kZ,?_⟩|refine ix ?_|refine ld ?_|refine Io fun σ hs=>?_|refine Cg fun σ hs=>?_|refine aq fun v σ hs hsl=>?_|refine Iw ?_|refine GS ?_|(refine DR (fun hc=>?_)<;>(try rw[hc])<;>clear hc)|refine Pure.eM (hct false) (.cons (hs.IV 2 rfl) (.cons (.refl _) .nil)) rfl ?_|refine Pure.use (ON f.arg (f.path.take j) s (by rw[Ny];omega)) ?_|fail)<;>conv=>whnf)
   refine(oZ (.inl hsl)).use (rest:=_) (hs.front (j:=2) rfl) ?_;clear hs;rintro r post σ ⟨rfl,rfl⟩ hs;replace hs:Sat σ (.box e2.b [eI e2.k.low,eI e2.k.high,e2.vn,eU e2.k.Ch,eU e2.k.Gt,.b e2.k.whole,.b e2.k.A6,v]:: .own e2.vn 1 (iL e2.k.no):: .own v 1 (iL ((e2.k.AK++[s]).mergeSort OZ))::([.box nx (K2 f.arg (f.path.take j))]++HU L (pre2++e2::post2) pre2 post2)):=hs.perm (LB _ _ _ _)
   conv=>whnf
   repeat'((first|(apply sq;intro K U)|(apply si;intro A B Y Z)|(apply Y;clear Z B Y A)|(apply U;clear U K)|refine⟨kZ,?_⟩|refine ld ?_|refine Cg fun σ hs=>?_|refine Pure.use (ON f.arg (f.path.take j) s (by rw[Ny];omega)) ?_|fail)<;>conv=>whnf)
   have hs3: ∃vs3,Sat σ (.box nx (K2 f.arg (f.path.take j++[s]))::CJ L (pre2++⟨e2.a,e2.p,e2.b,e2.vn,vs3,kO e2.k s⟩::post2)):=⟨v,Ec (X:=[_]) (e:=e2) rfl rfl rfl (by rw[hsl0,JB,if_neg (by rw[hcB];decide)];exact hs)⟩
   rotate_left
   have hs3: ∃vs3,Sat σ (.box nx (K2 f.arg (f.path.take j++[s]))::CJ L (pre2++⟨e2.a,e2.p,e2.b,e2.vn,vs3,kO e2.k s⟩::post2)):=⟨e2.vs,Ec (X:=[_]) (e:=e2) rfl rfl rfl (by rw[hsl0,JB,if_pos hcB];exact hs)⟩
   all_goals
    clear hs;obtain⟨vs3,hs⟩:=hs3;have hinv3:=hinv.change e2.b e2.vn vs3 (kO e2.k s);refine(LJ w us hinv3 (a:=f.arg) (p:=f.path.take j++[s]) (by rw[Qi,Ny];simp;omega)).use (rest:=[.box nx (K2 f.arg (f.path.take j++[s]))]) (hs.perm (M8 _ _)) ?_;clear hs;rintro r post σ ⟨es4,e4,got,rfl,rfl⟩ hs;have hek4:=got.k;obtain⟨hea4,hep4⟩:=KX.1 got.is;obtain⟨pre4,post4,rfl⟩:=List.append_of_mem got.mem;replace hs:=HW (X:=[.box nx (K2 f.arg (f.path.take j++[s]))]) (hs.perm UB);cases hnd:e4.k.A6<;>rw[hnd]at hs
    all_goals
     conv=>whnf
     repeat'((first|apply st|(apply si;intro A B Y Z)|(apply Y;clear Z B Y A)|(apply U;clear U K)|refine⟨rfl,?_⟩|refine ld ?_|refine Io fun σ hs=>?_|clear U K)<;>conv=>whnf)
     refine⟨hjlt,(pre4++⟨e4.a,e4.p,e4.b,e4.vn,e4.vs,Dx e4.k c⟩::post4,⟨e4.a,e4.p,e4.b,e4.vn,e4.vs,Dx e4.k c⟩),rfl,⟨(got.inv.change e4.b e4.vn e4.vs (Dx e4.k c)).congr fun a p=>?_,UO _ (.head _),by rw[htk];exact got.is⟩,?_⟩
     ·rw[mY f c hjlt,UU,hea4,hep4,htk,hgd]
      by_cases h1:a=f.arg∧p=f.path.take j++[s]
      ·rw[if_pos h1,if_pos h1,hek4,UU,hea,hep,if_neg (fun h=>hne h.2),h1.1,h1.2]
      ·rw[if_neg h1,if_neg h1,UU,hea,hep]
       by_cases h2:a=f.arg∧p=f.path.take j
       ·rw[if_pos h2,if_pos h2,hek,h2.1,h2.2]
       ·rw[if_neg h2,if_neg h2]
     ·rw[htk]
      refine Ec (X:=[.box nx (K2 f.arg (f.path.take j++[s]))]) (e:=e4) rfl rfl rfl ?_
      first
       | (rw[Rt c hnd];exact hs)
       | (rw[QH c hnd];exact hs)
  ·have etk:f.path.take j=f.path:=BI hje
   rw[etk]at his hs hek hep
   conv=>whnf
   repeat'((first|apply st|(apply sq;intro K U)|(apply si;intro A B Y Z)|(apply Y;clear Z B Y A)|(apply U;clear U K)|refine⟨rfl,?_⟩|refine⟨kZ,?_⟩|(refine Ew (fun hc=>?_)<;>(try rw[hc])<;>clear hc)|clear U K)<;>conv=>whnf)
   refine(vX f c l1 l3 hok.1 hok.2.1 (by have:=hok.2.2.1;omega) l4).use (rest:=[.box nx (K2 f.arg f.path)]++HU L (pre2++e2::post2) pre2 post2) hs ?_;rintro r post σ ⟨rfl,vn',rfl⟩ hs
   conv=>whnf
   repeat'((first|(apply Y;clear Z B Y A)|fail)<;>conv=>whnf)
   refine AW ⟨_,⟨rfl,_,(hinv.change e2.b vn' e2.vs (C2 e2.k f c)).congr fun a p=>?_,rfl⟩,(Ec (X:=[.box nx (K2 f.arg f.path)]) (e:=e2) (e':=⟨e2.a,e2.p,e2.b,vn',e2.vs,C2 e2.k f c⟩) rfl rfl rfl hs).less (K0 _ _)⟩;rw[UU,hea,hep,hek,←hje];by_cases h1:a=f.arg∧p=f.path
   ·rw[if_pos h1,if_pos h1,h1.1,h1.2]
   ·rw[if_neg h1,if_neg h1]
def ve (w:AJ) (us:List Nat) {kf:Int→List Int→Kn} {L:Nat} {es:List DJ} (h:EB kf es) (l:Fact) (hl:fF (BA l).1) {m:Nat} (hm:m<1000) (hb: ∀a p,oQ m (kf a p)) :
    B3 Tryz.prog 193 [UP w us L,.a (KG l)] (CJ L es) fun r post=>r= .ret (.t [])∧ ∃es',EB (fun a p=>DS a p (kf a p) l) es'∧post=CJ L es':=fun σ hs=>
 A7.mono (oK w us h (BA l).1 (BA l).2 hl hm hb σ hs) fun r σ' ⟨post,⟨h1,es',h2,h3⟩,h4⟩=>⟨post,⟨h1,es',h2.congr fun a p=>(rz a p (kf a p) l).symm,h3⟩,h4⟩
def Xw (ls:List Fact):Prop:= ∀l∈ls,fF (BA l).1
def fq {ls:List Fact} (h:Xw ls) (a:Int) (p:List Int):oQ ls.length (kn ls a p):=by
 have hc:I0 64 ls:=fun l hl ho=>(h l hl).cls ho
 obtain⟨h1,h2⟩:=mb hc a p;obtain⟨h3,h4⟩:=ft a p ls k0;exact⟨by simpa using h1,by simpa using h2,by simpa[kn,k0]using h3,by simpa[kn,k0]using h4⟩
def y5:EB (kn []) []:=⟨fun x hx=>(by cases hx),fun a p _=>rfl,.nil,fun x hx=>(by cases hx)⟩
set_option maxHeartbeats 1000000 in
def iS (w:AJ) (us:List Nat) (ls:List Fact) (b:Bool) (h:Xw ls) (hlen:ls.length<900) :
    B3 Tryz.prog 128 [.rp (wC w us),.l (FN ls) b] [] fun r post=> ∃L es,r= .ret (UP w us L)∧EB (kn ls) es∧post=CJ L es:=by
 intro σ hs;have hM:=Mx;refine vE kZ ?_
 conv=>whnf
 repeat'((first|apply st|(apply sq;intro K U)|(apply si;intro A B Y Z)|(apply Y;clear Z B Y A)|(apply U;clear U K)|(intro nn hnn;generalize hg:A5 _ nn _=σ;refine CN hg fun hs=>?_;clear hg)|fail)<;>conv=>whnf)
 generalize nn=L at *;refine C3 ls.length (fun k (x:List DJ)=>[(14,eI (Bc k))]) (fun k x=>CJ L x) (fun k x=>EB (kn (ls.take k)) x) [] rfl y5 hs ?_;clear hs hnn;rintro k es σ hk hinv hs;rcases BU ls hk with⟨l,hlk,hlt⟩|hke
 ·have hlm:l∈ls:=DL hlk
  have htk:ls.take (k+1)=ls.take k++[l]:=Aa hlk;have hbk: ∀a p,oQ (ls.take k).length (kn (ls.take k) a p):=fq fun x hx=>h x (List.mem_of_mem_take hx)
  conv=>whnf
  repeat'((first|apply st|(apply sq;intro K U)|(apply si;intro A B Y Z)|(apply Y;clear Z B Y A)|(apply U;clear U K)|refine⟨rfl,?_⟩|refine⟨kZ,?_⟩|refine ix ?_|refine ld ?_|refine Cg fun σ hs=>?_|(refine DR (fun hc=>?_)<;>(try rw[hc])<;>clear hc)|(intro nn hnn;generalize hg:A5 _ nn _=σ;refine CN hg fun hs=>?_;clear hg)|fail)<;>conv=>whnf)
  rename_i nb hnb _ hs;generalize nn=n7 at *;refine(ve w us hinv l (h l hlm) (m:=(ls.take k).length) (by rw[Ny];omega) hbk).use (rest:=[.box n7 (KG l)]) (hs.perm (M8 _ _)) ?_;clear hs;rintro r post σ ⟨rfl,es',hinv',rfl⟩ hs
  conv=>whnf
  repeat'((first|(apply si;intro A B Y Z)|(apply Y;clear Z B Y A)|(apply U;clear U K)|refine⟨rfl,?_⟩|clear U K)<;>conv=>whnf)
  refine⟨hlt,es',rfl,?_,hs.less (List.sublist_append_left _ _)⟩;rw[htk];exact hinv'.congr fun a p=>(ma _ _ _ _).symm
 ·have etk:ls.take k=ls:=BI hke
  rw[etk]at hinv
  conv=>whnf
  repeat'((first|apply st|(apply sq;intro K U)|(apply si;intro A B Y Z)|(apply Y;clear Z B Y A)|(apply U;clear U K)|refine⟨rfl,?_⟩|(refine Ew (fun hc=>?_)<;>(try rw[hc])<;>clear hc)|clear U K)<;>conv=>whnf)
  exact AW ⟨_,⟨L,es,rfl,hinv,rfl⟩,hs⟩
structure JC (w:AJ) (kf:Int→List Int→Kn):Prop where
 ok: ∀a p,oQ 1000 (kf a p)
 low: ∀a p,-1000000000≤(kf a p).low∧(kf a p).low≤1000000000
 short: ∀a p,2≤p.length→(kf a p).AK= []
 AK: ∀a p,∀s∈(kf a p).AK,0≤s∧s<w.owner.length
abbrev Hx (L:Nat) (pre post:List DJ) (e:DJ) (s:List DJ):List At:=
 .box e.b [eI e.k.low,eI e.k.high,e.vn,eU e.k.Ch,eU e.k.Gt,.b e.k.whole,.b e.k.A6,e.vs]:: .own e.vn 1 (iL e.k.no)::HU L (pre++e::(post++s)) pre (post++s)
def wU {σ:AH} {L:Nat} {pre post:List DJ} {e:DJ} {s:List DJ} (h:Sat σ (CJ L (pre++e::(post++s)))):Sat σ (.own e.vs 1 (iL e.k.AK)::Hx L pre post e s):=
 (HW (X:=[]) h).perm ((LB _ _ _ _).symm)
def qF {σ:AH} {L:Nat} {pre post:List DJ} {e:DJ} {s:List DJ} (h:Sat σ (.own e.vs 1 (iL e.k.AK)::Hx L pre post e s)):Sat σ (CJ L (pre++e::(post++s))):=
 Ec (X:=[]) (e:=e) (e':=e) rfl rfl rfl (h.perm (LB _ _ _ _))
def Ow (kf:Int→List Int→Kn) (L:Nat) (es:List DJ) (post:List At):Prop:= ∃es',Qu es es'∧EB kf es'∧post=CJ L es'
def nQ (w:AJ) (us:List Nat) {kf:Int→List Int→Kn} {L:Nat} {pre post:List DJ} {e:DJ} {a:Int} {p:List Int} (hp:p.length<2) :
    Na Tryz.prog (.f (.func 350) [] [.rp [UP w us L],.rp (K2 a p)]) eI (fun s=> .own e.vs 1 (iL e.k.AK)::Hx L pre post e s) (fun y=> !(kf a (p++[y])).A6) (fun s=>EB kf (pre++e::(post++s))∧ ∀x∈s,x.k=k0) (fun _=>True):=by
 rintro y s - ⟨hj,hj0⟩ σ hs;refine Bg ?_;show A7 Tryz.prog 350 ([]++[eI y]++[.rp [UP w us L],.rp (K2 a p)]) σ _;refine sc kZ ?_
 conv=>whnf
 repeat'((first|apply st|(apply sq;intro K U)|(apply si;intro A B Y Z)|(apply Y;clear Z B Y A)|(apply U;clear U K)|apply dr|refine rk ?_ ?_|exact fun s e=>by cases e;rfl|refine⟨kZ,?_⟩|refine Pure.use (ON a p y hp) ?_|fail)<;>conv=>whnf)
 refine(LJ w us hj (a:=a) (p:=p++[y]) (by simp;omega)).use (rest:=[]) (by simpa using qF hs) ?_;clear hs;rintro r post' σ ⟨es4,e4,got,rfl,rfl⟩ hs;have hek4:=got.k;obtain⟨new,he4,hnew⟩:=got.ext;have hinv:=got.inv;obtain⟨pre4,post4,he5⟩:=List.append_of_mem got.mem;rw[KD,he5]at hs;replace hs:=HW (X:=[]) hs
 conv=>whnf
 repeat'((first|apply st|(apply Y;clear Z B Y A)|(apply U;clear U K)|apply dr|refine ld ?_|fail)<;>conv=>whnf)
 refine AW ⟨by rw[hek4],s++new,⟨?_,fun x hx=>?_⟩,?_⟩
 ·rw[he4]at hinv
  simpa using hinv
 ·rcases FK.1 hx with hx|hx
  ·exact hj0 x hx
  ·exact hnew x hx
 ·have h2:=Ec (X:=[]) (e:=e4) (e':=e4) rfl rfl rfl hs
  rw[←he5,he4]at h2;refine wU ?_;simpa using h2
def nR (w:AJ) (us:List Nat) {kf:Int→List Int→Kn} (hr:JC w kf) {L:Nat} {es:List DJ} (h:EB kf es) {a:Int} {p:List Int} (hp:p.length≤2) :
    B3 Tryz.prog 316 [UP w us L,Ek a p] (CJ L es) fun r post=>r= .ret (.b (Oy kf a p))∧Ow kf L es post:=by
 intro σ hs;have hM:=Mx;refine s5 kZ ?_
 conv=>whnf
 repeat'((first|apply st|(apply sq;intro K U)|(apply si;intro A B Y Z)|(apply Y;clear Z B Y A)|(apply U;clear U K)|refine⟨kZ,?_⟩|fail)<;>conv=>whnf)
 refine(LJ w us h (a:=a) (p:=p) hp).use (rest:=[]) (by simpa using hs) ?_;clear hs;rintro r post σ ⟨es4,e4,got,rfl,rfl⟩ hs;have hek:=got.k;obtain⟨pre,post,rfl⟩:=List.append_of_mem got.mem;rw[KD]at hs;replace hs:=HW (X:=[]) hs;have hsl:=(hr.ok a p).2.2.2;have hsh:=hr.short a p;rw[←hek]at hsl hsh
 have hst:p.length<2∨e4.k.AK= []:=by
  rcases Nat.lt_or_ge p.length 2 with h'|h'
  ·exact .inl h'
  ·exact .inr (hsh h')
 have hE:Oy kf a p=e4.k.AK.all fun y=> !(kf a (p++[y])).A6:=by rw[Oy,hek]
 conv=>whnf
 repeat'((first|refine ld ?_|fail)<;>conv=>whnf)
 have hall:B3 Tryz.prog 246 [e4.vs,.f (.func 350) [] [.rp [UP w us L],.rp (K2 a p)]] (.own e4.vs 1 (iL e4.k.AK)::Hx L pre post e4 []) fun r post'=>r= .ret (.b (e4.k.AK.all fun y=> !(kf a (p++[y])).A6))∧ ∃s',(EB kf (pre++e4::(post++s'))∧ ∀x∈s',x.k=k0)∧post'= .own e4.vs 1 (iL e4.k.AK)::Hx L pre post e4 s':=by
  rcases hst with h'|h'
  ·exact aY 350 [] [.rp [UP w us L],.rp (K2 a p)] (Hx L pre post e4) _ _ _ (nQ w us h') (fun _ _=>trivial) (by omega) [] ⟨by simpa using got.inv,by simp⟩
  ·exact aY 350 [] [.rp [UP w us L],.rp (K2 a p)] (Hx L pre post e4) _ _ (fun _=>False) (fun y s hf=>hf.elim) (fun x hx=>by rw[h']at hx;cases hx) (by omega) [] ⟨by simpa using got.inv,by simp⟩
 refine hall.use (rest:=[]) (by
  have h2:=wU (L:=L) (pre:=pre) (post:=post) (e:=e4) (s:=[]) (by simpa using Ec (X:=[]) (e:=e4) (e':=e4) rfl rfl rfl hs)
  simpa using h2) ?_
 clear hs;rintro r post' σ ⟨rfl,s',⟨hi,hn⟩,rfl⟩ hs
 conv=>whnf
 repeat'((first|apply st|(apply Y;clear Z B Y A)|(apply U;clear U K)|fail)<;>conv=>whnf)
 refine AW ⟨_,⟨by rw[hE],pre++e4::(post++s'),got.ext.trans ⟨s',by simp,hn⟩,hi,rfl⟩,qF (by simpa using hs)⟩
def kF {m u:Nat} (hm:m<18446744073709551616):(On m u=0)↔Qs m u=true:=by
 rw[PT (by simpa using hm)];constructor
 ·intro h b hb
  have hlt:b<64:=by
   rcases Nat.lt_or_ge b 64 with h'|h'
   ·exact h'
   ·rw[Nat.testBit_lt_two_pow (Nat.lt_of_lt_of_le hm (by simpa using Nat.pow_le_pow_right (n:=2) (by decide) h'))]at hb;cases hb
  have:=Ps (a:=m) (b:=u) hlt;rw[h,Nat.zero_testBit,hb]at this;simpa using this
 ·intro h
  refine Nat.eq_of_testBit_eq fun i=>?_
  rw[Nat.zero_testBit];rcases Nat.lt_or_ge i 64 with hlt|hge
  ·rw[Ps hlt]
   cases hb:m.testBit i with
   | false=>rfl
   | true=>rw[h i hb];rfl
  ·exact Nat.testBit_lt_two_pow (Nat.lt_of_lt_of_le (Tt _ _) (by simpa using Nat.pow_le_pow_right (n:=2) (by decide) hge))
def Ve (w:AJ) (us:List Nat) {kf:Int→List Int→Kn} (hr:JC w kf) {L:Nat} {es:List DJ} (h:EB kf es) {a:Int} {p:List Int} (hp:p.length≤2) (c:Nat) (hc:c<64) :
    B3 Tryz.prog 270 [UP w us L,Ek a p,eI c] (CJ L es) fun r post=>r= .ret (.b (H2 kf a p c))∧Ow kf L es post:=by
 intro σ hs;refine tZ kZ ?_
 conv=>whnf
 repeat'((first|apply st|(apply sq;intro K U)|(apply si;intro A B Y Z)|(apply Y;clear Z B Y A)|(apply U;clear U K)|refine⟨kZ,?_⟩|fail)<;>conv=>whnf)
 refine(LJ w us h (a:=a) (p:=p) hp).use (rest:=[]) (by simpa using hs) ?_;clear hs;rintro r post σ ⟨es4,e4,got,rfl,rfl⟩ hs;have hek:=got.k;obtain⟨pre,post,rfl⟩:=List.append_of_mem got.mem;rw[KD]at hs;replace hs:=HW (X:=[]) hs;have hok:=hr.ok a p;rw[←hek]at hok;have hu:1|||2 ^ c<18446744073709551616:=LC (by decide) (KO hc)
 have hb1:bits .andNot .u64 (e4.k.Ch:Int) ((1|||2 ^ c:Nat):Int)=((On e4.k.Ch (1|||2 ^ c):Nat):Int):=SL;have hb2:bits .and .u64 (e4.k.Gt:Int) ((1|||2 ^ c:Nat):Int)=((e4.k.Gt&&&(1|||2 ^ c):Nat):Int):=Lu hok.2.1 hu;have hb3:=kF (u:=1|||2 ^ c) hok.1;have F:H2 kf a p c=(Qs e4.k.Ch (1|||2 ^ c)&&(e4.k.Gt&&&(1|||2 ^ c)==0&&Oy kf a p)):=by rw[H2,hek]
 conv=>whnf
 repeat'((first|apply st|(apply sq;intro K U)|(apply si;intro A B Y Z)|(apply Y;clear Z B Y A)|(apply U;clear U K)|refine⟨rfl,?_⟩|refine⟨kZ,?_⟩|refine ld ?_|refine Pure.use (ZJ 1 c (by decide) hc) ?_|(constructor<;>intro hc<;>(try rw[hc])<;>(replace hc:=bp hc))|fail)<;>conv=>whnf)
 ·have h1:Qs e4.k.Ch (1|||2 ^ c)=true:=hb3.1 (by omega)
  have h2:(e4.k.Gt&&&(1|||2 ^ c)==0)=true:=by rw[DK];omega
  refine(nR w us hr got.inv hp).use (rest:=[]) (by simpa using Ec (X:=[]) (e:=e4) (e':=e4) rfl rfl rfl hs) ?_;clear hs;rintro r post' σ ⟨rfl,es5,hx,hi,rfl⟩ hs
  conv=>whnf
  repeat'((first|apply st|(apply Y;clear Z B Y A)|(apply U;clear U K)|fail)<;>conv=>whnf)
  exact AW ⟨_,⟨by rw[F,h1,h2];rfl,es5,got.ext.trans hx,hi,rfl⟩,by simpa using hs⟩
 ·have h2:(e4.k.Gt&&&(1|||2 ^ c)==0)=false:=by rw[beq_eq_false_iff_ne];omega
  exact AW ⟨_,⟨by rw[F,h2];simp,_,got.ext,got.inv,rfl⟩,by simpa using Ec (X:=[]) (e:=e4) (e':=e4) rfl rfl rfl hs⟩
 ·have h1:Qs e4.k.Ch (1|||2 ^ c)=false:=by
   rw[←Bool.not_eq_true,←hb3];omega
  exact AW ⟨_,⟨by rw[F,h1];simp,_,got.ext,got.inv,rfl⟩,by simpa using Ec (X:=[]) (e:=e4) (e':=e4) rfl rfl rfl hs⟩
def QP (w:AJ) (us:List Nat) {kf:Int→List Int→Kn} (hr:JC w kf) {L:Nat} {es:List DJ} (h:EB kf es) {a:Int} {p:List Int} (hp:p.length≤2) :
    B3 Tryz.prog 194 [UP w us L,Ek a p] (CJ L es) fun r post=>r= .ret (.t [eI (KU (kf a p)),.b (Sl kf a p)])∧Ow kf L es post:=by
 intro σ hs;have hM:=Mx;refine uP kZ ?_
 conv=>whnf
 repeat'((first|apply st|(apply sq;intro K U)|(apply si;intro A B Y Z)|(apply Y;clear Z B Y A)|(apply U;clear U K)|refine⟨kZ,?_⟩|fail)<;>conv=>whnf)
 refine(LJ w us h (a:=a) (p:=p) hp).use (rest:=[]) (by simpa using hs) ?_;clear hs;rintro r post σ ⟨es4,e4,got,rfl,rfl⟩ hs;have hek:=got.k;obtain⟨pre,post,rfl⟩:=List.append_of_mem got.mem;rw[KD]at hs;replace hs:=HW (X:=[]) hs;have hok:=hr.ok a p;have hlo:=hr.low a p;rw[←hek]at hok hlo;have hno:=hok.2.2.1;have hle:=Z3 e4.k.no e4.k.low;have hL:KU (kf a p)=HM e4.k.no (from_ e4.k.no e4.k.low) e4.k.low:=by rw[KU,←hek];exact aZ hle (Ht _)
 conv=>whnf
 repeat'((first|apply st|(apply sq;intro K U)|(apply si;intro A B Y Z)|(apply Y;clear Z B Y A)|(apply U;clear U K)|refine ld ?_|fail)<;>conv=>whnf)
 refine KI (fun n:Int=>from_ e4.k.no n) (fun n=>[(7,eI n)]) (fun _=> .box e4.b [eI e4.k.low,eI e4.k.high,e4.vn,eU e4.k.Ch,eU e4.k.Gt,.b e4.k.whole,.b e4.k.A6,e4.vs]:: .own e4.vn 1 (iL e4.k.no):: .own e4.vs 1 (iL e4.k.AK)::([]++HU L (pre++e4::post) pre post)) (fun n=> -1000000000≤n∧n+from_ e4.k.no n≤1000001000∧KU (kf a p)=HM e4.k.no (from_ e4.k.no n) n) e4.k.low rfl ⟨by omega,by omega,hL⟩ hs ?_;clear hs hL hle;rintro n σ ⟨hn0,hn1,hL⟩ hs;have hct2:=fun b=>D7 e4.k.no b n
 cases hcB:e4.k.no.contains n<;>rw[hcB]at hct2
 ·have hout:n∉e4.k.no:=by simpa using hcB
  rw[oH hout]at hL;have hI:Sl kf a p=(decide (n≤e4.k.high)&&H2 kf a p 1):=by rw[Sl,hL,hek]
  conv=>whnf
  repeat'((first|apply st|(apply sq;intro K U)|(apply si;intro A B Y Z)|(apply Y;clear Z B Y A)|(apply U;clear U K)|refine⟨rfl,?_⟩|refine⟨kZ,?_⟩|refine ld ?_|refine Pure.eM (hct2 false) (.cons (hs.IV 1 rfl) (.cons (.refl _) .nil)) rfl ?_|(constructor<;>intro hc<;>(try rw[hc])<;>(replace hc:=bp hc))|clear U K)<;>conv=>whnf)
  all_goals
   have hsc:Sat σ (CJ L (pre++e4::post)):=by simpa using Ec (X:=[]) (e:=e4) (e':=e4) rfl rfl rfl hs
  ·refine(Ve w us hr got.inv hp 1 (by decide)).use (rest:=[]) (by simpa using hsc) ?_
   clear hs hsc;rintro r post' σ ⟨rfl,es5,hx,hi,rfl⟩ hs
   conv=>whnf
   repeat'((first|apply st|(apply Y;clear Z B Y A)|(apply U;clear U K)|fail)<;>conv=>whnf)
   exact AW ⟨_,⟨by rw[hL,hI,decide_eq_true (by assumption)];rfl,es5,got.ext.trans hx,hi,rfl⟩,by simpa using hs⟩
  ·exact AW ⟨_,⟨by rw[hL,hI,decide_eq_false (by omega)];rfl,_,got.ext,got.inv,rfl⟩,hsc⟩
 ·have hin:n∈e4.k.no:=by simpa using hcB
  have hlt:=Tj hin;have hwr:IntKind.i64.wrap (n+1)=n+1:=wrap64 (by omega) (by omega);obtain⟨m,hm⟩: ∃m,from_ e4.k.no n=m+1:=⟨from_ e4.k.no n - 1,by omega⟩
  have hL2:KU (kf a p)=HM e4.k.no (from_ e4.k.no (n+1)) (n+1):=by rw[hL,hm,vd hin];exact aZ (by omega) (Ht _)
  conv=>whnf
  repeat'((first|apply st|(apply sq;intro K U)|(apply si;intro A B Y Z)|(apply Y;clear Z B Y A)|(apply U;clear U K)|refine⟨rfl,?_⟩|refine ld ?_|refine Pure.eM (hct2 false) (.cons (hs.IV 1 rfl) (.cons (.refl _) .nil)) rfl ?_|clear U K)<;>conv=>whnf)
  exact⟨n+1,hlt,by rw[hwr];rfl,⟨by omega,by omega,hL2⟩,hs⟩
def Zl (w:AJ) (us:List Nat) {kf:Int→List Int→Kn} (hr:JC w kf) {L:Nat} {es:List DJ} (h:EB kf es) {a:Int} {p:List Int} (hp:p.length≤2) :
    B3 Tryz.prog 195 [UP w us L,Ek a p] (CJ L es) fun r post=>r= .ret (.b (LD kf a p))∧Ow kf L es post:=by
 intro σ hs;refine uO kZ ?_
 conv=>whnf
 repeat'((first|apply st|(apply sq;intro K U)|(apply si;intro A B Y Z)|(apply Y;clear Z B Y A)|(apply U;clear U K)|refine⟨kZ,?_⟩|fail)<;>conv=>whnf)
 refine(LJ w us h (a:=a) (p:=p) hp).use (rest:=[]) (by simpa using hs) ?_;clear hs;rintro r post σ ⟨es4,e4,got,rfl,rfl⟩ hs;have hek:=got.k;obtain⟨pre,post,rfl⟩:=List.append_of_mem got.mem;rw[KD]at hs;have hsc:=hs;replace hs:=HW (X:=[]) hs;have hN:LD kf a p=(!e4.k.whole&&H2 kf a p 2):=by rw[LD,hek]
 cases hw:e4.k.whole<;>rw[hw]at hs hN
 ·conv=>whnf
  repeat'((first|apply st|refine⟨kZ,?_⟩|refine ld ?_|refine Iw ?_|fail)<;>conv=>whnf)
  refine(Ve w us hr got.inv hp 2 (by decide)).use (rest:=[]) (by simpa using hsc) ?_;clear hs hsc;rintro r post' σ ⟨rfl,es5,hx,hi,rfl⟩ hs
  conv=>whnf
  repeat'((first|apply st|(apply Y;clear Z B Y A)|(apply U;clear U K)|fail)<;>conv=>whnf)
  exact AW ⟨_,⟨by rw[hN];rfl,es5,got.ext.trans hx,hi,rfl⟩,by simpa using hs⟩
 ·conv=>whnf
  repeat'((first|apply st|(apply Y;clear Z B Y A)|(apply U;clear U K)|refine ld ?_|refine GS ?_|fail)<;>conv=>whnf)
  exact AW ⟨_,⟨by rw[hN];rfl,_,got.ext,got.inv,rfl⟩,hsc⟩
def Sz {σ:AH} {X:List At} {L:Nat} {pre post:List DJ} {e:DJ} {s:List DJ} (h:Sat σ (X++CJ L (pre++e::(post++s)))):Sat σ (.own e.vs 1 (iL e.k.AK)::(X++Hx L pre post e s)):=by
 have h2:=HW h;refine h2.perm ((LB _ _ _ _).symm.trans (.cons _ ?_));exact(List.perm_middle.trans (.cons _ List.perm_middle)).symm
def nr {σ:AH} {X:List At} {L:Nat} {pre post:List DJ} {e:DJ} {s:List DJ} (h:Sat σ (.own e.vs 1 (iL e.k.AK)::(X++Hx L pre post e s))):Sat σ (X++CJ L (pre++e::(post++s))):=by
 refine Ec (X:=X) (e:=e) (e':=e) rfl rfl rfl ?_;refine h.perm ?_;refine List.Perm.trans (.cons _ (List.perm_middle.trans (.cons _ List.perm_middle))) ?_;exact LB _ _ _ _
def Zw (s:Nat) (c:Int) (hs0:s<18446744073709551616) (h0:0≤c) (hc:c<64):Pure Tryz.prog 182 [eU s,eI c] (.b (s.testBit c.toNat)):=by
 have:=PC s c.toNat hs0 (by omega);rw[Int.toNat_of_nonneg h0]at this;exact this
def kG {m:Nat} (hm:m<18446744073709551616):On m 1=HR m:=by
 refine Nat.eq_of_testBit_eq fun i=>?_
 rw[WA];rcases Nat.lt_or_ge i 64 with hlt|hge
 ·rw[Ps hlt,show(1:Nat)=2 ^ 0 from rfl,Nat.testBit_two_pow]
  congr 2;rw[Hu,Cf,DK];omega
 ·have h64:18446744073709551616≤2 ^ i:=by simpa using Nat.pow_le_pow_right (n:=2) (by decide) hge
  rw[Nat.testBit_lt_two_pow (Nat.lt_of_lt_of_le (Tt _ _) h64),Nat.testBit_lt_two_pow (Nat.lt_of_lt_of_le hm h64)];rfl
set_option maxHeartbeats 4000000 in
def Rq (w : AJ) (hw:DH w) {kf:Int→List Int→Kn} (hr:JC w kf) {a:Int} {p:List Int} (hp:p.length≤2) (can:Int→Bool)
    (hcan: ∀s∈(kf a p).AK,∀L es,EB kf es→B3 Tryz.prog 267 [UP w (B9 w.parents) L,Ek a (p++[s])] (CJ L es) fun r post=>r= .ret (.b (can s))∧Ow kf L es post) {L:Nat} {es:List DJ} (h:EB kf es) :
    B3 Tryz.prog 196 [UP w (B9 w.parents) L,Ek a p] (CJ L es) fun r post=>r= .ret (.t [eU (N0 w (kf a p) (fun s=>(kf a (p++[s])).A6) can).1,.b (N0 w (kf a p) (fun s=>(kf a (p++[s])).A6) can).2])∧Ow kf L es post:=by
 intro σ hs;have hM:=Mx;generalize hus:B9 w.parents=us at *;refine uN kZ ?_
 conv=>whnf
 repeat'((first|apply st|(apply sq;intro K U)|(apply si;intro A B Y Z)|(apply Y;clear Z B Y A)|(apply U;clear U K)|refine⟨kZ,?_⟩|fail)<;>conv=>whnf)
 refine(LJ w us h (a:=a) (p:=p) hp).use (rest:=[]) (by simpa using hs) ?_;clear hs;rintro r post σ ⟨es4,e4,got,rfl,rfl⟩ hs;have hek:=got.k;obtain⟨pre,post,rfl⟩:=List.append_of_mem got.mem;rw[KD]at hs;have hsc:=hs;replace hs:=HW (X:=[]) hs;have hok:=hr.ok a p;have hsl:=(hr.ok a p).2.2.2;have hsh:=hr.short a p;have hsw:=hr.AK a p;rw[←hek]at hok hsl hsh hsw hcan;have hO:N0 w (kf a p) (fun s=>(kf a (p++[s])).A6) can=N0 w e4.k (fun s=>(kf a (p++[s])).A6) can:=by rw[hek]
 have hOn:(e4.k.whole=true∨e4.k.Ch.testBit 1=true∨e4.k.Ch.testBit 2=true∨e4.k.Gt.testBit 0=true)→N0 w (kf a p) (fun s=>(kf a (p++[s])).A6) can=(0,false):=fun h=>by
  rw[hO,N0,if_pos];rcases h with h|h|h|h<;>rw[h]<;>simp
 have hOy:e4.k.whole=false→e4.k.Ch.testBit 1=false→e4.k.Ch.testBit 2=false→e4.k.Gt.testBit 0=false→N0 w (kf a p) (fun s=>(kf a (p++[s])).A6) can=match Ic w (fun s=>(kf a (p++[s])).A6) can e4.k.AK (e4.k.Ch,e4.k.Gt)with
  | none=>(0,false)
  | some u=>(HR (Dn (B9 w.parents) w.parents.length u.1),HR (Dn (B9 w.parents) w.parents.length u.1)&&&u.2==0):=fun h1 h2 h3 h4=>by
  rw[hO,N0,h1,h2,h3,h4];rfl
 clear hO;cases hb0:e4.k.whole<;>rw[hb0]at hs
 rotate_left
 ·conv=>whnf
  repeat'((first|apply st|(apply sq;intro K U)|(apply si;intro A B Y Z)|(apply Y;clear Z B Y A)|(apply U;clear U K)|apply dr|refine ld ?_|clear U K)<;>conv=>whnf)
  exact AW ⟨_,⟨by rw[hOn (.inl hb0)];rfl,_,got.ext,got.inv,rfl⟩,hsc⟩
 ·conv => whnf
  repeat'((first|apply st|(apply sq;intro K U)|(apply si;intro A B Y Z)|(apply Y;clear Z B Y A)|(apply U;clear U K)|apply dr|refine lo ?_|refine ld ?_|refine Pure.use (PC e4.k.Ch 1 hok.1 (by decide)) ?_|refine Pure.use (PC e4.k.Ch 2 hok.1 (by decide)) ?_|refine Pure.use (PC e4.k.Gt 0 hok.2.1 (by decide)) ?_|(constructor<;>intro hc<;>(try rw[hc])<;>(replace hc:=bp hc))|clear U K)<;>conv=>whnf)
  all_goals first
   | exact AW ⟨_,⟨by rw[hOn (by first|exact .inl (by assumption)|exact .inr (.inl (by assumption))|exact .inr (.inr (.inl (by assumption)))|exact .inr (.inr (.inr (by assumption))))];rfl,_,got.ext,got.inv,rfl⟩,hsc⟩
   | skip
  replace hOy:=hOy hb0 (by assumption) (by assumption) (by assumption);clear hOn;generalize hnf:(fun s=>(kf a (p++[s])).A6)=A6 at *
  have hs1:Sat σ (.own e4.vs 1 (iL e4.k.AK)::Hx L pre post e4 []):=by
   have h2:=Sz (X:=[]) (L:=L) (pre:=pre) (post:=post) (e:=e4) (s:=[]) (by simpa using hsc);simpa using h2
  refine C3 e4.k.AK.length (fun k (x:(Nat×Nat)×List DJ)=>[(47,eI (Bc k)),(7,eU x.1.1),(8,eU x.1.2)]) (fun k x=> .own e4.vs 1 (iL e4.k.AK)::Hx L pre post e4 x.2) (fun k x=>(x.1.1<18446744073709551616∧x.1.2<18446744073709551616)∧(EB kf (pre++e4::(post++x.2))∧ ∀y∈x.2,y.k=k0)∧Ic w A6 can e4.k.AK (e4.k.Ch,e4.k.Gt)=Ic w A6 can (e4.k.AK.drop k) x.1) ((e4.k.Ch,e4.k.Gt),[]) rfl ⟨⟨hok.1,hok.2.1⟩,⟨by simpa using got.inv,by simp⟩,rfl⟩ hs1 ?_;clear hs hs1 hsc;rintro k ⟨⟨m,no⟩,new⟩ σ hk ⟨⟨hm,hno⟩,⟨hinv,hnew⟩,hF⟩ hs;simp only at hm hno hinv hnew hF hs;have hck:Bc k=k:=AN (by have:=hok.2.2.2;omega);rcases BU e4.k.AK hk with⟨s,hsk,hlt⟩|hke
  ·have hsm:=DL hsk
   have hp2:p.length<2:=by
    rcases Nat.lt_or_ge p.length 2 with h'|h'
    ·exact h'
    ·rw[hsh h']at hsm;cases hsm
   obtain⟨hs0,hs1⟩:=hsw s hsm;rw[drop_cons hsk,Ic]at hF
   conv=>whnf
   repeat'((first|apply st|(apply sq;intro K U)|(apply si;intro A B Y Z)|(apply Y;clear Z B Y A)|(apply U;clear U K)|apply dr|refine⟨rfl,?_⟩|refine⟨kZ,?_⟩|refine ld ?_|refine Cg fun σ hs=>?_|refine oi ?_|refine ol fun x hx=>?_|(refine DR (fun hc=>?_)<;>(try rw[hc])<;>clear hc)|refine Pure.use (ON a p _ hp2) ?_|(intro nn hnn;generalize hg:A5 _ nn _=σ;refine CN hg fun hs=>?_;clear hg)|fail)<;>conv=>whnf)
   obtain rfl:x=s:=by rw[hck,MH,hsk]at hx;exact(Option.some.inj hx).symm
   generalize nn=n7 at *;have hs2:Sat σ ([.box n7 (K2 a (p++[x]))]++CJ L (pre++e4::(post++new))):=nr (X:=[.box n7 (K2 a (p++[x]))]) (hs.perm (.swap _ _ _));clear hs;obtain⟨o,ho⟩: ∃o,w.owner[x.toNat]? =some o:=⟨_,EN (by omega)⟩
   have hoI:CZ w x=o:=by simp only[CZ,D9,ho];rfl
   obtain⟨ho1,ho2⟩:=hw.2.2 o (DL ho);have hwp:=hw.1.1;have hcx:=hcan x hsm L;cases hnx:A6 x<;>cases hcy:can x
   all_goals
    rw[hcy]at hcx;rw[Y1,hnx,hcy,hoI]at hF;refine(LJ w us hinv (a:=a) (p:=p++[x]) (by simp;omega)).use (rest:=[.box n7 (K2 a (p++[x]))]) (hs2.perm UB) ?_;clear hs2;rintro r post' σ ⟨es5,e5,got5,rfl,rfl⟩ hs;have hek5:e5.k.A6=A6 x:=by rw[got5.k,←hnf]
    rw[hnx]at hek5;obtain⟨newA,heA,hnA⟩:=got5.ext;obtain⟨pre5,post5,he5⟩:=List.append_of_mem got5.mem;rw[he5]at hs;replace hs:=HW (X:=[.box n7 (K2 a (p++[x]))]) (hs.perm UB);rw[hek5]at hs
    conv=>whnf
    repeat'((first|apply dr|refine rk ?_ ?_|exact fun s e=>by cases e;rfl|refine⟨kZ,?_⟩|refine ld ?_|fail)<;>conv=>whnf)
    have hs2:Sat σ ([.box n7 (K2 a (p++[x]))]++CJ L (pre5++e5::post5)):=Ec (X:=[.box n7 (K2 a (p++[x]))]) (e:=e5) (e':=e5) rfl rfl rfl (by rw[←hek5]at hs;exact hs);clear hs;refine(hcx es5 got5.inv).use (rest:=[.box n7 (K2 a (p++[x]))]) (by rw[he5];exact hs2.perm UB) ?_;clear hs2;rintro r post' σ ⟨rfl,es6,⟨new6,he6,hn6⟩,hi6,rfl⟩ hs;have he7:es6=pre5++e5::(post5++new6):=by rw[he6,he5];simp
    rw[he7]at hs;replace hs:=HW (X:=[.box n7 (K2 a (p++[x]))]) (hs.perm UB);rw[hek5]at hs
    conv=>whnf
    repeat'((first|apply st|(apply sq;intro K U)|(apply si;intro A B Y Z)|(apply Y;clear Z B Y A)|(apply U;clear U K)|apply dr|refine rk ?_ ?_|exact fun s e=>by cases e;rfl|refine⟨rfl,?_⟩|refine MI ?_|refine ld ?_|refine Iw ?_|refine GS ?_|refine Pure.use (Ha m o hm (by omega) (by omega)) ?_|refine Pure.use (Ha no o hno (by omega) (by omega)) ?_|clear U K)<;>conv=>whnf)
    simp only[Bool.not_false,Bool.not_true,Bool.and_true,Bool.and_false,ML,if_false,if_true,Option.bind_some,Option.bind_none]at hF;have e7:es6=pre++e4::(post++(new++newA++new6)):=by rw[he6,heA];simp
    have hs2:Sat σ ([.box n7 (K2 a (p++[x]))]++CJ L (pre5++e5::(post5++new6))):=Ec (X:=[.box n7 (K2 a (p++[x]))]) (e:=e5) (e':=e5) rfl rfl rfl (by rw[←hek5]at hs;exact hs)
    have hs3:Sat σ (CJ L (pre++e4::(post++(new++newA++new6)))):=by
     rw[←he7,e7]at hs2;exact hs2.less (List.sublist_append_right _ _)
    have hi7:EB kf (pre++e4::(post++(new++newA++new6))):=by rw[←e7];exact hi6
    have hn7: ∀y∈new++newA++new6,y.k=k0:=fun y hy=>by
     rcases FK.1 hy with hy|hy
     ·rcases FK.1 hy with hy|hy
      ·exact hnew y hy
      ·exact hnA y hy
     ·exact hn6 y hy
    have hob:2 ^ o.toNat<18446744073709551616:=KO (by omega)
   ·exact⟨hlt,((m,no|||2 ^ o.toNat),new++newA++new6),rfl,⟨⟨hm,LC hno hob⟩,⟨hi7,hn7⟩,hF⟩,Sz (X:=[]) hs3⟩
   ·exact⟨hlt,((m,no),new++newA++new6),rfl,⟨⟨hm,hno⟩,⟨hi7,hn7⟩,hF⟩,Sz (X:=[]) hs3⟩
   ·rw[hF]at hOy
    exact AW ⟨_,⟨by rw[hOy];rfl,_,got.ext.trans ⟨_,by simp,hn7⟩,hi7,rfl⟩,hs3⟩
   ·exact⟨hlt,((m|||2 ^ o.toNat,no),new++newA++new6),rfl,⟨⟨LC hm hob,hno⟩,⟨hi7,hn7⟩,hF⟩,Sz (X:=[]) hs3⟩
  ·rw [Au hke,Ic]at hF
   rw[hF]at hOy;simp only at hOy
   conv=>whnf
   repeat'((first|apply st|(apply sq;intro K U)|(apply si;intro A B Y Z)|(apply Y;clear Z B Y A)|(apply U;clear U K)|refine⟨rfl,?_⟩|(refine Ew (fun hc=>?_)<;>(try rw[hc])<;>clear hc)|clear U K)<;>conv=>whnf)
   have hu:v7 us:=by rw[←hus];exact Hb _ _ (by have:=hw.1.1;omega)
   have hul:us.length=3+w.parents.length:=by rw[←hus];exact Eo _ _
   have hwp:=hw.1.1;have hwl:IntKind.i64.wrap (3+((E3 w.parents).length:Nat))=3+(w.parents.length:Int):=by rw[BT,wrap64 (by omega) (by omega)]
   refine C3 w.parents.length (fun k (x:Nat)=>[(14,eI (K8 3 k)),(7,eU x)]) (fun _ _=> .own e4.vs 1 (iL e4.k.AK)::Hx L pre post e4 new) (fun k x=>x<18446744073709551616∧x=Dn us k m) m rfl ⟨hm,rfl⟩ hs ?_;clear hs;clear hke hck hk k;rintro k x σ hk ⟨hx64,hxe⟩ hs;have hc3:K8 3 k=3+k:=OV (by omega) (by omega);by_cases hlt:k<w.parents.length
   ·have hbt:Dn us (k+1) m=if x.testBit (K8 3 k).toNat then x|||us.getD (3+k) 0 else x:=by
     rw[Dn,←hxe,hc3,show(3+(k:Int)).toNat=3+k by omega]
    have hup:(List.drop ((K8 3 k).toNat*1) (List.drop 2 (wC w us)))[0]? =some (eU (us.getD (3+k) 0)):=by
     rw[kN,kN,←Yz w us (i:=3+k) (by omega)];congr 1;omega
    conv=>whnf
    repeat'((first|apply st|(apply sq;intro K U)|(apply si;intro A B Y Z)|(apply Y;clear Z B Y A)|(apply U;clear U K)|refine⟨rfl,?_⟩|refine wN ?_|(rw[hup])|refine Pure.use (Zw x (K8 3 k) hx64 (by omega) (by omega)) ?_|(constructor<;>intro hc<;>(try rw[hc])<;>(replace hc:=bp hc)<;>(try simp(disch:=omega) only[BT,wrap64,AN]at hc)<;>try(exfalso;omega))|clear U K)<;>conv=>whnf)
    ·refine⟨hlt,x|||us.getD (3+k) 0,?_,⟨LC hx64 (Mb hu _),by rw[hbt,if_pos (by assumption)]⟩,hs⟩
     rw[La hx64 (Mb hu _)];rfl
    ·exact⟨hlt,x,rfl,⟨hx64,by rw[hbt,if_neg (by rw[‹x.testBit _=false›];decide)]⟩,hs⟩
   ·have hke:k=w.parents.length:=by omega
    rw[hus,←hke,←hxe]at hOy
    have Y:bits .andNot .u64 (x:Int) 1=((HR x:Nat):Int):=by
     have:=SL (a:=x) (b:=1);rw[kG hx64]at this;exact this
    have hcl:HR x<18446744073709551616:=by unfold HR;omega
    have Z:bits .and .u64 ((HR x:Nat):Int) (no:Int)=((HR x&&&no:Nat):Int):=Lu hcl hno
    conv=>whnf
    repeat'((first|apply st|(apply sq;intro K U)|(apply si;intro A B Y Z)|(apply Y;clear Z B Y A)|(apply U;clear U K)|refine⟨rfl,?_⟩|(constructor<;>intro hc<;>(try rw[hc])<;>(replace hc:=bp hc)<;>(try simp(disch:=omega) only[BT,wrap64,AN]at hc)<;>try(exfalso;omega))|clear U K)<;>conv=>whnf)
    rw[Y,Z];refine AW ⟨_,⟨?_,_,got.ext.trans ⟨new,by simp,hnew⟩,hinv,rfl⟩,qF hs⟩;rw[hOy]
    have hz:(((HR x&&&no:Nat):Int)==0)=(HR x&&&no==0):=by
     rw[Hu,DK,DK];omega
    rw[←hz]
def vT (w:AJ) (hw:DH w) {kf:Int→List Int→Kn} (hr:JC w kf) (a:Int): ∀(d:Nat) (p:List Int),p.length+d=2→ ∀(L:Nat) (es:List DJ),EB kf es→
    B3 Tryz.prog 267 [UP w (B9 w.parents) L,Ek a p] (CJ L es) fun r post=>r= .ret (.b (N4 w kf a d p))∧Ow kf L es post:=by
 intro d
 induction d with
 | zero=>
   intro p hp L es h σ hs;have hint:=QP w (B9 w.parents) hr h (L:=L) (a:=a) (p:=p) (by omega);have hnone:=fun es h=>Zl w (B9 w.parents) hr (es:=es) h (L:=L) (a:=a) (p:=p) (by omega)
   have hobj:=fun es h=>Rq w hw hr (a:=a) (p:=p) (by omega) (fun _=>false) (by rw[hr.short a p (by omega)];intro s hs;cases hs) (L:=L) (es:=es) h
   rw[N4];cases hI:Sl kf a p<;>cases hN:LD kf a p<;>rw[hI]at hint<;>rw[hN]at hnone
   all_goals
    refine gR kZ ?_
    conv=>whnf
    repeat'((first|apply st|(apply sq;intro K U)|(apply si;intro A B Y Z)|(apply Y;clear Z B Y A)|(apply U;clear U K)|refine⟨kZ,?_⟩|fail)<;>conv=>whnf)
    refine hint.use (rest:=[]) (by simpa using hs) ?_;clear hs;rintro r post σ ⟨rfl,es2,hx2,hi2,rfl⟩ hs;rw[KD]at hs
    conv=>whnf
    repeat'((first|apply st|(apply sq;intro K U)|(apply si;intro A B Y Z)|(apply Y;clear Z B Y A)|(apply U;clear U K)|refine⟨kZ,?_⟩|clear U K)<;>conv=>whnf)
   rotate_left 2
   ·exact AW ⟨_,⟨rfl,es2,hx2,hi2,rfl⟩,hs⟩
   ·exact AW ⟨_,⟨rfl,es2,hx2,hi2,rfl⟩,hs⟩
   all_goals
    refine(hnone es2 hi2).use (rest:=[]) (by simpa using hs) ?_;clear hs;rintro r post σ ⟨rfl,es3,hx3,hi3,rfl⟩ hs;rw[KD]at hs
    conv=>whnf
    repeat'((first|apply st|(apply sq;intro K U)|(apply si;intro A B Y Z)|(apply Y;clear Z B Y A)|(apply U;clear U K)|refine⟨kZ,?_⟩|refine Iw ?_|refine GS ?_|clear U K)<;>conv=>whnf)
   rotate_left 1
   ·exact AW ⟨_,⟨rfl,es3,hx2.trans hx3,hi3,rfl⟩,hs⟩
   ·refine(hobj es3 hi3).use (rest:=[]) (by simpa using hs) ?_
    clear hs;rintro r post σ ⟨rfl,es4,hx4,hi4,rfl⟩ hs;rw[KD]at hs
    conv=>whnf
    repeat'((first|apply st|(apply sq;intro K U)|(apply si;intro A B Y Z)|(apply Y;clear Z B Y A)|(apply U;clear U K)|fail)<;>conv=>whnf)
    exact AW ⟨_,⟨rfl,es4,(hx2.trans hx3).trans hx4,hi4,rfl⟩,hs⟩
 | succ d ih=>
   intro p hp L es h σ hs;have hint:=QP w (B9 w.parents) hr h (L:=L) (a:=a) (p:=p) (by omega);have hnone:=fun es h=>Zl w (B9 w.parents) hr (es:=es) h (L:=L) (a:=a) (p:=p) (by omega)
   have hobj:=fun es h=>Rq w hw hr (a:=a) (p:=p) (by omega) (fun s=>N4 w kf a d (p++[s])) (fun s hs L es h=>ih (p++[s]) (by simp;omega) L es h) (L:=L) (es:=es) h
   rw[N4];cases hI:Sl kf a p<;>cases hN:LD kf a p<;>rw[hI]at hint<;>rw[hN]at hnone
   all_goals
    refine gR kZ ?_
    conv=>whnf
    repeat'((first|apply st|(apply sq;intro K U)|(apply si;intro A B Y Z)|(apply Y;clear Z B Y A)|(apply U;clear U K)|refine⟨kZ,?_⟩|fail)<;>conv=>whnf)
    refine hint.use (rest:=[]) (by simpa using hs) ?_;clear hs;rintro r post σ ⟨rfl,es2,hx2,hi2,rfl⟩ hs;rw[KD]at hs
    conv=>whnf
    repeat'((first|apply st|(apply sq;intro K U)|(apply si;intro A B Y Z)|(apply Y;clear Z B Y A)|(apply U;clear U K)|refine⟨kZ,?_⟩|clear U K)<;>conv=>whnf)
   rotate_left 2
   ·exact AW ⟨_,⟨rfl,es2,hx2,hi2,rfl⟩,hs⟩
   ·exact AW ⟨_,⟨rfl,es2,hx2,hi2,rfl⟩,hs⟩
   all_goals
    refine(hnone es2 hi2).use (rest:=[]) (by simpa using hs) ?_;clear hs;rintro r post σ ⟨rfl,es3,hx3,hi3,rfl⟩ hs;rw[KD]at hs
    conv=>whnf
    repeat'((first|apply st|(apply sq;intro K U)|(apply si;intro A B Y Z)|(apply Y;clear Z B Y A)|(apply U;clear U K)|refine⟨kZ,?_⟩|refine Iw ?_|refine GS ?_|clear U K)<;>conv=>whnf)
   rotate_left 1
   ·exact AW ⟨_,⟨rfl,es3,hx2.trans hx3,hi3,rfl⟩,hs⟩
   ·refine(hobj es3 hi3).use (rest:=[]) (by simpa using hs) ?_
    clear hs;rintro r post σ ⟨rfl,es4,hx4,hi4,rfl⟩ hs;rw[KD]at hs
    conv=>whnf
    repeat'((first|apply st|(apply sq;intro K U)|(apply si;intro A B Y Z)|(apply Y;clear Z B Y A)|(apply U;clear U K)|fail)<;>conv=>whnf)
    exact AW ⟨_,⟨rfl,es4,(hx2.trans hx3).trans hx4,hi4,rfl⟩,hs⟩
abbrev pO:V:= .FJ 260 (.a [])
def iI (w:AJ) (hw:DH w) {kf:Int→List Int→Kn} (hr:JC w kf) {L:Nat} {es:List DJ} (h:EB kf es) :
    B3 Tryz.prog 192 [UP w (B9 w.parents) L] (CJ L es) fun r post=>r=(if dy w kf then .ret (.t [])else .Bo pO)∧post= []:=by
 intro σ hs;refine uR kZ ?_
 conv=>whnf
 repeat'((first|apply st|(apply sq;intro K U)|(apply si;intro A B Y Z)|(apply Y;clear Z B Y A)|(apply U;clear U K)|fail)<;>conv=>whnf)
 refine C3 3 (fun k (x:List DJ)=>[(3,eI (Bc k))]) (fun k x=>CJ L x) (fun k x=>EB kf x∧dy w kf=((Bk 3).drop k).all fun a=>N4 w kf a 2 []) es rfl ⟨h,rfl⟩ hs ?_;clear hs h;rintro k es σ hk ⟨h,hn⟩ hs;have hck:Bc k=k:=AN (by simp only[Aj];omega);have hl3:(Bk 3).length=3:=rfl;rcases BU (Bk 3) hk with⟨a,ha,hlt⟩|hke
 ·rw[drop_cons ha,SZ]at hn
  have hak:a=Bc k:=by
   rw[hck];simp only[Bk,Q8,List.getElem?_range (show k<3 from hlt),dq]at ha;exact(Option.some.inj ha).symm
  subst hak;have hcan:=vT w hw hr (Bc k) 2 [] rfl L es h;cases hC:N4 w kf (Bc k) 2 []<;>rw[hC]at hcan hn
  all_goals
   conv=>whnf
   repeat'((first|apply st|(apply sq;intro K U)|(apply si;intro A B Y Z)|(apply Y;clear Z B Y A)|(apply U;clear U K)|refine⟨rfl,?_⟩|(constructor<;>intro hc<;>(try rw[hc])<;>(replace hc:=bp hc)<;>(try simp(disch:=omega) only[BT,wrap64,AN]at hc)<;>try(exfalso;omega))|fail)<;>conv=>whnf)
   refine hcan.use (rest:=[]) (by simpa using hs) ?_;clear hs;rintro r post σ ⟨rfl,es2,hx2,hi2,rfl⟩ hs;rw[KD]at hs
   conv=>whnf
   repeat'((first|apply st|(apply si;intro A B Y Z)|(apply Y;clear Z B Y A)|(refine Z _ _ _ ?_;clear Z B Y A)|(apply U;clear U K)|refine⟨rfl,?_⟩|refine Iw ?_|refine GS ?_|clear U K)<;>conv=>whnf)
  ·exact DX ⟨_,⟨by rw[hn];rfl,rfl⟩,hs.less (MJ _)⟩
  ·exact⟨by omega,es2,rfl,⟨hi2,by simpa using hn⟩,hs⟩
 ·rw[Au hke]at hn
  conv=>whnf
  repeat'((first|apply st|(apply sq;intro K U)|(apply si;intro A B Y Z)|(apply Y;clear Z B Y A)|(apply U;clear U K)|refine⟨rfl,?_⟩|(constructor<;>intro hc<;>(try rw[hc])<;>(replace hc:=bp hc)<;>(try simp(disch:=omega) only[BT,wrap64,AN]at hc)<;>try(exfalso;omega))|clear U K)<;>conv=>whnf)
  exact AW ⟨_,⟨by rw[hn];rfl,rfl⟩,hs.less (MJ _)⟩
def ae {w:AJ} {ls:List Fact} (hw:w.parents.length≤60) (h: ∀x∈ls,Ir w x):Xw ls:=by
 intro l hl;obtain⟨-,hc,hsm,hsh⟩:=Lo h;obtain⟨-,hn,hlf⟩:=Hg (h l hl);exact⟨GK hlf,hsh l hl,fun ho=>by have:=hc l hl ho;omega,hsm l hl⟩
def r6 {ls:List Fact} (h:XX ls) (a:Int) (p:List Int): -1000000000≤(kn ls a p).low∧(kn ls a p).low≤1000000000:=by
 have key: ∀(ls:List Fact) (k:Kn),XX ls→(-1000000000≤k.low∧k.low≤1000000000)→ -1000000000≤(ls.foldl (DS a p) k).low∧(ls.foldl (DS a p) k).low≤1000000000:=by
  intro ls
  induction ls with
  | nil=>intro k _ h;exact h
  | cons l r ih=>
    intro k hs hk;refine ih _ (fun x hx=>hs x (.tail _ hx)) ?_;have hn:=hs l (.head _);unfold DS C2 Dx kO
    repeat' split
    all_goals first
     | exact hk
     | exact hn
     | (simp only;exact hk)
     | (simp only;exact hn)
 exact key ls k0 h ⟨by decide,by decide⟩
def Zc {w:AJ} {ls:List Fact} (h: ∀x∈ls,Ir w x):H3 w.owner.length ls:=by
 intro l hl s hs;obtain⟨-,hn,-⟩:=Hg (h l hl);rw[Bs,A9]at hn;have:=hn.1;simp only[Cq,EH,A9,Ev,HT,Cf]at this;exact this.2.2.2.2.1.1 s hs
def lr {w:AJ} (hw:DH w) {ls:List Fact} (h: ∀x∈ls,Ir w x) (hlen:ls.length<900):JC w (kn ls):=by
 have hadd:=ae (by have:=hw.1.1;omega) h;obtain⟨-,-,hsm,hsh⟩:=Lo h;have hp:=Zc h;refine⟨fun a p=>?_,r6 hsm,fun a p hpl=>?_,fun a p s hs=>?_⟩
 ·obtain⟨h1,h2,h3,h4⟩:=fq hadd a p
  exact⟨h1,h2,by omega,by omega⟩
 ·rw[Lp hp]
  exact Ra hsh hpl
 ·rw[Lp hp]at hs
  exact Mw hs
def qc {w:AJ} (hw:DH w) {ls:List Fact} (h: ∀x∈ls,Ir w x):dy w (kn ls)=Jt w ls:=by
 obtain⟨-,hc,-,-⟩:=Lo h;refine qd ?_ (fun s h0 h1=>?_) (by have:=hw.1.1;omega) (fun l hl ho=>by have:=hc l hl ho;omega) (Zc h)
 ·exact Jk hw.1
 ·obtain⟨o,ho⟩: ∃o,w.owner[s.toNat]? =some o:=⟨_,EN (by omega)⟩
  have hoI:CZ w s=o:=by simp only[CZ,D9,ho];rfl
  rw[hoI];exact hw.2.2 o (DL ho)
def nf {σ:AH} {n:Nat} {x:V} {rest:List At} (hs:Sat σ (.box n [x]::rest)) {Q:AH→Prop} (hq: ∀σ',Sat σ' (.box n [.b false]::rest)→Q σ'):HS Tryz.prog 191 [.p n 0] (some pO) σ Q:=by
 refine aK kZ ?_
 conv=>whnf
 repeat'((first|apply st|(apply sq;intro K U)|(apply si;intro A B Y Z)|(apply Y;clear Z B Y A)|(apply U;clear U K)|refine Io fun σ hs=>?_|refine Cg fun σ hs=>?_|refine pv rfl ?_|(intro nn hnn;generalize hg:A5 _ nn _=σ;refine CN hg fun hs=>?_;clear hg)|fail)<;>conv=>whnf)
 exact hq _ (hs.less (K0 _ _))
def ng {σ:AH} {n:Nat} {x:V} {rest:List At} (hs:Sat σ (.box n [x]::rest)) {Q:AH→Prop} (hq: ∀σ',Sat σ' (.box n [x]::rest)→Q σ'):HS Tryz.prog 191 [.p n 0] none σ Q:=by
 refine aK kZ ?_
 conv=>whnf
 repeat'((first|apply st|(apply sq;intro K U)|(apply si;intro A B Y Z)|(apply Y;clear Z B Y A)|(apply U;clear U K)|refine⟨rfl,?_⟩|refine Cg fun σ hs=>?_|(intro nn hnn;generalize hg:A5 _ nn _=σ;refine CN hg fun hs=>?_;clear hg)|fail)<;>conv=>whnf)
 exact hq _ (hs.less (K0 _ _))
attribute [local irreducible] HS
def WR (w:AJ) (hw:DH w) (ls:List Fact) (b:Bool) (hl: ∀x∈ls,Ir w x) (hlen:ls.length<900):Pure Tryz.prog 127 [.rp (wC w (B9 w.parents)),.l (FN ls) b] (.b (Jt w ls)):=by
 refine Pure.of ?_;refine vF kZ ?_;have hs:=Sn
 conv=>whnf
 repeat'((first|(apply sq;intro K U)|(apply si;intro A B Y Z)|(apply Y;clear Z B Y A)|(apply U;clear U K)|(intro nn hnn;generalize hg:A5 _ nn _=σ;refine CN hg fun hs=>?_;clear hg)|fail)<;>conv=>whnf)
 refine(iS w (B9 w.parents) ls b (ae (by have:=hw.1.1;omega) hl) hlen).use (rest:=[.box nn [.b false]]) (by simpa using hs) ?_;clear hs;rintro r post σ ⟨L,es,rfl,hinv,rfl⟩ hs;have hwh:=iI w hw (lr hw hl hlen) hinv (L:=L);rw[qc hw hl]at hwh;cases ht:Jt w ls<;>rw[ht]at hwh
 all_goals
  conv=>whnf
  refine hwh.use (rest:=[.box nn [.b false]]) hs ?_;clear hs;rintro r post σ ⟨rfl,rfl⟩ hs
  conv=>whnf
  repeat'((first|apply st|(apply sq;intro K U)|(apply si;intro A B Y Z)|(apply Y;clear Z B Y A)|(refine Z _ _ _ ?_;clear Z B Y A)|(apply U;clear U K)|refine Io fun σ hs=>?_|clear U K)<;>conv=>whnf)
 ·refine nf (rest:=[]) hs fun σ hs=>?_
  conv=>whnf
  repeat'((first|refine ld ?_|fail)<;>conv=>whnf)
  exact AW (by rw[ht];rfl)
 ·refine ng (rest:=[]) (x:= .b true) hs fun σ hs=>?_
  conv=>whnf
  repeat'((first|refine ld ?_|fail)<;>conv=>whnf)
  exact AW (by rw[ht];rfl)
end Go.Gl
namespace Go.Gl
open Go.Proofs
attribute [local irreducible] A7 Ap Af AT AM Ae AS AU AL Ad AO AP Aw A1 Sat AX Az Ah W
def UE {α S:Type} (stp:α→S→Bool×S) (D:α→S→Prop):List α→S→Prop
 | [],_=>True
 | y::r,s=>D y s∧((stp y s).1=true→UE stp D r (stp y s).2)
section
variable {α β S:Type} {stp:α→S→Bool×S} {D:α→S→Prop}
def Pt: ∀(A B:List α) (s:S),Cu stp (A++B) s=if(Cu stp A s).1 then Cu stp B (Cu stp A s).2 else(false,(Cu stp A s).2)
 | [],B,s=>by simp[Cu]
 | y::r,B,s=>by
   rw[List.cons_append,Cu,Cu];cases(stp y s).1
   ·rfl
   ·simpa using Pt r B (stp y s).2
def WG (l:α) (s:S):Cu stp [l] s=stp l s:=by
 rw[Cu,Cu];rcases stp l s with⟨b,s'⟩;cases b<;>rfl
def TV: ∀ {A B:List α} {s:S},UE stp D (A++B) s→UE stp D A s∧((Cu stp A s).1=true→UE stp D B (Cu stp A s).2)
 | [],B,s,h=>⟨trivial,fun _=>h⟩
 | y ::r,B,s,h=>by
   obtain⟨h1,h2⟩:=h;rw[UE,Cu];cases hy:(stp y s).1
   ·exact⟨⟨h1,fun h=>(by cases h)⟩,fun h=>(by simp at h)⟩
   ·obtain⟨h3,h4⟩:=TV (h2 hy)
    exact⟨⟨h1,fun _=>h3⟩,by simpa using h4⟩
def OM {A:List α}: ∀ {B:List α} {s:S},(∀y∈B,y∈A)→UE stp D B s→UE stp (fun y s=>y∈A∧D y s) B s
 | [],_,_,_=>trivial
 | y::r,_,hm,h=>⟨⟨hm y (.head _),h.1⟩,fun hy=>OM (fun z hz=>hm z (.tail _ hz)) (h.2 hy)⟩
def Zg {g:β→α}: ∀ {B:List β} {s:S},UE stp D (B.map g) s→UE (fun b s=>stp (g b) s) (fun b s=>D (g b) s) B s
 | [],_,_=>trivial
 | y::r,_,h=>⟨h.1,fun hy=>Zg (h.2 hy)⟩
end
section
variable {S:Type} {stp:List Fact→S→Bool×S} {D:List Fact→S→Prop}
def SQ (B:List (List Fact)): ∀(A:List (List Fact)) (s:S),Cu stp (GW A B) s=Cu (fun x s=>Cu (fun y s=>stp (DA x y) s) B s) A s
 | [],s=>rfl
 | x::r,s=>by
   have ih:=SQ B r;rw[GW,List.flatMap_cons,Pt,Lz,Cu];simp only[GW]at ih;rw[ih]
def Vg (B:List (List Fact)): ∀ {A:List (List Fact)} {s:S},UE stp D (GW A B) s→UE (fun x s=>Cu (fun y s=>stp (DA x y) s) B s) (fun x s=>UE (fun y s=>stp (DA x y) s) (fun y s=>D (DA x y) s) B s) A s
 | [],_,_=>trivial
 | x::r,s,h=>by
   rw[GW,List.flatMap_cons]at h;obtain⟨h1,h2⟩:=TV h;refine⟨Zg h1,fun hy=>?_⟩;rw[Lz]at h2;exact Vg B (h2 hy)
end
abbrev XJ (l:List Fact) (b:Bool):V:= .l (FN l) b
def RP {S:Type} (x:V) (H:S→List At) (stp:List Fact→S→Bool×S) (D:List Fact→S→Prop):Prop:= ∀b,DI Tryz.prog x (fun l=>XJ l b) H stp D
abbrev Um (n:Nat):V:= .f (.func 187) [] [.p n 0]
def cI {f:Fact} (hl:Bj f=true) (c:Bool):KG (if c then C9 f else f)=xF f++[.b c]:=by
 have:=GK hl;cases c with
 | true=>rfl
 | false=>
   have h5: ¬f.op=5:=by omega
   simp only[KG,ML,if_false,BA,if_neg h5]
def WalkC (f:Fact):Prop:= ∀(c:Bool) (S:Type) (fn:Fn) (fi ca:List V) (H:S→List At) (stp:List Fact→S→Bool×S) (D:List Fact→S→Prop) (nW:Nat) (s:S),
 RP (.f fn fi ca) (fun s=> .box nW [Um nW]::H s) stp D→UE stp D (Bn f c) s→ ∀σ,Sat σ (.box nW [Um nW]::H s)→
  Aw Tryz.prog (Um nW) [.a (xF f),.b c,.f fn fi ca] σ fun r σ'=>r= .ret (.b (Cu stp (Bn f c) s).1)∧Sat σ' (.box nW [Um nW]::H (Cu stp (Bn f c) s).2)
def jt {w:AJ} {S:Type} {fn:Fn} {fi ca:List V} {H:S→List At} {stp:List Fact→S→Bool×S} {D:List Fact→S→Prop} (hT:RP (.f fn fi ca) H stp D) {k0 k1:Fact} {c:Bool} (hn0:Al w k0=true) (hn1:Al w k1=true) (hv0:lv k0≤100) (hv1:lv k1≤100) {a:List Fact} (ha:a∈Bn k0 c) (fa:Bool) :
    RP (.f (.func 189) [] [.rp [.f fn fi ca],.rp [XJ a fa]]) H (fun y s=>stp (DA a y) s) (fun y s=>y∈Bn k1 c∧D (DA a y) s):=by
 rintro b y s ⟨hy,hd⟩ σ hs;refine Bg ?_;show A7 Tryz.prog 189 ([]++[XJ y b]++[.rp [.f fn fi ca],.rp [XJ a fa]]) σ _;have hla:=(Kv k0 (Ao _ hn0) c).2 a ha;have hly:=(Kv k1 (Ao _ hn1) c).2 y hy;have hM:=Mx;refine uT kZ ?_
 conv=>whnf
 repeat'((first|apply st|(apply sq;intro K U)|(apply si;intro A B Y Z)|(apply Y;clear Z B Y A)|(apply U;clear U K)|apply dr|refine rk ?_ ?_|exact fun s e=>by cases e;rfl|refine Pure.use (cP (w:=w) a y fa b (F5 k0 hn0 c a ha) (F5 k1 hn1 c y hy) (by omega)) ?_|fail)<;>conv=>whnf)
 refine(hT false).use hd hs ?_;clear hs;intro σ hs
 conv=>whnf
 repeat'((first|apply st|(apply Y;clear Z B Y A)|(apply U;clear U K)|apply dr|fail)<;>conv=>whnf)
 exact AW ⟨rfl,hs⟩
def ju {w:AJ} {S:Type} {fn:Fn} {fi ca:List V} {H:S→List At} {stp:List Fact→S→Bool×S} {D:List Fact→S→Prop} {nW:Nat} (hT:RP (.f fn fi ca) (fun s=> .box nW [Um nW]::H s) stp D) {f k0 k1:Fact} (hk:f.kids= [k0,k1]) {c:Bool} (hn0:Al w k0=true) (hn1:Al w k1=true) (hv0:lv k0≤100) (hv1:lv k1≤100) (hw1:WalkC k1) :
    RP (.f (.func 188) [] [.p nW 0,.rp (xF f),.rp [.b c],.rp [.f fn fi ca]]) (fun s=> .box nW [Um nW]::H s) (fun a s=>Cu (fun y s=>stp (DA a y) s) (Bn k1 c) s) (fun a s=>a∈Bn k0 c∧UE (fun y s=>stp (DA a y) s) (fun y s=>D (DA a y) s) (Bn k1 c) s):=by
 rintro fa a s ⟨ha,hd⟩ σ hs;refine Bg ?_;show A7 Tryz.prog 188 ([]++[XJ a fa]++[.p nW 0,.rp (xF f),.rp [.b c],.rp [.f fn fi ca]]) σ _;have h1:f.kids[(1:Int).toNat]? =some k1:=by rw[hk];rfl
 refine uU kZ ?_
 conv=>whnf
 repeat'((first|apply st|(apply sq;intro K U)|(apply si;intro A B Y Z)|(apply Y;clear Z B Y A)|(apply U;clear U K)|apply dr|refine⟨kZ,?_⟩|refine N2 ?_|refine ld ?_|fail)<;>conv=>whnf)
 refine(hw1 c S _ _ _ H _ _ nW s (jt hT hn0 hn1 hv0 hv1 ha fa) (OM (fun y hy=>hy) hd) σ hs).mono ?_;clear hs;rintro r σ ⟨rfl,hs⟩
 conv=>whnf
 repeat'((first|apply st|(apply Y;clear Z B Y A)|(apply U;clear U K)|apply dr|fail)<;>conv=>whnf)
 exact AW ⟨rfl,hs⟩
set_option maxHeartbeats 2000000 in
def lK {w : AJ} (f:Fact):Al w f=true→lv f≤100→WalkC f:=by
 induction f using Fact.ind with
 | h f ih=>
   intro hn hv c S fn fi ca H stp D nW s hT hd σ hs;have har:=Ao _ hn
   have hnk: ∀k∈f.kids,Al w k=true:=by
    rw[Bs,A9,Ev]at hn;exact hn.2
   have hop:f.op=1∨f.op=5∨Bj f=true∨f.op=6∨f.op=7:=by
    rw[Bs,A9]at hn;have h1:=hn.1;simp only[Cq,Qp,A9]at h1;rw[Pc];simp only[A9,Cf];have h2:=h1.1;split at h2
    ·omega
    ·split at h2
     ·omega
     ·simp only[F6,DK]at h2
      omega
   refine Bg ?_;show A7 Tryz.prog 187 ([]++[.a (xF f),.b c,.f fn fi ca]++[.p nW 0]) σ _;refine uV kZ ?_;rw[Hr,JF]at hd;have hcs:=Hr f c;rw[JF]at hcs;rcases hop with h1|h5|hl|h67
   ·rw[if_pos h1]at hd hcs
    rw[hcs];cases c
    ·rw[if_neg (by decide)]at hd ⊢
     rw[WG]
     conv=>whnf
     repeat'((first|apply st|(apply sq;intro K U)|(apply si;intro A B Y Z)|(apply Y;clear Z B Y A)|(apply U;clear U K)|refine⟨rfl,?_⟩|(constructor<;>intro hc<;>(try rw[hc])<;>(replace hc:=bp hc)<;>try(exfalso;omega))|fail)<;>conv=>whnf)
     refine(hT true).use (y:=[]) hd.1 hs ?_;clear hs;intro σ hs
     conv=>whnf
     repeat'((first|apply st|(apply Y;clear Z B Y A)|(apply U;clear U K)|clear U K)<;>conv=>whnf)
     exact AW ⟨rfl,hs⟩
    ·rw[if_pos rfl]at hd ⊢
     conv=>whnf
     repeat'((first|apply st|(apply sq;intro K U)|(apply si;intro A B Y Z)|(apply Y;clear Z B Y A)|(apply U;clear U K)|refine⟨rfl,?_⟩|(constructor<;>intro hc<;>(try rw[hc])<;>(replace hc:=bp hc)<;>try(exfalso;omega))|clear U K)<;>conv=>whnf)
     exact AW ⟨rfl,hs⟩
   ·obtain⟨k,hk,-⟩:=FB har h5
    have hkm:k∈f.kids:=by rw[hk];exact .head _
    have hvk:lv k≤100:=by
     rw[NV,dw,if_pos h5,hk]at hv;exact hv
    rw[if_neg (by omega),if_pos h5,hk]at hd hcs;have hcs2:Bn f c=Bn k (!c):=hcs;have h0:f.kids[(0:Int).toNat]? =some k:=by rw[hk];rfl
    rw[hcs2]
    conv=>whnf
    repeat'((first|apply st|(apply sq;intro K U)|(apply si;intro A B Y Z)|(apply Y;clear Z B Y A)|(apply U;clear U K)|apply dr|refine⟨rfl,?_⟩|refine⟨kZ,?_⟩|refine N2 ?_|refine ld ?_|(constructor<;>intro hc<;>(try rw[hc])<;>(replace hc:=bp hc)<;>try(exfalso;omega))|fail)<;>conv=>whnf)
    refine(ih k hkm (hnk k hkm) hvk (!c) S _ _ _ H stp D nW s hT hd σ hs).mono ?_;clear hs;rintro r σ ⟨rfl,hs⟩
    conv=>whnf
    repeat'((first|apply st|(apply Y;clear Z B Y A)|(apply U;clear U K)|apply dr|clear U K)<;>conv=>whnf)
    exact AW ⟨rfl,hs⟩
   ·have hlo:=GK hl
    have hlB:=OP f;rw[hl]at hlB;rw[if_neg (by omega),if_neg (by omega),if_neg (by omega)]at hd hcs;have hcs2:Bn f c= [[if c then C9 f else f]]:=by rw[hcs];cases c<;>rfl
    rw[←hcs,hcs2]at hd;rw[hcs2,WG]
    have e:XJ [if c then C9 f else f] true= .l [xF f++[.b c]] true:=by
     show V.l [KG (if c then C9 f else f)] true=_;rw[cI hl]
    have hst:=(hT true) [if c then C9 f else f] s hd.1;simp only[e]at hst
    conv=>whnf
    repeat'((first|apply st|(apply sq;intro K U)|(apply si;intro A B Y Z)|(apply Y;clear Z B Y A)|(apply U;clear U K)|refine⟨rfl,?_⟩|refine⟨kZ,?_⟩|refine hlB.use ?_|(constructor<;>intro hc<;>(try rw[hc])<;>(replace hc:=bp hc)<;>try(exfalso;omega))|fail)<;>conv=>whnf)
    refine(hst σ hs).mono ?_;clear hs;rintro r σ ⟨rfl,hs⟩
    conv=>whnf
    repeat'((first|apply st|(apply Y;clear Z B Y A)|(apply U;clear U K)|clear U K)<;>conv=>whnf)
    exact AW ⟨rfl,hs⟩
   ·obtain⟨k0,k1,hk,-,-⟩:=EV har h67
    have hkm0:k0∈f.kids:=by rw[hk];exact .head _
    have hkm1:k1∈f.kids:=by rw[hk];exact .tail _ (.head _)
    have hlf:Bj f=false:=by rw[Pc,decide_eq_false (show¬f.op≤4 by omega),Bool.and_false]
    have hlB:=OP f;rw[hlf]at hlB
    have hvk:lv k0+lv k1≤100:=by
     rw[NV,dw,if_neg (by omega),if_pos h67,hk]at hv;exact hv
    rw[if_neg (by omega),if_neg (by omega),if_pos h67,hk]at hd hcs;have h0:f.kids[(0:Int).toNat]? =some k0:=by rw[hk];rfl
    have h1:f.kids[(1:Int).toNat]? =some k1:=by rw[hk];rfl
    have i0:=ih k0 hkm0 (hnk k0 hkm0) (by omega);have i1:=ih k1 hkm1 (hnk k1 hkm1) (by omega);by_cases hap:(c != (f.op==7))=true
    ·rw [if_pos hap]at hd hcs
     have hcs2:Bn f c=Bn k0 c++Bn k1 c:=hcs;have hd2:UE stp D (Bn k0 c++Bn k1 c) s:=hd;obtain⟨hd3,hd4⟩:=TV hd2;rw[hcs2,Pt];clear hcs hcs2 hd hd2;rcases h67 with h6|h7
     ·have h6b:(f.op==6)=true:=by rw[h6];rfl
      have hct:c=true:=by rw[h6]at hap;cases c<;>simp_all
      subst hct
      conv=>whnf
      repeat'((first|apply st|(apply sq;intro K U)|(apply si;intro A B Y Z)|(apply Y;clear Z B Y A)|(apply U;clear U K)|apply dr|refine⟨rfl,?_⟩|refine⟨kZ,?_⟩|refine N2 ?_|refine ld ?_|refine Iw ?_|refine hlB.use ?_|(rw[h6b])|(constructor<;>intro hc<;>(try rw[hc])<;>(replace hc:=bp hc)<;>try(exfalso;omega))|fail)<;>conv=>whnf)
      refine(i0 true S _ _ _ H stp D nW s hT hd3 σ hs).mono ?_;clear hs;rintro r σ ⟨rfl,hs⟩;generalize Cu stp (Bn k0 true) s=x at *;obtain⟨b1,s1⟩:=x;cases b1
      ·conv=>whnf
       repeat'((first|apply st|(apply Y;clear Z B Y A)|(apply U;clear U K)|apply dr|clear U K)<;>conv=>whnf)
       exact AW ⟨rfl,hs⟩
      ·conv=>whnf
       repeat'((first|apply st|apply dr|refine⟨kZ,?_⟩|refine N2 ?_|refine ld ?_|fail)<;>conv=>whnf)
       refine(i1 true S _ _ _ H stp D nW s1 hT (hd4 rfl) σ hs).mono ?_;clear hs;rintro r σ ⟨rfl,hs⟩
       conv=>whnf
       repeat'((first|apply st|(apply Y;clear Z B Y A)|(apply U;clear U K)|apply dr|clear U K)<;>conv=>whnf)
       exact AW ⟨rfl,hs⟩
     ·have h6b:(f.op==6)=false:=by rw[h7];rfl
      have hct:c=false:=by rw[h7]at hap;cases c<;>simp_all
      subst hct
      conv=>whnf
      repeat'((first|apply st|(apply sq;intro K U)|(apply si;intro A B Y Z)|(apply Y;clear Z B Y A)|(apply U;clear U K)|apply dr|refine⟨rfl,?_⟩|refine⟨kZ,?_⟩|refine N2 ?_|refine ld ?_|refine Iw ?_|refine hlB.use ?_|(rw[h6b])|(constructor<;>intro hc<;>(try rw[hc])<;>(replace hc:=bp hc)<;>try(exfalso;omega))|fail)<;>conv=>whnf)
      refine(i0 false S _ _ _ H stp D nW s hT hd3 σ hs).mono ?_;clear hs;rintro r σ ⟨rfl,hs⟩;generalize Cu stp (Bn k0 false) s=x at *;obtain⟨b1,s1⟩:=x;cases b1
      ·conv=>whnf
       repeat'((first|apply st|(apply Y;clear Z B Y A)|(apply U;clear U K)|apply dr|clear U K)<;>conv=>whnf)
       exact AW ⟨rfl,hs⟩
      ·conv=>whnf
       repeat'((first|apply st|apply dr|refine⟨kZ,?_⟩|refine N2 ?_|refine ld ?_|fail)<;>conv=>whnf)
       refine(i1 false S _ _ _ H stp D nW s1 hT (hd4 rfl) σ hs).mono ?_;clear hs;rintro r σ ⟨rfl,hs⟩
       conv=>whnf
       repeat'((first|apply st|(apply Y;clear Z B Y A)|(apply U;clear U K)|apply dr|clear U K)<;>conv=>whnf)
       exact AW ⟨rfl,hs⟩
    ·rw[if_neg hap]at hd hcs
     have hcs2:Bn f c=GW (Bn k0 c) (Bn k1 c):=hcs;have hd2:UE stp D (GW (Bn k0 c) (Bn k1 c)) s:=hd;have hd3:=Vg _ hd2;have hT2:=ju hT hk (c:=c) (hnk k0 hkm0) (hnk k1 hkm1) (by omega) (by omega) i1;rw[hcs2,SQ];clear hcs hcs2 hd hd2;rcases h67 with h6|h7
     ·have h6b:(f.op==6)=true:=by rw[h6];rfl
      have hct:c=false:=by rw[h6]at hap;cases c<;>simp_all
      subst hct
      conv=>whnf
      repeat'((first|apply st|(apply sq;intro K U)|(apply si;intro A B Y Z)|(apply Y;clear Z B Y A)|(apply U;clear U K)|apply dr|refine⟨rfl,?_⟩|refine⟨kZ,?_⟩|refine N2 ?_|refine ld ?_|refine GS ?_|refine hlB.use ?_|(rw[h6b])|(constructor<;>intro hc<;>(try rw[hc])<;>(replace hc:=bp hc)<;>try(exfalso;omega))|fail)<;>conv=>whnf)
      refine(i0 false S _ _ _ H _ _ nW s hT2 (OM (fun y hy=>hy) hd3) σ hs).mono ?_;clear hs;rintro r σ ⟨rfl,hs⟩
      conv=>whnf
      repeat'((first|apply st|(apply Y;clear Z B Y A)|(apply U;clear U K)|apply dr|fail)<;>conv=>whnf)
      exact AW ⟨rfl,hs⟩
     ·have h6b:(f.op==6)=false:=by rw[h7];rfl
      have hct:c=true:=by rw[h7]at hap;cases c<;>simp_all
      subst hct
      conv=>whnf
      repeat'((first|apply st|(apply sq;intro K U)|(apply si;intro A B Y Z)|(apply Y;clear Z B Y A)|(apply U;clear U K)|apply dr|refine⟨rfl,?_⟩|refine⟨kZ,?_⟩|refine N2 ?_|refine ld ?_|refine GS ?_|refine hlB.use ?_|(rw[h6b])|(constructor<;>intro hc<;>(try rw[hc])<;>(replace hc:=bp hc)<;>try(exfalso;omega))|fail)<;>conv=>whnf)
      refine(i0 true S _ _ _ H _ _ nW s hT2 (OM (fun y hy=>hy) hd3) σ hs).mono ?_;clear hs;rintro r σ ⟨rfl,hs⟩
      conv=>whnf
      repeat'((first|apply st|(apply Y;clear Z B Y A)|(apply U;clear U K)|apply dr|fail)<;>conv=>whnf)
      exact AW ⟨rfl,hs⟩
def sE {w:AJ} (f:Fact) (hn:Al w f=true) (hv:lv f≤100) (c:Bool) {S:Type} {fn:Fn} {fi ca:List V} {H:S→List At} {stp:List Fact→S→Bool×S} {D:List Fact→S→Prop} {s:S} (hT: ∀nW,RP (.f fn fi ca) (fun s=> .box nW [Um nW]::H s) stp D) (hd:UE stp D (Bn f c) s) (σ:AH) (hs:Sat σ (H s)) :
    A7 Tryz.prog 186 [.f fn fi ca,.rp (xF f),.rp [.b c]] σ fun r σ'=>r= .ret (.t [])∧Sat σ' (H (Cu stp (Bn f c) s).2):=by
 refine uW kZ ?_
 conv=>whnf
 repeat'((first|apply st|(apply sq;intro K U)|(apply si;intro A B Y Z)|(apply Y;clear Z B Y A)|(apply U;clear U K)|refine⟨kZ,?_⟩|refine ld ?_|refine Io fun σ hs=>?_|(intro nn hnn;generalize hg:A5 _ nn _=σ;refine CN hg fun hs=>?_;clear hg)|fail)<;>conv=>whnf)
 refine(lK f hn hv c S fn fi ca H stp D nn s (hT nn) hd σ hs).mono ?_;clear hs;rintro r σ ⟨rfl,hs⟩
 conv=>whnf
 repeat'((first|(apply Y;clear Z B Y A)|fail)<;>conv=>whnf)
 exact AW ⟨rfl,hs.less (K0 _ _)⟩
def jv (f:Fact) (c:Bool):Pure Tryz.prog 126 [.a (xF f),.b c] (.f (.func 186) [] [.rp (xF f),.rp [.b c]]):=by
 refine vG kZ ?_;have hs:=Sn
 conv=>whnf
 repeat'((first|apply st|(apply sq;intro K U)|(apply si;intro A B Y Z)|(apply Y;clear Z B Y A)|(apply U;clear U K)|fail)<;>conv=>whnf)
 all_goals exact AI rfl
abbrev Oa (w:AJ) (l:List Fact) (s:Bool):Bool×Bool:=if Jt w l then(false,true)else(true,s)
def WH {w:AJ}: ∀(cs:List (List Fact)),Cu (Oa w) cs false=(!cs.any (Jt w),cs.any (Jt w))
 | []=>rfl
 | l::r=>by
   rw[Cu,SY];simp only[Oa];cases h:Jt w l
   ·simpa using WH r
   ·rfl
def Zh {w:AJ} {AD:List Fact→Prop}: ∀ {cs:List (List Fact)},(∀l∈cs,AD l)→UE (Oa w) (fun l s=>s=false∧AD l) cs false
 | [],_=>trivial
 | l ::r,h=>⟨⟨rfl,h l (.head _)⟩,fun hy=>by
     cases ht:Jt w l
     ·have e:(Oa w l false).2=false:=by simp[Oa,ht]
      rw[e];exact Zh fun x hx=>h x (.tail _ hx)
     ·simp[Oa,ht]at hy⟩
abbrev vj (w:AJ) (L:Nat) (E:Env) (ok:FuncId→Array Tmp→Code→Code→Nat→Prop) (nF:Nat):Prop:=
 Mp Tryz.prog L E ok (fun(x:List Fact×Bool)=>[XJ x.1 x.2]) (fun s:Bool=>[.box nF [.b s]]) (fun _=>True) (fun x s=>if Jt w x.1 then .stop (.exit 0) true else .go s) (fun x s=>s=false∧(∀y∈x.1,Ir w y)∧x.1.length<900)
def m7 {w:AJ} (f:Fact) (hn:Al w f=true) (hv:lv f≤100) {L:Nat} {E:Env} {ok:FuncId→Array Tmp→Code→Code→Nat→Prop} {nF:Nat} (hY:vj w L E ok nF) (σ:AH) (hs:Sat σ [.obj L (.loop .ready E ok),.box nF [.b false]]) :
    A7 Tryz.prog 186 [.f (.yield L) [] [],.rp (xF f),.rp [.b false]] σ fun r σ'=>r= .ret (.t [])∧Sat σ' [.obj L (.loop (if XG w f then .exit 0 else .ready) E ok),.box nF [.b (XG w f)]]:=by
 have hg:=sE f hn hv false (fn:= .yield L) (fi:=[]) (ca:=[]) (H:=fun s:Bool=>[.obj L (.loop (if s then .exit 0 else .ready) E ok),.box nF [.b s]]) (stp:=Oa w) (D:=fun l s=>s=false∧(∀y∈l,Ir w y)∧l.length<900) (s:=false) (by
  rintro nW b l s ⟨rfl,hl,hlen⟩ σ hs;refine hY.use (y:=(l,b)) (s:=false) ⟨rfl,hl,hlen⟩ (rest:=[.box nW [Um nW]]) (hs.perm (LB _ _ _ _)) ?_;intro r σ' hq;cases ht:Jt w l
  ·simp only[ht,ML,if_false]at hq
   obtain⟨rfl,hs'⟩:=hq;have e:Oa w l false=(true,false):=by simp[Oa,ht]
   rw[e];exact⟨rfl,hs'.perm (LB _ _ _ _).symm⟩
  ·simp only[ht,if_true]at hq
   obtain⟨rfl,hs'⟩:=hq;have e:Oa w l false=(false,true):=by simp[Oa,ht]
   rw[e]
   exact⟨rfl,hs'.perm (LB _ _ _ _).symm⟩) (Zh fun l hl=>⟨F5 f hn false l hl,by have:=(Kv f (Ao _ hn) false).2 l hl;omega⟩) σ hs
 rw[WH]at hg;exact hg
def vU (w:AJ) (hw:DH w) (f:Fact) (hn:Al w f=true) (hv:lv f≤100):Pure Tryz.prog 125 [.rp (wC w (B9 w.parents)),.a (xF f)] (.b (XG w f)):=by
 refine Pure.of ?_;refine vH kZ ?_;have hs:=Sn
 conv=>whnf
 repeat'((first|apply st|(apply sq;intro K U)|(apply si;intro A B Y Z)|(apply Y;clear Z B Y A)|(apply U;clear U K)|refine⟨kZ,?_⟩|refine Io fun σ hs=>?_|refine Pure.use (jv _ _) ?_|(intro nn hnn;generalize hg:A5 _ nn _=σ;refine CN hg fun hs=>?_;clear hg)|fail)<;>conv=>whnf)
 rename_i _ nF hnF _ _ _ _;refine A7.mono (m7 (w:=w) f hn hv (L:=nn) (nF:=nF) ?_ σ hs) ?_
 ·refine Nh (fun y=>rfl) ?_
  clear hs hnn hnF;rintro⟨l,b⟩ s ⟨rfl,hl,hlen⟩ rest σ hs;dsimp only at hl hlen;have htg:=WR w hw l b hl hlen;dsimp only;cases ht:Jt w l<;>rw[ht]at htg
  ·conv=>whnf
   repeat'((first|apply st|(apply sq;intro K U)|(apply si;intro A B Y Z)|(apply Y;clear Z B Y A)|(apply U;clear U K)|refine htg.use ?_|clear U K)<;>conv=>whnf)
   intro hn;exact Vb (H:=fun s:Bool=>[.box nF [.b s]]) (J:=fun _=>True) (s:=false) rfl hs hn
  ·conv=>whnf
   repeat'((first|apply st|(apply sq;intro K U)|(apply si;intro A B Y Z)|(apply Y;clear Z B Y A)|(apply U;clear U K)|refine Io fun σ hs=>?_|refine htg.use ?_|clear U K)<;>conv=>whnf)
   intro hn;exact X9 (H:=fun s:Bool=>[.box nF [.b s]]) (J:=fun _=>True) (s:=true) (st:= .exit 0) rfl hs hn
 ·clear hs hnn hnF
  cases hp:XG w f
  ·rintro r σ ⟨rfl,hs⟩
   refine PX hs fun σ hs=>?_
   conv=>whnf
   repeat'((first|apply st|(apply sq;intro K U)|(apply si;intro A B Y Z)|(apply Y;clear Z B Y A)|(apply U;clear U K)|refine ld ?_|fail)<;>conv=>whnf)
   exact AW (by rw[hp])
  ·rintro r σ ⟨rfl,hs⟩
   refine YC hs fun σ hs=>?_
   conv=>whnf
   repeat'((first|apply st|(apply sq;intro K U)|(apply si;intro A B Y Z)|(apply Y;clear Z B Y A)|(apply U;clear U K)|refine ld ?_|fail)<;>conv=>whnf)
   exact AW (by rw[hp])
def rJ (f:Fact):Pure Tryz.prog 224 [.a (xF f)] (.a (xF (C9 f))):=by
 refine gW kZ ?_;have hs:=Sn
 conv=>whnf
 repeat'((first|apply st|(apply sq;intro K U)|(apply si;intro A B Y Z)|(apply Y;clear Z B Y A)|(apply U;clear U K)|refine⟨kZ,?_⟩|refine ld ?_|refine sn fun σ hs=>?_|(intro nn hnn;generalize hg:A5 _ nn _=σ;refine al hg fun hs=>?_;clear hg)|fail)<;>conv=>whnf)
 refine A8 (.a (.cons (.refl _) (.cons (.refl _) (.cons Ds (.cons (.refl _) (.cons (.refl _) (.cons ?_ .nil)))))));refine .l (fun h=>by cases h) ?_;simp only[C9,Fact.kids,List.map,Ba];exact EG _
def vY (f g:Fact):Pure Tryz.prog 295 [.a (xF f),.a (xF g)] (.a (xF (Qx f g))):=by
 refine tK kZ ?_;have hs:=Sn
 conv=>whnf
 repeat'((first|apply st|(apply sq;intro K U)|(apply si;intro A B Y Z)|(apply Y;clear Z B Y A)|(apply U;clear U K)|refine⟨kZ,?_⟩|refine ld ?_|refine sn fun σ hs=>?_|(intro nn hnn;generalize hg:A5 _ nn _=σ;refine al hg fun hs=>?_;clear hg)|fail)<;>conv=>whnf)
 refine A8 (.a (.cons (.refl _) (.cons (.refl _) (.cons Ds (.cons (.refl _) (.cons (.refl _) (.cons ?_ .nil)))))));refine .l (fun h=>by cases h) ?_;simp only[Qx,Fact.kids,List.map,Ba];exact EG _
def QR (w:AJ) (hw:DH w) (a b:Fact) (ha:Al w a=true) (hb:Al w b=true) (hl:lv a+lv b≤100):Pure Tryz.prog 229 [.rp (wC w (B9 w.parents)),.a (xF a),.a (xF b)] (.b (XK w a b)):=by
 have hcan:=vU w hw (Qx a (C9 b)) (Vk ha hb) (by rw[rf];exact hl);refine uD kZ ?_;have hs:=Sn
 conv=>whnf
 repeat'((first|apply st|(apply sq;intro K U)|(apply si;intro A B Y Z)|(apply Y;clear Z B Y A)|(apply U;clear U K)|apply dr|refine rk ?_ ?_|exact fun s e=>by cases e;rfl|refine⟨kZ,?_⟩|refine Pure.use (rJ _) ?_|refine Pure.use (vY _ _) ?_|refine hcan.use ?_|fail)<;>conv=>whnf)
 all_goals exact AI rfl
attribute [local irreducible] HS
def yZ (p:Prog) (nO:Nat) (r:R) (post:List At):Prop:=
 match Bd p with
 | some s=>r= .ret (.t [])∧ ∃v,post= [.box nO [v],.own v 1 (iL s)]
 | none=>r= .Bo D3∧ ∃v s,post= [.box nO [v],.own v 1 (iL s)]
def bc (p:Prog) (nO:Nat):B3 Tryz.prog 281 [.rp (Be p),.p nO 0] [.box nO [.l [] true]] (yZ p nO):=fun σ hs=>
 A7.mono (iY p nO σ hs) fun r σ' hq=>by
  unfold vr at hq;unfold yZ;cases h:Bd p with
  | some s=>
    rw[h]at hq;obtain⟨h1,v,h2⟩:=hq;exact⟨_,⟨h1,v,rfl⟩,h2⟩
  | none=>
    rw[h]at hq;obtain⟨h1,v,s,h2⟩:=hq;exact⟨_,⟨h1,v,s,rfl⟩,h2⟩
def nh {σ:AH} {n:Nat} {x:V} {rest:List At} (hs:Sat σ (.box n [x]::rest)) {Q:AH→Prop} (hq: ∀σ',Sat σ' (.box n [.b false]::rest)→Q σ'):HS Tryz.prog 322 [.p n 0] (some D3) σ Q:=by
 refine aJ kZ ?_
 conv=>whnf
 repeat'((first|apply st|(apply sq;intro K U)|(apply si;intro A B Y Z)|(apply Y;clear Z B Y A)|(apply U;clear U K)|refine Io fun σ hs=>?_|refine Cg fun σ hs=>?_|refine GS ?_|refine pv rfl ?_|(intro nn hnn;generalize hg:A5 _ nn _=σ;refine CN hg fun hs=>?_;clear hg)|fail)<;>conv=>whnf)
 exact hq _ (hs.less (K0 _ _))
def ni {σ:AH} {n:Nat} {x:V} {rest:List At} (hs:Sat σ (.box n [x]::rest)) {Q:AH→Prop} (hq: ∀σ',Sat σ' (.box n [x]::rest)→Q σ'):HS Tryz.prog 322 [.p n 0] none σ Q:=by
 refine aJ kZ ?_
 conv=>whnf
 repeat'((first|apply st|(apply sq;intro K U)|(apply si;intro A B Y Z)|(apply Y;clear Z B Y A)|(apply U;clear U K)|refine GS ?_|fail)<;>conv=>whnf)
 exact hq _ hs
def cn (p:Prog) (nO:Nat):B3 Tryz.prog 280 [.f (.func 281) [] [.rp (Be p),.p nO 0]] [.box nO [.l [] true]] fun r post=>r= .ret (.b (Bd p).isSome)∧ ∃v s,post= [.box nO [v],.own v 1 (iL s)]∧(Bd p=none∨Bd p=some s):=by
 intro σ hs;refine tY kZ ?_
 conv=>whnf
 repeat'((first|(apply sq;intro K U)|(apply si;intro A B Y Z)|(apply Y;clear Z B Y A)|(apply U;clear U K)|(intro nn hnn;generalize hg:A5 _ nn _=σ;refine CN hg fun hs=>?_;clear hg)|fail)<;>conv=>whnf)
 refine Bg ?_;refine(bc p nO).use (rest:=[.box nn [.b false]]) (hs.perm (.swap _ _ _)) ?_;clear hs hnn;rintro r post σ hq hs;unfold yZ at hq;cases h:Bd p with
 | none=>
   rw[h]at hq;obtain⟨rfl,v,s,rfl⟩:=hq
   conv=>whnf
   repeat'((first|(refine Z _ _ _ ?_;clear Z B Y A)|clear U K)<;>conv=>whnf)
   refine nh (rest:=[.box nO [v],.own v 1 (iL s)]) (hs.perm UB) fun σ hs=>?_
   conv=>whnf
   repeat'((first|refine ld ?_|fail)<;>conv=>whnf)
   exact AW ⟨_,⟨by rw[h];rfl,v,s,rfl,.inl h⟩,hs.less (K0 _ _)⟩
 | some s=>
   rw[h]at hq;obtain⟨rfl,v,rfl⟩:=hq
   conv=>whnf
   repeat'((first|apply st|(apply sq;intro K U)|(apply si;intro A B Y Z)|(apply Y;clear Z B Y A)|(apply U;clear U K)|refine Io fun σ hs=>?_|fail)<;>conv=>whnf)
   replace hs:Sat σ ([.box nO [v],.own v 1 (iL s)]++[.box nn [.b true]]):=hs;refine ni (x:= .b true) (rest:=[.box nO [v],.own v 1 (iL s)]) (hs.perm UB) fun σ hs=>?_
   conv=>whnf
   repeat'((first|refine ld ?_|fail)<;>conv=>whnf)
   exact AW ⟨_,⟨by rw[h];rfl,v,s,rfl,.inr h⟩,hs.less (K0 _ _)⟩
def iZ (p:Prog):B3 Tryz.prog 222 [.a (Be p)] [] fun r post=> ∃v s,r= .ret (.t [v,.b (Bd p).isSome])∧post= [.own v 1 (iL s)]∧(Bd p=none∨Bd p=some s):=by
 intro σ hs;refine uH kZ ?_
 conv=>whnf
 repeat'((first|(apply sq;intro K U)|(apply si;intro A B Y Z)|(apply Y;clear Z B Y A)|(apply U;clear U K)|(intro nn hnn;generalize hg:A5 _ nn _=σ;refine CN hg fun hs=>?_;clear hg)|fail)<;>conv=>whnf)
 refine(cn p nn).use (rest:=[]) (by simpa using hs) ?_;clear hs;rintro r post σ ⟨rfl,v,s,rfl,hl⟩ hs
 conv=>whnf
 repeat'((first|apply st|(apply sq;intro K U)|(apply si;intro A B Y Z)|(apply Y;clear Z B Y A)|(apply U;clear U K)|refine ld ?_|fail)<;>conv=>whnf)
 exact AW ⟨_,⟨v,s,rfl,rfl,hl⟩,hs.less (.cons _ (.cons₂ _ (MJ _)))⟩
def WO (p:Prog):Pure Tryz.prog 150 [.a (Be p)] (eI (if(Bd p).isSome then 0 else 2)):=by
 refine Pure.of ?_;have hz:=iZ p;cases h:(Bd p).isSome<;>rw[h]at hz
 all_goals
  refine u7 kZ ?_;have hs:=Sn
  conv=>whnf
  repeat'((first|apply st|(apply sq;intro K U)|(apply si;intro A B Y Z)|(apply Y;clear Z B Y A)|(apply U;clear U K)|refine⟨kZ,?_⟩|fail)<;>conv=>whnf)
  refine hz.use (rest:=[]) (by simpa using hs) ?_;clear hs;rintro r post σ ⟨v,s,rfl,rfl,-⟩ hs
  conv=>whnf
  repeat'((first|apply st|(apply sq;intro K U)|(apply si;intro A B Y Z)|(apply Y;clear Z B Y A)|(apply U;clear U K)|refine Iw ?_|refine GS ?_|clear U K)<;>conv=>whnf)
  exact AW rfl
def xS {p:Prog} (h:(Bd p).isSome=true):Bu p.AQ≤40:=by
 obtain⟨hh,-⟩:=Es h;simp only[C4,A9,Cf]at hh;exact(Ls hh.1).2.1
def vV {p:Prog} (h:(Bd p).isSome=true):p.AQ.length≤10:=by
 obtain⟨hh,-⟩:=Es h;simp only[C4,A9,Cf]at hh;exact(Ls hh.1).2.2
def Uy {p:Prog} (h:(Bd p).isSome=true):DH (AR p):=by
 obtain⟨hh,-⟩:=Es h;simp only[C4,A9,Cf]at hh;exact(Ls hh.1).1
def Tw (p:Prog):Pure Tryz.prog 92 [.a (Be p)] (if(Bd p).isSome then .t [.a (BC (AR p)),eI 0]else .t [.a [.l [] true,.l [] true],eI 2]):=by
 have hz:=WO p;have hM:=Mx;cases h:(Bd p).isSome<;>rw[h]at hz
 ·simp only[ML,if_false]at hz ⊢
  refine pG kZ ?_;have hs:=Sn
  conv=>whnf
  repeat'((first|apply st|(apply sq;intro K U)|(apply si;intro A B Y Z)|(apply Y;clear Z B Y A)|(apply U;clear U K)|refine⟨rfl,?_⟩|refine⟨kZ,?_⟩|refine ld ?_|refine Cg fun σ hs=>?_|refine hz.use ?_|(constructor<;>intro hc<;>(try rw[hc])<;>(replace hc:=bp hc)<;>try(exfalso;omega))|(intro nn hnn;generalize hg:A5 _ nn _=σ;refine CN hg fun hs=>?_;clear hg)|clear U K)<;>conv=>whnf)
  all_goals exact AI rfl
 ·simp only[if_true]at hz ⊢
  have hm:=xS h;have hc10:=vV h;refine pG kZ ?_;have hs:=Sn
  conv=>whnf
  repeat'((first|apply st|(apply sq;intro K U)|(apply si;intro A B Y Z)|(apply Y;clear Z B Y A)|(apply U;clear U K)|refine⟨rfl,?_⟩|refine⟨kZ,?_⟩|refine ld ?_|refine Cg fun σ hs=>?_|refine hz.use ?_|refine Pure.use (VC p (by omega) (by omega)) ?_|(constructor<;>intro hc<;>(try rw[hc])<;>(replace hc:=bp hc)<;>(try simp(disch:=omega) only[BT,wrap64,AN]at hc)<;>try(exfalso;omega))|(intro nn hnn;generalize hg:A5 _ nn _=σ;refine CN hg fun hs=>?_;clear hg)|fail)<;>conv=>whnf)
  all_goals exact AI rfl
end Go.Gl
namespace Go.Gl
open Go.Proofs
attribute [local irreducible] A7 Ap Af AT AM Ae AS AU AL Ad AO AP Aw A1 Sat AX Az Ah W
abbrev rkC (p:Prog) (L:Nat):List V:=Be p++(BC (AR p)++[.m L])
abbrev df (p:Prog) (L:Nat):V:= .rp (rkC p L)
def ia (p:Prog):B3 Tryz.prog 114 [.a (Be p)] [] fun r post=>if(Bd p).isSome then∃L,r= .ret (df p L)∧post= [.map L []]else r= .ret .pn∧post= []:=by
 intro σ hs;have hw:=Tw p;cases h:(Bd p).isSome<;>rw[h]at hw
 ·simp only[ML,if_false]at hw ⊢
  refine gd kZ ?_
  conv=>whnf
  repeat'((first|apply st|(apply sq;intro K U)|(apply si;intro A B Y Z)|(apply Y;clear Z B Y A)|(apply U;clear U K)|refine⟨rfl,?_⟩|refine⟨kZ,?_⟩|refine Cg fun σ hs=>?_|refine hw.use ?_|(constructor<;>intro hc<;>(try rw[hc])<;>(replace hc:=bp hc)<;>try(exfalso;omega))|(intro nn hnn;generalize hg:A5 _ nn _=σ;refine CN hg fun hs=>?_;clear hg)|clear U K)<;>conv=>whnf)
  exact AW ⟨_,⟨rfl,rfl⟩,hs.less (MJ _)⟩
 ·simp only[if_true]at hw ⊢
  refine gd kZ ?_
  conv=>whnf
  repeat'((first|apply st|(apply sq;intro K U)|(apply si;intro A B Y Z)|(apply Y;clear Z B Y A)|(apply U;clear U K)|refine⟨rfl,?_⟩|refine⟨kZ,?_⟩|refine ld ?_|refine Cg fun σ hs=>?_|refine hw.use ?_|(constructor<;>intro hc<;>(try rw[hc])<;>(replace hc:=bp hc)<;>(try simp(disch:=omega) only[BT,wrap64,AN]at hc)<;>try(exfalso;omega))|(intro nn hnn;generalize hg:A5 _ nn _=σ;refine CN hg fun hs=>?_;clear hg)|fail)<;>conv=>whnf)
  exact AW ⟨_,⟨nn,rfl,rfl⟩,hs.less (.cons₂ _ (MJ _))⟩
def N9 {g:FuncId} {fi ca:List V} {f:Int→Bool} {xs:List Int} (b:Bool) (h: ∀y∈xs,Pure Tryz.prog g (fi++[eI y]++ca) (.b (f y))):Pure Tryz.prog 49 [.l (iL xs) b,.f (.func g) fi ca] (.b (xs.any f)):=by
 have:=JQ g fi ca (fun _=>[]) (fun y (_:Unit)=>(f y,())) (fun y _=>y∈xs) (P2 fun y hy=>h y hy) xs b () (KT fun y hy _=>hy);rw[Lt]at this;exact Pure.of (A7.mono (this emp Sat.nil) fun r σ' ⟨post,⟨h1,h2⟩,h3⟩=>h1)
structure bD (T:List (List Bool)) (l:List Int):Prop where
 len:T.length≤16
 sq: ∀r∈T,r.length=T.length
 ins: ∀x∈l,0≤x∧x<(T.length:Int)
 many:l.length≤16
def bD.less {T:List (List Bool)} {l:List Int} (h:bD T l) (i:Nat):bD T (l.eraseIdx i):=
 ⟨h.len,h.sq,fun x hx=>h.ins x (List.mem_of_mem_eraseIdx hx),Nat.le_trans (List.length_eraseIdx_le _ _) h.many⟩
abbrev RW:=Nat×List Bool
structure qA (n:Nat) (R:List RW):Prop where
 len:R.length=n
 row: ∀r∈R,r.2.length=n
def qA.put {n:Nat} {R:List RW} {r:RW} (h:qA n R) {j k:Nat} {b:Bool} (hr:R[j]? =some r):qA n (R.set j (r.1,r.2.set k b)):=by
 refine⟨by rw[List.length_set];exact h.len,fun q hq=>?_⟩;rcases List.mem_or_eq_of_mem_set hq with hq|rfl
 ·exact h.row q hq
 ·rw[List.length_set];exact h.row r (DL hr)
structure rj (p:Prog) (l:List Int):Prop where
 ot: ∀x∈l,Dq p x=true
 alike: ∀x∈l,∀y∈l,gq p x y=true
 many:l.length≤16
abbrev pI (p:Int×Int):List V:=[eI p.1,eI p.2]
abbrev pP (l:List (Int×Int)):List (List V):=l.map pI
def gD:GX pI 2:=fun x=>⟨rfl,fun v hv=>by
 simp only[pI,F7,List.not_mem_nil,or_false]at hv
 rcases hv with rfl|rfl<;>rfl⟩
def Ju (p:Prog) (g:Int):Bool:=decide (0≤g)&&decide (g<(p.C1.length:Int))
def xb (p:Prog) (g:Int):Pure Tryz.prog 87 [.a (Be p),eI g] (.b (Ju p g)):=by
 refine Pure.fit (by kernel_rfl) fun hf=>?_
 have⟨p1,p2,p3,p4⟩:=GD hf.1;refine xv kZ ?_;have hs:=Sn
 conv=>whnf
 repeat'((first|apply st|(apply sq;intro K U)|(apply si;intro A B Y Z)|(apply Y;clear Z B Y A)|(apply U;clear U K)|refine⟨rfl,?_⟩|(constructor<;>intro hc<;>(try rw[hc])<;>(replace hc:=bp hc))|fail)<;>conv=>whnf)
 all_goals exact AI (by simp[Ju, *]<;>omega)
def xc (p:Prog) (L:Nat) (g:Int):Pure Tryz.prog 166 [df p L,eI g] (.b (Ju p g)):=by
 refine Pure.fit (by kernel_rfl) fun hf=>?_
 have hM:=Mx;refine gZ kZ ?_;have hs:=Sn
 conv=>whnf
 repeat'((first|apply st|(apply sq;intro K U)|(apply si;intro A B Y Z)|(apply Y;clear Z B Y A)|(apply U;clear U K)|refine⟨rfl,?_⟩|(constructor<;>intro hc<;>(try rw[hc])<;>(replace hc:=bp hc))|fail)<;>conv=>whnf)
 all_goals exact AI (by simp[Ju, *]<;>omega)
def sD (g:Int):Pure Tryz.prog 166 [.pn,eI g] (.b false):=by
 refine gZ kZ ?_;have hs:=Sn
 conv=>whnf
 repeat'((first|apply st|(apply sq;intro K U)|(apply si;intro A B Y Z)|(apply Y;clear Z B Y A)|(apply U;clear U K)|refine GS ?_|fail)<;>conv=>whnf)
 all_goals exact AI rfl
def y2 (p:Prog) (L:Nat) (g:Int):Pure Tryz.prog 172 [df p L,eI g] (.f (.func 244) [] [.rp [df p L],.rp [eI g]]):=by
 refine ug kZ ?_;have hs:=Sn
 conv=>whnf
 repeat'((first|apply st|(apply sq;intro K U)|(apply si;intro A B Y Z)|(apply Y;clear Z B Y A)|(apply U;clear U K)|fail)<;>conv=>whnf)
 all_goals exact AI rfl
end Go.Gl
