import Derived.Shelf.Sort.Plain
import Derived.Test.YtegbmnmnaijioaaGreatProg
import Derived.Test.YtegbmnmnaijioaaGreatA9
set_option linter.all false
set_option linter.defProp false
noncomputable section
namespace Go.Gl
open Go.Proofs
attribute [local irreducible] BC Aw Ai AV AM Ah AU AW AN Ag AQ AS A3 BA Sat Ab A8 Ak W
def kE (s c:Nat) (hs0:s<18446744073709551616) (hc:c<64):Pure Tryz.prog 366 [.a [eU s],eI c] (.a [eU (s|||2 ^ c)]):=by
 refine rO kZ ?_;have hs:=Sn
 conv=>whnf
 repeat'((first|apply st|(apply sq;intro K U)|(apply si;intro A B Y Z)|(apply Y;clear Z B Y A)|(apply U;clear U K)|apply dr|refine⟨rfl,?_⟩|refine⟨kZ,?_⟩|refine Wf ?_|refine ld ?_|refine GV fun σ hs=>?_|refine Cw fun σ hs=>?_|refine⟨Int.natCast_nonneg _,?_⟩|(intro nn hnn;generalize hg:A0 _ nn _=σ;refine CZ hg fun hs=>?_;clear hg)|fail)<;>conv=>whnf)
 refine AI ?_;simp only[Iv,Yo hc,Le hs0 (KQ hc)];rfl
def wG (s t:Nat) (hs0:s<18446744073709551616) (ht0:t<18446744073709551616):Pure Tryz.prog 367 [.a [eU s],.a [eU t]] (.a [eU (s|||t)]):=by
 refine rN kZ ?_;have hs:=Sn
 conv=>whnf
 repeat'((first|apply st|(apply sq;intro K U)|(apply si;intro A B Y Z)|(apply Y;clear Z B Y A)|(apply U;clear U K)|refine⟨rfl,?_⟩|refine⟨kZ,?_⟩|refine Wf ?_|refine iar ?_|refine ld ?_|refine GV fun σ hs=>?_|refine Cw fun σ hs=>?_|(intro nn hnn;generalize hg:A0 _ nn _=σ;refine CZ hg fun hs=>?_;clear hg)|fail)<;>conv=>whnf)
 refine AI ?_;simp only[Le hs0 ht0];rfl
def Uw (s:Nat) (c:Int) (hs0:s<18446744073709551616) (h0:0≤c) (hc:c<64):Pure Tryz.prog 366 [.a [eU s],eI c] (.a [eU (s|||2 ^ c.toNat)]):=by
 have:=kE s c.toNat hs0 (by omega);rw[Int.toNat_of_nonneg h0]at this;exact this
def LG {a b:Nat} (ha:a<18446744073709551616) (hb:b<18446744073709551616):a|||b<18446744073709551616:=by
 have:=Nat.or_lt_two_pow (n:=64) (x:=a) (y:=b) (by simpa using ha) (by simpa using hb);simpa using this
def Io (g:List (List Int)):List (List Int×Bool):=[([],true),([],true),([],true)]++g.map fun l=>(l,false)
def gh (g:List (List Int)):(Io g).length=3+g.length:=by simp[Io];omega
def Y1 (g:List (List Int)) {k:Nat} (hk:k<3+g.length): ∃b,(Io g)[k]? =some (A2 g (k:Int),b):=by
 unfold Io A2;by_cases h3:k<3
 ·rw[if_pos (by omega),jS (by simpa using h3)]
  refine⟨true,?_⟩;rcases k with _|_|_|k
  ·rfl
  ·rfl
  ·rfl
  ·omega
 ·rw[if_neg (by omega),List.getElem?_append_right (by simp;omega)]
  refine⟨false,?_⟩;simp only[K2,List.length_nil,MP];have e:((k:Int) - 3).toNat=k - (0+1+1+1):=by omega
  rw[e,DZ,C7 (by omega)];rfl
def lk:FD (fun u:Nat=>[eU u]) 1:=fun x=>⟨rfl,fun v hv=>by simp at hv;subst hv;rfl⟩
def wF {α:Type} {a b c d:α}: [a,b,c,d].Perm [b,d,a,c]:=by
 have h1: [a,b,c,d].Perm [b,a,c,d]:= .swap _ _ _;have h2: [a,c,d].Perm [d,a,c]:=Qu (l₁:=[a,c]) (l₂:=[d]);exact h1.trans (h2.cons b)
set_option maxHeartbeats 4000000 in
def k9 (g:List (List Int)) (f f2:Bool) (c:Int) (hg:Dq g=true) (hc0:0≤c) (hc1:c<3+g.length) :
    Bj Tryz.prog 353 [.l (Eh g) f,.l (iL [c]) f2] [] fun r post=> ∃n mm vp vu us M,r= .ret (.t [.p n 0,.b true])∧post=gH n mm vp vu (Io g) us M∧Ii g (3+g.length) M:=by
 intro σ hs;refine BC.fit (by kernel_rfl) fun hf=>?_
 have⟨g1,g2⟩:=TB hf.1;have hM:=Mx;have hG:=Dy hg;have hgl:=hG.1;have hfn:=ZZ g f;rw[hg]at hfn;have hc2: [c][0]? =some c:=rfl;have hpl:=gh g;refine rV kZ ?_
 conv=>whnf
 repeat'((first|apply st|(apply sq;intro K U)|(apply si;intro A B Y Z)|(apply Y;clear Z B Y A)|(apply U;clear U K)|refine FP ?_|refine hfn.use ?_|fail)<;>conv=>whnf)
 refine CA 1 (fun k (_:Unit)=>[(20,eI (BG k))]) (fun _ _=>[]) (fun _ _=>True) () rfl trivial hs ?_;clear hs;rintro k - σ hk - hs;have hkk:k=0∨k=1:=by omega
 rcases hkk with rfl|rfl
 ·conv=>whnf
  repeat'((first|apply st|(apply sq;intro K U)|(apply si;intro A B Y Z)|(apply Y;clear Z B Y A)|(apply U;clear U K)|refine⟨rfl,?_⟩|refine⟨kZ,?_⟩|refine ix ?_|(refine CU (fun hc=>?_)<;>(try rw[hc])<;>clear hc)|(constructor<;>intro hc<;>(try rw[hc])<;>(replace hc:=bp hc)<;>(try simp(disch:=omega) only[A9,wrap64,AK]at hc)<;>try(exfalso;omega))|clear U K)<;>conv=>whnf)
  all_goals try(exfalso;omega)
  exact⟨(),rfl,trivial,hs⟩
 ·have hke:1= [c].length:=rfl
  conv=>whnf
  repeat'((first|apply st|(apply sq;intro K U)|(apply si;intro A B Y Z)|(apply Y;clear Z B Y A)|(apply U;clear U K)|refine⟨rfl,?_⟩|(refine Dl (fun hc=>?_)<;>(try rw[hc])<;>clear hc)|clear U K)<;>conv=>whnf)
  rw[show IntKind.i64.wrap (3+((Eh g).length:Nat))=((3+g.length:Nat):Int) by rw[A9,wrap64 (by omega) (by omega)];omega];refine ju (n:=3) hs (by omega) (by omega) fun vp σ hs hv=>?_
  obtain⟨idp,rfl⟩:=hv
  conv=>whnf
  repeat'((first|(apply sq;intro K U)|(apply si;intro A B Y Z)|(apply Y;clear Z B Y A)|(apply U;clear U K)|refine ld ?_|(intro nn hnn;generalize hg:A0 _ nn _=σ;refine CZ hg fun hs=>?_;clear hg)|fail)<;>conv=>whnf)
  obtain⟨mm,hs⟩: ∃mm,Sat σ [.box nn [.sl idp 3 (3+g.length),.l [] true,.m mm],.map mm [],.own (.sl idp 3 (3+g.length)) 1 (List.replicate 3 [.l [] true])]:=⟨_,hs⟩
  generalize nn=n0 at *;have hgr:=DG DF g;refine hAppend hs 2 rfl (by simp;omega) hgr.1 hgr.2 fun vp σ hs=>?_
  have hps:List.replicate 3 [.l [] true]++Eh g=pL (Io g):=by simp[pL,Io,List.replicate,Eh]
  rw[hps]at hs;clear hps;have hs1p:=Gw hs 2 rfl
  conv=>whnf
  repeat'((first|apply st|(apply sq;intro K U)|(apply si;intro A B Y Z)|(apply Y;clear Z B Y A)|(apply U;clear U K)|refine lo ?_|refine ld ?_|refine GV fun σ hs=>?_|fail)<;>conv=>whnf)
  replace hs:Sat σ [.box n0 [vp,.l [] true,.m mm],.map mm [],.own vp 1 (pL (Io g))]:=hs;refine CA (Io g).length (fun k (_:V×List Nat)=>[(55,eI (BG k))]) (fun _ x=>[.own x.1 1 (x.2.map fun u=>[eU u]),.box n0 [vp,x.1,.m mm],.map mm [],.own vp 1 (pL (Io g))]) (fun k x=>x.2.length=k∧ ∀u∈x.2,u<18446744073709551616) (.l [] true,[]) rfl ⟨rfl,fun u hu=>by cases hu⟩ (DA hs 1) ?_;clear hs;rintro k ⟨vu,us⟩ σ hk ⟨hul,hus⟩ hs;dsimp only at hul hus hs;rcases BI (Io g) hk with⟨⟨l,lb⟩,hl,hlt⟩|hke2
  ·have hck:BG k=k:=AK (by omega)
   obtain⟨b',hpa⟩:=Y1 g (k:=k) (by omega);have hle:l=A2 g (k:Int):=by rw[hl]at hpa;exact(Prod.mk.inj (Option.some.inj hpa)).1
   have hll:=C5 hG (k:Int);rw[←hle]at hll;have hlm: ∀p∈l,3≤p∧p<(k:Int):=fun p hp=>DY hG (by rw[←hle];exact hp)
   have hs1:(0|||2 ^ (BG k).toNat)<18446744073709551616:=by
    rw[Nat.zero_or,hck,Iv];exact KQ (by omega)
   have hs1u:=Gw hs 0 rfl;have hl':(Io g)[(BG k).toNat]? =some (l,lb):=by rw[hck,Iv];exact hl
   conv=>whnf
   repeat'((first|apply st|(apply sq;intro K U)|(apply si;intro A B Y Z)|(apply Y;clear Z B Y A)|(apply U;clear U K)|refine⟨rfl,?_⟩|refine Cw fun σ hs=>?_|refine oi ?_|refine Oc ?_|(refine CU (fun hc=>?_)<;>(try rw[hc])<;>clear hc)|refine Pure.use (Uw 0 (BG k) (by decide) (by omega) (by omega)) ?_|refine Pure.use (Uw _ _ (by first|omega|exact hs1) (by omega) (by omega)) ?_|(intro nn hnn;generalize hg:A0 _ nn _=σ;refine CZ hg fun hs=>?_;clear hg)|fail)<;>conv=>whnf)
   have hs0:(0|||2 ^ (BG k).toNat|||2 ^ Int.toNat 0)<18446744073709551616:=LG hs1 (by decide);generalize (0|||2 ^ (BG k).toNat|||2 ^ Int.toNat 0)=s0 at *;refine CA l.length (fun j (_:Nat)=>[(66,eI (BG j))]) (fun _ s=>[.box nn [eU s],.own vu 1 (us.map fun u=>[eU u]),.box n0 [vp,vu,.m mm],.map mm [],.own vp 1 (pL (Io g))]) (fun _ s=>s<18446744073709551616) s0 rfl hs0 hs ?_;clear hs hs0;rintro j s σ hj hsb hs;rcases BI l hj with⟨p,hp,hjlt⟩|hje
   ·obtain⟨hp3,hpk⟩:=hlm p (B9 hp)
    obtain⟨u,hu⟩: ∃u,us[p.toNat]? =some u:=⟨_,C7 (by omega)⟩
    have hub:=hus u (B9 hu)
    conv=>whnf
    repeat'((first|apply st|(apply sq;intro K U)|(apply si;intro A B Y Z)|(apply Y;clear Z B Y A)|(apply U;clear U K)|apply dr|refine⟨rfl,?_⟩|refine⟨kZ,?_⟩|refine ix ?_|refine ld ?_|refine Cw fun σ hs=>?_|refine oi ?_|refine Oc ?_|(refine CU (fun hc=>?_)<;>(try rw[hc])<;>clear hc)|refine Pure.use (wG _ _ hsb hub) ?_|clear U K)<;>conv=>whnf)
    exact⟨hjlt,s|||u,rfl,LG hsb hub,hs⟩
   ·conv=>whnf
    repeat'((first|apply st|(apply sq;intro K U)|(apply si;intro A B Y Z)|(apply Y;clear Z B Y A)|(apply U;clear U K)|apply dr|refine⟨rfl,?_⟩|refine⟨kZ,?_⟩|refine ld ?_|(refine Dl (fun hc=>?_)<;>(try rw[hc])<;>clear hc)|clear U K)<;>conv=>whnf)
    refine GL (Fk hs 1 (enc:=fun u:Nat=>[eU u]) (xs:=us) (x:=s) rfl (by omega) lk fun vu' σ hs hsl=>?_);have hs2u:=Gw hs 1 rfl
    conv=>whnf
    repeat'((first|(apply si;intro A B Y Z)|(apply Y;clear Z B Y A)|(apply U;clear U K)|apply dr|refine⟨rfl,?_⟩|refine GV fun σ hs=>?_|clear U K)<;>conv=>whnf)
    refine⟨hlt,(vu',us++[s]),rfl,⟨by simp[hul],fun u hu=>?_⟩,hs.less (Jz _ _)⟩;rcases E7.1 hu with hu|hu
    ·exact hus u hu
    ·rw[Kz.1 hu];exact hsb
  ·have hs1u:=Gw hs 0 rfl
   conv=>whnf
   repeat'((first|apply st|(apply sq;intro K U)|(apply si;intro A B Y Z)|(apply Y;clear Z B Y A)|(apply U;clear U K)|refine⟨rfl,?_⟩|refine lo ?_|refine ld ?_|(refine Dl (fun hc=>?_)<;>(try rw[hc])<;>clear hc)|clear U K)<;>conv=>whnf)
   replace hs:Sat σ (gH n0 mm vp vu (Io g) us []):=hs.perm wF;refine CA (Io g).length (fun k (_:List Ord)=>[(96,eI (BG k))]) (fun _ M=>gH n0 mm vp vu (Io g) us M) (fun k M=>Ii g k M) [] rfl Ii.nil hs ?_;clear hs;rintro k M σ hk hkn hs;rcases BI (Io g) hk with⟨⟨l,lb⟩,hl,hlt⟩|hke3
   ·have hck:BG k=k:=AK (by omega)
    obtain⟨b',hpa⟩:=Y1 g (k:=k) (by omega);have hle:l=A2 g (k:Int):=by rw[hl]at hpa;exact(Prod.mk.inj (Option.some.inj hpa)).1
    have hll:=C5 hG (k:Int);rw[←hle]at hll;have hlm: ∀p∈l,3≤p∧p<(k:Int):=fun p hp=>DY hG (by rw[←hle];exact hp)
    have hlo:=bR hG hkn hll (fun x hx=>by have:=hlm x hx;omega);have hord:=gl n0 mm vp vu (Io g) us M (BG k) l lb (by omega) (by rw[hck,Iv];exact hl) hll (fun c=>by have:=(Lq hG hkn c).1;omega) (fun e he=>by have:=hkn.keys e he;omega) hlo.1 hlo.2
    conv=>whnf
    repeat'((first|apply st|(apply sq;intro K U)|(apply si;intro A B Y Z)|(apply Y;clear Z B Y A)|(apply U;clear U K)|refine⟨rfl,?_⟩|(refine CU (fun hc=>?_)<;>(try rw[hc])<;>clear hc)|fail)<;>conv=>whnf)
    refine hord.use (rest:=[]) (by simpa using hs) ?_;clear hs;rintro r post σ ⟨rfl,M',rfl,hM'⟩ hs;rw[Im]at hs;rw[hck]at hM'
    conv=>whnf
    repeat'((first|(apply si;intro A B Y Z)|(apply Y;clear Z B Y A)|(apply U;clear U K)|refine⟨rfl,?_⟩|clear U K)<;>conv=>whnf)
    exact⟨hlt,M',rfl,hkn.step hle (fun p hp=>by have:=hlm p hp;omega) (by omega) hM',hs⟩
   ·conv=>whnf
    repeat'((first|apply st|(apply sq;intro K U)|(apply si;intro A B Y Z)|(apply Y;clear Z B Y A)|(apply U;clear U K)|refine⟨rfl,?_⟩|(refine Dl (fun hc=>?_)<;>(try rw[hc])<;>clear hc)|clear U K)<;>conv=>whnf)
    exact Av hs (List.Sublist.refl _) (.refl _) fun σ' hs'=>⟨_,⟨_,_,_,_,_,_,rfl,rfl,by rw[←hpl,←hke3];exact hkn⟩,hs'⟩
def uV {M:List Ord} {c:Int} {σ:AH} {fx:List At} (hs:Sat σ (fx++M.map dG)) (hl:(CD M c).length≤Ad) (hne:CD M c≠[]) {k kp:V→AH→Prop} (hk: ∀σ',Sat σ' (fx++M.map dG)→k (.l (iL (CD M c)) false) σ'):BC Tryz.prog 200 [Ix M c] σ (qk k kp):=by
 rcases PF M c with⟨h1,h2⟩|⟨j,hj⟩
 ·exact absurd h1 hne
 ·have hj':(fx++M.map dG)[fx.length+j]? =some (At.own (Ix M c) 1 (iL (CD M c))):=by
   rw[List.getElem?_append_right (by omega),Nat.add_sub_cancel_left,hj]
  have hcl:Bj Tryz.prog 200 [Ix M c] [.own (Ix M c) 1 (iL (CD M c))] fun r post=>r= .ret (.l (iL (CD M c)) false)∧post= [.own (Ix M c) 1 (iL (CD M c))]:=by
   clear hk hj' hj;generalize Ix M c=v at *;generalize CD M c=l at *;intro σ hs;refine fV kZ ?_;have hgr:=DG Bk l
   have hend: ∀ {σ:AH} {w u:V},Sat σ [.own w 1 (iL l),.own u 1 (iL l)]→Aw σ w fun r σ'=> ∃post,(r= .ret (.l (iL l) false)∧post= [.own u 1 (iL l)])∧Sat σ' post:=fun hs=>by
    obtain⟨σ2,h1,h2,h3⟩:=I5 hs 0 rfl;exact Gp h1 h2 ⟨_,⟨rfl,rfl⟩,h3⟩
   have hM:=Mx;rcases hs.get (i:=0) rfl with⟨rfl,_⟩|⟨n,cap,rfl,hn⟩
   ·conv=>whnf
    repeat'((first|(apply sq;intro K U)|(apply si;intro A B Y Z)|(apply Y;clear Z B Y A)|(apply U;clear U K)|fail)<;>conv=>whnf)
    refine⟨fun e=>absurd (List.map_eq_nil_iff.1 e) hne,fun _=>?_⟩
    conv=>whnf
    repeat'((first|apply st|(apply sq;intro K U)|(apply si;intro A B Y Z)|(apply Y;clear Z B Y A)|(apply U;clear U K)|fail)<;>conv=>whnf)
    replace hs:=DA hs 1;refine Tg hs 0 1 rfl rfl (by simp;omega) hgr.1 hgr.2 fun w σ hs=>?_
    conv=>whnf
    repeat'((first|apply st|(apply Y;clear Z B Y A)|(apply U;clear U K)|fail)<;>conv=>whnf)
    exact hend hs
   ·conv=>whnf
    repeat'((first|apply st|(apply sq;intro K U)|(apply si;intro A B Y Z)|(apply Y;clear Z B Y A)|(apply U;clear U K)|fail)<;>conv=>whnf)
    replace hs:=DA hs 1;refine Tg hs 0 1 rfl rfl (by simp;omega) hgr.1 hgr.2 fun w σ hs=>?_
    conv=>whnf
    repeat'((first|apply st|(apply Y;clear Z B Y A)|(apply U;clear U K)|fail)<;>conv=>whnf)
    exact hend hs
  refine hcl.nK (Φ:=fun r=>r= .ret (.l (iL (CD M c)) false)) hs hj' ?_;rintro r σ' rfl hs';exact hk σ' hs'
def qW (g:List (List Int)) (f:Bool) (c:Int) (hg:Dq g=true) (hc0:0≤c) (hc1:c<3+g.length) :
    Pure Tryz.prog 324 [.l (Eh g) f,eI c] (if((B7 g).getD c.toNat []).isEmpty then .t [.l [] true,eI 7]else .t [.l (iL ((B7 g).getD c.toNat [])) false,eI 0]):=by
 have hop:=k9 g f true c hg hc0 hc1;refine r8 kZ ?_;have hs:=Sn;have hM:=Mx;have hG:=Dy hg
 conv=>whnf
 repeat'((first|(apply sq;intro K U)|(apply si;intro A B Y Z)|(apply Y;clear Z B Y A)|(apply U;clear U K)|fail)<;>conv=>whnf)
 refine hop.use (rest:=[]) hs ?_;clear hs;rintro r post σ ⟨n,mm,vp,vu,us,M,rfl,rfl,hkn⟩ hs;rw[Im]at hs;have hol:=(Lq hG hkn c).1;have hor:=hkn.dT c hc0 (by omega);by_cases hne:CD M c= []
 ·have hl0:(CD M c).length=0:=by rw[hne];rfl
  conv=>whnf
  repeat'((first|apply st|(apply sq;intro K U)|(apply si;intro A B Y Z)|(apply Y;clear Z B Y A)|(apply U;clear U K)|refine⟨rfl,?_⟩|refine ld ?_|refine FP ?_|refine xx ?_|refine PG (fx:=_::_::_::_:: []) hs (by omega) ?_|(constructor<;>intro hc<;>(try rw[hc])<;>(replace hc:=bp hc)<;>try(exfalso;omega))|clear U K)<;>conv=>whnf)
  all_goals try(exfalso;omega)
  rw[←hor,hne];exact AI rfl
 ·have hl0:0<(CD M c).length:=List.length_pos_iff.2 hne
  conv=>whnf
  repeat'((first|apply st|(apply sq;intro K U)|(apply si;intro A B Y Z)|(apply Y;clear Z B Y A)|(apply U;clear U K)|refine⟨rfl,?_⟩|refine ld ?_|refine FP ?_|refine xx ?_|refine PG (fx:=_::_::_::_:: []) hs (by omega) ?_|(constructor<;>intro hc<;>(try rw[hc])<;>(replace hc:=bp hc)<;>try(exfalso;omega))|fail)<;>conv=>whnf)
  all_goals try(exfalso;omega)
  refine uV (fx:=_::_::_::_:: []) hs (by omega) hne fun σ hs=>?_
  conv=>whnf
  repeat'((first|apply st|(apply Y;clear Z B Y A)|(apply U;clear U K)|fail)<;>conv=>whnf)
  rw[←hor]
  have:(CD M c).isEmpty=false:=by
   cases h:(CD M c).isEmpty
   ·rfl
   ·exact absurd (List.isEmpty_iff.1 h) hne
  rw[this];exact AI rfl
def Vj (xs:List Int) (f:Bool):Pure Tryz.prog 200 [.l (iL xs) f] (.l (iL xs) false):=by
 refine Pure.fit (by kernel_rfl) fun hf=>?_
 have hxl:=JF hf.1;have hM:=Mx;refine fV kZ ?_;have hs:=Sn
 conv=>whnf
 repeat'((first|(apply sq;intro K U)|(apply si;intro A B Y Z)|(apply Y;clear Z B Y A)|(apply U;clear U K)|fail)<;>conv=>whnf)
 refine⟨fun e t=>?_,fun _=>?_⟩
 ·have hx:xs= []:=List.map_eq_nil_iff.1 e
  subst hx
  conv=>whnf
  repeat'((first|apply st|(apply sq;intro K U)|(apply si;intro A B Y Z)|(apply Y;clear Z B Y A)|(apply U;clear U K)|(constructor<;>intro hc<;>(try rw[hc])<;>(replace hc:=bp hc))|clear U K)<;>conv=>whnf)
  ·exact Al Cy
  ·replace hs:=DA hs 1
   refine HU hs 0 (xs:=[]) (ys:=[]) rfl (by simp) Bk fun v σ hs=>?_
   conv=>whnf
   repeat'((first|apply st|(apply Y;clear Z B Y A)|(apply U;clear U K)|fail)<;>conv=>whnf)
   exact EK hs 0 rfl rfl
 ·conv=>whnf
  repeat'((first|apply st|(apply sq;intro K U)|(apply si;intro A B Y Z)|(apply Y;clear Z B Y A)|(apply U;clear U K)|fail)<;>conv=>whnf)
  replace hs:=DA hs 1;refine HU hs 0 (xs:=[]) (ys:=xs) rfl (by simp;omega) Bk fun v σ hs=>?_
  conv=>whnf
  repeat'((first|apply st|(apply Y;clear Z B Y A)|(apply U;clear U K)|fail)<;>conv=>whnf)
  exact EK hs 0 rfl rfl
def px (c:Qa):Pure Tryz.prog 290 [.a (UT c)] (.l (iL c.parents) false):=by
 refine sY kZ ?_;have hs:=Sn
 conv=>whnf
 repeat'((first|apply st|(apply sq;intro K U)|(apply si;intro A B Y Z)|(apply Y;clear Z B Y A)|(apply U;clear U K)|refine Pure.use (Vj _ _) ?_|fail)<;>conv=>whnf)
 exact AI rfl
def mf (xs:List (List Int)) (v:V) (hl:xs.length≤Ad):Bj Tryz.prog 329 [v] [.own v 1 (Eh xs)] fun r post=>r= .ret (.l (Eh xs) true)∧post= []:=by
 intro σ hs;have hg:=DG DF xs;refine ru kZ ?_
 conv=>whnf
 repeat'((first|(apply sq;intro K U)|(apply si;intro A B Y Z)|(apply Y;clear Z B Y A)|(apply U;clear U K)|refine lo ?_|fail)<;>conv=>whnf)
 refine oF (i:=0) hs rfl hg.1 (by simpa using hl) fun σ hs=>?_
 conv=>whnf
 repeat'((first|apply st|(apply Y;clear Z B Y A)|(apply U;clear U K)|fail)<;>conv=>whnf)
 exact Av hs (List.Sublist.refl _) (.refl _) fun σ' hs'=>⟨_,⟨rfl,rfl⟩,hs'⟩
def PD (xs:List Int) (v:V) (hl:xs.length≤Ad):Bj Tryz.prog 242 [v] [.own v 1 (iL xs)] fun r post=>r= .ret (.l (iL xs) true)∧post= []:=by
 intro σ hs;have hg:=DG Bk xs;refine fU kZ ?_
 conv=>whnf
 repeat'((first|(apply sq;intro K U)|(apply si;intro A B Y Z)|(apply Y;clear Z B Y A)|(apply U;clear U K)|refine lo ?_|fail)<;>conv=>whnf)
 refine oF (i:=0) hs rfl hg.1 (by simpa using hl) fun σ hs=>?_
 conv=>whnf
 repeat'((first|apply st|(apply Y;clear Z B Y A)|(apply U;clear U K)|fail)<;>conv=>whnf)
 exact Av hs (List.Sublist.refl _) (.refl _) fun σ' hs'=>⟨_,⟨rfl,rfl⟩,hs'⟩
def mL (cs:List Qa) (hl:cs.length≤1000000):Pure Tryz.prog 289 [.l (cs.map UT) false,.f (.func 290) [] []] (.l (Eh (cs.map (·.parents))) false):=by
 have hM:=Mx;refine sZ kZ ?_;have hs:=Sn
 conv=>whnf
 repeat'((first|apply st|(apply sq;intro K U)|(apply si;intro A B Y Z)|(apply Y;clear Z B Y A)|(apply U;clear U K)|fail)<;>conv=>whnf)
 refine CA cs.length (fun k v=>[(5,v),(10,eI (BG k))]) (fun k v=>[.own v 1 (Eh ((cs.take k).map (·.parents)))]) (fun _ _=>True) (.l [] true) rfl trivial (DA hs 1) ?_;clear hs;rintro k v σ hk - hs;rcases BI cs hk with⟨c,hc,hlt⟩|hke
 ·conv=>whnf
  repeat'((first|apply st|(apply sq;intro K U)|(apply si;intro A B Y Z)|(apply Y;clear Z B Y A)|(apply U;clear U K)|refine⟨rfl,?_⟩|refine⟨kZ,?_⟩|refine ix ?_|refine ld ?_|refine Cw fun σ hs=>?_|(refine CU (fun hc=>?_)<;>(try rw[hc])<;>clear hc)|(intro nn hnn;generalize hg:A0 _ nn _=σ;refine CZ hg fun hs=>?_;clear hg)|fail)<;>conv=>whnf)
  refine B2 ((px c).use ?_)
  conv=>whnf
  repeat'((first|(apply si;intro A B Y Z)|(apply Y;clear Z B Y A)|(apply U;clear U K)|refine⟨rfl,?_⟩|refine aq fun v σ hs hsl=>?_|clear U K)<;>conv=>whnf)
  exact⟨hlt,_,rfl,trivial,by rw[AO hc,Sd];exact hs.less (Jz _ _)⟩
 ·rw[Ap hke]at hs
  conv=>whnf
  repeat'((first|apply st|(apply sq;intro K U)|(apply si;intro A B Y Z)|(apply Y;clear Z B Y A)|(apply U;clear U K)|refine⟨rfl,?_⟩|(refine Dl (fun hc=>?_)<;>(try rw[hc])<;>clear hc)|clear U K)<;>conv=>whnf)
  refine(mf (cs.map (·.parents)) v (by simp;omega)).use (rest:=[]) hs ?_;clear hs;rintro r post σ ⟨rfl,rfl⟩ hs
  conv=>whnf
  repeat'((first|apply st|(apply Y;clear Z B Y A)|(apply U;clear U K)|fail)<;>conv=>whnf)
  exact Al dw
def Lx (p:Prog) (hk0:p.AP.length≤1000):Pure Tryz.prog 223 [.a (BR p)] (.l (Eh (A4 p)) false):=by
 refine Pure.fit (by kernel_rfl) fun hf=>?_
 have F:=HV hf.1;refine tU kZ ?_;have hs:=Sn
 conv=>whnf
 repeat'((first|apply st|(apply sq;intro K U)|(apply si;intro A B Y Z)|(apply Y;clear Z B Y A)|(apply U;clear U K)|fail)<;>conv=>whnf)
 refine(mL p.AP (by omega)).use ?_
 conv=>whnf
 repeat'((first|apply st|(apply Y;clear Z B Y A)|(apply U;clear U K)|fail)<;>conv=>whnf)
 exact AI rfl
def Uv (p:Prog) (hk0:p.AP.length≤1000) (hm:Bp p.AP≤Ad):Pure Tryz.prog 151 [.a (BR p)] (.a (A7 (AR p))):=by
 refine Pure.fit (by kernel_rfl) fun hf=>?_
 have F:=HV hf.1;have hcl:=F.1;have hM:=Mx;refine uD kZ ?_;have hs:=Sn
 conv=>whnf
 repeat'((first|apply st|(apply sq;intro K U)|(apply si;intro A B Y Z)|(apply Y;clear Z B Y A)|(apply U;clear U K)|refine⟨kZ,?_⟩|refine Cw fun σ hs=>?_|refine Pure.use (Lx _ hk0) ?_|(intro nn hnn;generalize hg:A0 _ nn _=σ;refine CZ hg fun hs=>?_;clear hg)|fail)<;>conv=>whnf)
 rename_i n2 _ _ _ _ _
 rename Nat=>n3
 replace hs:Sat σ [.box n3 [.l (Eh (A4 p)) false,.l [] true],.box n2 [.l [] true,.l [] true]]:=hs;refine CA p.AP.length (fun k (_:V)=>[(12,eI (BG k))]) (fun k v=>[.own v 1 (iL (BV 0 (p.AP.take k))),.box n3 [.l (Eh (A4 p)) false,v],.box n2 [.l [] true,.l [] true]]) (fun _ _=>True) (.l [] true) rfl trivial (DA hs 1) ?_;clear hs;rintro k v σ hk - hs;rcases BI p.AP hk with⟨c,hc,hlt⟩|hke
 ·have hcm:=F.2 c (B9 hc)
  have htk:=P8 hc;have hck:BG k=k:=AK (by omega)
  have hap:BV 0 (p.AP.take (k+1))=BV 0 (p.AP.take k)++List.replicate c.AJ.length ((k:Int)+3):=by
   rw[AO hc,Ik];have:(p.AP.take k).length=k:=by simp;omega
   rw[this];simp[BV]
  have hol:=Ce 0 (p.AP.take k);have hw3:IntKind.i64.wrap (BG k+3)=(k:Int)+3:=by rw[hck,wrap64 (by omega) (by omega)]
  have hcs:=hcm.2.1;generalize BV 0 (p.AP.take k)=os at *
  conv=>whnf
  repeat'((first|apply st|(apply sq;intro K U)|(apply si;intro A B Y Z)|(apply Y;clear Z B Y A)|(apply U;clear U K)|refine⟨rfl,?_⟩|refine⟨kZ,?_⟩|refine ix ?_|refine ld ?_|refine Cw fun σ hs=>?_|(refine CU (fun hc=>?_)<;>(try rw[hc])<;>clear hc)|(intro nn hnn;generalize hg:A0 _ nn _=σ;refine CZ hg fun hs=>?_;clear hg)|fail)<;>conv=>whnf)
  refine CA c.AJ.length (fun j (_:V)=>[(20,eI (BG j))]) (fun j v=>[.own v 1 (iL (os++List.replicate j ((k:Int)+3))),.box n3 [.l (Eh (A4 p)) false,v],.box n2 [.l [] true,.l [] true]]) (fun _ _=>True) v rfl trivial (by simpa using hs.less (Jz _ _)) ?_;clear hs;rintro j v σ hj - hs;rcases BI c.AJ hj with⟨s,hsl,hjlt⟩|hje
  ·have hsv0:=Gw hs 0 rfl
   conv=>whnf
   repeat'((first|apply st|(apply sq;intro K U)|(apply si;intro A B Y Z)|(apply Y;clear Z B Y A)|(apply U;clear U K)|refine⟨rfl,?_⟩|refine ld ?_|refine GV fun σ hs=>?_|refine aq fun v σ hs hsl=>?_|(refine CU (fun hc=>?_)<;>(try rw[hc])<;>clear hc)|clear U K)<;>conv=>whnf)
   have hsv:=Gw hs 0 rfl
   conv=>whnf
   refine⟨hjlt,v,rfl,trivial,?_⟩;rw[List.replicate_succ',←Wd];rw[hw3]at hs;exact hs
  ·conv=>whnf
   repeat'((first|apply st|(apply sq;intro K U)|(apply si;intro A B Y Z)|(apply Y;clear Z B Y A)|(apply U;clear U K)|refine⟨rfl,?_⟩|(refine Dl (fun hc=>?_)<;>(try rw[hc])<;>clear hc)|clear U K)<;>conv=>whnf)
   exact⟨hlt,v,rfl,trivial,by rw[hap,←hje];exact hs⟩
 ·rw[Ap hke]at hs
  have hsv:=Gw hs 0 rfl
  conv=>whnf
  repeat'((first|apply st|(apply sq;intro K U)|(apply si;intro A B Y Z)|(apply Y;clear Z B Y A)|(apply U;clear U K)|refine⟨rfl,?_⟩|refine⟨kZ,?_⟩|refine ld ?_|refine Cw fun σ hs=>?_|(refine Dl (fun hc=>?_)<;>(try rw[hc])<;>clear hc)|clear U K)<;>conv=>whnf)
  exact Al (.a (.cons (.refl _) (.cons (hs.GX 0 rfl) .nil)))
end Go.Gl
namespace Go.Proofs
open Go.Shelf
def Tryz.WH:Go.Shelf.Ren:=⟨fun|189=>268|125=>315|257=>314|128=>348|129=>349|294=>339|295=>340|296=>341|297=>342|298=>343|299=>344|216=>345|300=>346|301=>347|328=>360|329=>361|330=>362|331=>363|332=>364|215=>162|343=>375|n=>n,fun|28=>23|3=>3|46=>222|0=>0|51=>318|53=>139|4=>4|183=>394|182=>393|131=>266|5=>5|9=>9|218=>413|222=>329|228=>428|229=>429|n=>n,fun|n=>n⟩
def Tryz.lO:Go.Proofs.Lays.n189 Tryz.prog Tryz.WH:={
 mixed:=by kernel_rfl
 f125:=Tryz.func315.trans (congrArg some (by kernel_rfl))
 f128:=Tryz.func348.trans (congrArg some (by kernel_rfl))
 f129:=Tryz.func349.trans (congrArg some (by kernel_rfl))
 f189:=Tryz.func268.trans (congrArg some (by kernel_rfl))
 f215:=Tryz.func162.trans (congrArg some (by kernel_rfl))
 f216:=Tryz.func345.trans (congrArg some (by kernel_rfl))
 f257:=Tryz.func314.trans (congrArg some (by kernel_rfl))
 f294:=Tryz.func339.trans (congrArg some (by kernel_rfl))
 f295:=Tryz.func340.trans (congrArg some (by kernel_rfl))
 f296:=Tryz.func341.trans (congrArg some (by kernel_rfl))
 f297:=Tryz.func342.trans (congrArg some (by kernel_rfl))
 f298:=Tryz.func343.trans (congrArg some (by kernel_rfl))
 f299:=Tryz.func344.trans (congrArg some (by kernel_rfl))
 f300:=Tryz.func346.trans (congrArg some (by kernel_rfl))
 f301:=Tryz.func347.trans (congrArg some (by kernel_rfl))
 f328:=Tryz.func360.trans (congrArg some (by kernel_rfl))
 f329:=Tryz.func361.trans (congrArg some (by kernel_rfl))
 f330:=Tryz.func362.trans (congrArg some (by kernel_rfl))
 f331:=Tryz.func363.trans (congrArg some (by kernel_rfl))
 f332:=Tryz.func364.trans (congrArg some (by kernel_rfl))
 f343:=Tryz.func375.trans (congrArg some (by kernel_rfl))
 t0:=Tryz.underlying0
 a0:=Tryz.isAgg0
 z0:=Tryz.sizeOf0
 v0:=Tryz.zeroValue0
 t3:=Tryz.underlying3
 a3:=Tryz.isAgg3
 z3:=Tryz.sizeOf3
 v3:=Tryz.zeroValue3
 t4:=Tryz.underlying4
 a4:=Tryz.isAgg4
 z4:=Tryz.sizeOf4
 v4:=Tryz.zeroValue4
 t5:=Tryz.underlying5
 a5:=Tryz.isAgg5
 z5:=Tryz.sizeOf5
 v5:=Tryz.zeroValue5
 t9:=Tryz.underlying9
 a9:=Tryz.isAgg9
 z9:=Tryz.sizeOf9
 v9:=Tryz.zeroValue9
 t28:=Tryz.underlying23
 a28:=Tryz.isAgg23
 z28:=Tryz.sizeOf23
 v28:=Tryz.zeroValue23
 t46:=Tryz.underlying222
 a46:=Tryz.isAgg222
 z46:=Tryz.sizeOf222
 v46:=Tryz.zeroValue222
 t51:=Tryz.underlying318
 a51:=Tryz.isAgg318
 z51:=Tryz.sizeOf318
 v51:=Tryz.zeroValue318
 t53:=Tryz.underlying139
 a53:=Tryz.isAgg139
 z53:=Tryz.sizeOf139
 v53:=Tryz.zeroValue139
 t131:=Tryz.underlying266
 a131:=Tryz.isAgg266
 z131:=Tryz.sizeOf266
 v131:=Tryz.zeroValue266
 t182:=Tryz.underlying393
 a182:=Tryz.isAgg393
 z182:=Tryz.sizeOf393
 v182:=Tryz.zeroValue393
 t183:=Tryz.underlying394
 a183:=Tryz.isAgg394
 z183:=Tryz.sizeOf394
 v183:=Tryz.zeroValue394
 t218:=Tryz.underlying413
 a218:=Tryz.isAgg413
 z218:=Tryz.sizeOf413
 v218:=Tryz.zeroValue413
 t222:=Tryz.underlying329
 a222:=Tryz.isAgg329
 z222:=Tryz.sizeOf329
 v222:=Tryz.zeroValue329
 t228:=Tryz.underlying428
 a228:=Tryz.isAgg428
 z228:=Tryz.sizeOf428
 v228:=Tryz.zeroValue428
 t229:=Tryz.underlying429
 a229:=Tryz.isAgg429
 z229:=Tryz.sizeOf429
 v229:=Tryz.zeroValue429}
end Go.Proofs
namespace Go.Gl
open Go.Proofs Go.Shelf
abbrev HF (x y:Int):Bool:=decide (x≤y)
def gX {P:Program} {f:FuncId} (hok:okF P f=true)
    (hc: ∀(blk cap:Nat) (zs:List Int) (w:World),Sort.Holds (Value.int .i64) w blk 0 zs.toArray→blk<w.heap.size→zs.length<4611686018427387904→
     Calls P f #[.slice (some ⟨blk,0,none⟩) zs.length cap] w fun e w'=>e= .returned (.tuple #[])∧ ∃n os,w'=Sort.grow (Sort.putRow (Value.int .i64) (Sort.ahead w n) blk 0 (zs.mergeSort fun x y=>decide (x≤y)).toArray) os)
    (xs:List Int) (n len cap:Nat):Bj P f [.sl n len cap] [.own (.sl n len cap) 1 (iL xs)] fun r post=>r= .ret (.t [])∧post= [.own (.sl n len cap) 1 (iL (xs.mergeSort HF))]:=by
 intro σ hs;refine⟨hok,fun Λ w cs G hv=>?_⟩;rcases hs.get (i:=0) rfl with⟨h,_⟩|⟨n',cap',h,hn⟩
 ·cases h
 cases h;rw[A9]at hv;obtain⟨c,e,hb,h1,h2,h3,h4⟩:=Ev G hn;rw[A9]at h2 h3;have hM:Ad=17592186044416:=rfl;rw[BK]at h4
 have hcell: ∀j x,xs[j]? =some x→c[j]? =some (Value.int .i64 x)∧IntKind.i64.min≤x∧x≤IntKind.i64.max:=fun j x hx=>by
  have:=(h4 j [.i .i64 x] (by rw[MP,hx];rfl)).2;simp only[BZ,Nat.mul_one,HD]at this;obtain⟨⟨d,hd,hr⟩,_⟩:=this;simp only[Af]at hr;obtain⟨rfl,hr⟩:=hr;exact⟨hd,hr⟩
 have hcs:cs= #[.slice (some ⟨n,0,none⟩) xs.length cap]:=by
  obtain⟨hsz,hv⟩:=hv;simp only[BZ,Af]at hv;obtain⟨⟨d,hd,rfl,_⟩,_⟩:=hv;simp at hsz;apply Array.ext_getElem?;intro i;rcases i with _|i
  ·simpa using hd
  ·rw[Array.getElem?_eq_none (by omega),Array.getElem?_eq_none (by simp)]
 subst hcs
 have hH:Sort.Holds (Value.int .i64) w n 0 xs.toArray:=fun j hj=>by
  have hj':j<xs.length:=by simpa using hj
  obtain⟨h5,_⟩:=hcell j xs[j] (C7 hj');refine⟨?_,?_⟩
  ·rw[HD,DT hb,h5]
   simp[getElem!_pos,hj']
  ·rw[HD];exact QF hb
 refine(hc n cap xs w hH (G.lt hn) (by omega)).mono fun e' w' ⟨he,k,os,hw⟩=>?_
 subst he;have hlen:(xs.mergeSort HF).length=xs.length:=List.length_mergeSort _
 have hheap: ∀m,m<w.heap.size→w'.heap[m]? =if m=n then some (.cells (Sort.putCells (Value.int .i64) 0 (xs.mergeSort HF).toArray c) e (0,0))else w.heap[m]? :=fun m hm=>by
  rw[hw];simp only[Sort.grow,Sort.putRow,Sort.mapBlock,Sort.ahead];rw[Array.getElem?_append_left (by simpa using hm),Array.getElem?_modify];by_cases e1:n=m
  ·subst e1
   rw[if_pos rfl,if_pos rfl,hb];rfl
  ·rw[if_neg e1,if_neg (Ne.symm e1)]
 have hadv:B3 Λ σ w (A0 σ n (.arr 1 (iL (xs.mergeSort HF)) cap)) w':=by
  refine⟨fun m hm h0=>?_,?_,by rw[hw];rfl,by rw[hw];rfl,by rw[hw];rfl,fun m h0 _=>?_⟩
  ·rw[hheap m hm,if_neg]
   intro e1;subst e1;rw[hn]at h0;cases h0
  ·rw[hw];simp[Sort.grow]
  ·rw[Ch _ _ (fun e1=>by subst e1;rw[hn]at h0;cases h0)];exact h0
 refine⟨.ret (.t []),A0 σ n (.arr 1 (iL (xs.mergeSort HF)) cap),⟨_,⟨rfl,rfl⟩,?_⟩,?_,?_,hadv⟩
 ·refine⟨fun a ha=>?_,List.pairwise_singleton _ _⟩
  rw[Kz.1 ha];exact .inr ⟨n,cap,by simp[hlen],DE _ _ _⟩
 ·exact⟨_,rfl,by simp[Af,BZ]⟩
 ·refine G.step hadv fun m o ho=>?_
  by_cases e1:m=n
  ·subst e1
   rw[DE]at ho;cases ho;refine .inr ⟨(G.own _ _ hn).1,_,(hheap m (G.lt hn)).trans (if_pos rfl),_,_,rfl,by simpa[Sort.putCells]using h1,by simpa[hlen]using h2,by simpa[hlen]using h3,?_⟩;rw[BK];intro i r hi;rw[MP]at hi;cases hx:(xs.mergeSort HF)[i]? with
   | none=>rw[hx]at hi;cases hi
   | some x=>
     rw[hx]at hi;cases hi;have hil:i<xs.length:=by have:=(IS.1 hx).1;omega
     have hxm:x∈xs:=(List.mergeSort_perm xs HF).mem_iff.1 (B9 hx);obtain⟨j,hj⟩:=List.getElem?_of_mem hxm;have hbd:=(hcell j x hj).2;obtain⟨hci,_⟩:=hcell i xs[i] (C7 hil);have hcl:i<c.size:=(oS.1 hci).1;refine⟨rfl,?_⟩;simp only[BZ,Nat.mul_one,HD,Af,and_true];refine⟨_,?_,rfl,hbd⟩;simp only[Sort.putCells,Array.getElem?_mapIdx];rw[hci];have hxe:=(IS.1 hx).2;simp[hlen,hil,getElem!_pos,hxe]
  ·rw[Ch _ _ e1]at ho
   exact .inl ⟨ho,(hheap m (G.lt ho)).trans (if_neg e1)⟩
def kN (xs:List Int) (n len cap:Nat):Bj Tryz.prog 268 [.sl n len cap] [.own (.sl n len cap) 1 (iL xs)] fun r post=>r= .ret (.t [])∧post= [.own (.sl n len cap) 1 (iL (xs.mergeSort HF))]:=
 gX (by kernel_rfl) (fun blk cap zs w h1 h2 h3=>Any.slices_Sort_int Tryz.lO blk 0 cap zs w h1 h2 h3) xs n len cap
end Go.Gl
namespace Go.Gl
open Go.Proofs
attribute [local irreducible] BC Aw Ai AV AM Ah AU AW AN Ag AQ AS A3 BA Sat Ab A8 Ak W
def qZ:Pure Tryz.prog 349 [.i .u64 0] (eI 0):=by
 refine rY kZ ?_;have hs:=Sn
 conv=>whnf
 repeat'((first|apply st|(apply sq;intro K U)|(apply si;intro A B Y Z)|(apply Y;clear Z B Y A)|(apply U;clear U K)|refine⟨rfl,?_⟩|(constructor<;>intro hc<;>(try rw[hc])<;>(replace hc:=bp hc)<;>try(exfalso;omega))|fail)<;>conv=>whnf)
 refine⟨by decide,?_⟩
 conv=>whnf
 repeat'((first|apply st|(apply Y;clear Z B Y A)|(apply U;clear U K)|refine⟨rfl,?_⟩|fail)<;>conv=>whnf)
 all_goals exact AI rfl
def qa:Pure Tryz.prog 315 [.i .u64 0] (eI 0):=by
 refine sG kZ ?_;have hs:=Sn
 conv=>whnf
 repeat'((first|apply st|(apply sq;intro K U)|(apply si;intro A B Y Z)|(apply Y;clear Z B Y A)|(apply U;clear U K)|refine qZ.use ?_|fail)<;>conv=>whnf)
 all_goals exact AI rfl
def qg:Pure Tryz.prog 339 [.l [] true,eI 0,eI 0] (.t []):=by
 refine rZ kZ ?_;have hs:=Sn
 conv=>whnf
 repeat'((first|apply st|(apply sq;intro K U)|(apply si;intro A B Y Z)|(apply Y;clear Z B Y A)|(apply U;clear U K)|refine⟨rfl,?_⟩|fail)<;>conv=>whnf)
 refine EA (fun(_:Unit)=>0) (fun _=>[(6,eI 1)]) (fun _=>[]) (fun _=>True) () rfl trivial hs ?_;clear hs;rintro - σ - hs
 conv=>whnf
 repeat'((first|apply st|(apply sq;intro K U)|(apply si;intro A B Y Z)|(apply Y;clear Z B Y A)|(apply U;clear U K)|refine⟨rfl,?_⟩|(constructor<;>intro hc<;>(try rw[hc])<;>(replace hc:=bp hc)<;>try(exfalso;omega))|clear U K)<;>conv=>whnf)
 all_goals exact AI rfl
def pv:Pure Tryz.prog 314 [.l [] true,eI 0,eI 0,eI 0] (.t []):=by
 refine sH kZ ?_;have hs:=Sn
 conv=>whnf
 repeat'((first|apply st|(apply sq;intro K U)|(apply si;intro A B Y Z)|(apply Y;clear Z B Y A)|(apply U;clear U K)|fail)<;>conv=>whnf)
 refine EA (fun(_:Unit)=>0) (fun _=>[]) (fun _=>[]) (fun _=>True) () rfl trivial hs ?_;clear hs;rintro - σ - hs
 conv=>whnf
 repeat'((first|apply st|(apply sq;intro K U)|(apply si;intro A B Y Z)|(apply Y;clear Z B Y A)|(apply U;clear U K)|refine⟨rfl,?_⟩|refine qg.use ?_|(constructor<;>intro hc<;>(try rw[hc])<;>(replace hc:=bp hc)<;>(try simp(disch:=omega) only[A9,wrap64,AK]at hc)<;>try(exfalso;omega))|clear U K)<;>conv=>whnf)
 all_goals exact AI rfl
def gY:Pure Tryz.prog 268 [.l [] true] (.t []):=by
 refine sx kZ ?_;have hs:=Sn
 conv=>whnf
 repeat'((first|apply st|(apply sq;intro K U)|(apply si;intro A B Y Z)|(apply Y;clear Z B Y A)|(apply U;clear U K)|refine qa.use ?_|refine pv.use ?_|fail)<;>conv=>whnf)
 all_goals exact AI rfl
def dg {xs:List Int} {v:V} (hv:(B5 v).isSome=true∨(v= .l [] true∧xs= [])):Bj Tryz.prog 268 [v] [.own v 1 (iL xs)] fun r post=>r= .ret (.t [])∧post= [.own v 1 (iL (xs.mergeSort HF))]:=by
 rcases hv with hv|⟨rfl,rfl⟩
 ·obtain⟨n,l,c,rfl⟩:=di hv
  exact kN xs n l c
 ·intro σ hs
  have:=gY.use (σ:=σ) (k:=fun v σ'=>v= .t []∧σ'=σ) (kp:=fun _ _=>False) ⟨rfl,rfl⟩;refine BC.mono this ?_;rintro(u|u) σ' hq
  ·obtain⟨rfl,rfl⟩:=hq
   exact⟨_,⟨rfl,rfl⟩,by simpa using hs⟩
  ·exact hq.elim
def WN {b:Nat} {σ:AH} {sz:Nat} {v:V} {ys:List (List V)} {f:Bool} {K:V→AH→Prop} (h:AM b σ sz v (.l ys f) fun v' σ'=>((B5 v').isSome=true∨(v'=v∧ys= []))→K v' σ'):AM b σ sz v (.l ys f) K:=by
 unfold AM at *;obtain⟨h1,h2,h3⟩:=h;refine⟨h1,h2,?_⟩;cases v with
 | l es full=>exact⟨h3.1,h3.2.1,fun e=>h3.2.2.1 e (.inr ⟨rfl,e⟩),fun e=>⟨(h3.2.2.2 e).1,fun n cap hn hc=>(h3.2.2.2 e).2 n cap hn hc (.inl rfl)⟩⟩
 | sl n len cap=>
   simp only at h3 ⊢;split at h3
   ·exact⟨h3.1,h3.2.1,h3.2.2.1,h3.2.2.2.1,fun n' cap' hn hc=>h3.2.2.2.2 n' cap' hn hc (.inl rfl)⟩
   ·exact h3.elim
 | _=>exact h3.elim
def Sg (M:List Int):List (V×V):=M.map fun k=>(eI k,.b true)
def Oh (M:List Int) (k:Int):List Int:=if M.contains k then M else M++[k]
def VG (M:List Int) (k b:Int):(Oh M k).contains b=(M.contains b||b==k):=by
 unfold Oh;split
 ·rename_i h
  by_cases hb:b=k
  ·subst hb;simpa using h
  ·have:(b==k)=false:=by simpa using hb
   rw[this,Bool.or_false]
 ·simp[List.contains_append]
  rfl
def ZK (M:List Int) (k:Int):De (eI k) (.b true) (Sg M)=Sg (Oh M k):=by
 induction M with
 | nil=>rfl
 | cons x r ih=>
   simp only[Sg,E3,De]at *;have he:Ds (eI k) (eI x)=(k==x):=rfl;rw[he];cases hx:k==x
   ·rw[cond_false,ih]
    unfold Oh;have:(x::r).contains k=r.contains k:=by rw[List.contains_cons,hx,Bool.false_or]
    rw[this];split<;>simp
   ·rw[cond_true]
    have hk:k=x:=by simpa using hx
    subst hk;unfold Oh;simp
def Lt (M:List Int) (k:Int):found (.b false) false (Cj (eI k) (Sg M))= .b (M.contains k):=by
 induction M with
 | nil=>rfl
 | cons x r ih=>
   simp only[Sg,E3,Cj]at *;have he:Ds (eI k) (eI x)=(k==x):=rfl;rw[he,List.contains_cons];cases k==x
   ·simpa using ih
   ·rfl
def He (M:List Int): ∀kv∈Sg M,BX (.i .i64) kv.1=true:=by
 intro kv h;obtain⟨e,_,rfl⟩:=MN.1 h;rfl
def lkK {σ:AH} {l:List At} {i mm:Nat} {M:List Int} {k:Int} {K:V→Prop} (hk:K (.b (M.contains k))) (h:Sat σ l:=by assumption)
    (hi:l[i]? =some (.map mm (Sg M)):=by first|exact Q4|exact Q3|exact Q2|exact Q1|exact Qz|exact Qy):AQ σ (.i .i64) (.b false) false (.m mm) (eI k) K:=
 Ja h i hi rfl (He M) (by rw[Lt];exact hk)
def xw {σ:AH} {l:List At} {i mm:Nat} {M:List Int} {k:Int} {K:AH→Prop} (hk: ∀σ',Sat σ' (l.set i (.map mm (Sg (Oh M k))))→K σ') (h:Sat σ l:=by assumption)
    (hi:l[i]? =some (.map mm (Sg M)):=by first|exact Q4|exact Q3|exact Q2|exact Q1|exact Qz|exact Qy):AS σ (.i .i64) (.m mm) (eI k) (.b true) K:=
 JZ h i hi rfl (He M) (fun σ' hs=>hk σ' (by rw[ZK]at hs;exact hs))
def JA (p:Prog) (c:Nat):Qa:=p.AP.getD (c - 3) default
def EC (p:Prog) (c:Nat):Nat→List Int
 | 0=>[]
 | k+1=>if Ju (A4 p) c (c - k)then EC p c k++(JA p (c - k)).AJ else EC p c k
def pw {ps:List (List Int)} (ho:ordered ps) {n c:Nat} (hc:c<n) (k:Nat): ∀p∈par ps (c - k),0≤p∧p.toNat<(HH ps n c k).length∧p.toNat<c - k:=fun p hp=>by
 have:=ho _ _ hp;rw[LR];omega
def U1 {ps:List (List Int)} (ho:ordered ps) {n c:Nat} (hc:c<n) (k b:Nat):(HH ps n c (k+1)).getD b false=((HH ps n c k).getD b false||((HH ps n c k).getD (c - k) false&&(par ps (c - k)).contains (b:Int))):=by
 rw[HH,M8 _ _ (pw ho hc k)]
def U2 {ps:List (List Int)} (ho:ordered ps) {n c:Nat} (hc:c<n) (k:Nat): ∀(m:Nat) (b:Nat),c - k≤b→(HH ps n c (k+m)).getD b false=(HH ps n c k).getD b false
 | 0,_,_=>rfl
 | m + 1,b,h=>by
   rw[←Nat.add_assoc,U1 ho hc,U2 ho hc k m b h]
   have:(par ps (c - (k+m))).contains (b:Int)=false:=by
    cases hb:(par ps (c - (k+m))).contains (b:Int)
    ·rfl
    ·have:=ho _ _ (List.contains_iff_mem.1 hb)
     omega
   rw[this,Bool.and_false,Bool.or_false]
def eL {ps:List (List Int)} (ho:ordered ps) {n c:Nat} (hc:c<n) {k:Nat} (hk:k≤c - 2):(HH ps n c k).getD (c - k) false=Ju ps c (c - k):=by
 rw[←Yj ho hc (c - k),←U2 ho hc k (c - 2 - k) (c - k) (Iu _)];congr 2;omega
def QH (b:Int): ∀(l M:List Int),(l.foldl Oh M).contains b=(M.contains b||l.contains b)
 | [],M=>by simp
 | x::r,M=>by
   rw[List.foldl_cons,QH b r,VG,List.contains_cons,Bool.or_assoc]
def oy {σ:AH} {l:List At} {i mm:Nat} {M:List Int} {k:Int} {b:Bool} {K:V→Prop} (e:M.contains k=b) (hk:K (.b b)) (h:Sat σ l:=by assumption)
    (hi:l[i]? =some (.map mm (Sg M)):=by first|exact Q4|exact Q3|exact Q2|exact Q1|exact Qz|exact Qy):AQ σ (.i .i64) (.b false) false (.m mm) (eI k) K:=lkK (e ▸ hk) h hi
def qj (p : Prog) (c:Nat) (h10:p.AP.length≤10) (hsl:Cq 0 p.AP=true) (hg:Dq (A4 p)=true) (hc3:3≤c) (hc:c<3+p.AP.length) :
    Pure Tryz.prog 325 [.a (BR p),eI c] (.l (iL ((EC p c (c - 2)).mergeSort HF)) false):=by
 refine Pure.fit (by kernel_rfl) fun hf=>?_
 have F:=HV hf.1;have hM:=Mx;have hG:=Dy hg;have ho:=Jo hG;have hgl:(A4 p).length=p.AP.length:=by simp[A4]
 refine r5 kZ ?_;have hs:=Sn
 conv=>whnf
 repeat'((first|(apply sq;intro K U)|(apply si;intro A B Y Z)|(apply Y;clear Z B Y A)|(apply U;clear U K)|(intro nn hnn;generalize hg:A0 _ nn _=σ;refine CZ hg fun hs=>?_;clear hg)|fail)<;>conv=>whnf)
 replace hs:Sat σ [.map nn (Sg [])]:=hs
 conv=>whnf
 repeat'((first|apply st|(apply sq;intro K U)|(apply si;intro A B Y Z)|(apply Y;clear Z B Y A)|(apply U;clear U K)|refine xw (fun σ hs=>?_)|fail)<;>conv=>whnf)
 generalize nn=mm at *;replace hs:Sat σ [.map mm (Sg [(c:Int)])]:=hs
 refine CA (c - 2) (fun k (x:List Int×V)=>[(6,x.2),(7,eI ((c:Int) - k))]) (fun k x=>[.own x.2 1 (iL (EC p c k)),.map mm (Sg x.1)])
  (fun k x=>(∀b:Nat,b<3+(A4 p).length→x.1.contains (b:Int)=(HH (A4 p) (3+(A4 p).length) c k).getD b false)∧((B5 x.2).isSome=true∨(x.2= .l [] true∧EC p c k= []))∧(EC p c k).length≤4*k) ([(c:Int)],.l [] true) ?_ ⟨?_,.inr ⟨rfl,rfl⟩,by simp[EC]⟩ (DA hs 1) ?_
 ·simp[Og,get]
  exact⟨rfl,rfl,rfl⟩
 ·intro b hb
  simp only[HH];rw[EI (by simp;omega)];by_cases hbc:b=c
  ·subst hbc;simp
  ·rw[if_neg hbc]
   have:((c:Int)==(b:Int))=false:=by simp;omega
   simp[DZ,List.getElem?_replicate];split<;>simp<;>omega
 clear hs;rintro k ⟨M,v⟩ σ hk ⟨hMb,hv,hml⟩ hs;dsimp only at hMb hv hs;rcases Nat.lt_or_ge k (c - 2)with hlt|hge
 ·have hkc:M.contains ((c:Int) - k)=Ju (A4 p) c (c - k):=by
   have:=hMb (c - k) (by omega);rw[eL ho (by omega) (by omega)]at this;rw[←this];congr 1;omega
  have hcl:p.AP[(IntKind.i64.wrap ((c:Int) - k - 3)).toNat]? =some (JA p (c - k)):=by
   rw[wrap64 (by omega) (by omega),show((c:Int) - k - 3).toNat=c - k - 3 by omega,JA,DZ,C7 (by omega)];rfl
  have hwi:0≤IntKind.i64.wrap ((c:Int) - k - 3):=by rw[wrap64 (by omega) (by omega)];omega
  have hw1:IntKind.i64.wrap ((c:Int) - k - 1)=(c:Int) - (k+1:Nat):=by rw[wrap64 (by omega) (by omega)];omega
  have hmt:EC p c (k+1)=if Ju (A4 p) c (c - k)then EC p c k++(JA p (c - k)).AJ else EC p c k:=rfl
  have hpar:(JA p (c - k)).parents=par (A4 p) (c - k):=by
   unfold par JA A4;rw[if_neg (by omega),DZ,DZ,MP,C7 (by omega)];rfl
  have hcm:=F.2 _ (B9 hcl);have hs4:=((FK _ _ hsl).2 _ (B9 hcl)).2;have hst:=fun b=>U1 ho (show c<3+(A4 p).length by omega) k b
  rw[eL ho (by omega) (by omega),←hpar]at hst;generalize JA p (c - k)=cl at *;cases hb:Ju (A4 p) c (c - k)
  ·rw[hb]at hkc hmt hst
   rw[if_neg (by decide)]at hmt
   conv=>whnf
   repeat'((first|apply st|(apply sq;intro K U)|(apply si;intro A B Y Z)|(apply Y;clear Z B Y A)|(apply U;clear U K)|refine⟨rfl,?_⟩|refine oy hkc ?_|(constructor<;>intro hc<;>(try rw[hc])<;>(replace hc:=bp hc)<;>try(exfalso;omega))|clear U K)<;>conv=>whnf)
   all_goals try(exfalso;omega)
   rw[hw1];exact⟨hlt,(M,v),rfl,⟨fun b hb=>by rw[hMb b hb,hst b];simp,by rw[hmt];exact hv,by rw[hmt];omega⟩,by rw[hmt];exact hs⟩
  ·rw [hb] at hkc hmt hst
   rw[if_pos rfl]at hmt
   conv=>whnf
   repeat'((first|apply st|(apply sq;intro K U)|(apply si;intro A B Y Z)|(apply Y;clear Z B Y A)|(apply U;clear U K)|refine⟨rfl,?_⟩|refine HI ?_|refine oy hkc ?_|(constructor<;>intro hc<;>(try rw[hc])<;>(replace hc:=bp hc)<;>try(exfalso;omega))|fail)<;>conv=>whnf)
   all_goals try(exfalso;omega)
   refine WN (HU hs 0 rfl (by omega) Bk fun v' σ hs hv'=>?_);rw[←hmt]at hs
   conv=>whnf
   repeat'((first|apply st|(apply sq;intro K U)|(apply si;intro A B Y Z)|(apply Y;clear Z B Y A)|(apply U;clear U K)|refine⟨rfl,?_⟩|refine HI ?_|fail)<;>conv=>whnf)
   refine CA cl.parents.length (fun j (_:List Int)=>[(38,eI (BG j))]) (fun _ M=>[.own v' 1 (iL (EC p c (k+1))),.map mm (Sg M)]) (fun j M'=>M'=(cl.parents.take j).foldl Oh M) M rfl rfl hs ?_;clear hs;rintro j M' σ hj hM' hs;rcases BI cl.parents hj with⟨q,hq,hjlt⟩|hje
   ·conv=>whnf
    repeat'((first|apply st|(apply sq;intro K U)|(apply si;intro A B Y Z)|(apply Y;clear Z B Y A)|(apply U;clear U K)|refine⟨rfl,?_⟩|refine ix ?_|(refine CU (fun hc=>?_)<;>(try rw[hc])<;>clear hc)|refine xw (fun σ hs=>?_)|clear U K)<;>conv=>whnf)
    exact⟨hjlt,_,rfl,by rw[AO hq,List.foldl_append,←hM'];rfl,hs⟩
   ·rw [Ap hje]at hM'
    conv=>whnf
    repeat'((first|apply st|(apply sq;intro K U)|(apply si;intro A B Y Z)|(apply Y;clear Z B Y A)|(apply U;clear U K)|refine⟨rfl,?_⟩|(refine Dl (fun hc=>?_)<;>(try rw[hc])<;>clear hc)|clear U K)<;>conv=>whnf)
    rw[hw1];refine⟨hlt,(M',v'),rfl,⟨fun b hb=>?_,?_,?_⟩,hs⟩
    ·rw[hM',QH,hMb b hb,hst b,Il]
    ·rcases hv' with hv'|⟨rfl,he⟩
     ·exact .inl hv'
     ·rcases hv with hv|⟨hv,hm0⟩
      ·exact .inl hv
      ·refine .inr ⟨hv,?_⟩
       rw[hmt,hm0,List.map_eq_nil_iff.1 he];rfl
    ·rw[hmt,Qv];omega
 ·have hkk:k=c - 2:=by omega
  rw[hkk]at hs hv hml;clear hMb
  conv=>whnf
  repeat'((first|apply st|(apply sq;intro K U)|(apply si;intro A B Y Z)|(apply Y;clear Z B Y A)|(apply U;clear U K)|refine⟨rfl,?_⟩|(constructor<;>intro hc<;>(try rw[hc])<;>(replace hc:=bp hc)<;>try(exfalso;omega))|clear U K)<;>conv=>whnf)
  all_goals try(exfalso;omega)
  refine(dg hv).use (rest:=[_]) hs ?_;clear hs;rintro r post σ ⟨rfl,rfl⟩ hs
  conv=>whnf
  repeat'((first|(apply sq;intro K U)|(apply si;intro A B Y Z)|(apply Y;clear Z B Y A)|(apply U;clear U K)|fail)<;>conv=>whnf)
  refine(PD _ v (by rw[List.length_mergeSort];omega)).use (rest:=[_]) hs ?_;clear hs;rintro r post σ ⟨rfl,rfl⟩ hs
  conv=>whnf
  repeat'((first|apply st|(apply Y;clear Z B Y A)|(apply U;clear U K)|fail)<;>conv=>whnf)
  exact Al dw
def P5 {p : Prog} {c:Nat} (s:Int): ∀k,s∈EC p c k↔ ∃j,j<k∧Ju (A4 p) c (c - j)=true∧s∈(JA p (c - j)).AJ
 | 0=>by simp[EC]
 | k + 1 =>by
   rw[EC];have ih:=P5 (p:=p) (c:=c) s k;constructor
   ·intro h
    split at h
    ·rename_i hu
     rcases E7.1 h with h|h
     ·obtain⟨j,h1,h2⟩:=ih.1 h
      exact⟨j,by omega,h2⟩
     ·exact⟨k,by omega,hu,h⟩
    ·obtain⟨j,h1,h2⟩:=ih.1 h
     exact⟨j,by omega,h2⟩
   ·rintro⟨j,h1,h2,h3⟩
    by_cases hj:j=k
    ·subst hj
     rw[if_pos h2];exact E7.2 (.inr h3)
    ·have:=ih.2 ⟨j,by omega,h2,h3⟩
     split
     ·exact E7.2 (.inl this)
     ·exact this
def VC: ∀(l:List Int) (n s:Int),K6 n l=true→(s∈l↔n≤s∧s<n+l.length)
 | [],n,s,_=>by simp<;>omega
 | x::r,n,s,h=>by
   simp only[K6,BJ,D9]at h;obtain⟨rfl,h⟩:=h;have:=VC r (x+1) s h;rw[F6,this,K2];omega
def Rp: ∀(cs:List Qa) (i:Nat) (n s:Int),Cq n cs=true→0≤n→ ∀(j:Nat) (c:Qa),cs[j]? =some c→(s∈c.AJ↔n≤s∧s<n+(Bp cs:Int)∧(BV i cs).getD (s - n).toNat 0=((i+j:Nat):Int)+3)
 | [],_,_,_,_,_,_,_,h=>by cases h
 | d ::r,i,n,s,h,h0,j,c,hj=>by
   simp only[Cq,BJ,Cn]at h;obtain⟨-,-,hq,hr⟩:=h;have hm:=VC d.AJ n s hq;have hml:(Bp (d::r):Int)=d.AJ.length+Bp r:=by simp[Bp]
   have hgd:n≤s→(BV i (d::r)).getD (s - n).toNat 0=if s<n+d.AJ.length then(i:Int)+3 else(BV (i+1) r).getD (s - (n+d.AJ.length)).toNat 0:=fun hns=>by
    simp only[BV,DZ];split
    ·rw[jS (by simp;omega),List.getElem?_replicate,if_pos (by omega)]
     rfl
    ·rw[List.getElem?_append_right (by simp;omega)]
     congr 2;simp;omega
   have hout: ∀q,q∈BV (i+1) r→(3:Int)+((i+1:Nat):Int)≤q:=fun q hq=>(Fu hq).1
   cases j with
   | zero=>
     simp at hj;subst hj;rw[hm,hml];constructor
     ·rintro⟨h1,h2⟩
      refine⟨h1,by omega,?_⟩;rw[hgd h1,if_pos h2];simp
     ·rintro⟨h1,h2,h3⟩
      refine⟨h1,?_⟩;rw[hgd h1]at h3;by_cases hlt:s<n+d.AJ.length
      ·exact hlt
      ·rw[if_neg hlt,DZ]at h3
       have hlen:(s - (n+d.AJ.length)).toNat<(BV (i+1) r).length:=by rw[Ce];omega
       rw[C7 hlen]at h3;have:=hout _ (List.getElem_mem hlen);simp at h3;omega
   | succ j=>
     simp at hj;have ih:=Rp r (i+1) (n+d.AJ.length) s hr (by omega) j c hj;rw[ih,hml];constructor
     ·rintro⟨h1,h2,h3⟩
      refine⟨by omega,by omega,?_⟩;rw[hgd (by omega),if_neg (by omega),h3];omega
     ·rintro⟨h1,h2,h3⟩
      rw[hgd h1]at h3;by_cases hlt:s<n+d.AJ.length
      ·rw[if_pos hlt]at h3;omega
      ·rw[if_neg hlt]at h3
       exact⟨by omega,by omega,by rw[h3];omega⟩
def gz {p:Prog} {c:Nat} (hsl:Cq 0 p.AP=true) (ho:ordered (A4 p)) (hc3:3≤c) (hc:c<3+p.AP.length) (s:Int) :
    ((EC p c (c - 2)).mergeSort HF).contains s=(decide (0≤s)&&(decide (s<(Bp p.AP:Int))&&hasB (AR p) (c:Int) s)):=by
 rw[JU,List.contains_iff_mem,(List.mergeSort_perm _ HF).mem_iff,P5];simp only[BJ,Cn,hasB]
 have hown: ∀j,j<c - 2→(s∈(JA p (c - j)).AJ↔0≤s∧s<(Bp p.AP:Int)∧Cx (AR p) s=((c - j:Nat):Int)):=fun j hj=>by
  have hcl:p.AP[c - j - 3]? =some (JA p (c - j)):=by
   rw[JA,DZ,C7 (by omega)];rfl
  have:=Rp p.AP 0 0 s hsl (by omega) (c - j - 3) _ hcl;rw[this];simp only[Int.sub_zero,Int.zero_add,Cx,AR];constructor
  ·rintro⟨h1,h2,h3⟩;exact⟨h1,h2,by rw[h3];omega⟩
  ·rintro⟨h1,h2,h3⟩;exact⟨h1,h2,by rw[h3];omega⟩
 constructor
 ·rintro⟨j,h1,h2,h3⟩
  obtain⟨h4,h5,h6⟩:=(hown j h1).1 h3;refine⟨h4,h5,by omega,?_⟩;rw[h6];simp only[UX,Fo,BJ,Cn];exact .inr (.inr ⟨by omega,by simpa[AR]using h2⟩)
 ·rintro⟨h1,h2,h3,h4⟩
  have hmem:Cx (AR p) s∈BV 0 p.AP:=by
   have hlen:s.toNat<(BV 0 p.AP).length:=by rw[Ce];omega
   have:Cx (AR p) s=(BV 0 p.AP)[s.toNat]:=by
    simp only[Cx,AR,DZ,C7 hlen];rfl
   rw[this];exact List.getElem_mem hlen
  have hb:=Fu hmem
  have hup:Ju (A4 p) c (Cx (AR p) s).toNat=true:=by
   simp only[UX,Fo,BJ,Cn,D9]at h4;rcases h4 with h4|h4|⟨_,h4⟩
   ·rw[←h4,Iv];exact HY ho c
   ·omega
   ·simpa[AR]using h4
  have hle:=eM ho _ _ hup;refine⟨c - (Cx (AR p) s).toNat,by omega,?_,?_⟩
  ·rw[show c - (c - (Cx (AR p) s).toNat)=(Cx (AR p) s).toNat by omega]
   exact hup
  ·refine(hown _ (by omega)).2 ⟨h1,h2,by omega⟩
def gy {σ:AH}:BC Tryz.prog 283 [.b false] σ fun r σ'=>r= .Bi Dw∧σ'=σ:=by
 refine fQ kZ ?_
 conv=>whnf
 repeat'((first|apply st|(apply sq;intro K U)|(apply si;intro A B Y Z)|(apply Y;clear Z B Y A)|(refine Z _ _ _ ?_;clear Z B Y A)|(apply U;clear U K)|refine HK ?_|fail)<;>conv=>whnf)
 exact DN ⟨rfl,rfl⟩
def Ct {x:Bool} {σ:AH} {k kp:V→AH→Prop} (h1:x=true→k (.t []) σ) (h2:x=false→kp Dw σ):BC Tryz.prog 283 [.b x] σ (qk k kp):=by
 cases x
 ·refine BC.mono gy ?_
  rintro r σ' ⟨rfl,rfl⟩;exact h2 rfl
 ·exact gx.use (h1 rfl)
def Ff:Int→List Qa→Bool
 | _,[]=>true
 | n,c::r=>decide (c.AJ.length≤4)&&(K6 n c.AJ&&Ff (n+c.AJ.length) r)
def PJ: ∀(cs:List Qa) (n:Int),Cq n cs=(Ff n cs&&cs.all fun c=>decide (c.parents.length≤3))
 | [],_=>rfl
 | c::r,n=>by
   simp only[Cq,Ff,NS];rw[PJ r];cases decide (c.AJ.length≤4)<;>cases decide (c.parents.length≤3)<;>cases K6 n c.AJ<;>simp
def Re: ∀(cs:List Qa) (n:Int),Ff n cs=true→Bp cs≤4*cs.length
 | [],_,_=>Iu _
 | c::r,n,h=>by
   simp only[Ff,BJ,Cn]at h;have:=Re r _ h.2.2;simp only[Bp,E3,List.sum_cons,K2]at *;omega
def VT {p:Prog} (h:Dq (A4 p)=true):(p.AP.all fun c=>decide (c.parents.length≤3))=true:=by
 rw[Em];intro c hc;obtain⟨i,hi⟩:=List.getElem?_of_mem hc;have:=(Dy h).2 i c.parents (by rw[A4,MP,hi];rfl);exact decide_eq_true this.1
def QS (p:Prog):BE p=(decide (p.AP.length≤10)&&(Ff 0 p.AP&&((Bp p.AP:Int)==p.AJ&&(Dq (A4 p)&&GB (AR p) (Bp p.AP) 0 p.AP)))):=by
 rw[BE,PJ];cases hg:Dq (A4 p)
 ·simp
 ·rw[VT hg,Bool.and_true]
abbrev vr (p:Prog):R→AH→Prop:=fun r σ'=> ∃post:List At,(r=(if BE p then R.ret (.t [])else R.Bi Dw)∧post= [])∧Sat σ' post
def Wv {p:Prog} {σ:AH} (h:BE p=false):Ai σ Dw (vr p):=DN ⟨_,⟨by rw[h];rfl,rfl⟩,Sat.nil⟩
def clsT {p:Prog} {σ:AH} {l:List At} (hs:Sat σ l) (h:BE p=true):Aw σ (.t []) (vr p):=Av hs (NT _) (.refl _) fun σ' hs'=>⟨_,⟨by rw[h];rfl,rfl⟩,hs'⟩
set_option maxHeartbeats 4000000 in
def YG (p : Prog):Bj Tryz.prog 282 [.a (BR p)] [] fun r post=>r=(if BE p then R.ret (.t [])else R.Bi Dw)∧post= []:=by
 intro σ hs;refine BC.fit (by kernel_rfl) fun hf=>?_
 have F:=HV hf.1;have hcl:=F.1;have hM:=Mx;refine sf kZ ?_;have hcb:=QS p;by_cases h10:p.AP.length≤10
 rotate_left
 ·conv=>whnf
  repeat'((first|apply st|(apply sq;intro K U)|(apply si;intro A B Y Z)|(apply Y;clear Z B Y A)|(refine Z _ _ _ ?_;clear Z B Y A)|(apply U;clear U K)|refine⟨rfl,?_⟩|(refine Ct (fun hc=>?_) (fun hc=>?_)<;>(replace hc:=bp hc)<;>(try simp(disch:=omega) only[A9,wrap64,AK]at hc)<;>(try(exfalso;omega)))|clear U K)<;>conv=>whnf)
  all_goals try(exfalso;omega)
  exact Wv (by rw[hcb];simp[h10])
 rw[decide_eq_true h10,Il]at hcb
 conv=>whnf
 repeat'((first|apply st|(apply sq;intro K U)|(apply si;intro A B Y Z)|(apply Y;clear Z B Y A)|(apply U;clear U K)|refine⟨rfl,?_⟩|(refine Ct (fun hc=>?_) (fun hc=>?_)<;>(replace hc:=bp hc)<;>(try simp(disch:=omega) only[A9,wrap64,AK]at hc)<;>(try(exfalso;omega)))|fail)<;>conv=>whnf)
 all_goals try(exfalso;omega)
 refine CA p.AP.length (fun k (n:Int)=>[(2,eI n),(24,eI (BG k))]) (fun _ _=>[]) (fun k n=>Ff 0 p.AP=Ff n (p.AP.drop k)∧0≤n∧n+Bp (p.AP.drop k)=Bp p.AP∧n≤4*k) 0 rfl (by simp) hs ?_;clear hs;rintro k n σ hk ⟨hn,hn0,hn1,hn2⟩ hs;rcases BI p.AP hk with⟨c,hc,hlt⟩|hke
 ·have hcm:=(F.2 c (B9 hc)).2.1
  have hms:n+(c.AJ.length:Int)+Bp (p.AP.drop (k+1))=Bp p.AP:=by
   rw[drop_cons hc]at hn1;simp only[Bp,E3,List.sum_cons]at hn1 ⊢;omega
  rw[drop_cons hc,Ff]at hn;by_cases h4:c.AJ.length≤4
  ·rw [decide_eq_true h4,Il]at hn
   conv=>whnf
   repeat'((first|apply st|(apply sq;intro K U)|(apply si;intro A B Y Z)|(apply Y;clear Z B Y A)|(apply U;clear U K)|refine⟨rfl,?_⟩|refine⟨kZ,?_⟩|refine ix ?_|refine ld ?_|refine Cw fun σ hs=>?_|(refine CU (fun hc=>?_)<;>(try rw[hc])<;>clear hc)|(refine Ct (fun hc=>?_) (fun hc=>?_)<;>(replace hc:=bp hc)<;>(try simp(disch:=omega) only[A9,wrap64,AK]at hc)<;>(try(exfalso;omega)))|(intro nn hnn;generalize hg:A0 _ nn _=σ;refine CZ hg fun hs=>?_;clear hg)|fail)<;>conv=>whnf)
   all_goals try(exfalso;omega)
   refine CA c.AJ.length (fun j (m:Int)=>[(2,eI m),(36,eI (BG j))]) (fun _ _=>[]) (fun j m=>Ff 0 p.AP=(K6 m (c.AJ.drop j)&&Ff (n+c.AJ.length) (p.AP.drop (k+1)))∧m=n+j) n rfl ⟨hn,by simp⟩ (hs.take 0) ?_;clear hs hn;rintro j m σ hj ⟨hm,he⟩ hs;rcases BI c.AJ hj with⟨x,hx,hjlt⟩|hje
   ·rw[drop_cons hx,K6]at hm
    conv=>whnf
    repeat'((first|apply st|(apply sq;intro K U)|(apply si;intro A B Y Z)|(apply Y;clear Z B Y A)|(refine Z _ _ _ ?_;clear Z B Y A)|(apply U;clear U K)|refine⟨rfl,?_⟩|refine ix ?_|(refine CU (fun hc=>?_)<;>(try rw[hc])<;>clear hc)|(refine Ct (fun hc=>?_) (fun hc=>?_)<;>(replace hc:=bp hc))|clear U K)<;>conv=>whnf)
    ·rw[wrap64 (by omega) (by omega)]
     rw[hc,beq_self_eq_true,Il]at hm;exact⟨hjlt,_,rfl,⟨by rw[←hc];rw[←hc]at hm;exact hm,by omega⟩,hs⟩
    ·exact Wv (by rw[hcb,hm];simp[hc])
   ·rw[As hje,K6,Il]at hm
    conv=>whnf
    repeat'((first|apply st|(apply sq;intro K U)|(apply si;intro A B Y Z)|(apply Y;clear Z B Y A)|(apply U;clear U K)|refine⟨rfl,?_⟩|(refine Dl (fun hc=>?_)<;>(try rw[hc])<;>clear hc)|clear U K)<;>conv=>whnf)
    exact⟨hlt,m,rfl,⟨by rw[hm];congr 1;omega,by omega,by omega,by omega⟩,hs⟩
  ·conv=>whnf
   repeat'((first|apply st|(apply sq;intro K U)|(apply si;intro A B Y Z)|(apply Y;clear Z B Y A)|(refine Z _ _ _ ?_;clear Z B Y A)|(apply U;clear U K)|refine⟨rfl,?_⟩|refine⟨kZ,?_⟩|refine ix ?_|refine ld ?_|refine Cw fun σ hs=>?_|(refine CU (fun hc=>?_)<;>(try rw[hc])<;>clear hc)|(refine Ct (fun hc=>?_) (fun hc=>?_)<;>(replace hc:=bp hc)<;>(try simp(disch:=omega) only[A9,wrap64,AK]at hc)<;>(try(exfalso;omega)))|(intro nn hnn;generalize hg:A0 _ nn _=σ;refine CZ hg fun hs=>?_;clear hg)|clear U K)<;>conv=>whnf)
   all_goals try(exfalso;omega)
   exact Wv (by rw[hcb,hn];simp[h4])
 ·have hne:n=Bp p.AP:=by rw[As hke]at hn1;simpa[Bp]using hn1
  rw[As hke]at hn;have hsp:Ff 0 p.AP=true:=hn;have hml:=Re _ _ hsp;rw[hsp,Il,←hne]at hcb;cases hgd:Dq (A4 p)
  ·rw[hgd]at hcb
   have hck:=Vk (A4 p) false;rw[hgd,if_neg (by decide)]at hck;have hcF:BE p=false:=by rw[hcb];simp
   conv=>whnf
   repeat'((first|apply st|(apply sq;intro K U)|(apply si;intro A B Y Z)|(apply Y;clear Z B Y A)|(refine Z _ _ _ ?_;clear Z B Y A)|(apply U;clear U K)|refine⟨rfl,?_⟩|refine⟨kZ,?_⟩|(refine Dl (fun hc=>?_)<;>(try rw[hc])<;>clear hc)|(refine Ct (fun hc=>?_) (fun hc=>?_)<;>(replace hc:=bp hc)<;>(try simp(disch:=omega) only[A9,wrap64,AK]at hc)<;>(try(exfalso;omega))<;>(try(cases hc;done)))|refine Pure.use (Lx _ (by omega)) ?_|(constructor<;>intro hc<;>(try rw[hc])<;>(replace hc:=bp hc))|refine Pure.use (by assumption) ?_|clear U K)<;>conv=>whnf)
   all_goals exact Wv hcF
  ·have hck:=Vk (A4 p) false
   rw[hgd,if_pos rfl]at hck;rw[hgd,Il]at hcb;by_cases hps:n=p.AJ
   ·rw [hps,beq_self_eq_true,Il,←hps]at hcb
    have hslB:Cq 0 p.AP=true:=by rw[PJ,hsp,VT hgd];rfl
    have hG:=Dy hgd;have ho:=Jo hG;have hgl:(A4 p).length=p.AP.length:=by simp[A4]
    conv=>whnf
    repeat'((first|apply st|(apply sq;intro K U)|(apply si;intro A B Y Z)|(apply Y;clear Z B Y A)|(apply U;clear U K)|refine⟨rfl,?_⟩|refine⟨kZ,?_⟩|(refine Dl (fun hc=>?_)<;>(try rw[hc])<;>clear hc)|(refine Ct (fun hc=>?_) (fun hc=>?_)<;>(replace hc:=bp hc)<;>(try simp(disch:=omega) only[A9,wrap64,AK]at hc)<;>(try(exfalso;omega)))|refine Pure.use (Lx _ (by omega)) ?_|(constructor<;>intro hc<;>(try rw[hc])<;>(replace hc:=bp hc)<;>try(exfalso;omega))|refine Pure.use (by assumption) ?_|clear U K)<;>conv=>whnf)
    refine CA p.AP.length (fun k (_:Unit)=>[(63,eI (BG k))]) (fun _ _=>[]) (fun k _=>BE p=GB (AR p) n k (p.AP.drop k)) () rfl hcb hs ?_;clear hs;rintro i - σ hi hn' hs;rcases BI p.AP hi with⟨c,hc,hilt⟩|hie
    ·rw [drop_cons hc,GB]at hn'
     have hci:BG i=i:=AK (by omega);have hw3:IntKind.i64.wrap (BG i+3)=(i:Int)+3:=by rw[hci,wrap64 (by omega) (by omega)]
     have hlin:=qW (A4 p) false ((i:Int)+3) hgd (by omega) (by omega);have hinl:=(F.2 c (B9 hc)).2.2;have hlb:jt (AR p).parents ((i:Int)+3)= !((B7 (A4 p)).getD ((i:Int)+3).toNat []).isEmpty:=rfl;cases hem:((B7 (A4 p)).getD ((i:Int)+3).toNat []).isEmpty
     ·rw [hem]at hlb
      rw[hlb,Bool.not_false,Il]at hn';rw[hem,if_neg (by decide),←hw3]at hlin;have hhas:=qj p (i+3) h10 hslB hgd (by omega) (by omega);have hmh:=gz hslB ho (show 3≤i+3 by omega) (show i+3<3+p.AP.length by omega);have ei3:((i+3:Nat):Int)=(i:Int)+3:=by omega
      rw[ei3,←hw3]at hhas;rw[ei3]at hmh;generalize (EC p (i+3) (i+3 - 2)).mergeSort HF=mine at *
      conv=>whnf
      repeat'((first|apply st|(apply sq;intro K U)|(apply si;intro A B Y Z)|(apply Y;clear Z B Y A)|(apply U;clear U K)|refine⟨rfl,?_⟩|refine⟨kZ,?_⟩|refine ix ?_|refine ld ?_|refine Cw fun σ hs=>?_|(refine CU (fun hc=>?_)<;>(try rw[hc])<;>clear hc)|(refine Ct (fun hc=>?_) (fun hc=>?_)<;>(replace hc:=bp hc)<;>(try simp(disch:=omega) only[A9,wrap64,AK]at hc)<;>(try(exfalso;omega)))|(intro nn hnn;generalize hg:A0 _ nn _=σ;refine CZ hg fun hs=>?_;clear hg)|refine Pure.use (by assumption) ?_|fail)<;>conv=>whnf)
      generalize nn=mm at *;replace hs:Sat σ [.map mm (Sg [])]:=hs.take 1;refine CA c.inits.length (fun j (_:List Int)=>[(86,eI (BG j))]) (fun _ M=>[.map mm (Sg M)]) (fun j M=>BE p=(ED (AR p) ((i:Int)+3) n (c.inits.take j) (c.inits.drop j)&&GB (AR p) n (i+1) (p.AP.drop (i+1)))∧ ∀s,M.contains s=(c.inits.take j).any fun y=>y.1==s) [] rfl ⟨hn',fun s=>rfl⟩ hs ?_;clear hs;rintro j M σ hj ⟨hm,hMs⟩ hs;rcases BI c.inits hj with⟨x,hx,hjlt⟩|hje
      ·have hpa:((c.inits.take j).all fun y=>y.1 != x.1)= !M.contains x.1:=by
        rw[hMs,List.all_eq_not_any_not];congr 2;funext y;simp[bne]
       have hst:BE p=((mine.contains x.1&&(!M.contains x.1&&Sv x.2))&&(ED (AR p) ((i:Int)+3) n (c.inits.take (j+1)) (c.inits.drop (j+1))&&GB (AR p) n (i+1) (p.AP.drop (i+1)))):=by
        rw[hm,drop_cons hx,ED,hpa,hmh,←hne,AO hx];cases decide (0≤x.1)<;>cases decide (x.1<n)<;>cases hasB (AR p) ((i:Int)+3) x.1<;>cases Sv x.2<;>cases M.contains x.1<;>simp
       have hMs': ∀s,(Oh M x.1).contains s=(c.inits.take (j+1)).any fun y=>y.1==s:=fun s=>by
        rw[VG,hMs,AO hx,List.any_append];simp only[Qb,List.any_nil,Bool.or_false];congr 1;rw[JU];simp;exact eq_comm
       have hct:=C1 mine false x.1;have hbt:=QU x.2;clear hmh hpa hMs hm;cases eA:mine.contains x.1<;>cases eB:M.contains x.1<;>cases eD:Sv x.2<;>rw[eA]at hct<;>rw[eD]at hbt<;>rw[eA,eB,eD]at hst
       all_goals
        conv=>whnf
        repeat'((first|apply st|(apply sq;intro K U)|(apply si;intro A B Y Z)|(apply Y;clear Z B Y A)|(refine Z _ _ _ ?_;clear Z B Y A)|(apply U;clear U K)|refine⟨rfl,?_⟩|refine⟨kZ,?_⟩|refine ix ?_|refine ld ?_|refine Cw fun σ hs=>?_|refine HK ?_|refine FP ?_|(refine CU (fun hc=>?_)<;>(try rw[hc])<;>clear hc)|(refine Ct (fun hc=>?_) (fun hc=>?_)<;>(replace hc:=bp hc)<;>(try simp(disch:=omega) only[A9,wrap64,AK]at hc)<;>(try(cases hc;done)))|refine oy eB ?_|refine xw (fun σ hs=>?_)|(intro nn hnn;generalize hg:A0 _ nn _=σ;refine CZ hg fun hs=>?_;clear hg)|refine Pure.use (by assumption) ?_|clear U K)<;>conv=>whnf)
       all_goals first
        | exact⟨hjlt,_,rfl,⟨hst,hMs'⟩,hs.less (Jz _ _)⟩
        | exact Wv (by rw[hst];rfl)
      ·rw[As hje,ED,Il]at hm
       conv=>whnf
       repeat'((first|apply st|(apply sq;intro K U)|(apply si;intro A B Y Z)|(apply Y;clear Z B Y A)|(apply U;clear U K)|refine⟨rfl,?_⟩|(refine Dl (fun hc=>?_)<;>(try rw[hc])<;>clear hc)|clear U K)<;>conv=>whnf)
       exact⟨hilt,(),rfl,hm,hs.take 0⟩
     ·rw[hem]at hlb
      rw[hem,if_pos rfl,←hw3]at hlin;have hcF:BE p=false:=by rw[hn',hlb];rfl
      conv=>whnf
      repeat'((first|apply st|(apply sq;intro K U)|(apply si;intro A B Y Z)|(apply Y;clear Z B Y A)|(refine Z _ _ _ ?_;clear Z B Y A)|(apply U;clear U K)|refine⟨rfl,?_⟩|refine⟨kZ,?_⟩|refine ix ?_|refine Cw fun σ hs=>?_|(refine CU (fun hc=>?_)<;>(try rw[hc])<;>clear hc)|(refine Ct (fun hc=>?_) (fun hc=>?_)<;>(replace hc:=bp hc)<;>(try(exfalso;omega)))|(intro nn hnn;generalize hg:A0 _ nn _=σ;refine CZ hg fun hs=>?_;clear hg)|refine Pure.use (by assumption) ?_|clear U K)<;>conv=>whnf)
      all_goals exact Wv hcF
    ·conv=>whnf
     repeat'((first|apply st|(apply sq;intro K U)|(apply si;intro A B Y Z)|(apply Y;clear Z B Y A)|(apply U;clear U K)|refine⟨rfl,?_⟩|(refine Dl (fun hc=>?_)<;>(try rw[hc])<;>clear hc)|clear U K)<;>conv=>whnf)
     exact clsT hs (by rw[hn',As hie];rfl)
   ·have hcF:BE p=false:=by rw[hcb];simp[hps]
    conv=>whnf
    repeat'((first|apply st|(apply sq;intro K U)|(apply si;intro A B Y Z)|(apply Y;clear Z B Y A)|(refine Z _ _ _ ?_;clear Z B Y A)|(apply U;clear U K)|refine⟨rfl,?_⟩|refine⟨kZ,?_⟩|(refine Dl (fun hc=>?_)<;>(try rw[hc])<;>clear hc)|(refine Ct (fun hc=>?_) (fun hc=>?_)<;>(replace hc:=bp hc)<;>(try simp(disch:=omega) only[A9,wrap64,AK]at hc)<;>(try(cases hc;done)))|refine Pure.use (Lx _ (by omega)) ?_|(constructor<;>intro hc<;>(try rw[hc])<;>(replace hc:=bp hc)<;>try(exfalso;omega))|clear U K)<;>conv=>whnf)
    all_goals exact Wv hcF
def ah (f : Fact):RI f=true→Pure Tryz.prog 288 [.a (xF f)] (eI (GC f)):=by
 induction f using Fact.ind with
 | h f ih=>
   intro ha;refine Pure.fit (by kernel_rfl) fun hf=>?_
   have⟨h2,h3,h4⟩:=J6 hf.1;have hM:=Mx;rw[Ph]at ha;simp only[BJ,Cn,List.all_map,Em]at ha;refine sa kZ ?_;have hs:=Sn;by_cases hlf:CH f=true
   ·have hlo:=Fs hlf
    have hw:IntKind.i64.wrap (f.arg+1)=f.arg+1:=wrap64 (by omega) (by omega)
    conv=>whnf
    repeat'((first|apply st|(apply sq;intro K U)|(apply si;intro A B Y Z)|(apply Y;clear Z B Y A)|(apply U;clear U K)|refine⟨rfl,?_⟩|(constructor<;>intro hc<;>(try rw[hc])<;>(replace hc:=bp hc)<;>try(exfalso;omega))|fail)<;>conv=>whnf)
    all_goals try(exfalso;omega)
    all_goals
     refine CA f.kids.length (fun k (_:Unit)=>[(3,eI (((f.kids.take k).map GC).foldl Jx (if CH f then f.arg+1 else 0))),(25,eI (BG k))]) (fun _ _=>[]) (fun _ _=>True) () (by rw[hw,if_pos hlf];rfl) trivial hs ?_;clear hs;rintro k - σ hk - hs;rcases BI f.kids hk with⟨x,hx,hlt⟩|hke
     ·have hxs:=ih x (B9 hx) (ha.2 x (B9 hx))
      conv=>whnf
      repeat'((first|apply st|(apply sq;intro K U)|(apply si;intro A B Y Z)|(apply Y;clear Z B Y A)|(apply U;clear U K)|refine⟨rfl,?_⟩|refine⟨kZ,?_⟩|refine Qx ?_|refine ld ?_|refine Cw fun σ hs=>?_|(refine CU (fun hc=>?_)<;>(try rw[hc])<;>clear hc)|(intro nn hnn;generalize hg:A0 _ nn _=σ;refine CZ hg fun hs=>?_;clear hg)|refine Pure.use (by assumption) ?_|clear U K)<;>conv=>whnf)
      exact⟨hlt,(),by rw[GI _ _ _ hx];rfl,trivial,hs.take 0⟩
     ·conv=>whnf
      repeat'((first|apply st|(apply sq;intro K U)|(apply si;intro A B Y Z)|(apply Y;clear Z B Y A)|(apply U;clear U K)|refine⟨rfl,?_⟩|(refine Dl (fun hc=>?_)<;>(try rw[hc])<;>clear hc)|clear U K)<;>conv=>whnf)
      exact AI (by rw[Ap hke,←Ji])
   ·have hlo:f.op≠2∧f.op≠3∧f.op≠4:=by
     simp only[CH,Fo,D9]at hlf;omega
    conv=>whnf
    repeat'((first|apply st|(apply sq;intro K U)|(apply si;intro A B Y Z)|(apply Y;clear Z B Y A)|(apply U;clear U K)|refine⟨rfl,?_⟩|(constructor<;>intro hc<;>(try rw[hc])<;>(replace hc:=bp hc)<;>try(exfalso;omega))|fail)<;>conv=>whnf)
    all_goals try(exfalso;omega)
    all_goals
     refine CA f.kids.length (fun k (_:Unit)=>[(3,eI (((f.kids.take k).map GC).foldl Jx (if CH f then f.arg+1 else 0))),(25,eI (BG k))]) (fun _ _=>[]) (fun _ _=>True) () (by rw[if_neg hlf];rfl) trivial hs ?_;clear hs;rintro k - σ hk - hs;rcases BI f.kids hk with⟨x,hx,hlt⟩|hke
     ·have hxs:=ih x (B9 hx) (ha.2 x (B9 hx))
      conv=>whnf
      repeat'((first|apply st|(apply sq;intro K U)|(apply si;intro A B Y Z)|(apply Y;clear Z B Y A)|(apply U;clear U K)|refine⟨rfl,?_⟩|refine⟨kZ,?_⟩|refine Qx ?_|refine ld ?_|refine Cw fun σ hs=>?_|(refine CU (fun hc=>?_)<;>(try rw[hc])<;>clear hc)|(intro nn hnn;generalize hg:A0 _ nn _=σ;refine CZ hg fun hs=>?_;clear hg)|refine Pure.use (by assumption) ?_|clear U K)<;>conv=>whnf)
      exact⟨hlt,(),by rw[GI _ _ _ hx];rfl,trivial,hs.take 0⟩
     ·conv=>whnf
      repeat'((first|apply st|(apply sq;intro K U)|(apply si;intro A B Y Z)|(apply Y;clear Z B Y A)|(apply U;clear U K)|refine⟨rfl,?_⟩|(refine Dl (fun hc=>?_)<;>(try rw[hc])<;>clear hc)|clear U K)<;>conv=>whnf)
      exact AI (by rw[Ap hke,←Ji])
def bH (p:Prog) (x:Node) (size:Int):Pure Tryz.prog 286 [.a (BR p),.a (I9 x),eI size] (.b (MV p x size)):=by
 refine Pure.fit (by kernel_rfl) fun hf=>?_
 have⟨p1,p2,p3,p4⟩:=Er hf.1;have hM:=Mx;have hw:IntKind.i64.wrap (3+((p.AP.map UT).length:Nat))=3+(p.AP.length:Int):=by rw[A9,wrap64 (by omega) (by omega)]
 refine sc kZ ?_;have hs:=Sn
 conv=>whnf
 repeat'((first|apply st|(apply sq;intro K U)|(apply si;intro A B Y Z)|(apply Y;clear Z B Y A)|(apply U;clear U K)|refine⟨rfl,?_⟩|refine Pure.use (QU _) ?_|(constructor<;>intro hc<;>(try rw[hc])<;>(replace hc:=bp hc))|clear U K)<;>conv=>whnf)
 all_goals first
  | (refine AI ?_;simp[MV, *];done)
  | (refine AI ?_;simp[MV, *];omega)
  | (refine AI ?_;rw[hw];simp[MV, *];done)
  | (refine AI ?_;congr 1;rw[JU];simp[MV, *];omega)
def qQ (n:Nat) (hn:n≤120):Pure Tryz.prog 239 [.i .u64 1,eU n] (.t [.i .u64 0,eU n]):=by
 refine tJ kZ ?_;have hs:=Sn
 conv=>whnf
 repeat'((first|apply st|(apply sq;intro K U)|(apply si;intro A B Y Z)|(apply Y;clear Z B Y A)|(apply U;clear U K)|refine⟨rfl,?_⟩|refine⟨(by decide:(0:Int)≤_),?_⟩|fail)<;>conv=>whnf)
 have ea: ∀m:Nat,m≤120→bits .and .u64 (m:Int) 4294967295=(m:Int):=fun m hm=>by
  have:=L0 (a:=m) (b:=4294967295) (by omega) (by decide)
  have e:m&&&4294967295=m:=by
   have:=Nat.and_two_pow_sub_one_eq_mod m 32;rw[show 2 ^ 32 - 1=4294967295 from rfl]at this;rw[this];omega
  rw[e]at this;exact this
 have e0:=ea 0 (by omega);have e1:=ea 1 (by omega);have en:=ea n hn
 have ef: ∀m:Nat,m≤120→(m:Int).fdiv (2 ^ min (Int.toNat 32) IntKind.u64.bits)=0:=fun m hm=>by
  have:=Yn (a:=m) (c:=32) (by decide);rw[show(Int.toNat 32)=32 from rfl,this,Nat.shiftRight_eq_div_pow];have:m / 2 ^ 32=0:=Nat.div_eq_of_lt (by omega);rw[this];rfl
 have f0:=ef 0 (by omega);have f1:=ef 1 (by omega);have fn:=ef n hn;have w0:IntKind.u64.wrap 0=0:=rfl;have wn:IntKind.u64.wrap (n:Int)=n:=HZ (by omega);simp only[Int.natCast_zero,Int.natCast_one,Int.cast_ofNat_Int]at e0 e1 f0 f1;simp only[e0,e1,en,f0,f1,fn,w0,wn,Int.zero_mul,Int.mul_zero,Int.zero_add,Int.add_zero,Int.one_mul];exact AI rfl
def qR (n:Nat) (hn:n≤120):Pure Tryz.prog 160 [.i .u64 1,eU n] (.t [.i .u64 0,eU n]):=by
 refine tz kZ ?_;have hs:=Sn
 conv=>whnf
 repeat'((first|apply st|(apply sq;intro K U)|(apply si;intro A B Y Z)|(apply Y;clear Z B Y A)|(apply U;clear U K)|refine Pure.use (qQ n hn) ?_|fail)<;>conv=>whnf)
 all_goals exact AI rfl
end Go.Gl
namespace Go.Gl
variable {P:Program} {σ:AH}
def dQ {n sz len cap:Nat} {ki:IntKind} {j:Int} {K:V→AH→Prop} (h:K (.sv n sz j.toNat ((len:Int) - j).toNat) σ) (h0:0≤j:=by omega) (h1:j≤(len:Int):=by omega):AU σ sz (.sl n len cap) (some (.i ki j)) none none K:=by
 unfold AU;simp only[NV];exact⟨h0,h1,Int.le_refl _,h⟩
def oo {n sz len cap:Nat} {ki:IntKind} {j:Int} {K:V→AH→Prop} (h:K (.sv n sz 0 j.toNat) σ) (h0:0≤j:=by omega) (h1:j≤(len:Int):=by omega):AU σ sz (.sl n len cap) none (some (.i ki j)) none K:=by
 unfold AU;simp only[NV];refine⟨Int.le_refl _,h0,h1,?_⟩;simpa using h
def wV {l:List At} (h:Sat σ l) (i:Nat) {n len cap sz:Nat} {es ys:List (List V)} {f:Bool} {K:V→AH→Prop} (hi:l[i]? =some (.own (.sl n len cap) sz es)) (hle:ys.length≤es.length) (hys: ∀e∈ys,e.length=sz) (ho: ∀e∈ys,∀v∈e,CL v=true)
    (hk: ∀σ',Sat σ' (l.set i (.own (.sl n len cap) sz (ys++es.drop ys.length)))→K (.i .i64 (ys.length:Nat)) σ'):Ag σ sz (.sl n len cap) (.l ys f) K:=by
 rcases h.get hi with⟨h1,_⟩|⟨n',cap',h1,hn⟩
 ·cases h1
 cases h1;unfold Ag;refine⟨hys,ho,?_⟩;simp only[Oi,hn];have hm:min ys.length es.length=ys.length:=Nat.min_eq_left hle;refine⟨trivial,by omega,?_⟩;rw[hm];refine hk _ ?_;simp only[List.take_zero,List.nil_append,List.take_length,HD];refine h.change hi (fun b hb ha=>E9 hb fun m hm=>?_) (fun b hb ha m hm=>ha m hm) (.inr ⟨n,cap,by simp;omega,by simp[A0]⟩);rw[Ch];intro e;subst e;exact ha m rfl hm
def wU {l:List At} (h:Sat σ l) (i:Nat) {n len cap sz a b c:Nat} {es:List (List V)} {K:V→AH→Prop} (hi:l[i]? =some (.own (.sl n len cap) sz es)) (hbc:a+b≤es.length) (hc:c≤es.length) (hys: ∀e∈es,e.length=sz) (ho: ∀e∈es,∀v∈e,CL v=true)
    (hk: ∀σ',Sat σ' (l.set i (.own (.sl n len cap) sz (es.take a++((es.take c).take (min c b)++es.drop (a+min c b)))))→K (.i .i64 (min c b:Nat)) σ'):Ag σ sz (.sv n sz a b) (.sv n sz 0 c) K:=by
 rcases h.get hi with⟨h1,_⟩|⟨n',cap',h1,hn⟩
 ·cases h1
 cases h1;unfold Ag;simp only[rowsOf,hn];have hl:((es.drop 0).take c).length=c:=by simp;omega
 refine⟨trivial,trivial,by omega,fun e he v hv=>ho e (List.mem_of_mem_take (by simpa using he)) v hv,trivial,?_⟩;simp only[Oi,hn,List.drop_zero];refine⟨trivial,by omega,?_⟩;have hl2:(es.take c).length=c:=by simp;omega
 rw[hl2];refine hk _ ?_;refine h.change hi (fun b hb ha=>E9 hb fun m hm=>?_) (fun b hb ha m hm=>ha m hm) (.inr ⟨n,cap,by simp;omega,by simp[A0]⟩);rw[Ch];intro e;subst e;exact ha m rfl hm
end Go.Gl
namespace Go.Gl
open Go.Proofs
attribute [local irreducible] BC Aw Ai AV AM Ah AU AW AN Ag AQ AS A3 BA Sat Ab A8 Ak W
def av (n:Nat) (h1:1≤n) (hn:n≤120):Bj Tryz.prog 102 [.l [[eI (-1)]] true,eI n] [] fun r post=> ∃v,r= .ret v∧post= [.own v 1 (iL (List.replicate n (-1)))]∧(B5 v).isSome=true:=by
 intro σ hs;have hM:=Mx;have hw1:IntKind.u64.wrap 1=1:=rfl;have hwn:IntKind.u64.wrap (n:Int)=n:=HZ (by omega);have hwi:IntKind.i64.wrap (n:Int)=n:=wrap64 (by omega) (by omega);refine uU kZ ?_
 conv=>whnf
 repeat'((first|apply st|(apply sq;intro K U)|(apply si;intro A B Y Z)|(apply Y;clear Z B Y A)|(apply U;clear U K)|refine⟨rfl,?_⟩|(constructor<;>intro hc<;>(try rw[hc])<;>(replace hc:=bp hc)<;>try(exfalso;omega))|fail)<;>conv=>whnf)
 rw[show IntKind.u64.wrap (([[eI (-1)]]:List (List V)).length:Nat)=1 from rfl,hwn];refine(qR n hn).use ?_
 conv=>whnf
 repeat'((first|apply st|(apply sq;intro K U)|(apply si;intro A B Y Z)|(apply Y;clear Z B Y A)|(apply U;clear U K)|refine⟨rfl,?_⟩|(constructor<;>intro hc<;>(try rw[hc])<;>(replace hc:=bp hc)<;>try(exfalso;omega))|fail)<;>conv=>whnf)
 all_goals try(exfalso;omega)
 rw[hwi];refine ju hs (Iu n) (by omega) fun v σ hs hv=>?_
 obtain⟨id,rfl⟩:=hv
 conv=>whnf
 repeat'((first|(apply sq;intro K U)|(apply si;intro A B Y Z)|(apply Y;clear Z B Y A)|(apply U;clear U K)|fail)<;>conv=>whnf)
 refine wV hs 0 (ys:=[[eI (-1)]]) rfl (by simp;omega) (fun e he=>by simp at he;subst he;rfl) (fun e he v hv=>by simp at he;subst he;simp at hv;subst hv;rfl) fun σ hs=>?_
 have hst:([[eI (-1)]]:List (List V))++(List.replicate n [V.i .i64 0]).drop ([[eI (-1)]]:List (List V)).length=List.replicate 1 [eI (-1)]++List.replicate (n - 1) [eI 0]:=by simp[List.drop_replicate]
 rw[hst]at hs
 conv=>whnf
 repeat'((first|apply st|(apply sq;intro K U)|(apply Y;clear Z B Y A)|(apply U;clear U K)|fail)<;>conv=>whnf)
 refine EA (fun m:Nat=>n - m) (fun m=>[(8,eI m)]) (fun m=>[.own (.sl id n n) 1 (List.replicate m [eI (-1)]++List.replicate (n - m) [eI 0])]) (fun m=>1≤m∧m≤n) 1 rfl ⟨by omega,h1⟩ hs ?_;clear hs hst;rintro m σ ⟨hm1,hmn⟩ hs
 have hgl: ∀e∈(List.replicate m [eI (-1)]++List.replicate (n - m) [eI 0]:List (List V)),e.length=1∧ ∀v∈e,CL v=true:=fun e he=>by
  rcases E7.1 he with he|he
  ·rw[(List.mem_replicate.1 he).2];exact⟨rfl,fun v hv=>by simp at hv;subst hv;rfl⟩
  ·rw[(List.mem_replicate.1 he).2];exact⟨rfl,fun v hv=>by simp at hv;subst hv;rfl⟩
 have hlen:(List.replicate m [eI (-1)]++List.replicate (n - m) [eI 0]:List (List V)).length=n:=by simp;omega
 rcases Nat.lt_or_ge m n with hlt|hge
 ·have hcpy:(List.replicate m [eI (-1)]++List.replicate (n - m) [eI 0]:List (List V)).take m++(((List.replicate m [eI (-1)]++List.replicate (n - m) [eI 0]:List (List V)).take m).take (min m (n - m))++(List.replicate m [eI (-1)]++List.replicate (n - m) [eI 0]:List (List V)).drop (m+min m (n - m)))=List.replicate (m+min m (n - m)) [eI (-1)]++List.replicate (n - (m+min m (n - m))) [eI 0]:=by
   have e1:(List.replicate m [eI (-1)]++List.replicate (n - m) [eI 0]:List (List V)).take m=List.replicate m [eI (-1)]:=by
    rw[List.take_append_of_le_length (by simp)];simp
   rw[e1,List.take_replicate,List.drop_append,List.drop_replicate,List.drop_replicate,List.length_replicate,←Wd,List.replicate_append_replicate];have e2:m - (m+min m (n - m))=0:=by omega
   have e3:n - m - (m+min m (n - m) - m)=n - (m+min m (n - m)):=by omega
   rw[e2,e3,List.replicate_zero,List.nil_append];congr 2;omega
  conv=>whnf
  repeat'((first|apply st|(apply sq;intro K U)|(apply si;intro A B Y Z)|(apply Y;clear Z B Y A)|(apply U;clear U K)|apply dr|refine⟨rfl,?_⟩|refine lo ?_|(constructor<;>intro hc<;>(try rw[hc])<;>(replace hc:=bp hc)<;>try(exfalso;omega))|fail)<;>conv=>whnf)
  all_goals try(exfalso;omega)
  refine dQ ?_
  conv=>whnf
  repeat'((first|apply dr|fail)<;>conv=>whnf)
  refine oo ?_
  conv=>whnf
  repeat'((first|apply dr|fail)<;>conv=>whnf)
  rw[Iv,show((n:Int) - m).toNat=n - m by omega];refine wU hs 0 rfl (by rw[hlen];omega) (by rw[hlen];omega) (fun e he=>(hgl e he).1) (fun e he=>(hgl e he).2) fun σ hs=>?_
  rw[hcpy]at hs
  conv=>whnf
  repeat'((first|(apply Y;clear Z B Y A)|apply dr|refine⟨rfl,?_⟩|clear U K)<;>conv=>whnf)
  refine⟨m+min m (n - m),by omega,?_,⟨by omega,by omega⟩,hs⟩;rw[wrap64 (by omega) (by omega)];rfl
 ·have hme:m=n:=by omega
  subst hme
  conv=>whnf
  repeat'((first|apply st|(apply sq;intro K U)|(apply si;intro A B Y Z)|(apply Y;clear Z B Y A)|(apply U;clear U K)|refine⟨rfl,?_⟩|refine lo ?_|(constructor<;>intro hc<;>(try rw[hc])<;>(replace hc:=bp hc)<;>try(exfalso;omega))|clear U K)<;>conv=>whnf)
  all_goals try(exfalso;omega)
  refine Av hs (List.Sublist.refl _) (.refl _) fun σ' hs'=>⟨_,⟨_,rfl,?_,rfl⟩,hs'⟩
  simp[iL]
def Q9 (op:Int):V:=
 if op=5 then .E2 360 (.a [])else
 if op=1∨op=2∨op=3∨op=6∨op=18 then .E2 359 (eI 0)else
 if op=4∨op=8∨op=17 then .E2 359 (eI 1)else
 if op=7∨op=9∨op=11∨op=12∨op=13∨op=14∨op=15∨op=16 then .E2 359 (eI 2)else
 if op=10 then .E2 359 (eI 3)else .Dm
def bV (op:Int):Pure Tryz.prog 287 [eI op] (Q9 op):=by
 refine sb kZ ?_;have hs:=Sn
 conv=>whnf
 repeat'((first|apply st|(apply sq;intro K U)|(apply si;intro A B Y Z)|(apply Y;clear Z B Y A)|(apply U;clear U K)|refine⟨rfl,?_⟩|(constructor<;>intro hc<;>(try rw[hc])<;>(replace hc:=bp hc))|clear U K)<;>conv=>whnf)
 all_goals exact AI (by simp[Q9, *])
def wD (n:Int) (p:Prog) (x:Node):Pure Tryz.prog 399 [eI n,.a (BR p),.a (I9 x)] (eI n):=by
 refine qz kZ ?_;have hs:=Sn
 conv=>whnf
 repeat'((first|apply st|(apply sq;intro K U)|(apply si;intro A B Y Z)|(apply Y;clear Z B Y A)|(apply U;clear U K)|fail)<;>conv=>whnf)
 all_goals exact AI rfl
def mo (p:Prog) (x:Node) (h0:0≤x.n) (h1:x.n<p.Dj.length):Pure Tryz.prog 400 [.a [],.a (BR p),.a (I9 x)] (eI (p.Dj.getD x.n.toNat 0)):=by
 refine Pure.fit (by kernel_rfl) fun hf=>?_
 have⟨p1,p2,p3,p4⟩:=Er hf.2.1
 have hx:p.Dj[x.n.toNat]? =some (p.Dj.getD x.n.toNat 0):=by
  rw[DZ,C7 (by omega)];rfl
 refine qy kZ ?_;have hs:=Sn
 conv=>whnf
 repeat'((first|apply st|(apply sq;intro K U)|(apply si;intro A B Y Z)|(apply Y;clear Z B Y A)|(apply U;clear U K)|refine HI ?_|fail)<;>conv=>whnf)
 all_goals exact AI rfl
end Go.Gl
namespace Go.Gl
variable {P:Program} {σ:AH}
def Sat.up {σ':AH} {l:List At} (h:Sat σ l) (hs:Sub σ σ'):Sat σ' l:=by
 refine⟨fun a ha=>?_,h.2⟩;have:=h.1 a ha;cases a with
 | obj n o=>exact hs n o this
 | own v sz es=>
   rcases this with h|⟨n,cap,e,hn⟩
   ·exact .inl h
   ·exact .inr ⟨n,cap,e,hs n _ hn⟩
def Sat.del {l:List At} {n:Nat} {o:O} (h:Sat σ (.obj n o::l)):Sat (del σ n) l:=by
 refine⟨fun b hb=>E9 (h.1 b (.tail _ hb)) fun m hm=>?_,(List.pairwise_cons.1 h.2).2⟩;rw[G5];intro e;subst e;exact(List.pairwise_cons.1 h.2).1 b hb m rfl hm
def Sat.pJ {l:List At} {n:Nat} {o:O} (h:Sat σ l) (hn:σ n=none):Sat (A0 σ n o) (.obj n o::l):=(dY h hn).vJ
def Sat.new {l:List At} {n:Nat} {o o':O} (h:Sat σ (.obj n o::l)):Sat (A0 σ n o') (.obj n o'::l):=o6 (i:=0) h rfl o'
def AX {v:V} {Q:R→AH→Prop} (h:Q (.ret v) σ):Aw σ v Q:=⟨v,σ,fun _ _ h=>h,.refl v,h⟩
inductive Rd (S:Type) where
 | go (s:S)
 | stop (st:vD) (s:S)
 | Bi (v:V)
def jk {S:Type} (L:Nat) (E:Env) (ok:FuncId→Array Tmp→Code→Code→Nat→Prop) (H:S→List At) (J:S→Prop) (rest:List At) (yes no:V):Rd S→R→AH→Prop
 | .go s,r,σ=>r= .ret yes∧Sat σ (.obj L (.loop .ready E ok)::(H s++rest))
 | .stop st s,r,σ=>r= .ret no∧Sat σ (.obj L (.loop st E ok)::(H s++rest))
 | .Bi v,r,σ=>r= .Bi v∧ ∃s,J s∧Sat (del σ L) (H s++rest)
def Mr {α S:Type} (P:Program) (L:Nat) (E:Env) (ok:FuncId→Array Tmp→Code→Code→Nat→Prop) (ea:α→List V) (H:S→List At) (J:S→Prop) (stp:α→S→Rd S) (D:α→S→Prop):Prop:=
 ∀y s,D y s→ ∀(rest:List At) (σ:AH),Sat σ (.obj L (.loop .ready E ok)::(H s++rest))→Oq P L (ea y) σ (jk L E ok H J rest (.b true) (.b false) (stp y s))
def Mr.use {α S:Type} {L:Nat} {E:Env} {ok:FuncId→Array Tmp→Code→Code→Nat→Prop} {ea:α→List V} {H:S→List At} {J:S→Prop} {stp:α→S→Rd S} {D:α→S→Prop} (h:Mr P L E ok ea H J stp D) {y:α} {s:S} (hd:D y s) {rest:List At} (hs:Sat σ (.obj L (.loop .ready E ok)::(H s++rest)))
    {Q:R→AH→Prop} (hk: ∀r σ',jk L E ok H J rest (.b true) (.b false) (stp y s) r σ'→Q r σ'):A3 P (.f (.yield L) [] []) (ea y) σ Q:=(h y s hd rest σ hs).mono hk
def QO {L:Nat} {env:Env} {ps:List Nat} {a b:AY} (hσ:σ L=some (.loop .ready env (B0 P ps a b))) {args:List V} (hl:args.length=ps.length) {Q:R→AH→Prop}
    (h:W P a (Cg (W P b fun ex env' σ'=>σ' L=none→TL L env (B0 P ps a b) Q ex env' σ')) (Et ps args env) (del σ L)):Oq P L args σ Q:=
 QP hσ hl (XR h (J8 fun _ _ h=>nE h))
def Nn {α S:Type} {L:Nat} {E:Env} {ps:List Nat} {a b:AY} {ea:α→List V} {H:S→List At} {J:S→Prop} {stp:α→S→Rd S} {D:α→S→Prop} (hl: ∀y,(ea y).length=ps.length)
    (h: ∀y s,D y s→ ∀(rest:List At) (σ:AH),Sat σ (H s++rest)→W P a (Cg (W P b fun ex env' σ'=>σ' L=none→TL L E (B0 P ps a b) (jk L E (B0 P ps a b) H J rest (.b true) (.b false) (stp y s)) ex env' σ')) (Et ps (ea y) E) σ):Mr P L E (B0 P ps a b) ea H J stp D:=
 fun y s hd rest σ hs=>QO (hs.get (i:=0) rfl) (hl y) (h y s hd rest _ hs.del)
def VE {S:Type} {L:Nat} {E:Env} {ok:FuncId→Array Tmp→Code→Code→Nat→Prop} {H:S→List At} {J:S→Prop} {rest:List At} {o:Rd S} {s:S} (h:o= .go s) (hs:Sat σ (H s++rest)) (hn:σ L=none) :
    jk L E ok H J rest (.b true) (.b false) o (.ret (.b true)) (A0 σ L (.loop .ready E ok)):=by
 subst h;exact⟨rfl,hs.pJ hn⟩
def XZ {S:Type} {L:Nat} {E:Env} {ok:FuncId→Array Tmp→Code→Code→Nat→Prop} {H:S→List At} {J:S→Prop} {rest:List At} {o:Rd S} {s:S} {st:vD} (h:o= .stop st s) (hs:Sat σ (H s++rest)) (hn:σ L=none) :
    jk L E ok H J rest (.b true) (.b false) o (.ret (.b false)) (A0 σ L (.loop st E ok)):=by
 subst h;exact⟨rfl,hs.pJ hn⟩
def Ri {S:Type} {L:Nat} {E:Env} {ok:FuncId→Array Tmp→Code→Code→Nat→Prop} {H:S→List At} {J:S→Prop} {rest:List At} {o:Rd S} {s:S} {v:V} (h:o= .Bi v) (hj:J s) (hs:Sat σ (H s++rest)) (hn:σ L=none) :
    jk L E ok H J rest (.b true) (.b false) o (.Bi v) σ:=by
 subst h;refine⟨rfl,s,hj,fun a ha=>E9 (hs.1 a ha) fun n hd=>?_,hs.2⟩;obtain⟨o,ho⟩:=C0 (hs.1 a ha) hd;rw[G5];intro e;subst e;rw[hn]at ho;cases ho
def PK {L:Nat} {E env:Env} {ok:FuncId→Array Tmp→Code→Code→Nat→Prop} {Q:Ae→Env→AH→Prop} {l:List At} {v:V} (hs:Sat σ (.obj L (.loop .ready E ok)::l)) (hk: ∀σ',Sat σ' l→Q .normal env σ'):Ke L Q env (.ret v) σ:=
 ⟨_,_,_,hs.get (i:=0) rfl,hk _ hs.del⟩
def Xc {L id:Nat} {E env:Env} {ok:FuncId→Array Tmp→Code→Code→Nat→Prop} {Q:Ae→Env→AH→Prop} {l:List At} {v:V} (hs:Sat σ (.obj L (.loop (.exit id) E ok)::l)) (hk: ∀σ',Sat σ' l→Q (.exit id) env σ'):Ke L Q env (.ret v) σ:=
 ⟨_,_,_,hs.get (i:=0) rfl,hk _ hs.del⟩
end Go.Gl
