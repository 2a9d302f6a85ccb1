import Derived.Shelf.Sort.Plain
import Derived.Test.YtegbmnmnaijioaaGreatProg
import Derived.Test.YtegbmnmnaijioaaGreatB9
set_option linter.all false
set_option linter.defProp false
noncomputable section
namespace Go.Gl
open Go.Proofs
attribute [local irreducible] A8 Ap Ag AT AL Ae AS AU AK Ad AO AP Aw A2 Sat AX A0 Ai W
def gq (s c:Nat) (hs0:s<18446744073709551616) (hc:c<64):Pure Tryz.prog 366 [.a [eU s],eI c] (.a [eU (s|||2 ^ c)]):=by
 refine pA kZ ?_;have hs:=Sn
 conv=>whnf
 repeat'((first|apply st|(apply sq;intro K U)|(apply si;intro A B Y Z)|(apply Y;clear Z B Y A)|(apply U;clear U K)|apply dr|refine⟨rfl,?_⟩|refine⟨kZ,?_⟩|refine mJ ?_|refine ld ?_|refine IA fun σ hs=>?_|refine CX fun σ hs=>?_|refine⟨Int.natCast_nonneg _,?_⟩|(intro nn hnn;generalize hg:Az _ nn _=σ;refine CN hg fun hs=>?_;clear hg)|fail)<;>conv=>whnf)
 refine AI ?_;simp only[Lm,X0 hc,LC hs0 (J0 hc)];rfl
def tG (s t:Nat) (hs0:s<18446744073709551616) (ht0:t<18446744073709551616):Pure Tryz.prog 367 [.a [eU s],.a [eU t]] (.a [eU (s|||t)]):=by
 refine o8 kZ ?_;have hs:=Sn
 conv=>whnf
 repeat'((first|apply st|(apply sq;intro K U)|(apply si;intro A B Y Z)|(apply Y;clear Z B Y A)|(apply U;clear U K)|refine⟨rfl,?_⟩|refine⟨kZ,?_⟩|refine mJ ?_|refine zG ?_|refine ld ?_|refine IA fun σ hs=>?_|refine CX fun σ hs=>?_|(intro nn hnn;generalize hg:Az _ nn _=σ;refine CN hg fun hs=>?_;clear hg)|fail)<;>conv=>whnf)
 refine AI ?_;simp only[LC hs0 ht0];rfl
def UI (s:Nat) (c:Int) (hs0:s<18446744073709551616) (h0:0≤c) (hc:c<64):Pure Tryz.prog 366 [.a [eU s],eI c] (.a [eU (s|||2 ^ c.toNat)]):=by
 have:=gq s c.toNat hs0 (by omega);rw[Int.toNat_of_nonneg h0]at this;exact this
def Kk {a b:Nat} (ha:a<18446744073709551616) (hb:b<18446744073709551616):a|||b<18446744073709551616:=by
 have:=Nat.or_lt_two_pow (n:=64) (x:=a) (y:=b) (by simpa using ha) (by simpa using hb);simpa using this
def IT (g:List (List Int)):List (List Int×Bool):=[([],true),([],true),([],true)]++g.map fun l=>(l,false)
def eS (g:List (List Int)):(IT g).length=3+g.length:=by simp[IT];omega
def YD (g:List (List Int)) {k:Nat} (hk:k<3+g.length): ∃b,(IT g)[k]? =some (A1 g (k:Int),b):=by
 unfold IT A1;by_cases h3:k<3
 ·rw[if_pos (by omega),kY (by simpa using h3)]
  refine⟨true,?_⟩;rcases k with _|_|_|k
  ·rfl
  ·rfl
  ·rfl
  ·omega
 ·rw[if_neg (by omega),List.getElem?_append_right (by simp;omega)]
  refine⟨false,?_⟩;simp only[KX,List.length_nil,QK];have e:((k:Int) - 3).toNat=k - (0+1+1+1):=by omega
  rw[e,E2,Et (by omega)];rfl
def jU:Fw (fun u:Nat=>[eU u]) 1:=fun x=>⟨rfl,fun v hv=>by simp at hv;subst hv;rfl⟩
def tF {α:Type} {a b c d:α}: [a,b,c,d].Perm [b,d,a,c]:=by
 have h1: [a,b,c,d].Perm [b,a,c,d]:= .swap _ _ _;have h2: [a,c,d].Perm [d,a,c]:=TO (l₁:=[a,c]) (l₂:=[d]);exact h1.trans (h2.cons b)
set_option maxHeartbeats 4000000 in
def ib (g:List (List Int)) (f f2:Bool) (c:Int) (hg:Df g=true) (hc0:0≤c) (hc1:c<3+g.length) :
    By Tryz.prog 353 [.l (EX g) f,.l (iL [c]) f2] [] fun r post=> ∃n mm vp vu us M,r= .ret (.t [.p n 0,.b true])∧post=gH n mm vp vu (IT g) us M∧IN g (3+g.length) M:=by
 intro σ hs;refine A8.fit (by kernel_rfl) fun hf=>?_
 have⟨g1,g2⟩:=SD hf.1;have hM:=Mx;have hG:=Dm hg;have hgl:=hG.1;have hfn:=Yf g f;rw[hg]at hfn;have hc2: [c][0]? =some c:=rfl;have hpl:=eS g;refine pJ kZ ?_
 conv=>whnf
 repeat'((first|apply st|(apply sq;intro K U)|(apply si;intro A B Y Z)|(apply Y;clear Z B Y A)|(apply U;clear U K)|refine G3 ?_|refine hfn.use ?_|fail)<;>conv=>whnf)
 refine CD 1 (fun k (_:Unit)=>[(20,eI (BM k))]) (fun _ _=>[]) (fun _ _=>True) () rfl trivial hs ?_;clear hs;rintro k - σ hk - hs;have hkk:k=0∨k=1:=by omega
 rcases hkk with rfl|rfl
 ·conv=>whnf
  repeat'((first|apply st|(apply sq;intro K U)|(apply si;intro A B Y Z)|(apply Y;clear Z B Y A)|(apply U;clear U K)|refine⟨rfl,?_⟩|refine⟨kZ,?_⟩|refine ix ?_|(refine C8 (fun hc=>?_)<;>(try rw[hc])<;>clear hc)|(constructor<;>intro hc<;>(try rw[hc])<;>(replace hc:=bp hc)<;>(try simp(disch:=omega) only[BW,wrap64,AN]at hc)<;>try(exfalso;omega))|clear U K)<;>conv=>whnf)
  all_goals try(exfalso;omega)
  exact⟨(),rfl,trivial,hs⟩
 ·have hke:1= [c].length:=rfl
  conv=>whnf
  repeat'((first|apply st|(apply sq;intro K U)|(apply si;intro A B Y Z)|(apply Y;clear Z B Y A)|(apply U;clear U K)|refine⟨rfl,?_⟩|(refine Es (fun hc=>?_)<;>(try rw[hc])<;>clear hc)|clear U K)<;>conv=>whnf)
  rw[show IntKind.i64.wrap (3+((EX g).length:Nat))=((3+g.length:Nat):Int) by rw[BW,wrap64 (by omega) (by omega)];omega];refine ss (n:=3) hs (by omega) (by omega) fun vp σ hs hv=>?_
  obtain⟨idp,rfl⟩:=hv
  conv=>whnf
  repeat'((first|(apply sq;intro K U)|(apply si;intro A B Y Z)|(apply Y;clear Z B Y A)|(apply U;clear U K)|refine ld ?_|(intro nn hnn;generalize hg:Az _ nn _=σ;refine CN hg fun hs=>?_;clear hg)|fail)<;>conv=>whnf)
  obtain⟨mm,hs⟩: ∃mm,Sat σ [.box nn [.sl idp 3 (3+g.length),.l [] true,.m mm],.map mm [],.own (.sl idp 3 (3+g.length)) 1 (List.replicate 3 [.l [] true])]:=⟨_,hs⟩
  generalize nn=n0 at *;have hgr:=EV DJ g;refine hAppend hs 2 rfl (by simp;omega) hgr.1 hgr.2 fun vp σ hs=>?_
  have hps:List.replicate 3 [.l [] true]++EX g=pL (IT g):=by simp[pL,IT,List.replicate,EX]
  rw[hps]at hs;clear hps;have hs1p:=Ft hs 2 rfl
  conv=>whnf
  repeat'((first|apply st|(apply sq;intro K U)|(apply si;intro A B Y Z)|(apply Y;clear Z B Y A)|(apply U;clear U K)|refine lo ?_|refine ld ?_|refine IA fun σ hs=>?_|fail)<;>conv=>whnf)
  replace hs:Sat σ [.box n0 [vp,.l [] true,.m mm],.map mm [],.own vp 1 (pL (IT g))]:=hs;refine CD (IT g).length (fun k (_:V×List Nat)=>[(55,eI (BM k))]) (fun _ x=>[.own x.1 1 (x.2.map fun u=>[eU u]),.box n0 [vp,x.1,.m mm],.map mm [],.own vp 1 (pL (IT g))]) (fun k x=>x.2.length=k∧ ∀u∈x.2,u<18446744073709551616) (.l [] true,[]) rfl ⟨rfl,fun u hu=>by cases hu⟩ (FN hs 1) ?_;clear hs;rintro k ⟨vu,us⟩ σ hk ⟨hul,hus⟩ hs;dsimp only at hul hus hs;rcases BS (IT g) hk with⟨⟨l,lb⟩,hl,hlt⟩|hke2
  ·have hck:BM k=k:=AN (by omega)
   obtain⟨b',hpa⟩:=YD g (k:=k) (by omega);have hle:l=A1 g (k:Int):=by rw[hl]at hpa;exact(Prod.mk.inj (Option.some.inj hpa)).1
   have hll:=Cx hG (k:Int);rw[←hle]at hll;have hlm: ∀p∈l,3≤p∧p<(k:Int):=fun p hp=>DR hG (by rw[←hle];exact hp)
   have hs1:(0|||2 ^ (BM k).toNat)<18446744073709551616:=by
    rw[Nat.zero_or,hck,Lm];exact J0 (by omega)
   have hs1u:=Ft hs 0 rfl;have hl':(IT g)[(BM k).toNat]? =some (l,lb):=by rw[hck,Lm];exact hl
   conv=>whnf
   repeat'((first|apply st|(apply sq;intro K U)|(apply si;intro A B Y Z)|(apply Y;clear Z B Y A)|(apply U;clear U K)|refine⟨rfl,?_⟩|refine CX fun σ hs=>?_|refine oi ?_|refine Vp ?_|(refine C8 (fun hc=>?_)<;>(try rw[hc])<;>clear hc)|refine Pure.use (UI 0 (BM k) (by decide) (by omega) (by omega)) ?_|refine Pure.use (UI _ _ (by first|omega|exact hs1) (by omega) (by omega)) ?_|(intro nn hnn;generalize hg:Az _ nn _=σ;refine CN hg fun hs=>?_;clear hg)|fail)<;>conv=>whnf)
   have hs0:(0|||2 ^ (BM k).toNat|||2 ^ Int.toNat 0)<18446744073709551616:=Kk hs1 (by decide);generalize (0|||2 ^ (BM k).toNat|||2 ^ Int.toNat 0)=s0 at *;refine CD l.length (fun j (_:Nat)=>[(66,eI (BM j))]) (fun _ s=>[.box nn [eU s],.own vu 1 (us.map fun u=>[eU u]),.box n0 [vp,vu,.m mm],.map mm [],.own vp 1 (pL (IT g))]) (fun _ s=>s<18446744073709551616) s0 rfl hs0 hs ?_;clear hs hs0;rintro j s σ hj hsb hs;rcases BS l hj with⟨p,hp,hjlt⟩|hje
   ·obtain⟨hp3,hpk⟩:=hlm p (Ck hp)
    obtain⟨u,hu⟩: ∃u,us[p.toNat]? =some u:=⟨_,Et (by omega)⟩
    have hub:=hus u (Ck hu)
    conv=>whnf
    repeat'((first|apply st|(apply sq;intro K U)|(apply si;intro A B Y Z)|(apply Y;clear Z B Y A)|(apply U;clear U K)|apply dr|refine⟨rfl,?_⟩|refine⟨kZ,?_⟩|refine ix ?_|refine ld ?_|refine CX fun σ hs=>?_|refine oi ?_|refine Vp ?_|(refine C8 (fun hc=>?_)<;>(try rw[hc])<;>clear hc)|refine Pure.use (tG _ _ hsb hub) ?_|clear U K)<;>conv=>whnf)
    exact⟨hjlt,s|||u,rfl,Kk hsb hub,hs⟩
   ·conv=>whnf
    repeat'((first|apply st|(apply sq;intro K U)|(apply si;intro A B Y Z)|(apply Y;clear Z B Y A)|(apply U;clear U K)|apply dr|refine⟨rfl,?_⟩|refine⟨kZ,?_⟩|refine ld ?_|(refine Es (fun hc=>?_)<;>(try rw[hc])<;>clear hc)|clear U K)<;>conv=>whnf)
    refine GF (Fc hs 1 (enc:=fun u:Nat=>[eU u]) (xs:=us) (x:=s) rfl (by omega) jU fun vu' σ hs hsl=>?_);have hs2u:=Ft hs 1 rfl
    conv=>whnf
    repeat'((first|(apply si;intro A B Y Z)|(apply Y;clear Z B Y A)|(apply U;clear U K)|apply dr|refine⟨rfl,?_⟩|refine IA fun σ hs=>?_|clear U K)<;>conv=>whnf)
    refine⟨hlt,(vu',us++[s]),rfl,⟨by simp[hul],fun u hu=>?_⟩,hs.less (IV _ _)⟩;rcases FJ.1 hu with hu|hu
    ·exact hus u hu
    ·rw[Nz.1 hu];exact hsb
  ·have hs1u:=Ft hs 0 rfl
   conv=>whnf
   repeat'((first|apply st|(apply sq;intro K U)|(apply si;intro A B Y Z)|(apply Y;clear Z B Y A)|(apply U;clear U K)|refine⟨rfl,?_⟩|refine lo ?_|refine ld ?_|(refine Es (fun hc=>?_)<;>(try rw[hc])<;>clear hc)|clear U K)<;>conv=>whnf)
   replace hs:Sat σ (gH n0 mm vp vu (IT g) us []):=hs.perm tF;refine CD (IT g).length (fun k (_:List Ord)=>[(96,eI (BM k))]) (fun _ M=>gH n0 mm vp vu (IT g) us M) (fun k M=>IN g k M) [] rfl IN.nil hs ?_;clear hs;rintro k M σ hk hkn hs;rcases BS (IT g) hk with⟨⟨l,lb⟩,hl,hlt⟩|hke3
   ·have hck:BM k=k:=AN (by omega)
    obtain⟨b',hpa⟩:=YD g (k:=k) (by omega);have hle:l=A1 g (k:Int):=by rw[hl]at hpa;exact(Prod.mk.inj (Option.some.inj hpa)).1
    have hll:=Cx hG (k:Int);rw[←hle]at hll;have hlm: ∀p∈l,3≤p∧p<(k:Int):=fun p hp=>DR hG (by rw[←hle];exact hp)
    have hlo:=Zy hG hkn hll (fun x hx=>by have:=hlm x hx;omega);have hord:=eV n0 mm vp vu (IT g) us M (BM k) l lb (by omega) (by rw[hck,Lm];exact hl) hll (fun c=>by have:=(LL hG hkn c).1;omega) (fun e he=>by have:=hkn.keys e he;omega) hlo.1 hlo.2
    conv=>whnf
    repeat'((first|apply st|(apply sq;intro K U)|(apply si;intro A B Y Z)|(apply Y;clear Z B Y A)|(apply U;clear U K)|refine⟨rfl,?_⟩|(refine C8 (fun hc=>?_)<;>(try rw[hc])<;>clear hc)|fail)<;>conv=>whnf)
    refine hord.use (rest:=[]) (by simpa using hs) ?_;clear hs;rintro r post σ ⟨rfl,M',rfl,hM'⟩ hs;rw[JW]at hs;rw[hck]at hM'
    conv=>whnf
    repeat'((first|(apply si;intro A B Y Z)|(apply Y;clear Z B Y A)|(apply U;clear U K)|refine⟨rfl,?_⟩|clear U K)<;>conv=>whnf)
    exact⟨hlt,M',rfl,hkn.step hle (fun p hp=>by have:=hlm p hp;omega) (by omega) hM',hs⟩
   ·conv=>whnf
    repeat'((first|apply st|(apply sq;intro K U)|(apply si;intro A B Y Z)|(apply Y;clear Z B Y A)|(apply U;clear U K)|refine⟨rfl,?_⟩|(refine Es (fun hc=>?_)<;>(try rw[hc])<;>clear hc)|clear U K)<;>conv=>whnf)
    exact A5 hs (List.Sublist.refl _) (.refl _) fun σ' hs'=>⟨_,⟨_,_,_,_,_,_,rfl,rfl,by rw[←hpl,←hke3];exact hkn⟩,hs'⟩
def rl {M:List Ord} {c:Int} {σ:AH} {fx:List At} (hs:Sat σ (fx++M.map bH)) (hl:(B1 M c).length≤Aj) (hne:B1 M c≠[]) {k kp:V→AH→Prop} (hk: ∀σ',Sat σ' (fx++M.map bH)→k (.l (iL (B1 M c)) false) σ'):A8 Tryz.prog 200 [IY M c] σ (qk k kp):=by
 rcases Oc M c with⟨h1,h2⟩|⟨j,hj⟩
 ·exact absurd h1 hne
 ·have hj':(fx++M.map bH)[fx.length+j]? =some (At.own (IY M c) 1 (iL (B1 M c))):=by
   rw[List.getElem?_append_right (by omega),Nat.add_sub_cancel_left,hj]
  have hcl:By Tryz.prog 200 [IY M c] [.own (IY M c) 1 (iL (B1 M c))] fun r post=>r= .ret (.l (iL (B1 M c)) false)∧post= [.own (IY M c) 1 (iL (B1 M c))]:=by
   clear hk hj' hj;generalize IY M c=v at *;generalize B1 M c=l at *;intro σ hs;refine dQ kZ ?_;have hgr:=EV Cr l
   have hend: ∀ {σ:AH} {w u:V},Sat σ [.own w 1 (iL l),.own u 1 (iL l)]→Ap σ w fun r σ'=> ∃post,(r= .ret (.l (iL l) false)∧post= [.own u 1 (iL l)])∧Sat σ' post:=fun hs=>by
    obtain⟨σ2,h1,h2,h3⟩:=OH hs 0 rfl;exact Hu h1 h2 ⟨_,⟨rfl,rfl⟩,h3⟩
   have hM:=Mx;rcases hs.get (i:=0) rfl with⟨rfl,_⟩|⟨n,cap,rfl,hn⟩
   ·conv=>whnf
    repeat'((first|(apply sq;intro K U)|(apply si;intro A B Y Z)|(apply Y;clear Z B Y A)|(apply U;clear U K)|fail)<;>conv=>whnf)
    refine⟨fun e=>absurd (List.map_eq_nil_iff.1 e) hne,fun _=>?_⟩
    conv=>whnf
    repeat'((first|apply st|(apply sq;intro K U)|(apply si;intro A B Y Z)|(apply Y;clear Z B Y A)|(apply U;clear U K)|fail)<;>conv=>whnf)
    replace hs:=FN hs 1;refine Sw hs 0 1 rfl rfl (by simp;omega) hgr.1 hgr.2 fun w σ hs=>?_
    conv=>whnf
    repeat'((first|apply st|(apply Y;clear Z B Y A)|(apply U;clear U K)|fail)<;>conv=>whnf)
    exact hend hs
   ·conv=>whnf
    repeat'((first|apply st|(apply sq;intro K U)|(apply si;intro A B Y Z)|(apply Y;clear Z B Y A)|(apply U;clear U K)|fail)<;>conv=>whnf)
    replace hs:=FN hs 1;refine Sw hs 0 1 rfl rfl (by simp;omega) hgr.1 hgr.2 fun w σ hs=>?_
    conv=>whnf
    repeat'((first|apply st|(apply Y;clear Z B Y A)|(apply U;clear U K)|fail)<;>conv=>whnf)
    exact hend hs
  refine hcl.k7 (Φ:=fun r=>r= .ret (.l (iL (B1 M c)) false)) hs hj' ?_;rintro r σ' rfl hs';exact hk σ' hs'
def oH (g:List (List Int)) (f:Bool) (c:Int) (hg:Df g=true) (hc0:0≤c) (hc1:c<3+g.length) :
    Pure Tryz.prog 324 [.l (EX g) f,eI c] (if((Bz g).getD c.toNat []).isEmpty then .t [.l [] true,eI 7]else .t [.l (iL ((Bz g).getD c.toNat [])) false,eI 0]):=by
 have hop:=ib g f true c hg hc0 hc1;refine pb kZ ?_;have hs:=Sn;have hM:=Mx;have hG:=Dm hg
 conv=>whnf
 repeat'((first|(apply sq;intro K U)|(apply si;intro A B Y Z)|(apply Y;clear Z B Y A)|(apply U;clear U K)|fail)<;>conv=>whnf)
 refine hop.use (rest:=[]) hs ?_;clear hs;rintro r post σ ⟨n,mm,vp,vu,us,M,rfl,rfl,hkn⟩ hs;rw[JW]at hs;have hol:=(LL hG hkn c).1;have hor:=hkn.bU c hc0 (by omega);by_cases hne:B1 M c= []
 ·have hl0:(B1 M c).length=0:=by rw[hne];rfl
  conv=>whnf
  repeat'((first|apply st|(apply sq;intro K U)|(apply si;intro A B Y Z)|(apply Y;clear Z B Y A)|(apply U;clear U K)|refine⟨rfl,?_⟩|refine ld ?_|refine G3 ?_|refine uk ?_|refine Od (fx:=_::_::_::_:: []) hs (by omega) ?_|(constructor<;>intro hc<;>(try rw[hc])<;>(replace hc:=bp hc)<;>try(exfalso;omega))|clear U K)<;>conv=>whnf)
  all_goals try(exfalso;omega)
  rw[←hor,hne];exact AI rfl
 ·have hl0:0<(B1 M c).length:=List.length_pos_iff.2 hne
  conv=>whnf
  repeat'((first|apply st|(apply sq;intro K U)|(apply si;intro A B Y Z)|(apply Y;clear Z B Y A)|(apply U;clear U K)|refine⟨rfl,?_⟩|refine ld ?_|refine G3 ?_|refine uk ?_|refine Od (fx:=_::_::_::_:: []) hs (by omega) ?_|(constructor<;>intro hc<;>(try rw[hc])<;>(replace hc:=bp hc)<;>try(exfalso;omega))|fail)<;>conv=>whnf)
  all_goals try(exfalso;omega)
  refine rl (fx:=_::_::_::_:: []) hs (by omega) hne fun σ hs=>?_
  conv=>whnf
  repeat'((first|apply st|(apply Y;clear Z B Y A)|(apply U;clear U K)|fail)<;>conv=>whnf)
  rw[←hor]
  have:(B1 M c).isEmpty=false:=by
   cases h:(B1 M c).isEmpty
   ·rfl
   ·exact absurd (List.isEmpty_iff.1 h) hne
  rw[this];exact AI rfl
def O2 (xs:List Int) (f:Bool):Pure Tryz.prog 200 [.l (iL xs) f] (.l (iL xs) false):=by
 refine Pure.fit (by kernel_rfl) fun hf=>?_
 have hxl:=SE hf.1;have hM:=Mx;refine dQ kZ ?_;have hs:=Sn
 conv=>whnf
 repeat'((first|(apply sq;intro K U)|(apply si;intro A B Y Z)|(apply Y;clear Z B Y A)|(apply U;clear U K)|fail)<;>conv=>whnf)
 refine⟨fun e t=>?_,fun _=>?_⟩
 ·have hx:xs= []:=List.map_eq_nil_iff.1 e
  subst hx
  conv=>whnf
  repeat'((first|apply st|(apply sq;intro K U)|(apply si;intro A B Y Z)|(apply Y;clear Z B Y A)|(apply U;clear U K)|(constructor<;>intro hc<;>(try rw[hc])<;>(replace hc:=bp hc))|clear U K)<;>conv=>whnf)
  ·exact An CQ
  ·replace hs:=FN hs 1
   refine GS hs 0 (xs:=[]) (ys:=[]) rfl (by simp) Cr fun v σ hs=>?_
   conv=>whnf
   repeat'((first|apply st|(apply Y;clear Z B Y A)|(apply U;clear U K)|fail)<;>conv=>whnf)
   exact EB hs 0 rfl rfl
 ·conv=>whnf
  repeat'((first|apply st|(apply sq;intro K U)|(apply si;intro A B Y Z)|(apply Y;clear Z B Y A)|(apply U;clear U K)|fail)<;>conv=>whnf)
  replace hs:=FN hs 1;refine GS hs 0 (xs:=[]) (ys:=xs) rfl (by simp;omega) Cr fun v σ hs=>?_
  conv=>whnf
  repeat'((first|apply st|(apply Y;clear Z B Y A)|(apply U;clear U K)|fail)<;>conv=>whnf)
  exact EB hs 0 rfl rfl
def nX (c:Py):Pure Tryz.prog 290 [.a (To c)] (.l (iL c.parents) false):=by
 refine qF kZ ?_;have hs:=Sn
 conv=>whnf
 repeat'((first|apply st|(apply sq;intro K U)|(apply si;intro A B Y Z)|(apply Y;clear Z B Y A)|(apply U;clear U K)|refine Pure.use (O2 _ _) ?_|fail)<;>conv=>whnf)
 exact AI rfl
def kH (xs:List (List Int)) (v:V) (hl:xs.length≤Aj):By Tryz.prog 329 [v] [.own v 1 (EX xs)] fun r post=>r= .ret (.l (EX xs) true)∧post= []:=by
 intro σ hs;have hg:=EV DJ xs;refine pW kZ ?_
 conv=>whnf
 repeat'((first|(apply sq;intro K U)|(apply si;intro A B Y Z)|(apply Y;clear Z B Y A)|(apply U;clear U K)|refine lo ?_|fail)<;>conv=>whnf)
 refine ln (i:=0) hs rfl hg.1 (by simpa using hl) fun σ hs=>?_
 conv=>whnf
 repeat'((first|apply st|(apply Y;clear Z B Y A)|(apply U;clear U K)|fail)<;>conv=>whnf)
 exact A5 hs (List.Sublist.refl _) (.refl _) fun σ' hs'=>⟨_,⟨rfl,rfl⟩,hs'⟩
def rn (xs:List Int) (v:V) (hl:xs.length≤Aj):By Tryz.prog 242 [v] [.own v 1 (iL xs)] fun r post=>r= .ret (.l (iL xs) true)∧post= []:=by
 intro σ hs;have hg:=EV Cr xs;refine qc kZ ?_
 conv=>whnf
 repeat'((first|(apply sq;intro K U)|(apply si;intro A B Y Z)|(apply Y;clear Z B Y A)|(apply U;clear U K)|refine lo ?_|fail)<;>conv=>whnf)
 refine ln (i:=0) hs rfl hg.1 (by simpa using hl) fun σ hs=>?_
 conv=>whnf
 repeat'((first|apply st|(apply Y;clear Z B Y A)|(apply U;clear U K)|fail)<;>conv=>whnf)
 exact A5 hs (List.Sublist.refl _) (.refl _) fun σ' hs'=>⟨_,⟨rfl,rfl⟩,hs'⟩
def jq (cs:List Py) (hl:cs.length≤1000000):Pure Tryz.prog 289 [.l (cs.map To) false,.f (.func 290) [] []] (.l (EX (cs.map (·.parents))) false):=by
 have hM:=Mx;refine qG kZ ?_;have hs:=Sn
 conv=>whnf
 repeat'((first|apply st|(apply sq;intro K U)|(apply si;intro A B Y Z)|(apply Y;clear Z B Y A)|(apply U;clear U K)|fail)<;>conv=>whnf)
 refine CD cs.length (fun k v=>[(5,v),(10,eI (BM k))]) (fun k v=>[.own v 1 (EX ((cs.take k).map (·.parents)))]) (fun _ _=>True) (.l [] true) rfl trivial (FN hs 1) ?_;clear hs;rintro k v σ hk - hs;rcases BS cs hk with⟨c,hc,hlt⟩|hke
 ·conv=>whnf
  repeat'((first|apply st|(apply sq;intro K U)|(apply si;intro A B Y Z)|(apply Y;clear Z B Y A)|(apply U;clear U K)|refine⟨rfl,?_⟩|refine⟨kZ,?_⟩|refine ix ?_|refine ld ?_|refine CX fun σ hs=>?_|(refine C8 (fun hc=>?_)<;>(try rw[hc])<;>clear hc)|(intro nn hnn;generalize hg:Az _ nn _=σ;refine CN hg fun hs=>?_;clear hg)|fail)<;>conv=>whnf)
  refine Bs ((nX c).use ?_)
  conv=>whnf
  repeat'((first|(apply si;intro A B Y Z)|(apply Y;clear Z B Y A)|(apply U;clear U K)|refine⟨rfl,?_⟩|refine aq fun v σ hs hsl=>?_|clear U K)<;>conv=>whnf)
  exact⟨hlt,_,rfl,trivial,by rw[AR hc,Pw];exact hs.less (IV _ _)⟩
 ·rw[Av hke]at hs
  conv=>whnf
  repeat'((first|apply st|(apply sq;intro K U)|(apply si;intro A B Y Z)|(apply Y;clear Z B Y A)|(apply U;clear U K)|refine⟨rfl,?_⟩|(refine Es (fun hc=>?_)<;>(try rw[hc])<;>clear hc)|clear U K)<;>conv=>whnf)
  refine(kH (cs.map (·.parents)) v (by simp;omega)).use (rest:=[]) hs ?_;clear hs;rintro r post σ ⟨rfl,rfl⟩ hs
  conv=>whnf
  repeat'((first|apply st|(apply Y;clear Z B Y A)|(apply U;clear U K)|fail)<;>conv=>whnf)
  exact An b6
def LQ (p:Prog) (hk0:p.AQ.length≤1000):Pure Tryz.prog 223 [.a (Ba p)] (.l (EX (A3 p)) false):=by
 refine Pure.fit (by kernel_rfl) fun hf=>?_
 have F:=IJ hf.1;refine qo kZ ?_;have hs:=Sn
 conv=>whnf
 repeat'((first|apply st|(apply sq;intro K U)|(apply si;intro A B Y Z)|(apply Y;clear Z B Y A)|(apply U;clear U K)|fail)<;>conv=>whnf)
 refine(jq p.AQ (by omega)).use ?_
 conv=>whnf
 repeat'((first|apply st|(apply Y;clear Z B Y A)|(apply U;clear U K)|fail)<;>conv=>whnf)
 exact AI rfl
def UH (p:Prog) (hk0:p.AQ.length≤1000) (hm:Bk p.AQ≤Aj):Pure Tryz.prog 151 [.a (Ba p)] (.a (BI (AW p))):=by
 refine Pure.fit (by kernel_rfl) fun hf=>?_
 have F:=IJ hf.1;have hcl:=F.1;have hM:=Mx;refine rS kZ ?_;have hs:=Sn
 conv=>whnf
 repeat'((first|apply st|(apply sq;intro K U)|(apply si;intro A B Y Z)|(apply Y;clear Z B Y A)|(apply U;clear U K)|refine⟨kZ,?_⟩|refine CX fun σ hs=>?_|refine Pure.use (LQ _ hk0) ?_|(intro nn hnn;generalize hg:Az _ nn _=σ;refine CN hg fun hs=>?_;clear hg)|fail)<;>conv=>whnf)
 rename_i n2 _ _ _ _ _
 rename Nat=>n3
 replace hs:Sat σ [.box n3 [.l (EX (A3 p)) false,.l [] true],.box n2 [.l [] true,.l [] true]]:=hs;refine CD p.AQ.length (fun k (_:V)=>[(12,eI (BM k))]) (fun k v=>[.own v 1 (iL (BQ 0 (p.AQ.take k))),.box n3 [.l (EX (A3 p)) false,v],.box n2 [.l [] true,.l [] true]]) (fun _ _=>True) (.l [] true) rfl trivial (FN hs 1) ?_;clear hs;rintro k v σ hk - hs;rcases BS p.AQ hk with⟨c,hc,hlt⟩|hke
 ·have hcm:=F.2 c (Ck hc)
  have htk:=PY hc;have hck:BM k=k:=AN (by omega)
  have hap:BQ 0 (p.AQ.take (k+1))=BQ 0 (p.AQ.take k)++List.replicate c.AJ.length ((k:Int)+3):=by
   rw[AR hc,IQ];have:(p.AQ.take k).length=k:=by simp;omega
   rw[this];simp[BQ]
  have hol:=CW 0 (p.AQ.take k);have hw3:IntKind.i64.wrap (BM k+3)=(k:Int)+3:=by rw[hck,wrap64 (by omega) (by omega)]
  have hcs:=hcm.2.1;generalize BQ 0 (p.AQ.take k)=os at *
  conv=>whnf
  repeat'((first|apply st|(apply sq;intro K U)|(apply si;intro A B Y Z)|(apply Y;clear Z B Y A)|(apply U;clear U K)|refine⟨rfl,?_⟩|refine⟨kZ,?_⟩|refine ix ?_|refine ld ?_|refine CX fun σ hs=>?_|(refine C8 (fun hc=>?_)<;>(try rw[hc])<;>clear hc)|(intro nn hnn;generalize hg:Az _ nn _=σ;refine CN hg fun hs=>?_;clear hg)|fail)<;>conv=>whnf)
  refine CD c.AJ.length (fun j (_:V)=>[(20,eI (BM j))]) (fun j v=>[.own v 1 (iL (os++List.replicate j ((k:Int)+3))),.box n3 [.l (EX (A3 p)) false,v],.box n2 [.l [] true,.l [] true]]) (fun _ _=>True) v rfl trivial (by simpa using hs.less (IV _ _)) ?_;clear hs;rintro j v σ hj - hs;rcases BS c.AJ hj with⟨s,hsl,hjlt⟩|hje
  ·have hsv0:=Ft hs 0 rfl
   conv=>whnf
   repeat'((first|apply st|(apply sq;intro K U)|(apply si;intro A B Y Z)|(apply Y;clear Z B Y A)|(apply U;clear U K)|refine⟨rfl,?_⟩|refine ld ?_|refine IA fun σ hs=>?_|refine aq fun v σ hs hsl=>?_|(refine C8 (fun hc=>?_)<;>(try rw[hc])<;>clear hc)|clear U K)<;>conv=>whnf)
   have hsv:=Ft hs 0 rfl
   conv=>whnf
   refine⟨hjlt,v,rfl,trivial,?_⟩;rw[List.replicate_succ',←TR];rw[hw3]at hs;exact hs
  ·conv=>whnf
   repeat'((first|apply st|(apply sq;intro K U)|(apply si;intro A B Y Z)|(apply Y;clear Z B Y A)|(apply U;clear U K)|refine⟨rfl,?_⟩|(refine Es (fun hc=>?_)<;>(try rw[hc])<;>clear hc)|clear U K)<;>conv=>whnf)
   exact⟨hlt,v,rfl,trivial,by rw[hap,←hje];exact hs⟩
 ·rw[Av hke]at hs
  have hsv:=Ft hs 0 rfl
  conv=>whnf
  repeat'((first|apply st|(apply sq;intro K U)|(apply si;intro A B Y Z)|(apply Y;clear Z B Y A)|(apply U;clear U K)|refine⟨rfl,?_⟩|refine⟨kZ,?_⟩|refine ld ?_|refine CX fun σ hs=>?_|(refine Es (fun hc=>?_)<;>(try rw[hc])<;>clear hc)|clear U K)<;>conv=>whnf)
  exact An (.a (.cons (.refl _) (.cons (hs.G7 0 rfl) .nil)))
end Go.Gl
namespace Go.Proofs
open Go.Shelf
def Tryz.VW:Go.Shelf.Ren:=⟨fun|189=>268|125=>315|257=>314|128=>348|129=>349|294=>339|295=>340|296=>341|297=>342|298=>343|299=>344|216=>345|300=>346|301=>347|328=>360|329=>361|330=>362|331=>363|332=>364|215=>162|343=>375|n=>n,fun|28=>23|3=>3|46=>222|0=>0|51=>318|53=>139|4=>4|183=>394|182=>393|131=>266|5=>5|9=>9|218=>413|222=>329|228=>428|229=>429|n=>n,fun|n=>n⟩
def Tryz.jB:Go.Proofs.Lays.n189 Tryz.prog Tryz.VW:={
 mixed:=by kernel_rfl
 f125:=Tryz.func315.trans (congrArg some (by kernel_rfl))
 f128:=Tryz.func348.trans (congrArg some (by kernel_rfl))
 f129:=Tryz.func349.trans (congrArg some (by kernel_rfl))
 f189:=Tryz.func268.trans (congrArg some (by kernel_rfl))
 f215:=Tryz.func162.trans (congrArg some (by kernel_rfl))
 f216:=Tryz.func345.trans (congrArg some (by kernel_rfl))
 f257:=Tryz.func314.trans (congrArg some (by kernel_rfl))
 f294:=Tryz.func339.trans (congrArg some (by kernel_rfl))
 f295:=Tryz.func340.trans (congrArg some (by kernel_rfl))
 f296:=Tryz.func341.trans (congrArg some (by kernel_rfl))
 f297:=Tryz.func342.trans (congrArg some (by kernel_rfl))
 f298:=Tryz.func343.trans (congrArg some (by kernel_rfl))
 f299:=Tryz.func344.trans (congrArg some (by kernel_rfl))
 f300:=Tryz.func346.trans (congrArg some (by kernel_rfl))
 f301:=Tryz.func347.trans (congrArg some (by kernel_rfl))
 f328:=Tryz.func360.trans (congrArg some (by kernel_rfl))
 f329:=Tryz.func361.trans (congrArg some (by kernel_rfl))
 f330:=Tryz.func362.trans (congrArg some (by kernel_rfl))
 f331:=Tryz.func363.trans (congrArg some (by kernel_rfl))
 f332:=Tryz.func364.trans (congrArg some (by kernel_rfl))
 f343:=Tryz.func375.trans (congrArg some (by kernel_rfl))
 t0:=Tryz.underlying0
 a0:=Tryz.isAgg0
 z0:=Tryz.sizeOf0
 v0:=Tryz.zeroValue0
 t3:=Tryz.underlying3
 a3:=Tryz.isAgg3
 z3:=Tryz.sizeOf3
 v3:=Tryz.zeroValue3
 t4:=Tryz.underlying4
 a4:=Tryz.isAgg4
 z4:=Tryz.sizeOf4
 v4:=Tryz.zeroValue4
 t5:=Tryz.underlying5
 a5:=Tryz.isAgg5
 z5:=Tryz.sizeOf5
 v5:=Tryz.zeroValue5
 t9:=Tryz.underlying9
 a9:=Tryz.isAgg9
 z9:=Tryz.sizeOf9
 v9:=Tryz.zeroValue9
 t28:=Tryz.underlying23
 a28:=Tryz.isAgg23
 z28:=Tryz.sizeOf23
 v28:=Tryz.zeroValue23
 t46:=Tryz.underlying222
 a46:=Tryz.isAgg222
 z46:=Tryz.sizeOf222
 v46:=Tryz.zeroValue222
 t51:=Tryz.underlying318
 a51:=Tryz.isAgg318
 z51:=Tryz.sizeOf318
 v51:=Tryz.zeroValue318
 t53:=Tryz.underlying139
 a53:=Tryz.isAgg139
 z53:=Tryz.sizeOf139
 v53:=Tryz.zeroValue139
 t131:=Tryz.underlying266
 a131:=Tryz.isAgg266
 z131:=Tryz.sizeOf266
 v131:=Tryz.zeroValue266
 t182:=Tryz.underlying393
 a182:=Tryz.isAgg393
 z182:=Tryz.sizeOf393
 v182:=Tryz.zeroValue393
 t183:=Tryz.underlying394
 a183:=Tryz.isAgg394
 z183:=Tryz.sizeOf394
 v183:=Tryz.zeroValue394
 t218:=Tryz.underlying413
 a218:=Tryz.isAgg413
 z218:=Tryz.sizeOf413
 v218:=Tryz.zeroValue413
 t222:=Tryz.underlying329
 a222:=Tryz.isAgg329
 z222:=Tryz.sizeOf329
 v222:=Tryz.zeroValue329
 t228:=Tryz.underlying428
 a228:=Tryz.isAgg428
 z228:=Tryz.sizeOf428
 v228:=Tryz.zeroValue428
 t229:=Tryz.underlying429
 a229:=Tryz.isAgg429
 z229:=Tryz.sizeOf429
 v229:=Tryz.zeroValue429}
end Go.Proofs
namespace Go.Gl
open Go.Proofs Go.Shelf
abbrev N1 (x y:Int):Bool:=decide (x≤y)
def eN {P:Program} {f:FuncId} (hok:okF P f=true)
    (hc: ∀(blk cap:Nat) (zs:List Int) (w:World),Sort.Holds (Value.int .i64) w blk 0 zs.toArray→blk<w.heap.size→zs.length<4611686018427387904→
     Calls P f #[.slice (some ⟨blk,0,none⟩) zs.length cap] w fun e w'=>e= .returned (.tuple #[])∧ ∃n os,w'=Sort.grow (Sort.putRow (Value.int .i64) (Sort.ahead w n) blk 0 (zs.mergeSort fun x y=>decide (x≤y)).toArray) os)
    (xs:List Int) (n len cap:Nat):By P f [.sl n len cap] [.own (.sl n len cap) 1 (iL xs)] fun r post=>r= .ret (.t [])∧post= [.own (.sl n len cap) 1 (iL (xs.mergeSort N1))]:=by
 intro σ hs;refine⟨hok,fun Λ w cs G hv=>?_⟩;rcases hs.get (i:=0) rfl with⟨h,_⟩|⟨n',cap',h,hn⟩
 ·cases h
 cases h;rw[BW]at hv;obtain⟨c,e,hb,h1,h2,h3,h4⟩:=Ej G hn;rw[BW]at h2 h3;have hM:Aj=17592186044416:=rfl;rw[BG]at h4
 have hcell: ∀j x,xs[j]? =some x→c[j]? =some (Value.int .i64 x)∧IntKind.i64.min≤x∧x≤IntKind.i64.max:=fun j x hx=>by
  have:=(h4 j [.i .i64 x] (by rw[QK,hx];rfl)).2;simp only[BZ,Nat.mul_one,G2]at this;obtain⟨⟨d,hd,hr⟩,_⟩:=this;simp only[Ah]at hr;obtain⟨rfl,hr⟩:=hr;exact⟨hd,hr⟩
 have hcs:cs= #[.slice (some ⟨n,0,none⟩) xs.length cap]:=by
  obtain⟨hsz,hv⟩:=hv;simp only[BZ,Ah]at hv;obtain⟨⟨d,hd,rfl,_⟩,_⟩:=hv;simp at hsz;apply Array.ext_getElem?;intro i;rcases i with _|i
  ·simpa using hd
  ·rw[Array.getElem?_eq_none (by omega),Array.getElem?_eq_none (by simp)]
 subst hcs
 have hH:Sort.Holds (Value.int .i64) w n 0 xs.toArray:=fun j hj=>by
  have hj':j<xs.length:=by simpa using hj
  obtain⟨h5,_⟩:=hcell j xs[j] (Et hj');refine⟨?_,?_⟩
  ·rw[G2,DL hb,h5]
   simp[getElem!_pos,hj']
  ·rw[G2];exact Pe hb
 refine(hc n cap xs w hH (G.lt hn) (by omega)).mono fun e' w' ⟨he,k,os,hw⟩=>?_
 subst he;have hlen:(xs.mergeSort N1).length=xs.length:=List.length_mergeSort _
 have hheap: ∀m,m<w.heap.size→w'.heap[m]? =if m=n then some (.cells (Sort.putCells (Value.int .i64) 0 (xs.mergeSort N1).toArray c) e (0,0))else w.heap[m]? :=fun m hm=>by
  rw[hw];simp only[Sort.grow,Sort.putRow,Sort.mapBlock,Sort.ahead];rw[Array.getElem?_append_left (by simpa using hm),Array.getElem?_modify];by_cases e1:n=m
  ·subst e1
   rw[if_pos rfl,if_pos rfl,hb];rfl
  ·rw[if_neg e1,if_neg (Ne.symm e1)]
 have hadv:Bx Λ σ w (Az σ n (.arr 1 (iL (xs.mergeSort N1)) cap)) w':=by
  refine⟨fun m hm h0=>?_,?_,by rw[hw];rfl,by rw[hw];rfl,by rw[hw];rfl,fun m h0 _=>?_⟩
  ·rw[hheap m hm,if_neg]
   intro e1;subst e1;rw[hn]at h0;cases h0
  ·rw[hw];simp[Sort.grow]
  ·rw[CZ _ _ (fun e1=>by subst e1;rw[hn]at h0;cases h0)];exact h0
 refine⟨.ret (.t []),Az σ n (.arr 1 (iL (xs.mergeSort N1)) cap),⟨_,⟨rfl,rfl⟩,?_⟩,?_,?_,hadv⟩
 ·refine⟨fun a ha=>?_,List.pairwise_singleton _ _⟩
  rw[Nz.1 ha];exact .inr ⟨n,cap,by simp[hlen],C6 _ _ _⟩
 ·exact⟨_,rfl,by simp[Ah,BZ]⟩
 ·refine G.step hadv fun m o ho=>?_
  by_cases e1:m=n
  ·subst e1
   rw[C6]at ho;cases ho;refine .inr ⟨(G.own _ _ hn).1,_,(hheap m (G.lt hn)).trans (if_pos rfl),_,_,rfl,by simpa[Sort.putCells]using h1,by simpa[hlen]using h2,by simpa[hlen]using h3,?_⟩;rw[BG];intro i r hi;rw[QK]at hi;cases hx:(xs.mergeSort N1)[i]? with
   | none=>rw[hx]at hi;cases hi
   | some x=>
     rw[hx]at hi;cases hi;have hil:i<xs.length:=by have:=(Mn.1 hx).1;omega
     have hxm:x∈xs:=(List.mergeSort_perm xs N1).mem_iff.1 (Ck hx);obtain⟨j,hj⟩:=List.getElem?_of_mem hxm;have hbd:=(hcell j x hj).2;obtain⟨hci,_⟩:=hcell i xs[i] (Et hil);have hcl:i<c.size:=(mC.1 hci).1;refine⟨rfl,?_⟩;simp only[BZ,Nat.mul_one,G2,Ah,and_true];refine⟨_,?_,rfl,hbd⟩;simp only[Sort.putCells,Array.getElem?_mapIdx];rw[hci];have hxe:=(Mn.1 hx).2;simp[hlen,hil,getElem!_pos,hxe]
  ·rw[CZ _ _ e1]at ho
   exact .inl ⟨ho,(hheap m (G.lt ho)).trans (if_neg e1)⟩
def hZ (xs:List Int) (n len cap:Nat):By Tryz.prog 268 [.sl n len cap] [.own (.sl n len cap) 1 (iL xs)] fun r post=>r= .ret (.t [])∧post= [.own (.sl n len cap) 1 (iL (xs.mergeSort N1))]:=
 eN (by kernel_rfl) (fun blk cap zs w h1 h2 h3=>Any.slices_Sort_int Tryz.jB blk 0 cap zs w h1 h2 h3) xs n len cap
end Go.Gl
namespace Go.Gl
open Go.Proofs
attribute [local irreducible] A8 Ap Ag AT AL Ae AS AU AK Ad AO AP Aw A2 Sat AX A0 Ai W
def oK:Pure Tryz.prog 349 [.i .u64 0] (eI 0):=by
 refine pN kZ ?_;have hs:=Sn
 conv=>whnf
 repeat'((first|apply st|(apply sq;intro K U)|(apply si;intro A B Y Z)|(apply Y;clear Z B Y A)|(apply U;clear U K)|refine⟨rfl,?_⟩|(constructor<;>intro hc<;>(try rw[hc])<;>(replace hc:=bp hc)<;>try(exfalso;omega))|fail)<;>conv=>whnf)
 refine⟨by decide,?_⟩
 conv=>whnf
 repeat'((first|apply st|(apply Y;clear Z B Y A)|(apply U;clear U K)|refine⟨rfl,?_⟩|fail)<;>conv=>whnf)
 all_goals exact AI rfl
def oL:Pure Tryz.prog 315 [.i .u64 0] (eI 0):=by
 refine pg kZ ?_;have hs:=Sn
 conv=>whnf
 repeat'((first|apply st|(apply sq;intro K U)|(apply si;intro A B Y Z)|(apply Y;clear Z B Y A)|(apply U;clear U K)|refine oK.use ?_|fail)<;>conv=>whnf)
 all_goals exact AI rfl
def oQ:Pure Tryz.prog 339 [.l [] true,eI 0,eI 0] (.t []):=by
 refine pO kZ ?_;have hs:=Sn
 conv=>whnf
 repeat'((first|apply st|(apply sq;intro K U)|(apply si;intro A B Y Z)|(apply Y;clear Z B Y A)|(apply U;clear U K)|refine⟨rfl,?_⟩|fail)<;>conv=>whnf)
 refine It (fun(_:Unit)=>0) (fun _=>[(6,eI 1)]) (fun _=>[]) (fun _=>True) () rfl trivial hs ?_;clear hs;rintro - σ - hs
 conv=>whnf
 repeat'((first|apply st|(apply sq;intro K U)|(apply si;intro A B Y Z)|(apply Y;clear Z B Y A)|(apply U;clear U K)|refine⟨rfl,?_⟩|(constructor<;>intro hc<;>(try rw[hc])<;>(replace hc:=bp hc)<;>try(exfalso;omega))|clear U K)<;>conv=>whnf)
 all_goals exact AI rfl
def nU:Pure Tryz.prog 314 [.l [] true,eI 0,eI 0,eI 0] (.t []):=by
 refine ph kZ ?_;have hs:=Sn
 conv=>whnf
 repeat'((first|apply st|(apply sq;intro K U)|(apply si;intro A B Y Z)|(apply Y;clear Z B Y A)|(apply U;clear U K)|fail)<;>conv=>whnf)
 refine It (fun(_:Unit)=>0) (fun _=>[]) (fun _=>[]) (fun _=>True) () rfl trivial hs ?_;clear hs;rintro - σ - hs
 conv=>whnf
 repeat'((first|apply st|(apply sq;intro K U)|(apply si;intro A B Y Z)|(apply Y;clear Z B Y A)|(apply U;clear U K)|refine⟨rfl,?_⟩|refine oQ.use ?_|(constructor<;>intro hc<;>(try rw[hc])<;>(replace hc:=bp hc)<;>(try simp(disch:=omega) only[BW,wrap64,AN]at hc)<;>try(exfalso;omega))|clear U K)<;>conv=>whnf)
 all_goals exact AI rfl
def eO:Pure Tryz.prog 268 [.l [] true] (.t []):=by
 refine qS kZ ?_;have hs:=Sn
 conv=>whnf
 repeat'((first|apply st|(apply sq;intro K U)|(apply si;intro A B Y Z)|(apply Y;clear Z B Y A)|(apply U;clear U K)|refine oL.use ?_|refine nU.use ?_|fail)<;>conv=>whnf)
 all_goals exact AI rfl
def k8 {xs:List Int} {v:V} (hv:(Dg v).isSome=true∨(v= .l [] true∧xs= [])):By Tryz.prog 268 [v] [.own v 1 (iL xs)] fun r post=>r= .ret (.t [])∧post= [.own v 1 (iL (xs.mergeSort N1))]:=by
 rcases hv with hv|⟨rfl,rfl⟩
 ·obtain⟨n,l,c,rfl⟩:=k9 hv
  exact hZ xs n l c
 ·intro σ hs
  have:=eO.use (σ:=σ) (k:=fun v σ'=>v= .t []∧σ'=σ) (kp:=fun _ _=>False) ⟨rfl,rfl⟩;refine A8.mono this ?_;rintro(u|u) σ' hq
  ·obtain⟨rfl,rfl⟩:=hq
   exact⟨_,⟨rfl,rfl⟩,by simpa using hs⟩
  ·exact hq.elim
def Vb {b:Nat} {σ:AH} {sz:Nat} {v:V} {ys:List (List V)} {f:Bool} {K:V→AH→Prop} (h:AL b σ sz v (.l ys f) fun v' σ'=>((Dg v').isSome=true∨(v'=v∧ys= []))→K v' σ'):AL b σ sz v (.l ys f) K:=by
 unfold AL at *;obtain⟨h1,h2,h3⟩:=h;refine⟨h1,h2,?_⟩;cases v with
 | l es full=>exact⟨h3.1,h3.2.1,fun e=>h3.2.2.1 e (.inr ⟨rfl,e⟩),fun e=>⟨(h3.2.2.2 e).1,fun n cap hn hc=>(h3.2.2.2 e).2 n cap hn hc (.inl rfl)⟩⟩
 | sl n len cap=>
   simp only at h3 ⊢;split at h3
   ·exact⟨h3.1,h3.2.1,h3.2.2.1,h3.2.2.2.1,fun n' cap' hn hc=>h3.2.2.2.2 n' cap' hn hc (.inl rfl)⟩
   ·exact h3.elim
 | _=>exact h3.elim
def Vq (M:List Int):List (V×V):=M.map fun k=>(eI k,.b true)
def Rj (M:List Int) (k:Int):List Int:=if M.contains k then M else M++[k]
def Uc (M:List Int) (k b:Int):(Rj M k).contains b=(M.contains b||b==k):=by
 unfold Rj;split
 ·rename_i h
  by_cases hb:b=k
  ·subst hb;simpa using h
  ·have:(b==k)=false:=by simpa using hb
   rw[this,Bool.or_false]
 ·simp[List.contains_append]
  rfl
def jD (M:List Int) (k:Int):ET (eI k) (.b true) (Vq M)=Vq (Rj M k):=by
 induction M with
 | nil=>rfl
 | cons x r ih=>
   simp only[Vq,C0,ET]at *;have he:EU (eI k) (eI x)=(k==x):=rfl;rw[he];cases hx:k==x
   ·rw[cond_false,ih]
    unfold Rj;have:(x::r).contains k=r.contains k:=by rw[List.contains_cons,hx,Bool.false_or]
    rw[this];split<;>simp
   ·rw[cond_true]
    have hk:k=x:=by simpa using hx
    subst hk;unfold Rj;simp
def fC (M:List Int) (k:Int):found (.b false) false (Cp (eI k) (Vq M))= .b (M.contains k):=by
 induction M with
 | nil=>rfl
 | cons x r ih=>
   simp only[Vq,C0,Cp]at *;have he:EU (eI k) (eI x)=(k==x):=rfl;rw[he,List.contains_cons];cases k==x
   ·simpa using ih
   ·rfl
def Un (M:List Int): ∀kv∈Vq M,BV (.i .i64) kv.1=true:=by
 intro kv h;obtain⟨e,_,rfl⟩:=NP.1 h;rfl
def zY {σ:AH} {l:List At} {i mm:Nat} {M:List Int} {k:Int} {K:V→Prop} (hk:K (.b (M.contains k))) (h:Sat σ l:=by assumption)
    (hi:l[i]? =some (.map mm (Vq M)):=by first|exact Rg|exact Rf|exact Re|exact Rc|exact Rb|exact Ra):AO σ (.i .i64) (.b false) false (.m mm) (eI k) K:=
 Sv h i hi rfl (Un M) (by rw[fC];exact hk)
def uj {σ:AH} {l:List At} {i mm:Nat} {M:List Int} {k:Int} {K:AH→Prop} (hk: ∀σ',Sat σ' (l.set i (.map mm (Vq (Rj M k))))→K σ') (h:Sat σ l:=by assumption)
    (hi:l[i]? =some (.map mm (Vq M)):=by first|exact Rg|exact Rf|exact Re|exact Rc|exact Rb|exact Ra):AP σ (.i .i64) (.m mm) (eI k) (.b true) K:=
 Nr h i hi rfl (Un M) (fun σ' hs=>hk σ' (by rw[jD]at hs;exact hs))
def Iq (p:Prog) (c:Nat):Py:=p.AQ.getD (c - 3) default
def D0 (p:Prog) (c:Nat):Nat→List Int
 | 0=>[]
 | k+1=>if Ja (A3 p) c (c - k)then D0 p c k++(Iq p (c - k)).AJ else D0 p c k
def nV {ps:List (List Int)} (ho:ordered ps) {n c:Nat} (hc:c<n) (k:Nat): ∀p∈par ps (c - k),0≤p∧p.toNat<(G6 ps n c k).length∧p.toNat<c - k:=fun p hp=>by
 have:=ho _ _ hp;rw[Kx];omega
def UO {ps:List (List Int)} (ho:ordered ps) {n c:Nat} (hc:c<n) (k b:Nat):(G6 ps n c (k+1)).getD b false=((G6 ps n c k).getD b false||((G6 ps n c k).getD (c - k) false&&(par ps (c - k)).contains (b:Int))):=by
 rw[G6,MS _ _ (nV ho hc k)]
def UP {ps:List (List Int)} (ho:ordered ps) {n c:Nat} (hc:c<n) (k:Nat): ∀(m:Nat) (b:Nat),c - k≤b→(G6 ps n c (k+m)).getD b false=(G6 ps n c k).getD b false
 | 0,_,_=>rfl
 | m + 1,b,h=>by
   rw[←Nat.add_assoc,UO ho hc,UP ho hc k m b h]
   have:(par ps (c - (k+m))).contains (b:Int)=false:=by
    cases hb:(par ps (c - (k+m))).contains (b:Int)
    ·rfl
    ·have:=ho _ _ (List.contains_iff_mem.1 hb)
     omega
   rw[this,Bool.and_false,Bool.or_false]
def cI {ps:List (List Int)} (ho:ordered ps) {n c:Nat} (hc:c<n) {k:Nat} (hk:k≤c - 2):(G6 ps n c k).getD (c - k) false=Ja ps c (c - k):=by
 rw[←Xw ho hc (c - k),←UP ho hc k (c - 2 - k) (c - k) (He _)];congr 2;omega
def Pg (b:Int): ∀(l M:List Int),(l.foldl Rj M).contains b=(M.contains b||l.contains b)
 | [],M=>by simp
 | x::r,M=>by
   rw[List.foldl_cons,Pg b r,Uc,List.contains_cons,Bool.or_assoc]
def mX {σ:AH} {l:List At} {i mm:Nat} {M:List Int} {k:Int} {b:Bool} {K:V→Prop} (e:M.contains k=b) (hk:K (.b b)) (h:Sat σ l:=by assumption)
    (hi:l[i]? =some (.map mm (Vq M)):=by first|exact Rg|exact Rf|exact Re|exact Rc|exact Rb|exact Ra):AO σ (.i .i64) (.b false) false (.m mm) (eI k) K:=zY (e ▸ hk) h hi
def oS (p : Prog) (c:Nat) (h10:p.AQ.length≤10) (hsl:Cg 0 p.AQ=true) (hg:Df (A3 p)=true) (hc3:3≤c) (hc:c<3+p.AQ.length) :
    Pure Tryz.prog 325 [.a (Ba p),eI c] (.l (iL ((D0 p c (c - 2)).mergeSort N1)) false):=by
 refine Pure.fit (by kernel_rfl) fun hf=>?_
 have F:=IJ hf.1;have hM:=Mx;have hG:=Dm hg;have ho:=JR hG;have hgl:(A3 p).length=p.AQ.length:=by simp[A3]
 refine pZ kZ ?_;have hs:=Sn
 conv=>whnf
 repeat'((first|(apply sq;intro K U)|(apply si;intro A B Y Z)|(apply Y;clear Z B Y A)|(apply U;clear U K)|(intro nn hnn;generalize hg:Az _ nn _=σ;refine CN hg fun hs=>?_;clear hg)|fail)<;>conv=>whnf)
 replace hs:Sat σ [.map nn (Vq [])]:=hs
 conv=>whnf
 repeat'((first|apply st|(apply sq;intro K U)|(apply si;intro A B Y Z)|(apply Y;clear Z B Y A)|(apply U;clear U K)|refine uj (fun σ hs=>?_)|fail)<;>conv=>whnf)
 generalize nn=mm at *;replace hs:Sat σ [.map mm (Vq [(c:Int)])]:=hs
 refine CD (c - 2) (fun k (x:List Int×V)=>[(6,x.2),(7,eI ((c:Int) - k))]) (fun k x=>[.own x.2 1 (iL (D0 p c k)),.map mm (Vq x.1)])
  (fun k x=>(∀b:Nat,b<3+(A3 p).length→x.1.contains (b:Int)=(G6 (A3 p) (3+(A3 p).length) c k).getD b false)∧((Dg x.2).isSome=true∨(x.2= .l [] true∧D0 p c k= []))∧(D0 p c k).length≤4*k) ([(c:Int)],.l [] true) ?_ ⟨?_,.inr ⟨rfl,rfl⟩,by simp[D0]⟩ (FN hs 1) ?_
 ·simp[N4,get]
  exact⟨rfl,rfl,rfl⟩
 ·intro b hb
  simp only[G6];rw[F8 (by simp;omega)];by_cases hbc:b=c
  ·subst hbc;simp
  ·rw[if_neg hbc]
   have:((c:Int)==(b:Int))=false:=by simp;omega
   simp[E2,List.getElem?_replicate];split<;>simp<;>omega
 clear hs;rintro k ⟨M,v⟩ σ hk ⟨hMb,hv,hml⟩ hs;dsimp only at hMb hv hs;rcases Nat.lt_or_ge k (c - 2)with hlt|hge
 ·have hkc:M.contains ((c:Int) - k)=Ja (A3 p) c (c - k):=by
   have:=hMb (c - k) (by omega);rw[cI ho (by omega) (by omega)]at this;rw[←this];congr 1;omega
  have hcl:p.AQ[(IntKind.i64.wrap ((c:Int) - k - 3)).toNat]? =some (Iq p (c - k)):=by
   rw[wrap64 (by omega) (by omega),show((c:Int) - k - 3).toNat=c - k - 3 by omega,Iq,E2,Et (by omega)];rfl
  have hwi:0≤IntKind.i64.wrap ((c:Int) - k - 3):=by rw[wrap64 (by omega) (by omega)];omega
  have hw1:IntKind.i64.wrap ((c:Int) - k - 1)=(c:Int) - (k+1:Nat):=by rw[wrap64 (by omega) (by omega)];omega
  have hmt:D0 p c (k+1)=if Ja (A3 p) c (c - k)then D0 p c k++(Iq p (c - k)).AJ else D0 p c k:=rfl
  have hpar:(Iq p (c - k)).parents=par (A3 p) (c - k):=by
   unfold par Iq A3;rw[if_neg (by omega),E2,E2,QK,Et (by omega)];rfl
  have hcm:=F.2 _ (Ck hcl);have hs4:=((E7 _ _ hsl).2 _ (Ck hcl)).2;have hst:=fun b=>UO ho (show c<3+(A3 p).length by omega) k b
  rw[cI ho (by omega) (by omega),←hpar]at hst;generalize Iq p (c - k)=cl at *;cases hb:Ja (A3 p) c (c - k)
  ·rw[hb]at hkc hmt hst
   rw[if_neg (by decide)]at hmt
   conv=>whnf
   repeat'((first|apply st|(apply sq;intro K U)|(apply si;intro A B Y Z)|(apply Y;clear Z B Y A)|(apply U;clear U K)|refine⟨rfl,?_⟩|refine mX hkc ?_|(constructor<;>intro hc<;>(try rw[hc])<;>(replace hc:=bp hc)<;>try(exfalso;omega))|clear U K)<;>conv=>whnf)
   all_goals try(exfalso;omega)
   rw[hw1];exact⟨hlt,(M,v),rfl,⟨fun b hb=>by rw[hMb b hb,hst b];simp,by rw[hmt];exact hv,by rw[hmt];omega⟩,by rw[hmt];exact hs⟩
  ·rw [hb] at hkc hmt hst
   rw[if_pos rfl]at hmt
   conv=>whnf
   repeat'((first|apply st|(apply sq;intro K U)|(apply si;intro A B Y Z)|(apply Y;clear Z B Y A)|(apply U;clear U K)|refine⟨rfl,?_⟩|refine TX ?_|refine mX hkc ?_|(constructor<;>intro hc<;>(try rw[hc])<;>(replace hc:=bp hc)<;>try(exfalso;omega))|fail)<;>conv=>whnf)
   all_goals try(exfalso;omega)
   refine Vb (GS hs 0 rfl (by omega) Cr fun v' σ hs hv'=>?_);rw[←hmt]at hs
   conv=>whnf
   repeat'((first|apply st|(apply sq;intro K U)|(apply si;intro A B Y Z)|(apply Y;clear Z B Y A)|(apply U;clear U K)|refine⟨rfl,?_⟩|refine TX ?_|fail)<;>conv=>whnf)
   refine CD cl.parents.length (fun j (_:List Int)=>[(38,eI (BM j))]) (fun _ M=>[.own v' 1 (iL (D0 p c (k+1))),.map mm (Vq M)]) (fun j M'=>M'=(cl.parents.take j).foldl Rj M) M rfl rfl hs ?_;clear hs;rintro j M' σ hj hM' hs;rcases BS cl.parents hj with⟨q,hq,hjlt⟩|hje
   ·conv=>whnf
    repeat'((first|apply st|(apply sq;intro K U)|(apply si;intro A B Y Z)|(apply Y;clear Z B Y A)|(apply U;clear U K)|refine⟨rfl,?_⟩|refine ix ?_|(refine C8 (fun hc=>?_)<;>(try rw[hc])<;>clear hc)|refine uj (fun σ hs=>?_)|clear U K)<;>conv=>whnf)
    exact⟨hjlt,_,rfl,by rw[AR hq,List.foldl_append,←hM'];rfl,hs⟩
   ·rw [Av hje]at hM'
    conv=>whnf
    repeat'((first|apply st|(apply sq;intro K U)|(apply si;intro A B Y Z)|(apply Y;clear Z B Y A)|(apply U;clear U K)|refine⟨rfl,?_⟩|(refine Es (fun hc=>?_)<;>(try rw[hc])<;>clear hc)|clear U K)<;>conv=>whnf)
    rw[hw1];refine⟨hlt,(M',v'),rfl,⟨fun b hb=>?_,?_,?_⟩,hs⟩
    ·rw[hM',Pg,hMb b hb,hst b,I8]
    ·rcases hv' with hv'|⟨rfl,he⟩
     ·exact .inl hv'
     ·rcases hv with hv|⟨hv,hm0⟩
      ·exact .inl hv
      ·refine .inr ⟨hv,?_⟩
       rw[hmt,hm0,List.map_eq_nil_iff.1 he];rfl
    ·rw[hmt,KY];omega
 ·have hkk:k=c - 2:=by omega
  rw[hkk]at hs hv hml;clear hMb
  conv=>whnf
  repeat'((first|apply st|(apply sq;intro K U)|(apply si;intro A B Y Z)|(apply Y;clear Z B Y A)|(apply U;clear U K)|refine⟨rfl,?_⟩|(constructor<;>intro hc<;>(try rw[hc])<;>(replace hc:=bp hc)<;>try(exfalso;omega))|clear U K)<;>conv=>whnf)
  all_goals try(exfalso;omega)
  refine(k8 hv).use (rest:=[_]) hs ?_;clear hs;rintro r post σ ⟨rfl,rfl⟩ hs
  conv=>whnf
  repeat'((first|(apply sq;intro K U)|(apply si;intro A B Y Z)|(apply Y;clear Z B Y A)|(apply U;clear U K)|fail)<;>conv=>whnf)
  refine(rn _ v (by rw[List.length_mergeSort];omega)).use (rest:=[_]) hs ?_;clear hs;rintro r post σ ⟨rfl,rfl⟩ hs
  conv=>whnf
  repeat'((first|apply st|(apply Y;clear Z B Y A)|(apply U;clear U K)|fail)<;>conv=>whnf)
  exact An b6
def PV {p : Prog} {c:Nat} (s:Int): ∀k,s∈D0 p c k↔ ∃j,j<k∧Ja (A3 p) c (c - j)=true∧s∈(Iq p (c - j)).AJ
 | 0=>by simp[D0]
 | k + 1 =>by
   rw[D0];have ih:=PV (p:=p) (c:=c) s k;constructor
   ·intro h
    split at h
    ·rename_i hu
     rcases FJ.1 h with h|h
     ·obtain⟨j,h1,h2⟩:=ih.1 h
      exact⟨j,by omega,h2⟩
     ·exact⟨k,by omega,hu,h⟩
    ·obtain⟨j,h1,h2⟩:=ih.1 h
     exact⟨j,by omega,h2⟩
   ·rintro⟨j,h1,h2,h3⟩
    by_cases hj:j=k
    ·subst hj
     rw[if_pos h2];exact FJ.2 (.inr h3)
    ·have:=ih.2 ⟨j,by omega,h2,h3⟩
     split
     ·exact FJ.2 (.inl this)
     ·exact this
def UX: ∀(l:List Int) (n s:Int),Kc n l=true→(s∈l↔n≤s∧s<n+l.length)
 | [],n,s,_=>by simp<;>omega
 | x::r,n,s,h=>by
   simp only[Kc,BU,D4]at h;obtain⟨rfl,h⟩:=h;have:=UX r (x+1) s h;rw[G5,this,KX];omega
def Qo: ∀(cs:List Py) (i:Nat) (n s:Int),Cg n cs=true→0≤n→ ∀(j:Nat) (c:Py),cs[j]? =some c→(s∈c.AJ↔n≤s∧s<n+(Bk cs:Int)∧(BQ i cs).getD (s - n).toNat 0=((i+j:Nat):Int)+3)
 | [],_,_,_,_,_,_,_,h=>by cases h
 | d ::r,i,n,s,h,h0,j,c,hj=>by
   simp only[Cg,BU,DZ]at h;obtain⟨-,-,hq,hr⟩:=h;have hm:=UX d.AJ n s hq;have hml:(Bk (d::r):Int)=d.AJ.length+Bk r:=by simp[Bk]
   have hgd:n≤s→(BQ i (d::r)).getD (s - n).toNat 0=if s<n+d.AJ.length then(i:Int)+3 else(BQ (i+1) r).getD (s - (n+d.AJ.length)).toNat 0:=fun hns=>by
    simp only[BQ,E2];split
    ·rw[kY (by simp;omega),List.getElem?_replicate,if_pos (by omega)]
     rfl
    ·rw[List.getElem?_append_right (by simp;omega)]
     congr 2;simp;omega
   have hout: ∀q,q∈BQ (i+1) r→(3:Int)+((i+1:Nat):Int)≤q:=fun q hq=>(Fl hq).1
   cases j with
   | zero=>
     simp at hj;subst hj;rw[hm,hml];constructor
     ·rintro⟨h1,h2⟩
      refine⟨h1,by omega,?_⟩;rw[hgd h1,if_pos h2];simp
     ·rintro⟨h1,h2,h3⟩
      refine⟨h1,?_⟩;rw[hgd h1]at h3;by_cases hlt:s<n+d.AJ.length
      ·exact hlt
      ·rw[if_neg hlt,E2]at h3
       have hlen:(s - (n+d.AJ.length)).toNat<(BQ (i+1) r).length:=by rw[CW];omega
       rw[Et hlen]at h3;have:=hout _ (List.getElem_mem hlen);simp at h3;omega
   | succ j=>
     simp at hj;have ih:=Qo r (i+1) (n+d.AJ.length) s hr (by omega) j c hj;rw[ih,hml];constructor
     ·rintro⟨h1,h2,h3⟩
      refine⟨by omega,by omega,?_⟩;rw[hgd (by omega),if_neg (by omega),h3];omega
     ·rintro⟨h1,h2,h3⟩
      rw[hgd h1]at h3;by_cases hlt:s<n+d.AJ.length
      ·rw[if_pos hlt]at h3;omega
      ·rw[if_neg hlt]at h3
       exact⟨by omega,by omega,by rw[h3];omega⟩
def eo {p:Prog} {c:Nat} (hsl:Cg 0 p.AQ=true) (ho:ordered (A3 p)) (hc3:3≤c) (hc:c<3+p.AQ.length) (s:Int) :
    ((D0 p c (c - 2)).mergeSort N1).contains s=(decide (0≤s)&&(decide (s<(Bk p.AQ:Int))&&hasB (AW p) (c:Int) s)):=by
 rw[JZ,List.contains_iff_mem,(List.mergeSort_perm _ N1).mem_iff,PV];simp only[BU,DZ,hasB]
 have hown: ∀j,j<c - 2→(s∈(Iq p (c - j)).AJ↔0≤s∧s<(Bk p.AQ:Int)∧Dr (AW p) s=((c - j:Nat):Int)):=fun j hj=>by
  have hcl:p.AQ[c - j - 3]? =some (Iq p (c - j)):=by
   rw[Iq,E2,Et (by omega)];rfl
  have:=Qo p.AQ 0 0 s hsl (by omega) (c - j - 3) _ hcl;rw[this];simp only[Int.sub_zero,Int.zero_add,Dr,AW];constructor
  ·rintro⟨h1,h2,h3⟩;exact⟨h1,h2,by rw[h3];omega⟩
  ·rintro⟨h1,h2,h3⟩;exact⟨h1,h2,by rw[h3];omega⟩
 constructor
 ·rintro⟨j,h1,h2,h3⟩
  obtain⟨h4,h5,h6⟩:=(hown j h1).1 h3;refine⟨h4,h5,by omega,?_⟩;rw[h6];simp only[Ts,Gj,BU,DZ];exact .inr (.inr ⟨by omega,by simpa[AW]using h2⟩)
 ·rintro⟨h1,h2,h3,h4⟩
  have hmem:Dr (AW p) s∈BQ 0 p.AQ:=by
   have hlen:s.toNat<(BQ 0 p.AQ).length:=by rw[CW];omega
   have:Dr (AW p) s=(BQ 0 p.AQ)[s.toNat]:=by
    simp only[Dr,AW,E2,Et hlen];rfl
   rw[this];exact List.getElem_mem hlen
  have hb:=Fl hmem
  have hup:Ja (A3 p) c (Dr (AW p) s).toNat=true:=by
   simp only[Ts,Gj,BU,DZ,D4]at h4;rcases h4 with h4|h4|⟨_,h4⟩
   ·rw[←h4,Lm];exact HL ho c
   ·omega
   ·simpa[AW]using h4
  have hle:=cJ ho _ _ hup;refine⟨c - (Dr (AW p) s).toNat,by omega,?_,?_⟩
  ·rw[show c - (c - (Dr (AW p) s).toNat)=(Dr (AW p) s).toNat by omega]
   exact hup
  ·refine(hown _ (by omega)).2 ⟨h1,h2,by omega⟩
def ei {σ:AH}:A8 Tryz.prog 283 [.b false] σ fun r σ'=>r= .Bf Dj∧σ'=σ:=by
 refine dH kZ ?_
 conv=>whnf
 repeat'((first|apply st|(apply sq;intro K U)|(apply si;intro A B Y Z)|(apply Y;clear Z B Y A)|(refine Z _ _ _ ?_;clear Z B Y A)|(apply U;clear U K)|refine JB ?_|fail)<;>conv=>whnf)
 exact DE ⟨rfl,rfl⟩
def Cl {x:Bool} {σ:AH} {k kp:V→AH→Prop} (h1:x=true→k (.t []) σ) (h2:x=false→kp Dj σ):A8 Tryz.prog 283 [.b x] σ (qk k kp):=by
 cases x
 ·refine A8.mono ei ?_
  rintro r σ' ⟨rfl,rfl⟩;exact h2 rfl
 ·exact eg.use (h1 rfl)
def FW:Int→List Py→Bool
 | _,[]=>true
 | n,c::r=>decide (c.AJ.length≤4)&&(Kc n c.AJ&&FW (n+c.AJ.length) r)
def Og: ∀(cs:List Py) (n:Int),Cg n cs=(FW n cs&&cs.all fun c=>decide (c.parents.length≤3))
 | [],_=>rfl
 | c::r,n=>by
   simp only[Cg,FW,NN];rw[Og r];cases decide (c.AJ.length≤4)<;>cases decide (c.parents.length≤3)<;>cases Kc n c.AJ<;>simp
def Qd: ∀(cs:List Py) (n:Int),FW n cs=true→Bk cs≤4*cs.length
 | [],_,_=>He _
 | c::r,n,h=>by
   simp only[FW,BU,DZ]at h;have:=Qd r _ h.2.2;simp only[Bk,C0,List.sum_cons,KX]at *;omega
def Us {p:Prog} (h:Df (A3 p)=true):(p.AQ.all fun c=>decide (c.parents.length≤3))=true:=by
 rw[GP];intro c hc;obtain⟨i,hi⟩:=List.getElem?_of_mem hc;have:=(Dm h).2 i c.parents (by rw[A3,QK,hi];rfl);exact decide_eq_true this.1
def Po (p:Prog):BD p=(decide (p.AQ.length≤10)&&(FW 0 p.AQ&&((Bk p.AQ:Int)==p.AJ&&(Df (A3 p)&&F0 (AW p) (Bk p.AQ) 0 p.AQ)))):=by
 rw[BD,Og];cases hg:Df (A3 p)
 ·simp
 ·rw[Us hg,Bool.and_true]
abbrev s4 (p:Prog):R→AH→Prop:=fun r σ'=> ∃post:List At,(r=(if BD p then R.ret (.t [])else R.Bf Dj)∧post= [])∧Sat σ' post
def V7 {p:Prog} {σ:AH} (h:BD p=false):Ag σ Dj (s4 p):=DE ⟨_,⟨by rw[h];rfl,rfl⟩,Sat.nil⟩
def y4 {p:Prog} {σ:AH} {l:List At} (hs:Sat σ l) (h:BD p=true):Ap σ (.t []) (s4 p):=A5 hs (QI _) (.refl _) fun σ' hs'=>⟨_,⟨by rw[h];rfl,rfl⟩,hs'⟩
set_option maxHeartbeats 4000000 in
def XX (p : Prog):By Tryz.prog 282 [.a (Ba p)] [] fun r post=>r=(if BD p then R.ret (.t [])else R.Bf Dj)∧post= []:=by
 intro σ hs;refine A8.fit (by kernel_rfl) fun hf=>?_
 have F:=IJ hf.1;have hcl:=F.1;have hM:=Mx;refine qM kZ ?_;have hcb:=Po p;by_cases h10:p.AQ.length≤10
 rotate_left
 ·conv=>whnf
  repeat'((first|apply st|(apply sq;intro K U)|(apply si;intro A B Y Z)|(apply Y;clear Z B Y A)|(refine Z _ _ _ ?_;clear Z B Y A)|(apply U;clear U K)|refine⟨rfl,?_⟩|(refine Cl (fun hc=>?_) (fun hc=>?_)<;>(replace hc:=bp hc)<;>(try simp(disch:=omega) only[BW,wrap64,AN]at hc)<;>(try(exfalso;omega)))|clear U K)<;>conv=>whnf)
  all_goals try(exfalso;omega)
  exact V7 (by rw[hcb];simp[h10])
 rw[decide_eq_true h10,I8]at hcb
 conv=>whnf
 repeat'((first|apply st|(apply sq;intro K U)|(apply si;intro A B Y Z)|(apply Y;clear Z B Y A)|(apply U;clear U K)|refine⟨rfl,?_⟩|(refine Cl (fun hc=>?_) (fun hc=>?_)<;>(replace hc:=bp hc)<;>(try simp(disch:=omega) only[BW,wrap64,AN]at hc)<;>(try(exfalso;omega)))|fail)<;>conv=>whnf)
 all_goals try(exfalso;omega)
 refine CD p.AQ.length (fun k (n:Int)=>[(2,eI n),(24,eI (BM k))]) (fun _ _=>[]) (fun k n=>FW 0 p.AQ=FW n (p.AQ.drop k)∧0≤n∧n+Bk (p.AQ.drop k)=Bk p.AQ∧n≤4*k) 0 rfl (by simp) hs ?_;clear hs;rintro k n σ hk ⟨hn,hn0,hn1,hn2⟩ hs;rcases BS p.AQ hk with⟨c,hc,hlt⟩|hke
 ·have hcm:=(F.2 c (Ck hc)).2.1
  have hms:n+(c.AJ.length:Int)+Bk (p.AQ.drop (k+1))=Bk p.AQ:=by
   rw[drop_cons hc]at hn1;simp only[Bk,C0,List.sum_cons]at hn1 ⊢;omega
  rw[drop_cons hc,FW]at hn;by_cases h4:c.AJ.length≤4
  ·rw [decide_eq_true h4,I8]at hn
   conv=>whnf
   repeat'((first|apply st|(apply sq;intro K U)|(apply si;intro A B Y Z)|(apply Y;clear Z B Y A)|(apply U;clear U K)|refine⟨rfl,?_⟩|refine⟨kZ,?_⟩|refine ix ?_|refine ld ?_|refine CX fun σ hs=>?_|(refine C8 (fun hc=>?_)<;>(try rw[hc])<;>clear hc)|(refine Cl (fun hc=>?_) (fun hc=>?_)<;>(replace hc:=bp hc)<;>(try simp(disch:=omega) only[BW,wrap64,AN]at hc)<;>(try(exfalso;omega)))|(intro nn hnn;generalize hg:Az _ nn _=σ;refine CN hg fun hs=>?_;clear hg)|fail)<;>conv=>whnf)
   all_goals try(exfalso;omega)
   refine CD c.AJ.length (fun j (m:Int)=>[(2,eI m),(36,eI (BM j))]) (fun _ _=>[]) (fun j m=>FW 0 p.AQ=(Kc m (c.AJ.drop j)&&FW (n+c.AJ.length) (p.AQ.drop (k+1)))∧m=n+j) n rfl ⟨hn,by simp⟩ (hs.take 0) ?_;clear hs hn;rintro j m σ hj ⟨hm,he⟩ hs;rcases BS c.AJ hj with⟨x,hx,hjlt⟩|hje
   ·rw[drop_cons hx,Kc]at hm
    conv=>whnf
    repeat'((first|apply st|(apply sq;intro K U)|(apply si;intro A B Y Z)|(apply Y;clear Z B Y A)|(refine Z _ _ _ ?_;clear Z B Y A)|(apply U;clear U K)|refine⟨rfl,?_⟩|refine ix ?_|(refine C8 (fun hc=>?_)<;>(try rw[hc])<;>clear hc)|(refine Cl (fun hc=>?_) (fun hc=>?_)<;>(replace hc:=bp hc))|clear U K)<;>conv=>whnf)
    ·rw[wrap64 (by omega) (by omega)]
     rw[hc,beq_self_eq_true,I8]at hm;exact⟨hjlt,_,rfl,⟨by rw[←hc];rw[←hc]at hm;exact hm,by omega⟩,hs⟩
    ·exact V7 (by rw[hcb,hm];simp[hc])
   ·rw[Al hje,Kc,I8]at hm
    conv=>whnf
    repeat'((first|apply st|(apply sq;intro K U)|(apply si;intro A B Y Z)|(apply Y;clear Z B Y A)|(apply U;clear U K)|refine⟨rfl,?_⟩|(refine Es (fun hc=>?_)<;>(try rw[hc])<;>clear hc)|clear U K)<;>conv=>whnf)
    exact⟨hlt,m,rfl,⟨by rw[hm];congr 1;omega,by omega,by omega,by omega⟩,hs⟩
  ·conv=>whnf
   repeat'((first|apply st|(apply sq;intro K U)|(apply si;intro A B Y Z)|(apply Y;clear Z B Y A)|(refine Z _ _ _ ?_;clear Z B Y A)|(apply U;clear U K)|refine⟨rfl,?_⟩|refine⟨kZ,?_⟩|refine ix ?_|refine ld ?_|refine CX fun σ hs=>?_|(refine C8 (fun hc=>?_)<;>(try rw[hc])<;>clear hc)|(refine Cl (fun hc=>?_) (fun hc=>?_)<;>(replace hc:=bp hc)<;>(try simp(disch:=omega) only[BW,wrap64,AN]at hc)<;>(try(exfalso;omega)))|(intro nn hnn;generalize hg:Az _ nn _=σ;refine CN hg fun hs=>?_;clear hg)|clear U K)<;>conv=>whnf)
   all_goals try(exfalso;omega)
   exact V7 (by rw[hcb,hn];simp[h4])
 ·have hne:n=Bk p.AQ:=by rw[Al hke]at hn1;simpa[Bk]using hn1
  rw[Al hke]at hn;have hsp:FW 0 p.AQ=true:=hn;have hml:=Qd _ _ hsp;rw[hsp,I8,←hne]at hcb;cases hgd:Df (A3 p)
  ·rw[hgd]at hcb
   have hck:=U6 (A3 p) false;rw[hgd,if_neg (by decide)]at hck;have hcF:BD p=false:=by rw[hcb];simp
   conv=>whnf
   repeat'((first|apply st|(apply sq;intro K U)|(apply si;intro A B Y Z)|(apply Y;clear Z B Y A)|(refine Z _ _ _ ?_;clear Z B Y A)|(apply U;clear U K)|refine⟨rfl,?_⟩|refine⟨kZ,?_⟩|(refine Es (fun hc=>?_)<;>(try rw[hc])<;>clear hc)|(refine Cl (fun hc=>?_) (fun hc=>?_)<;>(replace hc:=bp hc)<;>(try simp(disch:=omega) only[BW,wrap64,AN]at hc)<;>(try(exfalso;omega))<;>(try(cases hc;done)))|refine Pure.use (LQ _ (by omega)) ?_|(constructor<;>intro hc<;>(try rw[hc])<;>(replace hc:=bp hc))|refine Pure.use (by assumption) ?_|clear U K)<;>conv=>whnf)
   all_goals exact V7 hcF
  ·have hck:=U6 (A3 p) false
   rw[hgd,if_pos rfl]at hck;rw[hgd,I8]at hcb;by_cases hps:n=p.AJ
   ·rw [hps,beq_self_eq_true,I8,←hps]at hcb
    have hslB:Cg 0 p.AQ=true:=by rw[Og,hsp,Us hgd];rfl
    have hG:=Dm hgd;have ho:=JR hG;have hgl:(A3 p).length=p.AQ.length:=by simp[A3]
    conv=>whnf
    repeat'((first|apply st|(apply sq;intro K U)|(apply si;intro A B Y Z)|(apply Y;clear Z B Y A)|(apply U;clear U K)|refine⟨rfl,?_⟩|refine⟨kZ,?_⟩|(refine Es (fun hc=>?_)<;>(try rw[hc])<;>clear hc)|(refine Cl (fun hc=>?_) (fun hc=>?_)<;>(replace hc:=bp hc)<;>(try simp(disch:=omega) only[BW,wrap64,AN]at hc)<;>(try(exfalso;omega)))|refine Pure.use (LQ _ (by omega)) ?_|(constructor<;>intro hc<;>(try rw[hc])<;>(replace hc:=bp hc)<;>try(exfalso;omega))|refine Pure.use (by assumption) ?_|clear U K)<;>conv=>whnf)
    refine CD p.AQ.length (fun k (_:Unit)=>[(63,eI (BM k))]) (fun _ _=>[]) (fun k _=>BD p=F0 (AW p) n k (p.AQ.drop k)) () rfl hcb hs ?_;clear hs;rintro i - σ hi hn' hs;rcases BS p.AQ hi with⟨c,hc,hilt⟩|hie
    ·rw [drop_cons hc,F0]at hn'
     have hci:BM i=i:=AN (by omega);have hw3:IntKind.i64.wrap (BM i+3)=(i:Int)+3:=by rw[hci,wrap64 (by omega) (by omega)]
     have hlin:=oH (A3 p) false ((i:Int)+3) hgd (by omega) (by omega);have hinl:=(F.2 c (Ck hc)).2.2;have hlb:gg (AW p).parents ((i:Int)+3)= !((Bz (A3 p)).getD ((i:Int)+3).toNat []).isEmpty:=rfl;cases hem:((Bz (A3 p)).getD ((i:Int)+3).toNat []).isEmpty
     ·rw [hem]at hlb
      rw[hlb,Bool.not_false,I8]at hn';rw[hem,if_neg (by decide),←hw3]at hlin;have hhas:=oS p (i+3) h10 hslB hgd (by omega) (by omega);have hmh:=eo hslB ho (show 3≤i+3 by omega) (show i+3<3+p.AQ.length by omega);have ei3:((i+3:Nat):Int)=(i:Int)+3:=by omega
      rw[ei3,←hw3]at hhas;rw[ei3]at hmh;generalize (D0 p (i+3) (i+3 - 2)).mergeSort N1=mine at *
      conv=>whnf
      repeat'((first|apply st|(apply sq;intro K U)|(apply si;intro A B Y Z)|(apply Y;clear Z B Y A)|(apply U;clear U K)|refine⟨rfl,?_⟩|refine⟨kZ,?_⟩|refine ix ?_|refine ld ?_|refine CX fun σ hs=>?_|(refine C8 (fun hc=>?_)<;>(try rw[hc])<;>clear hc)|(refine Cl (fun hc=>?_) (fun hc=>?_)<;>(replace hc:=bp hc)<;>(try simp(disch:=omega) only[BW,wrap64,AN]at hc)<;>(try(exfalso;omega)))|(intro nn hnn;generalize hg:Az _ nn _=σ;refine CN hg fun hs=>?_;clear hg)|refine Pure.use (by assumption) ?_|fail)<;>conv=>whnf)
      generalize nn=mm at *;replace hs:Sat σ [.map mm (Vq [])]:=hs.take 1;refine CD c.inits.length (fun j (_:List Int)=>[(86,eI (BM j))]) (fun _ M=>[.map mm (Vq M)]) (fun j M=>BD p=(D1 (AW p) ((i:Int)+3) n (c.inits.take j) (c.inits.drop j)&&F0 (AW p) n (i+1) (p.AQ.drop (i+1)))∧ ∀s,M.contains s=(c.inits.take j).any fun y=>y.1==s) [] rfl ⟨hn',fun s=>rfl⟩ hs ?_;clear hs;rintro j M σ hj ⟨hm,hMs⟩ hs;rcases BS c.inits hj with⟨x,hx,hjlt⟩|hje
      ·have hpa:((c.inits.take j).all fun y=>y.1 != x.1)= !M.contains x.1:=by
        rw[hMs,List.all_eq_not_any_not];congr 2;funext y;simp[bne]
       have hst:BD p=((mine.contains x.1&&(!M.contains x.1&&Rt x.2))&&(D1 (AW p) ((i:Int)+3) n (c.inits.take (j+1)) (c.inits.drop (j+1))&&F0 (AW p) n (i+1) (p.AQ.drop (i+1)))):=by
        rw[hm,drop_cons hx,D1,hpa,hmh,←hne,AR hx];cases decide (0≤x.1)<;>cases decide (x.1<n)<;>cases hasB (AW p) ((i:Int)+3) x.1<;>cases Rt x.2<;>cases M.contains x.1<;>simp
       have hMs': ∀s,(Rj M x.1).contains s=(c.inits.take (j+1)).any fun y=>y.1==s:=fun s=>by
        rw[Uc,hMs,AR hx,List.any_append];simp only[QH,List.any_nil,Bool.or_false];congr 1;rw[JZ];simp;exact eq_comm
       have hct:=Dp mine false x.1;have hbt:=Pq x.2;clear hmh hpa hMs hm;cases eA:mine.contains x.1<;>cases eB:M.contains x.1<;>cases eD:Rt x.2<;>rw[eA]at hct<;>rw[eD]at hbt<;>rw[eA,eB,eD]at hst
       all_goals
        conv=>whnf
        repeat'((first|apply st|(apply sq;intro K U)|(apply si;intro A B Y Z)|(apply Y;clear Z B Y A)|(refine Z _ _ _ ?_;clear Z B Y A)|(apply U;clear U K)|refine⟨rfl,?_⟩|refine⟨kZ,?_⟩|refine ix ?_|refine ld ?_|refine CX fun σ hs=>?_|refine JB ?_|refine G3 ?_|(refine C8 (fun hc=>?_)<;>(try rw[hc])<;>clear hc)|(refine Cl (fun hc=>?_) (fun hc=>?_)<;>(replace hc:=bp hc)<;>(try simp(disch:=omega) only[BW,wrap64,AN]at hc)<;>(try(cases hc;done)))|refine mX eB ?_|refine uj (fun σ hs=>?_)|(intro nn hnn;generalize hg:Az _ nn _=σ;refine CN hg fun hs=>?_;clear hg)|refine Pure.use (by assumption) ?_|clear U K)<;>conv=>whnf)
       all_goals first
        | exact⟨hjlt,_,rfl,⟨hst,hMs'⟩,hs.less (IV _ _)⟩
        | exact V7 (by rw[hst];rfl)
      ·rw[Al hje,D1,I8]at hm
       conv=>whnf
       repeat'((first|apply st|(apply sq;intro K U)|(apply si;intro A B Y Z)|(apply Y;clear Z B Y A)|(apply U;clear U K)|refine⟨rfl,?_⟩|(refine Es (fun hc=>?_)<;>(try rw[hc])<;>clear hc)|clear U K)<;>conv=>whnf)
       exact⟨hilt,(),rfl,hm,hs.take 0⟩
     ·rw[hem]at hlb
      rw[hem,if_pos rfl,←hw3]at hlin;have hcF:BD p=false:=by rw[hn',hlb];rfl
      conv=>whnf
      repeat'((first|apply st|(apply sq;intro K U)|(apply si;intro A B Y Z)|(apply Y;clear Z B Y A)|(refine Z _ _ _ ?_;clear Z B Y A)|(apply U;clear U K)|refine⟨rfl,?_⟩|refine⟨kZ,?_⟩|refine ix ?_|refine CX fun σ hs=>?_|(refine C8 (fun hc=>?_)<;>(try rw[hc])<;>clear hc)|(refine Cl (fun hc=>?_) (fun hc=>?_)<;>(replace hc:=bp hc)<;>(try(exfalso;omega)))|(intro nn hnn;generalize hg:Az _ nn _=σ;refine CN hg fun hs=>?_;clear hg)|refine Pure.use (by assumption) ?_|clear U K)<;>conv=>whnf)
      all_goals exact V7 hcF
    ·conv=>whnf
     repeat'((first|apply st|(apply sq;intro K U)|(apply si;intro A B Y Z)|(apply Y;clear Z B Y A)|(apply U;clear U K)|refine⟨rfl,?_⟩|(refine Es (fun hc=>?_)<;>(try rw[hc])<;>clear hc)|clear U K)<;>conv=>whnf)
     exact y4 hs (by rw[hn',Al hie];rfl)
   ·have hcF:BD p=false:=by rw[hcb];simp[hps]
    conv=>whnf
    repeat'((first|apply st|(apply sq;intro K U)|(apply si;intro A B Y Z)|(apply Y;clear Z B Y A)|(refine Z _ _ _ ?_;clear Z B Y A)|(apply U;clear U K)|refine⟨rfl,?_⟩|refine⟨kZ,?_⟩|(refine Es (fun hc=>?_)<;>(try rw[hc])<;>clear hc)|(refine Cl (fun hc=>?_) (fun hc=>?_)<;>(replace hc:=bp hc)<;>(try simp(disch:=omega) only[BW,wrap64,AN]at hc)<;>(try(cases hc;done)))|refine Pure.use (LQ _ (by omega)) ?_|(constructor<;>intro hc<;>(try rw[hc])<;>(replace hc:=bp hc)<;>try(exfalso;omega))|clear U K)<;>conv=>whnf)
    all_goals exact V7 hcF
def Zc (f : Fact):QU f=true→Pure Tryz.prog 288 [.a (xF f)] (eI (Gn f)):=by
 induction f using Fact.ind with
 | h f ih=>
   intro ha;refine Pure.fit (by kernel_rfl) fun hf=>?_
   have⟨h2,h3,h4⟩:=HG hf.1;have hM:=Mx;rw[O4]at ha;simp only[BU,DZ,List.all_map,GP]at ha;refine qH kZ ?_;have hs:=Sn;by_cases hlf:Bt f=true
   ·have hlo:=Gd hlf
    have hw:IntKind.i64.wrap (f.arg+1)=f.arg+1:=wrap64 (by omega) (by omega)
    conv=>whnf
    repeat'((first|apply st|(apply sq;intro K U)|(apply si;intro A B Y Z)|(apply Y;clear Z B Y A)|(apply U;clear U K)|refine⟨rfl,?_⟩|(constructor<;>intro hc<;>(try rw[hc])<;>(replace hc:=bp hc)<;>try(exfalso;omega))|fail)<;>conv=>whnf)
    all_goals try(exfalso;omega)
    all_goals
     refine CD f.kids.length (fun k (_:Unit)=>[(3,eI (((f.kids.take k).map Gn).foldl JY (if Bt f then f.arg+1 else 0))),(25,eI (BM k))]) (fun _ _=>[]) (fun _ _=>True) () (by rw[hw,if_pos hlf];rfl) trivial hs ?_;clear hs;rintro k - σ hk - hs;rcases BS f.kids hk with⟨x,hx,hlt⟩|hke
     ·have hxs:=ih x (Ck hx) (ha.2 x (Ck hx))
      conv=>whnf
      repeat'((first|apply st|(apply sq;intro K U)|(apply si;intro A B Y Z)|(apply Y;clear Z B Y A)|(apply U;clear U K)|refine⟨rfl,?_⟩|refine⟨kZ,?_⟩|refine Nc ?_|refine ld ?_|refine CX fun σ hs=>?_|(refine C8 (fun hc=>?_)<;>(try rw[hc])<;>clear hc)|(intro nn hnn;generalize hg:Az _ nn _=σ;refine CN hg fun hs=>?_;clear hg)|refine Pure.use (by assumption) ?_|clear U K)<;>conv=>whnf)
      exact⟨hlt,(),by rw[GB _ _ _ hx];rfl,trivial,hs.take 0⟩
     ·conv=>whnf
      repeat'((first|apply st|(apply sq;intro K U)|(apply si;intro A B Y Z)|(apply Y;clear Z B Y A)|(apply U;clear U K)|refine⟨rfl,?_⟩|(refine Es (fun hc=>?_)<;>(try rw[hc])<;>clear hc)|clear U K)<;>conv=>whnf)
      exact AI (by rw[Av hke,←JN])
   ·have hlo:f.op≠2∧f.op≠3∧f.op≠4:=by
     simp only[Bt,Gj,D4]at hlf;omega
    conv=>whnf
    repeat'((first|apply st|(apply sq;intro K U)|(apply si;intro A B Y Z)|(apply Y;clear Z B Y A)|(apply U;clear U K)|refine⟨rfl,?_⟩|(constructor<;>intro hc<;>(try rw[hc])<;>(replace hc:=bp hc)<;>try(exfalso;omega))|fail)<;>conv=>whnf)
    all_goals try(exfalso;omega)
    all_goals
     refine CD f.kids.length (fun k (_:Unit)=>[(3,eI (((f.kids.take k).map Gn).foldl JY (if Bt f then f.arg+1 else 0))),(25,eI (BM k))]) (fun _ _=>[]) (fun _ _=>True) () (by rw[if_neg hlf];rfl) trivial hs ?_;clear hs;rintro k - σ hk - hs;rcases BS f.kids hk with⟨x,hx,hlt⟩|hke
     ·have hxs:=ih x (Ck hx) (ha.2 x (Ck hx))
      conv=>whnf
      repeat'((first|apply st|(apply sq;intro K U)|(apply si;intro A B Y Z)|(apply Y;clear Z B Y A)|(apply U;clear U K)|refine⟨rfl,?_⟩|refine⟨kZ,?_⟩|refine Nc ?_|refine ld ?_|refine CX fun σ hs=>?_|(refine C8 (fun hc=>?_)<;>(try rw[hc])<;>clear hc)|(intro nn hnn;generalize hg:Az _ nn _=σ;refine CN hg fun hs=>?_;clear hg)|refine Pure.use (by assumption) ?_|clear U K)<;>conv=>whnf)
      exact⟨hlt,(),by rw[GB _ _ _ hx];rfl,trivial,hs.take 0⟩
     ·conv=>whnf
      repeat'((first|apply st|(apply sq;intro K U)|(apply si;intro A B Y Z)|(apply Y;clear Z B Y A)|(apply U;clear U K)|refine⟨rfl,?_⟩|(refine Es (fun hc=>?_)<;>(try rw[hc])<;>clear hc)|clear U K)<;>conv=>whnf)
      exact AI (by rw[Av hke,←JN])
def Zq (p:Prog) (x:Node) (size:Int):Pure Tryz.prog 286 [.a (Ba p),.a (Ip x),eI size] (.b (Lr p x size)):=by
 refine Pure.fit (by kernel_rfl) fun hf=>?_
 have⟨p1,p2,p3,p4⟩:=Fx hf.1;have hM:=Mx;have hw:IntKind.i64.wrap (3+((p.AQ.map To).length:Nat))=3+(p.AQ.length:Int):=by rw[BW,wrap64 (by omega) (by omega)]
 refine qJ kZ ?_;have hs:=Sn
 conv=>whnf
 repeat'((first|apply st|(apply sq;intro K U)|(apply si;intro A B Y Z)|(apply Y;clear Z B Y A)|(apply U;clear U K)|refine⟨rfl,?_⟩|refine Pure.use (Pq _) ?_|(constructor<;>intro hc<;>(try rw[hc])<;>(replace hc:=bp hc))|clear U K)<;>conv=>whnf)
 all_goals first
  | (refine AI ?_;simp[Lr, *];done)
  | (refine AI ?_;simp[Lr, *];omega)
  | (refine AI ?_;rw[hw];simp[Lr, *];done)
  | (refine AI ?_;congr 1;rw[JZ];simp[Lr, *];omega)
def oB (n:Nat) (hn:n≤120):Pure Tryz.prog 239 [.i .u64 1,eU n] (.t [.i .u64 0,eU n]):=by
 refine qd kZ ?_;have hs:=Sn
 conv=>whnf
 repeat'((first|apply st|(apply sq;intro K U)|(apply si;intro A B Y Z)|(apply Y;clear Z B Y A)|(apply U;clear U K)|refine⟨rfl,?_⟩|refine⟨(by decide:(0:Int)≤_),?_⟩|fail)<;>conv=>whnf)
 have ea: ∀m:Nat,m≤120→bits .and .u64 (m:Int) 4294967295=(m:Int):=fun m hm=>by
  have:=LS (a:=m) (b:=4294967295) (by omega) (by decide)
  have e:m&&&4294967295=m:=by
   have:=Nat.and_two_pow_sub_one_eq_mod m 32;rw[show 2 ^ 32 - 1=4294967295 from rfl]at this;rw[this];omega
  rw[e]at this;exact this
 have e0:=ea 0 (by omega);have e1:=ea 1 (by omega);have en:=ea n hn
 have ef: ∀m:Nat,m≤120→(m:Int).fdiv (2 ^ min (Int.toNat 32) IntKind.u64.bits)=0:=fun m hm=>by
  have:=Xz (a:=m) (c:=32) (by decide);rw[show(Int.toNat 32)=32 from rfl,this,Nat.shiftRight_eq_div_pow];have:m / 2 ^ 32=0:=Nat.div_eq_of_lt (by omega);rw[this];rfl
 have f0:=ef 0 (by omega);have f1:=ef 1 (by omega);have fn:=ef n hn;have w0:IntKind.u64.wrap 0=0:=rfl;have wn:IntKind.u64.wrap (n:Int)=n:=HM (by omega);simp only[Int.natCast_zero,Int.natCast_one,Int.cast_ofNat_Int]at e0 e1 f0 f1;simp only[e0,e1,en,f0,f1,fn,w0,wn,Int.zero_mul,Int.mul_zero,Int.zero_add,Int.add_zero,Int.one_mul];exact AI rfl
def oC (n:Nat) (hn:n≤120):Pure Tryz.prog 160 [.i .u64 1,eU n] (.t [.i .u64 0,eU n]):=by
 refine rL kZ ?_;have hs:=Sn
 conv=>whnf
 repeat'((first|apply st|(apply sq;intro K U)|(apply si;intro A B Y Z)|(apply Y;clear Z B Y A)|(apply U;clear U K)|refine Pure.use (oB n hn) ?_|fail)<;>conv=>whnf)
 all_goals exact AI rfl
end Go.Gl
namespace Go.Gl
variable {P:Program} {σ:AH}
def u7 {n sz len cap:Nat} {ki:IntKind} {j:Int} {K:V→AH→Prop} (h:K (.sv n sz j.toNat ((len:Int) - j).toNat) σ) (h0:0≤j:=by omega) (h1:j≤(len:Int):=by omega):AS σ sz (.sl n len cap) (some (.i ki j)) none none K:=by
 unfold AS;simp only[N2];exact⟨h0,h1,Int.le_refl _,h⟩
def u9 {n sz len cap:Nat} {ki:IntKind} {j:Int} {K:V→AH→Prop} (h:K (.sv n sz 0 j.toNat) σ) (h0:0≤j:=by omega) (h1:j≤(len:Int):=by omega):AS σ sz (.sl n len cap) none (some (.i ki j)) none K:=by
 unfold AS;simp only[N2];refine⟨Int.le_refl _,h0,h1,?_⟩;simpa using h
def tW {l:List At} (h:Sat σ l) (i:Nat) {n len cap sz:Nat} {es ys:List (List V)} {f:Bool} {K:V→AH→Prop} (hi:l[i]? =some (.own (.sl n len cap) sz es)) (hle:ys.length≤es.length) (hys: ∀e∈ys,e.length=sz) (ho: ∀e∈ys,∀v∈e,CE v=true)
    (hk: ∀σ',Sat σ' (l.set i (.own (.sl n len cap) sz (ys++es.drop ys.length)))→K (.i .i64 (ys.length:Nat)) σ'):Ad σ sz (.sl n len cap) (.l ys f) K:=by
 rcases h.get hi with⟨h1,_⟩|⟨n',cap',h1,hn⟩
 ·cases h1
 cases h1;unfold Ad;refine⟨hys,ho,?_⟩;simp only[N7,hn];have hm:min ys.length es.length=ys.length:=Nat.min_eq_left hle;refine⟨trivial,by omega,?_⟩;rw[hm];refine hk _ ?_;simp only[List.take_zero,List.nil_append,List.take_length,G2];refine h.change hi (fun b hb ha=>FK hb fun m hm=>?_) (fun b hb ha m hm=>ha m hm) (.inr ⟨n,cap,by simp;omega,by simp[Az]⟩);rw[CZ];intro e;subst e;exact ha m rfl hm
def tV {l:List At} (h:Sat σ l) (i:Nat) {n len cap sz a b c:Nat} {es:List (List V)} {K:V→AH→Prop} (hi:l[i]? =some (.own (.sl n len cap) sz es)) (hbc:a+b≤es.length) (hc:c≤es.length) (hys: ∀e∈es,e.length=sz) (ho: ∀e∈es,∀v∈e,CE v=true)
    (hk: ∀σ',Sat σ' (l.set i (.own (.sl n len cap) sz (es.take a++((es.take c).take (min c b)++es.drop (a+min c b)))))→K (.i .i64 (min c b:Nat)) σ'):Ad σ sz (.sv n sz a b) (.sv n sz 0 c) K:=by
 rcases h.get hi with⟨h1,_⟩|⟨n',cap',h1,hn⟩
 ·cases h1
 cases h1;unfold Ad;simp only[rowsOf,hn];have hl:((es.drop 0).take c).length=c:=by simp;omega
 refine⟨trivial,trivial,by omega,fun e he v hv=>ho e (List.mem_of_mem_take (by simpa using he)) v hv,trivial,?_⟩;simp only[N7,hn,List.drop_zero];refine⟨trivial,by omega,?_⟩;have hl2:(es.take c).length=c:=by simp;omega
 rw[hl2];refine hk _ ?_;refine h.change hi (fun b hb ha=>FK hb fun m hm=>?_) (fun b hb ha m hm=>ha m hm) (.inr ⟨n,cap,by simp;omega,by simp[Az]⟩);rw[CZ];intro e;subst e;exact ha m rfl hm
end Go.Gl
namespace Go.Gl
open Go.Proofs
attribute [local irreducible] A8 Ap Ag AT AL Ae AS AU AK Ad AO AP Aw A2 Sat AX A0 Ai W
def Zg (n:Nat) (h1:1≤n) (hn:n≤120):By Tryz.prog 102 [.l [[eI (-1)]] true,eI n] [] fun r post=> ∃v,r= .ret v∧post= [.own v 1 (iL (List.replicate n (-1)))]∧(Dg v).isSome=true:=by
 intro σ hs;have hM:=Mx;have hw1:IntKind.u64.wrap 1=1:=rfl;have hwn:IntKind.u64.wrap (n:Int)=n:=HM (by omega);have hwi:IntKind.i64.wrap (n:Int)=n:=wrap64 (by omega) (by omega);refine rj kZ ?_
 conv=>whnf
 repeat'((first|apply st|(apply sq;intro K U)|(apply si;intro A B Y Z)|(apply Y;clear Z B Y A)|(apply U;clear U K)|refine⟨rfl,?_⟩|(constructor<;>intro hc<;>(try rw[hc])<;>(replace hc:=bp hc)<;>try(exfalso;omega))|fail)<;>conv=>whnf)
 rw[show IntKind.u64.wrap (([[eI (-1)]]:List (List V)).length:Nat)=1 from rfl,hwn];refine(oC n hn).use ?_
 conv=>whnf
 repeat'((first|apply st|(apply sq;intro K U)|(apply si;intro A B Y Z)|(apply Y;clear Z B Y A)|(apply U;clear U K)|refine⟨rfl,?_⟩|(constructor<;>intro hc<;>(try rw[hc])<;>(replace hc:=bp hc)<;>try(exfalso;omega))|fail)<;>conv=>whnf)
 all_goals try(exfalso;omega)
 rw[hwi];refine ss hs (He n) (by omega) fun v σ hs hv=>?_
 obtain⟨id,rfl⟩:=hv
 conv=>whnf
 repeat'((first|(apply sq;intro K U)|(apply si;intro A B Y Z)|(apply Y;clear Z B Y A)|(apply U;clear U K)|fail)<;>conv=>whnf)
 refine tW hs 0 (ys:=[[eI (-1)]]) rfl (by simp;omega) (fun e he=>by simp at he;subst he;rfl) (fun e he v hv=>by simp at he;subst he;simp at hv;subst hv;rfl) fun σ hs=>?_
 have hst:([[eI (-1)]]:List (List V))++(List.replicate n [V.i .i64 0]).drop ([[eI (-1)]]:List (List V)).length=List.replicate 1 [eI (-1)]++List.replicate (n - 1) [eI 0]:=by simp[List.drop_replicate]
 rw[hst]at hs
 conv=>whnf
 repeat'((first|apply st|(apply sq;intro K U)|(apply Y;clear Z B Y A)|(apply U;clear U K)|fail)<;>conv=>whnf)
 refine It (fun m:Nat=>n - m) (fun m=>[(8,eI m)]) (fun m=>[.own (.sl id n n) 1 (List.replicate m [eI (-1)]++List.replicate (n - m) [eI 0])]) (fun m=>1≤m∧m≤n) 1 rfl ⟨by omega,h1⟩ hs ?_;clear hs hst;rintro m σ ⟨hm1,hmn⟩ hs
 have hgl: ∀e∈(List.replicate m [eI (-1)]++List.replicate (n - m) [eI 0]:List (List V)),e.length=1∧ ∀v∈e,CE v=true:=fun e he=>by
  rcases FJ.1 he with he|he
  ·rw[(List.mem_replicate.1 he).2];exact⟨rfl,fun v hv=>by simp at hv;subst hv;rfl⟩
  ·rw[(List.mem_replicate.1 he).2];exact⟨rfl,fun v hv=>by simp at hv;subst hv;rfl⟩
 have hlen:(List.replicate m [eI (-1)]++List.replicate (n - m) [eI 0]:List (List V)).length=n:=by simp;omega
 rcases Nat.lt_or_ge m n with hlt|hge
 ·have hcpy:(List.replicate m [eI (-1)]++List.replicate (n - m) [eI 0]:List (List V)).take m++(((List.replicate m [eI (-1)]++List.replicate (n - m) [eI 0]:List (List V)).take m).take (min m (n - m))++(List.replicate m [eI (-1)]++List.replicate (n - m) [eI 0]:List (List V)).drop (m+min m (n - m)))=List.replicate (m+min m (n - m)) [eI (-1)]++List.replicate (n - (m+min m (n - m))) [eI 0]:=by
   have e1:(List.replicate m [eI (-1)]++List.replicate (n - m) [eI 0]:List (List V)).take m=List.replicate m [eI (-1)]:=by
    rw[List.take_append_of_le_length (by simp)];simp
   rw[e1,List.take_replicate,List.drop_append,List.drop_replicate,List.drop_replicate,List.length_replicate,←TR,List.replicate_append_replicate];have e2:m - (m+min m (n - m))=0:=by omega
   have e3:n - m - (m+min m (n - m) - m)=n - (m+min m (n - m)):=by omega
   rw[e2,e3,List.replicate_zero,List.nil_append];congr 2;omega
  conv=>whnf
  repeat'((first|apply st|(apply sq;intro K U)|(apply si;intro A B Y Z)|(apply Y;clear Z B Y A)|(apply U;clear U K)|apply dr|refine⟨rfl,?_⟩|refine lo ?_|(constructor<;>intro hc<;>(try rw[hc])<;>(replace hc:=bp hc)<;>try(exfalso;omega))|fail)<;>conv=>whnf)
  all_goals try(exfalso;omega)
  refine u7 ?_
  conv=>whnf
  repeat'((first|apply dr|fail)<;>conv=>whnf)
  refine u9 ?_
  conv=>whnf
  repeat'((first|apply dr|fail)<;>conv=>whnf)
  rw[Lm,show((n:Int) - m).toNat=n - m by omega];refine tV hs 0 rfl (by rw[hlen];omega) (by rw[hlen];omega) (fun e he=>(hgl e he).1) (fun e he=>(hgl e he).2) fun σ hs=>?_
  rw[hcpy]at hs
  conv=>whnf
  repeat'((first|(apply Y;clear Z B Y A)|apply dr|refine⟨rfl,?_⟩|clear U K)<;>conv=>whnf)
  refine⟨m+min m (n - m),by omega,?_,⟨by omega,by omega⟩,hs⟩;rw[wrap64 (by omega) (by omega)];rfl
 ·have hme:m=n:=by omega
  subst hme
  conv=>whnf
  repeat'((first|apply st|(apply sq;intro K U)|(apply si;intro A B Y Z)|(apply Y;clear Z B Y A)|(apply U;clear U K)|refine⟨rfl,?_⟩|refine lo ?_|(constructor<;>intro hc<;>(try rw[hc])<;>(replace hc:=bp hc)<;>try(exfalso;omega))|clear U K)<;>conv=>whnf)
  all_goals try(exfalso;omega)
  refine A5 hs (List.Sublist.refl _) (.refl _) fun σ' hs'=>⟨_,⟨_,rfl,?_,rfl⟩,hs'⟩
  simp[iL]
def QP (op:Int):V:=
 if op=5 then .Er 360 (.a [])else
 if op=1∨op=2∨op=3∨op=6∨op=18 then .Er 359 (eI 0)else
 if op=4∨op=8∨op=17 then .Er 359 (eI 1)else
 if op=7∨op=9∨op=11∨op=12∨op=13∨op=14∨op=15∨op=16 then .Er 359 (eI 2)else
 if op=10 then .Er 359 (eI 3)else .Db
def Z0 (op:Int):Pure Tryz.prog 287 [eI op] (QP op):=by
 refine qI kZ ?_;have hs:=Sn
 conv=>whnf
 repeat'((first|apply st|(apply sq;intro K U)|(apply si;intro A B Y Z)|(apply Y;clear Z B Y A)|(apply U;clear U K)|refine⟨rfl,?_⟩|(constructor<;>intro hc<;>(try rw[hc])<;>(replace hc:=bp hc))|clear U K)<;>conv=>whnf)
 all_goals exact AI (by simp[QP, *])
def tB (n:Int) (p:Prog) (x:Node):Pure Tryz.prog 399 [eI n,.a (Ba p),.a (Ip x)] (eI n):=by
 refine oj kZ ?_;have hs:=Sn
 conv=>whnf
 repeat'((first|apply st|(apply sq;intro K U)|(apply si;intro A B Y Z)|(apply Y;clear Z B Y A)|(apply U;clear U K)|fail)<;>conv=>whnf)
 all_goals exact AI rfl
def kM (p:Prog) (x:Node) (h0:0≤x.n) (h1:x.n<p.Dc.length):Pure Tryz.prog 400 [.a [],.a (Ba p),.a (Ip x)] (eI (p.Dc.getD x.n.toNat 0)):=by
 refine Pure.fit (by kernel_rfl) fun hf=>?_
 have⟨p1,p2,p3,p4⟩:=Fx hf.2.1
 have hx:p.Dc[x.n.toNat]? =some (p.Dc.getD x.n.toNat 0):=by
  rw[E2,Et (by omega)];rfl
 refine oh kZ ?_;have hs:=Sn
 conv=>whnf
 repeat'((first|apply st|(apply sq;intro K U)|(apply si;intro A B Y Z)|(apply Y;clear Z B Y A)|(apply U;clear U K)|refine TX ?_|fail)<;>conv=>whnf)
 all_goals exact AI rfl
end Go.Gl
namespace Go.Gl
variable {P:Program} {σ:AH}
def Sat.up {σ':AH} {l:List At} (h:Sat σ l) (hs:Sub σ σ'):Sat σ' l:=by
 refine⟨fun a ha=>?_,h.2⟩;have:=h.1 a ha;cases a with
 | obj n o=>exact hs n o this
 | own v sz es=>
   rcases this with h|⟨n,cap,e,hn⟩
   ·exact .inl h
   ·exact .inr ⟨n,cap,e,hs n _ hn⟩
def Sat.del {l:List At} {n:Nat} {o:O} (h:Sat σ (.obj n o::l)):Sat (del σ n) l:=by
 refine⟨fun b hb=>FK (h.1 b (.tail _ hb)) fun m hm=>?_,(List.pairwise_cons.1 h.2).2⟩;rw[Gv];intro e;subst e;exact(List.pairwise_cons.1 h.2).1 b hb m rfl hm
def Sat.s7 {l:List At} {n:Nat} {o:O} (h:Sat σ l) (hn:σ n=none):Sat (Az σ n o) (.obj n o::l):=(bZ h hn).sV
def Sat.new {l:List At} {n:Nat} {o o':O} (h:Sat σ (.obj n o::l)):Sat (Az σ n o') (.obj n o'::l):=gh (i:=0) h rfl o'
def Aa {v:V} {Q:R→AH→Prop} (h:Q (.ret v) σ):Ap σ v Q:=⟨v,σ,fun _ _ h=>h,.refl v,h⟩
inductive Rd (S:Type) where
 | go (s:S)
 | stop (st:sS) (s:S)
 | Bf (v:V)
def gV {S:Type} (L:Nat) (E:Env) (ok:FuncId→Array Tmp→Code→Code→Nat→Prop) (H:S→List At) (J:S→Prop) (rest:List At) (yes no:V):Rd S→R→AH→Prop
 | .go s,r,σ=>r= .ret yes∧Sat σ (.obj L (.loop .ready E ok)::(H s++rest))
 | .stop st s,r,σ=>r= .ret no∧Sat σ (.obj L (.loop st E ok)::(H s++rest))
 | .Bf v,r,σ=>r= .Bf v∧ ∃s,J s∧Sat (del σ L) (H s++rest)
def ME {α S:Type} (P:Program) (L:Nat) (E:Env) (ok:FuncId→Array Tmp→Code→Code→Nat→Prop) (ea:α→List V) (H:S→List At) (J:S→Prop) (stp:α→S→Rd S) (D:α→S→Prop):Prop:=
 ∀y s,D y s→ ∀(rest:List At) (σ:AH),Sat σ (.obj L (.loop .ready E ok)::(H s++rest))→Rw P L (ea y) σ (gV L E ok H J rest (.b true) (.b false) (stp y s))
def ME.use {α S:Type} {L:Nat} {E:Env} {ok:FuncId→Array Tmp→Code→Code→Nat→Prop} {ea:α→List V} {H:S→List At} {J:S→Prop} {stp:α→S→Rd S} {D:α→S→Prop} (h:ME P L E ok ea H J stp D) {y:α} {s:S} (hd:D y s) {rest:List At} (hs:Sat σ (.obj L (.loop .ready E ok)::(H s++rest)))
    {Q:R→AH→Prop} (hk: ∀r σ',gV L E ok H J rest (.b true) (.b false) (stp y s) r σ'→Q r σ'):Aw P (.f (.yield L) [] []) (ea y) σ Q:=(h y s hd rest σ hs).mono hk
def XU {L:Nat} {env:Env} {ps:List Nat} {a b:AY} (hσ:σ L=some (.loop .ready env (B4 P ps a b))) {args:List V} (hl:args.length=ps.length) {Q:R→AH→Prop}
    (h:W P a (Ch (W P b fun ex env' σ'=>σ' L=none→Wh L env (B4 P ps a b) Q ex env' σ')) (E6 ps args env) (del σ L)):Rw P L args σ Q:=
 Pm hσ hl (Wg h (Jk fun _ _ h=>ku h))
def M6 {α S:Type} {L:Nat} {E:Env} {ps:List Nat} {a b:AY} {ea:α→List V} {H:S→List At} {J:S→Prop} {stp:α→S→Rd S} {D:α→S→Prop} (hl: ∀y,(ea y).length=ps.length)
    (h: ∀y s,D y s→ ∀(rest:List At) (σ:AH),Sat σ (H s++rest)→W P a (Ch (W P b fun ex env' σ'=>σ' L=none→Wh L E (B4 P ps a b) (gV L E (B4 P ps a b) H J rest (.b true) (.b false) (stp y s)) ex env' σ')) (E6 ps (ea y) E) σ):ME P L E (B4 P ps a b) ea H J stp D:=
 fun y s hd rest σ hs=>XU (hs.get (i:=0) rfl) (hl y) (h y s hd rest _ hs.del)
def UZ {S:Type} {L:Nat} {E:Env} {ok:FuncId→Array Tmp→Code→Code→Nat→Prop} {H:S→List At} {J:S→Prop} {rest:List At} {o:Rd S} {s:S} (h:o= .go s) (hs:Sat σ (H s++rest)) (hn:σ L=none) :
    gV L E ok H J rest (.b true) (.b false) o (.ret (.b true)) (Az σ L (.loop .ready E ok)):=by
 subst h;exact⟨rfl,hs.s7 hn⟩
def Wq {S:Type} {L:Nat} {E:Env} {ok:FuncId→Array Tmp→Code→Code→Nat→Prop} {H:S→List At} {J:S→Prop} {rest:List At} {o:Rd S} {s:S} {st:sS} (h:o= .stop st s) (hs:Sat σ (H s++rest)) (hn:σ L=none) :
    gV L E ok H J rest (.b true) (.b false) o (.ret (.b false)) (Az σ L (.loop st E ok)):=by
 subst h;exact⟨rfl,hs.s7 hn⟩
def Qi {S:Type} {L:Nat} {E:Env} {ok:FuncId→Array Tmp→Code→Code→Nat→Prop} {H:S→List At} {J:S→Prop} {rest:List At} {o:Rd S} {s:S} {v:V} (h:o= .Bf v) (hj:J s) (hs:Sat σ (H s++rest)) (hn:σ L=none) :
    gV L E ok H J rest (.b true) (.b false) o (.Bf v) σ:=by
 subst h;refine⟨rfl,s,hj,fun a ha=>FK (hs.1 a ha) fun n hd=>?_,hs.2⟩;obtain⟨o,ho⟩:=Cs (hs.1 a ha) hd;rw[Gv];intro e;subst e;rw[hn]at ho;cases ho
def Ua {L:Nat} {E env:Env} {ok:FuncId→Array Tmp→Code→Code→Nat→Prop} {Q:Af→Env→AH→Prop} {l:List At} {v:V} (hs:Sat σ (.obj L (.loop .ready E ok)::l)) (hk: ∀σ',Sat σ' l→Q .normal env σ'):KB L Q env (.ret v) σ:=
 ⟨_,_,_,hs.get (i:=0) rfl,hk _ hs.del⟩
def Wt {L id:Nat} {E env:Env} {ok:FuncId→Array Tmp→Code→Code→Nat→Prop} {Q:Af→Env→AH→Prop} {l:List At} {v:V} (hs:Sat σ (.obj L (.loop (.exit id) E ok)::l)) (hk: ∀σ',Sat σ' l→Q (.exit id) env σ'):KB L Q env (.ret v) σ:=
 ⟨_,_,_,hs.get (i:=0) rfl,hk _ hs.del⟩
end Go.Gl
