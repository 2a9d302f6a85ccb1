import Derived.Shelf.Sort.Plain
import Derived.Test.YtijbpgdmpejgoaaGreatProg
import Derived.Test.YtijbpgdmpejgoaaGreatW10
set_option linter.all false
set_option linter.defProp false
noncomputable section
namespace Go.Gl
open Go.Proofs
attribute [local irreducible] BD Aw Ai AU AO Ah AV AW AN Ag AS AT Ay A9 Sat Ab A4 Aj W
def dB (s c:Nat) (hs0:s<18446744073709551616) (hc:c<64):Pure Tryz.prog 269 [.a [eU s],eI c] (.a [eU (s|||2 ^ c)]):=by
 refine j3 kZ ?_;have hs:=Sn
 conv=>whnf
 repeat'((first|apply st|(apply sq;intro K U)|(apply si;intro A B Y Z)|(apply Y;clear Z B Y A)|(apply U;clear U K)|apply dr|refine⟨rfl,?_⟩|refine⟨kZ,?_⟩|refine Tx ?_|refine ld ?_|refine EV fun σ hs=>?_|refine DT fun σ hs=>?_|refine⟨Int.natCast_nonneg _,?_⟩|(intro nn hnn;generalize hg:A7 _ nn _=σ;refine CY hg fun hs=>?_;clear hg)|fail)<;>conv=>whnf)
 refine AI ?_;simp only[Jz,Vz hc,KQ hs0 (JY hc)];rfl
def nt (s t:Nat) (hs0:s<18446744073709551616) (ht0:t<18446744073709551616):Pure Tryz.prog 270 [.a [eU s],.a [eU t]] (.a [eU (s|||t)]):=by
 refine j0 kZ ?_;have hs:=Sn
 conv=>whnf
 repeat'((first|apply st|(apply sq;intro K U)|(apply si;intro A B Y Z)|(apply Y;clear Z B Y A)|(apply U;clear U K)|refine⟨rfl,?_⟩|refine⟨kZ,?_⟩|refine Tx ?_|refine nE ?_|refine ld ?_|refine EV fun σ hs=>?_|refine DT fun σ hs=>?_|(intro nn hnn;generalize hg:A7 _ nn _=σ;refine CY hg fun hs=>?_;clear hg)|fail)<;>conv=>whnf)
 refine AI ?_;simp only[KQ hs0 ht0];rfl
def SU (s:Nat) (c:Int) (hs0:s<18446744073709551616) (h0:0≤c) (hc:c<64):Pure Tryz.prog 269 [.a [eU s],eI c] (.a [eU (s|||2 ^ c.toNat)]):=by
 have:=dB s c.toNat hs0 (by omega);rw[Int.toNat_of_nonneg h0]at this;exact this
def J8 {a b:Nat} (ha:a<18446744073709551616) (hb:b<18446744073709551616):a|||b<18446744073709551616:=by
 have:=Nat.or_lt_two_pow (n:=64) (x:=a) (y:=b) (by simpa using ha) (by simpa using hb);simpa using this
def H7 (g:List (List Int)):List (List Int×Bool):=[([],true),([],true),([],true)]++g.map fun l=>(l,false)
def ak (g:List (List Int)):(H7 g).length=3+g.length:=by simp[H7];omega
def V6 (g:List (List Int)) {k:Nat} (hk:k<3+g.length): ∃b,(H7 g)[k]? =some (Ax g (k:Int),b):=by
 unfold H7 Ax;by_cases h3:k<3
 ·rw[if_pos (by omega),cd (by simpa using h3)]
  refine⟨true,?_⟩;rcases k with _|_|_|k
  ·rfl
  ·rfl
  ·rfl
  ·omega
 ·rw[if_neg (by omega),List.getElem?_append_right (by simp;omega)]
  refine⟨false,?_⟩;simp only[Lt,List.length_nil,PF];have e:((k:Int) - 3).toNat=k - (0+1+1+1):=by omega
  rw[e,DS,DZ (by omega)];rfl
def eP:EE (fun u:Nat=>[eU u]) 1:=fun x=>⟨rfl,fun v hv=>by simp at hv;subst hv;rfl⟩
def np {α:Type} {a b c d:α}: [a,b,c,d].Perm [b,d,a,c]:=by
 have h1: [a,b,c,d].Perm [b,a,c,d]:= .swap _ _ _;have h2: [a,c,d].Perm [d,a,c]:=Rt (l₁:=[a,c]) (l₂:=[d]);exact h1.trans (h2.cons b)
set_option maxHeartbeats 4000000 in
def dg (g:List (List Int)) (f f2:Bool) (c:Int) (hg:Dk g=true) (hc0:0≤c) (hc1:c<3+g.length) :
    Bc Tryz.prog 250 [.l (Ei g) f,.l (iL [c]) f2] [] fun r post=> ∃n mm vp vu us M,r= .ret (.t [.p n 0,.b true])∧post=gH n mm vp vu (H7 g) us M∧H0 g (3+g.length) M:=by
 intro σ hs;refine BD.fit (by kernel_rfl) fun hf=>?_
 have⟨g1,g2⟩:=UT hf.1;have hM:=Mx;have hG:=Dr hg;have hgl:=hG.1;have hfn:=Wj g f;rw[hg]at hfn;have hc2: [c][0]? =some c:=rfl;have hpl:=ak g;refine kD kZ ?_
 conv=>whnf
 repeat'((first|apply st|(apply sq;intro K U)|(apply si;intro A B Y Z)|(apply Y;clear Z B Y A)|(apply U;clear U K)|refine EM ?_|refine hfn.use ?_|fail)<;>conv=>whnf)
 refine CZ 1 (fun k (_:Unit)=>[(20,eI (BH k))]) (fun _ _=>[]) (fun _ _=>True) () rfl trivial hs ?_;clear hs;rintro k - σ hk - hs;have hkk:k=0∨k=1:=by omega
 rcases hkk with rfl|rfl
 ·conv=>whnf
  repeat'((first|apply st|(apply sq;intro K U)|(apply si;intro A B Y Z)|(apply Y;clear Z B Y A)|(apply U;clear U K)|refine⟨rfl,?_⟩|refine⟨kZ,?_⟩|refine ix ?_|(refine Cv (fun hc=>?_)<;>(try rw[hc])<;>clear hc)|(constructor<;>intro hc<;>(try rw[hc])<;>(replace hc:=bp hc)<;>(try simp(disch:=omega) only[BR,wrap64,AM]at hc)<;>try(exfalso;omega))|clear U K)<;>conv=>whnf)
  all_goals try(exfalso;omega)
  exact⟨(),rfl,trivial,hs⟩
 ·have hke:1= [c].length:=rfl
  conv=>whnf
  repeat'((first|apply st|(apply sq;intro K U)|(apply si;intro A B Y Z)|(apply Y;clear Z B Y A)|(apply U;clear U K)|refine⟨rfl,?_⟩|(refine EI (fun hc=>?_)<;>(try rw[hc])<;>clear hc)|clear U K)<;>conv=>whnf)
  rw[show IntKind.i64.wrap (3+((Ei g).length:Nat))=((3+g.length:Nat):Int) by rw[BR,wrap64 (by omega) (by omega)];omega];refine nP (n:=3) hs (by omega) (by omega) fun vp σ hs hv=>?_
  obtain⟨idp,rfl⟩:=hv
  conv=>whnf
  repeat'((first|(apply sq;intro K U)|(apply si;intro A B Y Z)|(apply Y;clear Z B Y A)|(apply U;clear U K)|refine ld ?_|(intro nn hnn;generalize hg:A7 _ nn _=σ;refine CY hg fun hs=>?_;clear hg)|fail)<;>conv=>whnf)
  obtain⟨mm,hs⟩: ∃mm,Sat σ [.box nn [.sl idp 3 (3+g.length),.l [] true,.m mm],.map mm [],.own (.sl idp 3 (3+g.length)) 1 (List.replicate 3 [.l [] true])]:=⟨_,hs⟩
  generalize nn=n0 at *;have hgr:=DV DQ g;refine hAppend hs 2 rfl (by simp;omega) hgr.1 hgr.2 fun vp σ hs=>?_
  have hps:List.replicate 3 [.l [] true]++Ei g=pL (H7 g):=by simp[pL,H7,List.replicate,Ei]
  rw[hps]at hs;clear hps;have hs1p:=Fb hs 2 rfl
  conv=>whnf
  repeat'((first|apply st|(apply sq;intro K U)|(apply si;intro A B Y Z)|(apply Y;clear Z B Y A)|(apply U;clear U K)|refine lo ?_|refine ld ?_|refine EV fun σ hs=>?_|fail)<;>conv=>whnf)
  replace hs:Sat σ [.box n0 [vp,.l [] true,.m mm],.map mm [],.own vp 1 (pL (H7 g))]:=hs;refine CZ (H7 g).length (fun k (_:V×List Nat)=>[(55,eI (BH k))]) (fun _ x=>[.own x.1 1 (x.2.map fun u=>[eU u]),.box n0 [vp,x.1,.m mm],.map mm [],.own vp 1 (pL (H7 g))]) (fun k x=>x.2.length=k∧ ∀u∈x.2,u<18446744073709551616) (.l [] true,[]) rfl ⟨rfl,fun u hu=>by cases hu⟩ (DN hs 1) ?_;clear hs;rintro k ⟨vu,us⟩ σ hk ⟨hul,hus⟩ hs;dsimp only at hul hus hs;rcases BM (H7 g) hk with⟨⟨l,lb⟩,hl,hlt⟩|hke2
  ·have hck:BH k=k:=AM (by omega)
   obtain⟨b',hpa⟩:=V6 g (k:=k) (by omega);have hle:l=Ax g (k:Int):=by rw[hl]at hpa;exact(Prod.mk.inj (Option.some.inj hpa)).1
   have hll:=C0 hG (k:Int);rw[←hle]at hll;have hlm: ∀p∈l,3≤p∧p<(k:Int):=fun p hp=>DY hG (by rw[←hle];exact hp)
   have hs1:(0|||2 ^ (BH k).toNat)<18446744073709551616:=by
    rw[Nat.zero_or,hck,Jz];exact JY (by omega)
   have hs1u:=Fb hs 0 rfl;have hl':(H7 g)[(BH k).toNat]? =some (l,lb):=by rw[hck,Jz];exact hl
   conv=>whnf
   repeat'((first|apply st|(apply sq;intro K U)|(apply si;intro A B Y Z)|(apply Y;clear Z B Y A)|(apply U;clear U K)|refine⟨rfl,?_⟩|refine DT fun σ hs=>?_|refine oi ?_|refine m6 ?_|(refine Cv (fun hc=>?_)<;>(try rw[hc])<;>clear hc)|refine Pure.use (SU 0 (BH k) (by decide) (by omega) (by omega)) ?_|refine Pure.use (SU _ _ (by first|omega|exact hs1) (by omega) (by omega)) ?_|(intro nn hnn;generalize hg:A7 _ nn _=σ;refine CY hg fun hs=>?_;clear hg)|fail)<;>conv=>whnf)
   have hs0:(0|||2 ^ (BH k).toNat|||2 ^ Int.toNat 0)<18446744073709551616:=J8 hs1 (by decide);generalize (0|||2 ^ (BH k).toNat|||2 ^ Int.toNat 0)=s0 at *;refine CZ l.length (fun j (_:Nat)=>[(66,eI (BH j))]) (fun _ s=>[.box nn [eU s],.own vu 1 (us.map fun u=>[eU u]),.box n0 [vp,vu,.m mm],.map mm [],.own vp 1 (pL (H7 g))]) (fun _ s=>s<18446744073709551616) s0 rfl hs0 hs ?_;clear hs hs0;rintro j s σ hj hsb hs;rcases BM l hj with⟨p,hp,hjlt⟩|hje
   ·obtain⟨hp3,hpk⟩:=hlm p (Cg hp)
    obtain⟨u,hu⟩: ∃u,us[p.toNat]? =some u:=⟨_,DZ (by omega)⟩
    have hub:=hus u (Cg hu)
    conv=>whnf
    repeat'((first|apply st|(apply sq;intro K U)|(apply si;intro A B Y Z)|(apply Y;clear Z B Y A)|(apply U;clear U K)|apply dr|refine⟨rfl,?_⟩|refine⟨kZ,?_⟩|refine ix ?_|refine ld ?_|refine DT fun σ hs=>?_|refine oi ?_|refine m6 ?_|(refine Cv (fun hc=>?_)<;>(try rw[hc])<;>clear hc)|refine Pure.use (nt _ _ hsb hub) ?_|clear U K)<;>conv=>whnf)
    exact⟨hjlt,s|||u,rfl,J8 hsb hub,hs⟩
   ·conv=>whnf
    repeat'((first|apply st|(apply sq;intro K U)|(apply si;intro A B Y Z)|(apply Y;clear Z B Y A)|(apply U;clear U K)|apply dr|refine⟨rfl,?_⟩|refine⟨kZ,?_⟩|refine ld ?_|(refine EI (fun hc=>?_)<;>(try rw[hc])<;>clear hc)|clear U K)<;>conv=>whnf)
    refine GC (Fh hs 1 (enc:=fun u:Nat=>[eU u]) (xs:=us) (x:=s) rfl (by omega) eP fun vu' σ hs hsl=>?_);have hs2u:=Fb hs 1 rfl
    conv=>whnf
    repeat'((first|(apply si;intro A B Y Z)|(apply Y;clear Z B Y A)|(apply U;clear U K)|apply dr|refine⟨rfl,?_⟩|refine EV fun σ hs=>?_|clear U K)<;>conv=>whnf)
    refine⟨hlt,(vu',us++[s]),rfl,⟨by simp[hul],fun u hu=>?_⟩,hs.less (JR _ _)⟩;rcases FX.1 hu with hu|hu
    ·exact hus u hu
    ·rw[K8.1 hu];exact hsb
  ·have hs1u:=Fb hs 0 rfl
   conv=>whnf
   repeat'((first|apply st|(apply sq;intro K U)|(apply si;intro A B Y Z)|(apply Y;clear Z B Y A)|(apply U;clear U K)|refine⟨rfl,?_⟩|refine lo ?_|refine ld ?_|(refine EI (fun hc=>?_)<;>(try rw[hc])<;>clear hc)|clear U K)<;>conv=>whnf)
   replace hs:Sat σ (gH n0 mm vp vu (H7 g) us []):=hs.perm np;refine CZ (H7 g).length (fun k (_:List Ord)=>[(96,eI (BH k))]) (fun _ M=>gH n0 mm vp vu (H7 g) us M) (fun k M=>H0 g k M) [] rfl H0.nil hs ?_;clear hs;rintro k M σ hk hkn hs;rcases BM (H7 g) hk with⟨⟨l,lb⟩,hl,hlt⟩|hke3
   ·have hck:BH k=k:=AM (by omega)
    obtain⟨b',hpa⟩:=V6 g (k:=k) (by omega);have hle:l=Ax g (k:Int):=by rw[hl]at hpa;exact(Prod.mk.inj (Option.some.inj hpa)).1
    have hll:=C0 hG (k:Int);rw[←hle]at hll;have hlm: ∀p∈l,3≤p∧p<(k:Int):=fun p hp=>DY hG (by rw[←hle];exact hp)
    have hlo:=Xw hG hkn hll (fun x hx=>by have:=hlm x hx;omega);have hord:=au n0 mm vp vu (H7 g) us M (BH k) l lb (by omega) (by rw[hck,Jz];exact hl) hll (fun c=>by have:=(Ka hG hkn c).1;omega) (fun e he=>by have:=hkn.keys e he;omega) hlo.1 hlo.2
    conv=>whnf
    repeat'((first|apply st|(apply sq;intro K U)|(apply si;intro A B Y Z)|(apply Y;clear Z B Y A)|(apply U;clear U K)|refine⟨rfl,?_⟩|(refine Cv (fun hc=>?_)<;>(try rw[hc])<;>clear hc)|fail)<;>conv=>whnf)
    refine hord.use (rest:=[]) (by simpa using hs) ?_;clear hs;rintro r post σ ⟨rfl,M',rfl,hM'⟩ hs;rw[H3]at hs;rw[hck]at hM'
    conv=>whnf
    repeat'((first|(apply si;intro A B Y Z)|(apply Y;clear Z B Y A)|(apply U;clear U K)|refine⟨rfl,?_⟩|clear U K)<;>conv=>whnf)
    exact⟨hlt,M',rfl,hkn.step hle (fun p hp=>by have:=hlm p hp;omega) (by omega) hM',hs⟩
   ·conv=>whnf
    repeat'((first|apply st|(apply sq;intro K U)|(apply si;intro A B Y Z)|(apply Y;clear Z B Y A)|(apply U;clear U K)|refine⟨rfl,?_⟩|(refine EI (fun hc=>?_)<;>(try rw[hc])<;>clear hc)|clear U K)<;>conv=>whnf)
    exact Aq hs (List.Sublist.refl _) (.refl _) fun σ' hs'=>⟨_,⟨_,_,_,_,_,_,rfl,rfl,by rw[←hpl,←hke3];exact hkn⟩,hs'⟩
def mf {M:List Ord} {c:Int} {σ:AH} {fx:List At} (hs:Sat σ (fx++M.map Yp)) (hl:(B1 M c).length≤Ac) (hne:B1 M c≠[]) {k kp:V→AH→Prop} (hk: ∀σ',Sat σ' (fx++M.map Yp)→k (.l (iL (B1 M c)) false) σ'):BD Tryz.prog 175 [IF M c] σ (qk k kp):=by
 rcases NX M c with⟨h1,h2⟩|⟨j,hj⟩
 ·exact absurd h1 hne
 ·have hj':(fx++M.map Yp)[fx.length+j]? =some (At.own (IF M c) 1 (iL (B1 M c))):=by
   rw[List.getElem?_append_right (by omega),Nat.add_sub_cancel_left,hj]
  have hcl:Bc Tryz.prog 175 [IF M c] [.own (IF M c) 1 (iL (B1 M c))] fun r post=>r= .ret (.l (iL (B1 M c)) false)∧post= [.own (IF M c) 1 (iL (B1 M c))]:=by
   clear hk hj' hj;generalize IF M c=v at *;generalize B1 M c=l at *;intro σ hs;refine Zv kZ ?_;have hgr:=DV Cs l
   have hend: ∀ {σ:AH} {w u:V},Sat σ [.own w 1 (iL l),.own u 1 (iL l)]→Aw σ w fun r σ'=> ∃post,(r= .ret (.l (iL l) false)∧post= [.own u 1 (iL l)])∧Sat σ' post:=fun hs=>by
    obtain⟨σ2,h1,h2,h3⟩:=Ht hs 0 rfl;exact Gb h1 h2 ⟨_,⟨rfl,rfl⟩,h3⟩
   have hM:=Mx;rcases hs.get (i:=0) rfl with⟨rfl,_⟩|⟨n,cap,rfl,hn⟩
   ·conv=>whnf
    repeat'((first|(apply sq;intro K U)|(apply si;intro A B Y Z)|(apply Y;clear Z B Y A)|(apply U;clear U K)|fail)<;>conv=>whnf)
    refine⟨fun e=>absurd (List.map_eq_nil_iff.1 e) hne,fun _=>?_⟩
    conv=>whnf
    repeat'((first|apply st|(apply sq;intro K U)|(apply si;intro A B Y Z)|(apply Y;clear Z B Y A)|(apply U;clear U K)|fail)<;>conv=>whnf)
    replace hs:=DN hs 1;refine Wb hs 0 1 rfl rfl (by simp;omega) hgr.1 hgr.2 fun w σ hs=>?_
    conv=>whnf
    repeat'((first|apply st|(apply Y;clear Z B Y A)|(apply U;clear U K)|fail)<;>conv=>whnf)
    exact hend hs
   ·conv=>whnf
    repeat'((first|apply st|(apply sq;intro K U)|(apply si;intro A B Y Z)|(apply Y;clear Z B Y A)|(apply U;clear U K)|fail)<;>conv=>whnf)
    replace hs:=DN hs 1;refine Wb hs 0 1 rfl rfl (by simp;omega) hgr.1 hgr.2 fun w σ hs=>?_
    conv=>whnf
    repeat'((first|apply st|(apply Y;clear Z B Y A)|(apply U;clear U K)|fail)<;>conv=>whnf)
    exact hend hs
  refine hcl.fe (Φ:=fun r=>r= .ret (.l (iL (B1 M c)) false)) hs hj' ?_;rintro r σ' rfl hs';exact hk σ' hs'
def jM (g:List (List Int)) (f:Bool) (c:Int) (hg:Dk g=true) (hc0:0≤c) (hc1:c<3+g.length) :
    Pure Tryz.prog 209 [.l (Ei g) f,eI c] (if((Bz g).getD c.toNat []).isEmpty then .t [.l [] true,eI 7]else .t [.l (iL ((Bz g).getD c.toNat [])) false,eI 0]):=by
 have hop:=dg g f true c hg hc0 hc1;refine ku kZ ?_;have hs:=Sn;have hM:=Mx;have hG:=Dr hg
 conv=>whnf
 repeat'((first|(apply sq;intro K U)|(apply si;intro A B Y Z)|(apply Y;clear Z B Y A)|(apply U;clear U K)|fail)<;>conv=>whnf)
 refine hop.use (rest:=[]) hs ?_;clear hs;rintro r post σ ⟨n,mm,vp,vu,us,M,rfl,rfl,hkn⟩ hs;rw[H3]at hs;have hol:=(Ka hG hkn c).1;have hor:=hkn.Y0 c hc0 (by omega);by_cases hne:B1 M c= []
 ·have hl0:(B1 M c).length=0:=by rw[hne];rfl
  conv=>whnf
  repeat'((first|apply st|(apply sq;intro K U)|(apply si;intro A B Y Z)|(apply Y;clear Z B Y A)|(apply U;clear U K)|refine⟨rfl,?_⟩|refine ld ?_|refine EM ?_|refine tR ?_|refine NY (fx:=_::_::_::_:: []) hs (by omega) ?_|(constructor<;>intro hc<;>(try rw[hc])<;>(replace hc:=bp hc)<;>try(exfalso;omega))|clear U K)<;>conv=>whnf)
  all_goals try(exfalso;omega)
  rw[←hor,hne];exact AI rfl
 ·have hl0:0<(B1 M c).length:=List.length_pos_iff.2 hne
  conv=>whnf
  repeat'((first|apply st|(apply sq;intro K U)|(apply si;intro A B Y Z)|(apply Y;clear Z B Y A)|(apply U;clear U K)|refine⟨rfl,?_⟩|refine ld ?_|refine EM ?_|refine tR ?_|refine NY (fx:=_::_::_::_:: []) hs (by omega) ?_|(constructor<;>intro hc<;>(try rw[hc])<;>(replace hc:=bp hc)<;>try(exfalso;omega))|fail)<;>conv=>whnf)
  all_goals try(exfalso;omega)
  refine mf (fx:=_::_::_::_:: []) hs (by omega) hne fun σ hs=>?_
  conv=>whnf
  repeat'((first|apply st|(apply Y;clear Z B Y A)|(apply U;clear U K)|fail)<;>conv=>whnf)
  rw[←hor]
  have:(B1 M c).isEmpty=false:=by
   cases h:(B1 M c).isEmpty
   ·rfl
   ·exact absurd (List.isEmpty_iff.1 h) hne
  rw[this];exact AI rfl
def bu (xs:List Int) (f:Bool):Pure Tryz.prog 175 [.l (iL xs) f] (.l (iL xs) false):=by
 refine Pure.fit (by kernel_rfl) fun hf=>?_
 have hxl:=Qm hf.1;have hM:=Mx;refine Zv kZ ?_;have hs:=Sn
 conv=>whnf
 repeat'((first|(apply sq;intro K U)|(apply si;intro A B Y Z)|(apply Y;clear Z B Y A)|(apply U;clear U K)|fail)<;>conv=>whnf)
 refine⟨fun e t=>?_,fun _=>?_⟩
 ·have hx:xs= []:=List.map_eq_nil_iff.1 e
  subst hx
  conv=>whnf
  repeat'((first|apply st|(apply sq;intro K U)|(apply si;intro A B Y Z)|(apply Y;clear Z B Y A)|(apply U;clear U K)|(constructor<;>intro hc<;>(try rw[hc])<;>(replace hc:=bp hc))|clear U K)<;>conv=>whnf)
  ·exact Bu Cc
  ·replace hs:=DN hs 1
   refine NF hs 0 (xs:=[]) (ys:=[]) rfl (by simp) Cs fun v σ hs=>?_
   conv=>whnf
   repeat'((first|apply st|(apply Y;clear Z B Y A)|(apply U;clear U K)|fail)<;>conv=>whnf)
   exact GA hs 0 rfl rfl
 ·conv=>whnf
  repeat'((first|apply st|(apply sq;intro K U)|(apply si;intro A B Y Z)|(apply Y;clear Z B Y A)|(apply U;clear U K)|fail)<;>conv=>whnf)
  replace hs:=DN hs 1;refine NF hs 0 (xs:=[]) (ys:=xs) rfl (by simp;omega) Cs fun v σ hs=>?_
  conv=>whnf
  repeat'((first|apply st|(apply Y;clear Z B Y A)|(apply U;clear U K)|fail)<;>conv=>whnf)
  exact GA hs 0 rfl rfl
def ib (c:Me):Pure Tryz.prog 174 [.a (E3 c)] (.l (iL c.parents) false):=by
 refine lM kZ ?_;have hs:=Sn
 conv=>whnf
 repeat'((first|apply st|(apply sq;intro K U)|(apply si;intro A B Y Z)|(apply Y;clear Z B Y A)|(apply U;clear U K)|refine Pure.use (bu _ _) ?_|fail)<;>conv=>whnf)
 exact AI rfl
def fA (xs:List (List Int)) (v:V) (hl:xs.length≤Ac):Bc Tryz.prog 216 [v] [.own v 1 (Ei xs)] fun r post=>r= .ret (.l (Ei xs) true)∧post= []:=by
 intro σ hs;have hg:=DV DQ xs;refine ke kZ ?_
 conv=>whnf
 repeat'((first|(apply sq;intro K U)|(apply si;intro A B Y Z)|(apply Y;clear Z B Y A)|(apply U;clear U K)|refine lo ?_|fail)<;>conv=>whnf)
 refine Vq (i:=0) hs rfl hg.1 (by simpa using hl) fun σ hs=>?_
 conv=>whnf
 repeat'((first|apply st|(apply Y;clear Z B Y A)|(apply U;clear U K)|fail)<;>conv=>whnf)
 exact Aq hs (List.Sublist.refl _) (.refl _) fun σ' hs'=>⟨_,⟨rfl,rfl⟩,hs'⟩
def NV (xs:List Int) (v:V) (hl:xs.length≤Ac):Bc Tryz.prog 99 [v] [.own v 1 (iL xs)] fun r post=>r= .ret (.l (iL xs) true)∧post= []:=by
 intro σ hs;have hg:=DV Cs xs;refine gD kZ ?_
 conv=>whnf
 repeat'((first|(apply sq;intro K U)|(apply si;intro A B Y Z)|(apply Y;clear Z B Y A)|(apply U;clear U K)|refine lo ?_|fail)<;>conv=>whnf)
 refine Vq (i:=0) hs rfl hg.1 (by simpa using hl) fun σ hs=>?_
 conv=>whnf
 repeat'((first|apply st|(apply Y;clear Z B Y A)|(apply U;clear U K)|fail)<;>conv=>whnf)
 exact Aq hs (List.Sublist.refl _) (.refl _) fun σ' hs'=>⟨_,⟨rfl,rfl⟩,hs'⟩
def eg (cs:List Me) (hl:cs.length≤1000000):Pure Tryz.prog 173 [.l (cs.map E3) false,.f (.func 174) [] []] (.l (Ei (cs.map (·.parents))) false):=by
 have hM:=Mx;refine lN kZ ?_;have hs:=Sn
 conv=>whnf
 repeat'((first|apply st|(apply sq;intro K U)|(apply si;intro A B Y Z)|(apply Y;clear Z B Y A)|(apply U;clear U K)|fail)<;>conv=>whnf)
 refine CZ cs.length (fun k v=>[(5,v),(10,eI (BH k))]) (fun k v=>[.own v 1 (Ei ((cs.take k).map (·.parents)))]) (fun _ _=>True) (.l [] true) rfl trivial (DN hs 1) ?_;clear hs;rintro k v σ hk - hs;rcases BM cs hk with⟨c,hc,hlt⟩|hke
 ·conv=>whnf
  repeat'((first|apply st|(apply sq;intro K U)|(apply si;intro A B Y Z)|(apply Y;clear Z B Y A)|(apply U;clear U K)|refine⟨rfl,?_⟩|refine⟨kZ,?_⟩|refine ix ?_|refine ld ?_|refine DT fun σ hs=>?_|(refine Cv (fun hc=>?_)<;>(try rw[hc])<;>clear hc)|(intro nn hnn;generalize hg:A7 _ nn _=σ;refine CY hg fun hs=>?_;clear hg)|fail)<;>conv=>whnf)
  refine Bk ((ib c).use ?_)
  conv=>whnf
  repeat'((first|(apply si;intro A B Y Z)|(apply Y;clear Z B Y A)|(apply U;clear U K)|refine⟨rfl,?_⟩|refine aq fun v σ hs hsl=>?_|clear U K)<;>conv=>whnf)
  exact⟨hlt,_,rfl,trivial,by rw[AX hc,Tu];exact hs.less (JR _ _)⟩
 ·rw[BC hke]at hs
  conv=>whnf
  repeat'((first|apply st|(apply sq;intro K U)|(apply si;intro A B Y Z)|(apply Y;clear Z B Y A)|(apply U;clear U K)|refine⟨rfl,?_⟩|(refine EI (fun hc=>?_)<;>(try rw[hc])<;>clear hc)|clear U K)<;>conv=>whnf)
  refine(fA (cs.map (·.parents)) v (by simp;omega)).use (rest:=[]) hs ?_;clear hs;rintro r post σ ⟨rfl,rfl⟩ hs
  conv=>whnf
  repeat'((first|apply st|(apply Y;clear Z B Y A)|(apply U;clear U K)|fail)<;>conv=>whnf)
  exact Bu L3
def Ki (p:Prog) (hk0:p.AL.length≤1000):Pure Tryz.prog 138 [.a (BN p)] (.l (Ei (Av p)) false):=by
 refine Pure.fit (by kernel_rfl) fun hf=>?_
 have F:=KC hf.1;refine mC kZ ?_;have hs:=Sn
 conv=>whnf
 repeat'((first|apply st|(apply sq;intro K U)|(apply si;intro A B Y Z)|(apply Y;clear Z B Y A)|(apply U;clear U K)|fail)<;>conv=>whnf)
 refine(eg p.AL (by omega)).use ?_
 conv=>whnf
 repeat'((first|apply st|(apply Y;clear Z B Y A)|(apply U;clear U K)|fail)<;>conv=>whnf)
 exact AI rfl
def SS (p:Prog) (hk0:p.AL.length≤1000) (hm:Bl p.AL≤Ac):Pure Tryz.prog 108 [.a (BN p)] (.a (BE (AR p))):=by
 refine Pure.fit (by kernel_rfl) fun hf=>?_
 have F:=KC hf.1;have hcl:=F.1;have hM:=Mx;refine mX kZ ?_;have hs:=Sn
 conv=>whnf
 repeat'((first|apply st|(apply sq;intro K U)|(apply si;intro A B Y Z)|(apply Y;clear Z B Y A)|(apply U;clear U K)|refine⟨kZ,?_⟩|refine DT fun σ hs=>?_|refine Pure.use (Ki _ hk0) ?_|(intro nn hnn;generalize hg:A7 _ nn _=σ;refine CY hg fun hs=>?_;clear hg)|fail)<;>conv=>whnf)
 rename_i n2 _ _ _ _ _
 rename Nat=>n3
 replace hs:Sat σ [.box n3 [.l (Ei (Av p)) false,.l [] true],.box n2 [.l [] true,.l [] true]]:=hs;refine CZ p.AL.length (fun k (_:V)=>[(12,eI (BH k))]) (fun k v=>[.own v 1 (iL (BQ 0 (p.AL.take k))),.box n3 [.l (Ei (Av p)) false,v],.box n2 [.l [] true,.l [] true]]) (fun _ _=>True) (.l [] true) rfl trivial (DN hs 1) ?_;clear hs;rintro k v σ hk - hs;rcases BM p.AL hk with⟨c,hc,hlt⟩|hke
 ·have hcm:=F.2 c (Cg hc)
  have htk:=OU hc;have hck:BH k=k:=AM (by omega)
  have hap:BQ 0 (p.AL.take (k+1))=BQ 0 (p.AL.take k)++List.replicate c.AP.length ((k:Int)+3):=by
   rw[AX hc,Fe];have:(p.AL.take k).length=k:=by simp;omega
   rw[this];simp[BQ]
  have hol:=CS 0 (p.AL.take k);have hw3:IntKind.i64.wrap (BH k+3)=(k:Int)+3:=by rw[hck,wrap64 (by omega) (by omega)]
  have hcs:=hcm.2.1;generalize BQ 0 (p.AL.take k)=os at *
  conv=>whnf
  repeat'((first|apply st|(apply sq;intro K U)|(apply si;intro A B Y Z)|(apply Y;clear Z B Y A)|(apply U;clear U K)|refine⟨rfl,?_⟩|refine⟨kZ,?_⟩|refine ix ?_|refine ld ?_|refine DT fun σ hs=>?_|(refine Cv (fun hc=>?_)<;>(try rw[hc])<;>clear hc)|(intro nn hnn;generalize hg:A7 _ nn _=σ;refine CY hg fun hs=>?_;clear hg)|fail)<;>conv=>whnf)
  refine CZ c.AP.length (fun j (_:V)=>[(20,eI (BH j))]) (fun j v=>[.own v 1 (iL (os++List.replicate j ((k:Int)+3))),.box n3 [.l (Ei (Av p)) false,v],.box n2 [.l [] true,.l [] true]]) (fun _ _=>True) v rfl trivial (by simpa using hs.less (JR _ _)) ?_;clear hs;rintro j v σ hj - hs;rcases BM c.AP hj with⟨s,hsl,hjlt⟩|hje
  ·have hsv0:=Fb hs 0 rfl
   conv=>whnf
   repeat'((first|apply st|(apply sq;intro K U)|(apply si;intro A B Y Z)|(apply Y;clear Z B Y A)|(apply U;clear U K)|refine⟨rfl,?_⟩|refine ld ?_|refine EV fun σ hs=>?_|refine aq fun v σ hs hsl=>?_|(refine Cv (fun hc=>?_)<;>(try rw[hc])<;>clear hc)|clear U K)<;>conv=>whnf)
   have hsv:=Fb hs 0 rfl
   conv=>whnf
   refine⟨hjlt,v,rfl,trivial,?_⟩;rw[List.replicate_succ',←T0];rw[hw3]at hs;exact hs
  ·conv=>whnf
   repeat'((first|apply st|(apply sq;intro K U)|(apply si;intro A B Y Z)|(apply Y;clear Z B Y A)|(apply U;clear U K)|refine⟨rfl,?_⟩|(refine EI (fun hc=>?_)<;>(try rw[hc])<;>clear hc)|clear U K)<;>conv=>whnf)
   exact⟨hlt,v,rfl,trivial,by rw[hap,←hje];exact hs⟩
 ·rw[BC hke]at hs
  have hsv:=Fb hs 0 rfl
  conv=>whnf
  repeat'((first|apply st|(apply sq;intro K U)|(apply si;intro A B Y Z)|(apply Y;clear Z B Y A)|(apply U;clear U K)|refine⟨rfl,?_⟩|refine⟨kZ,?_⟩|refine ld ?_|refine DT fun σ hs=>?_|(refine EI (fun hc=>?_)<;>(try rw[hc])<;>clear hc)|clear U K)<;>conv=>whnf)
  exact Bu (.a (.cons (.refl _) (.cons (hs.QU 0 rfl) .nil)))
end Go.Gl
namespace Go.Proofs
open Go.Shelf
def Tryz.TZ:Go.Shelf.Ren:=⟨fun|189=>135|125=>160|257=>159|128=>205|129=>206|294=>196|295=>197|296=>198|297=>199|298=>200|299=>201|216=>202|300=>203|301=>204|328=>243|329=>244|330=>245|331=>246|332=>247|215=>248|343=>268|n=>n,fun|28=>23|3=>3|46=>193|0=>0|51=>240|53=>182|4=>4|183=>233|182=>232|131=>237|5=>5|9=>9|218=>267|222=>215|228=>300|229=>301|n=>n,fun|n=>n⟩
def Tryz.dv:Go.Proofs.Lays.n189 Tryz.prog Tryz.TZ:={
 mixed:=by kernel_rfl
 f125:=Tryz.func160.trans (congrArg some (by kernel_rfl))
 f128:=Tryz.func205.trans (congrArg some (by kernel_rfl))
 f129:=Tryz.func206.trans (congrArg some (by kernel_rfl))
 f189:=Tryz.func135.trans (congrArg some (by kernel_rfl))
 f215:=Tryz.func248.trans (congrArg some (by kernel_rfl))
 f216:=Tryz.func202.trans (congrArg some (by kernel_rfl))
 f257:=Tryz.func159.trans (congrArg some (by kernel_rfl))
 f294:=Tryz.func196.trans (congrArg some (by kernel_rfl))
 f295:=Tryz.func197.trans (congrArg some (by kernel_rfl))
 f296:=Tryz.func198.trans (congrArg some (by kernel_rfl))
 f297:=Tryz.func199.trans (congrArg some (by kernel_rfl))
 f298:=Tryz.func200.trans (congrArg some (by kernel_rfl))
 f299:=Tryz.func201.trans (congrArg some (by kernel_rfl))
 f300:=Tryz.func203.trans (congrArg some (by kernel_rfl))
 f301:=Tryz.func204.trans (congrArg some (by kernel_rfl))
 f328:=Tryz.func243.trans (congrArg some (by kernel_rfl))
 f329:=Tryz.func244.trans (congrArg some (by kernel_rfl))
 f330:=Tryz.func245.trans (congrArg some (by kernel_rfl))
 f331:=Tryz.func246.trans (congrArg some (by kernel_rfl))
 f332:=Tryz.func247.trans (congrArg some (by kernel_rfl))
 f343:=Tryz.func268.trans (congrArg some (by kernel_rfl))
 t0:=Tryz.underlying0
 a0:=Tryz.isAgg0
 z0:=Tryz.sizeOf0
 v0:=Tryz.zeroValue0
 t3:=Tryz.underlying3
 a3:=Tryz.isAgg3
 z3:=Tryz.sizeOf3
 v3:=Tryz.zeroValue3
 t4:=Tryz.underlying4
 a4:=Tryz.isAgg4
 z4:=Tryz.sizeOf4
 v4:=Tryz.zeroValue4
 t5:=Tryz.underlying5
 a5:=Tryz.isAgg5
 z5:=Tryz.sizeOf5
 v5:=Tryz.zeroValue5
 t9:=Tryz.underlying9
 a9:=Tryz.isAgg9
 z9:=Tryz.sizeOf9
 v9:=Tryz.zeroValue9
 t28:=Tryz.underlying23
 a28:=Tryz.isAgg23
 z28:=Tryz.sizeOf23
 v28:=Tryz.zeroValue23
 t46:=Tryz.underlying193
 a46:=Tryz.isAgg193
 z46:=Tryz.sizeOf193
 v46:=Tryz.zeroValue193
 t51:=Tryz.underlying240
 a51:=Tryz.isAgg240
 z51:=Tryz.sizeOf240
 v51:=Tryz.zeroValue240
 t53:=Tryz.underlying182
 a53:=Tryz.isAgg182
 z53:=Tryz.sizeOf182
 v53:=Tryz.zeroValue182
 t131:=Tryz.underlying237
 a131:=Tryz.isAgg237
 z131:=Tryz.sizeOf237
 v131:=Tryz.zeroValue237
 t182:=Tryz.underlying232
 a182:=Tryz.isAgg232
 z182:=Tryz.sizeOf232
 v182:=Tryz.zeroValue232
 t183:=Tryz.underlying233
 a183:=Tryz.isAgg233
 z183:=Tryz.sizeOf233
 v183:=Tryz.zeroValue233
 t218:=Tryz.underlying267
 a218:=Tryz.isAgg267
 z218:=Tryz.sizeOf267
 v218:=Tryz.zeroValue267
 t222:=Tryz.underlying215
 a222:=Tryz.isAgg215
 z222:=Tryz.sizeOf215
 v222:=Tryz.zeroValue215
 t228:=Tryz.underlying300
 a228:=Tryz.isAgg300
 z228:=Tryz.sizeOf300
 v228:=Tryz.zeroValue300
 t229:=Tryz.underlying301
 a229:=Tryz.isAgg301
 z229:=Tryz.sizeOf301
 v229:=Tryz.zeroValue301}
end Go.Proofs
namespace Go.Gl
open Go.Proofs Go.Shelf
abbrev Gq (x y:Int):Bool:=decide (x≤y)
def aZ {P:Program} {f:FuncId} (hok:okF P f=true)
    (hc: ∀(blk cap:Nat) (zs:List Int) (w:World),Sort.Holds (Value.int .i64) w blk 0 zs.toArray→blk<w.heap.size→zs.length<4611686018427387904→
     Calls P f #[.slice (some ⟨blk,0,none⟩) zs.length cap] w fun e w'=>e= .returned (.tuple #[])∧ ∃n os,w'=Sort.grow (Sort.putRow (Value.int .i64) (Sort.ahead w n) blk 0 (zs.mergeSort fun x y=>decide (x≤y)).toArray) os)
    (xs:List Int) (n len cap:Nat):Bc P f [.sl n len cap] [.own (.sl n len cap) 1 (iL xs)] fun r post=>r= .ret (.t [])∧post= [.own (.sl n len cap) 1 (iL (xs.mergeSort Gq))]:=by
 intro σ hs;refine⟨hok,fun Λ w cs G hv=>?_⟩;rcases hs.get (i:=0) rfl with⟨h,_⟩|⟨n',cap',h,hn⟩
 ·cases h
 cases h;rw[BR]at hv;obtain⟨c,e,hb,h1,h2,h3,h4⟩:=Em G hn;rw[BR]at h2 h3;have hM:Ac=17592186044416:=rfl;rw[BG]at h4
 have hcell: ∀j x,xs[j]? =some x→c[j]? =some (Value.int .i64 x)∧IntKind.i64.min≤x∧x≤IntKind.i64.max:=fun j x hx=>by
  have:=(h4 j [.i .i64 x] (by rw[PF,hx];rfl)).2;simp only[BZ,Nat.mul_one,Gf]at this;obtain⟨⟨d,hd,hr⟩,_⟩:=this;simp only[AY]at hr;obtain⟨rfl,hr⟩:=hr;exact⟨hd,hr⟩
 have hcs:cs= #[.slice (some ⟨n,0,none⟩) xs.length cap]:=by
  obtain⟨hsz,hv⟩:=hv;simp only[BZ,AY]at hv;obtain⟨⟨d,hd,rfl,_⟩,_⟩:=hv;simp at hsz;apply Array.ext_getElem?;intro i;rcases i with _|i
  ·simpa using hd
  ·rw[Array.getElem?_eq_none (by omega),Array.getElem?_eq_none (by simp)]
 subst hcs
 have hH:Sort.Holds (Value.int .i64) w n 0 xs.toArray:=fun j hj=>by
  have hj':j<xs.length:=by simpa using hj
  obtain⟨h5,_⟩:=hcell j xs[j] (DZ hj');refine⟨?_,?_⟩
  ·rw[Gf,DR hb,h5]
   simp[getElem!_pos,hj']
  ·rw[Gf];exact OY hb
 refine(hc n cap xs w hH (G.lt hn) (by omega)).mono fun e' w' ⟨he,k,os,hw⟩=>?_
 subst he;have hlen:(xs.mergeSort Gq).length=xs.length:=List.length_mergeSort _
 have hheap: ∀m,m<w.heap.size→w'.heap[m]? =if m=n then some (.cells (Sort.putCells (Value.int .i64) 0 (xs.mergeSort Gq).toArray c) e (0,0))else w.heap[m]? :=fun m hm=>by
  rw[hw];simp only[Sort.grow,Sort.putRow,Sort.mapBlock,Sort.ahead];rw[Array.getElem?_append_left (by simpa using hm),Array.getElem?_modify];by_cases e1:n=m
  ·subst e1
   rw[if_pos rfl,if_pos rfl,hb];rfl
  ·rw[if_neg e1,if_neg (Ne.symm e1)]
 have hadv:Bw Λ σ w (A7 σ n (.arr 1 (iL (xs.mergeSort Gq)) cap)) w':=by
  refine⟨fun m hm h0=>?_,?_,by rw[hw];rfl,by rw[hw];rfl,by rw[hw];rfl,fun m h0 _=>?_⟩
  ·rw[hheap m hm,if_neg]
   intro e1;subst e1;rw[hn]at h0;cases h0
  ·rw[hw];simp[Sort.grow]
  ·rw[Ci _ _ (fun e1=>by subst e1;rw[hn]at h0;cases h0)];exact h0
 refine⟨.ret (.t []),A7 σ n (.arr 1 (iL (xs.mergeSort Gq)) cap),⟨_,⟨rfl,rfl⟩,?_⟩,?_,?_,hadv⟩
 ·refine⟨fun a ha=>?_,List.pairwise_singleton _ _⟩
  rw[K8.1 ha];exact .inr ⟨n,cap,by simp[hlen],DO _ _ _⟩
 ·exact⟨_,rfl,by simp[AY,BZ]⟩
 ·refine G.step hadv fun m o ho=>?_
  by_cases e1:m=n
  ·subst e1
   rw[DO]at ho;cases ho;refine .inr ⟨(G.own _ _ hn).1,_,(hheap m (G.lt hn)).trans (if_pos rfl),_,_,rfl,by simpa[Sort.putCells]using h1,by simpa[hlen]using h2,by simpa[hlen]using h3,?_⟩;rw[BG];intro i r hi;rw[PF]at hi;cases hx:(xs.mergeSort Gq)[i]? with
   | none=>rw[hx]at hi;cases hi
   | some x=>
     rw[hx]at hi;cases hi;have hil:i<xs.length:=by have:=(H4.1 hx).1;omega
     have hxm:x∈xs:=(List.mergeSort_perm xs Gq).mem_iff.1 (Cg hx);obtain⟨j,hj⟩:=List.getElem?_of_mem hxm;have hbd:=(hcell j x hj).2;obtain⟨hci,_⟩:=hcell i xs[i] (DZ hil);have hcl:i<c.size:=(fT.1 hci).1;refine⟨rfl,?_⟩;simp only[BZ,Nat.mul_one,Gf,AY,and_true];refine⟨_,?_,rfl,hbd⟩;simp only[Sort.putCells,Array.getElem?_mapIdx];rw[hci];have hxe:=(H4.1 hx).2;simp[hlen,hil,getElem!_pos,hxe]
  ·rw[Ci _ _ e1]at ho
   exact .inl ⟨ho,(hheap m (G.lt ho)).trans (if_neg e1)⟩
def dN (xs:List Int) (n len cap:Nat):Bc Tryz.prog 135 [.sl n len cap] [.own (.sl n len cap) 1 (iL xs)] fun r post=>r= .ret (.t [])∧post= [.own (.sl n len cap) 1 (iL (xs.mergeSort Gq))]:=
 aZ (by kernel_rfl) (fun blk cap zs w h1 h2 h3=>Any.slices_Sort_int Tryz.dv blk 0 cap zs w h1 h2 h3) xs n len cap
end Go.Gl
namespace Go.Gl
open Go.Proofs
attribute [local irreducible] BD Aw Ai AU AO Ah AV AW AN Ag AS AT Ay A9 Sat Ab A4 Aj W
def jO:Pure Tryz.prog 206 [.i .u64 0] (eI 0):=by
 refine ky kZ ?_;have hs:=Sn
 conv=>whnf
 repeat'((first|apply st|(apply sq;intro K U)|(apply si;intro A B Y Z)|(apply Y;clear Z B Y A)|(apply U;clear U K)|refine⟨rfl,?_⟩|(constructor<;>intro hc<;>(try rw[hc])<;>(replace hc:=bp hc)<;>try(exfalso;omega))|fail)<;>conv=>whnf)
 refine⟨by decide,?_⟩
 conv=>whnf
 repeat'((first|apply st|(apply Y;clear Z B Y A)|(apply U;clear U K)|refine⟨rfl,?_⟩|fail)<;>conv=>whnf)
 all_goals exact AI rfl
def jP:Pure Tryz.prog 160 [.i .u64 0] (eI 0):=by
 refine lZ kZ ?_;have hs:=Sn
 conv=>whnf
 repeat'((first|apply st|(apply sq;intro K U)|(apply si;intro A B Y Z)|(apply Y;clear Z B Y A)|(apply U;clear U K)|refine jO.use ?_|fail)<;>conv=>whnf)
 all_goals exact AI rfl
def jU:Pure Tryz.prog 196 [.l [] true,eI 0,eI 0] (.t []):=by
 refine kz kZ ?_;have hs:=Sn
 conv=>whnf
 repeat'((first|apply st|(apply sq;intro K U)|(apply si;intro A B Y Z)|(apply Y;clear Z B Y A)|(apply U;clear U K)|refine⟨rfl,?_⟩|fail)<;>conv=>whnf)
 refine Gh (fun(_:Unit)=>0) (fun _=>[(6,eI 1)]) (fun _=>[]) (fun _=>True) () rfl trivial hs ?_;clear hs;rintro - σ - hs
 conv=>whnf
 repeat'((first|apply st|(apply sq;intro K U)|(apply si;intro A B Y Z)|(apply Y;clear Z B Y A)|(apply U;clear U K)|refine⟨rfl,?_⟩|(constructor<;>intro hc<;>(try rw[hc])<;>(replace hc:=bp hc)<;>try(exfalso;omega))|clear U K)<;>conv=>whnf)
 all_goals exact AI rfl
def iX:Pure Tryz.prog 159 [.l [] true,eI 0,eI 0,eI 0] (.t []):=by
 refine la kZ ?_;have hs:=Sn
 conv=>whnf
 repeat'((first|apply st|(apply sq;intro K U)|(apply si;intro A B Y Z)|(apply Y;clear Z B Y A)|(apply U;clear U K)|fail)<;>conv=>whnf)
 refine Gh (fun(_:Unit)=>0) (fun _=>[]) (fun _=>[]) (fun _=>True) () rfl trivial hs ?_;clear hs;rintro - σ - hs
 conv=>whnf
 repeat'((first|apply st|(apply sq;intro K U)|(apply si;intro A B Y Z)|(apply Y;clear Z B Y A)|(apply U;clear U K)|refine⟨rfl,?_⟩|refine jU.use ?_|(constructor<;>intro hc<;>(try rw[hc])<;>(replace hc:=bp hc)<;>(try simp(disch:=omega) only[BR,wrap64,AM]at hc)<;>try(exfalso;omega))|clear U K)<;>conv=>whnf)
 all_goals exact AI rfl
def ae:Pure Tryz.prog 135 [.l [] true] (.t []):=by
 refine mF kZ ?_;have hs:=Sn
 conv=>whnf
 repeat'((first|apply st|(apply sq;intro K U)|(apply si;intro A B Y Z)|(apply Y;clear Z B Y A)|(apply U;clear U K)|refine jP.use ?_|refine iX.use ?_|fail)<;>conv=>whnf)
 all_goals exact AI rfl
def Y9 {xs:List Int} {v:V} (hv:(Cb v).isSome=true∨(v= .l [] true∧xs= [])):Bc Tryz.prog 135 [v] [.own v 1 (iL xs)] fun r post=>r= .ret (.t [])∧post= [.own v 1 (iL (xs.mergeSort Gq))]:=by
 rcases hv with hv|⟨rfl,rfl⟩
 ·obtain⟨n,l,c,rfl⟩:=nf hv
  exact dN xs n l c
 ·intro σ hs
  have:=ae.use (σ:=σ) (k:=fun v σ'=>v= .t []∧σ'=σ) (kp:=fun _ _=>False) ⟨rfl,rfl⟩;refine BD.mono this ?_;rintro(u|u) σ' hq
  ·obtain⟨rfl,rfl⟩:=hq
   exact⟨_,⟨rfl,rfl⟩,by simpa using hs⟩
  ·exact hq.elim
def Te {b:Nat} {σ:AH} {sz:Nat} {v:V} {ys:List (List V)} {f:Bool} {K:V→AH→Prop} (h:AO b σ sz v (.l ys f) fun v' σ'=>((Cb v').isSome=true∨(v'=v∧ys= []))→K v' σ'):AO b σ sz v (.l ys f) K:=by
 unfold AO at *;obtain⟨h1,h2,h3⟩:=h;refine⟨h1,h2,?_⟩;cases v with
 | l es full=>exact⟨h3.1,h3.2.1,fun e=>h3.2.2.1 e (.inr ⟨rfl,e⟩),fun e=>⟨(h3.2.2.2 e).1,fun n cap hn hc=>(h3.2.2.2 e).2 n cap hn hc (.inl rfl)⟩⟩
 | sl n len cap=>
   simp only at h3 ⊢;split at h3
   ·exact⟨h3.1,h3.2.1,h3.2.2.1,h3.2.2.2.1,fun n' cap' hn hc=>h3.2.2.2.2 n' cap' hn hc (.inl rfl)⟩
   ·exact h3.elim
 | _=>exact h3.elim
def QT (M:List Int):List (V×V):=M.map fun k=>(eI k,.b true)
def Mz (M:List Int) (k:Int):List Int:=if M.contains k then M else M++[k]
def Sr (M:List Int) (k b:Int):(Mz M k).contains b=(M.contains b||b==k):=by
 unfold Mz;split
 ·rename_i h
  by_cases hb:b=k
  ·subst hb;simpa using h
  ·have:(b==k)=false:=by simpa using hb
   rw[this,Bool.or_false]
 ·simp[List.contains_append]
  rfl
def WO (M:List Int) (k:Int):ED (eI k) (.b true) (QT M)=QT (Mz M k):=by
 induction M with
 | nil=>rfl
 | cons x r ih=>
   simp only[QT,EA,ED]at *;have he:EF (eI k) (eI x)=(k==x):=rfl;rw[he];cases hx:k==x
   ·rw[cond_false,ih]
    unfold Mz;have:(x::r).contains k=r.contains k:=by rw[List.contains_cons,hx,Bool.false_or]
    rw[this];split<;>simp
   ·rw[cond_true]
    have hk:k=x:=by simpa using hx
    subst hk;unfold Mz;simp
def Kf (M:List Int) (k:Int):found (.b false) false (C9 (eI k) (QT M))= .b (M.contains k):=by
 induction M with
 | nil=>rfl
 | cons x r ih=>
   simp only[QT,EA,C9]at *;have he:EF (eI k) (eI x)=(k==x):=rfl;rw[he,List.contains_cons];cases k==x
   ·simpa using ih
   ·rfl
def HA (M:List Int): ∀kv∈QT M,Bo (.i .i64) kv.1=true:=by
 intro kv h;obtain⟨e,_,rfl⟩:=Ls.1 h;rfl
def vN {σ:AH} {l:List At} {i mm:Nat} {M:List Int} {k:Int} {K:V→Prop} (hk:K (.b (M.contains k))) (h:Sat σ l:=by assumption)
    (hi:l[i]? =some (.map mm (QT M)):=by first|exact Rq|exact Rp|exact Ro|exact Rn|exact Rm|exact Rl):AS σ (.i .i64) (.b false) false (.m mm) (eI k) K:=
 Io h i hi rfl (HA M) (by rw[Kf];exact hk)
def tQ {σ:AH} {l:List At} {i mm:Nat} {M:List Int} {k:Int} {K:AH→Prop} (hk: ∀σ',Sat σ' (l.set i (.map mm (QT (Mz M k))))→K σ') (h:Sat σ l:=by assumption)
    (hi:l[i]? =some (.map mm (QT M)):=by first|exact Rq|exact Rp|exact Ro|exact Rn|exact Rm|exact Rl):AT σ (.i .i64) (.m mm) (eI k) (.b true) K:=
 Ha h i hi rfl (HA M) (fun σ' hs=>hk σ' (by rw[WO]at hs;exact hs))
def IQ (p:Prog) (c:Nat):Me:=p.AL.getD (c - 3) default
def D5 (p:Prog) (c:Nat):Nat→List Int
 | 0=>[]
 | k+1=>if IC (Av p) c (c - k)then D5 p c k++(IQ p (c - k)).AP else D5 p c k
def iY {ps:List (List Int)} (ho:ordered ps) {n c:Nat} (hc:c<n) (k:Nat): ∀p∈par ps (c - k),0≤p∧p.toNat<(Gs ps n c k).length∧p.toNat<c - k:=fun p hp=>by
 have:=ho _ _ hp;rw[KI];omega
def SZ {ps:List (List Int)} (ho:ordered ps) {n c:Nat} (hc:c<n) (k b:Nat):(Gs ps n c (k+1)).getD b false=((Gs ps n c k).getD b false||((Gs ps n c k).getD (c - k) false&&(par ps (c - k)).contains (b:Int))):=by
 rw[Gs,Lh _ _ (iY ho hc k)]
def Sa {ps:List (List Int)} (ho:ordered ps) {n c:Nat} (hc:c<n) (k:Nat): ∀(m:Nat) (b:Nat),c - k≤b→(Gs ps n c (k+m)).getD b false=(Gs ps n c k).getD b false
 | 0,_,_=>rfl
 | m + 1,b,h=>by
   rw[←Nat.add_assoc,SZ ho hc,Sa ho hc k m b h]
   have:(par ps (c - (k+m))).contains (b:Int)=false:=by
    cases hb:(par ps (c - (k+m))).contains (b:Int)
    ·rfl
    ·have:=ho _ _ (List.contains_iff_mem.1 hb)
     omega
   rw[this,Bool.and_false,Bool.or_false]
def ZR {ps:List (List Int)} (ho:ordered ps) {n c:Nat} (hc:c<n) {k:Nat} (hk:k≤c - 2):(Gs ps n c k).getD (c - k) false=IC ps c (c - k):=by
 rw[←Vw ho hc (c - k),←Sa ho hc k (c - 2 - k) (c - k) (IE _)];congr 2;omega
def OZ (b:Int): ∀(l M:List Int),(l.foldl Mz M).contains b=(M.contains b||l.contains b)
 | [],M=>by simp
 | x::r,M=>by
   rw[List.foldl_cons,OZ b r,Sr,List.contains_cons,Bool.or_assoc]
def gx {σ:AH} {l:List At} {i mm:Nat} {M:List Int} {k:Int} {b:Bool} {K:V→Prop} (e:M.contains k=b) (hk:K (.b b)) (h:Sat σ l:=by assumption)
    (hi:l[i]? =some (.map mm (QT M)):=by first|exact Rq|exact Rp|exact Ro|exact Rn|exact Rm|exact Rl):AS σ (.i .i64) (.b false) false (.m mm) (eI k) K:=vN (e ▸ hk) h hi
def jV (p : Prog) (c:Nat) (h10:p.AL.length≤10) (hsl:Cj 0 p.AL=true) (hg:Dk (Av p)=true) (hc3:3≤c) (hc:c<3+p.AL.length) :
    Pure Tryz.prog 210 [.a (BN p),eI c] (.l (iL ((D5 p c (c - 2)).mergeSort Gq)) false):=by
 refine Pure.fit (by kernel_rfl) fun hf=>?_
 have F:=KC hf.1;have hM:=Mx;have hG:=Dr hg;have ho:=Iy hG;have hgl:(Av p).length=p.AL.length:=by simp[Av]
 refine kr kZ ?_;have hs:=Sn
 conv=>whnf
 repeat'((first|(apply sq;intro K U)|(apply si;intro A B Y Z)|(apply Y;clear Z B Y A)|(apply U;clear U K)|(intro nn hnn;generalize hg:A7 _ nn _=σ;refine CY hg fun hs=>?_;clear hg)|fail)<;>conv=>whnf)
 replace hs:Sat σ [.map nn (QT [])]:=hs
 conv=>whnf
 repeat'((first|apply st|(apply sq;intro K U)|(apply si;intro A B Y Z)|(apply Y;clear Z B Y A)|(apply U;clear U K)|refine tQ (fun σ hs=>?_)|fail)<;>conv=>whnf)
 generalize nn=mm at *;replace hs:Sat σ [.map mm (QT [(c:Int)])]:=hs
 refine CZ (c - 2) (fun k (x:List Int×V)=>[(6,x.2),(7,eI ((c:Int) - k))]) (fun k x=>[.own x.2 1 (iL (D5 p c k)),.map mm (QT x.1)])
  (fun k x=>(∀b:Nat,b<3+(Av p).length→x.1.contains (b:Int)=(Gs (Av p) (3+(Av p).length) c k).getD b false)∧((Cb x.2).isSome=true∨(x.2= .l [] true∧D5 p c k= []))∧(D5 p c k).length≤4*k) ([(c:Int)],.l [] true) ?_ ⟨?_,.inr ⟨rfl,rfl⟩,by simp[D5]⟩ (DN hs 1) ?_
 ·simp[My,get]
  exact⟨rfl,rfl,rfl⟩
 ·intro b hb
  simp only[Gs];rw[Ep (by simp;omega)];by_cases hbc:b=c
  ·subst hbc;simp
  ·rw[if_neg hbc]
   have:((c:Int)==(b:Int))=false:=by simp;omega
   simp[DS,List.getElem?_replicate];split<;>simp<;>omega
 clear hs;rintro k ⟨M,v⟩ σ hk ⟨hMb,hv,hml⟩ hs;dsimp only at hMb hv hs;rcases Nat.lt_or_ge k (c - 2)with hlt|hge
 ·have hkc:M.contains ((c:Int) - k)=IC (Av p) c (c - k):=by
   have:=hMb (c - k) (by omega);rw[ZR ho (by omega) (by omega)]at this;rw[←this];congr 1;omega
  have hcl:p.AL[(IntKind.i64.wrap ((c:Int) - k - 3)).toNat]? =some (IQ p (c - k)):=by
   rw[wrap64 (by omega) (by omega),show((c:Int) - k - 3).toNat=c - k - 3 by omega,IQ,DS,DZ (by omega)];rfl
  have hwi:0≤IntKind.i64.wrap ((c:Int) - k - 3):=by rw[wrap64 (by omega) (by omega)];omega
  have hw1:IntKind.i64.wrap ((c:Int) - k - 1)=(c:Int) - (k+1:Nat):=by rw[wrap64 (by omega) (by omega)];omega
  have hmt:D5 p c (k+1)=if IC (Av p) c (c - k)then D5 p c k++(IQ p (c - k)).AP else D5 p c k:=rfl
  have hpar:(IQ p (c - k)).parents=par (Av p) (c - k):=by
   unfold par IQ Av;rw[if_neg (by omega),DS,DS,PF,DZ (by omega)];rfl
  have hcm:=F.2 _ (Cg hcl);have hs4:=((E8 _ _ hsl).2 _ (Cg hcl)).2;have hst:=fun b=>SZ ho (show c<3+(Av p).length by omega) k b
  rw[ZR ho (by omega) (by omega),←hpar]at hst;generalize IQ p (c - k)=cl at *;cases hb:IC (Av p) c (c - k)
  ·rw[hb]at hkc hmt hst
   rw[if_neg (by decide)]at hmt
   conv=>whnf
   repeat'((first|apply st|(apply sq;intro K U)|(apply si;intro A B Y Z)|(apply Y;clear Z B Y A)|(apply U;clear U K)|refine⟨rfl,?_⟩|refine gx hkc ?_|(constructor<;>intro hc<;>(try rw[hc])<;>(replace hc:=bp hc)<;>try(exfalso;omega))|clear U K)<;>conv=>whnf)
   all_goals try(exfalso;omega)
   rw[hw1];exact⟨hlt,(M,v),rfl,⟨fun b hb=>by rw[hMb b hb,hst b];simp,by rw[hmt];exact hv,by rw[hmt];omega⟩,by rw[hmt];exact hs⟩
  ·rw [hb] at hkc hmt hst
   rw[if_pos rfl]at hmt
   conv=>whnf
   repeat'((first|apply st|(apply sq;intro K U)|(apply si;intro A B Y Z)|(apply Y;clear Z B Y A)|(apply U;clear U K)|refine⟨rfl,?_⟩|refine ID ?_|refine gx hkc ?_|(constructor<;>intro hc<;>(try rw[hc])<;>(replace hc:=bp hc)<;>try(exfalso;omega))|fail)<;>conv=>whnf)
   all_goals try(exfalso;omega)
   refine Te (NF hs 0 rfl (by omega) Cs fun v' σ hs hv'=>?_);rw[←hmt]at hs
   conv=>whnf
   repeat'((first|apply st|(apply sq;intro K U)|(apply si;intro A B Y Z)|(apply Y;clear Z B Y A)|(apply U;clear U K)|refine⟨rfl,?_⟩|refine ID ?_|fail)<;>conv=>whnf)
   refine CZ cl.parents.length (fun j (_:List Int)=>[(38,eI (BH j))]) (fun _ M=>[.own v' 1 (iL (D5 p c (k+1))),.map mm (QT M)]) (fun j M'=>M'=(cl.parents.take j).foldl Mz M) M rfl rfl hs ?_;clear hs;rintro j M' σ hj hM' hs;rcases BM cl.parents hj with⟨q,hq,hjlt⟩|hje
   ·conv=>whnf
    repeat'((first|apply st|(apply sq;intro K U)|(apply si;intro A B Y Z)|(apply Y;clear Z B Y A)|(apply U;clear U K)|refine⟨rfl,?_⟩|refine ix ?_|(refine Cv (fun hc=>?_)<;>(try rw[hc])<;>clear hc)|refine tQ (fun σ hs=>?_)|clear U K)<;>conv=>whnf)
    exact⟨hjlt,_,rfl,by rw[AX hq,List.foldl_append,←hM'];rfl,hs⟩
   ·rw [BC hje]at hM'
    conv=>whnf
    repeat'((first|apply st|(apply sq;intro K U)|(apply si;intro A B Y Z)|(apply Y;clear Z B Y A)|(apply U;clear U K)|refine⟨rfl,?_⟩|(refine EI (fun hc=>?_)<;>(try rw[hc])<;>clear hc)|clear U K)<;>conv=>whnf)
    rw[hw1];refine⟨hlt,(M',v'),rfl,⟨fun b hb=>?_,?_,?_⟩,hs⟩
    ·rw[hM',OZ,hMb b hb,hst b,Ev]
    ·rcases hv' with hv'|⟨rfl,he⟩
     ·exact .inl hv'
     ·rcases hv with hv|⟨hv,hm0⟩
      ·exact .inl hv
      ·refine .inr ⟨hv,?_⟩
       rw[hmt,hm0,List.map_eq_nil_iff.1 he];rfl
    ·rw[hmt,QP];omega
 ·have hkk:k=c - 2:=by omega
  rw[hkk]at hs hv hml;clear hMb
  conv=>whnf
  repeat'((first|apply st|(apply sq;intro K U)|(apply si;intro A B Y Z)|(apply Y;clear Z B Y A)|(apply U;clear U K)|refine⟨rfl,?_⟩|(constructor<;>intro hc<;>(try rw[hc])<;>(replace hc:=bp hc)<;>try(exfalso;omega))|clear U K)<;>conv=>whnf)
  all_goals try(exfalso;omega)
  refine(Y9 hv).use (rest:=[_]) hs ?_;clear hs;rintro r post σ ⟨rfl,rfl⟩ hs
  conv=>whnf
  repeat'((first|(apply sq;intro K U)|(apply si;intro A B Y Z)|(apply Y;clear Z B Y A)|(apply U;clear U K)|fail)<;>conv=>whnf)
  refine(NV _ v (by rw[List.length_mergeSort];omega)).use (rest:=[_]) hs ?_;clear hs;rintro r post σ ⟨rfl,rfl⟩ hs
  conv=>whnf
  repeat'((first|apply st|(apply Y;clear Z B Y A)|(apply U;clear U K)|fail)<;>conv=>whnf)
  exact Bu L3
def OP {p : Prog} {c:Nat} (s:Int): ∀k,s∈D5 p c k↔ ∃j,j<k∧IC (Av p) c (c - j)=true∧s∈(IQ p (c - j)).AP
 | 0=>by simp[D5]
 | k + 1 =>by
   rw[D5];have ih:=OP (p:=p) (c:=c) s k;constructor
   ·intro h
    split at h
    ·rename_i hu
     rcases FX.1 h with h|h
     ·obtain⟨j,h1,h2⟩:=ih.1 h
      exact⟨j,by omega,h2⟩
     ·exact⟨k,by omega,hu,h⟩
    ·obtain⟨j,h1,h2⟩:=ih.1 h
     exact⟨j,by omega,h2⟩
   ·rintro⟨j,h1,h2,h3⟩
    by_cases hj:j=k
    ·subst hj
     rw[if_pos h2];exact FX.2 (.inr h3)
    ·have:=ih.2 ⟨j,by omega,h2,h3⟩
     split
     ·exact FX.2 (.inl this)
     ·exact this
def Sj: ∀(l:List Int) (n s:Int),J3 n l=true→(s∈l↔n≤s∧s<n+l.length)
 | [],n,s,_=>by simp<;>omega
 | x::r,n,s,h=>by
   simp only[J3,BV,Du]at h;obtain⟨rfl,h⟩:=h;have:=Sj r (x+1) s h;rw[FE,this,Lt];omega
def Pj: ∀(cs:List Me) (i:Nat) (n s:Int),Cj n cs=true→0≤n→ ∀(j:Nat) (c:Me),cs[j]? =some c→(s∈c.AP↔n≤s∧s<n+(Bl cs:Int)∧(BQ i cs).getD (s - n).toNat 0=((i+j:Nat):Int)+3)
 | [],_,_,_,_,_,_,_,h=>by cases h
 | d ::r,i,n,s,h,h0,j,c,hj=>by
   simp only[Cj,BV,CL]at h;obtain⟨-,-,hq,hr⟩:=h;have hm:=Sj d.AP n s hq;have hml:(Bl (d::r):Int)=d.AP.length+Bl r:=by simp[Bl]
   have hgd:n≤s→(BQ i (d::r)).getD (s - n).toNat 0=if s<n+d.AP.length then(i:Int)+3 else(BQ (i+1) r).getD (s - (n+d.AP.length)).toNat 0:=fun hns=>by
    simp only[BQ,DS];split
    ·rw[cd (by simp;omega),List.getElem?_replicate,if_pos (by omega)]
     rfl
    ·rw[List.getElem?_append_right (by simp;omega)]
     congr 2;simp;omega
   have hout: ∀q,q∈BQ (i+1) r→(3:Int)+((i+1:Nat):Int)≤q:=fun q hq=>(Fq hq).1
   cases j with
   | zero=>
     simp at hj;subst hj;rw[hm,hml];constructor
     ·rintro⟨h1,h2⟩
      refine⟨h1,by omega,?_⟩;rw[hgd h1,if_pos h2];simp
     ·rintro⟨h1,h2,h3⟩
      refine⟨h1,?_⟩;rw[hgd h1]at h3;by_cases hlt:s<n+d.AP.length
      ·exact hlt
      ·rw[if_neg hlt,DS]at h3
       have hlen:(s - (n+d.AP.length)).toNat<(BQ (i+1) r).length:=by rw[CS];omega
       rw[DZ hlen]at h3;have:=hout _ (List.getElem_mem hlen);simp at h3;omega
   | succ j=>
     simp at hj;have ih:=Pj r (i+1) (n+d.AP.length) s hr (by omega) j c hj;rw[ih,hml];constructor
     ·rintro⟨h1,h2,h3⟩
      refine⟨by omega,by omega,?_⟩;rw[hgd (by omega),if_neg (by omega),h3];omega
     ·rintro⟨h1,h2,h3⟩
      rw[hgd h1]at h3;by_cases hlt:s<n+d.AP.length
      ·rw[if_pos hlt]at h3;omega
      ·rw[if_neg hlt]at h3
       exact⟨by omega,by omega,by rw[h3];omega⟩
def bF {p:Prog} {c:Nat} (hsl:Cj 0 p.AL=true) (ho:ordered (Av p)) (hc3:3≤c) (hc:c<3+p.AL.length) (s:Int) :
    ((D5 p c (c - 2)).mergeSort Gq).contains s=(decide (0≤s)&&(decide (s<(Bl p.AL:Int))&&hasB (AR p) (c:Int) s)):=by
 rw[K5,List.contains_iff_mem,(List.mergeSort_perm _ Gq).mem_iff,OP];simp only[BV,CL,hasB]
 have hown: ∀j,j<c - 2→(s∈(IQ p (c - j)).AP↔0≤s∧s<(Bl p.AL:Int)∧CA (AR p) s=((c - j:Nat):Int)):=fun j hj=>by
  have hcl:p.AL[c - j - 3]? =some (IQ p (c - j)):=by
   rw[IQ,DS,DZ (by omega)];rfl
  have:=Pj p.AL 0 0 s hsl (by omega) (c - j - 3) _ hcl;rw[this];simp only[Int.sub_zero,Int.zero_add,CA,AR];constructor
  ·rintro⟨h1,h2,h3⟩;exact⟨h1,h2,by rw[h3];omega⟩
  ·rintro⟨h1,h2,h3⟩;exact⟨h1,h2,by rw[h3];omega⟩
 constructor
 ·rintro⟨j,h1,h2,h3⟩
  obtain⟨h4,h5,h6⟩:=(hown j h1).1 h3;refine⟨h4,h5,by omega,?_⟩;rw[h6];simp only[I9,Fj,BV,CL];exact .inr (.inr ⟨by omega,by simpa[AR]using h2⟩)
 ·rintro⟨h1,h2,h3,h4⟩
  have hmem:CA (AR p) s∈BQ 0 p.AL:=by
   have hlen:s.toNat<(BQ 0 p.AL).length:=by rw[CS];omega
   have:CA (AR p) s=(BQ 0 p.AL)[s.toNat]:=by
    simp only[CA,AR,DS,DZ hlen];rfl
   rw[this];exact List.getElem_mem hlen
  have hb:=Fq hmem
  have hup:IC (Av p) c (CA (AR p) s).toNat=true:=by
   simp only[I9,Fj,BV,CL,Du]at h4;rcases h4 with h4|h4|⟨_,h4⟩
   ·rw[←h4,Jz];exact FQ ho c
   ·omega
   ·simpa[AR]using h4
  have hle:=UH ho _ _ hup;refine⟨c - (CA (AR p) s).toNat,by omega,?_,?_⟩
  ·rw[show c - (c - (CA (AR p) s).toNat)=(CA (AR p) s).toNat by omega]
   exact hup
  ·refine(hown _ (by omega)).2 ⟨h1,h2,by omega⟩
def bE {σ:AH}:BD Tryz.prog 164 [.b false] σ fun r σ'=>r= .Cw Dn∧σ'=σ:=by
 refine Zw kZ ?_
 conv=>whnf
 repeat'((first|apply st|(apply sq;intro K U)|(apply si;intro A B Y Z)|(apply Y;clear Z B Y A)|(refine Z _ _ _ ?_;clear Z B Y A)|(apply U;clear U K)|refine FI ?_|fail)<;>conv=>whnf)
 exact DI ⟨rfl,rfl⟩
def Cn {x:Bool} {σ:AH} {k kp:V→AH→Prop} (h1:x=true→k (.t []) σ) (h2:x=false→kp Dn σ):BD Tryz.prog 164 [.b x] σ (qk k kp):=by
 cases x
 ·refine BD.mono bE ?_
  rintro r σ' ⟨rfl,rfl⟩;exact h2 rfl
 ·exact bD.use (h1 rfl)
def Fc:Int→List Me→Bool
 | _,[]=>true
 | n,c::r=>decide (c.AP.length≤4)&&(J3 n c.AP&&Fc (n+c.AP.length) r)
def Nf: ∀(cs:List Me) (n:Int),Cj n cs=(Fc n cs&&cs.all fun c=>decide (c.parents.length≤3))
 | [],_=>rfl
 | c::r,n=>by
   simp only[Cj,Fc,Rs];rw[Nf r];cases decide (c.AP.length≤4)<;>cases decide (c.parents.length≤3)<;>cases J3 n c.AP<;>simp
def Pa: ∀(cs:List Me) (n:Int),Fc n cs=true→Bl cs≤4*cs.length
 | [],_,_=>IE _
 | c::r,n,h=>by
   simp only[Fc,BV,CL]at h;have:=Pa r _ h.2.2;simp only[Bl,EA,List.sum_cons,Lt]at *;omega
def S6 {p:Prog} (h:Dk (Av p)=true):(p.AL.all fun c=>decide (c.parents.length≤3))=true:=by
 rw[EL];intro c hc;obtain⟨i,hi⟩:=List.getElem?_of_mem hc;have:=(Dr h).2 i c.parents (by rw[Av,PF,hi];rfl);exact decide_eq_true this.1
def Oj (p:Prog):A2 p=(decide (p.AL.length≤10)&&(Fc 0 p.AL&&((Bl p.AL:Int)==p.AP&&(Dk (Av p)&&FN (AR p) (Bl p.AL) 0 p.AL)))):=by
 rw[A2,Nf];cases hg:Dk (Av p)
 ·simp
 ·rw[S6 hg,Bool.and_true]
abbrev nU (p:Prog):R→AH→Prop:=fun r σ'=> ∃post:List At,(r=(if A2 p then R.ret (.t [])else R.Cw Dn)∧post= [])∧Sat σ' post
def UB {p:Prog} {σ:AH} (h:A2 p=false):Ai σ Dn (nU p):=DI ⟨_,⟨by rw[h];rfl,rfl⟩,Sat.nil⟩
def tl {p:Prog} {σ:AH} {l:List At} (hs:Sat σ l) (h:A2 p=true):Aw σ (.t []) (nU p):=Aq hs (Lr _) (.refl _) fun σ' hs'=>⟨_,⟨by rw[h];rfl,rfl⟩,hs'⟩
set_option maxHeartbeats 4000000 in
def VX (p : Prog):Bc Tryz.prog 163 [.a (BN p)] [] fun r post=>r=(if A2 p then R.ret (.t [])else R.Cw Dn)∧post= []:=by
 intro σ hs;refine BD.fit (by kernel_rfl) fun hf=>?_
 have F:=KC hf.1;have hcl:=F.1;have hM:=Mx;refine lW kZ ?_;have hcb:=Oj p;by_cases h10:p.AL.length≤10
 rotate_left
 ·conv=>whnf
  repeat'((first|apply st|(apply sq;intro K U)|(apply si;intro A B Y Z)|(apply Y;clear Z B Y A)|(refine Z _ _ _ ?_;clear Z B Y A)|(apply U;clear U K)|refine⟨rfl,?_⟩|(refine Cn (fun hc=>?_) (fun hc=>?_)<;>(replace hc:=bp hc)<;>(try simp(disch:=omega) only[BR,wrap64,AM]at hc)<;>(try(exfalso;omega)))|clear U K)<;>conv=>whnf)
  all_goals try(exfalso;omega)
  exact UB (by rw[hcb];simp[h10])
 rw[decide_eq_true h10,Ev]at hcb
 conv=>whnf
 repeat'((first|apply st|(apply sq;intro K U)|(apply si;intro A B Y Z)|(apply Y;clear Z B Y A)|(apply U;clear U K)|refine⟨rfl,?_⟩|(refine Cn (fun hc=>?_) (fun hc=>?_)<;>(replace hc:=bp hc)<;>(try simp(disch:=omega) only[BR,wrap64,AM]at hc)<;>(try(exfalso;omega)))|fail)<;>conv=>whnf)
 all_goals try(exfalso;omega)
 refine CZ p.AL.length (fun k (n:Int)=>[(2,eI n),(24,eI (BH k))]) (fun _ _=>[]) (fun k n=>Fc 0 p.AL=Fc n (p.AL.drop k)∧0≤n∧n+Bl (p.AL.drop k)=Bl p.AL∧n≤4*k) 0 rfl (by simp) hs ?_;clear hs;rintro k n σ hk ⟨hn,hn0,hn1,hn2⟩ hs;rcases BM p.AL hk with⟨c,hc,hlt⟩|hke
 ·have hcm:=(F.2 c (Cg hc)).2.1
  have hms:n+(c.AP.length:Int)+Bl (p.AL.drop (k+1))=Bl p.AL:=by
   rw[drop_cons hc]at hn1;simp only[Bl,EA,List.sum_cons]at hn1 ⊢;omega
  rw[drop_cons hc,Fc]at hn;by_cases h4:c.AP.length≤4
  ·rw [decide_eq_true h4,Ev]at hn
   conv=>whnf
   repeat'((first|apply st|(apply sq;intro K U)|(apply si;intro A B Y Z)|(apply Y;clear Z B Y A)|(apply U;clear U K)|refine⟨rfl,?_⟩|refine⟨kZ,?_⟩|refine ix ?_|refine ld ?_|refine DT fun σ hs=>?_|(refine Cv (fun hc=>?_)<;>(try rw[hc])<;>clear hc)|(refine Cn (fun hc=>?_) (fun hc=>?_)<;>(replace hc:=bp hc)<;>(try simp(disch:=omega) only[BR,wrap64,AM]at hc)<;>(try(exfalso;omega)))|(intro nn hnn;generalize hg:A7 _ nn _=σ;refine CY hg fun hs=>?_;clear hg)|fail)<;>conv=>whnf)
   all_goals try(exfalso;omega)
   refine CZ c.AP.length (fun j (m:Int)=>[(2,eI m),(36,eI (BH j))]) (fun _ _=>[]) (fun j m=>Fc 0 p.AL=(J3 m (c.AP.drop j)&&Fc (n+c.AP.length) (p.AL.drop (k+1)))∧m=n+j) n rfl ⟨hn,by simp⟩ (hs.take 0) ?_;clear hs hn;rintro j m σ hj ⟨hm,he⟩ hs;rcases BM c.AP hj with⟨x,hx,hjlt⟩|hje
   ·rw[drop_cons hx,J3]at hm
    conv=>whnf
    repeat'((first|apply st|(apply sq;intro K U)|(apply si;intro A B Y Z)|(apply Y;clear Z B Y A)|(refine Z _ _ _ ?_;clear Z B Y A)|(apply U;clear U K)|refine⟨rfl,?_⟩|refine ix ?_|(refine Cv (fun hc=>?_)<;>(try rw[hc])<;>clear hc)|(refine Cn (fun hc=>?_) (fun hc=>?_)<;>(replace hc:=bp hc))|clear U K)<;>conv=>whnf)
    ·rw[wrap64 (by omega) (by omega)]
     rw[hc,beq_self_eq_true,Ev]at hm;exact⟨hjlt,_,rfl,⟨by rw[←hc];rw[←hc]at hm;exact hm,by omega⟩,hs⟩
    ·exact UB (by rw[hcb,hm];simp[hc])
   ·rw[Ap hje,J3,Ev]at hm
    conv=>whnf
    repeat'((first|apply st|(apply sq;intro K U)|(apply si;intro A B Y Z)|(apply Y;clear Z B Y A)|(apply U;clear U K)|refine⟨rfl,?_⟩|(refine EI (fun hc=>?_)<;>(try rw[hc])<;>clear hc)|clear U K)<;>conv=>whnf)
    exact⟨hlt,m,rfl,⟨by rw[hm];congr 1;omega,by omega,by omega,by omega⟩,hs⟩
  ·conv=>whnf
   repeat'((first|apply st|(apply sq;intro K U)|(apply si;intro A B Y Z)|(apply Y;clear Z B Y A)|(refine Z _ _ _ ?_;clear Z B Y A)|(apply U;clear U K)|refine⟨rfl,?_⟩|refine⟨kZ,?_⟩|refine ix ?_|refine ld ?_|refine DT fun σ hs=>?_|(refine Cv (fun hc=>?_)<;>(try rw[hc])<;>clear hc)|(refine Cn (fun hc=>?_) (fun hc=>?_)<;>(replace hc:=bp hc)<;>(try simp(disch:=omega) only[BR,wrap64,AM]at hc)<;>(try(exfalso;omega)))|(intro nn hnn;generalize hg:A7 _ nn _=σ;refine CY hg fun hs=>?_;clear hg)|clear U K)<;>conv=>whnf)
   all_goals try(exfalso;omega)
   exact UB (by rw[hcb,hn];simp[h4])
 ·have hne:n=Bl p.AL:=by rw[Ap hke]at hn1;simpa[Bl]using hn1
  rw[Ap hke]at hn;have hsp:Fc 0 p.AL=true:=hn;have hml:=Pa _ _ hsp;rw[hsp,Ev,←hne]at hcb;cases hgd:Dk (Av p)
  ·rw[hgd]at hcb
   have hck:=TE (Av p) false;rw[hgd,if_neg (by decide)]at hck;have hcF:A2 p=false:=by rw[hcb];simp
   conv=>whnf
   repeat'((first|apply st|(apply sq;intro K U)|(apply si;intro A B Y Z)|(apply Y;clear Z B Y A)|(refine Z _ _ _ ?_;clear Z B Y A)|(apply U;clear U K)|refine⟨rfl,?_⟩|refine⟨kZ,?_⟩|(refine EI (fun hc=>?_)<;>(try rw[hc])<;>clear hc)|(refine Cn (fun hc=>?_) (fun hc=>?_)<;>(replace hc:=bp hc)<;>(try simp(disch:=omega) only[BR,wrap64,AM]at hc)<;>(try(exfalso;omega))<;>(try(cases hc;done)))|refine Pure.use (Ki _ (by omega)) ?_|(constructor<;>intro hc<;>(try rw[hc])<;>(replace hc:=bp hc))|refine Pure.use (by assumption) ?_|clear U K)<;>conv=>whnf)
   all_goals exact UB hcF
  ·have hck:=TE (Av p) false
   rw[hgd,if_pos rfl]at hck;rw[hgd,Ev]at hcb;by_cases hps:n=p.AP
   ·rw [hps,beq_self_eq_true,Ev,←hps]at hcb
    have hslB:Cj 0 p.AL=true:=by rw[Nf,hsp,S6 hgd];rfl
    have hG:=Dr hgd;have ho:=Iy hG;have hgl:(Av p).length=p.AL.length:=by simp[Av]
    conv=>whnf
    repeat'((first|apply st|(apply sq;intro K U)|(apply si;intro A B Y Z)|(apply Y;clear Z B Y A)|(apply U;clear U K)|refine⟨rfl,?_⟩|refine⟨kZ,?_⟩|(refine EI (fun hc=>?_)<;>(try rw[hc])<;>clear hc)|(refine Cn (fun hc=>?_) (fun hc=>?_)<;>(replace hc:=bp hc)<;>(try simp(disch:=omega) only[BR,wrap64,AM]at hc)<;>(try(exfalso;omega)))|refine Pure.use (Ki _ (by omega)) ?_|(constructor<;>intro hc<;>(try rw[hc])<;>(replace hc:=bp hc)<;>try(exfalso;omega))|refine Pure.use (by assumption) ?_|clear U K)<;>conv=>whnf)
    refine CZ p.AL.length (fun k (_:Unit)=>[(63,eI (BH k))]) (fun _ _=>[]) (fun k _=>A2 p=FN (AR p) n k (p.AL.drop k)) () rfl hcb hs ?_;clear hs;rintro i - σ hi hn' hs;rcases BM p.AL hi with⟨c,hc,hilt⟩|hie
    ·rw [drop_cons hc,FN]at hn'
     have hci:BH i=i:=AM (by omega);have hw3:IntKind.i64.wrap (BH i+3)=(i:Int)+3:=by rw[hci,wrap64 (by omega) (by omega)]
     have hlin:=jM (Av p) false ((i:Int)+3) hgd (by omega) (by omega);have hinl:=(F.2 c (Cg hc)).2.2;have hlb:cw (AR p).parents ((i:Int)+3)= !((Bz (Av p)).getD ((i:Int)+3).toNat []).isEmpty:=rfl;cases hem:((Bz (Av p)).getD ((i:Int)+3).toNat []).isEmpty
     ·rw [hem]at hlb
      rw[hlb,Bool.not_false,Ev]at hn';rw[hem,if_neg (by decide),←hw3]at hlin;have hhas:=jV p (i+3) h10 hslB hgd (by omega) (by omega);have hmh:=bF hslB ho (show 3≤i+3 by omega) (show i+3<3+p.AL.length by omega);have ei3:((i+3:Nat):Int)=(i:Int)+3:=by omega
      rw[ei3,←hw3]at hhas;rw[ei3]at hmh;generalize (D5 p (i+3) (i+3 - 2)).mergeSort Gq=mine at *
      conv=>whnf
      repeat'((first|apply st|(apply sq;intro K U)|(apply si;intro A B Y Z)|(apply Y;clear Z B Y A)|(apply U;clear U K)|refine⟨rfl,?_⟩|refine⟨kZ,?_⟩|refine ix ?_|refine ld ?_|refine DT fun σ hs=>?_|(refine Cv (fun hc=>?_)<;>(try rw[hc])<;>clear hc)|(refine Cn (fun hc=>?_) (fun hc=>?_)<;>(replace hc:=bp hc)<;>(try simp(disch:=omega) only[BR,wrap64,AM]at hc)<;>(try(exfalso;omega)))|(intro nn hnn;generalize hg:A7 _ nn _=σ;refine CY hg fun hs=>?_;clear hg)|refine Pure.use (by assumption) ?_|fail)<;>conv=>whnf)
      generalize nn=mm at *;replace hs:Sat σ [.map mm (QT [])]:=hs.take 1;refine CZ c.inits.length (fun j (_:List Int)=>[(86,eI (BH j))]) (fun _ M=>[.map mm (QT M)]) (fun j M=>A2 p=(DG (AR p) ((i:Int)+3) n (c.inits.take j) (c.inits.drop j)&&FN (AR p) n (i+1) (p.AL.drop (i+1)))∧ ∀s,M.contains s=(c.inits.take j).any fun y=>y.1==s) [] rfl ⟨hn',fun s=>rfl⟩ hs ?_;clear hs;rintro j M σ hj ⟨hm,hMs⟩ hs;rcases BM c.inits hj with⟨x,hx,hjlt⟩|hje
      ·have hpa:((c.inits.take j).all fun y=>y.1 != x.1)= !M.contains x.1:=by
        rw[hMs,List.all_eq_not_any_not];congr 2;funext y;simp[bne]
       have hst:A2 p=((mine.contains x.1&&(!M.contains x.1&&Qf x.2))&&(DG (AR p) ((i:Int)+3) n (c.inits.take (j+1)) (c.inits.drop (j+1))&&FN (AR p) n (i+1) (p.AL.drop (i+1)))):=by
        rw[hm,drop_cons hx,DG,hpa,hmh,←hne,AX hx];cases decide (0≤x.1)<;>cases decide (x.1<n)<;>cases hasB (AR p) ((i:Int)+3) x.1<;>cases Qf x.2<;>cases M.contains x.1<;>simp
       have hMs': ∀s,(Mz M x.1).contains s=(c.inits.take (j+1)).any fun y=>y.1==s:=fun s=>by
        rw[Sr,hMs,AX hx,List.any_append];simp only[QO,List.any_nil,Bool.or_false];congr 1;rw[K5];simp;exact eq_comm
       have hct:=Ds mine false x.1;have hbt:=Ol x.2;clear hmh hpa hMs hm;cases eA:mine.contains x.1<;>cases eB:M.contains x.1<;>cases eD:Qf x.2<;>rw[eA]at hct<;>rw[eD]at hbt<;>rw[eA,eB,eD]at hst
       all_goals
        conv=>whnf
        repeat'((first|apply st|(apply sq;intro K U)|(apply si;intro A B Y Z)|(apply Y;clear Z B Y A)|(refine Z _ _ _ ?_;clear Z B Y A)|(apply U;clear U K)|refine⟨rfl,?_⟩|refine⟨kZ,?_⟩|refine ix ?_|refine ld ?_|refine DT fun σ hs=>?_|refine FI ?_|refine EM ?_|(refine Cv (fun hc=>?_)<;>(try rw[hc])<;>clear hc)|(refine Cn (fun hc=>?_) (fun hc=>?_)<;>(replace hc:=bp hc)<;>(try simp(disch:=omega) only[BR,wrap64,AM]at hc)<;>(try(cases hc;done)))|refine gx eB ?_|refine tQ (fun σ hs=>?_)|(intro nn hnn;generalize hg:A7 _ nn _=σ;refine CY hg fun hs=>?_;clear hg)|refine Pure.use (by assumption) ?_|clear U K)<;>conv=>whnf)
       all_goals first
        | exact⟨hjlt,_,rfl,⟨hst,hMs'⟩,hs.less (JR _ _)⟩
        | exact UB (by rw[hst];rfl)
      ·rw[Ap hje,DG,Ev]at hm
       conv=>whnf
       repeat'((first|apply st|(apply sq;intro K U)|(apply si;intro A B Y Z)|(apply Y;clear Z B Y A)|(apply U;clear U K)|refine⟨rfl,?_⟩|(refine EI (fun hc=>?_)<;>(try rw[hc])<;>clear hc)|clear U K)<;>conv=>whnf)
       exact⟨hilt,(),rfl,hm,hs.take 0⟩
     ·rw[hem]at hlb
      rw[hem,if_pos rfl,←hw3]at hlin;have hcF:A2 p=false:=by rw[hn',hlb];rfl
      conv=>whnf
      repeat'((first|apply st|(apply sq;intro K U)|(apply si;intro A B Y Z)|(apply Y;clear Z B Y A)|(refine Z _ _ _ ?_;clear Z B Y A)|(apply U;clear U K)|refine⟨rfl,?_⟩|refine⟨kZ,?_⟩|refine ix ?_|refine DT fun σ hs=>?_|(refine Cv (fun hc=>?_)<;>(try rw[hc])<;>clear hc)|(refine Cn (fun hc=>?_) (fun hc=>?_)<;>(replace hc:=bp hc)<;>(try(exfalso;omega)))|(intro nn hnn;generalize hg:A7 _ nn _=σ;refine CY hg fun hs=>?_;clear hg)|refine Pure.use (by assumption) ?_|clear U K)<;>conv=>whnf)
      all_goals exact UB hcF
    ·conv=>whnf
     repeat'((first|apply st|(apply sq;intro K U)|(apply si;intro A B Y Z)|(apply Y;clear Z B Y A)|(apply U;clear U K)|refine⟨rfl,?_⟩|(refine EI (fun hc=>?_)<;>(try rw[hc])<;>clear hc)|clear U K)<;>conv=>whnf)
     exact tl hs (by rw[hn',Ap hie];rfl)
   ·have hcF:A2 p=false:=by rw[hcb];simp[hps]
    conv=>whnf
    repeat'((first|apply st|(apply sq;intro K U)|(apply si;intro A B Y Z)|(apply Y;clear Z B Y A)|(refine Z _ _ _ ?_;clear Z B Y A)|(apply U;clear U K)|refine⟨rfl,?_⟩|refine⟨kZ,?_⟩|(refine EI (fun hc=>?_)<;>(try rw[hc])<;>clear hc)|(refine Cn (fun hc=>?_) (fun hc=>?_)<;>(replace hc:=bp hc)<;>(try simp(disch:=omega) only[BR,wrap64,AM]at hc)<;>(try(cases hc;done)))|refine Pure.use (Ki _ (by omega)) ?_|(constructor<;>intro hc<;>(try rw[hc])<;>(replace hc:=bp hc)<;>try(exfalso;omega))|clear U K)<;>conv=>whnf)
    all_goals exact UB hcF
def XV (f : Fact):NL f=true→Pure Tryz.prog 171 [.a (xF f)] (eI (Cx f)):=by
 induction f using Fact.ind with
 | h f ih=>
   intro ha;refine Pure.fit (by kernel_rfl) fun hf=>?_
   have⟨h2,h3,h4⟩:=KB hf.1;have hM:=Mx;rw[Kp]at ha;simp only[BV,CL,List.all_map,EL]at ha;refine lP kZ ?_;have hs:=Sn;by_cases hlf:Bm f=true
   ·have hlo:=Fo hlf
    have hw:IntKind.i64.wrap (f.arg+1)=f.arg+1:=wrap64 (by omega) (by omega)
    conv=>whnf
    repeat'((first|apply st|(apply sq;intro K U)|(apply si;intro A B Y Z)|(apply Y;clear Z B Y A)|(apply U;clear U K)|refine⟨rfl,?_⟩|(constructor<;>intro hc<;>(try rw[hc])<;>(replace hc:=bp hc)<;>try(exfalso;omega))|fail)<;>conv=>whnf)
    all_goals try(exfalso;omega)
    all_goals
     refine CZ f.kids.length (fun k (_:Unit)=>[(3,eI (((f.kids.take k).map Cx).foldl Gu (if Bm f then f.arg+1 else 0))),(25,eI (BH k))]) (fun _ _=>[]) (fun _ _=>True) () (by rw[hw,if_pos hlf];rfl) trivial hs ?_;clear hs;rintro k - σ hk - hs;rcases BM f.kids hk with⟨x,hx,hlt⟩|hke
     ·have hxs:=ih x (Cg hx) (ha.2 x (Cg hx))
      conv=>whnf
      repeat'((first|apply st|(apply sq;intro K U)|(apply si;intro A B Y Z)|(apply Y;clear Z B Y A)|(apply U;clear U K)|refine⟨rfl,?_⟩|refine⟨kZ,?_⟩|refine Ve ?_|refine ld ?_|refine DT fun σ hs=>?_|(refine Cv (fun hc=>?_)<;>(try rw[hc])<;>clear hc)|(intro nn hnn;generalize hg:A7 _ nn _=σ;refine CY hg fun hs=>?_;clear hg)|refine Pure.use (by assumption) ?_|clear U K)<;>conv=>whnf)
      exact⟨hlt,(),by rw[EP _ _ _ hx];rfl,trivial,hs.take 0⟩
     ·conv=>whnf
      repeat'((first|apply st|(apply sq;intro K U)|(apply si;intro A B Y Z)|(apply Y;clear Z B Y A)|(apply U;clear U K)|refine⟨rfl,?_⟩|(refine EI (fun hc=>?_)<;>(try rw[hc])<;>clear hc)|clear U K)<;>conv=>whnf)
      exact AI (by rw[BC hke,←Dz])
   ·have hlo:f.op≠2∧f.op≠3∧f.op≠4:=by
     simp only[Bm,Fj,Du]at hlf;omega
    conv=>whnf
    repeat'((first|apply st|(apply sq;intro K U)|(apply si;intro A B Y Z)|(apply Y;clear Z B Y A)|(apply U;clear U K)|refine⟨rfl,?_⟩|(constructor<;>intro hc<;>(try rw[hc])<;>(replace hc:=bp hc)<;>try(exfalso;omega))|fail)<;>conv=>whnf)
    all_goals try(exfalso;omega)
    all_goals
     refine CZ f.kids.length (fun k (_:Unit)=>[(3,eI (((f.kids.take k).map Cx).foldl Gu (if Bm f then f.arg+1 else 0))),(25,eI (BH k))]) (fun _ _=>[]) (fun _ _=>True) () (by rw[if_neg hlf];rfl) trivial hs ?_;clear hs;rintro k - σ hk - hs;rcases BM f.kids hk with⟨x,hx,hlt⟩|hke
     ·have hxs:=ih x (Cg hx) (ha.2 x (Cg hx))
      conv=>whnf
      repeat'((first|apply st|(apply sq;intro K U)|(apply si;intro A B Y Z)|(apply Y;clear Z B Y A)|(apply U;clear U K)|refine⟨rfl,?_⟩|refine⟨kZ,?_⟩|refine Ve ?_|refine ld ?_|refine DT fun σ hs=>?_|(refine Cv (fun hc=>?_)<;>(try rw[hc])<;>clear hc)|(intro nn hnn;generalize hg:A7 _ nn _=σ;refine CY hg fun hs=>?_;clear hg)|refine Pure.use (by assumption) ?_|clear U K)<;>conv=>whnf)
      exact⟨hlt,(),by rw[EP _ _ _ hx];rfl,trivial,hs.take 0⟩
     ·conv=>whnf
      repeat'((first|apply st|(apply sq;intro K U)|(apply si;intro A B Y Z)|(apply Y;clear Z B Y A)|(apply U;clear U K)|refine⟨rfl,?_⟩|(refine EI (fun hc=>?_)<;>(try rw[hc])<;>clear hc)|clear U K)<;>conv=>whnf)
      exact AI (by rw[BC hke,←Dz])
def Xp (p:Prog) (x:Node) (size:Int):Pure Tryz.prog 168 [.a (BN p),.a (Ea x),eI size] (.b (LF p x size)):=by
 refine Pure.fit (by kernel_rfl) fun hf=>?_
 have⟨p1,p2,p3,p4⟩:=GQ hf.1;have hM:=Mx;have hw:IntKind.i64.wrap (3+((p.AL.map E3).length:Nat))=3+(p.AL.length:Int):=by rw[BR,wrap64 (by omega) (by omega)]
 refine lS kZ ?_;have hs:=Sn
 conv=>whnf
 repeat'((first|apply st|(apply sq;intro K U)|(apply si;intro A B Y Z)|(apply Y;clear Z B Y A)|(apply U;clear U K)|refine⟨rfl,?_⟩|refine Pure.use (Ol _) ?_|(constructor<;>intro hc<;>(try rw[hc])<;>(replace hc:=bp hc))|clear U K)<;>conv=>whnf)
 all_goals first
  | (refine AI ?_;simp[LF, *];done)
  | (refine AI ?_;simp[LF, *];omega)
  | (refine AI ?_;rw[hw];simp[LF, *];done)
  | (refine AI ?_;congr 1;rw[K5];simp[LF, *];omega)
def jF (n:Nat) (hn:n≤120):Pure Tryz.prog 252 [.i .u64 1,eU n] (.t [.i .u64 0,eU n]):=by
 refine kC kZ ?_;have hs:=Sn
 conv=>whnf
 repeat'((first|apply st|(apply sq;intro K U)|(apply si;intro A B Y Z)|(apply Y;clear Z B Y A)|(apply U;clear U K)|refine⟨rfl,?_⟩|refine⟨(by decide:(0:Int)≤_),?_⟩|fail)<;>conv=>whnf)
 have ea: ∀m:Nat,m≤120→bits .and .u64 (m:Int) 4294967295=(m:Int):=fun m hm=>by
  have:=Kl (a:=m) (b:=4294967295) (by omega) (by decide)
  have e:m&&&4294967295=m:=by
   have:=Nat.and_two_pow_sub_one_eq_mod m 32;rw[show 2 ^ 32 - 1=4294967295 from rfl]at this;rw[this];omega
  rw[e]at this;exact this
 have e0:=ea 0 (by omega);have e1:=ea 1 (by omega);have en:=ea n hn
 have ef: ∀m:Nat,m≤120→(m:Int).fdiv (2 ^ min (Int.toNat 32) IntKind.u64.bits)=0:=fun m hm=>by
  have:=Vy (a:=m) (c:=32) (by decide);rw[show(Int.toNat 32)=32 from rfl,this,Nat.shiftRight_eq_div_pow];have:m / 2 ^ 32=0:=Nat.div_eq_of_lt (by omega);rw[this];rfl
 have f0:=ef 0 (by omega);have f1:=ef 1 (by omega);have fn:=ef n hn;have w0:IntKind.u64.wrap 0=0:=rfl;have wn:IntKind.u64.wrap (n:Int)=n:=G6 (by omega);simp only[Int.natCast_zero,Int.natCast_one,Int.cast_ofNat_Int]at e0 e1 f0 f1;simp only[e0,e1,en,f0,f1,fn,w0,wn,Int.zero_mul,Int.mul_zero,Int.zero_add,Int.add_zero,Int.one_mul];exact AI rfl
def jG (n:Nat) (hn:n≤120):Pure Tryz.prog 212 [.i .u64 1,eU n] (.t [.i .u64 0,eU n]):=by
 refine ko kZ ?_;have hs:=Sn
 conv=>whnf
 repeat'((first|apply st|(apply sq;intro K U)|(apply si;intro A B Y Z)|(apply Y;clear Z B Y A)|(apply U;clear U K)|refine Pure.use (jF n hn) ?_|fail)<;>conv=>whnf)
 all_goals exact AI rfl
end Go.Gl
namespace Go.Gl
variable {P:Program} {σ:AH}
def ta {n sz len cap:Nat} {ki:IntKind} {j:Int} {K:V→AH→Prop} (h:K (.sv n sz j.toNat ((len:Int) - j).toNat) σ) (h0:0≤j:=by omega) (h1:j≤(len:Int):=by omega):AV σ sz (.sl n len cap) (some (.i ki j)) none none K:=by
 unfold AV;simp only[Ow];exact⟨h0,h1,Int.le_refl _,h⟩
def tb {n sz len cap:Nat} {ki:IntKind} {j:Int} {K:V→AH→Prop} (h:K (.sv n sz 0 j.toNat) σ) (h0:0≤j:=by omega) (h1:j≤(len:Int):=by omega):AV σ sz (.sl n len cap) none (some (.i ki j)) none K:=by
 unfold AV;simp only[Ow];refine⟨Int.le_refl _,h0,h1,?_⟩;simpa using h
def oV {l:List At} (h:Sat σ l) (i:Nat) {n len cap sz:Nat} {es ys:List (List V)} {f:Bool} {K:V→AH→Prop} (hi:l[i]? =some (.own (.sl n len cap) sz es)) (hle:ys.length≤es.length) (hys: ∀e∈ys,e.length=sz) (ho: ∀e∈ys,∀v∈e,Di v=true)
    (hk: ∀σ',Sat σ' (l.set i (.own (.sl n len cap) sz (ys++es.drop ys.length)))→K (.i .i64 (ys.length:Nat)) σ'):Ag σ sz (.sl n len cap) (.l ys f) K:=by
 rcases h.get hi with⟨h1,_⟩|⟨n',cap',h1,hn⟩
 ·cases h1
 cases h1;unfold Ag;refine⟨hys,ho,?_⟩;simp only[Qb,hn];have hm:min ys.length es.length=ys.length:=Nat.min_eq_left hle;refine⟨trivial,by omega,?_⟩;rw[hm];refine hk _ ?_;simp only[List.take_zero,List.nil_append,List.take_length,Gf];refine h.change hi (fun b hb ha=>Ew hb fun m hm=>?_) (fun b hb ha m hm=>ha m hm) (.inr ⟨n,cap,by simp;omega,by simp[A7]⟩);rw[Ci];intro e;subst e;exact ha m rfl hm
def oU {l:List At} (h:Sat σ l) (i:Nat) {n len cap sz a b c:Nat} {es:List (List V)} {K:V→AH→Prop} (hi:l[i]? =some (.own (.sl n len cap) sz es)) (hbc:a+b≤es.length) (hc:c≤es.length) (hys: ∀e∈es,e.length=sz) (ho: ∀e∈es,∀v∈e,Di v=true)
    (hk: ∀σ',Sat σ' (l.set i (.own (.sl n len cap) sz (es.take a++((es.take c).take (min c b)++es.drop (a+min c b)))))→K (.i .i64 (min c b:Nat)) σ'):Ag σ sz (.sv n sz a b) (.sv n sz 0 c) K:=by
 rcases h.get hi with⟨h1,_⟩|⟨n',cap',h1,hn⟩
 ·cases h1
 cases h1;unfold Ag;simp only[rowsOf,hn];have hl:((es.drop 0).take c).length=c:=by simp;omega
 refine⟨trivial,trivial,by omega,fun e he v hv=>ho e (List.mem_of_mem_take (by simpa using he)) v hv,trivial,?_⟩;simp only[Qb,hn,List.drop_zero];refine⟨trivial,by omega,?_⟩;have hl2:(es.take c).length=c:=by simp;omega
 rw[hl2];refine hk _ ?_;refine h.change hi (fun b hb ha=>Ew hb fun m hm=>?_) (fun b hb ha m hm=>ha m hm) (.inr ⟨n,cap,by simp;omega,by simp[A7]⟩);rw[Ci];intro e;subst e;exact ha m rfl hm
end Go.Gl
namespace Go.Gl
open Go.Proofs
attribute [local irreducible] BD Aw Ai AU AO Ah AV AW AN Ag AS AT Ay A9 Sat Ab A4 Aj W
def Xc (n:Nat) (h1:1≤n) (hn:n≤120):Bc Tryz.prog 165 [.l [[eI (-1)]] true,eI n] [] fun r post=> ∃v,r= .ret v∧post= [.own v 1 (iL (List.replicate n (-1)))]∧(Cb v).isSome=true:=by
 intro σ hs;have hM:=Mx;have hw1:IntKind.u64.wrap 1=1:=rfl;have hwn:IntKind.u64.wrap (n:Int)=n:=G6 (by omega);have hwi:IntKind.i64.wrap (n:Int)=n:=wrap64 (by omega) (by omega);refine lV kZ ?_
 conv=>whnf
 repeat'((first|apply st|(apply sq;intro K U)|(apply si;intro A B Y Z)|(apply Y;clear Z B Y A)|(apply U;clear U K)|refine⟨rfl,?_⟩|(constructor<;>intro hc<;>(try rw[hc])<;>(replace hc:=bp hc)<;>try(exfalso;omega))|fail)<;>conv=>whnf)
 rw[show IntKind.u64.wrap (([[eI (-1)]]:List (List V)).length:Nat)=1 from rfl,hwn];refine(jG n hn).use ?_
 conv=>whnf
 repeat'((first|apply st|(apply sq;intro K U)|(apply si;intro A B Y Z)|(apply Y;clear Z B Y A)|(apply U;clear U K)|refine⟨rfl,?_⟩|(constructor<;>intro hc<;>(try rw[hc])<;>(replace hc:=bp hc)<;>try(exfalso;omega))|fail)<;>conv=>whnf)
 all_goals try(exfalso;omega)
 rw[hwi];refine nP hs (IE n) (by omega) fun v σ hs hv=>?_
 obtain⟨id,rfl⟩:=hv
 conv=>whnf
 repeat'((first|(apply sq;intro K U)|(apply si;intro A B Y Z)|(apply Y;clear Z B Y A)|(apply U;clear U K)|fail)<;>conv=>whnf)
 refine oV hs 0 (ys:=[[eI (-1)]]) rfl (by simp;omega) (fun e he=>by simp at he;subst he;rfl) (fun e he v hv=>by simp at he;subst he;simp at hv;subst hv;rfl) fun σ hs=>?_
 have hst:([[eI (-1)]]:List (List V))++(List.replicate n [V.i .i64 0]).drop ([[eI (-1)]]:List (List V)).length=List.replicate 1 [eI (-1)]++List.replicate (n - 1) [eI 0]:=by simp[List.drop_replicate]
 rw[hst]at hs
 conv=>whnf
 repeat'((first|apply st|(apply sq;intro K U)|(apply Y;clear Z B Y A)|(apply U;clear U K)|fail)<;>conv=>whnf)
 refine Gh (fun m:Nat=>n - m) (fun m=>[(8,eI m)]) (fun m=>[.own (.sl id n n) 1 (List.replicate m [eI (-1)]++List.replicate (n - m) [eI 0])]) (fun m=>1≤m∧m≤n) 1 rfl ⟨by omega,h1⟩ hs ?_;clear hs hst;rintro m σ ⟨hm1,hmn⟩ hs
 have hgl: ∀e∈(List.replicate m [eI (-1)]++List.replicate (n - m) [eI 0]:List (List V)),e.length=1∧ ∀v∈e,Di v=true:=fun e he=>by
  rcases FX.1 he with he|he
  ·rw[(List.mem_replicate.1 he).2];exact⟨rfl,fun v hv=>by simp at hv;subst hv;rfl⟩
  ·rw[(List.mem_replicate.1 he).2];exact⟨rfl,fun v hv=>by simp at hv;subst hv;rfl⟩
 have hlen:(List.replicate m [eI (-1)]++List.replicate (n - m) [eI 0]:List (List V)).length=n:=by simp;omega
 rcases Nat.lt_or_ge m n with hlt|hge
 ·have hcpy:(List.replicate m [eI (-1)]++List.replicate (n - m) [eI 0]:List (List V)).take m++(((List.replicate m [eI (-1)]++List.replicate (n - m) [eI 0]:List (List V)).take m).take (min m (n - m))++(List.replicate m [eI (-1)]++List.replicate (n - m) [eI 0]:List (List V)).drop (m+min m (n - m)))=List.replicate (m+min m (n - m)) [eI (-1)]++List.replicate (n - (m+min m (n - m))) [eI 0]:=by
   have e1:(List.replicate m [eI (-1)]++List.replicate (n - m) [eI 0]:List (List V)).take m=List.replicate m [eI (-1)]:=by
    rw[List.take_append_of_le_length (by simp)];simp
   rw[e1,List.take_replicate,List.drop_append,List.drop_replicate,List.drop_replicate,List.length_replicate,←T0,List.replicate_append_replicate];have e2:m - (m+min m (n - m))=0:=by omega
   have e3:n - m - (m+min m (n - m) - m)=n - (m+min m (n - m)):=by omega
   rw[e2,e3,List.replicate_zero,List.nil_append];congr 2;omega
  conv=>whnf
  repeat'((first|apply st|(apply sq;intro K U)|(apply si;intro A B Y Z)|(apply Y;clear Z B Y A)|(apply U;clear U K)|apply dr|refine⟨rfl,?_⟩|refine lo ?_|(constructor<;>intro hc<;>(try rw[hc])<;>(replace hc:=bp hc)<;>try(exfalso;omega))|fail)<;>conv=>whnf)
  all_goals try(exfalso;omega)
  refine ta ?_
  conv=>whnf
  repeat'((first|apply dr|fail)<;>conv=>whnf)
  refine tb ?_
  conv=>whnf
  repeat'((first|apply dr|fail)<;>conv=>whnf)
  rw[Jz,show((n:Int) - m).toNat=n - m by omega];refine oU hs 0 rfl (by rw[hlen];omega) (by rw[hlen];omega) (fun e he=>(hgl e he).1) (fun e he=>(hgl e he).2) fun σ hs=>?_
  rw[hcpy]at hs
  conv=>whnf
  repeat'((first|(apply Y;clear Z B Y A)|apply dr|refine⟨rfl,?_⟩|clear U K)<;>conv=>whnf)
  refine⟨m+min m (n - m),by omega,?_,⟨by omega,by omega⟩,hs⟩;rw[wrap64 (by omega) (by omega)];rfl
 ·have hme:m=n:=by omega
  subst hme
  conv=>whnf
  repeat'((first|apply st|(apply sq;intro K U)|(apply si;intro A B Y Z)|(apply Y;clear Z B Y A)|(apply U;clear U K)|refine⟨rfl,?_⟩|refine lo ?_|(constructor<;>intro hc<;>(try rw[hc])<;>(replace hc:=bp hc)<;>try(exfalso;omega))|clear U K)<;>conv=>whnf)
  all_goals try(exfalso;omega)
  refine Aq hs (List.Sublist.refl _) (.refl _) fun σ' hs'=>⟨_,⟨_,rfl,?_,rfl⟩,hs'⟩
  simp[iL]
def PL (op:Int):V:=
 if op=5 then .J1 207 (.a [])else
 if op=1∨op=2∨op=3∨op=6∨op=18 then .J1 205 (eI 0)else
 if op=4∨op=8∨op=17 then .J1 205 (eI 1)else
 if op=7∨op=9∨op=11∨op=12∨op=13∨op=14∨op=15∨op=16 then .J1 205 (eI 2)else
 if op=10 then .J1 205 (eI 3)else .IB
def X0 (op:Int):Pure Tryz.prog 169 [eI op] (PL op):=by
 refine lR kZ ?_;have hs:=Sn
 conv=>whnf
 repeat'((first|apply st|(apply sq;intro K U)|(apply si;intro A B Y Z)|(apply Y;clear Z B Y A)|(apply U;clear U K)|refine⟨rfl,?_⟩|(constructor<;>intro hc<;>(try rw[hc])<;>(replace hc:=bp hc))|clear U K)<;>conv=>whnf)
 all_goals exact AI (by simp[PL, *])
def nc (n:Int) (p:Prog) (x:Node):Pure Tryz.prog 306 [eI n,.a (BN p),.a (Ea x)] (eI n):=by
 refine jh kZ ?_;have hs:=Sn
 conv=>whnf
 repeat'((first|apply st|(apply sq;intro K U)|(apply si;intro A B Y Z)|(apply Y;clear Z B Y A)|(apply U;clear U K)|fail)<;>conv=>whnf)
 all_goals exact AI rfl
def fI (p:Prog) (x:Node) (h0:0≤x.n) (h1:x.n<p.CM.length):Pure Tryz.prog 307 [.a [],.a (BN p),.a (Ea x)] (eI (p.CM.getD x.n.toNat 0)):=by
 refine Pure.fit (by kernel_rfl) fun hf=>?_
 have⟨p1,p2,p3,p4⟩:=GQ hf.2.1
 have hx:p.CM[x.n.toNat]? =some (p.CM.getD x.n.toNat 0):=by
  rw[DS,DZ (by omega)];rfl
 refine jg kZ ?_;have hs:=Sn
 conv=>whnf
 repeat'((first|apply st|(apply sq;intro K U)|(apply si;intro A B Y Z)|(apply Y;clear Z B Y A)|(apply U;clear U K)|refine ID ?_|fail)<;>conv=>whnf)
 all_goals exact AI rfl
end Go.Gl
namespace Go.Gl
variable {P:Program} {σ:AH}
def Sat.up {σ':AH} {l:List At} (h:Sat σ l) (hs:Sub σ σ'):Sat σ' l:=by
 refine⟨fun a ha=>?_,h.2⟩;have:=h.1 a ha;cases a with
 | obj n o=>exact hs n o this
 | own v sz es=>
   rcases this with h|⟨n,cap,e,hn⟩
   ·exact .inl h
   ·exact .inr ⟨n,cap,e,hs n _ hn⟩
def Sat.del {l:List At} {n:Nat} {o:O} (h:Sat σ (.obj n o::l)):Sat (del σ n) l:=by
 refine⟨fun b hb=>Ew (h.1 b (.tail _ hb)) fun m hm=>?_,(List.pairwise_cons.1 h.2).2⟩;rw[Gm];intro e;subst e;exact(List.pairwise_cons.1 h.2).1 b hb m rfl hm
def Sat.JW {l:List At} {n:Nat} {o:O} (h:Sat σ l) (hn:σ n=none):Sat (A7 σ n o) (.obj n o::l):=(Y4 h hn).nD
def Sat.new {l:List At} {n:Nat} {o o':O} (h:Sat σ (.obj n o::l)):Sat (A7 σ n o') (.obj n o'::l):=Y3 (i:=0) h rfl o'
def AQ {v:V} {Q:R→AH→Prop} (h:Q (.ret v) σ):Aw σ v Q:=⟨v,σ,fun _ _ h=>h,.refl v,h⟩
inductive Rd (S:Type) where
 | go (s:S)
 | stop (st:nH) (s:S)
 | Cw (v:V)
def cn {S:Type} (L:Nat) (E:Env) (ok:FuncId→Array Tmp→Code→Code→Nat→Prop) (H:S→List At) (J:S→Prop) (rest:List At) (yes no:V):Rd S→R→AH→Prop
 | .go s,r,σ=>r= .ret yes∧Sat σ (.obj L (.loop .ready E ok)::(H s++rest))
 | .stop st s,r,σ=>r= .ret no∧Sat σ (.obj L (.loop st E ok)::(H s++rest))
 | .Cw v,r,σ=>r= .Cw v∧ ∃s,J s∧Sat (del σ L) (H s++rest)
def LS {α S:Type} (P:Program) (L:Nat) (E:Env) (ok:FuncId→Array Tmp→Code→Code→Nat→Prop) (ea:α→List V) (H:S→List At) (J:S→Prop) (stp:α→S→Rd S) (D:α→S→Prop):Prop:=
 ∀y s,D y s→ ∀(rest:List At) (σ:AH),Sat σ (.obj L (.loop .ready E ok)::(H s++rest))→M9 P L (ea y) σ (cn L E ok H J rest (.b true) (.b false) (stp y s))
def LS.use {α S:Type} {L:Nat} {E:Env} {ok:FuncId→Array Tmp→Code→Code→Nat→Prop} {ea:α→List V} {H:S→List At} {J:S→Prop} {stp:α→S→Rd S} {D:α→S→Prop} (h:LS P L E ok ea H J stp D) {y:α} {s:S} (hd:D y s) {rest:List At} (hs:Sat σ (.obj L (.loop .ready E ok)::(H s++rest)))
    {Q:R→AH→Prop} (hk: ∀r σ',cn L E ok H J rest (.b true) (.b false) (stp y s) r σ'→Q r σ'):Ay P (.f (.yield L) [] []) (ea y) σ Q:=(h y s hd rest σ hs).mono hk
def Oh {L:Nat} {env:Env} {ps:List Nat} {a b:AJ} (hσ:σ L=some (.loop .ready env (Bx P ps a b))) {args:List V} (hl:args.length=ps.length) {Q:R→AH→Prop}
    (h:W P a (Ck (W P b fun ex env' σ'=>σ' L=none→Qr L env (Bx P ps a b) Q ex env' σ')) (Je ps args env) (del σ L)):M9 P L args σ Q:=
 VN hσ hl (Uc h (JL fun _ _ h=>gg h))
def MD {α S:Type} {L:Nat} {E:Env} {ps:List Nat} {a b:AJ} {ea:α→List V} {H:S→List At} {J:S→Prop} {stp:α→S→Rd S} {D:α→S→Prop} (hl: ∀y,(ea y).length=ps.length)
    (h: ∀y s,D y s→ ∀(rest:List At) (σ:AH),Sat σ (H s++rest)→W P a (Ck (W P b fun ex env' σ'=>σ' L=none→Qr L E (Bx P ps a b) (cn L E (Bx P ps a b) H J rest (.b true) (.b false) (stp y s)) ex env' σ')) (Je ps (ea y) E) σ):LS P L E (Bx P ps a b) ea H J stp D:=
 fun y s hd rest σ hs=>Oh (hs.get (i:=0) rfl) (hl y) (h y s hd rest _ hs.del)
def Sp {S:Type} {L:Nat} {E:Env} {ok:FuncId→Array Tmp→Code→Code→Nat→Prop} {H:S→List At} {J:S→Prop} {rest:List At} {o:Rd S} {s:S} (h:o= .go s) (hs:Sat σ (H s++rest)) (hn:σ L=none) :
    cn L E ok H J rest (.b true) (.b false) o (.ret (.b true)) (A7 σ L (.loop .ready E ok)):=by
 subst h;exact⟨rfl,hs.JW hn⟩
def Um {S:Type} {L:Nat} {E:Env} {ok:FuncId→Array Tmp→Code→Code→Nat→Prop} {H:S→List At} {J:S→Prop} {rest:List At} {o:Rd S} {s:S} {st:nH} (h:o= .stop st s) (hs:Sat σ (H s++rest)) (hn:σ L=none) :
    cn L E ok H J rest (.b true) (.b false) o (.ret (.b false)) (A7 σ L (.loop st E ok)):=by
 subst h;exact⟨rfl,hs.JW hn⟩
def Pe {S:Type} {L:Nat} {E:Env} {ok:FuncId→Array Tmp→Code→Code→Nat→Prop} {H:S→List At} {J:S→Prop} {rest:List At} {o:Rd S} {s:S} {v:V} (h:o= .Cw v) (hj:J s) (hs:Sat σ (H s++rest)) (hn:σ L=none) :
    cn L E ok H J rest (.b true) (.b false) o (.Cw v) σ:=by
 subst h;refine⟨rfl,s,hj,fun a ha=>Ew (hs.1 a ha) fun n hd=>?_,hs.2⟩;obtain⟨o,ho⟩:=Ct (hs.1 a ha) hd;rw[Gm];intro e;subst e;rw[hn]at ho;cases ho
def FR {L:Nat} {E env:Env} {ok:FuncId→Array Tmp→Code→Code→Nat→Prop} {Q:An→Env→AH→Prop} {l:List At} {v:V} (hs:Sat σ (.obj L (.loop .ready E ok)::l)) (hk: ∀σ',Sat σ' l→Q .normal env σ'):Jf L Q env (.ret v) σ:=
 ⟨_,_,_,hs.get (i:=0) rfl,hk _ hs.del⟩
def Uq {L id:Nat} {E env:Env} {ok:FuncId→Array Tmp→Code→Code→Nat→Prop} {Q:An→Env→AH→Prop} {l:List At} {v:V} (hs:Sat σ (.obj L (.loop (.exit id) E ok)::l)) (hk: ∀σ',Sat σ' l→Q (.exit id) env σ'):Jf L Q env (.ret v) σ:=
 ⟨_,_,_,hs.get (i:=0) rfl,hk _ hs.del⟩
end Go.Gl
