import Derived.Shelf.Sort.Plain
import Derived.Test.YtijbpgdmpejgoaaGreatProg
import Derived.Test.YtijbpgdmpejgoaaGreatQ15
set_option linter.all false
set_option linter.unusedVariables false
set_option linter.unusedSimpArgs false
namespace Go.Gl
theorem YU {M:List Ord} {k:Int} {v:V} {o:List Int} (h: ∀e∈M,e.1<k) (d:Int):CN (M++[(k,v,o)]) d=if d=k then o else CN M d:=by
 unfold CN;rw[List.find?_append];split
 ·rename_i e
  have:M.find? (fun e=>d==e.1)=none:=by
   rw[List.find?_eq_none];intro x hx;have:=h x hx;simp;omega
  rw[this];simp[e]
 ·rename_i e
  cases hf:M.find? fun e=>d==e.1 with
  | some x=>simp
  | none=>simp[List.find?_cons,e]
structure IQ (g:List (List Int)) (k:Nat) (M:List Ord):Prop where
 keys: ∀e∈M,0≤e.1∧e.1<(k:Int)
 Zf: ∀d:Int,0≤d→d<k→CN M d=(CM g).getD d.toNat []
theorem Tn {g:List (List Int)} {k:Nat} {M:List Ord} (h:IQ g k M) {d:Int} (hd:d<0∨(k:Int)≤d):CN M d= []:=by
 unfold CN
 have:M.find? (fun e=>d==e.1)=none:=by
  rw[List.find?_eq_none];intro x hx;have:=h.keys x hx;simp;omega
 rw[this];rfl
theorem LN {g:List (List Int)} (hg:IK g) {k:Nat} {M:List Ord} (h:IQ g k M) (d:Int):(CN M d).length≤71744535∧ ∀x∈CN M d,(0:Int)≤x:=by
 by_cases hd:d<0∨(k:Int)≤d
 ·rw[Tn h hd]
  exact⟨by simp,fun x hx=>by cases hx⟩
 ·rw[h.Zf d (by omega) (by omega)]
  have hb:=ID hg (2+g.length);have hl:=Xf (k:=2+g.length) (by have:=hg.1;omega);unfold CM;exact⟨T1 (fun o ho=>Nat.le_trans (hb o ho).1 hl) _,Of (fun o ho=>(hb o ho).2) _⟩
theorem Yc {g:List (List Int)} (hg:IK g) {k:Nat} {M:List Ord} (h:IQ g k M) {l:List Int} (hl:l.length≤3) (h0: ∀x∈l,(0:Int)≤x):Lu (DP M l)∧total (DP M l)<1000000000:=by
 have hM:Ak=17592186044416:=rfl;have hf: ∀p,((CN M p).filter (· != 0)).length≤71744535:=fun p=>Nat.le_trans (List.length_filter_le _ _) (LN hg h p).1
 have ht: ∀l:List Int,total (l.map fun p=>(CN M p).filter (· != 0))≤l.length*71744535:=by
  intro l
  induction l with
  | nil=>simp[total]
  | cons p r ih=>
    simp only[total,List.map_cons,List.sum_cons,NW]at *;have:=hf p;rw[Nat.add_mul];omega
 refine⟨⟨by simp[DP];omega,fun m hm=>?_⟩,?_⟩
 ·rcases Fo.1 hm with hm|hm
  ·obtain⟨p,_,rfl⟩:=Nv.1 hm
   refine⟨by have:=hf p;omega,fun x hx=>(LN hg h p).2 x (Qz.1 hx).1⟩
  ·rw[List.mem_singleton.1 hm]
   exact⟨by omega,h0⟩
 ·have h1:=ht l
  have h2:total (DP M l)=total (l.map fun p=>(CN M p).filter (· != 0))+l.length:=by simp[DP,total]
  have h3:=Nat.mul_le_mul_right 71744535 hl;omega
theorem fB {g:List (List Int)} {k:Nat} {M:List Ord} (h:IQ g (k+1) M) {l:List Int} (hl:l=A3 g ((k:Int)+1)) (hp: ∀p∈l,(0:Int)≤p∧p<(k:Int)+1) (hk:k+1<3+g.length) :
 Gt M l ((k:Int)+1)=ED g (Bo g k) ((k:Int)+1):=by
 have ho: ∀p∈l,CN M p=(Bo g k).getD p.toNat []:=fun p hpl=>by
  obtain⟨h0,h1⟩:=hp p hpl;rw[h.Zf p h0 (by omega)];unfold CM;rw[E9,E9,Ez (k:=2+g.length) (j:=p.toNat) (by omega),Ez (k:=k) (j:=p.toNat) (by omega)]
 have e1:(l.any fun p=>(CN M p).isEmpty)=(l.any fun p=>((Bo g k).getD p.toNat []).isEmpty):=by
  rw[Bool.eq_iff_iff,List.any_eq_true,List.any_eq_true];constructor
  ·rintro⟨p,h1,h2⟩;exact⟨p,h1,by rw[←ho p h1];exact h2⟩
  ·rintro⟨p,h1,h2⟩;exact⟨p,h1,by rw[ho p h1];exact h2⟩
 have e2:DP M l=l.map (fun p=>((Bo g k).getD p.toNat []).filter (· != 0))++[l]:=by
  unfold DP;congr 1;exact List.map_congr_left fun p hpl=>by rw[ho p hpl]
 unfold Gt ED ET;rw[if_neg (by omega),e1,e2,←hl];split<;>rfl
theorem IQ.nil {g:List (List Int)}:IQ g 0 []:=⟨fun e h=>(by cases h),fun d h0 h1=>by omega⟩
theorem IQ.step {g:List (List Int)} {k:Nat} {M M':List Ord} (h:IQ g k M) {l:List Int} (hl:l=A3 g (k:Int)) (hp: ∀p∈l,(0:Int)≤p∧p<(k:Int)) (hk:k<3+g.length)
 (hM:(M'=M∧Gt M l k= [])∨ ∃v,M'=M++[((k:Int),v,Gt M l k)]∧Gt M l k≠[]):IQ g (k+1) M':=by
 have hc:Gt M l k=(CM g).getD k []:=by
  cases k with
  | zero=>
    unfold Gt CM;rw[if_pos (by simp),E9,Ez (j:=0) (by omega)];rfl
  | succ k=>
    have:=fB h (by simpa using hl) (fun p hpl=>by have:=hp p hpl;simpa using this) hk;have e:((k+1:Nat):Int)=(k:Int)+1:=by omega
    rw[e,this];unfold CM;rw[E9,Ez (k:=2+g.length) (j:=k+1) (by omega),Bo,List.getElem?_append_right (by rw[Cu];omega),Cu,Nat.sub_self];rfl
 rcases hM with⟨rfl,he⟩|⟨v,rfl,_⟩
 ·refine⟨fun e he=>by have:=h.keys e he;omega,fun d h0 h1=>?_⟩
  by_cases hd:d=k
  ·subst hd
   rw[Tn h (by omega)];rw[Int.toNat_natCast,←hc,he]
  ·exact h.Zf d h0 (by omega)
 ·refine⟨fun e he=>?_,fun d h0 h1=>?_⟩
  ·rcases Fo.1 he with he|he
   ·have:=h.keys e he;omega
   ·rw[List.mem_singleton.1 he]
    exact⟨by simp,by simp;omega⟩
  ·rw[YU (fun e he=>(h.keys e he).2)]
   split
   ·rename_i hd
    rw[hd,Int.toNat_natCast];exact hc
   ·exact h.Zf d h0 (by omega)
end Go.Gl
namespace Go.Gl
open Go.Proofs
attribute [local irreducible] Bj Bf Ba Al Aa BS Ao Aq Ac BO Ah Ap Bz CA Sat A7 B8 Be W
theorem eG (s c:Nat) (hs0:s<18446744073709551616) (hc:c<64):Pure Tryz.prog 269 [.a [eU s],eI c] (.a [eU (s|||2 ^ c)]):=by
 refine ux nb ?_;have hs:=Sn
 conv=>whnf
 repeat'((first|refine st ?_|(refine sq ?_;intro K U)|(refine si ?_;intro A B Y Z)|(refine Y _ _ ?_;clear Z B Y A)|(refine U _ _ ?_;clear U K)|refine dr ?_|refine⟨rfl,?_⟩|refine⟨nb,?_⟩|refine rj ?_|refine ld ?_|refine Lq fun σ hs=>?_|refine Hi fun σ hs=>?_|refine⟨Int.natCast_nonneg _,?_⟩|(intro nn hnn;generalize hg:BI _ nn _=σ;refine Fy hg fun hs=>?_;clear hg)|fail)<;>conv=>whnf)
 refine AM ?_;simp only[Int.toNat_natCast,Wq hc,LD hs0 (J7 hc)];rfl
theorem zP (s t:Nat) (hs0:s<18446744073709551616) (ht0:t<18446744073709551616):Pure Tryz.prog 270 [.a [eU s],.a [eU t]] (.a [eU (s|||t)]):=by
 refine uw nb ?_;have hs:=Sn
 conv=>whnf
 repeat'((first|refine st ?_|(refine sq ?_;intro K U)|(refine si ?_;intro A B Y Z)|(refine Y _ _ ?_;clear Z B Y A)|(refine U _ _ ?_;clear U K)|refine⟨rfl,?_⟩|refine⟨nb,?_⟩|refine rj ?_|refine iar ?_|refine ld ?_|refine Lq fun σ hs=>?_|refine Hi fun σ hs=>?_|(intro nn hnn;generalize hg:BI _ nn _=σ;refine Fy hg fun hs=>?_;clear hg)|fail)<;>conv=>whnf)
 refine AM ?_;simp only[LD hs0 ht0];rfl
theorem TT (s:Nat) (c:Int) (hs0:s<18446744073709551616) (h0:0≤c) (hc:c<64):Pure Tryz.prog 269 [.a [eU s],eI c] (.a [eU (s|||2 ^ c.toNat)]):=by
 have:=eG s c.toNat hs0 (by omega);rw[Int.toNat_of_nonneg h0]at this;exact this
theorem Ko {a b:Nat} (ha:a<18446744073709551616) (hb:b<18446744073709551616):a|||b<18446744073709551616:=by
 have:=Nat.or_lt_two_pow (n:=64) (x:=a) (y:=b) (by simpa using ha) (by simpa using hb);simpa using this
def IX (g:List (List Int)):List (List Int×Bool):=[([],true),([],true),([],true)]++g.map fun l=>(l,false)
theorem bt (g:List (List Int)):(IX g).length=3+g.length:=by simp[IX];omega
theorem W0 (g:List (List Int)) {k:Nat} (hk:k<3+g.length): ∃b,(IX g)[k]? =some (A3 g (k:Int),b):=by
 unfold IX A3;by_cases h3:k<3
 ·rw[if_pos (by omega),rZ (by simpa using h3)]
  refine⟨true,?_⟩;rcases k with _|_|_|k
  ·rfl
  ·rfl
  ·rfl
  ·omega
 ·rw[if_neg (by omega),List.getElem?_append_right (by simp;omega)]
  refine⟨false,?_⟩;simp only[NW,List.length_nil,Pu];have e:((k:Int) - 3).toNat=k - (0+1+1+1):=by omega
  rw[e,E9,E4 (by omega)];rfl
theorem fk:F9 (fun u:Nat=>[eU u]) 1:=fun x=>⟨rfl,fun v hv=>by simp at hv;subst hv;rfl⟩
theorem zO {α:Type} {a b c d:α}: [a,b,c,d].Perm [b,d,a,c]:=by
 have h1: [a,b,c,d].Perm [b,a,c,d]:= .swap _ _ _;have h2: [a,c,d].Perm [d,a,c]:=List.perm_append_comm (l₁:=[a,c]) (l₂:=[d]);exact h1.trans (h2.cons b)
set_option maxHeartbeats 4000000 in
theorem fC (g:List (List Int)) (f f2:Bool) (c:Int) (hg:Dz g=true) (hc0:0≤c) (hc1:c<3+g.length) :
 CL Tryz.prog 250 [.l (El g) f,.l (iL [c]) f2] [] fun r post=> ∃n mm vp vu us M,r= .ret (.t [.p n 0,.b true])∧post=gH n mm vp vu (IX g) us M∧IQ g (3+g.length) M:=by
 intro σ hs;refine Bj.fit (by kernel_rfl) fun hf=>?_
 have⟨g1,g2⟩:=Rj hf.1;have hM:=Mx;have hG:=D4 hg;have hgl:=hG.1;have hfn:=XT g f;rw[hg]at hfn;have hc2: [c][0]? =some c:=rfl;have hpl:=bt g;refine vI nb ?_
 conv=>whnf
 repeat'((first|refine st ?_|(refine sq ?_;intro K U)|(refine si ?_;intro A B Y Z)|(refine Y _ _ ?_;clear Z B Y A)|(refine U _ _ ?_;clear U K)|refine IV ?_|refine Pure.use hfn ?_|fail)<;>conv=>whnf)
 refine C5 1 (fun k (_:Unit)=>[(20,eI (Bw k))]) (fun _ _=>[]) (fun _ _=>True) () rfl trivial hs ?_;clear hs;rintro k - σ hk - hs;have hkk:k=0∨k=1:=by omega
 rcases hkk with rfl|rfl
 ·conv=>whnf
  repeat'((first|refine st ?_|(refine sq ?_;intro K U)|(refine si ?_;intro A B Y Z)|(refine Y _ _ ?_;clear Z B Y A)|(refine U _ _ ?_;clear U K)|refine⟨rfl,?_⟩|refine⟨nb,?_⟩|refine ix ?_|(refine Et (fun hc=>?_)<;>(try rw[hc])<;>clear hc)|(constructor<;>intro hc<;>(try rw[hc])<;>(replace hc:=bp hc)<;>(try simp(disch:=omega) only[B2,wrap64,AU]at hc)<;>try(exfalso;omega))|clear U K)<;>conv=>whnf)
  all_goals try(exfalso;omega)
  exact⟨(),rfl,trivial,hs⟩
 ·have hke:1= [c].length:=rfl
  conv=>whnf
  repeat'((first|refine st ?_|(refine sq ?_;intro K U)|(refine si ?_;intro A B Y Z)|(refine Y _ _ ?_;clear Z B Y A)|(refine U _ _ ?_;clear U K)|refine⟨rfl,?_⟩|(refine F4 (fun hc=>?_)<;>(try rw[hc])<;>clear hc)|clear U K)<;>conv=>whnf)
  rw[show IntKind.i64.wrap (3+((El g).length:Nat))=((3+g.length:Nat):Int) by rw[B2,wrap64 (by omega) (by omega)];omega];refine yL (n:=3) hs (by omega) (by omega) fun vp σ hs hv=>?_
  obtain⟨idp,rfl⟩:=hv
  conv=>whnf
  repeat'((first|(refine sq ?_;intro K U)|(refine si ?_;intro A B Y Z)|(refine Y _ _ ?_;clear Z B Y A)|(refine U _ _ ?_;clear U K)|refine ld ?_|(intro nn hnn;generalize hg:BI _ nn _=σ;refine Fy hg fun hs=>?_;clear hg)|fail)<;>conv=>whnf)
  obtain⟨mm,hs⟩: ∃mm,Sat σ [.box nn [.sl idp 3 (3+g.length),.l [] true,.m mm],.map mm [],.own (.sl idp 3 (3+g.length)) 1 (List.replicate 3 [.l [] true])]:=⟨_,hs⟩
  generalize nn=n0 at *;have hgr:=Ej Dg g;refine hAppend hs 2 rfl (by simp;omega) hgr.1 hgr.2 fun vp σ hs=>?_
  have hps:List.replicate 3 [.l [] true]++El g=pL (IX g):=by simp[pL,IX,List.replicate,El]
  rw[hps]at hs;clear hps;have hs1p:=Ie hs 2 rfl
  conv=>whnf
  repeat'((first|refine st ?_|(refine sq ?_;intro K U)|(refine si ?_;intro A B Y Z)|(refine Y _ _ ?_;clear Z B Y A)|(refine U _ _ ?_;clear U K)|refine lo ?_|refine ld ?_|refine Lq fun σ hs=>?_|fail)<;>conv=>whnf)
  replace hs:Sat σ [.box n0 [vp,.l [] true,.m mm],.map mm [],.own vp 1 (pL (IX g))]:=hs;refine C5 (IX g).length (fun k (_:V×List Nat)=>[(55,eI (Bw k))]) (fun _ x=>[.own x.1 1 (x.2.map fun u=>[eU u]),.box n0 [vp,x.1,.m mm],.map mm [],.own vp 1 (pL (IX g))]) (fun k x=>x.2.length=k∧ ∀u∈x.2,u<18446744073709551616) (.l [] true,[]) rfl ⟨rfl,fun u hu=>by cases hu⟩ (Ga hs 1) ?_;clear hs;rintro k ⟨vu,us⟩ σ hk ⟨hul,hus⟩ hs;dsimp only at hul hus hs;rcases B0 (IX g) hk with⟨⟨l,lb⟩,hl,hlt⟩|hke2
  ·have hck:Bw k=k:=AU (by omega)
   obtain⟨b',hpa⟩:=W0 g (k:=k) (by omega);have hle:l=A3 g (k:Int):=by rw[hl]at hpa;exact(Prod.mk.inj (Option.some.inj hpa)).1
   have hll:=DK hG (k:Int);rw[←hle]at hll;have hlm: ∀p∈l,3≤p∧p<(k:Int):=fun p hp=>Dn hG (by rw[←hle];exact hp)
   have hs1:(0|||2 ^ (Bw k).toNat)<18446744073709551616:=by
    rw[Nat.zero_or,hck,Int.toNat_natCast];exact J7 (by omega)
   have hs1u:=Ie hs 0 rfl;have hl':(IX g)[(Bw k).toNat]? =some (l,lb):=by rw[hck,Int.toNat_natCast];exact hl
   conv=>whnf
   repeat'((first|refine st ?_|(refine sq ?_;intro K U)|(refine si ?_;intro A B Y Z)|(refine Y _ _ ?_;clear Z B Y A)|(refine U _ _ ?_;clear U K)|refine⟨rfl,?_⟩|refine Hi fun σ hs=>?_|refine oi ?_|refine Uw ?_|(refine Et (fun hc=>?_)<;>(try rw[hc])<;>clear hc)|refine Pure.use (TT 0 (Bw k) (by decide) (by omega) (by omega)) ?_|refine Pure.use (TT _ _ (by first|omega|exact hs1) (by omega) (by omega)) ?_|(intro nn hnn;generalize hg:BI _ nn _=σ;refine Fy hg fun hs=>?_;clear hg)|fail)<;>conv=>whnf)
   have hs0:(0|||2 ^ (Bw k).toNat|||2 ^ Int.toNat 0)<18446744073709551616:=Ko hs1 (by decide);generalize (0|||2 ^ (Bw k).toNat|||2 ^ Int.toNat 0)=s0 at *;refine C5 l.length (fun j (_:Nat)=>[(66,eI (Bw j))]) (fun _ s=>[.box nn [eU s],.own vu 1 (us.map fun u=>[eU u]),.box n0 [vp,vu,.m mm],.map mm [],.own vp 1 (pL (IX g))]) (fun _ s=>s<18446744073709551616) s0 rfl hs0 hs ?_;clear hs hs0;rintro j s σ hj hsb hs;rcases B0 l hj with⟨p,hp,hjlt⟩|hje
   ·obtain⟨hp3,hpk⟩:=hlm p (DL hp)
    obtain⟨u,hu⟩: ∃u,us[p.toNat]? =some u:=⟨_,E4 (by omega)⟩
    have hub:=hus u (DL hu)
    conv=>whnf
    repeat'((first|refine st ?_|(refine sq ?_;intro K U)|(refine si ?_;intro A B Y Z)|(refine Y _ _ ?_;clear Z B Y A)|(refine U _ _ ?_;clear U K)|refine dr ?_|refine⟨rfl,?_⟩|refine⟨nb,?_⟩|refine ix ?_|refine ld ?_|refine Hi fun σ hs=>?_|refine oi ?_|refine Uw ?_|(refine Et (fun hc=>?_)<;>(try rw[hc])<;>clear hc)|refine Pure.use (zP _ _ hsb hub) ?_|clear U K)<;>conv=>whnf)
    exact⟨hjlt,s|||u,rfl,Ko hsb hub,hs⟩
   ·conv=>whnf
    repeat'((first|refine st ?_|(refine sq ?_;intro K U)|(refine si ?_;intro A B Y Z)|(refine Y _ _ ?_;clear Z B Y A)|(refine U _ _ ?_;clear U K)|refine dr ?_|refine⟨rfl,?_⟩|refine⟨nb,?_⟩|refine ld ?_|(refine F4 (fun hc=>?_)<;>(try rw[hc])<;>clear hc)|clear U K)<;>conv=>whnf)
    refine GM (Fs hs 1 (enc:=fun u:Nat=>[eU u]) (xs:=us) (x:=s) rfl (by omega) fk fun vu' σ hs hsl=>?_);have hs2u:=Ie hs 1 rfl
    conv=>whnf
    repeat'((first|(refine si ?_;intro A B Y Z)|(refine Y _ _ ?_;clear Z B Y A)|(refine U _ _ ?_;clear U K)|refine dr ?_|refine⟨rfl,?_⟩|refine Lq fun σ hs=>?_|clear U K)<;>conv=>whnf)
    refine⟨hlt,(vu',us++[s]),rfl,⟨by simp[hul],fun u hu=>?_⟩,hs.less (List.sublist_cons_self _ _)⟩;rcases Fo.1 hu with hu|hu
    ·exact hus u hu
    ·rw[List.mem_singleton.1 hu];exact hsb
  ·have hs1u:=Ie hs 0 rfl
   conv=>whnf
   repeat'((first|refine st ?_|(refine sq ?_;intro K U)|(refine si ?_;intro A B Y Z)|(refine Y _ _ ?_;clear Z B Y A)|(refine U _ _ ?_;clear U K)|refine⟨rfl,?_⟩|refine lo ?_|refine ld ?_|(refine F4 (fun hc=>?_)<;>(try rw[hc])<;>clear hc)|clear U K)<;>conv=>whnf)
   replace hs:Sat σ (gH n0 mm vp vu (IX g) us []):=hs.perm zO;refine C5 (IX g).length (fun k (_:List Ord)=>[(96,eI (Bw k))]) (fun _ M=>gH n0 mm vp vu (IX g) us M) (fun k M=>IQ g k M) [] rfl IQ.nil hs ?_;clear hs;rintro k M σ hk hkn hs;rcases B0 (IX g) hk with⟨⟨l,lb⟩,hl,hlt⟩|hke3
   ·have hck:Bw k=k:=AU (by omega)
    obtain⟨b',hpa⟩:=W0 g (k:=k) (by omega);have hle:l=A3 g (k:Int):=by rw[hl]at hpa;exact(Prod.mk.inj (Option.some.inj hpa)).1
    have hll:=DK hG (k:Int);rw[←hle]at hll;have hlm: ∀p∈l,3≤p∧p<(k:Int):=fun p hp=>Dn hG (by rw[←hle];exact hp)
    have hlo:=Yc hG hkn hll (fun x hx=>by have:=hlm x hx;omega);have hord:=bw n0 mm vp vu (IX g) us M (Bw k) l lb (by omega) (by rw[hck,Int.toNat_natCast];exact hl) hll (fun c=>by have:=(LN hG hkn c).1;omega) (fun e he=>by have:=hkn.keys e he;omega) hlo.1 hlo.2
    conv=>whnf
    repeat'((first|refine st ?_|(refine sq ?_;intro K U)|(refine si ?_;intro A B Y Z)|(refine Y _ _ ?_;clear Z B Y A)|(refine U _ _ ?_;clear U K)|refine⟨rfl,?_⟩|(refine Et (fun hc=>?_)<;>(try rw[hc])<;>clear hc)|fail)<;>conv=>whnf)
    refine hord.use (rest:=[]) (by simpa using hs) ?_;clear hs;rintro r post σ ⟨rfl,M',rfl,hM'⟩ hs;rw[List.append_nil]at hs;rw[hck]at hM'
    conv=>whnf
    repeat'((first|(refine si ?_;intro A B Y Z)|(refine Y _ _ ?_;clear Z B Y A)|(refine U _ _ ?_;clear U K)|refine⟨rfl,?_⟩|clear U K)<;>conv=>whnf)
    exact⟨hlt,M',rfl,hkn.step hle (fun p hp=>by have:=hlm p hp;omega) (by omega) hM',hs⟩
   ·conv=>whnf
    repeat'((first|refine st ?_|(refine sq ?_;intro K U)|(refine si ?_;intro A B Y Z)|(refine Y _ _ ?_;clear Z B Y A)|(refine U _ _ ?_;clear U K)|refine⟨rfl,?_⟩|(refine F4 (fun hc=>?_)<;>(try rw[hc])<;>clear hc)|clear U K)<;>conv=>whnf)
    exact BG hs (List.Sublist.refl _) (.refl _) fun σ' hs'=>⟨_,⟨_,_,_,_,_,_,rfl,rfl,by rw[←hpl,←hke3];exact hkn⟩,hs'⟩
theorem xX {M:List Ord} {c:Int} {σ:AH} {fx:List At} (hs:Sat σ (fx++M.map ZU)) (hl:(CN M c).length≤Ak) (hne:CN M c≠[]) {k kp:V→AH→Prop} (hk: ∀σ',Sat σ' (fx++M.map ZU)→k (.l (iL (CN M c)) false) σ'):Bj Tryz.prog 175 [Ic M c] σ (qk k kp):=by
 rcases OU M c with⟨h1,h2⟩|⟨j,hj⟩
 ·exact absurd h1 hne
 ·have hj':(fx++M.map ZU)[fx.length+j]? =some (At.own (Ic M c) 1 (iL (CN M c))):=by
   rw[List.getElem?_append_right (by omega),Nat.add_sub_cancel_left,hj]
  have hcl:CL Tryz.prog 175 [Ic M c] [.own (Ic M c) 1 (iL (CN M c))] fun r post=>r= .ret (.l (iL (CN M c)) false)∧post= [.own (Ic M c) 1 (iL (CN M c))]:=by
   clear hk hj' hj;generalize Ic M c=v at *;generalize CN M c=l at *;intro σ hs;refine az nb ?_;have hgr:=Ej DC l
   have hend: ∀ {σ:AH} {w u:V},Sat σ [.own w 1 (iL l),.own u 1 (iL l)]→Bf σ w fun r σ'=> ∃post,(r= .ret (.l (iL l) false)∧post= [.own u 1 (iL l)])∧Sat σ' post:=fun hs=>by
    obtain⟨σ2,h1,h2,h3⟩:=TF hs 0 rfl;exact H0 h1 h2 ⟨_,⟨rfl,rfl⟩,h3⟩
   have hM:=Mx;rcases hs.get (i:=0) rfl with⟨rfl,_⟩|⟨n,cap,rfl,hn⟩
   ·conv=>whnf
    repeat'((first|(refine sq ?_;intro K U)|(refine si ?_;intro A B Y Z)|(refine Y _ _ ?_;clear Z B Y A)|(refine U _ _ ?_;clear U K)|fail)<;>conv=>whnf)
    refine⟨fun e=>absurd (List.map_eq_nil_iff.1 e) hne,fun _=>?_⟩
    conv=>whnf
    repeat'((first|refine st ?_|(refine sq ?_;intro K U)|(refine si ?_;intro A B Y Z)|(refine Y _ _ ?_;clear Z B Y A)|(refine U _ _ ?_;clear U K)|fail)<;>conv=>whnf)
    replace hs:=Ga hs 1;refine SG hs 0 1 rfl rfl (by simp;omega) hgr.1 hgr.2 fun w σ hs=>?_
    conv=>whnf
    repeat'((first|refine st ?_|(refine Y _ _ ?_;clear Z B Y A)|(refine U _ _ ?_;clear U K)|fail)<;>conv=>whnf)
    exact hend hs
   ·conv=>whnf
    repeat'((first|refine st ?_|(refine sq ?_;intro K U)|(refine si ?_;intro A B Y Z)|(refine Y _ _ ?_;clear Z B Y A)|(refine U _ _ ?_;clear U K)|fail)<;>conv=>whnf)
    replace hs:=Ga hs 1;refine SG hs 0 1 rfl rfl (by simp;omega) hgr.1 hgr.2 fun w σ hs=>?_
    conv=>whnf
    repeat'((first|refine st ?_|(refine Y _ _ ?_;clear Z B Y A)|(refine U _ _ ?_;clear U K)|fail)<;>conv=>whnf)
    exact hend hs
  refine hcl.lK (Φ:=fun r=>r= .ret (.l (iL (CN M c)) false)) hs hj' ?_;rintro r σ' rfl hs';exact hk σ' hs'
theorem tI (g:List (List Int)) (f:Bool) (c:Int) (hg:Dz g=true) (hc0:0≤c) (hc1:c<3+g.length) :
 Pure Tryz.prog 209 [.l (El g) f,eI c] (if((CM g).getD c.toNat []).isEmpty then .t [.l [] true,eI 7]else .t [.l (iL ((CM g).getD c.toNat [])) false,eI 0]):=by
 have hop:=fC g f true c hg hc0 hc1;refine v8 nb ?_;have hs:=Sn;have hM:=Mx;have hG:=D4 hg
 conv=>whnf
 repeat'((first|(refine sq ?_;intro K U)|(refine si ?_;intro A B Y Z)|(refine Y _ _ ?_;clear Z B Y A)|(refine U _ _ ?_;clear U K)|fail)<;>conv=>whnf)
 refine hop.use (rest:=[]) hs ?_;clear hs;rintro r post σ ⟨n,mm,vp,vu,us,M,rfl,rfl,hkn⟩ hs;rw[List.append_nil]at hs;have hol:=(LN hG hkn c).1;have hor:=hkn.Zf c hc0 (by omega);by_cases hne:CN M c= []
 ·have hl0:(CN M c).length=0:=by rw[hne];rfl
  conv=>whnf
  repeat'((first|refine st ?_|(refine sq ?_;intro K U)|(refine si ?_;intro A B Y Z)|(refine Y _ _ ?_;clear Z B Y A)|(refine U _ _ ?_;clear U K)|refine⟨rfl,?_⟩|refine ld ?_|refine IV ?_|refine lkO ?_|refine OV (fx:=_::_::_::_:: []) hs (by omega) ?_|(constructor<;>intro hc<;>(try rw[hc])<;>(replace hc:=bp hc)<;>try(exfalso;omega))|clear U K)<;>conv=>whnf)
  all_goals try(exfalso;omega)
  rw[←hor,hne];exact AM rfl
 ·have hl0:0<(CN M c).length:=List.length_pos_iff.2 hne
  conv=>whnf
  repeat'((first|refine st ?_|(refine sq ?_;intro K U)|(refine si ?_;intro A B Y Z)|(refine Y _ _ ?_;clear Z B Y A)|(refine U _ _ ?_;clear U K)|refine⟨rfl,?_⟩|refine ld ?_|refine IV ?_|refine lkO ?_|refine OV (fx:=_::_::_::_:: []) hs (by omega) ?_|(constructor<;>intro hc<;>(try rw[hc])<;>(replace hc:=bp hc)<;>try(exfalso;omega))|fail)<;>conv=>whnf)
  all_goals try(exfalso;omega)
  refine xX (fx:=_::_::_::_:: []) hs (by omega) hne fun σ hs=>?_
  conv=>whnf
  repeat'((first|refine st ?_|(refine Y _ _ ?_;clear Z B Y A)|(refine U _ _ ?_;clear U K)|fail)<;>conv=>whnf)
  rw[←hor]
  have:(CN M c).isEmpty=false:=by
   cases h:(CN M c).isEmpty
   ·rfl
   ·exact absurd (List.isEmpty_iff.1 h) hne
  rw[this];exact AM rfl
theorem cu (xs:List Int) (f:Bool):Pure Tryz.prog 175 [.l (iL xs) f] (.l (iL xs) false):=by
 refine Pure.fit (by kernel_rfl) fun hf=>?_
 have hxl:=Rk hf.1;have hM:=Mx;refine az nb ?_;have hs:=Sn
 conv=>whnf
 repeat'((first|(refine sq ?_;intro K U)|(refine si ?_;intro A B Y Z)|(refine Y _ _ ?_;clear Z B Y A)|(refine U _ _ ?_;clear U K)|fail)<;>conv=>whnf)
 refine⟨fun e t=>?_,fun _=>?_⟩
 ·have hx:xs= []:=List.map_eq_nil_iff.1 e
  subst hx
  conv=>whnf
  repeat'((first|refine st ?_|(refine sq ?_;intro K U)|(refine si ?_;intro A B Y Z)|(refine Y _ _ ?_;clear Z B Y A)|(refine U _ _ ?_;clear U K)|(constructor<;>intro hc<;>(try rw[hc])<;>(replace hc:=bp hc))|clear U K)<;>conv=>whnf)
  ·exact CD Hw
  ·replace hs:=Ga hs 1
   refine Kq hs 0 (xs:=[]) (ys:=[]) rfl (by simp) DC fun v σ hs=>?_
   conv=>whnf
   repeat'((first|refine st ?_|(refine Y _ _ ?_;clear Z B Y A)|(refine U _ _ ?_;clear U K)|fail)<;>conv=>whnf)
   exact ER hs 0 rfl rfl
 ·conv=>whnf
  repeat'((first|refine st ?_|(refine sq ?_;intro K U)|(refine si ?_;intro A B Y Z)|(refine Y _ _ ?_;clear Z B Y A)|(refine U _ _ ?_;clear U K)|fail)<;>conv=>whnf)
  replace hs:=Ga hs 1;refine Kq hs 0 (xs:=[]) (ys:=xs) rfl (by simp;omega) DC fun v σ hs=>?_
  conv=>whnf
  repeat'((first|refine st ?_|(refine Y _ _ ?_;clear Z B Y A)|(refine U _ _ ?_;clear U K)|fail)<;>conv=>whnf)
  exact ER hs 0 rfl rfl
theorem sb (c:Pc):Pure Tryz.prog 174 [.a (S1 c)] (.l (iL c.parents) false):=by
 refine wP nb ?_;have hs:=Sn
 conv=>whnf
 repeat'((first|refine st ?_|(refine sq ?_;intro K U)|(refine si ?_;intro A B Y Z)|(refine Y _ _ ?_;clear Z B Y A)|(refine U _ _ ?_;clear U K)|refine Pure.use (cu _ _) ?_|fail)<;>conv=>whnf)
 exact AM rfl
theorem kV (xs:List (List Int)) (v:V) (hl:xs.length≤Ak):CL Tryz.prog 216 [v] [.own v 1 (El xs)] fun r post=>r= .ret (.l (El xs) true)∧post= []:=by
 intro σ hs;have hg:=Ej Dg xs;refine vo nb ?_
 conv=>whnf
 repeat'((first|(refine sq ?_;intro K U)|(refine si ?_;intro A B Y Z)|(refine Y _ _ ?_;clear Z B Y A)|(refine U _ _ ?_;clear U K)|refine lo ?_|fail)<;>conv=>whnf)
 refine pU (i:=0) hs rfl hg.1 (by simpa using hl) fun σ hs=>?_
 conv=>whnf
 repeat'((first|refine st ?_|(refine Y _ _ ?_;clear Z B Y A)|(refine U _ _ ?_;clear U K)|fail)<;>conv=>whnf)
 exact BG hs (List.Sublist.refl _) (.refl _) fun σ' hs'=>⟨_,⟨rfl,rfl⟩,hs'⟩
theorem xY (xs:List Int) (v:V) (hl:xs.length≤Ak):CL Tryz.prog 99 [v] [.own v 1 (iL xs)] fun r post=>r= .ret (.l (iL xs) true)∧post= []:=by
 intro σ hs;have hg:=Ej DC xs;refine zn nb ?_
 conv=>whnf
 repeat'((first|(refine sq ?_;intro K U)|(refine si ?_;intro A B Y Z)|(refine Y _ _ ?_;clear Z B Y A)|(refine U _ _ ?_;clear U K)|refine lo ?_|fail)<;>conv=>whnf)
 refine pU (i:=0) hs rfl hg.1 (by simpa using hl) fun σ hs=>?_
 conv=>whnf
 repeat'((first|refine st ?_|(refine Y _ _ ?_;clear Z B Y A)|(refine U _ _ ?_;clear U K)|fail)<;>conv=>whnf)
 exact BG hs (List.Sublist.refl _) (.refl _) fun σ' hs'=>⟨_,⟨rfl,rfl⟩,hs'⟩
theorem kE (cs:List Pc) (hl:cs.length≤1000000):Pure Tryz.prog 173 [.l (cs.map S1) false,.f (.func 174) [] []] (.l (El (cs.map (·.parents))) false):=by
 have hM:=Mx;refine wQ nb ?_;have hs:=Sn
 conv=>whnf
 repeat'((first|refine st ?_|(refine sq ?_;intro K U)|(refine si ?_;intro A B Y Z)|(refine Y _ _ ?_;clear Z B Y A)|(refine U _ _ ?_;clear U K)|fail)<;>conv=>whnf)
 refine C5 cs.length (fun k v=>[(5,v),(10,eI (Bw k))]) (fun k v=>[.own v 1 (El ((cs.take k).map (·.parents)))]) (fun _ _=>True) (.l [] true) rfl trivial (Ga hs 1) ?_;clear hs;rintro k v σ hk - hs;rcases B0 cs hk with⟨c,hc,hlt⟩|hke
 ·conv=>whnf
  repeat'((first|refine st ?_|(refine sq ?_;intro K U)|(refine si ?_;intro A B Y Z)|(refine Y _ _ ?_;clear Z B Y A)|(refine U _ _ ?_;clear U K)|refine⟨rfl,?_⟩|refine⟨nb,?_⟩|refine ix ?_|refine ld ?_|refine Hi fun σ hs=>?_|(refine Et (fun hc=>?_)<;>(try rw[hc])<;>clear hc)|(intro nn hnn;generalize hg:BI _ nn _=σ;refine Fy hg fun hs=>?_;clear hg)|fail)<;>conv=>whnf)
  refine C1 ((sb c).use ?_)
  conv=>whnf
  repeat'((first|(refine si ?_;intro A B Y Z)|(refine Y _ _ ?_;clear Z B Y A)|(refine U _ _ ?_;clear U K)|refine⟨rfl,?_⟩|refine aq fun v σ hs hsl=>?_|clear U K)<;>conv=>whnf)
  exact⟨hlt,_,rfl,trivial,by rw[AR hc,List.map_append];exact hs.less (List.sublist_cons_self _ _)⟩
 ·rw[A5 hke]at hs
  conv=>whnf
  repeat'((first|refine st ?_|(refine sq ?_;intro K U)|(refine si ?_;intro A B Y Z)|(refine Y _ _ ?_;clear Z B Y A)|(refine U _ _ ?_;clear U K)|refine⟨rfl,?_⟩|(refine F4 (fun hc=>?_)<;>(try rw[hc])<;>clear hc)|clear U K)<;>conv=>whnf)
  refine(kV (cs.map (·.parents)) v (by simp;omega)).use (rest:=[]) hs ?_;clear hs;rintro r post σ ⟨rfl,rfl⟩ hs
  conv=>whnf
  repeat'((first|refine st ?_|(refine Y _ _ ?_;clear Z B Y A)|(refine U _ _ ?_;clear U K)|fail)<;>conv=>whnf)
  exact CD Zz
theorem LS (p:Prog) (hk0:p.AO.length≤1000):Pure Tryz.prog 138 [.a (Br p)] (.l (El (A4 p)) false):=by
 refine Pure.fit (by kernel_rfl) fun hf=>?_
 have F:=Mq hf.1;refine xB nb ?_;have hs:=Sn
 conv=>whnf
 repeat'((first|refine st ?_|(refine sq ?_;intro K U)|(refine si ?_;intro A B Y Z)|(refine Y _ _ ?_;clear Z B Y A)|(refine U _ _ ?_;clear U K)|fail)<;>conv=>whnf)
 refine(kE p.AO (by omega)).use ?_
 conv=>whnf
 repeat'((first|refine st ?_|(refine Y _ _ ?_;clear Z B Y A)|(refine U _ _ ?_;clear U K)|fail)<;>conv=>whnf)
 exact AM rfl
theorem TS (p:Prog) (hk0:p.AO.length≤1000) (hm:B3 p.AO≤Ak):Pure Tryz.prog 108 [.a (Br p)] (.a (BQ (Ae p))):=by
 refine Pure.fit (by kernel_rfl) fun hf=>?_
 have F:=Mq hf.1;have hcl:=F.1;have hM:=Mx;refine xV nb ?_;have hs:=Sn
 conv=>whnf
 repeat'((first|refine st ?_|(refine sq ?_;intro K U)|(refine si ?_;intro A B Y Z)|(refine Y _ _ ?_;clear Z B Y A)|(refine U _ _ ?_;clear U K)|refine⟨nb,?_⟩|refine Hi fun σ hs=>?_|refine Pure.use (LS _ hk0) ?_|(intro nn hnn;generalize hg:BI _ nn _=σ;refine Fy hg fun hs=>?_;clear hg)|fail)<;>conv=>whnf)
 rename_i n2 _ _ _ _ _
 rename Nat=>n3
 replace hs:Sat σ [.box n3 [.l (El (A4 p)) false,.l [] true],.box n2 [.l [] true,.l [] true]]:=hs;refine C5 p.AO.length (fun k (_:V)=>[(12,eI (Bw k))]) (fun k v=>[.own v 1 (iL (BY 0 (p.AO.take k))),.box n3 [.l (El (A4 p)) false,v],.box n2 [.l [] true,.l [] true]]) (fun _ _=>True) (.l [] true) rfl trivial (Ga hs 1) ?_;clear hs;rintro k v σ hk - hs;rcases B0 p.AO hk with⟨c,hc,hlt⟩|hke
 ·have hcm:=F.2 c (DL hc)
  have htk:=PF hc;have hck:Bw k=k:=AU (by omega)
  have hap:BY 0 (p.AO.take (k+1))=BY 0 (p.AO.take k)++List.replicate c.AN.length ((k:Int)+3):=by
   rw[AR hc,IT];have:(p.AO.take k).length=k:=by simp;omega
   rw[this];simp[BY]
  have hol:=Cn 0 (p.AO.take k);have hw3:IntKind.i64.wrap (Bw k+3)=(k:Int)+3:=by rw[hck,wrap64 (by omega) (by omega)]
  have hcs:=hcm.2.1;generalize BY 0 (p.AO.take k)=os at *
  conv=>whnf
  repeat'((first|refine st ?_|(refine sq ?_;intro K U)|(refine si ?_;intro A B Y Z)|(refine Y _ _ ?_;clear Z B Y A)|(refine U _ _ ?_;clear U K)|refine⟨rfl,?_⟩|refine⟨nb,?_⟩|refine ix ?_|refine ld ?_|refine Hi fun σ hs=>?_|(refine Et (fun hc=>?_)<;>(try rw[hc])<;>clear hc)|(intro nn hnn;generalize hg:BI _ nn _=σ;refine Fy hg fun hs=>?_;clear hg)|fail)<;>conv=>whnf)
  refine C5 c.AN.length (fun j (_:V)=>[(20,eI (Bw j))]) (fun j v=>[.own v 1 (iL (os++List.replicate j ((k:Int)+3))),.box n3 [.l (El (A4 p)) false,v],.box n2 [.l [] true,.l [] true]]) (fun _ _=>True) v rfl trivial (by simpa using hs.less (List.sublist_cons_self _ _)) ?_;clear hs;rintro j v σ hj - hs;rcases B0 c.AN hj with⟨s,hsl,hjlt⟩|hje
  ·have hsv0:=Ie hs 0 rfl
   conv=>whnf
   repeat'((first|refine st ?_|(refine sq ?_;intro K U)|(refine si ?_;intro A B Y Z)|(refine Y _ _ ?_;clear Z B Y A)|(refine U _ _ ?_;clear U K)|refine⟨rfl,?_⟩|refine ld ?_|refine Lq fun σ hs=>?_|refine aq fun v σ hs hsl=>?_|(refine Et (fun hc=>?_)<;>(try rw[hc])<;>clear hc)|clear U K)<;>conv=>whnf)
   have hsv:=Ie hs 0 rfl
   conv=>whnf
   refine⟨hjlt,v,rfl,trivial,?_⟩;rw[List.replicate_succ',←WU];rw[hw3]at hs;exact hs
  ·conv=>whnf
   repeat'((first|refine st ?_|(refine sq ?_;intro K U)|(refine si ?_;intro A B Y Z)|(refine Y _ _ ?_;clear Z B Y A)|(refine U _ _ ?_;clear U K)|refine⟨rfl,?_⟩|(refine F4 (fun hc=>?_)<;>(try rw[hc])<;>clear hc)|clear U K)<;>conv=>whnf)
   exact⟨hlt,v,rfl,trivial,by rw[hap,←hje];exact hs⟩
 ·rw[A5 hke]at hs
  have hsv:=Ie hs 0 rfl
  conv=>whnf
  repeat'((first|refine st ?_|(refine sq ?_;intro K U)|(refine si ?_;intro A B Y Z)|(refine Y _ _ ?_;clear Z B Y A)|(refine U _ _ ?_;clear U K)|refine⟨rfl,?_⟩|refine⟨nb,?_⟩|refine ld ?_|refine Hi fun σ hs=>?_|(refine F4 (fun hc=>?_)<;>(try rw[hc])<;>clear hc)|clear U K)<;>conv=>whnf)
  exact CD (.a (.cons (.refl _) (.cons (hs.I9 0 rfl) .nil)))
end Go.Gl
namespace Go.Proofs
open Go.Shelf
def Tryz.Uc:Go.Shelf.Ren:=⟨fun|189=>135|125=>160|257=>159|128=>205|129=>206|294=>196|295=>197|296=>198|297=>199|298=>200|299=>201|216=>202|300=>203|301=>204|328=>243|329=>244|330=>245|331=>246|332=>247|215=>248|343=>268|n=>n,fun|28=>23|3=>3|46=>193|0=>0|51=>240|53=>182|4=>4|183=>233|182=>232|131=>237|5=>5|9=>9|218=>267|222=>215|228=>300|229=>301|n=>n,fun|n=>n⟩
theorem Tryz.fQ:Go.Proofs.Lays.n189 Tryz.prog Tryz.Uc:={
 mixed:=by kernel_rfl
 f125:=Tryz.func160.trans (congrArg some (by kernel_rfl))
 f128:=Tryz.func205.trans (congrArg some (by kernel_rfl))
 f129:=Tryz.func206.trans (congrArg some (by kernel_rfl))
 f189:=Tryz.func135.trans (congrArg some (by kernel_rfl))
 f215:=Tryz.func248.trans (congrArg some (by kernel_rfl))
 f216:=Tryz.func202.trans (congrArg some (by kernel_rfl))
 f257:=Tryz.func159.trans (congrArg some (by kernel_rfl))
 f294:=Tryz.func196.trans (congrArg some (by kernel_rfl))
 f295:=Tryz.func197.trans (congrArg some (by kernel_rfl))
 f296:=Tryz.func198.trans (congrArg some (by kernel_rfl))
 f297:=Tryz.func199.trans (congrArg some (by kernel_rfl))
 f298:=Tryz.func200.trans (congrArg some (by kernel_rfl))
 f299:=Tryz.func201.trans (congrArg some (by kernel_rfl))
 f300:=Tryz.func203.trans (congrArg some (by kernel_rfl))
 f301:=Tryz.func204.trans (congrArg some (by kernel_rfl))
 f328:=Tryz.func243.trans (congrArg some (by kernel_rfl))
 f329:=Tryz.func244.trans (congrArg some (by kernel_rfl))
 f330:=Tryz.func245.trans (congrArg some (by kernel_rfl))
 f331:=Tryz.func246.trans (congrArg some (by kernel_rfl))
 f332:=Tryz.func247.trans (congrArg some (by kernel_rfl))
 f343:=Tryz.func268.trans (congrArg some (by kernel_rfl))
 t0:=Tryz.underlying0
 a0:=Tryz.isAgg0
 z0:=Tryz.sizeOf0
 v0:=Tryz.zeroValue0
 t3:=Tryz.underlying3
 a3:=Tryz.isAgg3
 z3:=Tryz.sizeOf3
 v3:=Tryz.zeroValue3
 t4:=Tryz.underlying4
 a4:=Tryz.isAgg4
 z4:=Tryz.sizeOf4
 v4:=Tryz.zeroValue4
 t5:=Tryz.underlying5
 a5:=Tryz.isAgg5
 z5:=Tryz.sizeOf5
 v5:=Tryz.zeroValue5
 t9:=Tryz.underlying9
 a9:=Tryz.isAgg9
 z9:=Tryz.sizeOf9
 v9:=Tryz.zeroValue9
 t28:=Tryz.underlying23
 a28:=Tryz.isAgg23
 z28:=Tryz.sizeOf23
 v28:=Tryz.zeroValue23
 t46:=Tryz.underlying193
 a46:=Tryz.isAgg193
 z46:=Tryz.sizeOf193
 v46:=Tryz.zeroValue193
 t51:=Tryz.underlying240
 a51:=Tryz.isAgg240
 z51:=Tryz.sizeOf240
 v51:=Tryz.zeroValue240
 t53:=Tryz.underlying182
 a53:=Tryz.isAgg182
 z53:=Tryz.sizeOf182
 v53:=Tryz.zeroValue182
 t131:=Tryz.underlying237
 a131:=Tryz.isAgg237
 z131:=Tryz.sizeOf237
 v131:=Tryz.zeroValue237
 t182:=Tryz.underlying232
 a182:=Tryz.isAgg232
 z182:=Tryz.sizeOf232
 v182:=Tryz.zeroValue232
 t183:=Tryz.underlying233
 a183:=Tryz.isAgg233
 z183:=Tryz.sizeOf233
 v183:=Tryz.zeroValue233
 t218:=Tryz.underlying267
 a218:=Tryz.isAgg267
 z218:=Tryz.sizeOf267
 v218:=Tryz.zeroValue267
 t222:=Tryz.underlying215
 a222:=Tryz.isAgg215
 z222:=Tryz.sizeOf215
 v222:=Tryz.zeroValue215
 t228:=Tryz.underlying300
 a228:=Tryz.isAgg300
 z228:=Tryz.sizeOf300
 v228:=Tryz.zeroValue300
 t229:=Tryz.underlying301
 a229:=Tryz.isAgg301
 z229:=Tryz.sizeOf301
 v229:=Tryz.zeroValue301}
end Go.Proofs
namespace Go.Gl
open Go.Proofs Go.Shelf
abbrev Nx (x y:Int):Bool:=decide (x≤y)
theorem bk {P:Program} {f:FuncId} (hok:okF P f=true)
 (hc: ∀(blk cap:Nat) (zs:List Int) (w:World),Sort.Holds (Value.int .i64) w blk 0 zs.toArray→blk<w.heap.size→zs.length<4611686018427387904→
  Calls P f #[.slice (some ⟨blk,0,none⟩) zs.length cap] w fun e w'=>e= .returned (.tuple #[])∧ ∃n os,w'=Sort.grow (Sort.putRow (Value.int .i64) (Sort.ahead w n) blk 0 (zs.mergeSort fun x y=>decide (x≤y)).toArray) os)
 (xs:List Int) (n len cap:Nat):CL P f [.sl n len cap] [.own (.sl n len cap) 1 (iL xs)] fun r post=>r= .ret (.t [])∧post= [.own (.sl n len cap) 1 (iL (xs.mergeSort Nx))]:=by
 intro σ hs;refine⟨hok,fun Λ w cs G hv=>?_⟩;rcases hs.get (i:=0) rfl with⟨h,_⟩|⟨n',cap',h,hn⟩
 ·cases h
 cases h;rw[B2]at hv;obtain⟨c,e,hb,h1,h2,h3,h4⟩:=Ex G hn;rw[B2]at h2 h3;have hM:Ak=17592186044416:=rfl;rw[BH]at h4
 have hcell: ∀j x,xs[j]? =some x→c[j]? =some (Value.int .i64 x)∧IntKind.i64.min≤x∧x≤IntKind.i64.max:=fun j x hx=>by
  have:=(h4 j [.i .i64 x] (by rw[Pu,hx];rfl)).2;simp only[Bk,Nat.mul_one,Nat.zero_add]at this;obtain⟨⟨d,hd,hr⟩,_⟩:=this;simp only[Af]at hr;obtain⟨rfl,hr⟩:=hr;exact⟨hd,hr⟩
 have hcs:cs= #[.slice (some ⟨n,0,none⟩) xs.length cap]:=by
  obtain⟨hsz,hv⟩:=hv;simp only[Bk,Af]at hv;obtain⟨⟨d,hd,rfl,_⟩,_⟩:=hv;simp at hsz;apply Array.ext_getElem?;intro i;rcases i with _|i
  ·simpa using hd
  ·rw[Array.getElem?_eq_none (by omega),Array.getElem?_eq_none (by simp)]
 subst hcs
 have hH:Sort.Holds (Value.int .i64) w n 0 xs.toArray:=fun j hj=>by
  have hj':j<xs.length:=by simpa using hj
  obtain⟨h5,_⟩:=hcell j xs[j] (E4 hj');refine⟨?_,?_⟩
  ·rw[Nat.zero_add,Di hb,h5]
   simp[getElem!_pos,hj']
  ·rw[Nat.zero_add];exact PK hb
 refine(hc n cap xs w hH (G.lt hn) (by omega)).mono fun e' w' ⟨he,k,os,hw⟩=>?_
 subst he;have hlen:(xs.mergeSort Nx).length=xs.length:=List.length_mergeSort _
 have hheap: ∀m,m<w.heap.size→w'.heap[m]? =if m=n then some (.cells (Sort.putCells (Value.int .i64) 0 (xs.mergeSort Nx).toArray c) e (0,0))else w.heap[m]? :=fun m hm=>by
  rw[hw];simp only[Sort.grow,Sort.putRow,Sort.mapBlock,Sort.ahead];rw[Array.getElem?_append_left (by simpa using hm),Array.getElem?_modify];by_cases e1:n=m
  ·subst e1
   rw[if_pos rfl,if_pos rfl,hb];rfl
  ·rw[if_neg e1,if_neg (Ne.symm e1)]
 have hadv:CY Λ σ w (BI σ n (.arr 1 (iL (xs.mergeSort Nx)) cap)) w':=by
  refine⟨fun m hm h0=>?_,?_,by rw[hw];rfl,by rw[hw];rfl,by rw[hw];rfl,fun m h0 _=>?_⟩
  ·rw[hheap m hm,if_neg]
   intro e1;subst e1;rw[hn]at h0;cases h0
  ·rw[hw];simp[Sort.grow]
  ·rw[Cz _ _ (fun e1=>by subst e1;rw[hn]at h0;cases h0)];exact h0
 refine⟨.ret (.t []),BI σ n (.arr 1 (iL (xs.mergeSort Nx)) cap),⟨_,⟨rfl,rfl⟩,?_⟩,?_,?_,hadv⟩
 ·refine⟨fun a ha=>?_,List.pairwise_singleton _ _⟩
  rw[List.mem_singleton.1 ha];exact .inr ⟨n,cap,by simp[hlen],Dd _ _ _⟩
 ·exact⟨_,rfl,by simp[Af,Bk]⟩
 ·refine G.step hadv fun m o ho=>?_
  by_cases e1:m=n
  ·subst e1
   rw[Dd]at ho;cases ho;refine .inr ⟨(G.own _ _ hn).1,_,(hheap m (G.lt hn)).trans (if_pos rfl),_,_,rfl,by simpa[Sort.putCells]using h1,by simpa[hlen]using h2,by simpa[hlen]using h3,?_⟩;rw[BH];intro i r hi;rw[Pu]at hi;cases hx:(xs.mergeSort Nx)[i]? with
   | none=>rw[hx]at hi;cases hi
   | some x=>
     rw[hx]at hi;cases hi;have hil:i<xs.length:=by have:=(List.getElem?_eq_some_iff.1 hx).1;omega
     have hxm:x∈xs:=(List.mergeSort_perm xs Nx).mem_iff.1 (DL hx);obtain⟨j,hj⟩:=List.getElem?_of_mem hxm;have hbd:=(hcell j x hj).2;obtain⟨hci,_⟩:=hcell i xs[i] (E4 hil);have hcl:i<c.size:=(rX.1 hci).1;refine⟨rfl,?_⟩;simp only[Bk,Nat.mul_one,Nat.zero_add,Af,and_true];refine⟨_,?_,rfl,hbd⟩;simp only[Sort.putCells,Array.getElem?_mapIdx];rw[hci];have hxe:=(List.getElem?_eq_some_iff.1 hx).2;simp[hlen,hil,getElem!_pos,hxe]
  ·rw[Cz _ _ e1]at ho
   exact .inl ⟨ho,(hheap m (G.lt ho)).trans (if_neg e1)⟩
theorem eM (xs:List Int) (n len cap:Nat):CL Tryz.prog 135 [.sl n len cap] [.own (.sl n len cap) 1 (iL xs)] fun r post=>r= .ret (.t [])∧post= [.own (.sl n len cap) 1 (iL (xs.mergeSort Nx))]:=
 bk (by kernel_rfl) (fun blk cap zs w h1 h2 h3=>Any.slices_Sort_int Tryz.fQ blk 0 cap zs w h1 h2 h3) xs n len cap
end Go.Gl
namespace Go.Gl
open Go.Proofs
attribute [local irreducible] Bj Bf Ba Al Aa BS Ao Aq Ac BO Ah Ap Bz CA Sat A7 B8 Be W
theorem tL:Pure Tryz.prog 206 [.i .u64 0] (eI 0):=by
 refine wB nb ?_;have hs:=Sn
 conv=>whnf
 repeat'((first|refine st ?_|(refine sq ?_;intro K U)|(refine si ?_;intro A B Y Z)|(refine Y _ _ ?_;clear Z B Y A)|(refine U _ _ ?_;clear U K)|refine⟨rfl,?_⟩|(constructor<;>intro hc<;>(try rw[hc])<;>(replace hc:=bp hc)<;>try(exfalso;omega))|fail)<;>conv=>whnf)
 refine⟨by decide,?_⟩
 conv=>whnf
 repeat'((first|refine st ?_|(refine Y _ _ ?_;clear Z B Y A)|(refine U _ _ ?_;clear U K)|refine⟨rfl,?_⟩|fail)<;>conv=>whnf)
 all_goals exact AM rfl
theorem tM:Pure Tryz.prog 160 [.i .u64 0] (eI 0):=by
 refine wc nb ?_;have hs:=Sn
 conv=>whnf
 repeat'((first|refine st ?_|(refine sq ?_;intro K U)|(refine si ?_;intro A B Y Z)|(refine Y _ _ ?_;clear Z B Y A)|(refine U _ _ ?_;clear U K)|refine Pure.use tL ?_|fail)<;>conv=>whnf)
 all_goals exact AM rfl
theorem tS:Pure Tryz.prog 196 [.l [] true,eI 0,eI 0] (.t []):=by
 refine wD nb ?_;have hs:=Sn
 conv=>whnf
 repeat'((first|refine st ?_|(refine sq ?_;intro K U)|(refine si ?_;intro A B Y Z)|(refine Y _ _ ?_;clear Z B Y A)|(refine U _ _ ?_;clear U K)|refine⟨rfl,?_⟩|fail)<;>conv=>whnf)
 refine J2 (fun(_:Unit)=>0) (fun _=>[(6,eI 1)]) (fun _=>[]) (fun _=>True) () rfl trivial hs ?_;clear hs;rintro - σ - hs
 conv=>whnf
 repeat'((first|refine st ?_|(refine sq ?_;intro K U)|(refine si ?_;intro A B Y Z)|(refine Y _ _ ?_;clear Z B Y A)|(refine U _ _ ?_;clear U K)|refine⟨rfl,?_⟩|(constructor<;>intro hc<;>(try rw[hc])<;>(replace hc:=bp hc)<;>try(exfalso;omega))|clear U K)<;>conv=>whnf)
 all_goals exact AM rfl
theorem sZ:Pure Tryz.prog 159 [.l [] true,eI 0,eI 0,eI 0] (.t []):=by
 refine we nb ?_;have hs:=Sn
 conv=>whnf
 repeat'((first|refine st ?_|(refine sq ?_;intro K U)|(refine si ?_;intro A B Y Z)|(refine Y _ _ ?_;clear Z B Y A)|(refine U _ _ ?_;clear U K)|fail)<;>conv=>whnf)
 refine J2 (fun(_:Unit)=>0) (fun _=>[]) (fun _=>[]) (fun _=>True) () rfl trivial hs ?_;clear hs;rintro - σ - hs
 conv=>whnf
 repeat'((first|refine st ?_|(refine sq ?_;intro K U)|(refine si ?_;intro A B Y Z)|(refine Y _ _ ?_;clear Z B Y A)|(refine U _ _ ?_;clear U K)|refine⟨rfl,?_⟩|refine Pure.use tS ?_|(constructor<;>intro hc<;>(try rw[hc])<;>(replace hc:=bp hc)<;>(try simp(disch:=omega) only[B2,wrap64,AU]at hc)<;>try(exfalso;omega))|clear U K)<;>conv=>whnf)
 all_goals exact AM rfl
theorem bn:Pure Tryz.prog 135 [.l [] true] (.t []):=by
 refine xD nb ?_;have hs:=Sn
 conv=>whnf
 repeat'((first|refine st ?_|(refine sq ?_;intro K U)|(refine si ?_;intro A B Y Z)|(refine Y _ _ ?_;clear Z B Y A)|(refine U _ _ ?_;clear U K)|refine Pure.use tM ?_|refine Pure.use sZ ?_|fail)<;>conv=>whnf)
 all_goals exact AM rfl
theorem lL {xs:List Int} {v:V} (hv:(EW v).isSome=true∨(v= .l [] true∧xs= [])):CL Tryz.prog 135 [v] [.own v 1 (iL xs)] fun r post=>r= .ret (.t [])∧post= [.own v 1 (iL (xs.mergeSort Nx))]:=by
 rcases hv with hv|⟨rfl,rfl⟩
 ·obtain⟨n,l,c,rfl⟩:=lM hv
  exact eM xs n l c
 ·intro σ hs
  have:=bn.use (σ:=σ) (k:=fun v σ'=>v= .t []∧σ'=σ) (kp:=fun _ _=>False) ⟨rfl,rfl⟩;refine Bj.mono this ?_;rintro(u|u) σ' hq
  ·obtain⟨rfl,rfl⟩:=hq
   exact⟨_,⟨rfl,rfl⟩,by simpa using hs⟩
  ·exact hq.elim
theorem Uh {b:Nat} {σ:AH} {sz:Nat} {v:V} {ys:List (List V)} {f:Bool} {K:V→AH→Prop} (h:Aa b σ sz v (.l ys f) fun v' σ'=>((EW v').isSome=true∨(v'=v∧ys= []))→K v' σ'):Aa b σ sz v (.l ys f) K:=by
 unfold Aa at *;obtain⟨h1,h2,h3⟩:=h;refine⟨h1,h2,?_⟩;cases v with
 | l es full=>exact⟨h3.1,h3.2.1,fun e=>h3.2.2.1 e (.inr ⟨rfl,e⟩),fun e=>⟨(h3.2.2.2 e).1,fun n cap hn hc=>(h3.2.2.2 e).2 n cap hn hc (.inl rfl)⟩⟩
 | sl n len cap=>
   simp only at h3 ⊢;split at h3
   ·exact⟨h3.1,h3.2.1,h3.2.2.1,h3.2.2.2.1,fun n' cap' hn hc=>h3.2.2.2.2 n' cap' hn hc (.inl rfl)⟩
   ·exact h3.elim
 | _=>exact h3.elim
def Uy (M:List Int):List (V×V):=M.map fun k=>(eI k,.b true)
def RC (M:List Int) (k:Int):List Int:=if M.contains k then M else M++[k]
theorem Tl (M:List Int) (k b:Int):(RC M k).contains b=(M.contains b||b==k):=by
 unfold RC;split
 ·rename_i h
  by_cases hb:b=k
  ·subst hb;simpa using h
  ·have:(b==k)=false:=by simpa using hb
   rw[this,Bool.or_false]
 ·simp[List.contains_append]
  rfl
theorem fS (M:List Int) (k:Int):Dy (eI k) (.b true) (Uy M)=Uy (RC M k):=by
 induction M with
 | nil=>rfl
 | cons x r ih=>
   simp only[Uy,List.map_cons,Dy]at *;have he:D0 (eI k) (eI x)=(k==x):=rfl;rw[he];cases hx:k==x
   ·rw[cond_false,ih]
    unfold RC;have:(x::r).contains k=r.contains k:=by rw[List.contains_cons,hx,Bool.false_or]
    rw[this];split<;>simp
   ·rw[cond_true]
    have hk:k=x:=by simpa using hx
    subst hk;unfold RC;simp
theorem cL (M:List Int) (k:Int):found (.b false) false (Cr (eI k) (Uy M))= .b (M.contains k):=by
 induction M with
 | nil=>rfl
 | cons x r ih=>
   simp only[Uy,List.map_cons,Cr]at *;have he:D0 (eI k) (eI x)=(k==x):=rfl;rw[he,List.contains_cons];cases k==x
   ·simpa using ih
   ·rfl
theorem Tv (M:List Int): ∀kv∈Uy M,Bb (.i .i64) kv.1=true:=by
 intro kv h;obtain⟨e,_,rfl⟩:=Nv.1 h;rfl
theorem lkK {σ:AH} {l:List At} {i mm:Nat} {M:List Int} {k:Int} {K:V→Prop} (hk:K (.b (M.contains k))) (h:Sat σ l:=by assumption)
 (hi:l[i]? =some (.map mm (Uy M)):=by first|exact Q8|exact Q7|exact Q6|exact Q5|exact Q4|exact Q3):Ah σ (.i .i64) (.b false) false (.m mm) (eI k) K:=
 SF h i hi rfl (Tv M) (by rw[cL];exact hk)
theorem msK {σ:AH} {l:List At} {i mm:Nat} {M:List Int} {k:Int} {K:AH→Prop} (hk: ∀σ',Sat σ' (l.set i (.map mm (Uy (RC M k))))→K σ') (h:Sat σ l:=by assumption)
 (hi:l[i]? =some (.map mm (Uy M)):=by first|exact Q8|exact Q7|exact Q6|exact Q5|exact Q4|exact Q3):Ap σ (.i .i64) (.m mm) (eI k) (.b true) K:=
 K3 h i hi rfl (Tv M) (fun σ' hs=>hk σ' (by rw[fS]at hs;exact hs))
def Iu (p:Prog) (c:Nat):Pc:=p.AO.getD (c - 3) default
def EI (p:Prog) (c:Nat):Nat→List Int
 | 0=>[]
 | k+1=>if Je (A4 p) c (c - k)then EI p c k++(Iu p (c - k)).AN else EI p c k
theorem sa {ps:List (List Int)} (ho:ordered ps) {n c:Nat} (hc:c<n) (k:Nat): ∀p∈par ps (c - k),0≤p∧p.toNat<(G9 ps n c k).length∧p.toNat<c - k:=fun p hp=>by
 have:=ho _ _ hp;rw[Kz];omega
theorem TY {ps:List (List Int)} (ho:ordered ps) {n c:Nat} (hc:c<n) (k b:Nat):(G9 ps n c (k+1)).getD b false=((G9 ps n c k).getD b false||((G9 ps n c k).getD (c - k) false&&(par ps (c - k)).contains (b:Int))):=by
 rw[G9,MR _ _ (sa ho hc k)]
theorem TZ {ps:List (List Int)} (ho:ordered ps) {n c:Nat} (hc:c<n) (k:Nat): ∀(m:Nat) (b:Nat),c - k≤b→(G9 ps n c (k+m)).getD b false=(G9 ps n c k).getD b false
 | 0,_,_=>rfl
 | m + 1,b,h=>by
   rw[←Nat.add_assoc,TY ho hc,TZ ho hc k m b h]
   have:(par ps (c - (k+m))).contains (b:Int)=false:=by
    cases hb:(par ps (c - (k+m))).contains (b:Int)
    ·rfl
    ·have:=ho _ _ (List.contains_iff_mem.1 hb)
     omega
   rw[this,Bool.and_false,Bool.or_false]
theorem Z9 {ps:List (List Int)} (ho:ordered ps) {n c:Nat} (hc:c<n) {k:Nat} (hk:k≤c - 2):(G9 ps n c k).getD (c - k) false=Je ps c (c - k):=by
 rw[←Wo ho hc (c - k),←TZ ho hc k (c - 2 - k) (c - k) (Nat.le_refl _)];congr 2;omega
theorem PL (b:Int): ∀(l M:List Int),(l.foldl RC M).contains b=(M.contains b||l.contains b)
 | [],M=>by simp
 | x::r,M=>by
   rw[List.foldl_cons,PL b r,Tl,List.contains_cons,Bool.or_assoc]
theorem r7 {σ:AH} {l:List At} {i mm:Nat} {M:List Int} {k:Int} {b:Bool} {K:V→Prop} (e:M.contains k=b) (hk:K (.b b)) (h:Sat σ l:=by assumption)
 (hi:l[i]? =some (.map mm (Uy M)):=by first|exact Q8|exact Q7|exact Q6|exact Q5|exact Q4|exact Q3):Ah σ (.i .i64) (.b false) false (.m mm) (eI k) K:=lkK (e ▸ hk) h hi
theorem tV (p : Prog) (c:Nat) (h10:p.AO.length≤10) (hsl:C0 0 p.AO=true) (hg:Dz (A4 p)=true) (hc3:3≤c) (hc:c<3+p.AO.length) :
 Pure Tryz.prog 210 [.a (Br p),eI c] (.l (iL ((EI p c (c - 2)).mergeSort Nx)) false):=by
 refine Pure.fit (by kernel_rfl) fun hf=>?_
 have F:=Mq hf.1;have hM:=Mx;have hG:=D4 hg;have ho:=JS hG;have hgl:(A4 p).length=p.AO.length:=by simp[A4]
 refine v7 nb ?_;have hs:=Sn
 conv=>whnf
 repeat'((first|(refine sq ?_;intro K U)|(refine si ?_;intro A B Y Z)|(refine Y _ _ ?_;clear Z B Y A)|(refine U _ _ ?_;clear U K)|(intro nn hnn;generalize hg:BI _ nn _=σ;refine Fy hg fun hs=>?_;clear hg)|fail)<;>conv=>whnf)
 replace hs:Sat σ [.map nn (Uy [])]:=hs
 conv=>whnf
 repeat'((first|refine st ?_|(refine sq ?_;intro K U)|(refine si ?_;intro A B Y Z)|(refine Y _ _ ?_;clear Z B Y A)|(refine U _ _ ?_;clear U K)|refine msK (fun σ hs=>?_)|fail)<;>conv=>whnf)
 generalize nn=mm at *;replace hs:Sat σ [.map mm (Uy [(c:Int)])]:=hs
 refine C5 (c - 2) (fun k (x:List Int×V)=>[(6,x.2),(7,eI ((c:Int) - k))]) (fun k x=>[.own x.2 1 (iL (EI p c k)),.map mm (Uy x.1)])
  (fun k x=>(∀b:Nat,b<3+(A4 p).length→x.1.contains (b:Int)=(G9 (A4 p) (3+(A4 p).length) c k).getD b false)∧((EW x.2).isSome=true∨(x.2= .l [] true∧EI p c k= []))∧(EI p c k).length≤4*k) ([(c:Int)],.l [] true) ?_ ⟨?_,.inr ⟨rfl,rfl⟩,by simp[EI]⟩ (Ga hs 1) ?_
 ·simp[Nz,get]
  exact⟨rfl,rfl,rfl⟩
 ·intro b hb
  simp only[G9];rw[GH (by simp;omega)];by_cases hbc:b=c
  ·subst hbc;simp
  ·rw[if_neg hbc]
   have:((c:Int)==(b:Int))=false:=by simp;omega
   simp[E9,List.getElem?_replicate];split<;>simp<;>omega
 clear hs;rintro k ⟨M,v⟩ σ hk ⟨hMb,hv,hml⟩ hs;dsimp only at hMb hv hs;rcases Nat.lt_or_ge k (c - 2)with hlt|hge
 ·have hkc:M.contains ((c:Int) - k)=Je (A4 p) c (c - k):=by
   have:=hMb (c - k) (by omega);rw[Z9 ho (by omega) (by omega)]at this;rw[←this];congr 1;omega
  have hcl:p.AO[(IntKind.i64.wrap ((c:Int) - k - 3)).toNat]? =some (Iu p (c - k)):=by
   rw[wrap64 (by omega) (by omega),show((c:Int) - k - 3).toNat=c - k - 3 by omega,Iu,E9,E4 (by omega)];rfl
  have hwi:0≤IntKind.i64.wrap ((c:Int) - k - 3):=by rw[wrap64 (by omega) (by omega)];omega
  have hw1:IntKind.i64.wrap ((c:Int) - k - 1)=(c:Int) - (k+1:Nat):=by rw[wrap64 (by omega) (by omega)];omega
  have hmt:EI p c (k+1)=if Je (A4 p) c (c - k)then EI p c k++(Iu p (c - k)).AN else EI p c k:=rfl
  have hpar:(Iu p (c - k)).parents=par (A4 p) (c - k):=by
   unfold par Iu A4;rw[if_neg (by omega),E9,E9,Pu,E4 (by omega)];rfl
  have hcm:=F.2 _ (DL hcl);have hs4:=((FF _ _ hsl).2 _ (DL hcl)).2;have hst:=fun b=>TY ho (show c<3+(A4 p).length by omega) k b
  rw[Z9 ho (by omega) (by omega),←hpar]at hst;generalize Iu p (c - k)=cl at *;cases hb:Je (A4 p) c (c - k)
  ·rw[hb]at hkc hmt hst
   rw[if_neg (by decide)]at hmt
   conv=>whnf
   repeat'((first|refine st ?_|(refine sq ?_;intro K U)|(refine si ?_;intro A B Y Z)|(refine Y _ _ ?_;clear Z B Y A)|(refine U _ _ ?_;clear U K)|refine⟨rfl,?_⟩|refine r7 hkc ?_|(constructor<;>intro hc<;>(try rw[hc])<;>(replace hc:=bp hc)<;>try(exfalso;omega))|clear U K)<;>conv=>whnf)
   all_goals try(exfalso;omega)
   rw[hw1];exact⟨hlt,(M,v),rfl,⟨fun b hb=>by rw[hMb b hb,hst b];simp,by rw[hmt];exact hv,by rw[hmt];omega⟩,by rw[hmt];exact hs⟩
  ·rw [hb] at hkc hmt hst
   rw[if_pos rfl]at hmt
   conv=>whnf
   repeat'((first|refine st ?_|(refine sq ?_;intro K U)|(refine si ?_;intro A B Y Z)|(refine Y _ _ ?_;clear Z B Y A)|(refine U _ _ ?_;clear U K)|refine⟨rfl,?_⟩|refine Sp ?_|refine r7 hkc ?_|(constructor<;>intro hc<;>(try rw[hc])<;>(replace hc:=bp hc)<;>try(exfalso;omega))|fail)<;>conv=>whnf)
   all_goals try(exfalso;omega)
   refine Uh (Kq hs 0 rfl (by omega) DC fun v' σ hs hv'=>?_);rw[←hmt]at hs
   conv=>whnf
   repeat'((first|refine st ?_|(refine sq ?_;intro K U)|(refine si ?_;intro A B Y Z)|(refine Y _ _ ?_;clear Z B Y A)|(refine U _ _ ?_;clear U K)|refine⟨rfl,?_⟩|refine Sp ?_|fail)<;>conv=>whnf)
   refine C5 cl.parents.length (fun j (_:List Int)=>[(38,eI (Bw j))]) (fun _ M=>[.own v' 1 (iL (EI p c (k+1))),.map mm (Uy M)]) (fun j M'=>M'=(cl.parents.take j).foldl RC M) M rfl rfl hs ?_;clear hs;rintro j M' σ hj hM' hs;rcases B0 cl.parents hj with⟨q,hq,hjlt⟩|hje
   ·conv=>whnf
    repeat'((first|refine st ?_|(refine sq ?_;intro K U)|(refine si ?_;intro A B Y Z)|(refine Y _ _ ?_;clear Z B Y A)|(refine U _ _ ?_;clear U K)|refine⟨rfl,?_⟩|refine ix ?_|(refine Et (fun hc=>?_)<;>(try rw[hc])<;>clear hc)|refine msK (fun σ hs=>?_)|clear U K)<;>conv=>whnf)
    exact⟨hjlt,_,rfl,by rw[AR hq,List.foldl_append,←hM'];rfl,hs⟩
   ·rw [A5 hje]at hM'
    conv=>whnf
    repeat'((first|refine st ?_|(refine sq ?_;intro K U)|(refine si ?_;intro A B Y Z)|(refine Y _ _ ?_;clear Z B Y A)|(refine U _ _ ?_;clear U K)|refine⟨rfl,?_⟩|(refine F4 (fun hc=>?_)<;>(try rw[hc])<;>clear hc)|clear U K)<;>conv=>whnf)
    rw[hw1];refine⟨hlt,(M',v'),rfl,⟨fun b hb=>?_,?_,?_⟩,hs⟩
    ·rw[hM',PL,hMb b hb,hst b,Bool.true_and]
    ·rcases hv' with hv'|⟨rfl,he⟩
     ·exact .inl hv'
     ·rcases hv with hv|⟨hv,hm0⟩
      ·exact .inl hv
      ·refine .inr ⟨hv,?_⟩
       rw[hmt,hm0,List.map_eq_nil_iff.1 he];rfl
    ·rw[hmt,Sl];omega
 ·have hkk:k=c - 2:=by omega
  rw[hkk]at hs hv hml;clear hMb
  conv=>whnf
  repeat'((first|refine st ?_|(refine sq ?_;intro K U)|(refine si ?_;intro A B Y Z)|(refine Y _ _ ?_;clear Z B Y A)|(refine U _ _ ?_;clear U K)|refine⟨rfl,?_⟩|(constructor<;>intro hc<;>(try rw[hc])<;>(replace hc:=bp hc)<;>try(exfalso;omega))|clear U K)<;>conv=>whnf)
  all_goals try(exfalso;omega)
  refine(lL hv).use (rest:=[_]) hs ?_;clear hs;rintro r post σ ⟨rfl,rfl⟩ hs
  conv=>whnf
  repeat'((first|(refine sq ?_;intro K U)|(refine si ?_;intro A B Y Z)|(refine Y _ _ ?_;clear Z B Y A)|(refine U _ _ ?_;clear U K)|fail)<;>conv=>whnf)
  refine(xY _ v (by rw[List.length_mergeSort];omega)).use (rest:=[_]) hs ?_;clear hs;rintro r post σ ⟨rfl,rfl⟩ hs
  conv=>whnf
  repeat'((first|refine st ?_|(refine Y _ _ ?_;clear Z B Y A)|(refine U _ _ ?_;clear U K)|fail)<;>conv=>whnf)
  exact CD Zz
theorem PC {p:Prog} {c:Nat} (s:Int): ∀k,s∈EI p c k↔ ∃j,j<k∧Je (A4 p) c (c - j)=true∧s∈(Iu p (c - j)).AN
 | 0=>by simp[EI]
 | k + 1 =>by
   rw[EI];have ih:=PC (p:=p) (c:=c) s k;constructor
   ·intro h
    split at h
    ·rename_i hu
     rcases Fo.1 h with h|h
     ·obtain⟨j,h1,h2⟩:=ih.1 h
      exact⟨j,by omega,h2⟩
     ·exact⟨k,by omega,hu,h⟩
    ·obtain⟨j,h1,h2⟩:=ih.1 h
     exact⟨j,by omega,h2⟩
   ·rintro⟨j,h1,h2,h3⟩
    by_cases hj:j=k
    ·subst hj
     rw[if_pos h2];exact Fo.2 (.inr h3)
    ·have:=ih.2 ⟨j,by omega,h2,h3⟩
     split
     ·exact Fo.2 (.inl this)
     ·exact this
theorem Tg: ∀(l:List Int) (n s:Int),Ki n l=true→(s∈l↔n≤s∧s<n+l.length)
 | [],n,s,_=>by simp<;>omega
 | x::r,n,s,h=>by
   simp only[Ki,Bn,FQ]at h;obtain⟨rfl,h⟩:=h;have:=Tg r (x+1) s h;rw[IF,this,NW];omega
theorem QN: ∀(cs:List Pc) (i:Nat) (n s:Int),C0 n cs=true→0≤n→ ∀(j:Nat) (c:Pc),cs[j]? =some c→(s∈c.AN↔n≤s∧s<n+(B3 cs:Int)∧(BY i cs).getD (s - n).toNat 0=((i+j:Nat):Int)+3)
 | [],_,_,_,_,_,_,_,h=>by cases h
 | d ::r,i,n,s,h,h0,j,c,hj=>by
   simp only[C0,Bn,D8]at h;obtain⟨-,-,hq,hr⟩:=h;have hm:=Tg d.AN n s hq;have hml:(B3 (d::r):Int)=d.AN.length+B3 r:=by simp[B3]
   have hgd:n≤s→(BY i (d::r)).getD (s - n).toNat 0=if s<n+d.AN.length then(i:Int)+3 else(BY (i+1) r).getD (s - (n+d.AN.length)).toNat 0:=fun hns=>by
    simp only[BY,E9];split
    ·rw[rZ (by simp;omega),List.getElem?_replicate,if_pos (by omega)]
     rfl
    ·rw[List.getElem?_append_right (by simp;omega)]
     congr 2;simp;omega
   have hout: ∀q,q∈BY (i+1) r→(3:Int)+((i+1:Nat):Int)≤q:=fun q hq=>(Fx hq).1
   cases j with
   | zero=>
     simp at hj;subst hj;rw[hm,hml];constructor
     ·rintro⟨h1,h2⟩
      refine⟨h1,by omega,?_⟩;rw[hgd h1,if_pos h2];simp
     ·rintro⟨h1,h2,h3⟩
      refine⟨h1,?_⟩;rw[hgd h1]at h3;by_cases hlt:s<n+d.AN.length
      ·exact hlt
      ·rw[if_neg hlt,E9]at h3
       have hlen:(s - (n+d.AN.length)).toNat<(BY (i+1) r).length:=by rw[Cn];omega
       rw[E4 hlen]at h3;have:=hout _ (List.getElem_mem hlen);simp at h3;omega
   | succ j=>
     simp at hj;have ih:=QN r (i+1) (n+d.AN.length) s hr (by omega) j c hj;rw[ih,hml];constructor
     ·rintro⟨h1,h2,h3⟩
      refine⟨by omega,by omega,?_⟩;rw[hgd (by omega),if_neg (by omega),h3];omega
     ·rintro⟨h1,h2,h3⟩
      rw[hgd h1]at h3;by_cases hlt:s<n+d.AN.length
      ·rw[if_pos hlt]at h3;omega
      ·rw[if_neg hlt]at h3
       exact⟨by omega,by omega,by rw[h3];omega⟩
theorem cD {p:Prog} {c:Nat} (hsl:C0 0 p.AO=true) (ho:ordered (A4 p)) (hc3:3≤c) (hc:c<3+p.AO.length) (s:Int) :
 ((EI p c (c - 2)).mergeSort Nx).contains s=(decide (0≤s)&&(decide (s<(B3 p.AO:Int))&&hasB (Ae p) (c:Int) s)):=by
 rw[Bool.eq_iff_iff,List.contains_iff_mem,(List.mergeSort_perm _ Nx).mem_iff,PC];simp only[Bn,D8,hasB]
 have hown: ∀j,j<c - 2→(s∈(Iu p (c - j)).AN↔0≤s∧s<(B3 p.AO:Int)∧D9 (Ae p) s=((c - j:Nat):Int)):=fun j hj=>by
  have hcl:p.AO[c - j - 3]? =some (Iu p (c - j)):=by
   rw[Iu,E9,E4 (by omega)];rfl
  have:=QN p.AO 0 0 s hsl (by omega) (c - j - 3) _ hcl;rw[this];simp only[Int.sub_zero,Int.zero_add,D9,Ae];constructor
  ·rintro⟨h1,h2,h3⟩;exact⟨h1,h2,by rw[h3];omega⟩
  ·rintro⟨h1,h2,h3⟩;exact⟨h1,h2,by rw[h3];omega⟩
 constructor
 ·rintro⟨j,h1,h2,h3⟩
  obtain⟨h4,h5,h6⟩:=(hown j h1).1 h3;refine⟨h4,h5,by omega,?_⟩;rw[h6];simp only[S5,Bool.or_eq_true,Bn,D8];exact .inr (.inr ⟨by omega,by simpa[Ae]using h2⟩)
 ·rintro⟨h1,h2,h3,h4⟩
  have hmem:D9 (Ae p) s∈BY 0 p.AO:=by
   have hlen:s.toNat<(BY 0 p.AO).length:=by rw[Cn];omega
   have:D9 (Ae p) s=(BY 0 p.AO)[s.toNat]:=by
    simp only[D9,Ae,E9,E4 hlen];rfl
   rw[this];exact List.getElem_mem hlen
  have hb:=Fx hmem
  have hup:Je (A4 p) c (D9 (Ae p) s).toNat=true:=by
   simp only[S5,Bool.or_eq_true,Bn,D8,FQ]at h4;rcases h4 with h4|h4|⟨_,h4⟩
   ·rw[←h4,Int.toNat_natCast];exact HM ho c
   ·omega
   ·simpa[Ae]using h4
  have hle:=aB ho _ _ hup;refine⟨c - (D9 (Ae p) s).toNat,by omega,?_,?_⟩
  ·rw[show c - (c - (D9 (Ae p) s).toNat)=(D9 (Ae p) s).toNat by omega]
   exact hup
  ·refine(hown _ (by omega)).2 ⟨h1,h2,by omega⟩
end Go.Gl
