import Derived.Shelf.Sort.Plain
import Derived.Test.YtegbmnmnaijioaaGreatProg
import Derived.Test.YtegbmnmnaijioaaGreatX6
import Derived.Test.YtegbmnmnaijioaaGreatX8
set_option linter.all false
set_option linter.defProp false
set_option maxHeartbeats 8000000
noncomputable section
namespace Go.Gl
open Go.Proofs
attribute [local irreducible] Ar Aj AZ AQ AL AX AP AR AJ AW AM AN Am Av Sat AT As Aa W
def oR (s c:Nat) (hs0:s<18446744073709551616) (hc:c<64):Pure zP 366 [.a [eU s],eI c] (.a [eU (s|||2 ^ c)]):=by
 refine vO kZ ?_;have hs:=Sn
 conv=>whnf
 repeat'((first|clear U K|apply st|(apply zk;intro K U)|refine zY ?_|refine zs fun Z hs=>?_|refine⟨Int.natCast_nonneg _,?_⟩|refine zo fun nn hnn Z hs=>?_|fail)<;>conv=>whnf)
 refine AG ?_;simp only[HP,Uq hc,HG hs0 (Gc hc)];rfl
def AAc (s t:Nat) (hs0:s<18446744073709551616) (ht0:t<18446744073709551616):Pure zP 367 [.a [eU s],.a [eU t]] (.a [eU (s|||t)]):=by
 refine vN kZ ?_;have hs:=Sn
 conv=>whnf
 repeat'((first|clear U K|apply st|(apply zk;intro K U)|refine zY ?_|refine zs fun Z hs=>?_|refine zo fun nn hnn Z hs=>?_|fail)<;>conv=>whnf)
 refine AG ?_;simp only[HG hs0 ht0];rfl
def WZ (s:Nat) (c:Int) (hs0:s<18446744073709551616) (h0:0<=c) (hc:c<64):Pure zP 366 [.a [eU s],eI c] (.a [eU (s|||2 ^ c.toNat)]):=by
 have:=oR s c.toNat hs0 (by omega);rw[Int.toNat_of_nonneg h0]at this;exact this
def H2 {a b:Nat} (ha:a<18446744073709551616) (hb:b<18446744073709551616):a|||b<18446744073709551616:=by
 have:=Nat.or_lt_two_pow (n:=64) (x:=a) (y:=b) (by simpa using ha) (by simpa using hb);simpa using this
def JP (g:List (List Int)):List (List Int×Bool):=[([],true),([],true),([],true)]++g.map fun l=>(l,false)
def la (g:List (List Int)):(JP g).length=3+g.length:=by simp[JP];omega
def bF (g:List (List Int)) {k:Nat} (hk:k<3+g.length): ∃b,(JP g)[k]? =some (A3 g (k:Int),b):=by
 unfold JP A3;by_cases h3:k<3
 .rw[if_pos (by omega),nX (by simpa using h3)]
  refine⟨true,?_⟩;rcases k with _|_|_|k
  .rfl
  .rfl
  .rfl
  .omega
 .rw[if_neg (by omega),List.getElem?_append_right (by simp;omega)]
  refine⟨false,?_⟩;simp only[Lr,List.length_nil,OR];have e:((k:Int) - 3).toNat=k - (0+1+1+1):=by omega
  rw[e,C6,DC (by omega)];rfl
def qK:E0 (fun u:Nat=>[eU u]) 1:=fun x=>⟨rfl,fun v hv=>by simp at hv;subst hv;rfl⟩
def AAa {α:Type} {a b c d:α}: [a,b,c,d].Perm [b,d,a,c]:=by
 have h1: [a,b,c,d].Perm [b,a,c,d]:= .swap _ _ _;have h2: [a,c,d].Perm [d,a,c]:=PL (l₁:=[a,c]) (l₂:=[d]);exact h1.trans (h2.cons b)
def pK (g:List (List Int)) (f f2:Bool) (c:Int) (hg:Dy g=true) (hc0:0<=c) (hc1:c<3+g.length) :
    BS zP 353 [.l (En g) f,.l (iL [c]) f2] [] fun r post=> ∃n mm vp vu us M,r= .ret (.t [.p n 0,.b true])/\post=gH n mm vp vu (JP g) us M/\JJ g (3+g.length) M:=by
 intro Z hs;refine Ar.fit (by kernel_rfl) fun hf=>?_
 have⟨g1,g2⟩:=Yu hf.1;have hM:=Mx;have hG:=D6 hg;have hgl:=hG.1;have hfn:=br g f;rw[hg]at hfn;have hc2: [c][0]? =some c:=rfl;have hpl:=la g;refine vS kZ ?_
 conv=>whnf
 repeat'((first|clear U K|apply st|(apply zk;intro K U)|refine zY ?_|refine hfn.use ?_|fail)<;>conv=>whnf)
 refine CZ 1 (fun k (_:Unit)=>[(20,eI (BL k))]) (fun _ _=>[]) (fun _ _=>True) () rfl trivial hs ?_;clear hs;rintro k - Z hk - hs;have hkk:k=0\/k=1:=by omega
 rcases hkk with rfl|rfl
 .conv=>whnf
  repeat'((first|clear U K|apply st|(apply zk;intro K U)|refine zY ?_|(refine zb (fun hc=>?_) (fun hc=>?_)<;>try exact⟨⟩)|fail)<;>conv=>whnf)
  all_goals try(exfalso;omega)
  exact⟨(),rfl,trivial,hs⟩
 .have hke:1= [c].length:=rfl
  refine zz ?_;(repeat clear U K);repeat intro K U
  rw[show IntKind.i64.wrap (3+((En g).length:Nat))=((3+g.length:Nat):Int) by rw[Ca,wrap64 (by omega) (by omega)];omega];refine AAD (n:=3) hs (by omega) (by omega) fun vp Z hs hv=>?_
  obtain⟨idp,rfl⟩:=hv
  conv=>whnf
  repeat'((first|clear U K|apply st|(apply zk;intro K U)|refine zY ?_|refine zo fun nn hnn Z hs=>?_|fail)<;>conv=>whnf)
  obtain⟨mm,hs⟩: ∃mm,Sat Z [.box nn [.sl idp 3 (3+g.length),.l [] true,.m mm],.map mm [],.own (.sl idp 3 (3+g.length)) 1 (List.replicate 3 [.l [] true])]:=⟨_,hs⟩
  generalize nn=n0 at *;have hgr:=EE DP g;refine hAppend hs 2 rfl (by simp;omega) hgr.1 hgr.2 fun vp Z hs=>?_
  have hps:List.replicate 3 [.l [] true]++En g=pL (JP g):=by simp[pL,JP,List.replicate,En]
  rw[hps]at hs;clear hps;have hs1p:=Ic hs 2 rfl
  conv=>whnf
  repeat'((first|clear U K|apply st|(apply zk;intro K U)|refine zY ?_|refine zs fun Z hs=>?_|fail)<;>conv=>whnf)
  replace hs:Sat Z [.box n0 [vp,.l [] true,.m mm],.map mm [],.own vp 1 (pL (JP g))]:=hs;refine CZ (JP g).length (fun k (_:V×List Nat)=>[(55,eI (BL k))]) (fun _ x=>[.own x.1 1 (x.2.map fun u=>[eU u]),.box n0 [vp,x.1,.m mm],.map mm [],.own vp 1 (pL (JP g))]) (fun k x=>x.2.length=k/\ ∀u∈x.2,u<18446744073709551616) (.l [] true,[]) rfl ⟨rfl,fun u hu=>by cases hu⟩ (Db hs 1) ?_;clear hs;rintro k ⟨vu,us⟩ Z hk ⟨hul,hus⟩ hs;dsimp only at hul hus hs;rcases BF (JP g) hk with⟨⟨l,lb⟩,hl,hlt⟩|hke2
  .have hck:BL k=k:=Ag (by omega)
   obtain⟨b',hpa⟩:=bF g (k:=k) (by omega);have hle:l=A3 g (k:Int):=by rw[hl]at hpa;exact(Prod.mk.inj (Option.some.inj hpa)).1
   have hll:=DG hG (k:Int);rw[<-hle]at hll;have hlm: ∀p∈l,3<=p/\p<(k:Int):=fun p hp=>Dk hG (by rw[<-hle];exact hp)
   have hs1:(0|||2 ^ (BL k).toNat)<18446744073709551616:=by
    rw[Nat.zero_or,hck,HP];exact Gc (by omega)
   have hs1u:=Ic hs 0 rfl;have hl':(JP g)[(BL k).toNat]? =some (l,lb):=by rw[hck,HP];exact hl
   conv=>whnf
   repeat'((first|clear U K|apply st|(apply zk;intro K U)|refine zY ?_|refine zs fun Z hs=>?_|refine Pure.use (WZ 0 (BL k) (by decide) (by omega) (by omega)) ?_|refine Pure.use (WZ _ _ (by first|omega|exact hs1) (by omega) (by omega)) ?_|refine zo fun nn hnn Z hs=>?_|fail)<;>conv=>whnf)
   have hs0:(0|||2 ^ (BL k).toNat|||2 ^ Int.toNat 0)<18446744073709551616:=H2 hs1 (by decide);generalize (0|||2 ^ (BL k).toNat|||2 ^ Int.toNat 0)=s0 at *;refine CZ l.length (fun j (_:Nat)=>[(66,eI (BL j))]) (fun _ s=>[.box nn [eU s],.own vu 1 (us.map fun u=>[eU u]),.box n0 [vp,vu,.m mm],.map mm [],.own vp 1 (pL (JP g))]) (fun _ s=>s<18446744073709551616) s0 rfl hs0 hs ?_;clear hs hs0;rintro j s Z hj hsb hs;rcases BF l hj with⟨p,hp,hjlt⟩|hje
   .obtain⟨hp3,hpk⟩:=hlm p (CY hp)
    obtain⟨u,hu⟩: ∃u,us[p.toNat]? =some u:=⟨_,DC (by omega)⟩
    have hub:=hus u (CY hu)
    conv=>whnf
    repeat'((first|clear U K|apply st|(apply zk;intro K U)|refine zY ?_|refine zs fun Z hs=>?_|refine Pure.use (AAc _ _ hsb hub) ?_|fail)<;>conv=>whnf)
    exact⟨hjlt,s|||u,rfl,H2 hsb hub,hs⟩
   .refine zz ?_;(repeat clear U K);repeat intro K U
    refine Iz (GY hs 1 (enc:=fun u:Nat=>[eU u]) (xs:=us) (x:=s) rfl (by omega) qK fun vu' Z hs hsl=>?_);have hs2u:=Ic hs 1 rfl
    conv=>whnf
    repeat'((first|clear U K|apply st|(apply zk;intro K U)|refine zY ?_|refine zs fun Z hs=>?_|fail)<;>conv=>whnf)
    refine⟨hlt,(vu',us++[s]),rfl,⟨by simp[hul],fun u hu=>?_⟩,hs.less (K7 _ _)⟩;rcases D9.1 hu with hu|hu
    .exact hus u hu
    .rw[Lp.1 hu];exact hsb
  .have hs1u:=Ic hs 0 rfl
   refine zz ?_;(repeat clear U K);repeat intro K U
   replace hs:Sat Z (gH n0 mm vp vu (JP g) us []):=hs.perm AAa;refine CZ (JP g).length (fun k (_:List Ord)=>[(96,eI (BL k))]) (fun _ M=>gH n0 mm vp vu (JP g) us M) (fun k M=>JJ g k M) [] rfl JJ.nil hs ?_;clear hs;rintro k M Z hk hkn hs;rcases BF (JP g) hk with⟨⟨l,lb⟩,hl,hlt⟩|hke3
   .have hck:BL k=k:=Ag (by omega)
    obtain⟨b',hpa⟩:=bF g (k:=k) (by omega);have hle:l=A3 g (k:Int):=by rw[hl]at hpa;exact(Prod.mk.inj (Option.some.inj hpa)).1
    have hll:=DG hG (k:Int);rw[<-hle]at hll;have hlm: ∀p∈l,3<=p/\p<(k:Int):=fun p hp=>Dk hG (by rw[<-hle];exact hp)
    have hlo:=eQ hG hkn hll (fun x hx=>by have:=hlm x hx;omega);have hord:=lj n0 mm vp vu (JP g) us M (BL k) l lb (by omega) (by rw[hck,HP];exact hl) hll (fun c=>by have:=(Mi hG hkn c).1;omega) (fun e he=>by have:=hkn.keys e he;omega) hlo.1 hlo.2;refine zz ?_;(repeat clear U K);repeat intro K U
    refine hord.use (rest:=[]) (by simpa using hs) ?_;clear hs;rintro r post Z ⟨rfl,M',rfl,hM'⟩ hs;rw[FE]at hs;rw[hck]at hM';refine zz ?_;(repeat clear U K);repeat intro K U
    exact⟨hlt,M',rfl,hkn.step hle (fun p hp=>by have:=hlm p hp;omega) (by omega) hM',hs⟩
   .refine zz ?_;(repeat clear U K);repeat intro K U
    exact Aw hs (List.Sublist.refl _) (.refl _) fun Z' hs'=>⟨_,⟨_,_,_,_,_,_,rfl,rfl,by rw[<-hpl,<-hke3];exact hkn⟩,hs'⟩
def y1 {M:List Ord} {c:Int} {Z:AE} {fx:List At} (hs:Sat Z (fx++M.map gP)) (hl:(CD M c).length<=Ae) (hne:CD M c≠[]) {k kp:V->AE->Prop} (hk: ∀Z',Sat Z' (fx++M.map gP)->k (.l (iL (CD M c)) false) Z'):Ar zP 200 [JX M c] Z (qk k kp):=by
 rcases Qa M c with⟨h1,h2⟩|⟨j,hj⟩
 .exact absurd h1 hne
 .have hj':(fx++M.map gP)[fx.length+j]? =some (At.own (JX M c) 1 (iL (CD M c))):=by
   rw[List.getElem?_append_right (by omega),Nat.add_sub_cancel_left,hj]
  have hcl:BS zP 200 [JX M c] [.own (JX M c) 1 (iL (CD M c))] fun r post=>r= .ret (.l (iL (CD M c)) false)/\post= [.own (JX M c) 1 (iL (CD M c))]:=by
   clear hk hj' hj;generalize JX M c=v at *;generalize CD M c=l at *;intro Z hs;refine jy kZ ?_;have hgr:=EE C0 l
   have hend: ∀ {Z:AE} {w u:V},Sat Z [.own w 1 (iL l),.own u 1 (iL l)]->Aj Z w fun r Z'=> ∃post,(r= .ret (.l (iL l) false)/\post= [.own u 1 (iL l)])/\Sat Z' post:=fun hs=>by
    obtain⟨Z2,h1,h2,h3⟩:=JC hs 0 rfl;exact Is h1 h2 ⟨_,⟨rfl,rfl⟩,h3⟩
   have hM:=Mx;rcases hs.get (i:=0) rfl with⟨rfl,_⟩|⟨n,cap,rfl,hn⟩
   .conv=>whnf
    repeat'((first|clear U K|apply st|(apply zk;intro K U)|fail)<;>conv=>whnf)
    refine⟨fun e=>absurd (List.map_eq_nil_iff.1 e) hne,fun _=>?_⟩;refine zz ?_;(repeat clear U K);repeat intro K U
    replace hs:=Db hs 1;refine bb hs 0 1 rfl rfl (by simp;omega) hgr.1 hgr.2 fun w Z hs=>?_
    refine zz ?_;(repeat clear U K);repeat intro K U
    exact hend hs
   .refine zz ?_;(repeat clear U K);repeat intro K U
    replace hs:=Db hs 1;refine bb hs 0 1 rfl rfl (by simp;omega) hgr.1 hgr.2 fun w Z hs=>?_
    refine zz ?_;(repeat clear U K);repeat intro K U
    exact hend hs
  refine hcl.rn (Φ:=fun r=>r= .ret (.l (iL (CD M c)) false)) hs hj' ?_;rintro r Z' rfl hs';exact hk Z' hs'
def ub (g:List (List Int)) (f:Bool) (c:Int) (hg:Dy g=true) (hc0:0<=c) (hc1:c<3+g.length) :
    Pure zP 324 [.l (En g) f,eI c] (if((CA g).getD c.toNat []).isEmpty then .t [.l [] true,eI 7]else .t [.l (iL ((CA g).getD c.toNat [])) false,eI 0]):=by
 have hop:=pK g f true c hg hc0 hc1;refine vw kZ ?_;have hs:=Sn;have hM:=Mx;have hG:=D6 hg
 conv=>whnf
 repeat'((first|clear U K|apply st|(apply zk;intro K U)|fail)<;>conv=>whnf)
 refine hop.use (rest:=[]) hs ?_;clear hs;rintro r post Z ⟨n,mm,vp,vu,us,M,rfl,rfl,hkn⟩ hs;rw[FE]at hs;have hol:=(Mi hG hkn c).1;have hor:=hkn.gj c hc0 (by omega);by_cases hne:CD M c= []
 .have hl0:(CD M c).length=0:=by rw[hne];rfl
  conv=>whnf
  repeat'((first|clear U K|apply st|(apply zk;intro K U)|refine zY ?_|refine lkO ?_|refine Qb (fx:=_::_::_::_:: []) hs (by omega) ?_|(refine zb (fun hc=>?_) (fun hc=>?_)<;>try exact⟨⟩)|fail)<;>conv=>whnf)
  all_goals try(exfalso;omega)
  rw[<-hor,hne];exact AG rfl
 .have hl0:0<(CD M c).length:=List.length_pos_iff.2 hne
  conv=>whnf
  repeat'((first|clear U K|apply st|(apply zk;intro K U)|refine zY ?_|refine lkO ?_|refine Qb (fx:=_::_::_::_:: []) hs (by omega) ?_|(refine zb (fun hc=>?_) (fun hc=>?_)<;>try exact⟨⟩)|fail)<;>conv=>whnf)
  all_goals try(exfalso;omega)
  refine y1 (fx:=_::_::_::_:: []) hs (by omega) hne fun Z hs=>?_
  refine zz ?_;(repeat clear U K);repeat intro K U
  rw[<-hor]
  have:(CD M c).isEmpty=false:=by
   cases h:(CD M c).isEmpty
   .rfl
   .exact absurd (List.isEmpty_iff.1 h) hne
  rw[this];exact AG rfl
def mr (xs:List Int) (f:Bool):Pure zP 200 [.l (iL xs) f] (.l (iL xs) false):=by
 refine Pure.fit (by kernel_rfl) fun hf=>?_
 have hxl:=QS hf.1;have hM:=Mx;refine jy kZ ?_;have hs:=Sn
 conv=>whnf
 repeat'((first|clear U K|apply st|(apply zk;intro K U)|fail)<;>conv=>whnf)
 refine⟨fun e t=>?_,fun _=>?_⟩
 .have hx:xs= []:=List.map_eq_nil_iff.1 e
  subst hx
  conv=>whnf
  repeat'((first|clear U K|apply st|(apply zk;intro K U)|refine za (fun hc=>?_) fun hc=>?_|fail)<;>conv=>whnf)
  .exact BZ MK
  .replace hs:=Db hs 1
   refine Oa hs 0 (xs:=[]) (ys:=[]) rfl (by simp) C0 fun v Z hs=>?_
   refine zz ?_;(repeat clear U K);repeat intro K U
   exact Gi hs 0 rfl rfl
 .refine zz ?_;(repeat clear U K);repeat intro K U
  replace hs:=Db hs 1;refine Oa hs 0 (xs:=[]) (ys:=xs) rfl (by simp;omega) C0 fun v Z hs=>?_
  refine zz ?_;(repeat clear U K);repeat intro K U
  exact Gi hs 0 rfl rfl
def uB (c:R9):Pure zP 290 [.a (UF c)] (.l (iL c.parents) false):=by
 refine wW kZ ?_;have hs:=Sn
 conv=>whnf
 repeat'((first|clear U K|apply st|(apply zk;intro K U)|refine Pure.use (mr _ _) ?_|fail)<;>conv=>whnf)
 exact AG rfl
def rD (xs:List (List Int)) (v:V) (hl:xs.length<=Ae):BS zP 329 [v] [.own v 1 (En xs)] fun r post=>r= .ret (.l (En xs) true)/\post= []:=by
 intro Z hs;have hg:=EE DP xs;refine vo kZ ?_;refine zz ?_;(repeat clear U K);repeat intro K U
 refine ia (i:=0) hs rfl hg.1 (by simpa using hl) fun Z hs=>?_
 refine zz ?_;(repeat clear U K);repeat intro K U
 exact Aw hs (List.Sublist.refl _) (.refl _) fun Z' hs'=>⟨_,⟨rfl,rfl⟩,hs'⟩
def QX (xs:List Int) (v:V) (hl:xs.length<=Ae):BS zP 242 [v] [.own v 1 (iL xs)] fun r post=>r= .ret (.l (iL xs) true)/\post= []:=by
 intro Z hs;have hg:=EE C0 xs;refine jw kZ ?_;refine zz ?_;(repeat clear U K);repeat intro K U
 refine ia (i:=0) hs rfl hg.1 (by simpa using hl) fun Z hs=>?_
 refine zz ?_;(repeat clear U K);repeat intro K U
 exact Aw hs (List.Sublist.refl _) (.refl _) fun Z' hs'=>⟨_,⟨rfl,rfl⟩,hs'⟩
def ql (cs:List R9) (hl:cs.length<=1000000):Pure zP 289 [.l (cs.map UF) false,.f (.func 290) [] []] (.l (En (cs.map (·.parents))) false):=by
 have hM:=Mx;refine wX kZ ?_;have hs:=Sn;refine zz ?_;(repeat clear U K);repeat intro K U
 refine CZ cs.length (fun k v=>[(5,v),(10,eI (BL k))]) (fun k v=>[.own v 1 (En ((cs.take k).map (·.parents)))]) (fun _ _=>True) (.l [] true) rfl trivial (Db hs 1) ?_;clear hs;rintro k v Z hk - hs;rcases BF cs hk with⟨c,hc,hlt⟩|hke
 .conv=>whnf
  repeat'((first|clear U K|apply st|(apply zk;intro K U)|refine zY ?_|refine zs fun Z hs=>?_|refine zo fun nn hnn Z hs=>?_|fail)<;>conv=>whnf)
  refine BA ((uB c).use ?_)
  conv=>whnf
  repeat'((first|clear U K|apply st|(apply zk;intro K U)|refine zY ?_|refine aq fun v Z hs hsl=>?_|fail)<;>conv=>whnf)
  exact⟨hlt,_,rfl,trivial,by rw[AU hc,VV];exact hs.less (K7 _ _)⟩
 .rw[BC hke]at hs
  refine zz ?_;(repeat clear U K);repeat intro K U
  refine(rD (cs.map (·.parents)) v (by simp;omega)).use (rest:=[]) hs ?_;clear hs;rintro r post Z ⟨rfl,rfl⟩ hs;refine zz ?_;(repeat clear U K);repeat intro K U
  exact BZ iT
def Mq (p:Prog) (hk0:p.AO.length<=1000):Pure zP 223 [.a (BR p)] (.l (En (Az p)) false):=by
 refine Pure.fit (by kernel_rfl) fun hf=>?_
 have hP:=L6 hf.1;refine xa kZ ?_;have hs:=Sn;refine zz ?_;(repeat clear U K);repeat intro K U
 refine(ql p.AO (by omega)).use ?_;exact zW
def WY (p:Prog) (hk0:p.AO.length<=1000) (hm:Br p.AO<=Ae):Pure zP 151 [.a (BR p)] (.a (A9 (AK p))):=by
 refine Pure.fit (by kernel_rfl) fun hf=>?_
 have hP:=L6 hf.1;have hcl:=hP.1;have hM:=Mx;refine yU kZ ?_;have hs:=Sn
 conv=>whnf
 repeat'((first|clear U K|apply st|(apply zk;intro K U)|refine zY ?_|refine zs fun Z hs=>?_|refine Pure.use (Mq _ hk0) ?_|refine zo fun nn hnn Z hs=>?_|fail)<;>conv=>whnf)
 rename_i n2 _ _ _ _ _
 rename Nat=>n3
 replace hs:Sat Z [.box n3 [.l (En (Az p)) false,.l [] true],.box n2 [.l [] true,.l [] true]]:=hs;refine CZ p.AO.length (fun k (_:V)=>[(12,eI (BL k))]) (fun k v=>[.own v 1 (iL (BT 0 (p.AO.take k))),.box n3 [.l (En (Az p)) false,v],.box n2 [.l [] true,.l [] true]]) (fun _ _=>True) (.l [] true) rfl trivial (Db hs 1) ?_;clear hs;rintro k v Z hk - hs;rcases BF p.AO hk with⟨c,hc,hlt⟩|hke
 .have hcm:=hP.2 c (CY hc)
  have htk:=Rg hc;have hck:BL k=k:=Ag (by omega)
  have hap:BT 0 (p.AO.take (k+1))=BT 0 (p.AO.take k)++List.replicate c.AH.length ((k:Int)+3):=by
   rw[AU hc,JL];have:(p.AO.take k).length=k:=by simp;omega
   rw[this];simp[BT]
  have hol:=Cj 0 (p.AO.take k);have hw3:IntKind.i64.wrap (BL k+3)=(k:Int)+3:=by rw[hck,wrap64 (by omega) (by omega)]
  have hcs:=hcm.2.1;generalize BT 0 (p.AO.take k)=os at *
  conv=>whnf
  repeat'((first|clear U K|apply st|(apply zk;intro K U)|refine zY ?_|refine zs fun Z hs=>?_|refine zo fun nn hnn Z hs=>?_|fail)<;>conv=>whnf)
  refine CZ c.AH.length (fun j (_:V)=>[(20,eI (BL j))]) (fun j v=>[.own v 1 (iL (os++List.replicate j ((k:Int)+3))),.box n3 [.l (En (Az p)) false,v],.box n2 [.l [] true,.l [] true]]) (fun _ _=>True) v rfl trivial (by simpa using hs.less (K7 _ _)) ?_;clear hs;rintro j v Z hj - hs;rcases BF c.AH hj with⟨s,hsl,hjlt⟩|hje
  .have hsv0:=Ic hs 0 rfl
   conv=>whnf
   repeat'((first|clear U K|apply st|(apply zk;intro K U)|refine zY ?_|refine zs fun Z hs=>?_|refine aq fun v Z hs hsl=>?_|fail)<;>conv=>whnf)
   have hsv:=Ic hs 0 rfl
   conv=>whnf
   refine⟨hjlt,v,rfl,trivial,?_⟩;rw[List.replicate_succ',<-Ps];rw[hw3]at hs;exact hs
  .refine zz ?_;(repeat clear U K);repeat intro K U
   exact⟨hlt,v,rfl,trivial,by rw[hap,<-hje];exact hs⟩
 .rw[BC hke]at hs
  have hsv:=Ic hs 0 rfl
  conv=>whnf
  repeat'((first|clear U K|apply st|(apply zk;intro K U)|refine zY ?_|refine zs fun Z hs=>?_|fail)<;>conv=>whnf)
  exact BZ (.a (.cons (.refl _) (.cons (hs.HQ 0 rfl) .nil)))
end Go.Gl
namespace Go.Proofs
open Go.Shelf
def Tryz.X1:Go.Shelf.Ren:=⟨fun|189=>268|125=>315|257=>314|128=>348|129=>349|294=>339|295=>340|296=>341|297=>342|298=>343|299=>344|216=>345|300=>346|301=>347|328=>360|329=>361|330=>362|331=>363|332=>364|215=>162|343=>375|n=>n,fun|28=>23|3=>3|46=>222|0=>0|51=>318|53=>139|4=>4|183=>394|182=>393|131=>266|5=>5|9=>9|218=>413|222=>329|228=>428|229=>429|n=>n,fun|n=>n⟩
def Tryz.ph:Go.Proofs.Lays.n189 Tryz.prog Tryz.X1:={
 mixed:=by kernel_rfl
 f125:=Tryz.func315.trans (congrArg some (by kernel_rfl))
 f128:=Tryz.func348.trans (congrArg some (by kernel_rfl))
 f129:=Tryz.func349.trans (congrArg some (by kernel_rfl))
 f189:=Tryz.func268.trans (congrArg some (by kernel_rfl))
 f215:=Tryz.func162.trans (congrArg some (by kernel_rfl))
 f216:=Tryz.func345.trans (congrArg some (by kernel_rfl))
 f257:=Tryz.func314.trans (congrArg some (by kernel_rfl))
 f294:=Tryz.func339.trans (congrArg some (by kernel_rfl))
 f295:=Tryz.func340.trans (congrArg some (by kernel_rfl))
 f296:=Tryz.func341.trans (congrArg some (by kernel_rfl))
 f297:=Tryz.func342.trans (congrArg some (by kernel_rfl))
 f298:=Tryz.func343.trans (congrArg some (by kernel_rfl))
 f299:=Tryz.func344.trans (congrArg some (by kernel_rfl))
 f300:=Tryz.func346.trans (congrArg some (by kernel_rfl))
 f301:=Tryz.func347.trans (congrArg some (by kernel_rfl))
 f328:=Tryz.func360.trans (congrArg some (by kernel_rfl))
 f329:=Tryz.func361.trans (congrArg some (by kernel_rfl))
 f330:=Tryz.func362.trans (congrArg some (by kernel_rfl))
 f331:=Tryz.func363.trans (congrArg some (by kernel_rfl))
 f332:=Tryz.func364.trans (congrArg some (by kernel_rfl))
 f343:=Tryz.func375.trans (congrArg some (by kernel_rfl))
 t0:=Tryz.underlying0
 a0:=Tryz.isAgg0
 z0:=Tryz.sizeOf0
 v0:=Tryz.zeroValue0
 t3:=Tryz.underlying3
 a3:=Tryz.isAgg3
 z3:=Tryz.sizeOf3
 v3:=Tryz.zeroValue3
 t4:=Tryz.underlying4
 a4:=Tryz.isAgg4
 z4:=Tryz.sizeOf4
 v4:=Tryz.zeroValue4
 t5:=Tryz.underlying5
 a5:=Tryz.isAgg5
 z5:=Tryz.sizeOf5
 v5:=Tryz.zeroValue5
 t9:=Tryz.underlying9
 a9:=Tryz.isAgg9
 z9:=Tryz.sizeOf9
 v9:=Tryz.zeroValue9
 t28:=Tryz.underlying23
 a28:=Tryz.isAgg23
 z28:=Tryz.sizeOf23
 v28:=Tryz.zeroValue23
 t46:=Tryz.underlying222
 a46:=Tryz.isAgg222
 z46:=Tryz.sizeOf222
 v46:=Tryz.zeroValue222
 t51:=Tryz.underlying318
 a51:=Tryz.isAgg318
 z51:=Tryz.sizeOf318
 v51:=Tryz.zeroValue318
 t53:=Tryz.underlying139
 a53:=Tryz.isAgg139
 z53:=Tryz.sizeOf139
 v53:=Tryz.zeroValue139
 t131:=Tryz.underlying266
 a131:=Tryz.isAgg266
 z131:=Tryz.sizeOf266
 v131:=Tryz.zeroValue266
 t182:=Tryz.underlying393
 a182:=Tryz.isAgg393
 z182:=Tryz.sizeOf393
 v182:=Tryz.zeroValue393
 t183:=Tryz.underlying394
 a183:=Tryz.isAgg394
 z183:=Tryz.sizeOf394
 v183:=Tryz.zeroValue394
 t218:=Tryz.underlying413
 a218:=Tryz.isAgg413
 z218:=Tryz.sizeOf413
 v218:=Tryz.zeroValue413
 t222:=Tryz.underlying329
 a222:=Tryz.isAgg329
 z222:=Tryz.sizeOf329
 v222:=Tryz.zeroValue329
 t228:=Tryz.underlying428
 a228:=Tryz.isAgg428
 z228:=Tryz.sizeOf428
 v228:=Tryz.zeroValue428
 t229:=Tryz.underlying429
 a229:=Tryz.isAgg429
 z229:=Tryz.sizeOf429
 v229:=Tryz.zeroValue429}
end Go.Proofs
namespace Go.Gl
open Go.Proofs Go.Shelf
abbrev Ho (x y:Int):Bool:=decide (x<=y)
def lQ {P:Program} {f:FuncId} (hok:okF P f=true)
    (hc: ∀(blk cap:Nat) (zs:List Int) (w:World),Sort.Holds (Value.int .i64) w blk 0 zs.toArray->blk<w.heap.size->zs.length<4611686018427387904->
     Calls P f #[.slice (some ⟨blk,0,none⟩) zs.length cap] w fun e w'=>e= .returned (.tuple #[])/\ ∃n os,w'=Sort.grow (Sort.putRow (Value.int .i64) (Sort.ahead w n) blk 0 (zs.mergeSort fun x y=>decide (x<=y)).toArray) os)
    (xs:List Int) (n len cap:Nat):BS P f [.sl n len cap] [.own (.sl n len cap) 1 (iL xs)] fun r post=>r= .ret (.t [])/\post= [.own (.sl n len cap) 1 (iL (xs.mergeSort Ho))]:=by
 intro Z hs;refine⟨hok,fun F w cs hR hv=>?_⟩;rcases hs.get (i:=0) rfl with⟨h,_⟩|⟨n',cap',h,hn⟩
 .cases h
 cases h;rw[Ca]at hv;obtain⟨c,e,hb,h1,h2,h3,h4⟩:=E6 hR hn;rw[Ca]at h2 h3;have hM:Ae=17592186044416:=rfl;rw[BG]at h4
 have hcell: ∀j x,xs[j]? =some x->c[j]? =some (Value.int .i64 x)/\IntKind.i64.min<=x/\x<=IntKind.i64.max:=fun j x hx=>by
  have:=(h4 j [.i .i64 x] (by rw[OR,hx];rfl)).2;simp only[Ba,Nat.mul_one,Gu]at this;obtain⟨⟨d,hd,hr⟩,_⟩:=this;simp only[Af]at hr;obtain⟨rfl,hr⟩:=hr;exact⟨hd,hr⟩
 have hcs:cs= #[.slice (some ⟨n,0,none⟩) xs.length cap]:=by
  obtain⟨hsz,hv⟩:=hv;simp only[Ba,Af]at hv;obtain⟨⟨d,hd,rfl,_⟩,_⟩:=hv;simp at hsz;apply Array.ext_getElem?;intro i;rcases i with _|i
  .simpa using hd
  .rw[Array.getElem?_eq_none (by omega),Array.getElem?_eq_none (by simp)]
 subst hcs
 have hH:Sort.Holds (Value.int .i64) w n 0 xs.toArray:=fun j hj=>by
  have hj':j<xs.length:=by simpa using hj
  obtain⟨h5,_⟩:=hcell j xs[j] (DC hj');refine⟨?_,?_⟩
  .rw[Gu,Dg hb,h5]
   simp[getElem!_pos,hj']
  .rw[Gu];exact Ro hb
 refine(hc n cap xs w hH (hR.lt hn) (by omega)).mono fun e' w' ⟨he,k,os,hw⟩=>?_
 subst he;have hlen:(xs.mergeSort Ho).length=xs.length:=List.length_mergeSort _
 have hheap: ∀m,m<w.heap.size->w'.heap[m]? =if m=n then some (.cells (Sort.putCells (Value.int .i64) 0 (xs.mergeSort Ho).toArray c) e (0,0))else w.heap[m]? :=fun m hm=>by
  rw[hw];simp only[Sort.grow,Sort.putRow,Sort.mapBlock,Sort.ahead];rw[Array.getElem?_append_left (by simpa using hm),Array.getElem?_modify];by_cases e1:n=m
  .subst e1
   rw[if_pos rfl,if_pos rfl,hb];rfl
  .rw[if_neg e1,if_neg (Ne.symm e1)]
 have hadv:B9 F Z w (B5 Z n (.arr 1 (iL (xs.mergeSort Ho)) cap)) w':=by
  refine⟨fun m hm h0=>?_,?_,by rw[hw];rfl,by rw[hw];rfl,by rw[hw];rfl,fun m h0 _=>?_⟩
  .rw[hheap m hm,if_neg]
   intro e1;subst e1;rw[hn]at h0;cases h0
  .rw[hw];simp[Sort.grow]
  .rw[Cn _ _ (fun e1=>by subst e1;rw[hn]at h0;cases h0)];exact h0
 refine⟨.ret (.t []),B5 Z n (.arr 1 (iL (xs.mergeSort Ho)) cap),⟨_,⟨rfl,rfl⟩,?_⟩,?_,?_,hadv⟩
 .refine⟨fun a ha=>?_,List.pairwise_singleton _ _⟩
  rw[Lp.1 ha];exact .inr ⟨n,cap,by simp[hlen],DO _ _ _⟩
 .exact⟨_,rfl,by simp[Af,Ba]⟩
 .refine hR.step hadv fun m o ho=>?_
  by_cases e1:m=n
  .subst e1
   rw[DO]at ho;cases ho;refine .inr ⟨(hR.own _ _ hn).1,_,(hheap m (hR.lt hn)).trans (if_pos rfl),_,_,rfl,by simpa[Sort.putCells]using h1,by simpa[hlen]using h2,by simpa[hlen]using h3,?_⟩;rw[BG];intro i r hi;rw[OR]at hi;cases hx:(xs.mergeSort Ho)[i]? with
   | none=>rw[hx]at hi;cases hi
   | some x=>
     rw[hx]at hi;cases hi;have hil:i<xs.length:=by have:=(JT.1 hx).1;omega
     have hxm:x∈xs:=(List.mergeSort_perm xs Ho).mem_iff.1 (CY hx);obtain⟨j,hj⟩:=List.getElem?_of_mem hxm;have hbd:=(hcell j x hj).2;obtain⟨hci,_⟩:=hcell i xs[i] (DC hil);have hcl:i<c.size:=(sd.1 hci).1;refine⟨rfl,?_⟩;simp only[Ba,Nat.mul_one,Gu,Af,and_true];refine⟨_,?_,rfl,hbd⟩;simp only[Sort.putCells,Array.getElem?_mapIdx];rw[hci];have hxe:=(JT.1 hx).2;simp[hlen,hil,getElem!_pos,hxe]
  .rw[Cn _ _ e1]at ho
   exact .inl ⟨ho,(hheap m (hR.lt ho)).trans (if_neg e1)⟩
def oe (xs:List Int) (n len cap:Nat):BS Tryz.prog 268 [.sl n len cap] [.own (.sl n len cap) 1 (iL xs)] fun r post=>r= .ret (.t [])/\post= [.own (.sl n len cap) 1 (iL (xs.mergeSort Ho))]:=
 lQ (by kernel_rfl) (fun blk cap zs w h1 h2 h3=>Any.slices_Sort_int Tryz.ph blk 0 cap zs w h1 h2 h3) xs n len cap
end Go.Gl
namespace Go.Gl
open Go.Proofs
attribute [local irreducible] Ar Aj AZ AQ AL AX AP AR AJ AW AM AN Am Av Sat AT As Aa W
def ue:Pure zP 349 [.i .u64 0] (eI 0):=by
 refine vV kZ ?_;have hs:=Sn
 conv=>whnf
 repeat'((first|clear U K|apply st|(apply zk;intro K U)|refine zY ?_|(refine zb (fun hc=>?_) (fun hc=>?_)<;>try exact⟨⟩)|fail)<;>conv=>whnf)
 refine⟨by decide,?_⟩;exact zW
def uf:Pure zP 315 [.i .u64 0] (eI 0):=by
 refine wB kZ ?_;have hs:=Sn
 conv=>whnf
 repeat'((first|clear U K|apply st|(apply zk;intro K U)|refine ue.use ?_|fail)<;>conv=>whnf)
 all_goals exact AG rfl
def um:Pure zP 339 [.l [] true,eI 0,eI 0] (.t []):=by
 refine vW kZ ?_;have hs:=Sn;refine zz ?_;(repeat clear U K);repeat intro K U
 refine Gb (fun(_:Unit)=>0) (fun _=>[(6,eI 1)]) (fun _=>[]) (fun _=>True) () rfl trivial hs ?_;clear hs;rintro - Z - hs;exact zW
def tx:Pure zP 314 [.l [] true,eI 0,eI 0,eI 0] (.t []):=by
 refine wD kZ ?_;have hs:=Sn;refine zz ?_;(repeat clear U K);repeat intro K U
 refine Gb (fun(_:Unit)=>0) (fun _=>[]) (fun _=>[]) (fun _=>True) () rfl trivial hs ?_;clear hs;rintro - Z - hs
 conv=>whnf
 repeat'((first|clear U K|apply st|(apply zk;intro K U)|refine zY ?_|refine um.use ?_|(refine zb (fun hc=>?_) (fun hc=>?_)<;>try exact⟨⟩)|fail)<;>conv=>whnf)
 all_goals exact AG rfl
def lR:Pure zP 268 [.l [] true] (.t []):=by
 refine wu kZ ?_;have hs:=Sn
 conv=>whnf
 repeat'((first|clear U K|apply st|(apply zk;intro K U)|refine uf.use ?_|refine tx.use ?_|fail)<;>conv=>whnf)
 all_goals exact AG rfl
def iH {xs:List Int} {v:V} (hv:(Ce v).isSome=true\/(v= .l [] true/\xs= [])):BS zP 268 [v] [.own v 1 (iL xs)] fun r post=>r= .ret (.t [])/\post= [.own v 1 (iL (xs.mergeSort Ho))]:=by
 rcases hv with hv|⟨rfl,rfl⟩
 .obtain⟨n,l,c,rfl⟩:=AAU hv
  exact oe xs n l c
 .intro Z hs
  have:=lR.use (Z:=Z) (k:=fun v Z'=>v= .t []/\Z'=Z) (kp:=fun _ _=>False) ⟨rfl,rfl⟩;refine Ar.mono this ?_;rintro(u|u) Z' hq
  .obtain⟨rfl,rfl⟩:=hq
   exact⟨_,⟨rfl,rfl⟩,by simpa using hs⟩
  .exact hq.elim
def X6 {b:Nat} {Z:AE} {sz:Nat} {v:V} {ys:List (List V)} {f:Bool} {K:V->AE->Prop} (h:AL b Z sz v (.l ys f) fun v' Z'=>((Ce v').isSome=true\/(v'=v/\ys= []))->K v' Z'):AL b Z sz v (.l ys f) K:=by
 unfold AL at *;obtain⟨h1,h2,h3⟩:=h;refine⟨h1,h2,?_⟩;cases v with
 | l es full=>exact⟨h3.1,h3.2.1,fun e=>h3.2.2.1 e (.inr ⟨rfl,e⟩),fun e=>⟨(h3.2.2.2 e).1,fun n cap hn hc=>(h3.2.2.2 e).2 n cap hn hc (.inl rfl)⟩⟩
 | sl n len cap=>
   simp only at h3 ⊢;split at h3
   .exact⟨h3.1,h3.2.1,h3.2.2.1,h3.2.2.2.1,fun n' cap' hn hc=>h3.2.2.2.2 n' cap' hn hc (.inl rfl)⟩
   .exact h3.elim
 | _=>exact h3.elim
def T3 (M:List Int):List (V×V):=M.map fun k=>(eI k,.b true)
def Py (M:List Int) (k:Int):List Int:=if M.contains k then M else M++[k]
def Wy (M:List Int) (k b:Int):(Py M k).contains b=(M.contains b||b==k):=by
 unfold Py;split
 .rename_i h
  by_cases hb:b=k
  .subst hb;simpa using h
  .have:(b==k)=false:=by simpa using hb
   rw[this,Bool.or_false]
 .simp[List.contains_append]
  rfl
def bU (M:List Int) (k:Int):Da (eI k) (.b true) (T3 M)=T3 (Py M k):=by
 induction M with
 | nil=>rfl
 | cons x r ih=>
   simp only[T3,EW,Da]at *;have he:Dz (eI k) (eI x)=(k==x):=rfl;rw[he];cases hx:k==x
   .rw[cond_false,ih]
    unfold Py;have:(x::r).contains k=r.contains k:=by rw[List.contains_cons,hx,Bool.false_or]
    rw[this];split<;>simp
   .rw[cond_true]
    have hk:k=x:=by simpa using hx
    subst hk;unfold Py;simp
def Mm (M:List Int) (k:Int):found (.b false) false (Co (eI k) (T3 M))= .b (M.contains k):=by
 induction M with
 | nil=>rfl
 | cons x r ih=>
   simp only[T3,EW,Co]at *;have he:Dz (eI k) (eI x)=(k==x):=rfl;rw[he,List.contains_cons];cases k==x
   .simpa using ih
   .rfl
def IG (M:List Int): ∀kv∈T3 M,BV (.i .i64) kv.1=true:=by
 intro kv h;obtain⟨e,_,rfl⟩:=Hp.1 h;rfl
def lkK {Z:AE} {l:List At} {i mm:Nat} {M:List Int} {k:Int} {K:V->Prop} (hk:K (.b (M.contains k))) (h:Sat Z l:=by assumption)
    (hi:l[i]? =some (.map mm (T3 M)):=by first|exact SI|exact SH|exact SG|exact SF|exact SE|exact SD):AM Z (.i .i64) (.b false) false (.m mm) (eI k) K:=
 KB h i hi rfl (IG M) (by rw[Mm];exact hk)
def msK {Z:AE} {l:List At} {i mm:Nat} {M:List Int} {k:Int} {K:AE->Prop} (hk: ∀Z',Sat Z' (l.set i (.map mm (T3 (Py M k))))->K Z') (h:Sat Z l:=by assumption)
    (hi:l[i]? =some (.map mm (T3 M)):=by first|exact SI|exact SH|exact SG|exact SF|exact SE|exact SD):AN Z (.i .i64) (.m mm) (eI k) (.b true) K:=
 Io h i hi rfl (IG M) (fun Z' hs=>hk Z' (by rw[bU]at hs;exact hs))
def Jl (p:Prog) (c:Nat):R9:=p.AO.getD (c - 3) default
def EM (p:Prog) (c:Nat):Nat->List Int
 | 0=>[]
 | k+1=>if GC (Az p) c (c - k)then EM p c k++(Jl p (c - k)).AH else EM p c k
def tz {ps:List (List Int)} (ho:ordered ps) {n c:Nat} (hc:c<n) (k:Nat): ∀p∈par ps (c - k),0<=p/\p.toNat<(Hq ps n c k).length/\p.toNat<c - k:=fun p hp=>by
 have:=ho _ _ hp;rw[MD];omega
def Wg {ps:List (List Int)} (ho:ordered ps) {n c:Nat} (hc:c<n) (k b:Nat):(Hq ps n c (k+1)).getD b false=((Hq ps n c k).getD b false||((Hq ps n c k).getD (c - k) false&&(par ps (c - k)).contains (b:Int))):=by
 rw[Hq,OB _ _ (tz ho hc k)]
def Wh {ps:List (List Int)} (ho:ordered ps) {n c:Nat} (hc:c<n) (k:Nat): ∀(m:Nat) (b:Nat),c - k<=b->(Hq ps n c (k+m)).getD b false=(Hq ps n c k).getD b false
 | 0,_,_=>rfl
 | m + 1,b,h=>by
   rw[<-Nat.add_assoc,Wg ho hc,Wh ho hc k m b h]
   have:(par ps (c - (k+m))).contains (b:Int)=false:=by
    cases hb:(par ps (c - (k+m))).contains (b:Int)
    .rfl
    .have:=ho _ _ (List.contains_iff_mem.1 hb)
     omega
   rw[this,Bool.and_false,Bool.or_false]
def iu {ps:List (List Int)} (ho:ordered ps) {n c:Nat} (hc:c<n) {k:Nat} (hk:k<=c - 2):(Hq ps n c k).getD (c - k) false=GC ps c (c - k):=by
 rw[<-aZ ho hc (c - k),<-Wh ho hc k (c - 2 - k) (c - k) (Ia _)];congr 2;omega
def Rp (b:Int): ∀(l M:List Int),(l.foldl Py M).contains b=(M.contains b||l.contains b)
 | [],M=>by simp
 | x::r,M=>by
   rw[List.foldl_cons,Rp b r,Wy,List.contains_cons,Bool.or_assoc]
def tH {Z:AE} {l:List At} {i mm:Nat} {M:List Int} {k:Int} {b:Bool} {K:V->Prop} (e:M.contains k=b) (hk:K (.b b)) (h:Sat Z l:=by assumption)
    (hi:l[i]? =some (.map mm (T3 M)):=by first|exact SI|exact SH|exact SG|exact SF|exact SE|exact SD):AM Z (.i .i64) (.b false) false (.m mm) (eI k) K:=lkK (e ▸ hk) h hi
def ur (p : Prog) (c:Nat) (h10:p.AO.length<=10) (hsl:Cv 0 p.AO=true) (hg:Dy (Az p)=true) (hc3:3<=c) (hc:c<3+p.AO.length) :
    Pure zP 325 [.a (BR p),eI c] (.l (iL ((EM p c (c - 2)).mergeSort Ho)) false):=by
 refine Pure.fit (by kernel_rfl) fun hf=>?_
 have hP:=L6 hf.1;have hM:=Mx;have hG:=D6 hg;have ho:=KY hG;have hgl:(Az p).length=p.AO.length:=by simp[Az]
 refine vt kZ ?_;have hs:=Sn
 conv=>whnf
 repeat'((first|clear U K|apply st|(apply zk;intro K U)|refine zo fun nn hnn Z hs=>?_|fail)<;>conv=>whnf)
 replace hs:Sat Z [.map nn (T3 [])]:=hs
 conv=>whnf
 repeat'((first|clear U K|apply st|(apply zk;intro K U)|refine msK (fun Z hs=>?_)|fail)<;>conv=>whnf)
 generalize nn=mm at *;replace hs:Sat Z [.map mm (T3 [(c:Int)])]:=hs
 refine CZ (c - 2) (fun k (x:List Int×V)=>[(6,x.2),(7,eI ((c:Int) - k))]) (fun k x=>[.own x.2 1 (iL (EM p c k)),.map mm (T3 x.1)])
  (fun k x=>(∀b:Nat,b<3+(Az p).length->x.1.contains (b:Int)=(Hq (Az p) (3+(Az p).length) c k).getD b false)/\((Ce x.2).isSome=true\/(x.2= .l [] true/\EM p c k= []))/\(EM p c k).length<=4*k) ([(c:Int)],.l [] true) ?_ ⟨?_,.inr ⟨rfl,rfl⟩,by simp[EM]⟩ (Db hs 1) ?_
 .simp[Px,get]
  exact⟨rfl,rfl,rfl⟩
 .intro b hb
  simp only[Hq];rw[FA (by simp;omega)];by_cases hbc:b=c
  .subst hbc;simp
  .rw[if_neg hbc]
   have:((c:Int)==(b:Int))=false:=by simp;omega
   simp[C6,List.getElem?_replicate];split<;>simp<;>omega
 clear hs;rintro k ⟨M,v⟩ Z hk ⟨hMb,hv,hml⟩ hs;dsimp only at hMb hv hs;rcases Nat.lt_or_ge k (c - 2)with hlt|hge
 .have hkc:M.contains ((c:Int) - k)=GC (Az p) c (c - k):=by
   have:=hMb (c - k) (by omega);rw[iu ho (by omega) (by omega)]at this;rw[<-this];congr 1;omega
  have hcl:p.AO[(IntKind.i64.wrap ((c:Int) - k - 3)).toNat]? =some (Jl p (c - k)):=by
   rw[wrap64 (by omega) (by omega),show((c:Int) - k - 3).toNat=c - k - 3 by omega,Jl,C6,DC (by omega)];rfl
  have hwi:0<=IntKind.i64.wrap ((c:Int) - k - 3):=by rw[wrap64 (by omega) (by omega)];omega
  have hw1:IntKind.i64.wrap ((c:Int) - k - 1)=(c:Int) - (k+1:Nat):=by rw[wrap64 (by omega) (by omega)];omega
  have hmt:EM p c (k+1)=if GC (Az p) c (c - k)then EM p c k++(Jl p (c - k)).AH else EM p c k:=rfl
  have hpar:(Jl p (c - k)).parents=par (Az p) (c - k):=by
   unfold par Jl Az;rw[if_neg (by omega),C6,C6,OR,DC (by omega)];rfl
  have hcm:=hP.2 _ (CY hcl);have hs4:=((FT _ _ hsl).2 _ (CY hcl)).2;have hst:=fun b=>Wg ho (show c<3+(Az p).length by omega) k b
  rw[iu ho (by omega) (by omega),<-hpar]at hst;generalize Jl p (c - k)=cl at *;cases hb:GC (Az p) c (c - k)
  .rw[hb]at hkc hmt hst
   rw[if_neg (by decide)]at hmt
   conv=>whnf
   repeat'((first|clear U K|apply st|(apply zk;intro K U)|refine zY ?_|refine tH hkc ?_|(refine zb (fun hc=>?_) (fun hc=>?_)<;>try exact⟨⟩)|fail)<;>conv=>whnf)
   all_goals try(exfalso;omega)
   rw[hw1];exact⟨hlt,(M,v),rfl,⟨fun b hb=>by rw[hMb b hb,hst b];simp,by rw[hmt];exact hv,by rw[hmt];omega⟩,by rw[hmt];exact hs⟩
  .rw [hb] at hkc hmt hst
   rw[if_pos rfl]at hmt
   conv=>whnf
   repeat'((first|clear U K|apply st|(apply zk;intro K U)|refine zY ?_|refine tH hkc ?_|(refine zb (fun hc=>?_) (fun hc=>?_)<;>try exact⟨⟩)|fail)<;>conv=>whnf)
   all_goals try(exfalso;omega)
   refine X6 (Oa hs 0 rfl (by omega) C0 fun v' Z hs hv'=>?_);rw[<-hmt]at hs;refine zz ?_;(repeat clear U K);repeat intro K U
   refine CZ cl.parents.length (fun j (_:List Int)=>[(38,eI (BL j))]) (fun _ M=>[.own v' 1 (iL (EM p c (k+1))),.map mm (T3 M)]) (fun j M'=>M'=(cl.parents.take j).foldl Py M) M rfl rfl hs ?_;clear hs;rintro j M' Z hj hM' hs;rcases BF cl.parents hj with⟨q,hq,hjlt⟩|hje
   .conv=>whnf
    repeat'((first|clear U K|apply st|(apply zk;intro K U)|refine zY ?_|refine msK (fun Z hs=>?_)|fail)<;>conv=>whnf)
    exact⟨hjlt,_,rfl,by rw[AU hq,List.foldl_append,<-hM'];rfl,hs⟩
   .rw [BC hje]at hM'
    refine zz ?_;(repeat clear U K);repeat intro K U
    rw[hw1];refine⟨hlt,(M',v'),rfl,⟨fun b hb=>?_,?_,?_⟩,hs⟩
    .rw[hM',Rp,hMb b hb,hst b,Cm]
    .rcases hv' with hv'|⟨rfl,he⟩
     .exact .inl hv'
     .rcases hv with hv|⟨hv,hm0⟩
      .exact .inl hv
      .refine .inr ⟨hv,?_⟩
       rw[hmt,hm0,List.map_eq_nil_iff.1 he];rfl
    .rw[hmt,SB];omega
 .have hkk:k=c - 2:=by omega
  rw[hkk]at hs hv hml;clear hMb
  conv=>whnf
  repeat'((first|clear U K|apply st|(apply zk;intro K U)|refine zY ?_|(refine zb (fun hc=>?_) (fun hc=>?_)<;>try exact⟨⟩)|fail)<;>conv=>whnf)
  all_goals try(exfalso;omega)
  refine(iH hv).use (rest:=[_]) hs ?_;clear hs;rintro r post Z ⟨rfl,rfl⟩ hs
  conv=>whnf
  repeat'((first|clear U K|apply st|(apply zk;intro K U)|fail)<;>conv=>whnf)
  refine(QX _ v (by rw[List.length_mergeSort];omega)).use (rest:=[_]) hs ?_;clear hs;rintro r post Z ⟨rfl,rfl⟩ hs;refine zz ?_;(repeat clear U K);repeat intro K U
  exact BZ iT
def Ra {p : Prog} {c:Nat} (s:Int): ∀k,s∈EM p c k↔ ∃j,j<k/\GC (Az p) c (c - j)=true/\s∈(Jl p (c - j)).AH
 | 0=>by simp[EM]
 | k + 1 =>by
   rw[EM];have ih:=Ra (p:=p) (c:=c) s k;constructor
   .intro h
    split at h
    .rename_i hu
     rcases D9.1 h with h|h
     .obtain⟨j,h1,h2⟩:=ih.1 h
      exact⟨j,by omega,h2⟩
     .exact⟨k,by omega,hu,h⟩
    .obtain⟨j,h1,h2⟩:=ih.1 h
     exact⟨j,by omega,h2⟩
   .rintro⟨j,h1,h2,h3⟩
    by_cases hj:j=k
    .subst hj
     rw[if_pos h2];exact D9.2 (.inr h3)
    .have:=ih.2 ⟨j,by omega,h2,h3⟩
     split
     .exact D9.2 (.inl this)
     .exact this
def Ws: ∀(l:List Int) (n s:Int),Lu n l=true->(s∈l↔n<=s/\s<n+l.length)
 | [],n,s,_=>by simp<;>omega
 | x::r,n,s,h=>by
   simp only[Lu,A0,Cd]at h;obtain⟨rfl,h⟩:=h;have:=Ws r (x+1) s h;rw[Fl,this,Lr];omega
def TG: ∀(cs:List R9) (i:Nat) (n s:Int),Cv n cs=true->0<=n-> ∀(j:Nat) (c:R9),cs[j]? =some c->(s∈c.AH↔n<=s/\s<n+(Br cs:Int)/\(BT i cs).getD (s - n).toNat 0=((i+j:Nat):Int)+3)
 | [],_,_,_,_,_,_,_,h=>by cases h
 | d ::r,i,n,s,h,h0,j,c,hj=>by
   simp only[Cv,A0,CC]at h;obtain⟨-,-,hq,hr⟩:=h;have hm:=Ws d.AH n s hq;have hml:(Br (d::r):Int)=d.AH.length+Br r:=by simp[Br]
   have hgd:n<=s->(BT i (d::r)).getD (s - n).toNat 0=if s<n+d.AH.length then(i:Int)+3 else(BT (i+1) r).getD (s - (n+d.AH.length)).toNat 0:=fun hns=>by
    simp only[BT,C6];split
    .rw[nX (by simp;omega),List.getElem?_replicate,if_pos (by omega)]
     rfl
    .rw[List.getElem?_append_right (by simp;omega)]
     congr 2;simp;omega
   have hout: ∀q,q∈BT (i+1) r->(3:Int)+((i+1:Nat):Int)<=q:=fun q hq=>(GM hq).1
   cases j with
   | zero=>
     simp at hj;subst hj;rw[hm,hml];constructor
     .rintro⟨h1,h2⟩
      refine⟨h1,by omega,?_⟩;rw[hgd h1,if_pos h2];simp
     .rintro⟨h1,h2,h3⟩
      refine⟨h1,?_⟩;rw[hgd h1]at h3;by_cases hlt:s<n+d.AH.length
      .exact hlt
      .rw[if_neg hlt,C6]at h3
       have hlen:(s - (n+d.AH.length)).toNat<(BT (i+1) r).length:=by rw[Cj];omega
       rw[DC hlen]at h3;have:=hout _ (List.getElem_mem hlen);simp at h3;omega
   | succ j=>
     simp at hj;have ih:=TG r (i+1) (n+d.AH.length) s hr (by omega) j c hj;rw[ih,hml];constructor
     .rintro⟨h1,h2,h3⟩
      refine⟨by omega,by omega,?_⟩;rw[hgd (by omega),if_neg (by omega),h3];omega
     .rintro⟨h1,h2,h3⟩
      rw[hgd h1]at h3;by_cases hlt:s<n+d.AH.length
      .rw[if_pos hlt]at h3;omega
      .rw[if_neg hlt]at h3
       exact⟨by omega,by omega,by rw[h3];omega⟩
def mA {p:Prog} {c:Nat} (hsl:Cv 0 p.AO=true) (ho:ordered (Az p)) (hc3:3<=c) (hc:c<3+p.AO.length) (s:Int) :
    ((EM p c (c - 2)).mergeSort Ho).contains s=(decide (0<=s)&&(decide (s<(Br p.AO:Int))&&hasB (AK p) (c:Int) s)):=by
 rw[G3,List.contains_iff_mem,(List.mergeSort_perm _ Ho).mem_iff,Ra];simp only[A0,CC,hasB]
 have hown: ∀j,j<c - 2->(s∈(Jl p (c - j)).AH↔0<=s/\s<(Br p.AO:Int)/\Bc (AK p) s=((c - j:Nat):Int)):=fun j hj=>by
  have hcl:p.AO[c - j - 3]? =some (Jl p (c - j)):=by
   rw[Jl,C6,DC (by omega)];rfl
  have:=TG p.AO 0 0 s hsl (by omega) (c - j - 3) _ hcl;rw[this];simp only[Int.sub_zero,Int.zero_add,Bc,AK];constructor
  .rintro⟨h1,h2,h3⟩;exact⟨h1,h2,by rw[h3];omega⟩
  .rintro⟨h1,h2,h3⟩;exact⟨h1,h2,by rw[h3];omega⟩
 constructor
 .rintro⟨j,h1,h2,h3⟩
  obtain⟨h4,h5,h6⟩:=(hown j h1).1 h3;refine⟨h4,h5,by omega,?_⟩;rw[h6];simp only[G0,Ea,A0,CC];exact .inr (.inr ⟨by omega,by simpa[AK]using h2⟩)
 .rintro⟨h1,h2,h3,h4⟩
  have hmem:Bc (AK p) s∈BT 0 p.AO:=by
   have hlen:s.toNat<(BT 0 p.AO).length:=by rw[Cj];omega
   have:Bc (AK p) s=(BT 0 p.AO)[s.toNat]:=by
    simp only[Bc,AK,C6,DC hlen];rfl
   rw[this];exact List.getElem_mem hlen
  have hb:=GM hmem
  have hup:GC (Az p) c (Bc (AK p) s).toNat=true:=by
   simp only[G0,Ea,A0,CC,Cd]at h4;rcases h4 with h4|h4|⟨_,h4⟩
   .rw[<-h4,HP];exact C9 ho c
   .omega
   .simpa[AK]using h4
  have hle:=iv ho _ _ hup;refine⟨c - (Bc (AK p) s).toNat,by omega,?_,?_⟩
  .rw[show c - (c - (Bc (AK p) s).toNat)=(Bc (AK p) s).toNat by omega]
   exact hup
  .refine(hown _ (by omega)).2 ⟨h1,h2,by omega⟩
def l9 {Z:AE}:Ar zP 283 [.b false] Z fun r Z'=>r= .Bh D3/\Z'=Z:=by
 refine jq kZ ?_;refine zz ?_;(repeat clear U K);repeat intro K U
 exact DV ⟨rfl,rfl⟩
def Cz {x:Bool} {Z:AE} {k kp:V->AE->Prop} (h1:x=true->k (.t []) Z) (h2:x=false->kp D3 Z):Ar zP 283 [.b x] Z (qk k kp):=by
 cases x
 .refine Ar.mono l9 ?_
  rintro r Z' ⟨rfl,rfl⟩;exact h2 rfl
 .exact l8.use (h1 rfl)
def F3:Int->List R9->Bool
 | _,[]=>true
 | n,c::r=>decide (c.AH.length<=4)&&(Lu n c.AH&&F3 (n+c.AH.length) r)
def Qh: ∀(cs:List R9) (n:Int),Cv n cs=(F3 n cs&&cs.all fun c=>decide (c.parents.length<=3))
 | [],_=>rfl
 | c::r,n=>by
   simp only[Cv,F3,R8];rw[Qh r];cases decide (c.AH.length<=4)<;>cases decide (c.parents.length<=3)<;>cases Lu n c.AH<;>simp
def S6: ∀(cs:List R9) (n:Int),F3 n cs=true->Br cs<=4*cs.length
 | [],_,_=>Ia _
 | c::r,n,h=>by
   simp only[F3,A0,CC]at h;have:=S6 r _ h.2.2;simp only[Br,EW,List.sum_cons,Lr]at *;omega
def XG {p:Prog} (h:Dy (Az p)=true):(p.AO.all fun c=>decide (c.parents.length<=3))=true:=by
 rw[DJ];intro c hc;obtain⟨i,hi⟩:=List.getElem?_of_mem hc;have:=(D6 h).2 i c.parents (by rw[Az,OR,hi];rfl);exact decide_eq_true this.1
def Rw (p:Prog):A7 p=(decide (p.AO.length<=10)&&(F3 0 p.AO&&((Br p.AO:Int)==p.AH&&(Dy (Az p)&&GZ (AK p) (Br p.AO) 0 p.AO)))):=by
 rw[A7,Qh];cases hg:Dy (Az p)
 .simp
 .rw[XG hg,Bool.and_true]
abbrev AAI (p:Prog):R->AE->Prop:=fun r Z'=> ∃post:List At,(r=(if A7 p then R.ret (.t [])else R.Bh D3)/\post= [])/\Sat Z' post
def Yb {p:Prog} {Z:AE} (h:A7 p=false):AZ Z D3 (AAI p):=DV ⟨_,⟨by rw[h];rfl,rfl⟩,Sat.nil⟩
def clsT {p:Prog} {Z:AE} {l:List At} (hs:Sat Z l) (h:A7 p=true):Aj Z (.t []) (AAI p):=Aw hs (O4 _) (.refl _) fun Z' hs'=>⟨_,⟨by rw[h];rfl,rfl⟩,hs'⟩
def Z2 (p : Prog):BS zP 282 [.a (BR p)] [] fun r post=>r=(if A7 p then R.ret (.t [])else R.Bh D3)/\post= []:=by
 intro Z hs;refine Ar.fit (by kernel_rfl) fun hf=>?_
 have hP:=L6 hf.1;have hcl:=hP.1;have hM:=Mx;refine we kZ ?_;have hcb:=Rw p;by_cases h10:p.AO.length<=10
 rotate_left
 .conv=>whnf
  repeat'((first|clear U K|apply st|(apply zk;intro K U)|refine zY ?_|(refine Cz (fun hc=>?_) (fun hc=>?_)<;>(replace hc:=bp hc)<;>(try simp(disch:=omega) only[Ca,wrap64,Ag]at hc)<;>(try(exfalso;omega)))|fail)<;>conv=>whnf)
  all_goals try(exfalso;omega)
  exact Yb (by rw[hcb];simp[h10])
 rw[decide_eq_true h10,Cm]at hcb
 conv=>whnf
 repeat'((first|clear U K|apply st|(apply zk;intro K U)|refine zY ?_|(refine Cz (fun hc=>?_) (fun hc=>?_)<;>(replace hc:=bp hc)<;>(try simp(disch:=omega) only[Ca,wrap64,Ag]at hc)<;>(try(exfalso;omega)))|fail)<;>conv=>whnf)
 all_goals try(exfalso;omega)
 refine CZ p.AO.length (fun k (n:Int)=>[(2,eI n),(24,eI (BL k))]) (fun _ _=>[]) (fun k n=>F3 0 p.AO=F3 n (p.AO.drop k)/\0<=n/\n+Br (p.AO.drop k)=Br p.AO/\n<=4*k) 0 rfl (by simp) hs ?_;clear hs;rintro k n Z hk ⟨hn,hn0,hn1,hn2⟩ hs;rcases BF p.AO hk with⟨c,hc,hlt⟩|hke
 .have hcm:=(hP.2 c (CY hc)).2.1
  have hms:n+(c.AH.length:Int)+Br (p.AO.drop (k+1))=Br p.AO:=by
   rw[drop_cons hc]at hn1;simp only[Br,EW,List.sum_cons]at hn1 ⊢;omega
  rw[drop_cons hc,F3]at hn;by_cases h4:c.AH.length<=4
  .rw [decide_eq_true h4,Cm]at hn
   conv=>whnf
   repeat'((first|clear U K|apply st|(apply zk;intro K U)|refine zY ?_|refine zs fun Z hs=>?_|(refine Cz (fun hc=>?_) (fun hc=>?_)<;>(replace hc:=bp hc)<;>(try simp(disch:=omega) only[Ca,wrap64,Ag]at hc)<;>(try(exfalso;omega)))|refine zo fun nn hnn Z hs=>?_|fail)<;>conv=>whnf)
   all_goals try(exfalso;omega)
   refine CZ c.AH.length (fun j (m:Int)=>[(2,eI m),(36,eI (BL j))]) (fun _ _=>[]) (fun j m=>F3 0 p.AO=(Lu m (c.AH.drop j)&&F3 (n+c.AH.length) (p.AO.drop (k+1)))/\m=n+j) n rfl ⟨hn,by simp⟩ (hs.take 0) ?_;clear hs hn;rintro j m Z hj ⟨hm,he⟩ hs;rcases BF c.AH hj with⟨x,hx,hjlt⟩|hje
   .rw[drop_cons hx,Lu]at hm
    conv=>whnf
    repeat'((first|clear U K|apply st|(apply zk;intro K U)|refine zY ?_|(refine Cz (fun hc=>?_) (fun hc=>?_)<;>(replace hc:=bp hc))|fail)<;>conv=>whnf)
    .rw[wrap64 (by omega) (by omega)]
     rw[hc,beq_self_eq_true,Cm]at hm;exact⟨hjlt,_,rfl,⟨by rw[<-hc];rw[<-hc]at hm;exact hm,by omega⟩,hs⟩
    .exact Yb (by rw[hcb,hm];simp[hc])
   .rw[Ao hje,Lu,Cm]at hm
    refine zz ?_;(repeat clear U K);repeat intro K U
    exact⟨hlt,m,rfl,⟨by rw[hm];congr 1;omega,by omega,by omega,by omega⟩,hs⟩
  .conv=>whnf
   repeat'((first|clear U K|apply st|(apply zk;intro K U)|refine zY ?_|refine zs fun Z hs=>?_|(refine Cz (fun hc=>?_) (fun hc=>?_)<;>(replace hc:=bp hc)<;>(try simp(disch:=omega) only[Ca,wrap64,Ag]at hc)<;>(try(exfalso;omega)))|refine zo fun nn hnn Z hs=>?_|fail)<;>conv=>whnf)
   all_goals try(exfalso;omega)
   exact Yb (by rw[hcb,hn];simp[h4])
 .have hne:n=Br p.AO:=by rw[Ao hke]at hn1;simpa[Br]using hn1
  rw[Ao hke]at hn;have hsp:F3 0 p.AO=true:=hn;have hml:=S6 _ _ hsp;rw[hsp,Cm,<-hne]at hcb;cases hgd:Dy (Az p)
  .rw[hgd]at hcb
   have hck:=XX (Az p) false;rw[hgd,if_neg (by decide)]at hck;have hcF:A7 p=false:=by rw[hcb];simp
   conv=>whnf
   repeat'((first|clear U K|apply st|(apply zk;intro K U)|refine zY ?_|(refine Cz (fun hc=>?_) (fun hc=>?_)<;>(replace hc:=bp hc)<;>(try simp(disch:=omega) only[Ca,wrap64,Ag]at hc)<;>(try(exfalso;omega))<;>(try(cases hc;done)))|refine Pure.use (Mq _ (by omega)) ?_|refine Pure.use (by assumption) ?_|refine za (fun hc=>?_) fun hc=>?_|fail)<;>conv=>whnf)
   all_goals exact Yb hcF
  .have hck:=XX (Az p) false
   rw[hgd,if_pos rfl]at hck;rw[hgd,Cm]at hcb;by_cases hps:n=p.AH
   .rw [hps,beq_self_eq_true,Cm,<-hps]at hcb
    have hslB:Cv 0 p.AO=true:=by rw[Qh,hsp,XG hgd];rfl
    have hG:=D6 hgd;have ho:=KY hG;have hgl:(Az p).length=p.AO.length:=by simp[Az]
    conv=>whnf
    repeat'((first|clear U K|apply st|(apply zk;intro K U)|refine zY ?_|(refine Cz (fun hc=>?_) (fun hc=>?_)<;>(replace hc:=bp hc)<;>(try simp(disch:=omega) only[Ca,wrap64,Ag]at hc)<;>(try(exfalso;omega)))|refine Pure.use (Mq _ (by omega)) ?_|refine Pure.use (by assumption) ?_|(refine zb (fun hc=>?_) (fun hc=>?_)<;>try exact⟨⟩)|fail)<;>conv=>whnf)
    refine CZ p.AO.length (fun k (_:Unit)=>[(63,eI (BL k))]) (fun _ _=>[]) (fun k _=>A7 p=GZ (AK p) n k (p.AO.drop k)) () rfl hcb hs ?_;clear hs;rintro i - Z hi hn' hs;rcases BF p.AO hi with⟨c,hc,hilt⟩|hie
    .rw [drop_cons hc,GZ]at hn'
     have hci:BL i=i:=Ag (by omega);have hw3:IntKind.i64.wrap (BL i+3)=(i:Int)+3:=by rw[hci,wrap64 (by omega) (by omega)]
     have hlin:=ub (Az p) false ((i:Int)+3) hgd (by omega) (by omega);have hinl:=(hP.2 c (CY hc)).2.2;have hlb:oH (AK p).parents ((i:Int)+3)= !((CA (Az p)).getD ((i:Int)+3).toNat []).isEmpty:=rfl;cases hem:((CA (Az p)).getD ((i:Int)+3).toNat []).isEmpty
     .rw [hem]at hlb
      rw[hlb,Bool.not_false,Cm]at hn';rw[hem,if_neg (by decide),<-hw3]at hlin;have hhas:=ur p (i+3) h10 hslB hgd (by omega) (by omega);have hmh:=mA hslB ho (show 3<=i+3 by omega) (show i+3<3+p.AO.length by omega);have ei3:((i+3:Nat):Int)=(i:Int)+3:=by omega
      rw[ei3,<-hw3]at hhas;rw[ei3]at hmh;generalize (EM p (i+3) (i+3 - 2)).mergeSort Ho=mine at *
      conv=>whnf
      repeat'((first|clear U K|apply st|(apply zk;intro K U)|refine zY ?_|refine zs fun Z hs=>?_|(refine Cz (fun hc=>?_) (fun hc=>?_)<;>(replace hc:=bp hc)<;>(try simp(disch:=omega) only[Ca,wrap64,Ag]at hc)<;>(try(exfalso;omega)))|refine Pure.use (by assumption) ?_|refine zo fun nn hnn Z hs=>?_|fail)<;>conv=>whnf)
      generalize nn=mm at *;replace hs:Sat Z [.map mm (T3 [])]:=hs.take 1;refine CZ c.inits.length (fun j (_:List Int)=>[(86,eI (BL j))]) (fun _ M=>[.map mm (T3 M)]) (fun j M=>A7 p=(EN (AK p) ((i:Int)+3) n (c.inits.take j) (c.inits.drop j)&&GZ (AK p) n (i+1) (p.AO.drop (i+1)))/\ ∀s,M.contains s=(c.inits.take j).any fun y=>y.1==s) [] rfl ⟨hn',fun s=>rfl⟩ hs ?_;clear hs;rintro j M Z hj ⟨hm,hMs⟩ hs;rcases BF c.inits hj with⟨x,hx,hjlt⟩|hje
      .have hpa:((c.inits.take j).all fun y=>y.1 != x.1)= !M.contains x.1:=by
        rw[hMs,List.all_eq_not_any_not];congr 2;funext y;simp[bne]
       have hst:A7 p=((mine.contains x.1&&(!M.contains x.1&&UH x.2))&&(EN (AK p) ((i:Int)+3) n (c.inits.take (j+1)) (c.inits.drop (j+1))&&GZ (AK p) n (i+1) (p.AO.drop (i+1)))):=by
        rw[hm,drop_cons hx,EN,hpa,hmh,<-hne,AU hx];cases decide (0<=x.1)<;>cases decide (x.1<n)<;>cases hasB (AK p) ((i:Int)+3) x.1<;>cases UH x.2<;>cases M.contains x.1<;>simp
       have hMs': ∀s,(Py M x.1).contains s=(c.inits.take (j+1)).any fun y=>y.1==s:=fun s=>by
        rw[Wy,hMs,AU hx,List.any_append];simp only[SA,List.any_nil,Bool.or_false];congr 1;rw[G3];simp;exact eq_comm
       have hct:=Cr mine false x.1;have hbt:=R2 x.2;clear hmh hpa hMs hm;cases eA:mine.contains x.1<;>cases eB:M.contains x.1<;>cases eD:UH x.2<;>rw[eA]at hct<;>rw[eD]at hbt<;>rw[eA,eB,eD]at hst
       all_goals
        conv=>whnf
        repeat'((first|clear U K|apply st|(apply zk;intro K U)|refine zY ?_|refine zs fun Z hs=>?_|(refine Cz (fun hc=>?_) (fun hc=>?_)<;>(replace hc:=bp hc)<;>(try simp(disch:=omega) only[Ca,wrap64,Ag]at hc)<;>(try(cases hc;done)))|refine tH eB ?_|refine msK (fun Z hs=>?_)|refine Pure.use (by assumption) ?_|refine zo fun nn hnn Z hs=>?_|fail)<;>conv=>whnf)
       all_goals first
        | exact⟨hjlt,_,rfl,⟨hst,hMs'⟩,hs.less (K7 _ _)⟩
        | exact Yb (by rw[hst];rfl)
      .rw[Ao hje,EN,Cm]at hm
       refine zz ?_;(repeat clear U K);repeat intro K U
       exact⟨hilt,(),rfl,hm,hs.take 0⟩
     .rw[hem]at hlb
      rw[hem,if_pos rfl,<-hw3]at hlin;have hcF:A7 p=false:=by rw[hn',hlb];rfl
      conv=>whnf
      repeat'((first|clear U K|apply st|(apply zk;intro K U)|refine zY ?_|refine zs fun Z hs=>?_|(refine Cz (fun hc=>?_) (fun hc=>?_)<;>(replace hc:=bp hc)<;>(try(exfalso;omega)))|refine Pure.use (by assumption) ?_|refine zo fun nn hnn Z hs=>?_|fail)<;>conv=>whnf)
      all_goals exact Yb hcF
    .refine zz ?_;(repeat clear U K);repeat intro K U
     exact clsT hs (by rw[hn',Ao hie];rfl)
   .have hcF:A7 p=false:=by rw[hcb];simp[hps]
    conv=>whnf
    repeat'((first|clear U K|apply st|(apply zk;intro K U)|refine zY ?_|(refine Cz (fun hc=>?_) (fun hc=>?_)<;>(replace hc:=bp hc)<;>(try simp(disch:=omega) only[Ca,wrap64,Ag]at hc)<;>(try(cases hc;done)))|refine Pure.use (Mq _ (by omega)) ?_|(refine zb (fun hc=>?_) (fun hc=>?_)<;>try exact⟨⟩)|fail)<;>conv=>whnf)
    all_goals exact Yb hcF
def dd (f : Fact):QI f=true->Pure zP 288 [.a (xF f)] (eI (DE f)):=by
 induction f using Fact.ind with
 | h f ih=>
   intro ha;refine Pure.fit (by kernel_rfl) fun hf=>?_
   have⟨h2,h3,h4⟩:=Oc hf.1;have hM:=Mx;rw[My]at ha;simp only[A0,CC,List.all_map,DJ]at ha;refine wY kZ ?_;have hs:=Sn;by_cases hlf:Bl f=true
   .have hlo:=Ff hlf
    have hw:IntKind.i64.wrap (f.arg+1)=f.arg+1:=wrap64 (by omega) (by omega)
    conv=>whnf
    repeat'((first|clear U K|apply st|(apply zk;intro K U)|refine zY ?_|(refine zb (fun hc=>?_) (fun hc=>?_)<;>try exact⟨⟩)|fail)<;>conv=>whnf)
    all_goals try(exfalso;omega)
    all_goals
     refine CZ f.kids.length (fun k (_:Unit)=>[(3,eI (((f.kids.take k).map DE).foldl Ht (if Bl f then f.arg+1 else 0))),(25,eI (BL k))]) (fun _ _=>[]) (fun _ _=>True) () (by rw[hw,if_pos hlf];rfl) trivial hs ?_;clear hs;rintro k - Z hk - hs;rcases BF f.kids hk with⟨x,hx,hlt⟩|hke
     .have hxs:=ih x (CY hx) (ha.2 x (CY hx))
      conv=>whnf
      repeat'((first|clear U K|apply st|(apply zk;intro K U)|refine zY ?_|refine zs fun Z hs=>?_|refine zC ?_|refine zo fun nn hnn Z hs=>?_|fail)<;>conv=>whnf)
      exact⟨hlt,(),by rw[Ei _ _ _ hx];rfl,trivial,hs.take 0⟩
     .refine zz ?_;(repeat clear U K);repeat intro K U
      exact AG (by rw[BC hke,<-ED])
   .have hlo:f.op≠2/\f.op≠3/\f.op≠4:=by
     simp only[Bl,Ea,Cd]at hlf;omega
    conv=>whnf
    repeat'((first|clear U K|apply st|(apply zk;intro K U)|refine zY ?_|(refine zb (fun hc=>?_) (fun hc=>?_)<;>try exact⟨⟩)|fail)<;>conv=>whnf)
    all_goals try(exfalso;omega)
    all_goals
     refine CZ f.kids.length (fun k (_:Unit)=>[(3,eI (((f.kids.take k).map DE).foldl Ht (if Bl f then f.arg+1 else 0))),(25,eI (BL k))]) (fun _ _=>[]) (fun _ _=>True) () (by rw[if_neg hlf];rfl) trivial hs ?_;clear hs;rintro k - Z hk - hs;rcases BF f.kids hk with⟨x,hx,hlt⟩|hke
     .have hxs:=ih x (CY hx) (ha.2 x (CY hx))
      conv=>whnf
      repeat'((first|clear U K|apply st|(apply zk;intro K U)|refine zY ?_|refine zs fun Z hs=>?_|refine zC ?_|refine zo fun nn hnn Z hs=>?_|fail)<;>conv=>whnf)
      exact⟨hlt,(),by rw[Ei _ _ _ hx];rfl,trivial,hs.take 0⟩
     .refine zz ?_;(repeat clear U K);repeat intro K U
      exact AG (by rw[BC hke,<-ED])
def eJ (p:Prog) (x:Node) (size:Int):Pure zP 286 [.a (BR p),.a (Jk x),eI size] (.b (NU p x size)):=by
 refine Pure.fit (by kernel_rfl) fun hf=>?_
 have⟨p1,p2,p3,p4⟩:=G7 hf.1;have hM:=Mx;have hw:IntKind.i64.wrap (3+((p.AO.map UF).length:Nat))=3+(p.AO.length:Int):=by rw[Ca,wrap64 (by omega) (by omega)]
 refine wa kZ ?_;have hs:=Sn
 conv=>whnf
 repeat'((first|clear U K|apply st|(apply zk;intro K U)|refine zY ?_|refine Pure.use (R2 _) ?_|refine za (fun hc=>?_) fun hc=>?_|fail)<;>conv=>whnf)
 all_goals first
  | (refine AG ?_;simp[NU, *];done)
  | (refine AG ?_;simp[NU, *];omega)
  | (refine AG ?_;rw[hw];simp[NU, *];done)
  | (refine AG ?_;congr 1;rw[G3];simp[NU, *];omega)
def uV (n:Nat) (hn:n<=120):Pure zP 239 [.i .u64 1,eU n] (.t [.i .u64 0,eU n]):=by
 refine xQ kZ ?_;have hs:=Sn
 conv=>whnf
 repeat'((first|clear U K|apply st|(apply zk;intro K U)|refine zY ?_|refine⟨(by decide:(0:Int)<=_),?_⟩|fail)<;>conv=>whnf)
 have ea: ∀m:Nat,m<=120->bits .and .u64 (m:Int) 4294967295=(m:Int):=fun m hm=>by
  have:=Fw (a:=m) (b:=4294967295) (by omega) (by decide)
  have e:m&&&4294967295=m:=by
   have:=Nat.and_two_pow_sub_one_eq_mod m 32;rw[show 2 ^ 32 - 1=4294967295 from rfl]at this;rw[this];omega
  rw[e]at this;exact this
 have e0:=ea 0 (by omega);have e1:=ea 1 (by omega);have en:=ea n hn
 have ef: ∀m:Nat,m<=120->(m:Int).fdiv (2 ^ min (Int.toNat 32) IntKind.u64.bits)=0:=fun m hm=>by
  have:=Up (a:=m) (c:=32) (by decide);rw[show(Int.toNat 32)=32 from rfl,this,Nat.shiftRight_eq_div_pow];have:m / 2 ^ 32=0:=Nat.div_eq_of_lt (by omega);rw[this];rfl
 have f0:=ef 0 (by omega);have f1:=ef 1 (by omega);have fn:=ef n hn;have w0:IntKind.u64.wrap 0=0:=rfl;have wn:IntKind.u64.wrap (n:Int)=n:=IB (by omega);simp only[Int.natCast_zero,Int.natCast_one,Int.cast_ofNat_Int]at e0 e1 f0 f1;simp only[e0,e1,en,f0,f1,fn,w0,wn,Int.zero_mul,Int.mul_zero,Int.zero_add,Int.add_zero,Int.one_mul];exact AG rfl
def uW (n:Nat) (hn:n<=120):Pure zP 160 [.i .u64 1,eU n] (.t [.i .u64 0,eU n]):=by
 refine yP kZ ?_;have hs:=Sn
 conv=>whnf
 repeat'((first|clear U K|apply st|(apply zk;intro K U)|refine Pure.use (uV n hn) ?_|fail)<;>conv=>whnf)
 all_goals exact AG rfl
end Go.Gl
namespace Go.Gl
variable {P:Program} {Z:AE}
def slLo {n sz len cap:Nat} {ki:IntKind} {j:Int} {K:V->AE->Prop} (h:K (.sv n sz j.toNat ((len:Int) - j).toNat) Z) (h0:0<=j:=by omega) (h1:j<=(len:Int):=by omega):AP Z sz (.sl n len cap) (some (.i ki j)) none none K:=by
 unfold AP;simp only[O7];exact⟨h0,h1,Int.le_refl _,h⟩
def slHi {n sz len cap:Nat} {ki:IntKind} {j:Int} {K:V->AE->Prop} (h:K (.sv n sz 0 j.toNat) Z) (h0:0<=j:=by omega) (h1:j<=(len:Int):=by omega):AP Z sz (.sl n len cap) none (some (.i ki j)) none K:=by
 unfold AP;simp only[O7];refine⟨Int.le_refl _,h0,h1,?_⟩;simpa using h
def AAz {l:List At} (h:Sat Z l) (i:Nat) {n len cap sz:Nat} {es ys:List (List V)} {f:Bool} {K:V->AE->Prop} (hi:l[i]? =some (.own (.sl n len cap) sz es)) (hle:ys.length<=es.length) (hys: ∀e∈ys,e.length=sz) (ho: ∀e∈ys,∀v∈e,CN v=true)
    (hk: ∀Z',Sat Z' (l.set i (.own (.sl n len cap) sz (ys++es.drop ys.length)))->K (.i .i64 (ys.length:Nat)) Z'):AW Z sz (.sl n len cap) (.l ys f) K:=by
 rcases h.get hi with⟨h1,_⟩|⟨n',cap',h1,hn⟩
 .cases h1
 cases h1;unfold AW;refine⟨hys,ho,?_⟩;simp only[Pz,hn];have hm:min ys.length es.length=ys.length:=Nat.min_eq_left hle;refine⟨trivial,by omega,?_⟩;rw[hm];refine hk _ ?_;simp only[List.take_zero,List.nil_append,List.take_length,Gu];refine h.change hi (fun b hb ha=>FK hb fun m hm=>?_) (fun b hb ha m hm=>ha m hm) (.inr ⟨n,cap,by simp;omega,by simp[B5]⟩);rw[Cn];intro e;subst e;exact ha m rfl hm
def AAy {l:List At} (h:Sat Z l) (i:Nat) {n len cap sz a b c:Nat} {es:List (List V)} {K:V->AE->Prop} (hi:l[i]? =some (.own (.sl n len cap) sz es)) (hbc:a+b<=es.length) (hc:c<=es.length) (hys: ∀e∈es,e.length=sz) (ho: ∀e∈es,∀v∈e,CN v=true)
    (hk: ∀Z',Sat Z' (l.set i (.own (.sl n len cap) sz (es.take a++((es.take c).take (min c b)++es.drop (a+min c b)))))->K (.i .i64 (min c b:Nat)) Z'):AW Z sz (.sv n sz a b) (.sv n sz 0 c) K:=by
 rcases h.get hi with⟨h1,_⟩|⟨n',cap',h1,hn⟩
 .cases h1
 cases h1;unfold AW;simp only[rowsOf,hn];have hl:((es.drop 0).take c).length=c:=by simp;omega
 refine⟨trivial,trivial,by omega,fun e he v hv=>ho e (List.mem_of_mem_take (by simpa using he)) v hv,trivial,?_⟩;simp only[Pz,hn,List.drop_zero];refine⟨trivial,by omega,?_⟩;have hl2:(es.take c).length=c:=by simp;omega
 rw[hl2];refine hk _ ?_;refine h.change hi (fun b hb ha=>FK hb fun m hm=>?_) (fun b hb ha m hm=>ha m hm) (.inr ⟨n,cap,by simp;omega,by simp[B5]⟩);rw[Cn];intro e;subst e;exact ha m rfl hm
end Go.Gl
namespace Go.Gl
open Go.Proofs
attribute [local irreducible] Ar Aj AZ AQ AL AX AP AR AJ AW AM AN Am Av Sat AT As Aa W
def repeatA (a:Int) (n:Nat) (h1:1<=n) (hn:n<=120):BS zP 102 [.l [[eI a]] true,eI n] [] fun r post=> ∃v,r= .ret v/\post= [.own v 1 (iL (List.replicate n a))]/\(Ce v).isSome=true:=by
 intro Z hs;have hM:=Mx;have hw1:IntKind.u64.wrap 1=1:=rfl;have hwn:IntKind.u64.wrap (n:Int)=n:=IB (by omega);have hwi:IntKind.i64.wrap (n:Int)=n:=wrap64 (by omega) (by omega);refine yy kZ ?_
 conv=>whnf
 repeat'((first|clear U K|apply st|(apply zk;intro K U)|refine zY ?_|(refine zb (fun hc=>?_) (fun hc=>?_)<;>try exact⟨⟩)|fail)<;>conv=>whnf)
 rw[show IntKind.u64.wrap (([[eI a]]:List (List V)).length:Nat)=1 from rfl,hwn];refine(uW n hn).use ?_
 conv=>whnf
 repeat'((first|clear U K|apply st|(apply zk;intro K U)|refine zY ?_|(refine zb (fun hc=>?_) (fun hc=>?_)<;>try exact⟨⟩)|fail)<;>conv=>whnf)
 all_goals try(exfalso;omega)
 rw[hwi];refine AAD hs (Ia n) (by omega) fun v Z hs hv=>?_
 obtain⟨id,rfl⟩:=hv
 conv=>whnf
 repeat'((first|clear U K|apply st|(apply zk;intro K U)|fail)<;>conv=>whnf)
 refine AAz hs 0 (ys:=[[eI a]]) rfl (by simp;omega) (fun e he=>by simp at he;subst he;rfl) (fun e he v hv=>by simp at he;subst he;simp at hv;subst hv;rfl) fun Z hs=>?_
 have hst:([[eI a]]:List (List V))++(List.replicate n [V.i .i64 0]).drop ([[eI a]]:List (List V)).length=List.replicate 1 [eI a]++List.replicate (n - 1) [eI 0]:=by simp[List.drop_replicate]
 rw[hst]at hs;refine zz ?_;(repeat clear U K);repeat intro K U
 refine Gb (fun m:Nat=>n - m) (fun m=>[(8,eI m)]) (fun m=>[.own (.sl id n n) 1 (List.replicate m [eI a]++List.replicate (n - m) [eI 0])]) (fun m=>1<=m/\m<=n) 1 rfl ⟨by omega,h1⟩ hs ?_;clear hs hst;rintro m Z ⟨hm1,hmn⟩ hs
 have hgl: ∀e∈(List.replicate m [eI a]++List.replicate (n - m) [eI 0]:List (List V)),e.length=1/\ ∀v∈e,CN v=true:=fun e he=>by
  rcases D9.1 he with he|he
  .rw[(List.mem_replicate.1 he).2];exact⟨rfl,fun v hv=>by simp at hv;subst hv;rfl⟩
  .rw[(List.mem_replicate.1 he).2];exact⟨rfl,fun v hv=>by simp at hv;subst hv;rfl⟩
 have hlen:(List.replicate m [eI a]++List.replicate (n - m) [eI 0]:List (List V)).length=n:=by simp;omega
 rcases Nat.lt_or_ge m n with hlt|hge
 .have hcpy:(List.replicate m [eI a]++List.replicate (n - m) [eI 0]:List (List V)).take m++(((List.replicate m [eI a]++List.replicate (n - m) [eI 0]:List (List V)).take m).take (min m (n - m))++(List.replicate m [eI a]++List.replicate (n - m) [eI 0]:List (List V)).drop (m+min m (n - m)))=List.replicate (m+min m (n - m)) [eI a]++List.replicate (n - (m+min m (n - m))) [eI 0]:=by
   have e1:(List.replicate m [eI a]++List.replicate (n - m) [eI 0]:List (List V)).take m=List.replicate m [eI a]:=by
    rw[List.take_append_of_le_length (by simp)];simp
   rw[e1,List.take_replicate,List.drop_append,List.drop_replicate,List.drop_replicate,List.length_replicate,<-Ps,List.replicate_append_replicate];have e2:m - (m+min m (n - m))=0:=by omega
   have e3:n - m - (m+min m (n - m) - m)=n - (m+min m (n - m)):=by omega
   rw[e2,e3,List.replicate_zero,List.nil_append];congr 2;omega
  conv=>whnf
  repeat'((first|clear U K|apply st|(apply zk;intro K U)|refine zY ?_|(refine zb (fun hc=>?_) (fun hc=>?_)<;>try exact⟨⟩)|fail)<;>conv=>whnf)
  all_goals try(exfalso;omega)
  refine slLo ?_;refine zz ?_;(repeat clear U K);repeat intro K U
  refine slHi ?_;refine zz ?_;(repeat clear U K);repeat intro K U
  rw[HP,show((n:Int) - m).toNat=n - m by omega];refine AAy hs 0 rfl (by rw[hlen];omega) (by rw[hlen];omega) (fun e he=>(hgl e he).1) (fun e he=>(hgl e he).2) fun Z hs=>?_
  rw[hcpy]at hs;refine zz ?_;(repeat clear U K);repeat intro K U
  refine⟨m+min m (n - m),by omega,?_,⟨by omega,by omega⟩,hs⟩;rw[wrap64 (by omega) (by omega)];rfl
 .have hme:m=n:=by omega
  subst hme
  conv=>whnf
  repeat'((first|clear U K|apply st|(apply zk;intro K U)|refine zY ?_|(refine zb (fun hc=>?_) (fun hc=>?_)<;>try exact⟨⟩)|fail)<;>conv=>whnf)
  all_goals try(exfalso;omega)
  refine Aw hs (List.Sublist.refl _) (.refl _) fun Z' hs'=>⟨_,⟨_,rfl,?_,rfl⟩,hs'⟩
  simp[iL]
def dn (n:Nat) (h1:1<=n) (hn:n<=120):BS zP 102 [.l [[eI (-1)]] true,eI n] [] fun r post=> ∃v,r= .ret v/\post= [.own v 1 (iL (List.replicate n (-1)))]/\(Ce v).isSome=true:=repeatA (-1) n h1 hn
def Sj (op:Int):V:=
 if op=5 then .FF 360 (.a [])else
 if op=1\/op=2\/op=3\/op=6\/op=18 then .FF 359 (eI 0)else
 if op=4\/op=8\/op=17 then .FF 359 (eI 1)else
 if op=7\/op=9\/op=11\/op=12\/op=13\/op=14\/op=15\/op=16 then .FF 359 (eI 2)else
 if op=10 then .FF 359 (eI 3)else .Dv
def eV (op:Int):Pure zP 287 [eI op] (Sj op):=by
 refine wZ kZ ?_;have hs:=Sn
 conv=>whnf
 repeat'((first|clear U K|apply st|(apply zk;intro K U)|refine zY ?_|refine za (fun hc=>?_) fun hc=>?_|fail)<;>conv=>whnf)
 all_goals exact AG (by simp[Sj, *])
def AAT (n:Int) (p:Prog) (x:Node):Pure zP 399 [eI n,.a (BR p),.a (Jk x)] (eI n):=by
 refine vG kZ ?_;have hs:=Sn;exact zW
def rO (p:Prog) (x:Node) (h0:0<=x.n) (h1:x.n<p.Cb.length):Pure zP 400 [.a [],.a (BR p),.a (Jk x)] (eI (p.Cb.getD x.n.toNat 0)):=by
 refine Pure.fit (by kernel_rfl) fun hf=>?_
 have⟨p1,p2,p3,p4⟩:=G7 hf.2.1
 have hx:p.Cb[x.n.toNat]? =some (p.Cb.getD x.n.toNat 0):=by
  rw[C6,DC (by omega)];rfl
 refine vF kZ ?_;have hs:=Sn;exact zW
end Go.Gl
namespace Go.Gl
variable {P:Program} {Z:AE}
def Sat.up {Z':AE} {l:List At} (h:Sat Z l) (hs:Sub Z Z'):Sat Z' l:=by
 refine⟨fun a ha=>?_,h.2⟩;have:=h.1 a ha;cases a with
 | obj n o=>exact hs n o this
 | own v sz es=>
   rcases this with h|⟨n,cap,e,hn⟩
   .exact .inl h
   .exact .inr ⟨n,cap,e,hs n _ hn⟩
def Sat.del {l:List At} {n:Nat} {o:O} (h:Sat Z (.obj n o::l)):Sat (del Z n) l:=by
 refine⟨fun b hb=>FK (h.1 b (.tail _ hb)) fun m hm=>?_,(List.pairwise_cons.1 h.2).2⟩;rw[Hc];intro e;subst e;exact(List.pairwise_cons.1 h.2).1 b hb m rfl hm
def Sat.iE {l:List At} {n:Nat} {o:O} (h:Sat Z l) (hn:Z n=none):Sat (B5 Z n o) (.obj n o::l):=(gx h hn).zU
def Sat.new {l:List At} {n:Nat} {o o':O} (h:Sat Z (.obj n o::l)):Sat (B5 Z n o') (.obj n o'::l):=tL (i:=0) h rfl o'
def AI {v:V} {Q:R->AE->Prop} (h:Q (.ret v) Z):Aj Z v Q:=⟨v,Z,fun _ _ h=>h,.refl v,h⟩
inductive Rd (S:Type) where
 | go (s:S)
 | stop (st:su) (s:S)
 | Bh (v:V)
def ny {S:Type} (L:Nat) (E:Env) (ok:FuncId->Array Tmp->Code->Code->Nat->Prop) (H:S->List At) (J:S->Prop) (rest:List At) (yes no:V):Rd S->R->AE->Prop
 | .go s,r,Z=>r= .ret yes/\Sat Z (.obj L (.loop .ready E ok)::(H s++rest))
 | .stop st s,r,Z=>r= .ret no/\Sat Z (.obj L (.loop st E ok)::(H s++rest))
 | .Bh v,r,Z=>r= .Bh v/\ ∃s,J s/\Sat (del Z L) (H s++rest)
def Nv {α S:Type} (P:Program) (L:Nat) (E:Env) (ok:FuncId->Array Tmp->Code->Code->Nat->Prop) (ea:α->List V) (H:S->List At) (J:S->Prop) (stp:α->S->Rd S) (D:α->S->Prop):Prop:=
 ∀y s,D y s-> ∀(rest:List At) (Z:AE),Sat Z (.obj L (.loop .ready E ok)::(H s++rest))->L2 P L (ea y) Z (ny L E ok H J rest (.b true) (.b false) (stp y s))
def Nv.use {α S:Type} {L:Nat} {E:Env} {ok:FuncId->Array Tmp->Code->Code->Nat->Prop} {ea:α->List V} {H:S->List At} {J:S->Prop} {stp:α->S->Rd S} {D:α->S->Prop} (h:Nv P L E ok ea H J stp D) {y:α} {s:S} (hd:D y s) {rest:List At} (hs:Sat Z (.obj L (.loop .ready E ok)::(H s++rest)))
    {Q:R->AE->Prop} (hk: ∀r Z',ny L E ok H J rest (.b true) (.b false) (stp y s) r Z'->Q r Z'):Am P (.f (.yield L) [] []) (ea y) Z Q:=(h y s hd rest Z hs).mono hk
def Lh {L:Nat} {env:Env} {ps:List Nat} {a b:AV} (hσ:Z L=some (.loop .ready env (Bk P ps a b))) {args:List V} (hl:args.length=ps.length) {Q:R->AE->Prop}
    (h:W P a (CW (W P b fun ex env' Z'=>Z' L=none->QY L env (Bk P ps a b) Q ex env' Z')) (Eh ps args env) (del Z L)):L2 P L args Z Q:=
 Rv hσ hl (Y9 h (K1 fun _ _ h=>nv h))
def Om {α S:Type} {L:Nat} {E:Env} {ps:List Nat} {a b:AV} {ea:α->List V} {H:S->List At} {J:S->Prop} {stp:α->S->Rd S} {D:α->S->Prop} (hl: ∀y,(ea y).length=ps.length)
    (h: ∀y s,D y s-> ∀(rest:List At) (Z:AE),Sat Z (H s++rest)->W P a (CW (W P b fun ex env' Z'=>Z' L=none->QY L E (Bk P ps a b) (ny L E (Bk P ps a b) H J rest (.b true) (.b false) (stp y s)) ex env' Z')) (Eh ps (ea y) E) Z):Nv P L E (Bk P ps a b) ea H J stp D:=
 fun y s hd rest Z hs=>Lh (hs.get (i:=0) rfl) (hl y) (h y s hd rest _ hs.del)
def Wv {S:Type} {L:Nat} {E:Env} {ok:FuncId->Array Tmp->Code->Code->Nat->Prop} {H:S->List At} {J:S->Prop} {rest:List At} {o:Rd S} {s:S} (h:o= .go s) (hs:Sat Z (H s++rest)) (hn:Z L=none) :
    ny L E ok H J rest (.b true) (.b false) o (.ret (.b true)) (B5 Z L (.loop .ready E ok)):=by
 subst h;exact⟨rfl,hs.iE hn⟩
def ZI {S:Type} {L:Nat} {E:Env} {ok:FuncId->Array Tmp->Code->Code->Nat->Prop} {H:S->List At} {J:S->Prop} {rest:List At} {o:Rd S} {s:S} {st:su} (h:o= .stop st s) (hs:Sat Z (H s++rest)) (hn:Z L=none) :
    ny L E ok H J rest (.b true) (.b false) o (.ret (.b false)) (B5 Z L (.loop st E ok)):=by
 subst h;exact⟨rfl,hs.iE hn⟩
def TB {S:Type} {L:Nat} {E:Env} {ok:FuncId->Array Tmp->Code->Code->Nat->Prop} {H:S->List At} {J:S->Prop} {rest:List At} {o:Rd S} {s:S} {v:V} (h:o= .Bh v) (hj:J s) (hs:Sat Z (H s++rest)) (hn:Z L=none) :
    ny L E ok H J rest (.b true) (.b false) o (.Bh v) Z:=by
 subst h;refine⟨rfl,s,hj,fun a ha=>FK (hs.1 a ha) fun n hd=>?_,hs.2⟩;obtain⟨o,ho⟩:=DA (hs.1 a ha) hd;rw[Hc];intro e;subst e;rw[hn]at ho;cases ho
def Ju {L:Nat} {E env:Env} {ok:FuncId->Array Tmp->Code->Code->Nat->Prop} {Q:Ad->Env->AE->Prop} {l:List At} {v:V} (hs:Sat Z (.obj L (.loop .ready E ok)::l)) (hk: ∀Z',Sat Z' l->Q .normal env Z'):LP L Q env (.ret v) Z:=
 ⟨_,_,_,hs.get (i:=0) rfl,hk _ hs.del⟩
def ZM {L id:Nat} {E env:Env} {ok:FuncId->Array Tmp->Code->Code->Nat->Prop} {Q:Ad->Env->AE->Prop} {l:List At} {v:V} (hs:Sat Z (.obj L (.loop (.exit id) E ok)::l)) (hk: ∀Z',Sat Z' l->Q (.exit id) env Z'):LP L Q env (.ret v) Z:=
 ⟨_,_,_,hs.get (i:=0) rfl,hk _ hs.del⟩
end Go.Gl
namespace Go.Gl
open Go.Proofs
attribute [local irreducible] Ar Aj AZ AQ AL AX AP AR AJ AW AM AN Am Av Sat AT As Aa W
def FP (p:Prog) (next:Bool) (n size depth:Int) (s:List Int):Option (List Int):=
 if n<0\/(p.nodes.length:Int)<=n\/0<=s.getD n.toNat 0\/12<depth then none else
 match p.nodes[n.toNat]? with
 | none=>none
 | some x=>if EL p next size x then some (s.set n.toNat size)else none
def gk {S:Type}:Option S->Rd S
 | some s=> .go s
 | none=> .Bh D3
abbrev eaP (y:Int×Int×Int):List V:=[eI y.1,.a [eI y.2.1,eI y.2.2]]
abbrev hOut (nO:Nat) (v:V) (s:List Int):List At:=[.box nO [v],.own v 1 (iL s)]
abbrev dP (p:Prog) (y:Int×Int×Int) (s:List Int):Prop:=0<=y.2.1/\y.2.1<=100/\1<=y.2.2/\y.2.2<=13/\s.length=p.nodes.length
abbrev Yh (p:Prog) (L nW:Nat):V:= .f (.func 328) [] [.rp [.f (.yield L) [] []],.rp (BR p),.p nW 0]
def ZB {p:Prog} {next:Bool} {n size depth:Int} {s s':List Int} (h:FP p next n size depth s=some s'):0<=n/\n<(p.nodes.length:Int)/\s.getD n.toNat 0<0/\depth<=12/\ ∃x,p.nodes[n.toNat]? =some x/\EL p next size x=true/\s'=s.set n.toNat size:=by
 unfold FP at h;split at h
 .cases h
 .rename_i hc
  split at h
  .cases h
  .rename_i x hx
   split at h
   .rename_i hok
    simp only[JN]at h;exact⟨by omega,by omega,by omega,by omega,x,hx,hok,h.symm⟩
   .cases h
def ZA {p:Prog} {next:Bool} {d:Nat} {n size depth:Int} {s:List Int} (hd:depth=13 - (d+1:Nat)) (hd1:1<=depth):CS p next (d+1) n size s=match FP p next n size depth s with
    | none=>none
    | some s'=>match p.nodes[n.toNat]? with
      | none=>none
      | some x=>Fs (CS p next d) x.op size 0 x.kids s':=by
 unfold FP;simp only[CS];by_cases h:n<0\/(p.nodes.length:Int)<=n\/0<=s.getD n.toNat 0
 .rw[if_pos h,if_pos (by omega)]
 .rw[if_neg h,if_neg (by omega)]
  cases hx:p.nodes[n.toNat]? with
  | none=>rfl
  | some x=>
    simp only;split
    .rfl
    .rfl
def ZC {p:Prog} {next:Bool} {n size depth:Int} {s:List Int} (hd:12<depth):FP p next n size depth s=none:=by
 unfold FP;rw[if_pos (by omega)]
def TN {f:Int->Int->List Int->Option (List Int)} (hf: ∀ {a b s s'},f a b s=some s'->s'.length=s.length) {op size:Int}: ∀(i:Nat) (l:List Int) {s s':List Int},Fs f op size i l s=some s'->s'.length=s.length
 | _,[],s,s',h=>by cases h;rfl
 | i,k::r,s,s',h=>by
   simp only[Fs]at h;split at h
   .cases h
   .rename_i s1 h1
    exact(TN hf (i+1) r h).trans (hf h1)
def KM {p:Prog} {next:Bool}: ∀(d:Nat) {n size:Int} {s s':List Int},CS p next d n size s=some s'->s'.length=s.length
 | 0,_,_,_,_,h=>by cases h
 | d + 1,n,size,s,s',h=>by
   simp only[CS]at h;split at h
   .cases h
   .split at h
    .cases h
    .split at h
     .exact(TN (fun h=>KM d h) 0 _ h).trans (by simp)
     .cases h
def oT (p : Prog) (next:Bool) {L:Nat} {E:Env} {ok:FuncId->Array Tmp->Code->Code->Nat->Prop} {v:V} {nO:Nat}
    (hY:Nv zP L E ok eaP (hOut nO v) (fun s=>s.length=p.nodes.length) (fun y s=>gk (FP p next y.1 y.2.1 y.2.2 s)) (dP p)) :
    ∀ d : Nat,d<=12-> ∀(n size depth:Int) (s:List Int),depth=13 - d->0<=size->size+d<=100->s.length=p.nodes.length-> ∀(nW:Nat) (rest:List At) (Z:AE),
      Sat Z (.obj L (.loop .ready E ok)::(hOut nO v s++(.box nW [Yh p L nW]::rest)))->
      Ar zP 328 [eI n,.a [eI size,eI depth],.rp [.f (.yield L) [] []],.rp (BR p),.p nW 0] Z
       (ny L E ok (hOut nO v) (fun s=>s.length=p.nodes.length) (.box nW [Yh p L nW]::rest) (.b true) (.b false) (gk (CS p next d n size s))):=by
 intro d
 induction d with
 | zero=>
   intro _ n size depth s hd h0 h1 hl nW rest Z hs;refine jn kZ ?_;refine zz ?_;(repeat clear U K);repeat intro K U
   refine hY.use (y:=(n,size,depth)) (s:=s) ⟨h0,(by dsimp only;omega),(by dsimp only;omega),(by dsimp only;omega),hl⟩ hs ?_;rw[ZC (by dsimp only;omega)];rintro r Z' ⟨rfl,s',hj,hs'⟩
   conv=>whnf
   repeat'((first|clear U K|apply st|fail)<;>conv=>whnf)
   exact DV ⟨rfl,s',hj,hs'⟩
 | succ d ih =>
   intro hd12 n size depth s hd h0 h1 hl nW rest Z hs;refine Ar.fit (by kernel_rfl) fun hf=>?_
   have hM:=Mx
   have hfp:FO (.a (BR p)):=by
    have:=hf.2.2.2.1;simp only[U9]at this;simpa only[Jq]using this
   have⟨p1,p2,p3,p4⟩:=G7 hfp;refine jn kZ ?_;refine zz ?_;(repeat clear U K);repeat intro K U
   refine hY.use (y:=(n,size,depth)) (s:=s) ⟨h0,(by dsimp only;omega),(by dsimp only;omega),(by dsimp only;omega),hl⟩ hs ?_;have hw:=ZA (p:=p) (next:=next) (n:=n) (size:=size) (s:=s) hd (by omega);cases hv:FP p next n size depth s with
   | none=>
     rw[hv]at hw;rintro r Z' ⟨rfl,s',hj,hs'⟩
     conv=>whnf
     repeat'((first|clear U K|apply st|fail)<;>conv=>whnf)
     refine DV ?_;rw[hw];exact⟨rfl,s',hj,hs'⟩
   | some s1 =>
     obtain⟨g0,g1,g2,g3,x,hx,hok,hs1⟩:=ZB hv;rw[hv]at hw;simp only[hx]at hw;have hl1:s1.length=p.nodes.length:=by rw[hs1];simpa using hl
     have hkm:=jh hfp (CY hx);clear hv hs1;rintro r Z1 ⟨rfl,hs⟩;refine zz ?_;(repeat clear U K);repeat intro K U
     refine CZ x.kids.length (fun k (_:List Int)=>[(23,eI (BL k))]) (fun _ s'=> .obj L (.loop .ready E ok)::(hOut nO v s'++(.box nW [Yh p L nW]::rest))) (fun k s'=>s'.length=p.nodes.length/\CS p next (d+1) n size s=Fs (CS p next d) x.op size k (x.kids.drop k) s') s1 rfl ⟨hl1,by simpa using hw⟩ hs ?_;clear hs hw;rintro k s' Z hk ⟨hl',hkids⟩ hs;rcases BF x.kids hk with⟨kid,hkid,hlt⟩|hke
     .have hck:BL k=k:=Ag (by omega)
      rw[drop_cons hkid,Fs]at hkids;have e0:IntKind.i64.wrap (depth+1)=depth+1:=wrap64 (by omega) (by omega);have e1:IntKind.i64.wrap (size+1)=size+1:=wrap64 (by omega) (by omega)
      have hrec: ∀(sz:Int) (Z:AE) (l:List At),0<=sz->sz+d<=100->Sat Z (l++(.obj L (.loop .ready E ok)::(hOut nO v s'++(.box nW [Yh p L nW]::rest))))->Am zP (Yh p L nW) [eI kid,.a [eI sz,eI (depth+1)]] Z
       (ny L E ok (hOut nO v) (fun s=>s.length=p.nodes.length) (.box nW [Yh p L nW]::rest) (.b true) (.b false) (gk (CS p next d kid sz s'))):=fun sz Z l h0 h1 hs=>
       BA (ih (by omega) kid sz (depth+1) s' (by omega) h0 h1 hl' nW rest Z (hs.less (List.sublist_append_right _ _)))
      conv=>whnf
      repeat'((first|clear U K|apply st|(apply zk;intro K U)|refine zY ?_|refine zs fun Z hs=>?_|(refine zd (fun hc=>?_) (fun hc=>?_)<;>try exact⟨⟩)|refine zo fun nn hnn Z hs=>?_|fail)<;>conv=>whnf)
      all_goals
       simp only[e0,e1]
       first
        | rw[if_pos (by omega)]at hkids
          refine(hrec (size+1) _ [_] (by omega) (by omega) hs).mono ?_
        | rw[if_neg (by omega)]at hkids
          refine(hrec size _ [_] (by omega) (by omega) hs).mono ?_
       cases hw:CS p next d kid _ s' with
       | none=>
         rw[hw]at hkids;rintro r Z' ⟨rfl,s',hj,hs'⟩
         conv=>whnf
         repeat'((first|clear U K|apply st|fail)<;>conv=>whnf)
         refine DV ?_;rw[hkids];exact⟨rfl,s',hj,hs'⟩
       | some s2=>
         rw[hw]at hkids;rintro r Z' ⟨rfl,hs'⟩;refine zz ?_;(repeat clear U K);repeat intro K U
         exact⟨hlt,s2,rfl,⟨(KM _ hw).trans hl',hkids⟩,hs'⟩
     .rw[Ao hke,Fs]at hkids
      refine zz ?_;(repeat clear U K);repeat intro K U
      refine AI ?_;rw[hkids];exact⟨rfl,hs⟩
end Go.Gl
