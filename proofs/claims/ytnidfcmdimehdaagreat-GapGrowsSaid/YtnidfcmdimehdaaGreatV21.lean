import Derived.Test.YtnidfcmdimehdaaGreatRows
import Derived.HandedShaped
import Derived.Test.YtnidfcmdimehdaaGreatV14
import Derived.Test.YtnidfcmdimehdaaGreatV15
import Derived.Test.YtnidfcmdimehdaaGreatV18
import Derived.Test.YtnidfcmdimehdaaGreatV19
import Derived.Test.YtnidfcmdimehdaaGreatV20
set_option linter.all false
set_option linter.defProp false
set_option maxHeartbeats 8000000
noncomputable section
namespace Go.Proofs.YtnidfcmdimehdaaGreat
open Go.Gl Go.ChangeShapes Go.WideShapes Go.ChangeAt Go.RowKit
theorem own:ownKnob Tryz.prog.godebug=none:=by kernel_rfl
def laidOut:laidOutB Tryz.prog=true:=by kernel_rfl
def Ev {a b:Bool} (h1:a=true) (h2:b=true):(a&&b)=true:=by rw[h1,h2];rfl
abbrev HE (w:World):=Hh (fun _=>False) emp w
def vInt {w:World} {n:Int} (h:(Lit.int .i64 n).wf=true):AY (HE w) (eI n) (.int .i64 n):=by
 simp only[Lit.wf,A4,Cp]at h;simp only[AY];exact⟨trivial,h⟩
def yS {w:World} {cs:Array Value} {p:Prog} (hp:cs.toList.length=(BT p).length/\BV (HE w) (fun i=>cs.toList[i]?) 0 (BT p)):AY (HE w) (.a (BT p)) (.agg cs):=by
 simp only[AY];exact⟨cs,rfl,by simpa using hp.1,by simpa using hp.2⟩
end Go.Proofs.YtnidfcmdimehdaaGreat
namespace Go.Gl
open Go.Proofs
attribute [local irreducible] Av An Af AQ AL Ac AP AS AK Ab AN AO As A3 Sat AV A0 Ag W
def mh (s c:Nat) (hs0:s<18446744073709551616) (hc:c<64):Pure zP 325 [.a [eU s],eI c] (.a [eU (s|||2 ^ c)]):=by
 refine uG kZ ?_;have hs:=Sn
 conv=>whnf
 repeat'((first|clear U K|apply st|(apply zk;intro K U)|refine zY ?_|refine zs fun Z hs=>?_|refine⟨Int.natCast_nonneg _,?_⟩|refine zo fun nn hnn Z hs=>?_|fail)<;>conv=>whnf)
 refine AJ ?_;simp only[HX,UN hc,G7 hs0 (GW hc)];rfl
def yc (s t:Nat) (hs0:s<18446744073709551616) (ht0:t<18446744073709551616):Pure zP 326 [.a [eU s],.a [eU t]] (.a [eU (s|||t)]):=by
 refine uF kZ ?_;have hs:=Sn
 conv=>whnf
 repeat'((first|clear U K|apply st|(apply zk;intro K U)|refine zY ?_|refine zs fun Z hs=>?_|refine zo fun nn hnn Z hs=>?_|fail)<;>conv=>whnf)
 refine AJ ?_;simp only[G7 hs0 ht0];rfl
def V4 (s:Nat) (c:Int) (hs0:s<18446744073709551616) (h0:0<=c) (hc:c<64):Pure zP 325 [.a [eU s],eI c] (.a [eU (s|||2 ^ c.toNat)]):=by
 have:=mh s c.toNat hs0 (by omega);rw[Int.toNat_of_nonneg h0]at this;exact this
def Hr {a b:Nat} (ha:a<18446744073709551616) (hb:b<18446744073709551616):a|||b<18446744073709551616:=by
 have:=Nat.or_lt_two_pow (n:=64) (x:=a) (y:=b) (by simpa using ha) (by simpa using hb);simpa using this
def JH (g:List (List Int)):List (List Int×Bool):=[([],true),([],true),([],true)]++g.map fun l=>(l,false)
def jv (g:List (List Int)):(JH g).length=3+g.length:=by simp[JH];omega
def Z9 (g:List (List Int)) {k:Nat} (hk:k<3+g.length): ∃b,(JH g)[k]? =some (Ax g (k:Int),b):=by
 unfold JH Ax;by_cases h3:k<3
 .rw[if_pos (by omega),ec (by simpa using h3)]
  refine⟨true,?_⟩;rcases k with _|_|_|k
  .rfl
  .rfl
  .rfl
  .omega
 .rw[if_neg (by omega),List.getElem?_append_right (by simp;omega)]
  refine⟨false,?_⟩;simp only[NM,List.length_nil,OU];have e:((k:Int) - 3).toNat=k - (0+1+1+1):=by omega
  rw[e,DK,Dp (by omega)];rfl
def oa:E0 (fun u:Nat=>[eU u]) 1:=fun x=>⟨rfl,fun v hv=>by simp at hv;subst hv;rfl⟩
def yb {α:Type} {a b c d:α}: [a,b,c,d].Perm [b,d,a,c]:=by
 have h1: [a,b,c,d].Perm [b,a,c,d]:= .swap _ _ _;have h2: [a,c,d].Perm [d,a,c]:=PH (l₁:=[a,c]) (l₂:=[d]);exact h1.trans (h2.cons b)
def nf (g:List (List Int)) (f f2:Bool) (c:Int) (hg:Dy g=true) (hc0:0<=c) (hc1:c<3+g.length) :
    BO zP 314 [.l (Es g) f,.l (iL [c]) f2] [] fun r post=> ∃n mm vp vu us M,r= .ret (.t [.p n 0,.b true])/\post=gH n mm vp vu (JH g) us M/\JF g (3+g.length) M:=by
 intro Z hs;refine Av.fit (by kernel_rfl) fun hf=>?_
 have⟨g1,g2⟩:=YT hf.1;have hM:=Mx;have hG:=D9 hg;have hgl:=hG.1;have hfn:=av g f;rw[hg]at hfn;have hc2: [c][0]? =some c:=rfl;have hpl:=jv g;refine uJ kZ ?_
 conv=>whnf
 repeat'((first|clear U K|apply st|(apply zk;intro K U)|refine zY ?_|refine hfn.use ?_|fail)<;>conv=>whnf)
 refine Cn 1 (fun k (_:Unit)=>[(20,eI (BR k))]) (fun _ _=>[]) (fun _ _=>True) () rfl trivial hs ?_;clear hs;rintro k - Z hk - hs;have hkk:k=0\/k=1:=by omega
 rcases hkk with rfl|rfl
 .conv=>whnf
  repeat'((first|clear U K|apply st|(apply zk;intro K U)|refine zY ?_|(refine zb (fun hc=>?_) (fun hc=>?_)<;>try exact⟨⟩)|fail)<;>conv=>whnf)
  all_goals try(exfalso;omega)
  exact⟨(),rfl,trivial,hs⟩
 .have hke:1= [c].length:=rfl
  refine zz ?_;(repeat clear U K);repeat intro K U
  rw[show IntKind.i64.wrap (3+((Es g).length:Nat))=((3+g.length:Nat):Int) by rw[CW,wrap64 (by omega) (by omega)];omega];refine yF (n:=3) hs (by omega) (by omega) fun vp Z hs hv=>?_
  obtain⟨idp,rfl⟩:=hv
  conv=>whnf
  repeat'((first|clear U K|apply st|(apply zk;intro K U)|refine zY ?_|refine zo fun nn hnn Z hs=>?_|fail)<;>conv=>whnf)
  obtain⟨mm,hs⟩: ∃mm,Sat Z [.box nn [.sl idp 3 (3+g.length),.l [] true,.m mm],.map mm [],.own (.sl idp 3 (3+g.length)) 1 (List.replicate 3 [.l [] true])]:=⟨_,hs⟩
  generalize nn=n0 at *;have hgr:=En DJ g;refine hAppend hs 2 rfl (by simp;omega) hgr.1 hgr.2 fun vp Z hs=>?_
  have hps:List.replicate 3 [.l [] true]++Es g=pL (JH g):=by simp[pL,JH,List.replicate,Es]
  rw[hps]at hs;clear hps;have hs1p:=Hj hs 2 rfl
  conv=>whnf
  repeat'((first|clear U K|apply st|(apply zk;intro K U)|refine zY ?_|refine zs fun Z hs=>?_|fail)<;>conv=>whnf)
  replace hs:Sat Z [.box n0 [vp,.l [] true,.m mm],.map mm [],.own vp 1 (pL (JH g))]:=hs;refine Cn (JH g).length (fun k (_:V×List Nat)=>[(55,eI (BR k))]) (fun _ x=>[.own x.1 1 (x.2.map fun u=>[eU u]),.box n0 [vp,x.1,.m mm],.map mm [],.own vp 1 (pL (JH g))]) (fun k x=>x.2.length=k/\ ∀u∈x.2,u<18446744073709551616) (.l [] true,[]) rfl ⟨rfl,fun u hu=>by cases hu⟩ (DF hs 1) ?_;clear hs;rintro k ⟨vu,us⟩ Z hk ⟨hul,hus⟩ hs;dsimp only at hul hus hs;rcases BK (JH g) hk with⟨⟨l,lb⟩,hl,hlt⟩|hke2
  .have hck:BR k=k:=Ae (by omega)
   obtain⟨b',hpa⟩:=Z9 g (k:=k) (by omega);have hle:l=Ax g (k:Int):=by rw[hl]at hpa;exact(Prod.mk.inj (Option.some.inj hpa)).1
   have hll:=C9 hG (k:Int);rw[<-hle]at hll;have hlm: ∀p∈l,3<=p/\p<(k:Int):=fun p hp=>De hG (by rw[<-hle];exact hp)
   have hs1:(0|||2 ^ (BR k).toNat)<18446744073709551616:=by
    rw[Nat.zero_or,hck,HX];exact GW (by omega)
   have hs1u:=Hj hs 0 rfl;have hl':(JH g)[(BR k).toNat]? =some (l,lb):=by rw[hck,HX];exact hl
   conv=>whnf
   repeat'((first|clear U K|apply st|(apply zk;intro K U)|refine zY ?_|refine zs fun Z hs=>?_|refine Pure.use (V4 0 (BR k) (by decide) (by omega) (by omega)) ?_|refine Pure.use (V4 _ _ (by first|omega|exact hs1) (by omega) (by omega)) ?_|refine zo fun nn hnn Z hs=>?_|fail)<;>conv=>whnf)
   have hs0:(0|||2 ^ (BR k).toNat|||2 ^ Int.toNat 0)<18446744073709551616:=Hr hs1 (by decide);generalize (0|||2 ^ (BR k).toNat|||2 ^ Int.toNat 0)=s0 at *;refine Cn l.length (fun j (_:Nat)=>[(66,eI (BR j))]) (fun _ s=>[.box nn [eU s],.own vu 1 (us.map fun u=>[eU u]),.box n0 [vp,vu,.m mm],.map mm [],.own vp 1 (pL (JH g))]) (fun _ s=>s<18446744073709551616) s0 rfl hs0 hs ?_;clear hs hs0;rintro j s Z hj hsb hs;rcases BK l hj with⟨p,hp,hjlt⟩|hje
   .obtain⟨hp3,hpk⟩:=hlm p (Cm hp)
    obtain⟨u,hu⟩: ∃u,us[p.toNat]? =some u:=⟨_,Dp (by omega)⟩
    have hub:=hus u (Cm hu)
    conv=>whnf
    repeat'((first|clear U K|apply st|(apply zk;intro K U)|refine zY ?_|refine zs fun Z hs=>?_|refine Pure.use (yc _ _ hsb hub) ?_|fail)<;>conv=>whnf)
    exact⟨hjlt,s|||u,rfl,Hr hsb hub,hs⟩
   .refine zz ?_;(repeat clear U K);repeat intro K U
    refine Ir (GR hs 1 (enc:=fun u:Nat=>[eU u]) (xs:=us) (x:=s) rfl (by omega) oa fun vu' Z hs hsl=>?_);have hs2u:=Hj hs 1 rfl
    conv=>whnf
    repeat'((first|clear U K|apply st|(apply zk;intro K U)|refine zY ?_|refine zs fun Z hs=>?_|fail)<;>conv=>whnf)
    refine⟨hlt,(vu',us++[s]),rfl,⟨by simp[hul],fun u hu=>?_⟩,hs.less (OS _ _)⟩;rcases Ds.1 hu with hu|hu
    .exact hus u hu
    .rw[Lu.1 hu];exact hsb
  .have hs1u:=Hj hs 0 rfl
   refine zz ?_;(repeat clear U K);repeat intro K U
   replace hs:Sat Z (gH n0 mm vp vu (JH g) us []):=hs.perm yb;refine Cn (JH g).length (fun k (_:List Ord)=>[(96,eI (BR k))]) (fun _ M=>gH n0 mm vp vu (JH g) us M) (fun k M=>JF g k M) [] rfl JF.nil hs ?_;clear hs;rintro k M Z hk hkn hs;rcases BK (JH g) hk with⟨⟨l,lb⟩,hl,hlt⟩|hke3
   .have hck:BR k=k:=Ae (by omega)
    obtain⟨b',hpa⟩:=Z9 g (k:=k) (by omega);have hle:l=Ax g (k:Int):=by rw[hl]at hpa;exact(Prod.mk.inj (Option.some.inj hpa)).1
    have hll:=C9 hG (k:Int);rw[<-hle]at hll;have hlm: ∀p∈l,3<=p/\p<(k:Int):=fun p hp=>De hG (by rw[<-hle];exact hp)
    have hlo:=dF hG hkn hll (fun x hx=>by have:=hlm x hx;omega);have hord:=jy n0 mm vp vu (JH g) us M (BR k) l lb (by omega) (by rw[hck,HX];exact hl) hll (fun c=>by have:=(Mj hG hkn c).1;omega) (fun e he=>by have:=hkn.keys e he;omega) hlo.1 hlo.2;refine zz ?_;(repeat clear U K);repeat intro K U
    refine hord.use (rest:=[]) (by simpa using hs) ?_;clear hs;rintro r post Z ⟨rfl,M',rfl,hM'⟩ hs;rw[FE]at hs;rw[hck]at hM';refine zz ?_;(repeat clear U K);repeat intro K U
    exact⟨hlt,M',rfl,hkn.step hle (fun p hp=>by have:=hlm p hp;omega) (by omega) hM',hs⟩
   .refine zz ?_;(repeat clear U K);repeat intro K U
    exact Ay hs (List.Sublist.refl _) (.refl _) fun Z' hs'=>⟨_,⟨_,_,_,_,_,_,rfl,rfl,by rw[<-hpl,<-hke3];exact hkn⟩,hs'⟩
def xJ {M:List Ord} {c:Int} {Z:AE} {fx:List At} (hs:Sat Z (fx++M.map ez)) (hl:(CC M c).length<=Ad) (hne:CC M c≠[]) {k kp:V->AE->Prop} (hk: ∀Z',Sat Z' (fx++M.map ez)->k (.l (iL (CC M c)) false) Z'):Av zP 136 [JP M c] Z (qk k kp):=by
 rcases QI M c with⟨h1,h2⟩|⟨j,hj⟩
 .exact absurd h1 hne
 .have hj':(fx++M.map ez)[fx.length+j]? =some (At.own (JP M c) 1 (iL (CC M c))):=by
   rw[List.getElem?_append_right (by omega),Nat.add_sub_cancel_left,hj]
  have hcl:BO zP 136 [JP M c] [.own (JP M c) 1 (iL (CC M c))] fun r post=>r= .ret (.l (iL (CC M c)) false)/\post= [.own (JP M c) 1 (iL (CC M c))]:=by
   clear hk hj' hj;generalize JP M c=v at *;generalize CC M c=l at *;intro Z hs;refine ic kZ ?_;have hgr:=En Cy l
   have hend: ∀ {Z:AE} {w u:V},Sat Z [.own w 1 (iL l),.own u 1 (iL l)]->An Z w fun r Z'=> ∃post,(r= .ret (.l (iL l) false)/\post= [.own u 1 (iL l)])/\Sat Z' post:=fun hs=>by
    obtain⟨Z2,h1,h2,h3⟩:=I6 hs 0 rfl;exact Ij h1 h2 ⟨_,⟨rfl,rfl⟩,h3⟩
   have hM:=Mx;rcases hs.get (i:=0) rfl with⟨rfl,_⟩|⟨n,cap,rfl,hn⟩
   .conv=>whnf
    repeat'((first|clear U K|apply st|(apply zk;intro K U)|fail)<;>conv=>whnf)
    refine⟨fun e=>absurd (List.map_eq_nil_iff.1 e) hne,fun _=>?_⟩;refine zz ?_;(repeat clear U K);repeat intro K U
    replace hs:=DF hs 1;refine aV hs 0 1 rfl rfl (by simp;omega) hgr.1 hgr.2 fun w Z hs=>?_
    refine zz ?_;(repeat clear U K);repeat intro K U
    exact hend hs
   .refine zz ?_;(repeat clear U K);repeat intro K U
    replace hs:=DF hs 1;refine aV hs 0 1 rfl rfl (by simp;omega) hgr.1 hgr.2 fun w Z hs=>?_
    refine zz ?_;(repeat clear U K);repeat intro K U
    exact hend hs
  refine hcl.qN (Φ:=fun r=>r= .ret (.l (iL (CC M c)) false)) hs hj' ?_;rintro r Z' rfl hs';exact hk Z' hs'
def tT (g:List (List Int)) (f:Bool) (c:Int) (hg:Dy g=true) (hc0:0<=c) (hc1:c<3+g.length) :
    Pure zP 290 [.l (Es g) f,eI c] (if((B9 g).getD c.toNat []).isEmpty then .t [.l [] true,eI 7]else .t [.l (iL ((B9 g).getD c.toNat [])) false,eI 0]):=by
 have hop:=nf g f true c hg hc0 hc1;refine uY kZ ?_;have hs:=Sn;have hM:=Mx;have hG:=D9 hg
 conv=>whnf
 repeat'((first|clear U K|apply st|(apply zk;intro K U)|fail)<;>conv=>whnf)
 refine hop.use (rest:=[]) hs ?_;clear hs;rintro r post Z ⟨n,mm,vp,vu,us,M,rfl,rfl,hkn⟩ hs;rw[FE]at hs;have hol:=(Mj hG hkn c).1;have hor:=hkn.fW c hc0 (by omega);by_cases hne:CC M c= []
 .have hl0:(CC M c).length=0:=by rw[hne];rfl
  conv=>whnf
  repeat'((first|clear U K|apply st|(apply zk;intro K U)|refine zY ?_|refine lkO ?_|refine QJ (fx:=_::_::_::_:: []) hs (by omega) ?_|(refine zb (fun hc=>?_) (fun hc=>?_)<;>try exact⟨⟩)|fail)<;>conv=>whnf)
  all_goals try(exfalso;omega)
  rw[<-hor,hne];exact AJ rfl
 .have hl0:0<(CC M c).length:=List.length_pos_iff.2 hne
  conv=>whnf
  repeat'((first|clear U K|apply st|(apply zk;intro K U)|refine zY ?_|refine lkO ?_|refine QJ (fx:=_::_::_::_:: []) hs (by omega) ?_|(refine zb (fun hc=>?_) (fun hc=>?_)<;>try exact⟨⟩)|fail)<;>conv=>whnf)
  all_goals try(exfalso;omega)
  refine xJ (fx:=_::_::_::_:: []) hs (by omega) hne fun Z hs=>?_
  refine zz ?_;(repeat clear U K);repeat intro K U
  rw[<-hor]
  have:(CC M c).isEmpty=false:=by
   cases h:(CC M c).isEmpty
   .rfl
   .exact absurd (List.isEmpty_iff.1 h) hne
  rw[this];exact AJ rfl
end Go.Gl
namespace Go.Gl
open Go.Proofs
attribute [local irreducible] Av An Af AQ AL Ac AP AS AK Ab AN AO As A3 Sat AV A0 Ag W
def Cq (w:AG):Prop:=I7 w.parents/\w.owner.length<=40/\ ∀o∈w.owner,(3:Int)<=o/\o<3+(w.parents.length:Int)
def TZ (us:List Nat) (l:List Int) (s:Nat):Nat:=l.foldl (fun s c=>s|||us.getD c.toNat 0) s
def Bm (g:List (List Int)):Nat->List Nat
 | 0=>[1,3,5]
 | k+1=>Bm g k++[TZ (Bm g k) (g.getD k []) (1|||2 ^ (3+k))]
def BX (g:List (List Int)):List Nat:=Bm g g.length
def mT (us:List Nat):List V:=us.map eU++List.replicate (63 - us.length) (eU 0)
def wC (w:AG) (us:List Nat):List V:=BL w++mT us
def Db (g:List (List Int)): ∀k,(Bm g k).length=3+k
 | 0=>rfl
 | k+1=>by simp[Bm,Db g k];omega
def gU (w:AG) {us:List Nat} (h:us.length<=63):(wC w us).length=65:=by
 simp only[wC,BL,mT,Ri,NM,List.length_nil,CW,List.length_replicate];omega
def gT (w:AG) (us:List Nat) (s:Nat) (h:us.length<63):(wC w us).set (2+us.length) (eU s)=wC w (us++[s]):=by
 simp only[wC,mT];rw[List.set_append_right _ _ (by simp[BL])];congr 1;have e:2+us.length - (BL w).length=us.length:=by simp[BL]
 rw[e,List.set_append_right _ _ (by simp)];rw[CW,Nat.sub_self,VB,Ph];congr 1;rw[show 63 - us.length=(63 - (us++[s]).length)+1 by simp;omega,List.replicate_succ];rfl
def qM (w:AG) (us:List Nat) {i:Nat} (h:i<us.length):(wC w us)[2+i]? =some (eU (us.getD i 0)):=by
 simp only[wC,mT];rw[List.getElem?_append_right (by simp[BL]),show 2+i - (BL w).length=i by simp[BL],ec (by simpa using h),OU,Dp h,DK,Dp h];rfl
def rP (us:List Nat):Prop:= ∀u∈us,u<18446744073709551616
def Ty {us:List Nat} (h:rP us) (i:Nat):us.getD i 0<18446744073709551616:=by
 rw[DK];cases hx:us[i]? with
 | none=>simp
 | some x=>exact h x (Cm hx)
def PK {us:List Nat} (h:rP us): ∀(l:List Int) (s:Nat),s<18446744073709551616->TZ us l s<18446744073709551616
 | [],_,hs=>hs
 | c::r,s,hs=>PK h r _ (Hr hs (Ty h _))
def Gb (g:List (List Int)): ∀k,k<=60->rP (Bm g k)
 | 0,_=>by intro u hu;simp[Bm]at hu;omega
 | k+1,hk=>by
   intro u hu;simp only[Bm,Ds,Lu]at hu;rcases hu with hu|rfl
   .exact Gb g k (by omega) u hu
   .exact PK (Gb g k (by omega)) _ _ (Hr (by decide) (GW (by omega)))
def sy (w:AG) (us:List Nat) (c:Int) {n:Nat} (hM:w.parents.length<=60):BO zP 181 [.p n 0,eI c] [.box n (wC w us)] fun r post=>r= .ret (.b (decide (3<=c)&&decide (c<3+(w.parents.length:Int))))/\post= [.box n (wC w us)]:=by
 intro Z hs;have hw:IntKind.i64.wrap (3+((Es w.parents).length:Nat))=3+(w.parents.length:Int):=by rw[CW,wrap64 (by omega) (by omega)]
 refine wB kZ ?_
 conv=>whnf
 repeat'((first|clear U K|apply st|(apply zk;intro K U)|refine zY ?_|refine za (fun hc=>?_) fun hc=>?_|fail)<;>conv=>whnf)
 .refine AH ⟨_,⟨?_,rfl⟩,hs⟩
  rw[hw,decide_eq_true (show 3<=c by omega)];rfl
 .refine AH ⟨_,⟨?_,rfl⟩,hs⟩
  rw[decide_eq_false (show¬3<=c by omega)];rfl
def lQ (w:AG) (us:List Nat) (c:Int) (hM:w.parents.length<=60):Pure zP 232 [.rp (wC w us),eI c] (.b (Pw w c)):=by
 have hw:IntKind.i64.wrap (3+((Es w.parents).length:Nat))=3+(w.parents.length:Int):=by rw[CW,wrap64 (by omega) (by omega)]
 refine vI kZ ?_;have hs:=Sn
 conv=>whnf
 repeat'((first|clear U K|apply st|(apply zk;intro K U)|refine zY ?_|refine za (fun hc=>?_) fun hc=>?_|fail)<;>conv=>whnf)
 .refine AJ ?_
  rw[hw,Pw,decide_eq_true (show 0<=c by omega)];rfl
 .refine AJ ?_
  rw[Pw,decide_eq_false (show¬0<=c by omega)];rfl
def m5 (w:AG) (us:List Nat) (c:Int) (hM:w.owner.length<=60):Pure zP 274 [.rp (wC w us),eI c] (.b (Ho w c)):=by
 refine ud kZ ?_;have hs:=Sn
 conv=>whnf
 repeat'((first|clear U K|apply st|(apply zk;intro K U)|refine zY ?_|refine za (fun hc=>?_) fun hc=>?_|fail)<;>conv=>whnf)
 .refine AJ ?_
  rw[Ho,decide_eq_true (show 0<=c by omega),CW];rfl
 .refine AJ ?_
  rw[Ho,decide_eq_false (show¬0<=c by omega)];rfl
def nV (w:AG) (us:List Nat) (l:List Int) (f:Bool) (hM:w.owner.length<=60):Pure zP 231 [.rp (wC w us),.l (iL l) f] (.b (Ez w l)):=by
 have hall:=pz (g:=274) (fi:=[.rp (wC w us)]) (ca:=[]) (f:=Ho w) (xs:=l) f (fun y _=>m5 w us y hM);refine vJ kZ ?_;have hs:=Sn
 conv=>whnf
 repeat'((first|clear U K|apply st|(apply zk;intro K U)|refine zY ?_|refine zC ?_|(refine zd (fun hc=>?_) (fun hc=>?_)<;>try exact⟨⟩)|fail)<;>conv=>whnf)
 .refine AJ ?_
  rw[Ez,decide_eq_true (show l.length<=2 by omega),Bool.and_true];rfl
 .refine AJ ?_
  rw[Ez,decide_eq_false (show¬l.length<=2 by omega),Bool.and_false];rfl
def Hy (s:Nat) (c:Int) (hs0:s<18446744073709551616) (h0:0<=c) (hc:c<64):Pure zP 179 [eU s,eI c] (eU (s|||2 ^ c.toNat)):=by
 have:=Zs s c.toNat hs0 (by omega);rw[Int.toNat_of_nonneg h0]at this;exact this
def up3 {k:Nat} (h:k<3):([1,3,5]:List Nat).take k++[1|||2 ^ k]= [1,3,5].take (k+1):=by
 rcases k with _|_|_|k
 .rfl
 .rfl
 .rfl
 .omega
def ng (w : AG) (hw:Cq w):Pure zP 118 [.a (BL w)] (.t [.rp (wC w (BX w.parents)),.b true]):=by
 obtain⟨⟨hl,hrow⟩,ho,how⟩:=hw;have hM:=Mx;refine Pure.of ?_;refine w8 kZ ?_;have hs:=Sn;have hi1:((Es w.parents).length:Int)<=60:=by rw[CW];omega
 have hi2:((iL w.owner).length:Int)<=40:=by rw[CW];omega
 conv=>whnf
 repeat'((first|clear U K|apply st|(apply zk;intro K U)|refine zY ?_|(refine zb (fun hc=>?_) (fun hc=>?_)<;>try exact⟨⟩)|refine zo fun nn hnn Z hs=>?_|fail)<;>conv=>whnf)
 generalize nn=n0 at *;refine Cn 3 (fun k (_:Unit)=>[(24,eI (BR k))]) (fun k _=>[.box n0 (wC w ([1,3,5].take k))]) (fun k _=>True) () rfl trivial hs ?_;clear hs;rintro k - Z hk - hs;have hck:BR k=k:=Ae (by omega);have hlen:(([1,3,5]:List Nat).take k).length=k:=by simp;omega
 by_cases hlt:k<3
 .have hst:=gT w ([1,3,5].take k) (1|||2 ^ k) (by omega)
  rw[hlen,up3 hlt]at hst
  conv=>whnf
  repeat'((first|clear U K|apply st|(apply zk;intro K U)|refine zY ?_|refine Pure.use (Hy 1 _ (by decide) (by omega) (by omega)) ?_|(refine zb (fun hc=>?_) (fun hc=>?_)<;>try exact⟨⟩)|fail)<;>conv=>whnf)
  refine MJ hs 0 rfl rfl (by rw[gU w (by omega)];omega) fun Z hs=>?_
  refine zz ?_;(repeat clear U K);repeat intro K U
  refine⟨hlt,(),rfl,trivial,?_⟩;rw[hck,HX,Nat.mul_one,Gq]at hs;simp only[List.set_cons_zero]at hs;rw[hst]at hs;exact hs
 .have hke:k=3:=by omega
  subst hke;clear hk hck hlen hlt
  conv=>whnf
  repeat'((first|clear U K|apply st|(apply zk;intro K U)|refine zY ?_|(refine zb (fun hc=>?_) (fun hc=>?_)<;>try exact⟨⟩)|fail)<;>conv=>whnf)
  refine Cn w.parents.length (fun k (_:Unit)=>[(38,eI (BR k))]) (fun k _=>[.box n0 (wC w (Bm w.parents k))]) (fun k _=>True) () rfl trivial hs ?_;clear hs;rintro k - Z hk - hs;have hck:BR k=k:=Ae (by omega);have hul:=Db w.parents k;have huo:=Gb w.parents k (by omega);have hw3:IntKind.i64.wrap (3+(k:Int))=3+(k:Int):=wrap64 (by omega) (by omega);rcases BK w.parents hk with⟨row,hr,hlt⟩|hke
  .obtain⟨r1,r2,r3⟩:=hrow k row hr
   rw[<-hck]at hw3
   conv=>whnf
   repeat'((first|clear U K|apply st|(apply zk;intro K U)|refine zY ?_|refine Pure.use (Hy 1 _ (by decide) (by omega) (by omega)) ?_|fail)<;>conv=>whnf)
   have hbig:rP (Bm w.parents k):=huo;have hst0:IntKind.i64.wrap (3+BR k)=3+(k:Int):=by rw[hck];exact wrap64 (by omega) (by omega)
   have hs0lt:1|||2 ^ (3+k)<18446744073709551616:=Hr (by decide) (GW (by omega))
   have hs0e:1|||2 ^ (IntKind.i64.wrap (3+BR k)).toNat=1|||2 ^ (3+k):=by rw[hst0,show(3+(k:Int)).toNat=3+k by omega]
   rw[hs0e];refine Cn row.length (fun j (s:Nat)=>[(48,eI (BR j)),(8,eU s)]) (fun _ _=>[.box n0 (wC w (Bm w.parents k))]) (fun j s=>s=TZ (Bm w.parents k) (row.take j) (1|||2 ^ (3+k))) (1|||2 ^ (3+k)) rfl rfl hs ?_;clear hs;rintro j s Z hj hse hs;rcases BK row hj with⟨c,hcj,hjlt⟩|hje
   .obtain⟨q1,q2⟩:=r3 c (Cm hcj)
    have hload:(wC w (Bm w.parents k))[0+2+c.toNat*1]? =some (eU ((Bm w.parents k).getD c.toNat 0)):=by
     have:=qM w (Bm w.parents k) (i:=c.toNat) (by omega);rw[<-this];congr 1;omega
    have hnc:(row.take j).contains c=false:=by
     rw[<-Bool.not_eq_true,List.contains_iff_mem];intro hm;obtain⟨i,hi,he⟩:=List.mem_iff_getElem.1 hm;have hi':i<j:=by rw[Lv]at hi;omega
     rw[List.getElem_take]at he;have hcj':=(JM.1 hcj).2;exact absurd ((List.getElem_inj r2).1 (he.trans hcj'.symm)) (by omega)
    have hct: ∀b,Pure zP 11 [.l (iL (row.take j)) b,eI c] (.b false):=fun b=>by
     have:=Cl (row.take j) b c
     rwa [hnc]at this
    conv=>whnf
    repeat'((first|clear U K|apply st|(apply zk;intro K U)|refine zY ?_|refine Pure.use (hct _) ?_|(rw[hload])|(refine zb (fun hc=>?_) (fun hc=>?_)<;>try exact⟨⟩)|fail)<;>conv=>whnf)
    refine⟨hjlt,s|||(Bm w.parents k).getD c.toNat 0,?_,?_,hs⟩
    .have hsl:s<18446744073709551616:=by rw[hse];exact PK huo _ _ hs0lt
     rw[G7 hsl (Ty huo _)];rfl
    .rw[hse,AU hcj]
     simp only[TZ,List.foldl_append];rfl
   .refine zz ?_;(repeat clear U K);repeat intro K U
    refine MJ hs 0 rfl rfl (by rw[gU w (by omega),hst0];omega) fun Z hs=>?_
    refine zz ?_;(repeat clear U K);repeat intro K U
    refine⟨hlt,(),rfl,trivial,?_⟩
    have e:Bm w.parents (k+1)=Bm w.parents k++[s]:=by
     rw[hse,Bm,DK,hr,hje,List.take_length];rfl
    have hst:=gT w (Bm w.parents k) s (by omega);rw[e,<-hst];have e2:0+2+(IntKind.i64.wrap (3+BR k)).toNat*1=2+(Bm w.parents k).length:=by rw[hst0,hul];omega
    rw[e2]at hs;exact hs
  .have hown:=iz 181 [.p n0 0] [] (fun _=>[.box n0 (wC w (Bm w.parents k))]) (Vk fun c=>decide (3<=c)&&decide (c<3+(w.parents.length:Int))) (fun _ _=>True) (fun y s _ Z hs=>BH (Av.mono (sy w (Bm w.parents k) y (by omega) Z hs) (by
    rintro r Z' ⟨post,⟨h1,h2⟩,h3⟩;subst h2
    exact⟨h1,h3⟩))) w.owner false () (HN fun _ _ _=>trivial)
   rw[Kh]at hown
   have hall:(w.owner.all fun c=>decide (3<=c)&&decide (c<3+(w.parents.length:Int)))=true:=by
    rw[Dj];intro o hoo;have:=how o hoo;simp only[A4,Cp];exact this
   rw[hall]at hown;refine zz ?_;(repeat clear U K);repeat intro K U
   refine hown.use (rest:=[]) hs ?_;rintro r post Z ⟨rfl,rfl⟩ hs;refine zz ?_;(repeat clear U K);repeat intro K U
   rw[hke]at hs;exact Ij (Z2:=emp) (fun n o ho=>by cases ho) (.t (.cons (hs.mY 0 rfl (.refl _ _ _)) (.cons (.refl _) .nil))) rfl
def Nk (w:AG) (f:Fact):Bool:=decide (0<=f.arg)&&(decide (f.arg<3)&&(Ez w f.path&&(if f.op=2 then f.n==0&&Pw w f.cls else f.cls==0&&(decide (-1000000000<=f.n)&&decide (f.n<=1000000000)))))
def Em (w:AG) (f:Fact):Int->Int->Bool×Int:=f.Hm fun f l left deep=>
 if IntKind.i64.wrap (left - 1)<0\/deep=0\/f.op<1\/7<f.op\/f.kids.length≠CD f.op then(false,IntKind.i64.wrap (left - 1))else
 if B4 f then(Nk w f,IntKind.i64.wrap (left - 1))else
 if f.arg≠0\/0<f.path.length\/f.cls≠0\/f.n≠0 then(false,IntKind.i64.wrap (left - 1))else
 CK (fun(k:Int->Int->Bool×Int) s=>k s (deep - 1)) l (IntKind.i64.wrap (left - 1))
def M1 {α β S:Type} (g:α->β) (stp:β->S->Bool×S): ∀(l:List α) (s:S),CK stp (l.map g) s=CK (fun a s=>stp (g a) s) l s
 | [],_=>rfl
 | a::r,s=>by simp only[EZ,CK,M1 g stp r]
def H0 (w:AG) (f:Fact) (left deep:Int):Em w f left deep =
    if IntKind.i64.wrap (left - 1)<0\/deep=0\/f.op<1\/7<f.op\/f.kids.length≠CD f.op then(false,IntKind.i64.wrap (left - 1))else
    if B4 f then(Nk w f,IntKind.i64.wrap (left - 1))else
    if f.arg≠0\/0<f.path.length\/f.cls≠0\/f.n≠0 then(false,IntKind.i64.wrap (left - 1))else
    CK (fun k s=>Em w k s (deep - 1)) f.kids (IntKind.i64.wrap (left - 1)):=by
 rw[Em,Fact.Dn,M1];rfl
def Za {w:AG} {f:Fact} {left deep L1:Int} {b:Bool} {nL:Nat} {Z:AE} (hs:Sat Z [.box nL [eI L1]]) (h:Em w f left deep=(b,L1)):An Z (.b b) fun r Z'=> ∃post:List At,(r=R.ret (.b (Em w f left deep).1)/\post= [.box nL [eI (Em w f left deep).2]])/\Sat Z' post:=by
 rw[h];exact AH ⟨_,⟨rfl,rfl⟩,hs⟩
def nr (w:AG) (us:List Nat) (hw1:w.parents.length<=60) (hw2:w.owner.length<=60) (nL:Nat) (f:Fact): ∀(left deep:Int),0<=deep->deep<=12->
    BO zP 184 [.rp (wC w us),.a (xF f),.p nL 0,eI deep] [.box nL [eI left]] fun r post=>r= .ret (.b (Em w f left deep).1)/\post= [.box nL [eI (Em w f left deep).2]]:=by
 induction f using Fact.ind with
 | h f ih=>
   intro left deep hd0 hd1 Z hs;refine Av.fit (by kernel_rfl) fun hf=>?_
   have⟨h2,h3,h4⟩:=SH hf.2.1;have hM:=Mx;have hdw:IntKind.i64.wrap (deep - 1)=deep - 1:=wrap64 (by omega) (by omega);refine v7 kZ ?_
   have hstep:DG zP (.f (.func 233) [] [.rp [.rp (wC w us)],.rp [.p nL 0],.rp [eI deep]]) (fun y=> .a (xF y)) (fun s=>[.box nL [eI s]]) (fun k s=>Em w k s (deep - 1)) (fun y _=>y∈f.kids/\deep≠0):=by
    rintro y s ⟨hy,hdn⟩ Z hs;refine BH ?_;show Av zP 233 ([]++[.a (xF y)]++[.rp [.rp (wC w us)],.rp [.p nL 0],.rp [eI deep]]) Z _;refine vH kZ ?_;refine zz ?_;(repeat clear U K);repeat intro K U
    rw[hdw];refine(ih y hy s (deep - 1) (by omega) (by omega)).use (rest:=[]) hs ?_;rintro r post Z ⟨rfl,rfl⟩ hs;refine zz ?_;(repeat clear U K);repeat intro K U
    exact AH ⟨rfl,hs⟩
   conv=>whnf
   repeat'((first|clear U K|apply st|(apply zk;intro K U)|refine zY ?_|refine rk ?_ ?_|exact fun s e=>by cases e;rfl|refine zs fun Z hs=>?_|refine Pure.use (UZ _) ?_|refine Pure.use (oN _) ?_|refine Pure.use (lQ w us _ hw1) ?_|refine Pure.use (nV w us _ _ hw2) ?_|(refine zd (fun hc=>?_) (fun hc=>?_)<;>try exact⟨⟩)|fail)<;>conv=>whnf)
   all_goals first
    | (refine Za hs ?_;rw[H0,if_pos (by omega)];done)
    | (refine Za hs ?_;rw[H0,if_neg (by omega),if_pos (by assumption)];simp[Nk, *];done)
    | (refine Za hs ?_;rw[H0,if_neg (by omega),if_pos (by assumption)];simp[Nk, *];intros;omega)
    | (refine Za hs ?_;rw[H0,if_neg (by omega),if_neg (by simp[*]),if_pos (by omega)];done)
    | skip
   refine(iy 233 [] _ _ _ _ hstep f.kids false (IntKind.i64.wrap (left - 1)) h2 (HN fun y hy _=>⟨hy,by omega⟩)).use (rest:=[]) hs ?_;have hE:=H0 w f left deep;rw[if_neg (by omega),if_neg (by simp[*]),if_neg (by omega)]at hE;rw[<-hE];rintro r post Z ⟨rfl,rfl⟩ hs;refine zz ?_;(repeat clear U K);repeat intro K U
   exact AH ⟨_,⟨rfl,rfl⟩,hs⟩
def L6 (w:AG) (f:Fact):Bool:=(Em w f 24 12).1
def da (w:AG) (us:List Nat) (hw1:w.parents.length<=60) (hw2:w.owner.length<=60) (f:Fact):Pure zP 183 [.a (xF f),.rp [.rp (wC w us)]] (.b (L6 w f)):=by
 refine Pure.of ?_;refine v8 kZ ?_;have hs:=Sn
 conv=>whnf
 repeat'((first|clear U K|apply st|(apply zk;intro K U)|refine zY ?_|refine zs fun Z hs=>?_|refine zo fun nn hnn Z hs=>?_|fail)<;>conv=>whnf)
 refine(nr w us hw1 hw2 _ f 24 12 (by omega) (by omega)).use (rest:=[]) hs ?_;rintro r post Z ⟨rfl,rfl⟩ hs;refine zz ?_;(repeat clear U K);repeat intro K U
 exact AH rfl
def py {g:FuncId} {fi ca:List V} {f:Fact->Bool} {xs:List Fact} (b:Bool) (hl:xs.length<=Ad) (h: ∀y∈xs,Pure zP g (fi++[.a (xF y)]++ca) (.b (f y))):Pure zP 182 [.l (facts xs) b,.f (.func g) fi ca] (.b (xs.all f)):=by
 have:=iy g fi ca (fun _=>[]) (fun y (_:Unit)=>(f y,())) (fun y _=>y∈xs) (fun y s hy Z hs=>BH (Av.mono ((h y hy).use (k:=fun v Z'=>v= .b (f y)/\Sat Z' []) (kp:=fun _ _=>False) ⟨rfl,Sat.nil⟩) (by
  rintro(v|v) Z' hq
  .obtain⟨rfl,h⟩:=hq
   exact⟨rfl,h⟩
  .exact hq.elim))) xs b () hl (HN fun y hy _=>hy)
 rw[Kh]at this;exact Pure.of (Av.mono (this emp Sat.nil) fun r Z' ⟨post,⟨h1,h2⟩,h3⟩=>h1)
def dc (w:AG) (us:List Nat) (hw1:w.parents.length<=60) (hw2:w.owner.length<=60) (l:List Fact) (b:Bool) (hl:l.length<=60):Pure zP 119 [.rp (wC w us),.l (facts l) b] (.b (l.all (L6 w))):=by
 have hall:=py (g:=183) (fi:=[]) (ca:=[.rp [.rp (wC w us)]]) (f:=L6 w) (xs:=l) b (by simp only[Ad];omega) fun y _=>da w us hw1 hw2 y
 refine w7 kZ ?_;have hs:=Sn;exact zW
def Z5 (w:AG) (hw:Cq w) (l:List Fact) (b:Bool) (hl:l.length<=60):Pure zP 77 [.a (BL w),.l (facts l) b] (.t [.rp (wC w (BX w.parents)),.b (l.all (L6 w))]):=by
 have hfo:=dc w (BX w.parents) (by have:=hw.1.1;omega) (by have:=hw.2.1;omega) l b hl;refine zH kZ ?_;have hs:=Sn
 conv=>whnf
 repeat'((first|clear U K|apply st|(apply zk;intro K U)|refine zY ?_|refine Pure.use (ng w hw) ?_|refine hfo.use ?_|fail)<;>conv=>whnf)
 all_goals exact AJ rfl
def eT (w:AG) (hw:Cq w) (f:Fact):Pure zP 116 [.a (BL w),.a (xF f)] (eI (if L6 w f then 0 else 2)):=by
 have hfo: ∀b,Pure zP 77 [.a (BL w),.l [Fm f] b] (.t [.rp (wC w (BX w.parents)),.b (L6 w f)]):=fun b=>by
  have:=Z5 w hw [f] b (by simp);simpa using this
 refine w9 kZ ?_;have hs:=Sn;refine zz ?_;(repeat clear U K);repeat intro K U
 rw[Bw]at hfo;refine(hfo _).use ?_
 conv=>whnf
 repeat'((first|clear U K|apply st|(apply zk;intro K U)|refine Pure.use (Yo _) ?_|fail)<;>conv=>whnf)
 exact AJ rfl
end Go.Gl
namespace Go.Gl
def M8 {most:Int}: ∀(l:List Fact) (n:Int),(∀k∈l,∀m:Int,(NP k:Int)<=m->Ca k m=NP k)->n+(l.map NP).sum<=most->Dg (l.map Ca) n most=n+(l.map NP).sum
 | [],n,_,_=>by simp[Dg]
 | k::r,n,h,h1=>by
   simp only[EZ,List.sum_cons,Dg]at *;rw[if_pos (by omega),h k (.head _) (most - n) (by omega),M8 r _ (fun k' hk'=>h k' (.tail _ hk')) (by omega)];omega
def Uv (f:Fact): ∀m:Int,(NP f:Int)<=m->Ca f m=NP f:=by
 induction f using Fact.ind with
 | h f ih=>
   intro m hm;rw[KU];rw[LN]at *;rw[M8 f.kids 1 ih (by omega)];omega
def dB (f:Fact) {m:Int} (h0:0<=m):Ca f m<=m↔(NP f:Int)<=m:=
 ⟨fun h=>by rw[<-Lf f m h0 h];exact h,fun h=>by rw[Uv f m h];exact h⟩
def pX (f:Fact):1<=NP f:=by rw[LN];omega
def Gm {m:Int}: ∀(l:List Int) (a:Int),l.foldl Km a<=m↔a<=m/\ ∀x∈l,x<=m
 | [],a=>by simp
 | x ::r,a=>by
   rw[List.foldl_cons,Gm r];unfold Km;constructor
   .rintro⟨h1,h2⟩
    refine⟨by split at h1<;>omega,fun y hy=>?_⟩;rcases Fg.1 hy with rfl|hy
    .split at h1<;>omega
    .exact h2 y hy
   .rintro⟨h1,h2⟩
    have hx:=h2 x (.head _);exact⟨by split<;>omega,fun y hy=>h2 y (.tail _ hy)⟩
def lJ (f:Fact) {m:Int}:EM f<=m↔1<=m/\ ∀k∈f.kids,EM k<=m - 1:=by
 rw[IL];constructor
 .intro h
  have:=(Gm (m:=m - 1) (f.kids.map EM) 0).1 (by omega);exact⟨by omega,fun k hk=>this.2 _ (List.mem_map_of_mem hk)⟩
 .rintro⟨h1,h2⟩
  have:=(Gm (m:=m - 1) (f.kids.map EM) 0).2 ⟨by omega,fun x hx=>by
   obtain⟨k,hk,rfl⟩:=Hc.1 hx
   exact h2 k hk⟩
  omega
def gC (w:AG) (f:Fact) (left deep:Int):Prop:=(NP f:Int)<=left/\EM f<=deep/\A6 w f=true
def TN (w:AG) {deep:Int}: ∀(l:List Fact) (left:Int),0<=left->left<=24->(∀k∈l,∀left:Int,0<=left->left<=24->((Em w k left deep).1=true↔gC w k left deep)/\((Em w k left deep).1=true->(Em w k left deep).2=left - NP k))->
    ((CK (fun k s=>Em w k s deep) l left).1=true↔((l.map NP).sum:Int)<=left/\ ∀k∈l,EM k<=deep/\A6 w k=true)/\((CK (fun k s=>Em w k s deep) l left).1=true->(CK (fun k s=>Em w k s deep) l left).2=left - ((l.map NP).sum:Nat))
 | [],left,h0,h1,_=>by simp[CK];exact h0
 | k ::r,left,h0,h1,h=>by
   obtain⟨ha,hb⟩:=h k (.head _) left h0 h1;simp only[CK,EZ,List.sum_cons];cases hk:(Em w k left deep).1
   .simp only[NN,if_false,false_iff,false_implies,and_true]
    rintro⟨h2,h3⟩;have:=ha.2 ⟨by omega,(h3 k (.head _)).1,(h3 k (.head _)).2⟩;rw[hk]at this;cases this
   .obtain⟨g1,g2,g3⟩:=ha.1 hk
    have hc:=pX k;rw[if_pos rfl,hb hk];obtain⟨i1,i2⟩:=TN w r (left - NP k) (by omega) (by omega) fun k' hk'=>h k' (.tail _ hk')
    refine⟨i1.trans ⟨fun⟨e1,e2⟩=>⟨by omega,fun x hx=>?_⟩,fun⟨e1,e2⟩=>⟨by omega,fun x hx=>e2 x (.tail _ hx)⟩⟩,fun h=>by rw[i2 h];omega⟩;rcases Fg.1 hx with rfl|hx
    .exact⟨g2,g3⟩
    .exact e2 x hx
def nq (w : AG) (f:Fact): ∀left deep:Int,0<=left->left<=24->0<=deep->((Em w f left deep).1=true↔gC w f left deep)/\((Em w f left deep).1=true->(Em w f left deep).2=left - NP f):=by
 induction f using Fact.ind with
 | h f ih=>
   intro left deep h0 h1 hd;have hw:IntKind.i64.wrap (left - 1)=left - 1:=wrap64 (by omega) (by omega);rw[H0,hw];have hc:=LN f;have hn:=CA w f;have hdl:=lJ f (m:=deep)
   have hko:DB w f=true->f.kids.length=CD f.op:=fun h=>by
    simp only[DB,A4,C1]at h;exact h.2.1
   have hop:DB w f=true->1<=f.op/\f.op<=7:=fun h=>by
    simp only[DB,A4]at h;have h1:=h.1;unfold U9 at h1;split at h1
    .omega
    split at h1
    .omega
    simp at h1;omega
   by_cases hbad:left - 1<0\/deep=0\/f.op<1\/7<f.op\/f.kids.length≠CD f.op
   .rw[if_pos hbad]
    simp only[NN,false_iff,false_implies,and_true];rintro⟨g1,g2,g3⟩;rw[hn,A4]at g3;have g4:=hko g3.1;have g5:=hop g3.1;have g6:=(hdl.1 g2).1;omega
   rw[if_neg hbad];by_cases hl:B4 f=true
   .rw [if_pos hl]
    have hl':f.op=2\/f.op=3\/f.op=4:=by
     simp only[B4,EP,C1]at hl;omega
    have hk0:f.kids= []:=by
     have:f.kids.length=CD f.op:=by omega
     rw[CD,if_neg (by omega),if_neg (by omega)]at this;exact Xy.1 this
    have hd1:EM f=1:=by rw[IL,hk0];rfl
    have hc1:NP f=1:=by rw[hc,hk0];rfl
    have hh:DB w f=Nk w f:=by
     unfold DB U9 Nk;rw[hl,hk0];have e:CD f.op=0:=by rw[CD,if_neg (by omega),if_neg (by omega)]
     rw[e];simp only[List.length_nil,beq_self_eq_true,Du,Bool.true_or,Bool.and_true];rcases hl' with e|e|e
     .rw[if_pos e,if_pos e]
      cases(f.n==0&&Pw w f.cls)<;>simp
     .rw[if_neg (show¬f.op=2 by omega),if_neg (show¬f.op=2 by omega),if_pos (show f.op=3\/f.op=4 from .inl e)]
      cases(f.cls==0&&(decide (-1000000000<=f.n)&&decide (f.n<=1000000000)))<;>simp
     .rw[if_neg (show¬f.op=2 by omega),if_neg (show¬f.op=2 by omega),if_pos (show f.op=3\/f.op=4 from .inr e)]
      cases(f.cls==0&&(decide (-1000000000<=f.n)&&decide (f.n<=1000000000)))<;>simp
    refine⟨⟨fun h=>⟨by omega,by omega,?_⟩,fun⟨_,_,h⟩=>?_⟩,fun _=>by dsimp only;omega⟩
    .rw[hn,hk0,hh];simpa using h
    .rw[hn,hk0,hh]at h;simpa using h
   .have hl':f.op=1\/f.op=5\/f.op=6\/f.op=7:=by
     simp only[B4,EP,C1]at hl;omega
    have hlf:B4 f=false:=by simpa using hl
    rw[if_neg hl];by_cases hz:f.arg≠0\/0<f.path.length\/f.cls≠0\/f.n≠0
    .rw[if_pos hz]
     simp only[NN,false_iff,false_implies,and_true];rintro⟨g1,g2,g3⟩;rw[hn,A4]at g3;have g4:=g3.1;simp only[DB,hlf,Bool.false_or,A4,C1]at g4;omega
    .rw [if_neg hz]
     obtain⟨i1,i2⟩:=TN w (deep:=deep - 1) f.kids (left - 1) (by omega) (by omega) fun k hk left hl0 hl1=>ih k hk left (deep - 1) hl0 hl1 (by omega)
     have hh:DB w f=true:=by
      have hp:f.path= []:=Xy.1 (by omega)
      have e1:U9 w f=true:=by
       unfold U9;rw[if_neg (by omega),if_neg (by omega)];simp only[EP,C1];omega
      have z1:f.arg=0:=by omega
      have z2:f.cls=0:=by omega
      have z3:f.n=0:=by omega
      have z4:f.kids.length=CD f.op:=by omega
      simp[DB,e1,hlf,hp,z1,z2,z3,z4,Ez]
     refine⟨i1.trans ⟨fun⟨e1,e2⟩=>⟨by omega,hdl.2 ⟨by omega,fun k hk=>(e2 k hk).1⟩,?_⟩,fun⟨g1,g2,g3⟩=>⟨by omega,fun k hk=>⟨(hdl.1 g2).2 k hk,?_⟩⟩⟩,fun h=>by rw[i2 h];omega⟩
     .rw[hn,hh,Du,Dj]
      exact fun k hk=>(e2 k hk).2
     .rw[hn,hh,Du,Dj]at g3
      exact g3 k hk
def ak (w:AG) (f:Fact):L6 w f=DL w f:=by
 have:=(nq w f 24 12 (by omega) (by omega) (by omega)).1;rw[L6,DL,Hb,this,gC];simp only[A4,Cp];rw[dB f (by omega)]
end Go.Gl
