import Derived.Test.YtnidfcmdimehdaaGreatRows
import Derived.HandedShaped
import Derived.Test.YtnidfcmdimehdaaGreatW14
import Derived.Test.YtnidfcmdimehdaaGreatW15
import Derived.Test.YtnidfcmdimehdaaGreatW17
set_option linter.all false
set_option linter.defProp false
set_option maxHeartbeats 8000000
noncomputable section
namespace Go.Proofs.YtnidfcmdimehdaaGreat
open Go.Gl Go.ChangeShapes Go.WideShapes Go.ChangeAt Go.RowKit
theorem own:ownKnob Tryz.prog.godebug=none:=by kernel_rfl
def laidOut:laidOutB Tryz.prog=true:=by kernel_rfl
def EJ {a b:Bool} (h1:a=true) (h2:b=true):(a&&b)=true:=by rw[h1,h2];rfl
abbrev HE (w:World):=Hh (fun _=>False) emp w
def yP {w:World} {cs:Array Value} {g:pg} (hp:cs.toList.length=(Qy g).length/\BI (HE w) (fun i=>cs.toList[i]?) 0 (Qy g)):Ac (HE w) (.a (Qy g)) (.agg cs):=by
 simp only[Ac];exact⟨cs,rfl,by simpa using hp.1,by simpa using hp.2⟩
end Go.Proofs.YtnidfcmdimehdaaGreat
namespace Go.Gl
open Go.Proofs
attribute [local irreducible] Ao Ai AY AO AJ AX AN AP AI AW AK AL Ak Au Sat AT Ar Aa W
def lD (s c:Nat) (hs0:s<18446744073709551616) (hc:c<64):Pure zP 325 [.a [eU s],eI c] (.a [eU (s|||2 ^ c)]):=by
 refine sK kZ ?_;have hs:=Sn
 conv=>whnf
 repeat'((first|clear U K|apply st|(apply zk;intro K U)|refine zY ?_|refine zs fun Z hs=>?_|refine⟨Int.natCast_nonneg _,?_⟩|refine zo fun nn hnn Z hs=>?_|fail)<;>conv=>whnf)
 refine AS ?_;simp only[Hc,Ta hc,Hu hs0 (Hk hc)];rfl
def wQ (s t:Nat) (hs0:s<18446744073709551616) (ht0:t<18446744073709551616):Pure zP 326 [.a [eU s],.a [eU t]] (.a [eU (s|||t)]):=by
 refine sJ kZ ?_;have hs:=Sn
 conv=>whnf
 repeat'((first|clear U K|apply st|(apply zk;intro K U)|refine zY ?_|refine zs fun Z hs=>?_|refine zo fun nn hnn Z hs=>?_|fail)<;>conv=>whnf)
 refine AS ?_;simp only[Hu hs0 ht0];rfl
def VJ (s:Nat) (c:Int) (hs0:s<18446744073709551616) (h0:0<=c) (hc:c<64):Pure zP 325 [.a [eU s],eI c] (.a [eU (s|||2 ^ c.toNat)]):=by
 have:=lD s c.toNat hs0 (by omega);rw[Int.toNat_of_nonneg h0]at this;exact this
def Jo {a b:Nat} (ha:a<18446744073709551616) (hb:b<18446744073709551616):a|||b<18446744073709551616:=by
 have:=Nat.or_lt_two_pow (n:=64) (x:=a) (y:=b) (by simpa using ha) (by simpa using hb);simpa using this
def IP (g:List (List Int)):List (List Int×Bool):=[([],true),([],true),([],true)]++g.map fun l=>(l,false)
def iU (g:List (List Int)):(IP g).length=3+g.length:=by simp[IP];omega
def ZM (g:List (List Int)) {k:Nat} (hk:k<3+g.length): ∃b,(IP g)[k]? =some (BU g (k:Int),b):=by
 unfold IP BU;by_cases h3:k<3
 .rw[if_pos (by omega),dN (by simpa using h3)]
  refine⟨true,?_⟩;rcases k with _|_|_|k
  .rfl
  .rfl
  .rfl
  .omega
 .rw[if_neg (by omega),List.getElem?_append_right (by simp;omega)]
  refine⟨false,?_⟩;simp only[Kt,List.length_nil,Np];have e:((k:Int) - 3).toNat=k - (0+1+1+1):=by omega
  rw[e,Dh,Di (by omega)];rfl
def mu:Ei (fun u:Nat=>[eU u]) 1:=fun x=>⟨rfl,fun v hv=>by simp at hv;subst hv;rfl⟩
def wO {α:Type} {a b c d:α}: [a,b,c,d].Perm [b,d,a,c]:=by
 have h1: [a,b,c,d].Perm [b,a,c,d]:= .swap _ _ _;have h2: [a,c,d].Perm [d,a,c]:=OD (l₁:=[a,c]) (l₂:=[d]);exact h1.trans (h2.cons b)
def l5 (g:List (List Int)) (f f2:Bool) (c:Int) (hg:FE g=true) (hc0:0<=c) (hc1:c<3+g.length) :
    BK zP 314 [.l (Jg g) f,.l (iL [c]) f2] [] fun r post=> ∃n mm vp vu us M,r= .ret (.t [.p n 0,.b true])/\post=gH n mm vp vu (IP g) us M/\IK g (3+g.length) M:=by
 intro Z hs;refine Ao.fit (by kernel_rfl) fun hf=>?_
 have⟨g1,g2⟩:=fb hf.1;have hM:=Mx;have hG:=D8 hg;have hgl:=hG.1;have hfn:=Zl g f;rw[hg]at hfn;have hc2: [c][0]? =some c:=rfl;have hpl:=iU g;refine sN kZ ?_
 conv=>whnf
 repeat'((first|clear U K|apply st|(apply zk;intro K U)|refine zY ?_|refine hfn.use ?_|fail)<;>conv=>whnf)
 refine Du 1 (fun k (_:Unit)=>[(20,eI (Bj k))]) (fun _ _=>[]) (fun _ _=>True) () rfl trivial hs ?_;clear hs;rintro k - Z hk - hs;have hkk:k=0\/k=1:=by omega
 rcases hkk with rfl|rfl
 .conv=>whnf
  repeat'((first|clear U K|apply st|(apply zk;intro K U)|refine zY ?_|(refine zb (fun hc=>?_) (fun hc=>?_)<;>try exact⟨⟩)|fail)<;>conv=>whnf)
  all_goals try(exfalso;omega)
  exact⟨(),rfl,trivial,hs⟩
 .have hke:1= [c].length:=rfl
  refine zz ?_;(repeat clear U K);repeat intro K U
  rw[show IntKind.i64.wrap (3+((Jg g).length:Nat))=((3+g.length:Nat):Int) by rw[C4,wrap64 (by omega) (by omega)];omega];refine vX (n:=3) hs (by omega) (by omega) fun vp Z hs hv=>?_
  obtain⟨idp,rfl⟩:=hv
  conv=>whnf
  repeat'((first|clear U K|apply st|(apply zk;intro K U)|refine zY ?_|refine zo fun nn hnn Z hs=>?_|fail)<;>conv=>whnf)
  obtain⟨mm,hs⟩: ∃mm,Sat Z [.box nn [.sl idp 3 (3+g.length),.l [] true,.m mm],.map mm [],.own (.sl idp 3 (3+g.length)) 1 (List.replicate 3 [.l [] true])]:=⟨_,hs⟩
  generalize nn=n0 at *;have hgr:=ED HK g;refine hAppend hs 2 rfl (by simp;omega) hgr.1 hgr.2 fun vp Z hs=>?_
  have hps:List.replicate 3 [.l [] true]++Jg g=pL (IP g):=by simp[pL,IP,List.replicate,Jg]
  rw[hps]at hs;clear hps;have hs1p:=IW hs 2 rfl
  conv=>whnf
  repeat'((first|clear U K|apply st|(apply zk;intro K U)|refine zY ?_|refine zs fun Z hs=>?_|fail)<;>conv=>whnf)
  replace hs:Sat Z [.box n0 [vp,.l [] true,.m mm],.map mm [],.own vp 1 (pL (IP g))]:=hs;refine Du (IP g).length (fun k (_:V×List Nat)=>[(55,eI (Bj k))]) (fun _ x=>[.own x.1 1 (x.2.map fun u=>[eU u]),.box n0 [vp,x.1,.m mm],.map mm [],.own vp 1 (pL (IP g))]) (fun k x=>x.2.length=k/\ ∀u∈x.2,u<18446744073709551616) (.l [] true,[]) rfl ⟨rfl,fun u hu=>by cases hu⟩ (DN hs 1) ?_;clear hs;rintro k ⟨vu,us⟩ Z hk ⟨hul,hus⟩ hs;dsimp only at hul hus hs;rcases BJ (IP g) hk with⟨⟨l,lb⟩,hl,hlt⟩|hke2
  .have hck:Bj k=k:=Av (by omega)
   obtain⟨b',hpa⟩:=ZM g (k:=k) (by omega);have hle:l=BU g (k:Int):=by rw[hl]at hpa;exact(Prod.mk.inj (Option.some.inj hpa)).1
   have hll:=Gm hG (k:Int);rw[<-hle]at hll;have hlm: ∀p∈l,3<=p/\p<(k:Int):=fun p hp=>E8 hG (by rw[<-hle];exact hp)
   have hs1:(0|||2 ^ (Bj k).toNat)<18446744073709551616:=by
    rw[Nat.zero_or,hck,Hc];exact Hk (by omega)
   have hs1u:=IW hs 0 rfl;have hl':(IP g)[(Bj k).toNat]? =some (l,lb):=by rw[hck,Hc];exact hl
   conv=>whnf
   repeat'((first|clear U K|apply st|(apply zk;intro K U)|refine zY ?_|refine zs fun Z hs=>?_|refine Pure.use (VJ 0 (Bj k) (by decide) (by omega) (by omega)) ?_|refine Pure.use (VJ _ _ (by first|omega|exact hs1) (by omega) (by omega)) ?_|refine zo fun nn hnn Z hs=>?_|fail)<;>conv=>whnf)
   have hs0:(0|||2 ^ (Bj k).toNat|||2 ^ Int.toNat 0)<18446744073709551616:=Jo hs1 (by decide);generalize (0|||2 ^ (Bj k).toNat|||2 ^ Int.toNat 0)=s0 at *;refine Du l.length (fun j (_:Nat)=>[(66,eI (Bj j))]) (fun _ s=>[.box nn [eU s],.own vu 1 (us.map fun u=>[eU u]),.box n0 [vp,vu,.m mm],.map mm [],.own vp 1 (pL (IP g))]) (fun _ s=>s<18446744073709551616) s0 rfl hs0 hs ?_;clear hs hs0;rintro j s Z hj hsb hs;rcases BJ l hj with⟨p,hp,hjlt⟩|hje
   .obtain⟨hp3,hpk⟩:=hlm p (Dn hp)
    obtain⟨u,hu⟩: ∃u,us[p.toNat]? =some u:=⟨_,Di (by omega)⟩
    have hub:=hus u (Dn hu)
    conv=>whnf
    repeat'((first|clear U K|apply st|(apply zk;intro K U)|refine zY ?_|refine zs fun Z hs=>?_|refine Pure.use (wQ _ _ hsb hub) ?_|fail)<;>conv=>whnf)
    exact⟨hjlt,s|||u,rfl,Jo hsb hub,hs⟩
   .refine zz ?_;(repeat clear U K);repeat intro K U
    refine H2 (Yu hs 1 (enc:=fun u:Nat=>[eU u]) (xs:=us) (x:=s) rfl (by omega) mu fun vu' Z hs hsl=>?_);have hs2u:=IW hs 1 rfl
    conv=>whnf
    repeat'((first|clear U K|apply st|(apply zk;intro K U)|refine zY ?_|refine zs fun Z hs=>?_|fail)<;>conv=>whnf)
    refine⟨hlt,(vu',us++[s]),rfl,⟨by simp[hul],fun u hu=>?_⟩,hs.less (NJ _ _)⟩;rcases Dm.1 hu with hu|hu
    .exact hus u hu
    .rw[MG.1 hu];exact hsb
  .have hs1u:=IW hs 0 rfl
   refine zz ?_;(repeat clear U K);repeat intro K U
   replace hs:Sat Z (gH n0 mm vp vu (IP g) us []):=hs.perm wO;refine Du (IP g).length (fun k (_:List Ord)=>[(96,eI (Bj k))]) (fun _ M=>gH n0 mm vp vu (IP g) us M) (fun k M=>IK g k M) [] rfl IK.nil hs ?_;clear hs;rintro k M Z hk hkn hs;rcases BJ (IP g) hk with⟨⟨l,lb⟩,hl,hlt⟩|hke3
   .have hck:Bj k=k:=Av (by omega)
    obtain⟨b',hpa⟩:=ZM g (k:=k) (by omega);have hle:l=BU g (k:Int):=by rw[hl]at hpa;exact(Prod.mk.inj (Option.some.inj hpa)).1
    have hll:=Gm hG (k:Int);rw[<-hle]at hll;have hlm: ∀p∈l,3<=p/\p<(k:Int):=fun p hp=>E8 hG (by rw[<-hle];exact hp)
    have hlo:=ba hG hkn hll (fun x hx=>by have:=hlm x hx;omega);have hord:=iZ n0 mm vp vu (IP g) us M (Bj k) l lb (by omega) (by rw[hck,Hc];exact hl) hll (fun c=>by have:=(Lf hG hkn c).1;omega) (fun e he=>by have:=hkn.keys e he;omega) hlo.1 hlo.2;refine zz ?_;(repeat clear U K);repeat intro K U
    refine hord.use (rest:=[]) (by simpa using hs) ?_;clear hs;rintro r post Z ⟨rfl,M',rfl,hM'⟩ hs;rw[Fj]at hs;rw[hck]at hM';refine zz ?_;(repeat clear U K);repeat intro K U
    exact⟨hlt,M',rfl,hkn.step hle (fun p hp=>by have:=hlm p hp;omega) (by omega) hM',hs⟩
   .refine zz ?_;(repeat clear U K);repeat intro K U
    exact A0 hs (List.Sublist.refl _) (.refl _) fun Z' hs'=>⟨_,⟨_,_,_,_,_,_,rfl,rfl,by rw[<-hpl,<-hke3];exact hkn⟩,hs'⟩
def uW {M:List Ord} {c:Int} {Z:AE} {fx:List At} (hs:Sat Z (fx++M.map dJ)) (hl:(Bz M c).length<=As) (hne:Bz M c≠[]) {k kp:V->AE->Prop} (hk: ∀Z',Sat Z' (fx++M.map dJ)->k (.l (iL (Bz M c)) false) Z'):Ao zP 136 [IU M c] Z (qk k kp):=by
 rcases PV M c with⟨h1,h2⟩|⟨j,hj⟩
 .exact absurd h1 hne
 .have hj':(fx++M.map dJ)[fx.length+j]? =some (At.own (IU M c) 1 (iL (Bz M c))):=by
   rw[List.getElem?_append_right (by omega),Nat.add_sub_cancel_left,hj]
  have hcl:BK zP 136 [IU M c] [.own (IU M c) 1 (iL (Bz M c))] fun r post=>r= .ret (.l (iL (Bz M c)) false)/\post= [.own (IU M c) 1 (iL (Bz M c))]:=by
   clear hk hj' hj;generalize IU M c=v at *;generalize Bz M c=l at *;intro Z hs;refine gD kZ ?_;have hgr:=ED Dt l
   have hend: ∀ {Z:AE} {w u:V},Sat Z [.own w 1 (iL l),.own u 1 (iL l)]->Ai Z w fun r Z'=> ∃post,(r= .ret (.l (iL l) false)/\post= [.own u 1 (iL l)])/\Sat Z' post:=fun hs=>by
    obtain⟨Z2,h1,h2,h3⟩:=Jr hs 0 rfl;exact JI h1 h2 ⟨_,⟨rfl,rfl⟩,h3⟩
   have hM:=Mx;rcases hs.get (i:=0) rfl with⟨rfl,_⟩|⟨n,cap,rfl,hn⟩
   .conv=>whnf
    repeat'((first|clear U K|apply st|(apply zk;intro K U)|fail)<;>conv=>whnf)
    refine⟨fun e=>absurd (List.map_eq_nil_iff.1 e) hne,fun _=>?_⟩;refine zz ?_;(repeat clear U K);repeat intro K U
    replace hs:=DN hs 1;refine Zc hs 0 1 rfl rfl (by simp;omega) hgr.1 hgr.2 fun w Z hs=>?_
    refine zz ?_;(repeat clear U K);repeat intro K U
    exact hend hs
   .refine zz ?_;(repeat clear U K);repeat intro K U
    replace hs:=DN hs 1;refine Zc hs 0 1 rfl rfl (by simp;omega) hgr.1 hgr.2 fun w Z hs=>?_
    refine zz ?_;(repeat clear U K);repeat intro K U
    exact hend hs
  refine hcl.oV (Φ:=fun r=>r= .ret (.l (iL (Bz M c)) false)) hs hj' ?_;rintro r Z' rfl hs';exact hk Z' hs'
def rS (g:List (List Int)) (f:Bool) (c:Int) (hg:FE g=true) (hc0:0<=c) (hc1:c<3+g.length) :
    Pure zP 290 [.l (Jg g) f,eI c] (if((DY g).getD c.toNat []).isEmpty then .t [.l [] true,eI 7]else .t [.l (iL ((DY g).getD c.toNat [])) false,eI 0]):=by
 have hop:=l5 g f true c hg hc0 hc1;refine sY kZ ?_;have hs:=Sn;have hM:=Mx;have hG:=D8 hg
 conv=>whnf
 repeat'((first|clear U K|apply st|(apply zk;intro K U)|fail)<;>conv=>whnf)
 refine hop.use (rest:=[]) hs ?_;clear hs;rintro r post Z ⟨n,mm,vp,vu,us,M,rfl,rfl,hkn⟩ hs;rw[Fj]at hs;have hol:=(Lf hG hkn c).1;have hor:=hkn.dd c hc0 (by omega);by_cases hne:Bz M c= []
 .have hl0:(Bz M c).length=0:=by rw[hne];rfl
  conv=>whnf
  repeat'((first|clear U K|apply st|(apply zk;intro K U)|refine zY ?_|refine yF ?_|refine PW (fx:=_::_::_::_:: []) hs (by omega) ?_|(refine zb (fun hc=>?_) (fun hc=>?_)<;>try exact⟨⟩)|fail)<;>conv=>whnf)
  all_goals try(exfalso;omega)
  rw[<-hor,hne];exact AS rfl
 .have hl0:0<(Bz M c).length:=List.length_pos_iff.2 hne
  conv=>whnf
  repeat'((first|clear U K|apply st|(apply zk;intro K U)|refine zY ?_|refine yF ?_|refine PW (fx:=_::_::_::_:: []) hs (by omega) ?_|(refine zb (fun hc=>?_) (fun hc=>?_)<;>try exact⟨⟩)|fail)<;>conv=>whnf)
  all_goals try(exfalso;omega)
  refine uW (fx:=_::_::_::_:: []) hs (by omega) hne fun Z hs=>?_
  refine zz ?_;(repeat clear U K);repeat intro K U
  rw[<-hor]
  have:(Bz M c).isEmpty=false:=by
   cases h:(Bz M c).isEmpty
   .rfl
   .exact absurd (List.isEmpty_iff.1 h) hne
  rw[this];exact AS rfl
end Go.Gl
namespace Go.Gl
open Go.Proofs
attribute [local irreducible] Ao Ai AY AO AJ AX AN AP AI AW AK AL Ak Au Sat AT Ar Aa W
def Cn (w:AG):Prop:=K5 w.parents/\w.owner.length<=40/\ ∀o∈w.owner,(3:Int)<=o/\o<3+(w.parents.length:Int)
def Sp (us:List Nat) (l:List Int) (s:Nat):Nat:=l.foldl (fun s c=>s|||us.getD c.toNat 0) s
def Bc (g:List (List Int)):Nat->List Nat
 | 0=>[1,3,5]
 | k+1=>Bc g k++[Sp (Bc g k) (g.getD k []) (1|||2 ^ (3+k))]
def B1 (g:List (List Int)):List Nat:=Bc g g.length
def kr (us:List Nat):List V:=us.map eU++List.replicate (63 - us.length) (eU 0)
def wC (w:AG) (us:List Nat):List V:=CR w++kr us
def Df (g:List (List Int)): ∀k,(Bc g k).length=3+k
 | 0=>rfl
 | k+1=>by simp[Bc,Df g k];omega
def ei (w:AG) {us:List Nat} (h:us.length<=63):(wC w us).length=65:=by
 simp only[wC,CR,kr,RG,Kt,List.length_nil,C4,List.length_replicate];omega
def eg (w:AG) (us:List Nat) (s:Nat) (h:us.length<63):(wC w us).set (2+us.length) (eU s)=wC w (us++[s]):=by
 simp only[wC,kr];rw[List.set_append_right _ _ (by simp[CR])];congr 1;have e:2+us.length - (CR w).length=us.length:=by simp[CR]
 rw[e,List.set_append_right _ _ (by simp)];rw[C4,Nat.sub_self,Yh,Od];congr 1;rw[show 63 - us.length=(63 - (us++[s]).length)+1 by simp;omega,List.replicate_succ];rfl
def oU (w:AG) (us:List Nat) {i:Nat} (h:i<us.length):(wC w us)[2+i]? =some (eU (us.getD i 0)):=by
 simp only[wC,kr];rw[List.getElem?_append_right (by simp[CR]),show 2+i - (CR w).length=i by simp[CR],dN (by simpa using h),Np,Di h,Dh,Di h];rfl
def ur (us:List Nat):Prop:= ∀u∈us,u<18446744073709551616
def TA {us:List Nat} (h:ur us) (i:Nat):us.getD i 0<18446744073709551616:=by
 rw[Dh];cases hx:us[i]? with
 | none=>simp
 | some x=>exact h x (Dn hx)
def OF {us:List Nat} (h:ur us): ∀(l:List Int) (s:Nat),s<18446744073709551616->Sp us l s<18446744073709551616
 | [],_,hs=>hs
 | c::r,s,hs=>OF h r _ (Jo hs (TA h _))
def HA (g:List (List Int)): ∀k,k<=60->ur (Bc g k)
 | 0,_=>by intro u hu;simp[Bc]at hu;omega
 | k+1,hk=>by
   intro u hu;simp only[Bc,Dm,MG]at hu;rcases hu with hu|rfl
   .exact HA g k (by omega) u hu
   .exact OF (HA g k (by omega)) _ _ (Jo (by decide) (Hk (by omega)))
def qw (w:AG) (us:List Nat) (c:Int) {n:Nat} (hM:w.parents.length<=60):BK zP 181 [.p n 0,eI c] [.box n (wC w us)] fun r post=>r= .ret (.b (decide (3<=c)&&decide (c<3+(w.parents.length:Int))))/\post= [.box n (wC w us)]:=by
 intro Z hs;have hw:IntKind.i64.wrap (3+((Jg w.parents).length:Nat))=3+(w.parents.length:Int):=by rw[C4,wrap64 (by omega) (by omega)]
 refine th kZ ?_
 conv=>whnf
 repeat'((first|clear U K|apply st|(apply zk;intro K U)|refine zY ?_|refine za (fun hc=>?_) fun hc=>?_|fail)<;>conv=>whnf)
 .refine AH ⟨_,⟨?_,rfl⟩,hs⟩
  rw[hw,decide_eq_true (show 3<=c by omega)];rfl
 .refine AH ⟨_,⟨?_,rfl⟩,hs⟩
  rw[decide_eq_false (show¬3<=c by omega)];rfl
def jh (w:AG) (us:List Nat) (c:Int) (hM:w.parents.length<=60):Pure zP 232 [.rp (wC w us),eI c] (.b (XP w c)):=by
 have hw:IntKind.i64.wrap (3+((Jg w.parents).length:Nat))=3+(w.parents.length:Int):=by rw[C4,wrap64 (by omega) (by omega)]
 refine tI kZ ?_;have hs:=Sn
 conv=>whnf
 repeat'((first|clear U K|apply st|(apply zk;intro K U)|refine zY ?_|refine za (fun hc=>?_) fun hc=>?_|fail)<;>conv=>whnf)
 .refine AS ?_
  rw[hw,XP,decide_eq_true (show 0<=c by omega)];rfl
 .refine AS ?_
  rw[XP,decide_eq_false (show¬0<=c by omega)];rfl
def lO (w:AG) (us:List Nat) (c:Int) (hM:w.owner.length<=60):Pure zP 274 [.rp (wC w us),eI c] (.b (Ot w c)):=by
 refine sd kZ ?_;have hs:=Sn
 conv=>whnf
 repeat'((first|clear U K|apply st|(apply zk;intro K U)|refine zY ?_|refine za (fun hc=>?_) fun hc=>?_|fail)<;>conv=>whnf)
 .refine AS ?_
  rw[Ot,decide_eq_true (show 0<=c by omega),C4];rfl
 .refine AS ?_
  rw[Ot,decide_eq_false (show¬0<=c by omega)];rfl
def lq (w:AG) (us:List Nat) (l:List Int) (f:Bool) (hM:w.owner.length<=60):Pure zP 231 [.rp (wC w us),.l (iL l) f] (.b (Ib w l)):=by
 have hall:=oF (g:=274) (fi:=[.rp (wC w us)]) (ca:=[]) (f:=Ot w) (xs:=l) f (fun y _=>lO w us y hM);refine tJ kZ ?_;have hs:=Sn
 conv=>whnf
 repeat'((first|clear U K|apply st|(apply zk;intro K U)|refine zY ?_|refine zC ?_|(refine zd (fun hc=>?_) (fun hc=>?_)<;>try exact⟨⟩)|fail)<;>conv=>whnf)
 .refine AS ?_
  rw[Ib,decide_eq_true (show l.length<=2 by omega),Bool.and_true];rfl
 .refine AS ?_
  rw[Ib,decide_eq_false (show¬l.length<=2 by omega),Bool.and_false];rfl
def G9 (s:Nat) (c:Int) (hs0:s<18446744073709551616) (h0:0<=c) (hc:c<64):Pure zP 179 [eU s,eI c] (eU (s|||2 ^ c.toNat)):=by
 have:=Y4 s c.toNat hs0 (by omega);rw[Int.toNat_of_nonneg h0]at this;exact this
def up3 {k:Nat} (h:k<3):([1,3,5]:List Nat).take k++[1|||2 ^ k]= [1,3,5].take (k+1):=by
 rcases k with _|_|_|k
 .rfl
 .rfl
 .rfl
 .omega
def l6 (w : AG) (hw:Cn w):Pure zP 118 [.a (CR w)] (.t [.rp (wC w (B1 w.parents)),.b true]):=by
 obtain⟨⟨hl,hrow⟩,ho,how⟩:=hw;have hM:=Mx;refine Pure.of ?_;refine uO kZ ?_;have hs:=Sn;have hi1:((Jg w.parents).length:Int)<=60:=by rw[C4];omega
 have hi2:((iL w.owner).length:Int)<=40:=by rw[C4];omega
 conv=>whnf
 repeat'((first|clear U K|apply st|(apply zk;intro K U)|refine zY ?_|(refine zb (fun hc=>?_) (fun hc=>?_)<;>try exact⟨⟩)|refine zo fun nn hnn Z hs=>?_|fail)<;>conv=>whnf)
 generalize nn=n0 at *;refine Du 3 (fun k (_:Unit)=>[(24,eI (Bj k))]) (fun k _=>[.box n0 (wC w ([1,3,5].take k))]) (fun k _=>True) () rfl trivial hs ?_;clear hs;rintro k - Z hk - hs;have hck:Bj k=k:=Av (by omega);have hlen:(([1,3,5]:List Nat).take k).length=k:=by simp;omega
 by_cases hlt:k<3
 .have hst:=eg w ([1,3,5].take k) (1|||2 ^ k) (by omega)
  rw[hlen,up3 hlt]at hst
  conv=>whnf
  repeat'((first|clear U K|apply st|(apply zk;intro K U)|refine zY ?_|refine Pure.use (G9 1 _ (by decide) (by omega) (by omega)) ?_|(refine zb (fun hc=>?_) (fun hc=>?_)<;>try exact⟨⟩)|fail)<;>conv=>whnf)
  refine OQ hs 0 rfl rfl (by rw[ei w (by omega)];omega) fun Z hs=>?_
  refine zz ?_;(repeat clear U K);repeat intro K U
  refine⟨hlt,(),rfl,trivial,?_⟩;rw[hck,Hc,Nat.mul_one,F9]at hs;simp only[List.set_cons_zero]at hs;rw[hst]at hs;exact hs
 .have hke:k=3:=by omega
  subst hke;clear hk hck hlen hlt
  conv=>whnf
  repeat'((first|clear U K|apply st|(apply zk;intro K U)|refine zY ?_|(refine zb (fun hc=>?_) (fun hc=>?_)<;>try exact⟨⟩)|fail)<;>conv=>whnf)
  refine Du w.parents.length (fun k (_:Unit)=>[(38,eI (Bj k))]) (fun k _=>[.box n0 (wC w (Bc w.parents k))]) (fun k _=>True) () rfl trivial hs ?_;clear hs;rintro k - Z hk - hs;have hck:Bj k=k:=Av (by omega);have hul:=Df w.parents k;have huo:=HA w.parents k (by omega);have hw3:IntKind.i64.wrap (3+(k:Int))=3+(k:Int):=wrap64 (by omega) (by omega);rcases BJ w.parents hk with⟨row,hr,hlt⟩|hke
  .obtain⟨r1,r2,r3⟩:=hrow k row hr
   rw[<-hck]at hw3
   conv=>whnf
   repeat'((first|clear U K|apply st|(apply zk;intro K U)|refine zY ?_|refine Pure.use (G9 1 _ (by decide) (by omega) (by omega)) ?_|fail)<;>conv=>whnf)
   have hbig:ur (Bc w.parents k):=huo;have hst0:IntKind.i64.wrap (3+Bj k)=3+(k:Int):=by rw[hck];exact wrap64 (by omega) (by omega)
   have hs0lt:1|||2 ^ (3+k)<18446744073709551616:=Jo (by decide) (Hk (by omega))
   have hs0e:1|||2 ^ (IntKind.i64.wrap (3+Bj k)).toNat=1|||2 ^ (3+k):=by rw[hst0,show(3+(k:Int)).toNat=3+k by omega]
   rw[hs0e];refine Du row.length (fun j (s:Nat)=>[(48,eI (Bj j)),(8,eU s)]) (fun _ _=>[.box n0 (wC w (Bc w.parents k))]) (fun j s=>s=Sp (Bc w.parents k) (row.take j) (1|||2 ^ (3+k))) (1|||2 ^ (3+k)) rfl rfl hs ?_;clear hs;rintro j s Z hj hse hs;rcases BJ row hj with⟨c,hcj,hjlt⟩|hje
   .obtain⟨q1,q2⟩:=r3 c (Dn hcj)
    have hload:(wC w (Bc w.parents k))[0+2+c.toNat*1]? =some (eU ((Bc w.parents k).getD c.toNat 0)):=by
     have:=oU w (Bc w.parents k) (i:=c.toNat) (by omega);rw[<-this];congr 1;omega
    have hnc:(row.take j).contains c=false:=by
     rw[<-Bool.not_eq_true,List.contains_iff_mem];intro hm;obtain⟨i,hi,he⟩:=List.mem_iff_getElem.1 hm;have hi':i<j:=by rw[NK]at hi;omega
     rw[List.getElem_take]at he;have hcj':=(Je.1 hcj).2;exact absurd ((List.getElem_inj r2).1 (he.trans hcj'.symm)) (by omega)
    have hct: ∀b,Pure zP 11 [.l (iL (row.take j)) b,eI c] (.b false):=fun b=>by
     have:=Ce (row.take j) b c
     rwa [hnc]at this
    conv=>whnf
    repeat'((first|clear U K|apply st|(apply zk;intro K U)|refine zY ?_|refine Pure.use (hct _) ?_|(rw[hload])|(refine zb (fun hc=>?_) (fun hc=>?_)<;>try exact⟨⟩)|fail)<;>conv=>whnf)
    refine⟨hjlt,s|||(Bc w.parents k).getD c.toNat 0,?_,?_,hs⟩
    .have hsl:s<18446744073709551616:=by rw[hse];exact OF huo _ _ hs0lt
     rw[Hu hsl (TA huo _)];rfl
    .rw[hse,An hcj]
     simp only[Sp,List.foldl_append];rfl
   .refine zz ?_;(repeat clear U K);repeat intro K U
    refine OQ hs 0 rfl rfl (by rw[ei w (by omega),hst0];omega) fun Z hs=>?_
    refine zz ?_;(repeat clear U K);repeat intro K U
    refine⟨hlt,(),rfl,trivial,?_⟩
    have e:Bc w.parents (k+1)=Bc w.parents k++[s]:=by
     rw[hse,Bc,Dh,hr,hje,List.take_length];rfl
    have hst:=eg w (Bc w.parents k) s (by omega);rw[e,<-hst];have e2:0+2+(IntKind.i64.wrap (3+Bj k)).toNat*1=2+(Bc w.parents k).length:=by rw[hst0,hul];omega
    rw[e2]at hs;exact hs
  .have hown:=gQ 181 [.p n0 0] [] (fun _=>[.box n0 (wC w (Bc w.parents k))]) (Uy fun c=>decide (3<=c)&&decide (c<3+(w.parents.length:Int))) (fun _ _=>True) (fun y s _ Z hs=>Ay (Ao.mono (qw w (Bc w.parents k) y (by omega) Z hs) (by
    rintro r Z' ⟨post,⟨h1,h2⟩,h3⟩;subst h2
    exact⟨h1,h3⟩))) w.owner false () (Gc fun _ _ _=>trivial)
   rw[Jb]at hown
   have hall:(w.owner.all fun c=>decide (3<=c)&&decide (c<3+(w.parents.length:Int)))=true:=by
    rw[DR];intro o hoo;have:=how o hoo;simp only[A4,CT];exact this
   rw[hall]at hown;refine zz ?_;(repeat clear U K);repeat intro K U
   refine hown.use (rest:=[]) hs ?_;rintro r post Z ⟨rfl,rfl⟩ hs;refine zz ?_;(repeat clear U K);repeat intro K U
   rw[hke]at hs;exact JI (Z2:=emp) (fun n o ho=>by cases ho) (.t (.cons (hs.ky 0 rfl (.refl _ _ _)) (.cons (.refl _) .nil))) rfl
def MW (w:AG) (f:Fact):Bool:=decide (0<=f.arg)&&(decide (f.arg<3)&&(Ib w f.path&&(if f.op=2 then f.n==0&&XP w f.cls else f.cls==0&&(decide (-1000000000<=f.n)&&decide (f.n<=1000000000)))))
def EB (w:AG) (f:Fact):Int->Int->Bool×Int:=f.Gy fun f l left deep=>
 if IntKind.i64.wrap (left - 1)<0\/deep=0\/f.op<1\/7<f.op\/f.kids.length≠Cv f.op then(false,IntKind.i64.wrap (left - 1))else
 if Cm f then(MW w f,IntKind.i64.wrap (left - 1))else
 if f.arg≠0\/0<f.path.length\/f.cls≠0\/f.n≠0 then(false,IntKind.i64.wrap (left - 1))else
 Bp (fun(k:Int->Int->Bool×Int) s=>k s (deep - 1)) l (IntKind.i64.wrap (left - 1))
def Ly {α β S:Type} (g:α->β) (stp:β->S->Bool×S): ∀(l:List α) (s:S),Bp stp (l.map g) s=Bp (fun a s=>stp (g a) s) l s
 | [],_=>rfl
 | a::r,s=>by simp only[Eg,Bp,Ly g stp r]
def HF (w:AG) (f:Fact) (left deep:Int):EB w f left deep =
    if IntKind.i64.wrap (left - 1)<0\/deep=0\/f.op<1\/7<f.op\/f.kids.length≠Cv f.op then(false,IntKind.i64.wrap (left - 1))else
    if Cm f then(MW w f,IntKind.i64.wrap (left - 1))else
    if f.arg≠0\/0<f.path.length\/f.cls≠0\/f.n≠0 then(false,IntKind.i64.wrap (left - 1))else
    Bp (fun k s=>EB w k s (deep - 1)) f.kids (IntKind.i64.wrap (left - 1)):=by
 rw[EB,Fact.DQ,Ly];rfl
def Yp {w:AG} {f:Fact} {left deep L1:Int} {b:Bool} {nL:Nat} {Z:AE} (hs:Sat Z [.box nL [eI L1]]) (h:EB w f left deep=(b,L1)):Ai Z (.b b) fun r Z'=> ∃post:List At,(r=R.ret (.b (EB w f left deep).1)/\post= [.box nL [eI (EB w f left deep).2]])/\Sat Z' post:=by
 rw[h];exact AH ⟨_,⟨rfl,rfl⟩,hs⟩
def mF (w:AG) (us:List Nat) (hw1:w.parents.length<=60) (hw2:w.owner.length<=60) (nL:Nat) (f:Fact): ∀(left deep:Int),0<=deep->deep<=12->
    BK zP 184 [.rp (wC w us),.a (xF f),.p nL 0,eI deep] [.box nL [eI left]] fun r post=>r= .ret (.b (EB w f left deep).1)/\post= [.box nL [eI (EB w f left deep).2]]:=by
 induction f using Fact.ind with
 | h f ih=>
   intro left deep hd0 hd1 Z hs;refine Ao.fit (by kernel_rfl) fun hf=>?_
   have⟨h2,h3,h4⟩:=o5 hf.2.1;have hM:=Mx;have hdw:IntKind.i64.wrap (deep - 1)=deep - 1:=wrap64 (by omega) (by omega);refine te kZ ?_
   have hstep:Cr zP (.f (.func 233) [] [.rp [.rp (wC w us)],.rp [.p nL 0],.rp [eI deep]]) (fun y=> .a (xF y)) (fun s=>[.box nL [eI s]]) (fun k s=>EB w k s (deep - 1)) (fun y _=>y∈f.kids/\deep≠0):=by
    rintro y s ⟨hy,hdn⟩ Z hs;refine Ay ?_;show Ao zP 233 ([]++[.a (xF y)]++[.rp [.rp (wC w us)],.rp [.p nL 0],.rp [eI deep]]) Z _;refine tH kZ ?_;refine zz ?_;(repeat clear U K);repeat intro K U
    rw[hdw];refine(ih y hy s (deep - 1) (by omega) (by omega)).use (rest:=[]) hs ?_;rintro r post Z ⟨rfl,rfl⟩ hs;refine zz ?_;(repeat clear U K);repeat intro K U
    exact AH ⟨rfl,hs⟩
   conv=>whnf
   repeat'((first|clear U K|apply st|(apply zk;intro K U)|refine zY ?_|refine rk ?_ ?_|exact fun s e=>by cases e;rfl|refine zs fun Z hs=>?_|refine Pure.use (Tl _) ?_|refine Pure.use (ma _) ?_|refine Pure.use (jh w us _ hw1) ?_|refine Pure.use (lq w us _ _ hw2) ?_|(refine zd (fun hc=>?_) (fun hc=>?_)<;>try exact⟨⟩)|fail)<;>conv=>whnf)
   all_goals first
    | (refine Yp hs ?_;rw[HF,if_pos (by omega)];done)
    | (refine Yp hs ?_;rw[HF,if_neg (by omega),if_pos (by assumption)];simp[MW, *];done)
    | (refine Yp hs ?_;rw[HF,if_neg (by omega),if_pos (by assumption)];simp[MW, *];intros;omega)
    | (refine Yp hs ?_;rw[HF,if_neg (by omega),if_neg (by simp[*]),if_pos (by omega)];done)
    | skip
   refine(gP 233 [] _ _ _ _ hstep f.kids false (IntKind.i64.wrap (left - 1)) h2 (Gc fun y hy _=>⟨hy,by omega⟩)).use (rest:=[]) hs ?_;have hE:=HF w f left deep;rw[if_neg (by omega),if_neg (by simp[*]),if_neg (by omega)]at hE;rw[<-hE];rintro r post Z ⟨rfl,rfl⟩ hs;refine zz ?_;(repeat clear U K);repeat intro K U
   exact AH ⟨_,⟨rfl,rfl⟩,hs⟩
def K6 (w:AG) (f:Fact):Bool:=(EB w f 24 12).1
def cE (w:AG) (us:List Nat) (hw1:w.parents.length<=60) (hw2:w.owner.length<=60) (f:Fact):Pure zP 183 [.a (xF f),.rp [.rp (wC w us)]] (.b (K6 w f)):=by
 refine Pure.of ?_;refine tf kZ ?_;have hs:=Sn
 conv=>whnf
 repeat'((first|clear U K|apply st|(apply zk;intro K U)|refine zY ?_|refine zs fun Z hs=>?_|refine zo fun nn hnn Z hs=>?_|fail)<;>conv=>whnf)
 refine(mF w us hw1 hw2 _ f 24 12 (by omega) (by omega)).use (rest:=[]) hs ?_;rintro r post Z ⟨rfl,rfl⟩ hs;refine zz ?_;(repeat clear U K);repeat intro K U
 exact AH rfl
def oE {g:FuncId} {fi ca:List V} {f:Fact->Bool} {xs:List Fact} (b:Bool) (hl:xs.length<=As) (h: ∀y∈xs,Pure zP g (fi++[.a (xF y)]++ca) (.b (f y))):Pure zP 182 [.l (facts xs) b,.f (.func g) fi ca] (.b (xs.all f)):=by
 have:=gP g fi ca (fun _=>[]) (fun y (_:Unit)=>(f y,())) (fun y _=>y∈xs) (fun y s hy Z hs=>Ay (Ao.mono ((h y hy).use (k:=fun v Z'=>v= .b (f y)/\Sat Z' []) (kp:=fun _ _=>False) ⟨rfl,Sat.nil⟩) (by
  rintro(v|v) Z' hq
  .obtain⟨rfl,h⟩:=hq
   exact⟨rfl,h⟩
  .exact hq.elim))) xs b () hl (Gc fun y hy _=>hy)
 rw[Jb]at this;exact Pure.of (Ao.mono (this emp Sat.nil) fun r Z' ⟨post,⟨h1,h2⟩,h3⟩=>h1)
def cG (w:AG) (us:List Nat) (hw1:w.parents.length<=60) (hw2:w.owner.length<=60) (l:List Fact) (b:Bool) (hl:l.length<=60):Pure zP 119 [.rp (wC w us),.l (facts l) b] (.b (l.all (K6 w))):=by
 have hall:=oE (g:=183) (fi:=[]) (ca:=[.rp [.rp (wC w us)]]) (f:=K6 w) (xs:=l) b (by simp only[As];omega) fun y _=>cE w us hw1 hw2 y
 refine uN kZ ?_;have hs:=Sn;exact zW
def ZH (w:AG) (hw:Cn w) (l:List Fact) (b:Bool) (hl:l.length<=60):Pure zP 77 [.a (CR w),.l (facts l) b] (.t [.rp (wC w (B1 w.parents)),.b (l.all (K6 w))]):=by
 have hfo:=cG w (B1 w.parents) (by have:=hw.1.1;omega) (by have:=hw.2.1;omega) l b hl;refine xJ kZ ?_;have hs:=Sn
 conv=>whnf
 repeat'((first|clear U K|apply st|(apply zk;intro K U)|refine zY ?_|refine Pure.use (l6 w hw) ?_|refine hfo.use ?_|fail)<;>conv=>whnf)
 all_goals exact AS rfl
def c9 (w:AG) (hw:Cn w) (f:Fact):Pure zP 116 [.a (CR w),.a (xF f)] (eI (if K6 w f then 0 else 2)):=by
 have hfo: ∀b,Pure zP 77 [.a (CR w),.l [FX f] b] (.t [.rp (wC w (B1 w.parents)),.b (K6 w f)]):=fun b=>by
  have:=ZH w hw [f] b (by simp);simpa using this
 refine uP kZ ?_;have hs:=Sn;refine zz ?_;(repeat clear U K);repeat intro K U
 rw[Bq]at hfo;refine(hfo _).use ?_
 conv=>whnf
 repeat'((first|clear U K|apply st|(apply zk;intro K U)|refine Pure.use (X2 _) ?_|fail)<;>conv=>whnf)
 exact AS rfl
end Go.Gl
namespace Go.Gl
def L5 {most:Int}: ∀(l:List Fact) (n:Int),(∀k∈l,∀m:Int,(Qr k:Int)<=m->Ct k m=Qr k)->n+(l.map Qr).sum<=most->Dy (l.map Ct) n most=n+(l.map Qr).sum
 | [],n,_,_=>by simp[Dy]
 | k::r,n,h,h1=>by
   simp only[Eg,List.sum_cons,Dy]at *;rw[if_pos (by omega),h k (.head _) (most - n) (by omega),L5 r _ (fun k' hk'=>h k' (.tail _ hk')) (by omega)];omega
def T8 (f:Fact): ∀m:Int,(Qr f:Int)<=m->Ct f m=Qr f:=by
 induction f using Fact.ind with
 | h f ih=>
   intro m hm;rw[M1];rw[PQ]at *;rw[L5 f.kids 1 ih (by omega)];omega
def bX (f:Fact) {m:Int} (h0:0<=m):Ct f m<=m↔(Qr f:Int)<=m:=
 ⟨fun h=>by rw[<-QD f m h0 h];exact h,fun h=>by rw[T8 f m h];exact h⟩
def nj (f:Fact):1<=Qr f:=by rw[PQ];omega
def F6 {m:Int}: ∀(l:List Int) (a:Int),l.foldl UZ a<=m↔a<=m/\ ∀x∈l,x<=m
 | [],a=>by simp
 | x ::r,a=>by
   rw[List.foldl_cons,F6 r];unfold UZ;constructor
   .rintro⟨h1,h2⟩
    refine⟨by split at h1<;>omega,fun y hy=>?_⟩;rcases FR.1 hy with rfl|hy
    .split at h1<;>omega
    .exact h2 y hy
   .rintro⟨h1,h2⟩
    have hx:=h2 x (.head _);exact⟨by split<;>omega,fun y hy=>h2 y (.tail _ hy)⟩
def jb (f:Fact) {m:Int}:Ge f<=m↔1<=m/\ ∀k∈f.kids,Ge k<=m - 1:=by
 rw[SV];constructor
 .intro h
  have:=(F6 (m:=m - 1) (f.kids.map Ge) 0).1 (by omega);exact⟨by omega,fun k hk=>this.2 _ (List.mem_map_of_mem hk)⟩
 .rintro⟨h1,h2⟩
  have:=(F6 (m:=m - 1) (f.kids.map Ge) 0).2 ⟨by omega,fun x hx=>by
   obtain⟨k,hk,rfl⟩:=H8.1 hx
   exact h2 k hk⟩
  omega
def eK (w:AG) (f:Fact) (left deep:Int):Prop:=(Qr f:Int)<=left/\Ge f<=deep/\BM w f=true
def Sb (w:AG) {deep:Int}: ∀(l:List Fact) (left:Int),0<=left->left<=24->(∀k∈l,∀left:Int,0<=left->left<=24->((EB w k left deep).1=true↔eK w k left deep)/\((EB w k left deep).1=true->(EB w k left deep).2=left - Qr k))->
    ((Bp (fun k s=>EB w k s deep) l left).1=true↔((l.map Qr).sum:Int)<=left/\ ∀k∈l,Ge k<=deep/\BM w k=true)/\((Bp (fun k s=>EB w k s deep) l left).1=true->(Bp (fun k s=>EB w k s deep) l left).2=left - ((l.map Qr).sum:Nat))
 | [],left,h0,h1,_=>by simp[Bp];exact h0
 | k ::r,left,h0,h1,h=>by
   obtain⟨ha,hb⟩:=h k (.head _) left h0 h1;simp only[Bp,Eg,List.sum_cons];cases hk:(EB w k left deep).1
   .simp only[Jf,if_false,false_iff,false_implies,and_true]
    rintro⟨h2,h3⟩;have:=ha.2 ⟨by omega,(h3 k (.head _)).1,(h3 k (.head _)).2⟩;rw[hk]at this;cases this
   .obtain⟨g1,g2,g3⟩:=ha.1 hk
    have hc:=nj k;rw[if_pos rfl,hb hk];obtain⟨i1,i2⟩:=Sb w r (left - Qr k) (by omega) (by omega) fun k' hk'=>h k' (.tail _ hk')
    refine⟨i1.trans ⟨fun⟨e1,e2⟩=>⟨by omega,fun x hx=>?_⟩,fun⟨e1,e2⟩=>⟨by omega,fun x hx=>e2 x (.tail _ hx)⟩⟩,fun h=>by rw[i2 h];omega⟩;rcases FR.1 hx with rfl|hx
    .exact⟨g2,g3⟩
    .exact e2 x hx
def mD (w : AG) (f:Fact): ∀left deep:Int,0<=left->left<=24->0<=deep->((EB w f left deep).1=true↔eK w f left deep)/\((EB w f left deep).1=true->(EB w f left deep).2=left - Qr f):=by
 induction f using Fact.ind with
 | h f ih=>
   intro left deep h0 h1 hd;have hw:IntKind.i64.wrap (left - 1)=left - 1:=wrap64 (by omega) (by omega);rw[HF,hw];have hc:=PQ f;have hn:=CO w f;have hdl:=jb f (m:=deep)
   have hko:Dr w f=true->f.kids.length=Cv f.op:=fun h=>by
    simp only[Dr,A4,Cy]at h;exact h.2.1
   have hop:Dr w f=true->1<=f.op/\f.op<=7:=fun h=>by
    simp only[Dr,A4]at h;have h1:=h.1;unfold aH at h1;split at h1
    .omega
    split at h1
    .omega
    simp at h1;omega
   by_cases hbad:left - 1<0\/deep=0\/f.op<1\/7<f.op\/f.kids.length≠Cv f.op
   .rw[if_pos hbad]
    simp only[Jf,false_iff,false_implies,and_true];rintro⟨g1,g2,g3⟩;rw[hn,A4]at g3;have g4:=hko g3.1;have g5:=hop g3.1;have g6:=(hdl.1 g2).1;omega
   rw[if_neg hbad];by_cases hl:Cm f=true
   .rw [if_pos hl]
    have hl':f.op=2\/f.op=3\/f.op=4:=by
     simp only[Cm,Ek,Cy]at hl;omega
    have hk0:f.kids= []:=by
     have:f.kids.length=Cv f.op:=by omega
     rw[Cv,if_neg (by omega),if_neg (by omega)]at this;exact W7.1 this
    have hd1:Ge f=1:=by rw[SV,hk0];rfl
    have hc1:Qr f=1:=by rw[hc,hk0];rfl
    have hh:Dr w f=MW w f:=by
     unfold Dr aH MW;rw[hl,hk0];have e:Cv f.op=0:=by rw[Cv,if_neg (by omega),if_neg (by omega)]
     rw[e];simp only[List.length_nil,beq_self_eq_true,Ed,Bool.true_or,Bool.and_true];rcases hl' with e|e|e
     .rw[if_pos e,if_pos e]
      cases(f.n==0&&XP w f.cls)<;>simp
     .rw[if_neg (show¬f.op=2 by omega),if_neg (show¬f.op=2 by omega),if_pos (show f.op=3\/f.op=4 from .inl e)]
      cases(f.cls==0&&(decide (-1000000000<=f.n)&&decide (f.n<=1000000000)))<;>simp
     .rw[if_neg (show¬f.op=2 by omega),if_neg (show¬f.op=2 by omega),if_pos (show f.op=3\/f.op=4 from .inr e)]
      cases(f.cls==0&&(decide (-1000000000<=f.n)&&decide (f.n<=1000000000)))<;>simp
    refine⟨⟨fun h=>⟨by omega,by omega,?_⟩,fun⟨_,_,h⟩=>?_⟩,fun _=>by dsimp only;omega⟩
    .rw[hn,hk0,hh];simpa using h
    .rw[hn,hk0,hh]at h;simpa using h
   .have hl':f.op=1\/f.op=5\/f.op=6\/f.op=7:=by
     simp only[Cm,Ek,Cy]at hl;omega
    have hlf:Cm f=false:=by simpa using hl
    rw[if_neg hl];by_cases hz:f.arg≠0\/0<f.path.length\/f.cls≠0\/f.n≠0
    .rw[if_pos hz]
     simp only[Jf,false_iff,false_implies,and_true];rintro⟨g1,g2,g3⟩;rw[hn,A4]at g3;have g4:=g3.1;simp only[Dr,hlf,Bool.false_or,A4,Cy]at g4;omega
    .rw [if_neg hz]
     obtain⟨i1,i2⟩:=Sb w (deep:=deep - 1) f.kids (left - 1) (by omega) (by omega) fun k hk left hl0 hl1=>ih k hk left (deep - 1) hl0 hl1 (by omega)
     have hh:Dr w f=true:=by
      have hp:f.path= []:=W7.1 (by omega)
      have e1:aH w f=true:=by
       unfold aH;rw[if_neg (by omega),if_neg (by omega)];simp only[Ek,Cy];omega
      have z1:f.arg=0:=by omega
      have z2:f.cls=0:=by omega
      have z3:f.n=0:=by omega
      have z4:f.kids.length=Cv f.op:=by omega
      simp[Dr,e1,hlf,hp,z1,z2,z3,z4,Ib]
     refine⟨i1.trans ⟨fun⟨e1,e2⟩=>⟨by omega,hdl.2 ⟨by omega,fun k hk=>(e2 k hk).1⟩,?_⟩,fun⟨g1,g2,g3⟩=>⟨by omega,fun k hk=>⟨(hdl.1 g2).2 k hk,?_⟩⟩⟩,fun h=>by rw[i2 h];omega⟩
     .rw[hn,hh,Ed,DR]
      exact fun k hk=>(e2 k hk).2
     .rw[hn,hh,Ed,DR]at g3
      exact g3 k hk
def Zj (w:AG) (f:Fact):K6 w f=EC w f:=by
 have:=(mD w f 24 12 (by omega) (by omega) (by omega)).1;rw[K6,EC,Gr,this,eK];simp only[A4,CT];rw[bX f (by omega)]
end Go.Gl
