import Derived.Test.YtnidfcmdimehdaaGreatU14
import Derived.Test.YtnidfcmdimehdaaGreatU15
import Derived.Test.YtnidfcmdimehdaaGreatU18
import Derived.Test.YtnidfcmdimehdaaGreatU20
import Derived.Test.YtnidfcmdimehdaaGreatU21
import Derived.Test.YtnidfcmdimehdaaGreatU22
set_option linter.all false
set_option linter.defProp false
set_option maxHeartbeats 8000000
noncomputable section
namespace Go.Gl
open Go.Proofs
attribute [local irreducible] As Af AV AQ AI AU AP AR AJ AT AM AN Ag Ar Sat AS Ap AX W
def l8 (s c:Nat) (hs0:s<18446744073709551616) (hc:c<64):Pure zP 325 [.a [eU s],eI c] (.a [eU (s|||2 ^ c)]):=by
 refine tF kZ ?_;have hs:=Sn
 conv=>whnf
 repeat'((first|clear U K|apply st|(apply zk;intro K U)|refine zY ?_|refine zs fun Z hs=>?_|refine⟨Int.natCast_nonneg _,?_⟩|refine zo fun nn hnn Z hs=>?_|fail)<;>conv=>whnf)
 refine AF ?_;simp only[FZ,UK hc,HP hs0 (Ge hc)];rfl
def yN (s t:Nat) (hs0:s<18446744073709551616) (ht0:t<18446744073709551616):Pure zP 326 [.a [eU s],.a [eU t]] (.a [eU (s|||t)]):=by
 refine tE kZ ?_;have hs:=Sn
 conv=>whnf
 repeat'((first|clear U K|apply st|(apply zk;intro K U)|refine zY ?_|refine zs fun Z hs=>?_|refine zo fun nn hnn Z hs=>?_|fail)<;>conv=>whnf)
 refine AF ?_;simp only[HP hs0 ht0];rfl
def Vn (s:Nat) (c:Int) (hs0:s<18446744073709551616) (h0:0<=c) (hc:c<64):Pure zP 325 [.a [eU s],eI c] (.a [eU (s|||2 ^ c.toNat)]):=by
 have:=l8 s c.toNat hs0 (by omega);rw[Int.toNat_of_nonneg h0]at this;exact this
def H3 {a b:Nat} (ha:a<18446744073709551616) (hb:b<18446744073709551616):a|||b<18446744073709551616:=by
 have:=Nat.or_lt_two_pow (n:=64) (x:=a) (y:=b) (by simpa using ha) (by simpa using hb);simpa using this
def JZ (g:List (List Int)):List (List Int×Bool):=[([],true),([],true),([],true)]++g.map fun l=>(l,false)
def jP (g:List (List Int)):(JZ g).length=3+g.length:=by simp[JZ];omega
def Zy (g:List (List Int)) {k:Nat} (hk:k<3+g.length): ∃b,(JZ g)[k]? =some (A4 g (k:Int),b):=by
 unfold JZ A4;by_cases h3:k<3
 .rw[if_pos (by omega),Xm (by simpa using h3)]
  refine⟨true,?_⟩;rcases k with _|_|_|k
  .rfl
  .rfl
  .rfl
  .omega
 .rw[if_neg (by omega),List.getElem?_append_right (by simp;omega)]
  refine⟨false,?_⟩;simp only[JU,List.length_nil,JV];have e:((k:Int) - 3).toNat=k - (0+1+1+1):=by omega
  rw[e,Co,CQ (by omega)];rfl
def ni:Dp (fun u:Nat=>[eU u]) 1:=fun x=>⟨rfl,fun v hv=>by simp at hv;subst hv;rfl⟩
def yM {α:Type} {a b c d:α}: [a,b,c,d].Perm [b,d,a,c]:=by
 have h1: [a,b,c,d].Perm [b,a,c,d]:= .swap _ _ _;have h2: [a,c,d].Perm [d,a,c]:=NF (l₁:=[a,c]) (l₂:=[d]);exact h1.trans (h2.cons b)
def mo (g:List (List Int)) (f f2:Bool) (c:Int) (hg:Dz g=true) (hc0:0<=c) (hc1:c<3+g.length) :
    BL zP 314 [.l (EF g) f,.l (iL [c]) f2] [] fun r post=> ∃n mm vp vu us M,r= .ret (.t [.p n 0,.b true])/\post=gH n mm vp vu (JZ g) us M/\JO g (3+g.length) M:=by
 intro Z hs;refine As.fit (by kernel_rfl) fun hf=>?_
 have⟨g1,g2⟩:=T9 hf.1;have hM:=Mx;have hG:=D8 hg;have hgl:=hG.1;have hfn:=ae g f;rw[hg]at hfn;have hc2: [c][0]? =some c:=rfl;have hpl:=jP g;refine tQ kZ ?_
 conv=>whnf
 repeat'((first|clear U K|apply st|(apply zk;intro K U)|refine zY ?_|refine hfn.use ?_|fail)<;>conv=>whnf)
 refine Ba 1 (fun k (_:Unit)=>[(20,eI (Au k))]) (fun _ _=>[]) (fun _ _=>True) () rfl trivial hs ?_;clear hs;rintro k - Z hk - hs;have hkk:k=0\/k=1:=by omega
 rcases hkk with rfl|rfl
 .conv=>whnf
  repeat'((first|clear U K|apply st|(apply zk;intro K U)|refine zY ?_|(refine zb (fun hc=>?_) (fun hc=>?_)<;>try exact⟨⟩)|fail)<;>conv=>whnf)
  all_goals try(exfalso;omega)
  exact⟨(),rfl,trivial,hs⟩
 .have hke:1= [c].length:=rfl
  refine zz ?_;(repeat clear U K);repeat intro K U
  rw[show IntKind.i64.wrap (3+((EF g).length:Nat))=((3+g.length:Nat):Int) by rw[Bh,wrap64 (by omega) (by omega)];omega];refine lk (n:=3) hs (by omega) (by omega) fun vp Z hs hv=>?_
  obtain⟨idp,rfl⟩:=hv
  conv=>whnf
  repeat'((first|clear U K|apply st|(apply zk;intro K U)|refine zY ?_|refine zo fun nn hnn Z hs=>?_|fail)<;>conv=>whnf)
  obtain⟨mm,hs⟩: ∃mm,Sat Z [.box nn [.sl idp 3 (3+g.length),.l [] true,.m mm],.map mm [],.own (.sl idp 3 (3+g.length)) 1 (List.replicate 3 [.l [] true])]:=⟨_,hs⟩
  generalize nn=n0 at *;have hgr:=DJ DI g;refine hAppend hs 2 rfl (by simp;omega) hgr.1 hgr.2 fun vp Z hs=>?_
  have hps:List.replicate 3 [.l [] true]++EF g=pL (JZ g):=by simp[pL,JZ,List.replicate,EF]
  rw[hps]at hs;clear hps;have hs1p:=F8 hs 2 rfl
  conv=>whnf
  repeat'((first|clear U K|apply st|(apply zk;intro K U)|refine zY ?_|refine zs fun Z hs=>?_|fail)<;>conv=>whnf)
  replace hs:Sat Z [.box n0 [vp,.l [] true,.m mm],.map mm [],.own vp 1 (pL (JZ g))]:=hs;refine Ba (JZ g).length (fun k (_:V×List Nat)=>[(55,eI (Au k))]) (fun _ x=>[.own x.1 1 (x.2.map fun u=>[eU u]),.box n0 [vp,x.1,.m mm],.map mm [],.own vp 1 (pL (JZ g))]) (fun k x=>x.2.length=k/\ ∀u∈x.2,u<18446744073709551616) (.l [] true,[]) rfl ⟨rfl,fun u hu=>by cases hu⟩ (CM hs 1) ?_;clear hs;rintro k ⟨vu,us⟩ Z hk ⟨hul,hus⟩ hs;dsimp only at hul hus hs;rcases Aw (JZ g) hk with⟨⟨l,lb⟩,hl,hlt⟩|hke2
  .have hck:Au k=k:=AW (by omega)
   obtain⟨b',hpa⟩:=Zy g (k:=k) (by omega);have hle:l=A4 g (k:Int):=by rw[hl]at hpa;exact(Prod.mk.inj (Option.some.inj hpa)).1
   have hll:=C5 hG (k:Int);rw[<-hle]at hll;have hlm: ∀p∈l,3<=p/\p<(k:Int):=fun p hp=>Dh hG (by rw[<-hle];exact hp)
   have hs1:(0|||2 ^ (Au k).toNat)<18446744073709551616:=by
    rw[Nat.zero_or,hck,FZ];exact Ge (by omega)
   have hs1u:=F8 hs 0 rfl;have hl':(JZ g)[(Au k).toNat]? =some (l,lb):=by rw[hck,FZ];exact hl
   conv=>whnf
   repeat'((first|clear U K|apply st|(apply zk;intro K U)|refine zY ?_|refine zs fun Z hs=>?_|refine Pure.use (Vn 0 (Au k) (by decide) (by omega) (by omega)) ?_|refine Pure.use (Vn _ _ (by first|omega|exact hs1) (by omega) (by omega)) ?_|refine zo fun nn hnn Z hs=>?_|fail)<;>conv=>whnf)
   have hs0:(0|||2 ^ (Au k).toNat|||2 ^ Int.toNat 0)<18446744073709551616:=H3 hs1 (by decide);generalize (0|||2 ^ (Au k).toNat|||2 ^ Int.toNat 0)=s0 at *;refine Ba l.length (fun j (_:Nat)=>[(66,eI (Au j))]) (fun _ s=>[.box nn [eU s],.own vu 1 (us.map fun u=>[eU u]),.box n0 [vp,vu,.m mm],.map mm [],.own vp 1 (pL (JZ g))]) (fun _ s=>s<18446744073709551616) s0 rfl hs0 hs ?_;clear hs hs0;rintro j s Z hj hsb hs;rcases Aw l hj with⟨p,hp,hjlt⟩|hje
   .obtain⟨hp3,hpk⟩:=hlm p (BY hp)
    obtain⟨u,hu⟩: ∃u,us[p.toNat]? =some u:=⟨_,CQ (by omega)⟩
    have hub:=hus u (BY hu)
    conv=>whnf
    repeat'((first|clear U K|apply st|(apply zk;intro K U)|refine zY ?_|refine zs fun Z hs=>?_|refine Pure.use (yN _ _ hsb hub) ?_|fail)<;>conv=>whnf)
    exact⟨hjlt,s|||u,rfl,H3 hsb hub,hs⟩
   .refine zz ?_;(repeat clear U K);repeat intro K U
    refine Gt (GJ hs 1 (enc:=fun u:Nat=>[eU u]) (xs:=us) (x:=s) rfl (by omega) ni fun vu' Z hs hsl=>?_);have hs2u:=F8 hs 1 rfl
    conv=>whnf
    repeat'((first|clear U K|apply st|(apply zk;intro K U)|refine zY ?_|refine zs fun Z hs=>?_|fail)<;>conv=>whnf)
    refine⟨hlt,(vu',us++[s]),rfl,⟨by simp[hul],fun u hu=>?_⟩,hs.less (HU _ _)⟩;rcases Du.1 hu with hu|hu
    .exact hus u hu
    .rw[JT.1 hu];exact hsb
  .have hs1u:=F8 hs 0 rfl
   refine zz ?_;(repeat clear U K);repeat intro K U
   replace hs:Sat Z (gH n0 mm vp vu (JZ g) us []):=hs.perm yM;refine Ba (JZ g).length (fun k (_:List Ord)=>[(96,eI (Au k))]) (fun _ M=>gH n0 mm vp vu (JZ g) us M) (fun k M=>JO g k M) [] rfl JO.nil hs ?_;clear hs;rintro k M Z hk hkn hs;rcases Aw (JZ g) hk with⟨⟨l,lb⟩,hl,hlt⟩|hke3
   .have hck:Au k=k:=AW (by omega)
    obtain⟨b',hpa⟩:=Zy g (k:=k) (by omega);have hle:l=A4 g (k:Int):=by rw[hl]at hpa;exact(Prod.mk.inj (Option.some.inj hpa)).1
    have hll:=C5 hG (k:Int);rw[<-hle]at hll;have hlm: ∀p∈l,3<=p/\p<(k:Int):=fun p hp=>Dh hG (by rw[<-hle];exact hp)
    have hlo:=cb hG hkn hll (fun x hx=>by have:=hlm x hx;omega);have hord:=jS n0 mm vp vu (JZ g) us M (Au k) l lb (by omega) (by rw[hck,FZ];exact hl) hll (fun c=>by have:=(Mg hG hkn c).1;omega) (fun e he=>by have:=hkn.keys e he;omega) hlo.1 hlo.2;refine zz ?_;(repeat clear U K);repeat intro K U
    refine hord.use (rest:=[]) (by simpa using hs) ?_;clear hs;rintro r post Z ⟨rfl,M',rfl,hM'⟩ hs;rw[EU]at hs;rw[hck]at hM';refine zz ?_;(repeat clear U K);repeat intro K U
    exact⟨hlt,M',rfl,hkn.step hle (fun p hp=>by have:=hlm p hp;omega) (by omega) hM',hs⟩
   .refine zz ?_;(repeat clear U K);repeat intro K U
    exact Aj hs (List.Sublist.refl _) (.refl _) fun Z' hs'=>⟨_,⟨_,_,_,_,_,_,rfl,rfl,by rw[<-hpl,<-hke3];exact hkn⟩,hs'⟩
def wj {M:List Ord} {c:Int} {Z:AD} {fx:List At} (hs:Sat Z (fx++M.map dt)) (hl:(B8 M c).length<=AZ) (hne:B8 M c≠[]) {k kp:V->AD->Prop} (hk: ∀Z',Sat Z' (fx++M.map dt)->k (.l (iL (B8 M c)) false) Z'):As zP 136 [Jf M c] Z (qk k kp):=by
 rcases P8 M c with⟨h1,h2⟩|⟨j,hj⟩
 .exact absurd h1 hne
 .have hj':(fx++M.map dt)[fx.length+j]? =some (At.own (Jf M c) 1 (iL (B8 M c))):=by
   rw[List.getElem?_append_right (by omega),Nat.add_sub_cancel_left,hj]
  have hcl:BL zP 136 [Jf M c] [.own (Jf M c) 1 (iL (B8 M c))] fun r post=>r= .ret (.l (iL (B8 M c)) false)/\post= [.own (Jf M c) 1 (iL (B8 M c))]:=by
   clear hk hj' hj;generalize Jf M c=v at *;generalize B8 M c=l at *;intro Z hs;refine gm kZ ?_;have hgr:=DJ Bg l
   have hend: ∀ {Z:AD} {w u:V},Sat Z [.own w 1 (iL l),.own u 1 (iL l)]->Af Z w fun r Z'=> ∃post,(r= .ret (.l (iL l) false)/\post= [.own u 1 (iL l)])/\Sat Z' post:=fun hs=>by
    obtain⟨Z2,h1,h2,h3⟩:=Gb hs 0 rfl;exact Ft h1 h2 ⟨_,⟨rfl,rfl⟩,h3⟩
   have hM:=Mx;rcases hs.get (i:=0) rfl with⟨rfl,_⟩|⟨n,cap,rfl,hn⟩
   .conv=>whnf
    repeat'((first|clear U K|apply st|(apply zk;intro K U)|fail)<;>conv=>whnf)
    refine⟨fun e=>absurd (List.map_eq_nil_iff.1 e) hne,fun _=>?_⟩;refine zz ?_;(repeat clear U K);repeat intro K U
    replace hs:=CM hs 1;refine PJ hs 0 1 rfl rfl (by simp;omega) hgr.1 hgr.2 fun w Z hs=>?_
    refine zz ?_;(repeat clear U K);repeat intro K U
    exact hend hs
   .refine zz ?_;(repeat clear U K);repeat intro K U
    replace hs:=CM hs 1;refine PJ hs 0 1 rfl rfl (by simp;omega) hgr.1 hgr.2 fun w Z hs=>?_
    refine zz ?_;(repeat clear U K);repeat intro K U
    exact hend hs
  refine hcl.o8 (Φ:=fun r=>r= .ret (.l (iL (B8 M c)) false)) hs hj' ?_;rintro r Z' rfl hs';exact hk Z' hs'
def sR (g:List (List Int)) (f:Bool) (c:Int) (hg:Dz g=true) (hc0:0<=c) (hc1:c<3+g.length) :
    Pure zP 290 [.l (EF g) f,eI c] (if((B6 g).getD c.toNat []).isEmpty then .t [.l [] true,eI 7]else .t [.l (iL ((B6 g).getD c.toNat [])) false,eI 0]):=by
 have hop:=mo g f true c hg hc0 hc1;refine th kZ ?_;have hs:=Sn;have hM:=Mx;have hG:=D8 hg
 conv=>whnf
 repeat'((first|clear U K|apply st|(apply zk;intro K U)|fail)<;>conv=>whnf)
 refine hop.use (rest:=[]) hs ?_;clear hs;rintro r post Z ⟨n,mm,vp,vu,us,M,rfl,rfl,hkn⟩ hs;rw[EU]at hs;have hol:=(Mg hG hkn c).1;have hor:=hkn.eQ c hc0 (by omega);by_cases hne:B8 M c= []
 .have hl0:(B8 M c).length=0:=by rw[hne];rfl
  conv=>whnf
  repeat'((first|clear U K|apply st|(apply zk;intro K U)|refine zY ?_|refine lkO ?_|refine P9 (fx:=_::_::_::_:: []) hs (by omega) ?_|(refine zb (fun hc=>?_) (fun hc=>?_)<;>try exact⟨⟩)|fail)<;>conv=>whnf)
  all_goals try(exfalso;omega)
  rw[<-hor,hne];exact AF rfl
 .have hl0:0<(B8 M c).length:=List.length_pos_iff.2 hne
  conv=>whnf
  repeat'((first|clear U K|apply st|(apply zk;intro K U)|refine zY ?_|refine lkO ?_|refine P9 (fx:=_::_::_::_:: []) hs (by omega) ?_|(refine zb (fun hc=>?_) (fun hc=>?_)<;>try exact⟨⟩)|fail)<;>conv=>whnf)
  all_goals try(exfalso;omega)
  refine wj (fx:=_::_::_::_:: []) hs (by omega) hne fun Z hs=>?_
  refine zz ?_;(repeat clear U K);repeat intro K U
  rw[<-hor]
  have:(B8 M c).isEmpty=false:=by
   cases h:(B8 M c).isEmpty
   .rfl
   .exact absurd (List.isEmpty_iff.1 h) hne
  rw[this];exact AF rfl
def CS (w:AE):Prop:=JI w.parents/\w.owner.length<=40/\ ∀o∈w.owner,(3:Int)<=o/\o<3+(w.parents.length:Int)
def Ti (us:List Nat) (l:List Int) (s:Nat):Nat:=l.foldl (fun s c=>s|||us.getD c.toNat 0) s
def Bk (g:List (List Int)):Nat->List Nat
 | 0=>[1,3,5]
 | k+1=>Bk g k++[Ti (Bk g k) (g.getD k []) (1|||2 ^ (3+k))]
def BR (g:List (List Int)):List Nat:=Bk g g.length
def lX (us:List Nat):List V:=us.map eU++List.replicate (63 - us.length) (eU 0)
def wC (w:AE) (us:List Nat):List V:=Ax w++lX us
def Dc (g:List (List Int)): ∀k,(Bk g k).length=3+k
 | 0=>rfl
 | k+1=>by simp[Bk,Dc g k];omega
def fX (w:AE) {us:List Nat} (h:us.length<=63):(wC w us).length=65:=by
 simp only[wC,Ax,lX,Kt,JU,List.length_nil,Bh,List.length_replicate];omega
def fW (w:AE) (us:List Nat) (s:Nat) (h:us.length<63):(wC w us).set (2+us.length) (eU s)=wC w (us++[s]):=by
 simp only[wC,lX];rw[List.set_append_right _ _ (by simp[Ax])];congr 1;have e:2+us.length - (Ax w).length=us.length:=by simp[Ax]
 rw[e,List.set_append_right _ _ (by simp)];rw[Bh,Nat.sub_self,ND,NJ];congr 1;rw[show 63 - us.length=(63 - (us++[s]).length)+1 by simp;omega,List.replicate_succ];rfl
def o7 (w:AE) (us:List Nat) {i:Nat} (h:i<us.length):(wC w us)[2+i]? =some (eU (us.getD i 0)):=by
 simp only[wC,lX];rw[List.getElem?_append_right (by simp[Ax]),show 2+i - (Ax w).length=i by simp[Ax],Xm (by simpa using h),JV,CQ h,Co,CQ h];rfl
def qN (us:List Nat):Prop:= ∀u∈us,u<18446744073709551616
def T0 {us:List Nat} (h:qN us) (i:Nat):us.getD i 0<18446744073709551616:=by
 rw[Co];cases hx:us[i]? with
 | none=>simp
 | some x=>exact h x (BY hx)
def O6 {us:List Nat} (h:qN us): ∀(l:List Int) (s:Nat),s<18446744073709551616->Ti us l s<18446744073709551616
 | [],_,hs=>hs
 | c::r,s,hs=>O6 h r _ (H3 hs (T0 h _))
def Gi (g:List (List Int)): ∀k,k<=60->qN (Bk g k)
 | 0,_=>by intro u hu;simp[Bk]at hu;omega
 | k+1,hk=>by
   intro u hu;simp only[Bk,Du,JT]at hu;rcases hu with hu|rfl
   .exact Gi g k (by omega) u hu
   .exact O6 (Gi g k (by omega)) _ _ (H3 (by decide) (Ge (by omega)))
def rl (w:AE) (us:List Nat) (c:Int) {n:Nat} (hM:w.parents.length<=60):BL zP 181 [.p n 0,eI c] [.box n (wC w us)] fun r post=>r= .ret (.b (decide (3<=c)&&decide (c<3+(w.parents.length:Int))))/\post= [.box n (wC w us)]:=by
 intro Z hs;have hw:IntKind.i64.wrap (3+((EF w.parents).length:Nat))=3+(w.parents.length:Int):=by rw[Bh,wrap64 (by omega) (by omega)]
 refine vK kZ ?_
 conv=>whnf
 repeat'((first|clear U K|apply st|(apply zk;intro K U)|refine zY ?_|refine za (fun hc=>?_) fun hc=>?_|fail)<;>conv=>whnf)
 .refine AH ⟨_,⟨?_,rfl⟩,hs⟩
  rw[hw,decide_eq_true (show 3<=c by omega)];rfl
 .refine AH ⟨_,⟨?_,rfl⟩,hs⟩
  rw[decide_eq_false (show¬3<=c by omega)];rfl
def kH (w:AE) (us:List Nat) (c:Int) (hM:w.parents.length<=60):Pure zP 232 [.rp (wC w us),eI c] (.b (R3 w c)):=by
 have hw:IntKind.i64.wrap (3+((EF w.parents).length:Nat))=3+(w.parents.length:Int):=by rw[Bh,wrap64 (by omega) (by omega)]
 refine ua kZ ?_;have hs:=Sn
 conv=>whnf
 repeat'((first|clear U K|apply st|(apply zk;intro K U)|refine zY ?_|refine za (fun hc=>?_) fun hc=>?_|fail)<;>conv=>whnf)
 .refine AF ?_
  rw[hw,R3,decide_eq_true (show 0<=c by omega)];rfl
 .refine AF ?_
  rw[R3,decide_eq_false (show¬0<=c by omega)];rfl
def mM (w:AE) (us:List Nat) (c:Int) (hM:w.owner.length<=60):Pure zP 274 [.rp (wC w us),eI c] (.b (JE w c)):=by
 refine tn kZ ?_;have hs:=Sn
 conv=>whnf
 repeat'((first|clear U K|apply st|(apply zk;intro K U)|refine zY ?_|refine za (fun hc=>?_) fun hc=>?_|fail)<;>conv=>whnf)
 .refine AF ?_
  rw[JE,decide_eq_true (show 0<=c by omega),Bh];rfl
 .refine AF ?_
  rw[JE,decide_eq_false (show¬0<=c by omega)];rfl
def mf (w:AE) (us:List Nat) (l:List Int) (f:Bool) (hM:w.owner.length<=60):Pure zP 231 [.rp (wC w us),.l (iL l) f] (.b (Ex w l)):=by
 have hall:=oh (g:=274) (fi:=[.rp (wC w us)]) (ca:=[]) (f:=JE w) (xs:=l) f (fun y _=>mM w us y hM);refine ub kZ ?_;have hs:=Sn
 conv=>whnf
 repeat'((first|clear U K|apply st|(apply zk;intro K U)|refine zY ?_|refine zC ?_|(refine zd (fun hc=>?_) (fun hc=>?_)<;>try exact⟨⟩)|fail)<;>conv=>whnf)
 .refine AF ?_
  rw[Ex,decide_eq_true (show l.length<=2 by omega),Bool.and_true];rfl
 .refine AF ?_
  rw[Ex,decide_eq_false (show¬l.length<=2 by omega),Bool.and_false];rfl
def IA (s:Nat) (c:Int) (hs0:s<18446744073709551616) (h0:0<=c) (hc:c<64):Pure zP 179 [eU s,eI c] (eU (s|||2 ^ c.toNat)):=by
 have:=Zj s c.toNat hs0 (by omega);rw[Int.toNat_of_nonneg h0]at this;exact this
def up3 {k:Nat} (h:k<3):([1,3,5]:List Nat).take k++[1|||2 ^ k]= [1,3,5].take (k+1):=by
 rcases k with _|_|_|k
 .rfl
 .rfl
 .rfl
 .omega
def mq (w : AE) (hw:CS w):Pure zP 118 [.a (Ax w)] (.t [.rp (wC w (BR w.parents)),.b true]):=by
 obtain⟨⟨hl,hrow⟩,ho,how⟩:=hw;have hM:=Mx;refine Pure.of ?_;refine wT kZ ?_;have hs:=Sn;have hi1:((EF w.parents).length:Int)<=60:=by rw[Bh];omega
 have hi2:((iL w.owner).length:Int)<=40:=by rw[Bh];omega
 conv=>whnf
 repeat'((first|clear U K|apply st|(apply zk;intro K U)|refine zY ?_|(refine zb (fun hc=>?_) (fun hc=>?_)<;>try exact⟨⟩)|refine zo fun nn hnn Z hs=>?_|fail)<;>conv=>whnf)
 generalize nn=n0 at *;refine Ba 3 (fun k (_:Unit)=>[(24,eI (Au k))]) (fun k _=>[.box n0 (wC w ([1,3,5].take k))]) (fun k _=>True) () rfl trivial hs ?_;clear hs;rintro k - Z hk - hs;have hck:Au k=k:=AW (by omega);have hlen:(([1,3,5]:List Nat).take k).length=k:=by simp;omega
 by_cases hlt:k<3
 .have hst:=fW w ([1,3,5].take k) (1|||2 ^ k) (by omega)
  rw[hlen,up3 hlt]at hst
  conv=>whnf
  repeat'((first|clear U K|apply st|(apply zk;intro K U)|refine zY ?_|refine Pure.use (IA 1 _ (by decide) (by omega) (by omega)) ?_|(refine zb (fun hc=>?_) (fun hc=>?_)<;>try exact⟨⟩)|fail)<;>conv=>whnf)
  refine MO hs 0 rfl rfl (by rw[fX w (by omega)];omega) fun Z hs=>?_
  refine zz ?_;(repeat clear U K);repeat intro K U
  refine⟨hlt,(),rfl,trivial,?_⟩;rw[hck,FZ,Nat.mul_one,G7]at hs;simp only[List.set_cons_zero]at hs;rw[hst]at hs;exact hs
 .have hke:k=3:=by omega
  subst hke;clear hk hck hlen hlt
  conv=>whnf
  repeat'((first|clear U K|apply st|(apply zk;intro K U)|refine zY ?_|(refine zb (fun hc=>?_) (fun hc=>?_)<;>try exact⟨⟩)|fail)<;>conv=>whnf)
  refine Ba w.parents.length (fun k (_:Unit)=>[(38,eI (Au k))]) (fun k _=>[.box n0 (wC w (Bk w.parents k))]) (fun k _=>True) () rfl trivial hs ?_;clear hs;rintro k - Z hk - hs;have hck:Au k=k:=AW (by omega);have hul:=Dc w.parents k;have huo:=Gi w.parents k (by omega);have hw3:IntKind.i64.wrap (3+(k:Int))=3+(k:Int):=wrap64 (by omega) (by omega);rcases Aw w.parents hk with⟨row,hr,hlt⟩|hke
  .obtain⟨r1,r2,r3⟩:=hrow k row hr
   rw[<-hck]at hw3
   conv=>whnf
   repeat'((first|clear U K|apply st|(apply zk;intro K U)|refine zY ?_|refine Pure.use (IA 1 _ (by decide) (by omega) (by omega)) ?_|fail)<;>conv=>whnf)
   have hbig:qN (Bk w.parents k):=huo;have hst0:IntKind.i64.wrap (3+Au k)=3+(k:Int):=by rw[hck];exact wrap64 (by omega) (by omega)
   have hs0lt:1|||2 ^ (3+k)<18446744073709551616:=H3 (by decide) (Ge (by omega))
   have hs0e:1|||2 ^ (IntKind.i64.wrap (3+Au k)).toNat=1|||2 ^ (3+k):=by rw[hst0,show(3+(k:Int)).toNat=3+k by omega]
   rw[hs0e];refine Ba row.length (fun j (s:Nat)=>[(48,eI (Au j)),(8,eU s)]) (fun _ _=>[.box n0 (wC w (Bk w.parents k))]) (fun j s=>s=Ti (Bk w.parents k) (row.take j) (1|||2 ^ (3+k))) (1|||2 ^ (3+k)) rfl rfl hs ?_;clear hs;rintro j s Z hj hse hs;rcases Aw row hj with⟨c,hcj,hjlt⟩|hje
   .obtain⟨q1,q2⟩:=r3 c (BY hcj)
    have hload:(wC w (Bk w.parents k))[0+2+c.toNat*1]? =some (eU ((Bk w.parents k).getD c.toNat 0)):=by
     have:=o7 w (Bk w.parents k) (i:=c.toNat) (by omega);rw[<-this];congr 1;omega
    have hnc:(row.take j).contains c=false:=by
     rw[<-Bool.not_eq_true,List.contains_iff_mem];intro hm;obtain⟨i,hi,he⟩:=List.mem_iff_getElem.1 hm;have hi':i<j:=by rw[Ib]at hi;omega
     rw[List.getElem_take]at he;have hcj':=(JA.1 hcj).2;exact absurd ((List.getElem_inj r2).1 (he.trans hcj'.symm)) (by omega)
    have hct: ∀b,Pure zP 11 [.l (iL (row.take j)) b,eI c] (.b false):=fun b=>by
     have:=CP (row.take j) b c
     rwa [hnc]at this
    conv=>whnf
    repeat'((first|clear U K|apply st|(apply zk;intro K U)|refine zY ?_|refine Pure.use (hct _) ?_|(rw[hload])|(refine zb (fun hc=>?_) (fun hc=>?_)<;>try exact⟨⟩)|fail)<;>conv=>whnf)
    refine⟨hjlt,s|||(Bk w.parents k).getD c.toNat 0,?_,?_,hs⟩
    .have hsl:s<18446744073709551616:=by rw[hse];exact O6 huo _ _ hs0lt
     rw[HP hsl (T0 huo _)];rfl
    .rw[hse,AO hcj]
     simp only[Ti,List.foldl_append];rfl
   .refine zz ?_;(repeat clear U K);repeat intro K U
    refine MO hs 0 rfl rfl (by rw[fX w (by omega),hst0];omega) fun Z hs=>?_
    refine zz ?_;(repeat clear U K);repeat intro K U
    refine⟨hlt,(),rfl,trivial,?_⟩
    have e:Bk w.parents (k+1)=Bk w.parents k++[s]:=by
     rw[hse,Bk,Co,hr,hje,List.take_length];rfl
    have hst:=fW w (Bk w.parents k) s (by omega);rw[e,<-hst];have e2:0+2+(IntKind.i64.wrap (3+Au k)).toNat*1=2+(Bk w.parents k).length:=by rw[hst0,hul];omega
    rw[e2]at hs;exact hs
  .have hown:=iE 181 [.p n0 0] [] (fun _=>[.box n0 (wC w (Bk w.parents k))]) (VZ fun c=>decide (3<=c)&&decide (c<3+(w.parents.length:Int))) (fun _ _=>True) (fun y s _ Z hs=>A6 (As.mono (rl w (Bk w.parents k) y (by omega) Z hs) (by
    rintro r Z' ⟨post,⟨h1,h2⟩,h3⟩;subst h2
    exact⟨h1,h3⟩))) w.owner false () (Hf fun _ _ _=>trivial)
   rw[Kr]at hown
   have hall:(w.owner.all fun c=>decide (3<=c)&&decide (c<3+(w.parents.length:Int)))=true:=by
    rw[DT];intro o hoo;have:=how o hoo;simp only[A7,CF];exact this
   rw[hall]at hown;refine zz ?_;(repeat clear U K);repeat intro K U
   refine hown.use (rest:=[]) hs ?_;rintro r post Z ⟨rfl,rfl⟩ hs;refine zz ?_;(repeat clear U K);repeat intro K U
   rw[hke]at hs;exact Ft (Z2:=emp) (fun n o ho=>by cases ho) (.t (.cons (hs.eY 0 rfl (.refl _ _ _)) (.cons (.refl _) .nil))) rfl
abbrev VB (w:AE) (us:List Nat) (L:Nat):V:= .rp [.rp (wC w us),.m L]
def K1 (es es':List Bx):Prop:= ∃new:List Bx,es'=es++new/\ ∀x∈new,x.k=k0
def K1.refl (es:List Bx):K1 es es:=⟨[],by simp,by simp⟩
def K1.trans {a b c:List Bx} (h1:K1 a b) (h2:K1 b c):K1 a c:=by
 obtain⟨x,rfl,hx⟩:=h1;obtain⟨y,rfl,hy⟩:=h2;refine⟨x++y,by simp,fun z hz=>?_⟩;rcases Du.1 hz with h|h
 .exact hx z h
 .exact hy z h
def K1.mem {a b:List Bx} (h:K1 a b) {e:Bx} (he:e∈a):e∈b:=by
 obtain⟨x,rfl,_⟩:=h;exact NK _ he
structure l5 (kf:Int->List Int->Kn) (es es':List Bx) (a:Int) (p:List Int) (e:Bx):Prop where
 inv:Bp kf es'
 ext:K1 es es'
 mem:e∈es'
 is:e.is a p=true
def l5.k {kf:Int->List Int->Kn} {es es':List Bx} {a:Int} {p:List Int} {e:Bx} (h:l5 kf es es' a p e):e.k=kf a p:=by
 have:=h.inv.val e h.mem;obtain⟨h1,h2⟩:=Gg.1 h.is;rw[this,h1,h2]
def Nb {Z:AD} {l:List At} (h:Sat Z l) (i:Nat) {n:Nat} {kvs:List (V×V)} {ks:KS} {z vk:V} {ok:Bool} {o:Option V} (hi:l[i]? =some (.map n kvs)) (hk:Bf ks vk=true) (hks: ∀kv∈kvs,Bf ks kv.1=true) (hf:Cs vk kvs=o) {K:V->Prop} (h':K (found z ok o)) :
    AM Z ks z ok (.m n) vk K:=HN h i hi hk hks (hf ▸ h')
def MD (w:AE) (us:List Nat) {kf:Int->List Int->Kn} {L:Nat} {es:List Bx} (h:Bp kf es) {a:Int} {p:List Int} (hp:p.length<=2) :
    BL zP 134 [VB w us L,CC a p] (CD L es) fun r post=> ∃es' e,l5 kf es es' a p e/\r= .ret (.p e.b 0)/\post=CD L es':=by
 intro Z hs;refine oL kZ ?_;unfold CD at hs;rcases fB a p es with hn|⟨pre,e,post,rfl,he,hpre⟩
 .have hf:=QS hp h.len hn
  conv=>whnf
  repeat'((first|clear U K|apply st|(apply zk;intro K U)|refine zY ?_|refine Nb hs 0 rfl rfl (II _) hf ?_|refine HM hs 1 rfl rfl (II _) fun Z hs=>?_|refine zo fun nn hnn Z hs=>?_|fail)<;>conv=>whnf)
  simp only[List.set_cons_succ,List.set_cons_zero]at hs;change Sat Z (_:: .map L (Dy (CC a p) (.p nn 0) (Tf es))::_)at hs;rw[YA hp nn (.l [] true) (.l [] true) k0 h.len hn]at hs;have hs2:=CM (CM hs 1) 1;refine AH ⟨_,⟨es++[⟨a,p,nn,.l [] true,.l [] true,k0⟩],⟨a,p,nn,.l [] true,.l [] true,k0⟩,⟨h.add hp hn _ _ _,⟨_,rfl,by simp⟩,by simp,by simp[Bx.is]⟩,rfl,rfl⟩,?_⟩;unfold CD;rw[List.flatMap_append,List.flatMap_cons,List.flatMap_nil,EU];refine hs2.perm ((List.perm_middle (l₁:=[_,_,_])).trans (.cons _ (NF.trans (List.Perm.append_left _ (List.reverse_perm _).symm))))
 .have hf:=QR hp he h.len hpre
  conv=>whnf
  repeat'((first|clear U K|apply st|(apply zk;intro K U)|refine zY ?_|refine Nb hs 0 rfl rfl (II _) hf ?_|fail)<;>conv=>whnf)
  exact AH ⟨_,⟨_,e,⟨h,.refl _,by simp,he⟩,rfl,rfl⟩,hs⟩
def PF (a:Int) (p:List Int) (s:Int) (hp:p.length<2):Pure zP 135 [CC a p,eI s] (CC a (p++[s])):=by
 refine wF kZ ?_;have hs:=Sn
 match p,hp with
 | [],_=>
   exact zW
 | [x],_=>
   exact zW
def xA {b:Nat} {vn vs:V} {k:Kn} (f:Fact) (c:Bool) (hl:f.op=2\/f.op=3\/f.op=4) (hc:f.op=2->0<=f.cls/\f.cls<64) (hm:k.BJ<18446744073709551616) (hn:k.Dv<18446744073709551616) (hno:k.no.length<1000000) (hN: -1000000000<=f.n/\f.n<=1000000000) :
    BL zP 191 [.p b 0,.a (xF f++[.b c])] (qs b vn vs k) fun r post=>r= .ret (.t [])/\ ∃vn',post=qs b vn' vs (Bs k f c):=by
 intro Z hs;have hM:=Mx;refine vC kZ ?_;rw[show xF f++[V.b c]= [eI f.op,eI f.arg,.l (iL f.path) false,eI f.cls,eI f.n,.l (f.kids.map EY) false,.b c] from rfl];have hw:IntKind.i64.wrap (f.n - 1)=f.n - 1:=wrap64 (by omega) (by omega);cases c<;>rcases hl with h2|h3|h4
 .have hE:Bs k f false= {k with BJ:=k.BJ|||2 ^ f.cls.toNat}:=by rw[Bs,if_pos h2,if_neg Bool.false_ne_true]
  rw[hE]
  conv=>whnf
  repeat'((first|clear U K|apply st|(apply zk;intro K U)|refine zY ?_|refine zs fun Z hs=>?_|refine Pure.use (IA _ _ hm (by omega) (by omega)) ?_|(refine zb (fun hc=>?_) (fun hc=>?_)<;>try exact⟨⟩)|fail)<;>conv=>whnf)
  exact AH ⟨_,⟨rfl,vn,rfl⟩,hs⟩
 .have hE:Bs k f false= {k with high:=if f.n - 1<k.high then f.n - 1 else k.high,whole:=true}:=by rw[Bs,if_neg (by omega),if_pos h3,if_neg Bool.false_ne_true]
  rw[hE]
  conv=>whnf
  repeat'((first|clear U K|apply st|(apply zk;intro K U)|refine zY ?_|refine zs fun Z hs=>?_|(refine zb (fun hc=>?_) (fun hc=>?_)<;>try exact⟨⟩)|fail)<;>conv=>whnf)
  rw[hw]at hs;exact AH ⟨_,⟨rfl,vn,rfl⟩,hs⟩
 .have hE:Bs k f false= {k with low:=if f.n > k.low then f.n else k.low,high:=if f.n<k.high then f.n else k.high,whole:=true}:=by rw[Bs,if_neg (by omega),if_neg (by omega),if_neg Bool.false_ne_true]
  rw[hE]
  conv=>whnf
  repeat'((first|clear U K|apply st|(apply zk;intro K U)|refine zY ?_|refine rk ?_ ?_|exact fun s e=>by cases e;rfl|refine zs fun Z hs=>?_|(refine zb (fun hc=>?_) (fun hc=>?_)<;>try exact⟨⟩)|fail)<;>conv=>whnf)
  exact AH ⟨_,⟨rfl,vn,rfl⟩,hs⟩
 .have hE:Bs k f true= {k with Dv:=k.Dv|||2 ^ f.cls.toNat}:=by rw[Bs,if_pos h2,if_pos rfl]
  rw[hE]
  conv=>whnf
  repeat'((first|clear U K|apply st|(apply zk;intro K U)|refine zY ?_|refine zs fun Z hs=>?_|refine Pure.use (IA _ _ hn (by omega) (by omega)) ?_|(refine zb (fun hc=>?_) (fun hc=>?_)<;>try exact⟨⟩)|fail)<;>conv=>whnf)
  exact AH ⟨_,⟨rfl,vn,rfl⟩,hs⟩
 .have hE:Bs k f true= {k with low:=if f.n > k.low then f.n else k.low}:=by rw[Bs,if_neg (by omega),if_pos h3,if_pos rfl]
  rw[hE]
  conv=>whnf
  repeat'((first|clear U K|apply st|(apply zk;intro K U)|refine zY ?_|refine zs fun Z hs=>?_|(refine zb (fun hc=>?_) (fun hc=>?_)<;>try exact⟨⟩)|fail)<;>conv=>whnf)
  exact AH ⟨_,⟨rfl,vn,rfl⟩,hs⟩
 .have hE:Bs k f true= {k with no:=k.no++[f.n]}:=by rw[Bs,if_neg (by omega),if_neg (by omega),if_pos rfl]
  rw[hE]
  conv=>whnf
  repeat'((first|clear U K|apply st|(apply zk;intro K U)|refine zY ?_|refine zs fun Z hs=>?_|refine aq fun v Z hs hsl=>?_|(refine zb (fun hc=>?_) (fun hc=>?_)<;>try exact⟨⟩)|fail)<;>conv=>whnf)
  exact AH ⟨_,⟨rfl,_,rfl⟩,hs⟩
end Go.Gl
namespace Go.Gl
open Go.Proofs
def ep {Z:AD} {α:Type} {enc:α->List V} {xs:List α} {f:Bool} {sz:Nat} {ki:IntKind} {j:Int} {K:V->AD->Prop} (h:K (.l ((xs.drop j.toNat).map enc) f) Z) (h0:0<=j) (h1:j<=xs.length) (hs: ∀x,(enc x).length=sz) :
    AP Z sz (.l (xs.map enc) f) (some (.i ki j)) none none K:=by
 unfold AP;refine⟨fun e he=>?_,?_⟩
 .obtain⟨x,_,rfl⟩:=GL.1 he
  exact hs x
 .simp only[OD,Bh]
  refine⟨by omega,by omega,by omega,?_⟩;rw[List.take_of_length_le (by simp)];simpa[List.map_drop]using h
attribute [local irreducible] As Af AV AQ AI AU AP AR AJ AT AM AN Ag Ar Sat AS Ap AX W
abbrev ov (T:List (List Bool)):V:= .l (T.map fun r=>[.l (bL r) false]) false
def Dl (T:List (List Bool)) (m n:Int):Bool:=(T.getD m.toNat []).getD n.toNat false
structure JX (T:List (List Bool)) (l:List Int):Prop where
 len:T.length<=16
 sq: ∀r∈T,r.length=T.length
 ins: ∀x∈l,0<=x/\x<(T.length:Int)
 many:l.length<=16
def pA {T:List (List Bool)} {l:List Int} (h:JX T l) {m n:Int} (hm:0<=m/\m<(T.length:Int)) (hn:0<=n/\n<(T.length:Int)): ∃r,T[m.toNat]? =some r/\r[n.toNat]? =some (Dl T m n):=by
 have h1:m.toNat<T.length:=by omega
 refine⟨T[m.toNat],CQ h1,?_⟩;have h2:=h.sq T[m.toNat] (List.getElem_mem h1);have h3:n.toNat<T[m.toNat].length:=by omega
 rw[CQ h3];simp only[Dl,Co,CQ h1,Option.getD_some,CQ h3]
def Qq (l:List Int) (f:Bool) (i:Nat) (ha:i<l.length) (hl:l.length<=16):Pure zP 271 [.l (iL l) f,eI (i:Int)] (.l (iL (l.eraseIdx i)) false):=by
 have hM:=Mx;refine tr kZ ?_;have hs:=Sn
 conv=>whnf
 repeat'((first|clear U K|apply st|(apply zk;intro K U)|refine zY ?_|(rw[wrap64 (by omega) (by omega)];refine ep ?_ (by omega) (by omega) fun _=>rfl)|fail)<;>conv=>whnf)
 replace hs:=Ce hs 1;refine EH hs 0 (xs:=[]) (ys:=l.take (i:Int).toNat) rfl (by simp;omega) Bg fun v Z hs=>?_
 refine zz ?_;(repeat clear U K);repeat intro K U
 refine EH hs 0 (xs:=[]++l.take (i:Int).toNat) (ys:=l.drop ((i:Int)+1).toNat) rfl (by simp;omega) Bg fun v Z hs=>?_
 refine zz ?_;(repeat clear U K);repeat intro K U
 have e: []++l.take (i:Int).toNat++l.drop ((i:Int)+1).toNat=l.eraseIdx i:=by
  rw[List.eraseIdx_eq_take_drop_succ,List.nil_append,FZ,show((i:Int)+1).toNat=i+1 by omega]
 rw[e]at hs;exact AY (hs.Ic 0 rfl)
def HV (A:Int->Int->Bool) (l:List Int) (i k:Nat):Bool:=(List.range k).all fun j=>j==i||A (l.getD i 0) (l.getD j 0)
def El (A:Int->Int->Bool) (l:List Int):Option Nat:=(List.range l.length).find? fun i=>HV A l i l.length
def Nd (A:Int->Int->Bool) (l:List Int):Int:=match El A l with|some i=>i|none=> -1
def Sa (A:Int->Int->Bool) (l:List Int) (i k:Nat):HV A l i (k+1)=(HV A l i k&&(k==i||A (l.getD i 0) (l.getD k 0))):=by
 rw[HV,List.range_succ,List.all_append,HV];simp
def B5 {l:List Int} {k:Nat} {x:Int} (h:l[k]? =some x):l.getD k 0=x:=by rw[Co,h];rfl
def dM {A:Int->Int->Bool} {l:List Int} {i:Nat} (h:El A l=some i):i<l.length:=by
 have:=List.mem_of_find?_eq_some h;simpa using this
def j5 {A:Int->Int->Bool} {l:List Int} {i:Nat} (hi:i<l.length) (h:HV A l i l.length=true) (hn: ∀j,j<i->HV A l j l.length=false):Nd A l=i:=by
 have:El A l=some i:=by
  rw[El,List.find?_range_eq_some];exact⟨h,List.mem_range.2 hi,fun j hj=>by rw[hn j hj];rfl⟩
 rw[Nd,this]
def Y4 {A:Int->Int->Bool} {l:List Int} (hn: ∀j,j<l.length->HV A l j l.length=false):Nd A l= -1:=by
 have:El A l=none:=by
  rw[El,List.find?_range_eq_none];exact fun j hj=>by rw[hn j hj];rfl
 rw[Nd,this]
def j6 (T : List (List Bool)) (l:List Int) (f:Bool) (h:JX T l):Pure zP 270 [ov T,.l (iL l) f] (eI (Nd (Dl T) l)):=by
 have hM:=Mx;have hm:=h.many;have hT:=h.len;refine ts kZ ?_;have hs:=Sn;refine zz ?_;(repeat clear U K);repeat intro K U
 refine Ba l.length (fun i (_:Unit)=>[(5,eI (Au i))]) (fun _ _=>[]) (fun i _=> ∀j,j<i->HV (Dl T) l j l.length=false) () rfl (fun j hj=>by omega) hs ?_;clear hs;rintro i - Z hi hn hs;rcases Aw l hi with⟨x,hx,hlt⟩|hie
 .have hxi:=h.ins x (BY hx)
  refine zz ?_;(repeat clear U K);repeat intro K U
  refine Ba l.length (fun k (b:Bool)=>[(6,.b b),(7,eI (Au k))]) (fun _ _=>[]) (fun k b=>b=HV (Dl T) l i k) true rfl rfl hs ?_;clear hs;rintro k b Z hk hb hs;rcases Aw l hk with⟨y,hy,hklt⟩|hke
  .have hyi:=h.ins y (BY hy)
   obtain⟨r,hr,hry⟩:=pA h hxi hyi;have hsu:=Sa (Dl T) l i k;rw[B5 hx,B5 hy,<-hb]at hsu;have hci:Au i=i:=AW (by omega);have hck:Au k=k:=AW (by omega);have hrl:=h.sq r (BY hr);cases b
   .refine zz ?_;(repeat clear U K);repeat intro K U
    exact⟨hklt,false,rfl,(hsu.trans (by simp)).symm,hs⟩
   .by_cases hki:k=i
    .conv=>whnf
     repeat'((first|clear U K|apply st|(apply zk;intro K U)|refine zY ?_|(refine zb (fun hc=>?_) (fun hc=>?_)<;>try exact⟨⟩)|fail)<;>conv=>whnf)
     exact⟨hklt,true,rfl,(hsu.trans (by simp[hki])).symm,hs⟩
    .conv=>whnf
     repeat'((first|clear U K|apply st|(apply zk;intro K U)|refine zY ?_|(refine zb (fun hc=>?_) (fun hc=>?_)<;>try exact⟨⟩)|fail)<;>conv=>whnf)
     exact⟨hklt,Dl T x y,rfl,(hsu.trans (by simp[hki])).symm,hs⟩
  .conv=>whnf
   repeat'((first|clear U K|apply st|(apply zk;intro K U)|refine zY ?_|refine za (fun hc=>?_) fun hc=>?_|fail)<;>conv=>whnf)
   .exact AF (by rw[j5 hlt (by rw[<-hke,<-hb,hc]) hn,AW (by omega)])
   .refine⟨hlt,(),rfl,fun j hj=>?_,hs⟩
    rcases Nat.lt_or_ge j i with h'|h'
    .exact hn j h'
    .rw[show j=i by omega,<-hke,<-hb,hc]
 .refine zz ?_;(repeat clear U K);repeat intro K U
  exact AF (by rw[Y4 fun j hj=>hn j (by omega)])
def BW (A:Int->Int->Bool):Nat->List Int->List Int×Bool
 | 0,_=>([],false)
 | k+1,l=>match El A l with
   | none=>([],!l.isEmpty)
   | some i=>(l.getD i 0::(BW A k (l.eraseIdx i)).1,(BW A k (l.eraseIdx i)).2)
def JX.less {T:List (List Bool)} {l:List Int} (h:JX T l) (i:Nat):JX T (l.eraseIdx i):=
 ⟨h.len,h.sq,fun x hx=>h.ins x (List.mem_of_mem_eraseIdx hx),Nat.le_trans (List.length_eraseIdx_le _ _) h.many⟩
def Wn (T:List (List Bool)) (l:List Int) (f:Bool) (h:JX T l):Pure zP 225 [ov T,.l (iL l) f] (.t [.l (iL (BW (Dl T) l.length l).1) false,.b (BW (Dl T) l.length l).2]):=by
 have hM:=Mx;refine ug kZ ?_;have hs:=Sn;refine zz ?_;(repeat clear U K);repeat intro K U
 refine DD (fun(x:List Int×Bool×V×List Int)=>x.1.length) (fun x=>[(1,.l (iL x.1) x.2.1),(6,x.2.2.1)]) (fun x=>[.own x.2.2.1 1 (iL x.2.2.2)])
  (fun x=>JX T x.1/\x.2.2.2.length+x.1.length<=16/\BW (Dl T) l.length l=(x.2.2.2++(BW (Dl T) x.1.length x.1).1,(BW (Dl T) x.1.length x.1).2)) (l,f,.l [] true,[]) rfl ⟨h,by simpa using h.many,by simp⟩ (Ce hs 1) ?_
 clear hs;rintro⟨l',f',v,out⟩ Z ⟨ho,hlen,hm⟩ hs;dsimp only at ho hlen hm hs;dsimp only;have c1:=j6 T l' f' ho;have hll:out.length<AZ/\(out.length+1)*8<=140737488355328:=by omega
 by_cases hz:l'.length=0
 .conv=>whnf
  repeat'((first|clear U K|apply st|(apply zk;intro K U)|refine zY ?_|(refine zb (fun hc=>?_) (fun hc=>?_)<;>try exact⟨⟩)|fail)<;>conv=>whnf)
  rw[hz]at hm;simp only[BW,EU]at hm;rw[hm];exact AY (.t (.cons (hs.Ic 0 rfl) (.cons (.refl _) .nil)))
 .rw[Nd]at c1
  obtain⟨n,hn⟩: ∃n,l'.length=n+1:=⟨l'.length - 1,by omega⟩
  have hne:l'.isEmpty=false:=by cases l' with
   | nil=>simp at hz
   | cons=>rfl
  rw[hn,BW]at hm;cases hfo:El (Dl T) l' with
  | none=>
    rw[hfo]at c1 hm;dsimp only at c1 hm
    conv=>whnf
    repeat'((first|clear U K|apply st|(apply zk;intro K U)|refine zY ?_|refine zC ?_|(refine zb (fun hc=>?_) (fun hc=>?_)<;>try exact⟨⟩)|fail)<;>conv=>whnf)
    rw[hm,hne,EU];exact AY (.t (.cons (hs.Ic 0 rfl) (.cons (.refl _) .nil)))
  | some i=>
    rw[hfo]at c1 hm;dsimp only at c1 hm;have hi:=dM hfo;have c2:=Qq l' f' i hi ho.many;obtain⟨x,hx⟩: ∃x,l'[i]? =some x:=⟨_,CQ hi⟩
    have hel:=List.length_eraseIdx_of_lt hi;rw[B5 hx]at hm
    conv=>whnf
    repeat'((first|clear U K|apply st|(apply zk;intro K U)|refine zY ?_|refine aq fun v Z hs hsl=>?_|refine zC ?_|(refine zb (fun hc=>?_) (fun hc=>?_)<;>try exact⟨⟩)|fail)<;>conv=>whnf)
    refine⟨(l'.eraseIdx i,false,v,out++[x]),by dsimp only;omega,rfl,⟨ho.less i,by simp;omega,?_⟩,hs⟩;dsimp only;rw[hm,hel,show l'.length - 1=n by omega];simp
end Go.Gl
namespace Go.Gl
variable {P:Program} {Z:AD}
def xL {L:Nat} {args:List V} {Q:R->AD->Prop} (h:Oy P L args Z Q):Ag P (.f (.yield L) [] []) args Z Q:=h
def XC {L:Nat} {E:Env} {ps:List Nat} {a b:Ao} {args:List V} {l:List At} (hl:args.length=ps.length) (hs:Sat Z (.obj L (.loop .ready E (Bi P ps a b))::l)) {Q:R->AD->Prop}
    (h: ∀Z,Sat Z l->W P a (CZ (W P b fun ex env' Z'=>Z' L=none->P4 L E (Bi P ps a b) Q ex env' Z')) (Jx ps args E) Z):Oy P L args Z Q:=
 Ll (hs.get (i:=0) rfl) hl (h _ hs.del)
end Go.Gl
namespace Go.Gl
open Go.Proofs
attribute [local irreducible] As Af AV AQ AI AU AP AR AJ AT AM AN Ag Ar Sat AS Ap AX W
end Go.Gl
