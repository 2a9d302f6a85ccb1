import Derived.Shelf.Sort.Plain
import Derived.Test.YtegbmnmnaijioaaGreatProg
import Derived.Test.YtegbmnmnaijioaaGreatL7
set_option linter.all false
set_option linter.defProp false
noncomputable section
namespace Go.Gl
open Go.Proofs
attribute [local irreducible] As Am Ac AQ AM Ab AP AR AL Aa AN AO Ao Ax Sat AW Au Ad W
def jw (s c:Nat) (hs0:s<18446744073709551616) (hc:c<64):Pure Tryz.prog 366 [.a [eU s],eI c] (.a [eU (s|||2 ^ c)]):=by
 refine rM kZ ?_;have hs:=Sn
 conv=>whnf
 repeat'((first|apply st|(apply sq;intro K U)|(apply si;intro A B Y Z)|(apply Y;clear Z B Y A)|(apply U;clear U K)|apply dr|refine⟨rfl,?_⟩|refine⟨kZ,?_⟩|refine WY ?_|refine ld ?_|refine EK fun σ hs=>?_|refine Di fun σ hs=>?_|refine⟨Int.natCast_nonneg _,?_⟩|(intro nn hnn;generalize hg:A6 _ nn _=σ;refine Ci hg fun hs=>?_;clear hg)|fail)<;>conv=>whnf)
 refine AS ?_;simp only[Hd,Sy hc,GX hs0 (F1 hc)];rfl
def vQ (s t:Nat) (hs0:s<18446744073709551616) (ht0:t<18446744073709551616):Pure Tryz.prog 367 [.a [eU s],.a [eU t]] (.a [eU (s|||t)]):=by
 refine rL kZ ?_;have hs:=Sn
 conv=>whnf
 repeat'((first|apply st|(apply sq;intro K U)|(apply si;intro A B Y Z)|(apply Y;clear Z B Y A)|(apply U;clear U K)|refine⟨rfl,?_⟩|refine⟨kZ,?_⟩|refine WY ?_|refine iar ?_|refine ld ?_|refine EK fun σ hs=>?_|refine Di fun σ hs=>?_|(intro nn hnn;generalize hg:A6 _ nn _=σ;refine Ci hg fun hs=>?_;clear hg)|fail)<;>conv=>whnf)
 refine AS ?_;simp only[GX hs0 ht0];rfl
def Ul (s:Nat) (c:Int) (hs0:s<18446744073709551616) (h0:0<=c) (hc:c<64):Pure Tryz.prog 366 [.a [eU s],eI c] (.a [eU (s|||2 ^ c.toNat)]):=by
 have:=jw s c.toNat hs0 (by omega);rw[Int.toNat_of_nonneg h0]at this;exact this
def G8 {a b:Nat} (ha:a<18446744073709551616) (hb:b<18446744073709551616):a|||b<18446744073709551616:=by
 have:=Nat.or_lt_two_pow (n:=64) (x:=a) (y:=b) (by simpa using ha) (by simpa using hb);simpa using this
def IK (g:List (List Int)):List (List Int×Bool):=[([],true),([],true),([],true)]++g.map fun l=>(l,false)
def gj (g:List (List Int)):(IK g).length=3+g.length:=by simp[IK];omega
def Yu (g:List (List Int)) {k:Nat} (hk:k<3+g.length): ∃b,(IK g)[k]? =some (BY g (k:Int),b):=by
 unfold IK BY;by_cases h3:k<3
 .rw[if_pos (by omega),jO (by simpa using h3)]
  refine⟨true,?_⟩;rcases k with _|_|_|k
  .rfl
  .rfl
  .rfl
  .omega
 .rw[if_neg (by omega),List.getElem?_append_right (by simp;omega)]
  refine⟨false,?_⟩;simp only[Lz,List.length_nil,P8];have e:((k:Int) - 3).toNat=k - (0+1+1+1):=by omega
  rw[e,Ds,ES (by omega)];rfl
def lr:FI (fun u:Nat=>[eU u]) 1:=fun x=>⟨rfl,fun v hv=>by simp at hv;subst hv;rfl⟩
def vP {α:Type} {a b c d:α}: [a,b,c,d].Perm [b,d,a,c]:=by
 have h1: [a,b,c,d].Perm [b,a,c,d]:= .swap _ _ _;have h2: [a,c,d].Perm [d,a,c]:=Np (l₁:=[a,c]) (l₂:=[d]);exact h1.trans (h2.cons b)
set_option maxHeartbeats 4000000 in
def k7 (g:List (List Int)) (f f2:Bool) (c:Int) (hg:FJ g=true) (hc0:0<=c) (hc1:c<3+g.length) :
    BK Tryz.prog 353 [.l (JY g) f,.l (iL [c]) f2] [] fun r post=> ∃n mm vp vu us M,r= .ret (.t [.p n 0,.b true])/\post=gH n mm vp vu (IK g) us M/\IF g (3+g.length) M:=by
 intro σ hs;refine As.fit (by kernel_rfl) fun hf=>?_
 have⟨g1,g2⟩:=fE hf.1;have hM:=Mx;have hG:=EH hg;have hgl:=hG.1;have hfn:=ZL g f;rw[hg]at hfn;have hc2: [c][0]? =some c:=rfl;have hpl:=gj g;refine rN kZ ?_
 conv=>whnf
 repeat'((first|apply st|(apply sq;intro K U)|(apply si;intro A B Y Z)|(apply Y;clear Z B Y A)|(apply U;clear U K)|refine Es ?_|refine hfn.use ?_|fail)<;>conv=>whnf)
 refine D3 1 (fun k (_:Unit)=>[(20,eI (Bq k))]) (fun _ _=>[]) (fun _ _=>True) () rfl trivial hs ?_;clear hs;rintro k - σ hk - hs;have hkk:k=0\/k=1:=by omega
 rcases hkk with rfl|rfl
 .conv=>whnf
  repeat'((first|apply st|(apply sq;intro K U)|(apply si;intro A B Y Z)|(apply Y;clear Z B Y A)|(apply U;clear U K)|refine⟨rfl,?_⟩|refine⟨kZ,?_⟩|refine ix ?_|(refine DV (fun hc=>?_)<;>(try rw[hc])<;>clear hc)|(constructor<;>intro hc<;>(try rw[hc])<;>(replace hc:=bp hc)<;>(try simp(disch:=omega) only[Bu,wrap64,AV]at hc)<;>try(exfalso;omega))|clear U K)<;>conv=>whnf)
  all_goals try(exfalso;omega)
  exact⟨(),rfl,trivial,hs⟩
 .have hke:1= [c].length:=rfl
  conv=>whnf
  repeat'((first|apply st|(apply sq;intro K U)|(apply si;intro A B Y Z)|(apply Y;clear Z B Y A)|(apply U;clear U K)|refine⟨rfl,?_⟩|(refine EZ (fun hc=>?_)<;>(try rw[hc])<;>clear hc)|clear U K)<;>conv=>whnf)
  rw[show IntKind.i64.wrap (3+((JY g).length:Nat))=((3+g.length:Nat):Int) by rw[Bu,wrap64 (by omega) (by omega)];omega];refine uz (n:=3) hs (by omega) (by omega) fun vp σ hs hv=>?_
  obtain⟨idp,rfl⟩:=hv
  conv=>whnf
  repeat'((first|(apply sq;intro K U)|(apply si;intro A B Y Z)|(apply Y;clear Z B Y A)|(apply U;clear U K)|refine ld ?_|(intro nn hnn;generalize hg:A6 _ nn _=σ;refine Ci hg fun hs=>?_;clear hg)|fail)<;>conv=>whnf)
  obtain⟨mm,hs⟩: ∃mm,Sat σ [.box nn [.sl idp 3 (3+g.length),.l [] true,.m mm],.map mm [],.own (.sl idp 3 (3+g.length)) 1 (List.replicate 3 [.l [] true])]:=⟨_,hs⟩
  generalize nn=n0 at *;have hgr:=EN Ir g;refine hAppend hs 2 rfl (by simp;omega) hgr.1 hgr.2 fun vp σ hs=>?_
  have hps:List.replicate 3 [.l [] true]++JY g=pL (IK g):=by simp[pL,IK,List.replicate,JY]
  rw[hps]at hs;clear hps;have hs1p:=IS hs 2 rfl
  conv=>whnf
  repeat'((first|apply st|(apply sq;intro K U)|(apply si;intro A B Y Z)|(apply Y;clear Z B Y A)|(apply U;clear U K)|refine lo ?_|refine ld ?_|refine EK fun σ hs=>?_|fail)<;>conv=>whnf)
  replace hs:Sat σ [.box n0 [vp,.l [] true,.m mm],.map mm [],.own vp 1 (pL (IK g))]:=hs;refine D3 (IK g).length (fun k (_:V×List Nat)=>[(55,eI (Bq k))]) (fun _ x=>[.own x.1 1 (x.2.map fun u=>[eU u]),.box n0 [vp,x.1,.m mm],.map mm [],.own vp 1 (pL (IK g))]) (fun k x=>x.2.length=k/\ ∀u∈x.2,u<18446744073709551616) (.l [] true,[]) rfl ⟨rfl,fun u hu=>by cases hu⟩ (DQ hs 1) ?_;clear hs;rintro k ⟨vu,us⟩ σ hk ⟨hul,hus⟩ hs;dsimp only at hul hus hs;rcases BM (IK g) hk with⟨⟨l,lb⟩,hl,hlt⟩|hke2
  .have hck:Bq k=k:=AV (by omega)
   obtain⟨b',hpa⟩:=Yu g (k:=k) (by omega);have hle:l=BY g (k:Int):=by rw[hl]at hpa;exact(Prod.mk.inj (Option.some.inj hpa)).1
   have hll:=Gv hG (k:Int);rw[<-hle]at hll;have hlm: ∀p∈l,3<=p/\p<(k:Int):=fun p hp=>FD hG (by rw[<-hle];exact hp)
   have hs1:(0|||2 ^ (Bq k).toNat)<18446744073709551616:=by
    rw[Nat.zero_or,hck,Hd];exact F1 (by omega)
   have hs1u:=IS hs 0 rfl;have hl':(IK g)[(Bq k).toNat]? =some (l,lb):=by rw[hck,Hd];exact hl
   conv=>whnf
   repeat'((first|apply st|(apply sq;intro K U)|(apply si;intro A B Y Z)|(apply Y;clear Z B Y A)|(apply U;clear U K)|refine⟨rfl,?_⟩|refine Di fun σ hs=>?_|refine oi ?_|refine uS ?_|(refine DV (fun hc=>?_)<;>(try rw[hc])<;>clear hc)|refine Pure.use (Ul 0 (Bq k) (by decide) (by omega) (by omega)) ?_|refine Pure.use (Ul _ _ (by first|omega|exact hs1) (by omega) (by omega)) ?_|(intro nn hnn;generalize hg:A6 _ nn _=σ;refine Ci hg fun hs=>?_;clear hg)|fail)<;>conv=>whnf)
   have hs0:(0|||2 ^ (Bq k).toNat|||2 ^ Int.toNat 0)<18446744073709551616:=G8 hs1 (by decide);generalize (0|||2 ^ (Bq k).toNat|||2 ^ Int.toNat 0)=s0 at *;refine D3 l.length (fun j (_:Nat)=>[(66,eI (Bq j))]) (fun _ s=>[.box nn [eU s],.own vu 1 (us.map fun u=>[eU u]),.box n0 [vp,vu,.m mm],.map mm [],.own vp 1 (pL (IK g))]) (fun _ s=>s<18446744073709551616) s0 rfl hs0 hs ?_;clear hs hs0;rintro j s σ hj hsb hs;rcases BM l hj with⟨p,hp,hjlt⟩|hje
   .obtain⟨hp3,hpk⟩:=hlm p (Dm hp)
    obtain⟨u,hu⟩: ∃u,us[p.toNat]? =some u:=⟨_,ES (by omega)⟩
    have hub:=hus u (Dm hu)
    conv=>whnf
    repeat'((first|apply st|(apply sq;intro K U)|(apply si;intro A B Y Z)|(apply Y;clear Z B Y A)|(apply U;clear U K)|apply dr|refine⟨rfl,?_⟩|refine⟨kZ,?_⟩|refine ix ?_|refine ld ?_|refine Di fun σ hs=>?_|refine oi ?_|refine uS ?_|(refine DV (fun hc=>?_)<;>(try rw[hc])<;>clear hc)|refine Pure.use (vQ _ _ hsb hub) ?_|clear U K)<;>conv=>whnf)
    exact⟨hjlt,s|||u,rfl,G8 hsb hub,hs⟩
   .conv=>whnf
    repeat'((first|apply st|(apply sq;intro K U)|(apply si;intro A B Y Z)|(apply Y;clear Z B Y A)|(apply U;clear U K)|apply dr|refine⟨rfl,?_⟩|refine⟨kZ,?_⟩|refine ld ?_|(refine EZ (fun hc=>?_)<;>(try rw[hc])<;>clear hc)|clear U K)<;>conv=>whnf)
    refine Hu (YU hs 1 (enc:=fun u:Nat=>[eU u]) (xs:=us) (x:=s) rfl (by omega) lr fun vu' σ hs hsl=>?_);have hs2u:=IS hs 1 rfl
    conv=>whnf
    repeat'((first|(apply si;intro A B Y Z)|(apply Y;clear Z B Y A)|(apply U;clear U K)|apply dr|refine⟨rfl,?_⟩|refine EK fun σ hs=>?_|clear U K)<;>conv=>whnf)
    refine⟨hlt,(vu',us++[s]),rfl,⟨by simp[hul],fun u hu=>?_⟩,hs.less (Mz _ _)⟩;rcases Dr.1 hu with hu|hu
    .exact hus u hu
    .rw[My.1 hu];exact hsb
  .have hs1u:=IS hs 0 rfl
   conv=>whnf
   repeat'((first|apply st|(apply sq;intro K U)|(apply si;intro A B Y Z)|(apply Y;clear Z B Y A)|(apply U;clear U K)|refine⟨rfl,?_⟩|refine lo ?_|refine ld ?_|(refine EZ (fun hc=>?_)<;>(try rw[hc])<;>clear hc)|clear U K)<;>conv=>whnf)
   replace hs:Sat σ (gH n0 mm vp vu (IK g) us []):=hs.perm vP;refine D3 (IK g).length (fun k (_:List Ord)=>[(96,eI (Bq k))]) (fun _ M=>gH n0 mm vp vu (IK g) us M) (fun k M=>IF g k M) [] rfl IF.nil hs ?_;clear hs;rintro k M σ hk hkn hs;rcases BM (IK g) hk with⟨⟨l,lb⟩,hl,hlt⟩|hke3
   .have hck:Bq k=k:=AV (by omega)
    obtain⟨b',hpa⟩:=Yu g (k:=k) (by omega);have hle:l=BY g (k:Int):=by rw[hl]at hpa;exact(Prod.mk.inj (Option.some.inj hpa)).1
    have hll:=Gv hG (k:Int);rw[<-hle]at hll;have hlm: ∀p∈l,3<=p/\p<(k:Int):=fun p hp=>FD hG (by rw[<-hle];exact hp)
    have hlo:=bE hG hkn hll (fun x hx=>by have:=hlm x hx;omega);have hord:=gm n0 mm vp vu (IK g) us M (Bq k) l lb (by omega) (by rw[hck,Hd];exact hl) hll (fun c=>by have:=(LP hG hkn c).1;omega) (fun e he=>by have:=hkn.keys e he;omega) hlo.1 hlo.2
    conv=>whnf
    repeat'((first|apply st|(apply sq;intro K U)|(apply si;intro A B Y Z)|(apply Y;clear Z B Y A)|(apply U;clear U K)|refine⟨rfl,?_⟩|(refine DV (fun hc=>?_)<;>(try rw[hc])<;>clear hc)|fail)<;>conv=>whnf)
    refine hord.use (rest:=[]) (by simpa using hs) ?_;clear hs;rintro r post σ ⟨rfl,M',rfl,hM'⟩ hs;rw[Ep]at hs;rw[hck]at hM'
    conv=>whnf
    repeat'((first|(apply si;intro A B Y Z)|(apply Y;clear Z B Y A)|(apply U;clear U K)|refine⟨rfl,?_⟩|clear U K)<;>conv=>whnf)
    exact⟨hlt,M',rfl,hkn.step hle (fun p hp=>by have:=hlm p hp;omega) (by omega) hM',hs⟩
   .conv=>whnf
    repeat'((first|apply st|(apply sq;intro K U)|(apply si;intro A B Y Z)|(apply Y;clear Z B Y A)|(apply U;clear U K)|refine⟨rfl,?_⟩|(refine EZ (fun hc=>?_)<;>(try rw[hc])<;>clear hc)|clear U K)<;>conv=>whnf)
    exact A4 hs (List.Sublist.refl _) (.refl _) fun σ' hs'=>⟨_,⟨_,_,_,_,_,_,rfl,rfl,by rw[<-hpl,<-hke3];exact hkn⟩,hs'⟩
def tu {M:List Ord} {c:Int} {σ:AH} {fx:List At} (hs:Sat σ (fx++M.map cb)) (hl:(B4 M c).length<=Ay) (hne:B4 M c≠[]) {k kp:V->AH->Prop} (hk: ∀σ',Sat σ' (fx++M.map cb)->k (.l (iL (B4 M c)) false) σ'):As Tryz.prog 200 [IQ M c] σ (qk k kp):=by
 rcases Ot M c with⟨h1,h2⟩|⟨j,hj⟩
 .exact absurd h1 hne
 .have hj':(fx++M.map cb)[fx.length+j]? =some (At.own (IQ M c) 1 (iL (B4 M c))):=by
   rw[List.getElem?_append_right (by omega),Nat.add_sub_cancel_left,hj]
  have hcl:BK Tryz.prog 200 [IQ M c] [.own (IQ M c) 1 (iL (B4 M c))] fun r post=>r= .ret (.l (iL (B4 M c)) false)/\post= [.own (IQ M c) 1 (iL (B4 M c))]:=by
   clear hk hj' hj;generalize IQ M c=v at *;generalize B4 M c=l at *;intro σ hs;refine fT kZ ?_;have hgr:=EN Eg l
   have hend: ∀ {σ:AH} {w u:V},Sat σ [.own w 1 (iL l),.own u 1 (iL l)]->Am σ w fun r σ'=> ∃post,(r= .ret (.l (iL l) false)/\post= [.own u 1 (iL l)])/\Sat σ' post:=fun hs=>by
    obtain⟨σ2,h1,h2,h3⟩:=Ji hs 0 rfl;exact JC h1 h2 ⟨_,⟨rfl,rfl⟩,h3⟩
   have hM:=Mx;rcases hs.get (i:=0) rfl with⟨rfl,_⟩|⟨n,cap,rfl,hn⟩
   .conv=>whnf
    repeat'((first|(apply sq;intro K U)|(apply si;intro A B Y Z)|(apply Y;clear Z B Y A)|(apply U;clear U K)|fail)<;>conv=>whnf)
    refine⟨fun e=>absurd (List.map_eq_nil_iff.1 e) hne,fun _=>?_⟩
    conv=>whnf
    repeat'((first|apply st|(apply sq;intro K U)|(apply si;intro A B Y Z)|(apply Y;clear Z B Y A)|(apply U;clear U K)|fail)<;>conv=>whnf)
    replace hs:=DQ hs 1;refine ZB hs 0 1 rfl rfl (by simp;omega) hgr.1 hgr.2 fun w σ hs=>?_
    conv=>whnf
    repeat'((first|apply st|(apply Y;clear Z B Y A)|(apply U;clear U K)|fail)<;>conv=>whnf)
    exact hend hs
   .conv=>whnf
    repeat'((first|apply st|(apply sq;intro K U)|(apply si;intro A B Y Z)|(apply Y;clear Z B Y A)|(apply U;clear U K)|fail)<;>conv=>whnf)
    replace hs:=DQ hs 1;refine ZB hs 0 1 rfl rfl (by simp;omega) hgr.1 hgr.2 fun w σ hs=>?_
    conv=>whnf
    repeat'((first|apply st|(apply Y;clear Z B Y A)|(apply U;clear U K)|fail)<;>conv=>whnf)
    exact hend hs
  refine hcl.nU (Φ:=fun r=>r= .ret (.l (iL (B4 M c)) false)) hs hj' ?_;rintro r σ' rfl hs';exact hk σ' hs'
def qb (g:List (List Int)) (f:Bool) (c:Int) (hg:FJ g=true) (hc0:0<=c) (hc1:c<3+g.length) :
    Pure Tryz.prog 324 [.l (JY g) f,eI c] (if((Dc g).getD c.toNat []).isEmpty then .t [.l [] true,eI 7]else .t [.l (iL ((Dc g).getD c.toNat [])) false,eI 0]):=by
 have hop:=k7 g f true c hg hc0 hc1;refine rZ kZ ?_;have hs:=Sn;have hM:=Mx;have hG:=EH hg
 conv=>whnf
 repeat'((first|(apply sq;intro K U)|(apply si;intro A B Y Z)|(apply Y;clear Z B Y A)|(apply U;clear U K)|fail)<;>conv=>whnf)
 refine hop.use (rest:=[]) hs ?_;clear hs;rintro r post σ ⟨n,mm,vp,vu,us,M,rfl,rfl,hkn⟩ hs;rw[Ep]at hs;have hol:=(LP hG hkn c).1;have hor:=hkn.dD c hc0 (by omega);by_cases hne:B4 M c= []
 .have hl0:(B4 M c).length=0:=by rw[hne];rfl
  conv=>whnf
  repeat'((first|apply st|(apply sq;intro K U)|(apply si;intro A B Y Z)|(apply Y;clear Z B Y A)|(apply U;clear U K)|refine⟨rfl,?_⟩|refine ld ?_|refine Es ?_|refine xA ?_|refine Ou (fx:=_::_::_::_:: []) hs (by omega) ?_|(constructor<;>intro hc<;>(try rw[hc])<;>(replace hc:=bp hc)<;>try(exfalso;omega))|clear U K)<;>conv=>whnf)
  all_goals try(exfalso;omega)
  rw[<-hor,hne];exact AS rfl
 .have hl0:0<(B4 M c).length:=List.length_pos_iff.2 hne
  conv=>whnf
  repeat'((first|apply st|(apply sq;intro K U)|(apply si;intro A B Y Z)|(apply Y;clear Z B Y A)|(apply U;clear U K)|refine⟨rfl,?_⟩|refine ld ?_|refine Es ?_|refine xA ?_|refine Ou (fx:=_::_::_::_:: []) hs (by omega) ?_|(constructor<;>intro hc<;>(try rw[hc])<;>(replace hc:=bp hc)<;>try(exfalso;omega))|fail)<;>conv=>whnf)
  all_goals try(exfalso;omega)
  refine tu (fx:=_::_::_::_:: []) hs (by omega) hne fun σ hs=>?_
  conv=>whnf
  repeat'((first|apply st|(apply Y;clear Z B Y A)|(apply U;clear U K)|fail)<;>conv=>whnf)
  rw[<-hor]
  have:(B4 M c).isEmpty=false:=by
   cases h:(B4 M c).isEmpty
   .rfl
   .exact absurd (List.isEmpty_iff.1 h) hne
  rw[this];exact AS rfl
def ig (xs:List Int) (f:Bool):Pure Tryz.prog 200 [.l (iL xs) f] (.l (iL xs) false):=by
 refine Pure.fit (by kernel_rfl) fun hf=>?_
 have hxl:=Sd hf.1;have hM:=Mx;refine fT kZ ?_;have hs:=Sn
 conv=>whnf
 repeat'((first|(apply sq;intro K U)|(apply si;intro A B Y Z)|(apply Y;clear Z B Y A)|(apply U;clear U K)|fail)<;>conv=>whnf)
 refine⟨fun e t=>?_,fun _=>?_⟩
 .have hx:xs= []:=List.map_eq_nil_iff.1 e
  subst hx
  conv=>whnf
  repeat'((first|apply st|(apply sq;intro K U)|(apply si;intro A B Y Z)|(apply Y;clear Z B Y A)|(apply U;clear U K)|(constructor<;>intro hc<;>(try rw[hc])<;>(replace hc:=bp hc))|clear U K)<;>conv=>whnf)
  .exact B3 TI
  .replace hs:=DQ hs 1
   refine OV hs 0 (xs:=[]) (ys:=[]) rfl (by simp) Eg fun v σ hs=>?_
   conv=>whnf
   repeat'((first|apply st|(apply Y;clear Z B Y A)|(apply U;clear U K)|fail)<;>conv=>whnf)
   exact PL hs 0 rfl rfl
 .conv=>whnf
  repeat'((first|apply st|(apply sq;intro K U)|(apply si;intro A B Y Z)|(apply Y;clear Z B Y A)|(apply U;clear U K)|fail)<;>conv=>whnf)
  replace hs:=DQ hs 1;refine OV hs 0 (xs:=[]) (ys:=xs) rfl (by simp;omega) Eg fun v σ hs=>?_
  conv=>whnf
  repeat'((first|apply st|(apply Y;clear Z B Y A)|(apply U;clear U K)|fail)<;>conv=>whnf)
  exact PL hs 0 rfl rfl
def qC (c:QA):Pure Tryz.prog 290 [.a (UC c)] (.l (iL c.parents) false):=by
 refine r9 kZ ?_;have hs:=Sn
 conv=>whnf
 repeat'((first|apply st|(apply sq;intro K U)|(apply si;intro A B Y Z)|(apply Y;clear Z B Y A)|(apply U;clear U K)|refine Pure.use (ig _ _) ?_|fail)<;>conv=>whnf)
 exact AS rfl
def mh (xs:List (List Int)) (v:V) (hl:xs.length<=Ay):BK Tryz.prog 329 [v] [.own v 1 (JY xs)] fun r post=>r= .ret (.l (JY xs) true)/\post= []:=by
 intro σ hs;have hg:=EN Ir xs;refine rV kZ ?_
 conv=>whnf
 repeat'((first|(apply sq;intro K U)|(apply si;intro A B Y Z)|(apply Y;clear Z B Y A)|(apply U;clear U K)|refine lo ?_|fail)<;>conv=>whnf)
 refine oG (i:=0) hs rfl hg.1 (by simpa using hl) fun σ hs=>?_
 conv=>whnf
 repeat'((first|apply st|(apply Y;clear Z B Y A)|(apply U;clear U K)|fail)<;>conv=>whnf)
 exact A4 hs (List.Sublist.refl _) (.refl _) fun σ' hs'=>⟨_,⟨rfl,rfl⟩,hs'⟩
def On (xs:List Int) (v:V) (hl:xs.length<=Ay):BK Tryz.prog 242 [v] [.own v 1 (iL xs)] fun r post=>r= .ret (.l (iL xs) true)/\post= []:=by
 intro σ hs;have hg:=EN Eg xs;refine fR kZ ?_
 conv=>whnf
 repeat'((first|(apply sq;intro K U)|(apply si;intro A B Y Z)|(apply Y;clear Z B Y A)|(apply U;clear U K)|refine lo ?_|fail)<;>conv=>whnf)
 refine oG (i:=0) hs rfl hg.1 (by simpa using hl) fun σ hs=>?_
 conv=>whnf
 repeat'((first|apply st|(apply Y;clear Z B Y A)|(apply U;clear U K)|fail)<;>conv=>whnf)
 exact A4 hs (List.Sublist.refl _) (.refl _) fun σ' hs'=>⟨_,⟨rfl,rfl⟩,hs'⟩
def mP (cs:List QA) (hl:cs.length<=1000000):Pure Tryz.prog 289 [.l (cs.map UC) false,.f (.func 290) [] []] (.l (JY (cs.map (·.parents))) false):=by
 have hM:=Mx;refine sA kZ ?_;have hs:=Sn
 conv=>whnf
 repeat'((first|apply st|(apply sq;intro K U)|(apply si;intro A B Y Z)|(apply Y;clear Z B Y A)|(apply U;clear U K)|fail)<;>conv=>whnf)
 refine D3 cs.length (fun k v=>[(5,v),(10,eI (Bq k))]) (fun k v=>[.own v 1 (JY ((cs.take k).map (·.parents)))]) (fun _ _=>True) (.l [] true) rfl trivial (DQ hs 1) ?_;clear hs;rintro k v σ hk - hs;rcases BM cs hk with⟨c,hc,hlt⟩|hke
 .conv=>whnf
  repeat'((first|apply st|(apply sq;intro K U)|(apply si;intro A B Y Z)|(apply Y;clear Z B Y A)|(apply U;clear U K)|refine⟨rfl,?_⟩|refine⟨kZ,?_⟩|refine ix ?_|refine ld ?_|refine Di fun σ hs=>?_|(refine DV (fun hc=>?_)<;>(try rw[hc])<;>clear hc)|(intro nn hnn;generalize hg:A6 _ nn _=σ;refine Ci hg fun hs=>?_;clear hg)|fail)<;>conv=>whnf)
  refine BD ((qC c).use ?_)
  conv=>whnf
  repeat'((first|(apply si;intro A B Y Z)|(apply Y;clear Z B Y A)|(apply U;clear U K)|refine⟨rfl,?_⟩|refine aq fun v σ hs hsl=>?_|clear U K)<;>conv=>whnf)
  exact⟨hlt,_,rfl,trivial,by rw[Ar hc,YF];exact hs.less (Mz _ _)⟩
 .rw[CJ hke]at hs
  conv=>whnf
  repeat'((first|apply st|(apply sq;intro K U)|(apply si;intro A B Y Z)|(apply Y;clear Z B Y A)|(apply U;clear U K)|refine⟨rfl,?_⟩|(refine EZ (fun hc=>?_)<;>(try rw[hc])<;>clear hc)|clear U K)<;>conv=>whnf)
  refine(mh (cs.map (·.parents)) v (by simp;omega)).use (rest:=[]) hs ?_;clear hs;rintro r post σ ⟨rfl,rfl⟩ hs
  conv=>whnf
  repeat'((first|apply st|(apply Y;clear Z B Y A)|(apply U;clear U K)|fail)<;>conv=>whnf)
  exact B3 dh
def LX (p:Prog) (hk0:p.AZ.length<=1000):Pure Tryz.prog 223 [.a (Ba p)] (.l (JY (BG p)) false):=by
 refine Pure.fit (by kernel_rfl) fun hf=>?_
 have F:=UU hf.1;refine sj kZ ?_;have hs:=Sn
 conv=>whnf
 repeat'((first|apply st|(apply sq;intro K U)|(apply si;intro A B Y Z)|(apply Y;clear Z B Y A)|(apply U;clear U K)|fail)<;>conv=>whnf)
 refine(mP p.AZ (by omega)).use ?_
 conv=>whnf
 repeat'((first|apply st|(apply Y;clear Z B Y A)|(apply U;clear U K)|fail)<;>conv=>whnf)
 exact AS rfl
def Uk (p:Prog) (hk0:p.AZ.length<=1000) (hm:CX p.AZ<=Ay):Pure Tryz.prog 151 [.a (Ba p)] (.a (CW (AT p))):=by
 refine Pure.fit (by kernel_rfl) fun hf=>?_
 have F:=UU hf.1;have hcl:=F.1;have hM:=Mx;refine tV kZ ?_;have hs:=Sn
 conv=>whnf
 repeat'((first|apply st|(apply sq;intro K U)|(apply si;intro A B Y Z)|(apply Y;clear Z B Y A)|(apply U;clear U K)|refine⟨kZ,?_⟩|refine Di fun σ hs=>?_|refine Pure.use (LX _ hk0) ?_|(intro nn hnn;generalize hg:A6 _ nn _=σ;refine Ci hg fun hs=>?_;clear hg)|fail)<;>conv=>whnf)
 rename_i n2 _ _ _ _ _
 rename Nat=>n3
 replace hs:Sat σ [.box n3 [.l (JY (BG p)) false,.l [] true],.box n2 [.l [] true,.l [] true]]:=hs;refine D3 p.AZ.length (fun k (_:V)=>[(12,eI (Bq k))]) (fun k v=>[.own v 1 (iL (BR 0 (p.AZ.take k))),.box n3 [.l (JY (BG p)) false,v],.box n2 [.l [] true,.l [] true]]) (fun _ _=>True) (.l [] true) rfl trivial (DQ hs 1) ?_;clear hs;rintro k v σ hk - hs;rcases BM p.AZ hk with⟨c,hc,hlt⟩|hke
 .have hcm:=F.2 c (Dm hc)
  have htk:=Xn hc;have hck:Bq k=k:=AV (by omega)
  have hap:BR 0 (p.AZ.take (k+1))=BR 0 (p.AZ.take k)++List.replicate c.AI.length ((k:Int)+3):=by
   rw[Ar hc,Nk];have:(p.AZ.take k).length=k:=by simp;omega
   rw[this];simp[BR]
  have hol:=DH 0 (p.AZ.take k);have hw3:IntKind.i64.wrap (Bq k+3)=(k:Int)+3:=by rw[hck,wrap64 (by omega) (by omega)]
  have hcs:=hcm.2.1;generalize BR 0 (p.AZ.take k)=os at *
  conv=>whnf
  repeat'((first|apply st|(apply sq;intro K U)|(apply si;intro A B Y Z)|(apply Y;clear Z B Y A)|(apply U;clear U K)|refine⟨rfl,?_⟩|refine⟨kZ,?_⟩|refine ix ?_|refine ld ?_|refine Di fun σ hs=>?_|(refine DV (fun hc=>?_)<;>(try rw[hc])<;>clear hc)|(intro nn hnn;generalize hg:A6 _ nn _=σ;refine Ci hg fun hs=>?_;clear hg)|fail)<;>conv=>whnf)
  refine D3 c.AI.length (fun j (_:V)=>[(20,eI (Bq j))]) (fun j v=>[.own v 1 (iL (os++List.replicate j ((k:Int)+3))),.box n3 [.l (JY (BG p)) false,v],.box n2 [.l [] true,.l [] true]]) (fun _ _=>True) v rfl trivial (by simpa using hs.less (Mz _ _)) ?_;clear hs;rintro j v σ hj - hs;rcases BM c.AI hj with⟨s,hsl,hjlt⟩|hje
  .have hsv0:=IS hs 0 rfl
   conv=>whnf
   repeat'((first|apply st|(apply sq;intro K U)|(apply si;intro A B Y Z)|(apply Y;clear Z B Y A)|(apply U;clear U K)|refine⟨rfl,?_⟩|refine ld ?_|refine EK fun σ hs=>?_|refine aq fun v σ hs hsl=>?_|(refine DV (fun hc=>?_)<;>(try rw[hc])<;>clear hc)|clear U K)<;>conv=>whnf)
   have hsv:=IS hs 0 rfl
   conv=>whnf
   refine⟨hjlt,v,rfl,trivial,?_⟩;rw[List.replicate_succ',<-P7];rw[hw3]at hs;exact hs
  .conv=>whnf
   repeat'((first|apply st|(apply sq;intro K U)|(apply si;intro A B Y Z)|(apply Y;clear Z B Y A)|(apply U;clear U K)|refine⟨rfl,?_⟩|(refine EZ (fun hc=>?_)<;>(try rw[hc])<;>clear hc)|clear U K)<;>conv=>whnf)
   exact⟨hlt,v,rfl,trivial,by rw[hap,<-hje];exact hs⟩
 .rw[CJ hke]at hs
  have hsv:=IS hs 0 rfl
  conv=>whnf
  repeat'((first|apply st|(apply sq;intro K U)|(apply si;intro A B Y Z)|(apply Y;clear Z B Y A)|(apply U;clear U K)|refine⟨rfl,?_⟩|refine⟨kZ,?_⟩|refine ld ?_|refine Di fun σ hs=>?_|(refine EZ (fun hc=>?_)<;>(try rw[hc])<;>clear hc)|clear U K)<;>conv=>whnf)
  exact B3 (.a (.cons (.refl _) (.cons (hs.IJ 0 rfl) .nil)))
end Go.Gl
namespace Go.Proofs
open Go.Shelf
def Tryz.V9:Go.Shelf.Ren:=⟨fun|189=>268|125=>315|257=>314|128=>348|129=>349|294=>339|295=>340|296=>341|297=>342|298=>343|299=>344|216=>345|300=>346|301=>347|328=>360|329=>361|330=>362|331=>363|332=>364|215=>162|343=>375|n=>n,fun|28=>23|3=>3|46=>222|0=>0|51=>318|53=>139|4=>4|183=>394|182=>393|131=>266|5=>5|9=>9|218=>413|222=>329|228=>428|229=>429|n=>n,fun|n=>n⟩
def Tryz.lQ:Go.Proofs.Lays.n189 Tryz.prog Tryz.V9:={
 mixed:=by kernel_rfl
 f125:=Tryz.func315.trans (congrArg some (by kernel_rfl))
 f128:=Tryz.func348.trans (congrArg some (by kernel_rfl))
 f129:=Tryz.func349.trans (congrArg some (by kernel_rfl))
 f189:=Tryz.func268.trans (congrArg some (by kernel_rfl))
 f215:=Tryz.func162.trans (congrArg some (by kernel_rfl))
 f216:=Tryz.func345.trans (congrArg some (by kernel_rfl))
 f257:=Tryz.func314.trans (congrArg some (by kernel_rfl))
 f294:=Tryz.func339.trans (congrArg some (by kernel_rfl))
 f295:=Tryz.func340.trans (congrArg some (by kernel_rfl))
 f296:=Tryz.func341.trans (congrArg some (by kernel_rfl))
 f297:=Tryz.func342.trans (congrArg some (by kernel_rfl))
 f298:=Tryz.func343.trans (congrArg some (by kernel_rfl))
 f299:=Tryz.func344.trans (congrArg some (by kernel_rfl))
 f300:=Tryz.func346.trans (congrArg some (by kernel_rfl))
 f301:=Tryz.func347.trans (congrArg some (by kernel_rfl))
 f328:=Tryz.func360.trans (congrArg some (by kernel_rfl))
 f329:=Tryz.func361.trans (congrArg some (by kernel_rfl))
 f330:=Tryz.func362.trans (congrArg some (by kernel_rfl))
 f331:=Tryz.func363.trans (congrArg some (by kernel_rfl))
 f332:=Tryz.func364.trans (congrArg some (by kernel_rfl))
 f343:=Tryz.func375.trans (congrArg some (by kernel_rfl))
 t0:=Tryz.underlying0
 a0:=Tryz.isAgg0
 z0:=Tryz.sizeOf0
 v0:=Tryz.zeroValue0
 t3:=Tryz.underlying3
 a3:=Tryz.isAgg3
 z3:=Tryz.sizeOf3
 v3:=Tryz.zeroValue3
 t4:=Tryz.underlying4
 a4:=Tryz.isAgg4
 z4:=Tryz.sizeOf4
 v4:=Tryz.zeroValue4
 t5:=Tryz.underlying5
 a5:=Tryz.isAgg5
 z5:=Tryz.sizeOf5
 v5:=Tryz.zeroValue5
 t9:=Tryz.underlying9
 a9:=Tryz.isAgg9
 z9:=Tryz.sizeOf9
 v9:=Tryz.zeroValue9
 t28:=Tryz.underlying23
 a28:=Tryz.isAgg23
 z28:=Tryz.sizeOf23
 v28:=Tryz.zeroValue23
 t46:=Tryz.underlying222
 a46:=Tryz.isAgg222
 z46:=Tryz.sizeOf222
 v46:=Tryz.zeroValue222
 t51:=Tryz.underlying318
 a51:=Tryz.isAgg318
 z51:=Tryz.sizeOf318
 v51:=Tryz.zeroValue318
 t53:=Tryz.underlying139
 a53:=Tryz.isAgg139
 z53:=Tryz.sizeOf139
 v53:=Tryz.zeroValue139
 t131:=Tryz.underlying266
 a131:=Tryz.isAgg266
 z131:=Tryz.sizeOf266
 v131:=Tryz.zeroValue266
 t182:=Tryz.underlying393
 a182:=Tryz.isAgg393
 z182:=Tryz.sizeOf393
 v182:=Tryz.zeroValue393
 t183:=Tryz.underlying394
 a183:=Tryz.isAgg394
 z183:=Tryz.sizeOf394
 v183:=Tryz.zeroValue394
 t218:=Tryz.underlying413
 a218:=Tryz.isAgg413
 z218:=Tryz.sizeOf413
 v218:=Tryz.zeroValue413
 t222:=Tryz.underlying329
 a222:=Tryz.isAgg329
 z222:=Tryz.sizeOf329
 v222:=Tryz.zeroValue329
 t228:=Tryz.underlying428
 a228:=Tryz.isAgg428
 z228:=Tryz.sizeOf428
 v228:=Tryz.zeroValue428
 t229:=Tryz.underlying429
 a229:=Tryz.isAgg429
 z229:=Tryz.sizeOf429
 v229:=Tryz.zeroValue429}
end Go.Proofs
namespace Go.Gl
open Go.Proofs Go.Shelf
abbrev Gy (x y:Int):Bool:=decide (x<=y)
def gU {P:Program} {f:FuncId} (hok:okF P f=true)
    (hc: ∀(blk cap:Nat) (zs:List Int) (w:World),Sort.Holds (Value.int .i64) w blk 0 zs.toArray->blk<w.heap.size->zs.length<4611686018427387904->
     Calls P f #[.slice (some ⟨blk,0,none⟩) zs.length cap] w fun e w'=>e= .returned (.tuple #[])/\ ∃n os,w'=Sort.grow (Sort.putRow (Value.int .i64) (Sort.ahead w n) blk 0 (zs.mergeSort fun x y=>decide (x<=y)).toArray) os)
    (xs:List Int) (n len cap:Nat):BK P f [.sl n len cap] [.own (.sl n len cap) 1 (iL xs)] fun r post=>r= .ret (.t [])/\post= [.own (.sl n len cap) 1 (iL (xs.mergeSort Gy))]:=by
 intro σ hs;refine⟨hok,fun Λ w cs G hv=>?_⟩;rcases hs.get (i:=0) rfl with⟨h,_⟩|⟨n',cap',h,hn⟩
 .cases h
 cases h;rw[Bu]at hv;obtain⟨c,e,hb,h1,h2,h3,h4⟩:=Eh G hn;rw[Bu]at h2 h3;have hM:Ay=17592186044416:=rfl;rw[A9]at h4
 have hcell: ∀j x,xs[j]? =some x->c[j]? =some (Value.int .i64 x)/\IntKind.i64.min<=x/\x<=IntKind.i64.max:=fun j x hx=>by
  have:=(h4 j [.i .i64 x] (by rw[P8,hx];rfl)).2;simp only[BO,Nat.mul_one,GM]at this;obtain⟨⟨d,hd,hr⟩,_⟩:=this;simp only[Ag]at hr;obtain⟨rfl,hr⟩:=hr;exact⟨hd,hr⟩
 have hcs:cs= #[.slice (some ⟨n,0,none⟩) xs.length cap]:=by
  obtain⟨hsz,hv⟩:=hv;simp only[BO,Ag]at hv;obtain⟨⟨d,hd,rfl,_⟩,_⟩:=hv;simp at hsz;apply Array.ext_getElem?;intro i;rcases i with _|i
  .simpa using hd
  .rw[Array.getElem?_eq_none (by omega),Array.getElem?_eq_none (by simp)]
 subst hcs
 have hH:Sort.Holds (Value.int .i64) w n 0 xs.toArray:=fun j hj=>by
  have hj':j<xs.length:=by simpa using hj
  obtain⟨h5,_⟩:=hcell j xs[j] (ES hj');refine⟨?_,?_⟩
  .rw[GM,DG hb,h5]
   simp[getElem!_pos,hj']
  .rw[GM];exact Po hb
 refine(hc n cap xs w hH (G.lt hn) (by omega)).mono fun e' w' ⟨he,k,os,hw⟩=>?_
 subst he;have hlen:(xs.mergeSort Gy).length=xs.length:=List.length_mergeSort _
 have hheap: ∀m,m<w.heap.size->w'.heap[m]? =if m=n then some (.cells (Sort.putCells (Value.int .i64) 0 (xs.mergeSort Gy).toArray c) e (0,0))else w.heap[m]? :=fun m hm=>by
  rw[hw];simp only[Sort.grow,Sort.putRow,Sort.mapBlock,Sort.ahead];rw[Array.getElem?_append_left (by simpa using hm),Array.getElem?_modify];by_cases e1:n=m
  .subst e1
   rw[if_pos rfl,if_pos rfl,hb];rfl
  .rw[if_neg e1,if_neg (Ne.symm e1)]
 have hadv:B2 Λ σ w (A6 σ n (.arr 1 (iL (xs.mergeSort Gy)) cap)) w':=by
  refine⟨fun m hm h0=>?_,?_,by rw[hw];rfl,by rw[hw];rfl,by rw[hw];rfl,fun m h0 _=>?_⟩
  .rw[hheap m hm,if_neg]
   intro e1;subst e1;rw[hn]at h0;cases h0
  .rw[hw];simp[Sort.grow]
  .rw[Ca _ _ (fun e1=>by subst e1;rw[hn]at h0;cases h0)];exact h0
 refine⟨.ret (.t []),A6 σ n (.arr 1 (iL (xs.mergeSort Gy)) cap),⟨_,⟨rfl,rfl⟩,?_⟩,?_,?_,hadv⟩
 .refine⟨fun a ha=>?_,List.pairwise_singleton _ _⟩
  rw[My.1 ha];exact .inr ⟨n,cap,by simp[hlen],Cz _ _ _⟩
 .exact⟨_,rfl,by simp[Ag,BO]⟩
 .refine G.step hadv fun m o ho=>?_
  by_cases e1:m=n
  .subst e1
   rw[Cz]at ho;cases ho;refine .inr ⟨(G.own _ _ hn).1,_,(hheap m (G.lt hn)).trans (if_pos rfl),_,_,rfl,by simpa[Sort.putCells]using h1,by simpa[hlen]using h2,by simpa[hlen]using h3,?_⟩;rw[A9];intro i r hi;rw[P8]at hi;cases hx:(xs.mergeSort Gy)[i]? with
   | none=>rw[hx]at hi;cases hi
   | some x=>
     rw[hx]at hi;cases hi;have hil:i<xs.length:=by have:=(JX.1 hx).1;omega
     have hxm:x∈xs:=(List.mergeSort_perm xs Gy).mem_iff.1 (Dm hx);obtain⟨j,hj⟩:=List.getElem?_of_mem hxm;have hbd:=(hcell j x hj).2;obtain⟨hci,_⟩:=hcell i xs[i] (ES hil);have hcl:i<c.size:=(oT.1 hci).1;refine⟨rfl,?_⟩;simp only[BO,Nat.mul_one,GM,Ag,and_true];refine⟨_,?_,rfl,hbd⟩;simp only[Sort.putCells,Array.getElem?_mapIdx];rw[hci];have hxe:=(JX.1 hx).2;simp[hlen,hil,getElem!_pos,hxe]
  .rw[Ca _ _ e1]at ho
   exact .inl ⟨ho,(hheap m (G.lt ho)).trans (if_neg e1)⟩
def kG (xs:List Int) (n len cap:Nat):BK Tryz.prog 268 [.sl n len cap] [.own (.sl n len cap) 1 (iL xs)] fun r post=>r= .ret (.t [])/\post= [.own (.sl n len cap) 1 (iL (xs.mergeSort Gy))]:=
 gU (by kernel_rfl) (fun blk cap zs w h1 h2 h3=>Any.slices_Sort_int Tryz.lQ blk 0 cap zs w h1 h2 h3) xs n len cap
end Go.Gl
namespace Go.Gl
open Go.Proofs
attribute [local irreducible] As Am Ac AQ AM Ab AP AR AL Aa AN AO Ao Ax Sat AW Au Ad W
def qd:Pure Tryz.prog 349 [.i .u64 0] (eI 0):=by
 refine rQ kZ ?_;have hs:=Sn
 conv=>whnf
 repeat'((first|apply st|(apply sq;intro K U)|(apply si;intro A B Y Z)|(apply Y;clear Z B Y A)|(apply U;clear U K)|refine⟨rfl,?_⟩|(constructor<;>intro hc<;>(try rw[hc])<;>(replace hc:=bp hc)<;>try(exfalso;omega))|fail)<;>conv=>whnf)
 refine⟨by decide,?_⟩
 conv=>whnf
 repeat'((first|apply st|(apply Y;clear Z B Y A)|(apply U;clear U K)|refine⟨rfl,?_⟩|fail)<;>conv=>whnf)
 all_goals exact AS rfl
def qe:Pure Tryz.prog 315 [.i .u64 0] (eI 0):=by
 refine rh kZ ?_;have hs:=Sn
 conv=>whnf
 repeat'((first|apply st|(apply sq;intro K U)|(apply si;intro A B Y Z)|(apply Y;clear Z B Y A)|(apply U;clear U K)|refine qd.use ?_|fail)<;>conv=>whnf)
 all_goals exact AS rfl
def qj:Pure Tryz.prog 339 [.l [] true,eI 0,eI 0] (.t []):=by
 refine rR kZ ?_;have hs:=Sn
 conv=>whnf
 repeat'((first|apply st|(apply sq;intro K U)|(apply si;intro A B Y Z)|(apply Y;clear Z B Y A)|(apply U;clear U K)|refine⟨rfl,?_⟩|fail)<;>conv=>whnf)
 refine Gf (fun(_:Unit)=>0) (fun _=>[(6,eI 1)]) (fun _=>[]) (fun _=>True) () rfl trivial hs ?_;clear hs;rintro - σ - hs
 conv=>whnf
 repeat'((first|apply st|(apply sq;intro K U)|(apply si;intro A B Y Z)|(apply Y;clear Z B Y A)|(apply U;clear U K)|refine⟨rfl,?_⟩|(constructor<;>intro hc<;>(try rw[hc])<;>(replace hc:=bp hc)<;>try(exfalso;omega))|clear U K)<;>conv=>whnf)
 all_goals exact AS rfl
def qA:Pure Tryz.prog 314 [.l [] true,eI 0,eI 0,eI 0] (.t []):=by
 refine ri kZ ?_;have hs:=Sn
 conv=>whnf
 repeat'((first|apply st|(apply sq;intro K U)|(apply si;intro A B Y Z)|(apply Y;clear Z B Y A)|(apply U;clear U K)|fail)<;>conv=>whnf)
 refine Gf (fun(_:Unit)=>0) (fun _=>[]) (fun _=>[]) (fun _=>True) () rfl trivial hs ?_;clear hs;rintro - σ - hs
 conv=>whnf
 repeat'((first|apply st|(apply sq;intro K U)|(apply si;intro A B Y Z)|(apply Y;clear Z B Y A)|(apply U;clear U K)|refine⟨rfl,?_⟩|refine qj.use ?_|(constructor<;>intro hc<;>(try rw[hc])<;>(replace hc:=bp hc)<;>(try simp(disch:=omega) only[Bu,wrap64,AV]at hc)<;>try(exfalso;omega))|clear U K)<;>conv=>whnf)
 all_goals exact AS rfl
def gV:Pure Tryz.prog 268 [.l [] true] (.t []):=by
 refine sO kZ ?_;have hs:=Sn
 conv=>whnf
 repeat'((first|apply st|(apply sq;intro K U)|(apply si;intro A B Y Z)|(apply Y;clear Z B Y A)|(apply U;clear U K)|refine qe.use ?_|refine qA.use ?_|fail)<;>conv=>whnf)
 all_goals exact AS rfl
def dT {xs:List Int} {v:V} (hv:(Cg v).isSome=true\/(v= .l [] true/\xs= [])):BK Tryz.prog 268 [v] [.own v 1 (iL xs)] fun r post=>r= .ret (.t [])/\post= [.own v 1 (iL (xs.mergeSort Gy))]:=by
 rcases hv with hv|⟨rfl,rfl⟩
 .obtain⟨n,l,c,rfl⟩:=vK hv
  exact kG xs n l c
 .intro σ hs
  have:=gV.use (σ:=σ) (k:=fun v σ'=>v= .t []/\σ'=σ) (kp:=fun _ _=>False) ⟨rfl,rfl⟩;refine As.mono this ?_;rintro(u|u) σ' hq
  .obtain⟨rfl,rfl⟩:=hq
   exact⟨_,⟨rfl,rfl⟩,by simpa using hs⟩
  .exact hq.elim
def WG {b:Nat} {σ:AH} {sz:Nat} {v:V} {ys:List (List V)} {f:Bool} {K:V->AH->Prop} (h:AM b σ sz v (.l ys f) fun v' σ'=>((Cg v').isSome=true\/(v'=v/\ys= []))->K v' σ'):AM b σ sz v (.l ys f) K:=by
 unfold AM at *;obtain⟨h1,h2,h3⟩:=h;refine⟨h1,h2,?_⟩;cases v with
 | l es full=>exact⟨h3.1,h3.2.1,fun e=>h3.2.2.1 e (.inr ⟨rfl,e⟩),fun e=>⟨(h3.2.2.2 e).1,fun n cap hn hc=>(h3.2.2.2 e).2 n cap hn hc (.inl rfl)⟩⟩
 | sl n len cap=>
   simp only at h3 ⊢;split at h3
   .exact⟨h3.1,h3.2.1,h3.2.2.1,h3.2.2.2.1,fun n' cap' hn hc=>h3.2.2.2.2 n' cap' hn hc (.inl rfl)⟩
   .exact h3.elim
 | _=>exact h3.elim
def R2 (M:List Int):List (V×V):=M.map fun k=>(eI k,.b true)
def OD (M:List Int) (k:Int):List Int:=if M.contains k then M else M++[k]
def U7 (M:List Int) (k b:Int):(OD M k).contains b=(M.contains b||b==k):=by
 unfold OD;split
 .rename_i h
  by_cases hb:b=k
  .subst hb;simpa using h
  .have:(b==k)=false:=by simpa using hb
   rw[this,Bool.or_false]
 .simp[List.contains_append]
  rfl
def Y5 (M:List Int) (k:Int):DA (eI k) (.b true) (R2 M)=R2 (OD M k):=by
 induction M with
 | nil=>rfl
 | cons x r ih=>
   simp only[R2,E4,DA]at *;have he:DZ (eI k) (eI x)=(k==x):=rfl;rw[he];cases hx:k==x
   .rw[cond_false,ih]
    unfold OD;have:(x::r).contains k=r.contains k:=by rw[List.contains_cons,hx,Bool.false_or]
    rw[this];split<;>simp
   .rw[cond_true]
    have hk:k=x:=by simpa using hx
    subst hk;unfold OD;simp
def LU (M:List Int) (k:Int):found (.b false) false (CU (eI k) (R2 M))= .b (M.contains k):=by
 induction M with
 | nil=>rfl
 | cons x r ih=>
   simp only[R2,E4,CU]at *;have he:DZ (eI k) (eI x)=(k==x):=rfl;rw[he,List.contains_cons];cases k==x
   .simpa using ih
   .rfl
def HN (M:List Int): ∀kv∈R2 M,BI (.i .i64) kv.1=true:=by
 intro kv h;obtain⟨e,_,rfl⟩:=Iz.1 h;rfl
def lkK {σ:AH} {l:List At} {i mm:Nat} {M:List Int} {k:Int} {K:V->Prop} (hk:K (.b (M.contains k))) (h:Sat σ l:=by assumption)
    (hi:l[i]? =some (.map mm (R2 M)):=by first|exact Tt|exact Ts|exact Tq|exact Tp|exact To|exact Tn):AN σ (.i .i64) (.b false) false (.m mm) (eI k) K:=
 I6 h i hi rfl (HN M) (by rw[LU];exact hk)
def w9 {σ:AH} {l:List At} {i mm:Nat} {M:List Int} {k:Int} {K:AH->Prop} (hk: ∀σ',Sat σ' (l.set i (.map mm (R2 (OD M k))))->K σ') (h:Sat σ l:=by assumption)
    (hi:l[i]? =some (.map mm (R2 M)):=by first|exact Tt|exact Ts|exact Tq|exact Tp|exact To|exact Tn):AO σ (.i .i64) (.m mm) (eI k) (.b true) K:=
 Hp h i hi rfl (HN M) (fun σ' hs=>hk σ' (by rw[Y5]at hs;exact hs))
def Ic (p:Prog) (c:Nat):QA:=p.AZ.getD (c - 3) default
def Dq (p:Prog) (c:Nat):Nat->List Int
 | 0=>[]
 | k+1=>if GI (BG p) c (c - k)then Dq p c k++(Ic p (c - k)).AI else Dq p c k
def qB {ps:List (List Int)} (ho:ordered ps) {n c:Nat} (hc:c<n) (k:Nat): ∀p∈par ps (c - k),0<=p/\p.toNat<(Ke ps n c k).length/\p.toNat<c - k:=fun p hp=>by
 have:=ho _ _ hp;rw[Sv];omega
def Ur {ps:List (List Int)} (ho:ordered ps) {n c:Nat} (hc:c<n) (k b:Nat):(Ke ps n c (k+1)).getD b false=((Ke ps n c k).getD b false||((Ke ps n c k).getD (c - k) false&&(par ps (c - k)).contains (b:Int))):=by
 rw[Ke,Mi _ _ (qB ho hc k)]
def Us {ps:List (List Int)} (ho:ordered ps) {n c:Nat} (hc:c<n) (k:Nat): ∀(m:Nat) (b:Nat),c - k<=b->(Ke ps n c (k+m)).getD b false=(Ke ps n c k).getD b false
 | 0,_,_=>rfl
 | m + 1,b,h=>by
   rw[<-Nat.add_assoc,Ur ho hc,Us ho hc k m b h]
   have:(par ps (c - (k+m))).contains (b:Int)=false:=by
    cases hb:(par ps (c - (k+m))).contains (b:Int)
    .rfl
    .have:=ho _ _ (List.contains_iff_mem.1 hb)
     omega
   rw[this,Bool.and_false,Bool.or_false]
def eE {ps:List (List Int)} (ho:ordered ps) {n c:Nat} (hc:c<n) {k:Nat} (hk:k<=c - 2):(Ke ps n c k).getD (c - k) false=GI ps c (c - k):=by
 rw[<-kB ho hc (c - k),<-Us ho hc k (c - 2 - k) (c - k) (IN _)];congr 2;omega
def Pp (b:Int): ∀(l M:List Int),(l.foldl OD M).contains b=(M.contains b||l.contains b)
 | [],M=>by simp
 | x::r,M=>by
   rw[List.foldl_cons,Pp b r,U7,List.contains_cons,Bool.or_assoc]
def o8 {σ:AH} {l:List At} {i mm:Nat} {M:List Int} {k:Int} {b:Bool} {K:V->Prop} (e:M.contains k=b) (hk:K (.b b)) (h:Sat σ l:=by assumption)
    (hi:l[i]? =some (.map mm (R2 M)):=by first|exact Tt|exact Ts|exact Tq|exact Tp|exact To|exact Tn):AN σ (.i .i64) (.b false) false (.m mm) (eI k) K:=lkK (e ▸ hk) h hi
def qn (p : Prog) (c:Nat) (h10:p.AZ.length<=10) (hsl:FV 0 p.AZ=true) (hg:FJ (BG p)=true) (hc3:3<=c) (hc:c<3+p.AZ.length) :
    Pure Tryz.prog 325 [.a (Ba p),eI c] (.l (iL ((Dq p c (c - 2)).mergeSort Gy)) false):=by
 refine Pure.fit (by kernel_rfl) fun hf=>?_
 have F:=UU hf.1;have hM:=Mx;have hG:=EH hg;have ho:=JN hG;have hgl:(BG p).length=p.AZ.length:=by simp[BG]
 refine rY kZ ?_;have hs:=Sn
 conv=>whnf
 repeat'((first|(apply sq;intro K U)|(apply si;intro A B Y Z)|(apply Y;clear Z B Y A)|(apply U;clear U K)|(intro nn hnn;generalize hg:A6 _ nn _=σ;refine Ci hg fun hs=>?_;clear hg)|fail)<;>conv=>whnf)
 replace hs:Sat σ [.map nn (R2 [])]:=hs
 conv=>whnf
 repeat'((first|apply st|(apply sq;intro K U)|(apply si;intro A B Y Z)|(apply Y;clear Z B Y A)|(apply U;clear U K)|refine w9 (fun σ hs=>?_)|fail)<;>conv=>whnf)
 generalize nn=mm at *;replace hs:Sat σ [.map mm (R2 [(c:Int)])]:=hs
 refine D3 (c - 2) (fun k (x:List Int×V)=>[(6,x.2),(7,eI ((c:Int) - k))]) (fun k x=>[.own x.2 1 (iL (Dq p c k)),.map mm (R2 x.1)])
  (fun k x=>(∀b:Nat,b<3+(BG p).length->x.1.contains (b:Int)=(Ke (BG p) (3+(BG p).length) c k).getD b false)/\((Cg x.2).isSome=true\/(x.2= .l [] true/\Dq p c k= []))/\(Dq p c k).length<=4*k) ([(c:Int)],.l [] true) ?_ ⟨?_,.inr ⟨rfl,rfl⟩,by simp[Dq]⟩ (DQ hs 1) ?_
 .simp[QD,get]
  exact⟨rfl,rfl,rfl⟩
 .intro b hb
  simp only[Ke];rw[Ek (by simp;omega)];by_cases hbc:b=c
  .subst hbc;simp
  .rw[if_neg hbc]
   have:((c:Int)==(b:Int))=false:=by simp;omega
   simp[Ds,List.getElem?_replicate];split<;>simp<;>omega
 clear hs;rintro k ⟨M,v⟩ σ hk ⟨hMb,hv,hml⟩ hs;dsimp only at hMb hv hs;rcases Nat.lt_or_ge k (c - 2)with hlt|hge
 .have hkc:M.contains ((c:Int) - k)=GI (BG p) c (c - k):=by
   have:=hMb (c - k) (by omega);rw[eE ho (by omega) (by omega)]at this;rw[<-this];congr 1;omega
  have hcl:p.AZ[(IntKind.i64.wrap ((c:Int) - k - 3)).toNat]? =some (Ic p (c - k)):=by
   rw[wrap64 (by omega) (by omega),show((c:Int) - k - 3).toNat=c - k - 3 by omega,Ic,Ds,ES (by omega)];rfl
  have hwi:0<=IntKind.i64.wrap ((c:Int) - k - 3):=by rw[wrap64 (by omega) (by omega)];omega
  have hw1:IntKind.i64.wrap ((c:Int) - k - 1)=(c:Int) - (k+1:Nat):=by rw[wrap64 (by omega) (by omega)];omega
  have hmt:Dq p c (k+1)=if GI (BG p) c (c - k)then Dq p c k++(Ic p (c - k)).AI else Dq p c k:=rfl
  have hpar:(Ic p (c - k)).parents=par (BG p) (c - k):=by
   unfold par Ic BG;rw[if_neg (by omega),Ds,Ds,P8,ES (by omega)];rfl
  have hcm:=F.2 _ (Dm hcl);have hs4:=((HT _ _ hsl).2 _ (Dm hcl)).2;have hst:=fun b=>Ur ho (show c<3+(BG p).length by omega) k b
  rw[eE ho (by omega) (by omega),<-hpar]at hst;generalize Ic p (c - k)=cl at *;cases hb:GI (BG p) c (c - k)
  .rw[hb]at hkc hmt hst
   rw[if_neg (by decide)]at hmt
   conv=>whnf
   repeat'((first|apply st|(apply sq;intro K U)|(apply si;intro A B Y Z)|(apply Y;clear Z B Y A)|(apply U;clear U K)|refine⟨rfl,?_⟩|refine o8 hkc ?_|(constructor<;>intro hc<;>(try rw[hc])<;>(replace hc:=bp hc)<;>try(exfalso;omega))|clear U K)<;>conv=>whnf)
   all_goals try(exfalso;omega)
   rw[hw1];exact⟨hlt,(M,v),rfl,⟨fun b hb=>by rw[hMb b hb,hst b];simp,by rw[hmt];exact hv,by rw[hmt];omega⟩,by rw[hmt];exact hs⟩
  .rw [hb] at hkc hmt hst
   rw[if_pos rfl]at hmt
   conv=>whnf
   repeat'((first|apply st|(apply sq;intro K U)|(apply si;intro A B Y Z)|(apply Y;clear Z B Y A)|(apply U;clear U K)|refine⟨rfl,?_⟩|refine Kf ?_|refine o8 hkc ?_|(constructor<;>intro hc<;>(try rw[hc])<;>(replace hc:=bp hc)<;>try(exfalso;omega))|fail)<;>conv=>whnf)
   all_goals try(exfalso;omega)
   refine WG (OV hs 0 rfl (by omega) Eg fun v' σ hs hv'=>?_);rw[<-hmt]at hs
   conv=>whnf
   repeat'((first|apply st|(apply sq;intro K U)|(apply si;intro A B Y Z)|(apply Y;clear Z B Y A)|(apply U;clear U K)|refine⟨rfl,?_⟩|refine Kf ?_|fail)<;>conv=>whnf)
   refine D3 cl.parents.length (fun j (_:List Int)=>[(38,eI (Bq j))]) (fun _ M=>[.own v' 1 (iL (Dq p c (k+1))),.map mm (R2 M)]) (fun j M'=>M'=(cl.parents.take j).foldl OD M) M rfl rfl hs ?_;clear hs;rintro j M' σ hj hM' hs;rcases BM cl.parents hj with⟨q,hq,hjlt⟩|hje
   .conv=>whnf
    repeat'((first|apply st|(apply sq;intro K U)|(apply si;intro A B Y Z)|(apply Y;clear Z B Y A)|(apply U;clear U K)|refine⟨rfl,?_⟩|refine ix ?_|(refine DV (fun hc=>?_)<;>(try rw[hc])<;>clear hc)|refine w9 (fun σ hs=>?_)|clear U K)<;>conv=>whnf)
    exact⟨hjlt,_,rfl,by rw[Ar hq,List.foldl_append,<-hM'];rfl,hs⟩
   .rw [CJ hje]at hM'
    conv=>whnf
    repeat'((first|apply st|(apply sq;intro K U)|(apply si;intro A B Y Z)|(apply Y;clear Z B Y A)|(apply U;clear U K)|refine⟨rfl,?_⟩|(refine EZ (fun hc=>?_)<;>(try rw[hc])<;>clear hc)|clear U K)<;>conv=>whnf)
    rw[hw1];refine⟨hlt,(M',v'),rfl,⟨fun b hb=>?_,?_,?_⟩,hs⟩
    .rw[hM',Pp,hMb b hb,hst b,D2]
    .rcases hv' with hv'|⟨rfl,he⟩
     .exact .inl hv'
     .rcases hv with hv|⟨hv,hm0⟩
      .exact .inl hv
      .refine .inr ⟨hv,?_⟩
       rw[hmt,hm0,List.map_eq_nil_iff.1 he];rfl
    .rw[hmt,R0];omega
 .have hkk:k=c - 2:=by omega
  rw[hkk]at hs hv hml;clear hMb
  conv=>whnf
  repeat'((first|apply st|(apply sq;intro K U)|(apply si;intro A B Y Z)|(apply Y;clear Z B Y A)|(apply U;clear U K)|refine⟨rfl,?_⟩|(constructor<;>intro hc<;>(try rw[hc])<;>(replace hc:=bp hc)<;>try(exfalso;omega))|clear U K)<;>conv=>whnf)
  all_goals try(exfalso;omega)
  refine(dT hv).use (rest:=[_]) hs ?_;clear hs;rintro r post σ ⟨rfl,rfl⟩ hs
  conv=>whnf
  repeat'((first|(apply sq;intro K U)|(apply si;intro A B Y Z)|(apply Y;clear Z B Y A)|(apply U;clear U K)|fail)<;>conv=>whnf)
  refine(On _ v (by rw[List.length_mergeSort];omega)).use (rest:=[_]) hs ?_;clear hs;rintro r post σ ⟨rfl,rfl⟩ hs
  conv=>whnf
  repeat'((first|apply st|(apply Y;clear Z B Y A)|(apply U;clear U K)|fail)<;>conv=>whnf)
  exact B3 dh
def Pe {p : Prog} {c:Nat} (s:Int): ∀k,s∈Dq p c k↔ ∃j,j<k/\GI (BG p) c (c - j)=true/\s∈(Ic p (c - j)).AI
 | 0=>by simp[Dq]
 | k + 1 =>by
   rw[Dq];have ih:=Pe (p:=p) (c:=c) s k;constructor
   .intro h
    split at h
    .rename_i hu
     rcases Dr.1 h with h|h
     .obtain⟨j,h1,h2⟩:=ih.1 h
      exact⟨j,by omega,h2⟩
     .exact⟨k,by omega,hu,h⟩
    .obtain⟨j,h1,h2⟩:=ih.1 h
     exact⟨j,by omega,h2⟩
   .rintro⟨j,h1,h2,h3⟩
    by_cases hj:j=k
    .subst hj
     rw[if_pos h2];exact Dr.2 (.inr h3)
    .have:=ih.2 ⟨j,by omega,h2,h3⟩
     split
     .exact Dr.2 (.inl this)
     .exact this
def U1: ∀(l:List Int) (n s:Int),R9 n l=true->(s∈l↔n<=s/\s<n+l.length)
 | [],n,s,_=>by simp<;>omega
 | x::r,n,s,h=>by
   simp only[R9,A8,Cr]at h;obtain⟨rfl,h⟩:=h;have:=U1 r (x+1) s h;rw[Fq,this,Lz];omega
def Q3: ∀(cs:List QA) (i:Nat) (n s:Int),FV n cs=true->0<=n-> ∀(j:Nat) (c:QA),cs[j]? =some c->(s∈c.AI↔n<=s/\s<n+(CX cs:Int)/\(BR i cs).getD (s - n).toNat 0=((i+j:Nat):Int)+3)
 | [],_,_,_,_,_,_,_,h=>by cases h
 | d ::r,i,n,s,h,h0,j,c,hj=>by
   simp only[FV,A8,Cm]at h;obtain⟨-,-,hq,hr⟩:=h;have hm:=U1 d.AI n s hq;have hml:(CX (d::r):Int)=d.AI.length+CX r:=by simp[CX]
   have hgd:n<=s->(BR i (d::r)).getD (s - n).toNat 0=if s<n+d.AI.length then(i:Int)+3 else(BR (i+1) r).getD (s - (n+d.AI.length)).toNat 0:=fun hns=>by
    simp only[BR,Ds];split
    .rw[jO (by simp;omega),List.getElem?_replicate,if_pos (by omega)]
     rfl
    .rw[List.getElem?_append_right (by simp;omega)]
     congr 2;simp;omega
   have hout: ∀q,q∈BR (i+1) r->(3:Int)+((i+1:Nat):Int)<=q:=fun q hq=>(Fl hq).1
   cases j with
   | zero=>
     simp at hj;subst hj;rw[hm,hml];constructor
     .rintro⟨h1,h2⟩
      refine⟨h1,by omega,?_⟩;rw[hgd h1,if_pos h2];simp
     .rintro⟨h1,h2,h3⟩
      refine⟨h1,?_⟩;rw[hgd h1]at h3;by_cases hlt:s<n+d.AI.length
      .exact hlt
      .rw[if_neg hlt,Ds]at h3
       have hlen:(s - (n+d.AI.length)).toNat<(BR (i+1) r).length:=by rw[DH];omega
       rw[ES hlen]at h3;have:=hout _ (List.getElem_mem hlen);simp at h3;omega
   | succ j=>
     simp at hj;have ih:=Q3 r (i+1) (n+d.AI.length) s hr (by omega) j c hj;rw[ih,hml];constructor
     .rintro⟨h1,h2,h3⟩
      refine⟨by omega,by omega,?_⟩;rw[hgd (by omega),if_neg (by omega),h3];omega
     .rintro⟨h1,h2,h3⟩
      rw[hgd h1]at h3;by_cases hlt:s<n+d.AI.length
      .rw[if_pos hlt]at h3;omega
      .rw[if_neg hlt]at h3
       exact⟨by omega,by omega,by rw[h3];omega⟩
def hZ {p:Prog} {c:Nat} (hsl:FV 0 p.AZ=true) (ho:ordered (BG p)) (hc3:3<=c) (hc:c<3+p.AZ.length) (s:Int) :
    ((Dq p c (c - 2)).mergeSort Gy).contains s=(decide (0<=s)&&(decide (s<(CX p.AZ:Int))&&hasB (AT p) (c:Int) s)):=by
 rw[Hf,List.contains_iff_mem,(List.mergeSort_perm _ Gy).mem_iff,Pe];simp only[A8,Cm,hasB]
 have hown: ∀j,j<c - 2->(s∈(Ic p (c - j)).AI↔0<=s/\s<(CX p.AZ:Int)/\Bh (AT p) s=((c - j:Nat):Int)):=fun j hj=>by
  have hcl:p.AZ[c - j - 3]? =some (Ic p (c - j)):=by
   rw[Ic,Ds,ES (by omega)];rfl
  have:=Q3 p.AZ 0 0 s hsl (by omega) (c - j - 3) _ hcl;rw[this];simp only[Int.sub_zero,Int.zero_add,Bh,AT];constructor
  .rintro⟨h1,h2,h3⟩;exact⟨h1,h2,by rw[h3];omega⟩
  .rintro⟨h1,h2,h3⟩;exact⟨h1,h2,by rw[h3];omega⟩
 constructor
 .rintro⟨j,h1,h2,h3⟩
  obtain⟨h4,h5,h6⟩:=(hown j h1).1 h3;refine⟨h4,h5,by omega,?_⟩;rw[h6];simp only[UG,EJ,A8,Cm];exact .inr (.inr ⟨by omega,by simpa[AT]using h2⟩)
 .rintro⟨h1,h2,h3,h4⟩
  have hmem:Bh (AT p) s∈BR 0 p.AZ:=by
   have hlen:s.toNat<(BR 0 p.AZ).length:=by rw[DH];omega
   have:Bh (AT p) s=(BR 0 p.AZ)[s.toNat]:=by
    simp only[Bh,AT,Ds,ES hlen];rfl
   rw[this];exact List.getElem_mem hlen
  have hb:=Fl hmem
  have hup:GI (BG p) c (Bh (AT p) s).toNat=true:=by
   simp only[UG,EJ,A8,Cm,Cr]at h4;rcases h4 with h4|h4|⟨_,h4⟩
   .rw[<-h4,Hd];exact Dy ho c
   .omega
   .simpa[AT]using h4
  have hle:=eF ho _ _ hup;refine⟨c - (Bh (AT p) s).toNat,by omega,?_,?_⟩
  .rw[show c - (c - (Bh (AT p) s).toNat)=(Bh (AT p) s).toNat by omega]
   exact hup
  .refine(hown _ (by omega)).2 ⟨h1,h2,by omega⟩
def gz {σ:AH}:As Tryz.prog 283 [.b false] σ fun r σ'=>r= .BZ Db/\σ'=σ:=by
 refine fN kZ ?_
 conv=>whnf
 repeat'((first|apply st|(apply sq;intro K U)|(apply si;intro A B Y Z)|(apply Y;clear Z B Y A)|(refine Z _ _ _ ?_;clear Z B Y A)|(apply U;clear U K)|refine FX ?_|fail)<;>conv=>whnf)
 exact C4 ⟨rfl,rfl⟩
def Ce {x:Bool} {σ:AH} {k kp:V->AH->Prop} (h1:x=true->k (.t []) σ) (h2:x=false->kp Db σ):As Tryz.prog 283 [.b x] σ (qk k kp):=by
 cases x
 .refine As.mono gz ?_
  rintro r σ' ⟨rfl,rfl⟩;exact h2 rfl
 .exact gy.use (h1 rfl)
def FU:Int->List QA->Bool
 | _,[]=>true
 | n,c::r=>decide (c.AI.length<=4)&&(R9 n c.AI&&FU (n+c.AI.length) r)
def Oy: ∀(cs:List QA) (n:Int),FV n cs=(FU n cs&&cs.all fun c=>decide (c.parents.length<=3))
 | [],_=>rfl
 | c::r,n=>by
   simp only[FV,FU,WX];rw[Oy r];cases decide (c.AI.length<=4)<;>cases decide (c.parents.length<=3)<;>cases R9 n c.AI<;>simp
def Qs: ∀(cs:List QA) (n:Int),FU n cs=true->CX cs<=4*cs.length
 | [],_,_=>IN _
 | c::r,n,h=>by
   simp only[FU,A8,Cm]at h;have:=Qs r _ h.2.2;simp only[CX,E4,List.sum_cons,Lz]at *;omega
def VM {p:Prog} (h:FJ (BG p)=true):(p.AZ.all fun c=>decide (c.parents.length<=3))=true:=by
 rw[Dh];intro c hc;obtain⟨i,hi⟩:=List.getElem?_of_mem hc;have:=(EH h).2 i c.parents (by rw[BG,P8,hi];rfl);exact decide_eq_true this.1
def Pv (p:Prog):CL p=(decide (p.AZ.length<=10)&&(FU 0 p.AZ&&((CX p.AZ:Int)==p.AI&&(FJ (BG p)&&OX (AT p) (CX p.AZ) 0 p.AZ)))):=by
 rw[CL,Oy];cases hg:FJ (BG p)
 .simp
 .rw[VM hg,Bool.and_true]
abbrev vB (p:Prog):R->AH->Prop:=fun r σ'=> ∃post:List At,(r=(if CL p then R.ret (.t [])else R.BZ Db)/\post= [])/\Sat σ' post
def Wp {p:Prog} {σ:AH} (h:CL p=false):Ac σ Db (vB p):=C4 ⟨_,⟨by rw[h];rfl,rfl⟩,Sat.nil⟩
def clsT {p:Prog} {σ:AH} {l:List At} (hs:Sat σ l) (h:CL p=true):Am σ (.t []) (vB p):=A4 hs (QV _) (.refl _) fun σ' hs'=>⟨_,⟨by rw[h];rfl,rfl⟩,hs'⟩
set_option maxHeartbeats 4000000 in
def YC (p : Prog):BK Tryz.prog 282 [.a (Ba p)] [] fun r post=>r=(if CL p then R.ret (.t [])else R.BZ Db)/\post= []:=by
 intro σ hs;refine As.fit (by kernel_rfl) fun hf=>?_
 have F:=UU hf.1;have hcl:=F.1;have hM:=Mx;refine sG kZ ?_;have hcb:=Pv p;by_cases h10:p.AZ.length<=10
 rotate_left
 .conv=>whnf
  repeat'((first|apply st|(apply sq;intro K U)|(apply si;intro A B Y Z)|(apply Y;clear Z B Y A)|(refine Z _ _ _ ?_;clear Z B Y A)|(apply U;clear U K)|refine⟨rfl,?_⟩|(refine Ce (fun hc=>?_) (fun hc=>?_)<;>(replace hc:=bp hc)<;>(try simp(disch:=omega) only[Bu,wrap64,AV]at hc)<;>(try(exfalso;omega)))|clear U K)<;>conv=>whnf)
  all_goals try(exfalso;omega)
  exact Wp (by rw[hcb];simp[h10])
 rw[decide_eq_true h10,D2]at hcb
 conv=>whnf
 repeat'((first|apply st|(apply sq;intro K U)|(apply si;intro A B Y Z)|(apply Y;clear Z B Y A)|(apply U;clear U K)|refine⟨rfl,?_⟩|(refine Ce (fun hc=>?_) (fun hc=>?_)<;>(replace hc:=bp hc)<;>(try simp(disch:=omega) only[Bu,wrap64,AV]at hc)<;>(try(exfalso;omega)))|fail)<;>conv=>whnf)
 all_goals try(exfalso;omega)
 refine D3 p.AZ.length (fun k (n:Int)=>[(2,eI n),(24,eI (Bq k))]) (fun _ _=>[]) (fun k n=>FU 0 p.AZ=FU n (p.AZ.drop k)/\0<=n/\n+CX (p.AZ.drop k)=CX p.AZ/\n<=4*k) 0 rfl (by simp) hs ?_;clear hs;rintro k n σ hk ⟨hn,hn0,hn1,hn2⟩ hs;rcases BM p.AZ hk with⟨c,hc,hlt⟩|hke
 .have hcm:=(F.2 c (Dm hc)).2.1
  have hms:n+(c.AI.length:Int)+CX (p.AZ.drop (k+1))=CX p.AZ:=by
   rw[drop_cons hc]at hn1;simp only[CX,E4,List.sum_cons]at hn1 ⊢;omega
  rw[drop_cons hc,FU]at hn;by_cases h4:c.AI.length<=4
  .rw [decide_eq_true h4,D2]at hn
   conv=>whnf
   repeat'((first|apply st|(apply sq;intro K U)|(apply si;intro A B Y Z)|(apply Y;clear Z B Y A)|(apply U;clear U K)|refine⟨rfl,?_⟩|refine⟨kZ,?_⟩|refine ix ?_|refine ld ?_|refine Di fun σ hs=>?_|(refine DV (fun hc=>?_)<;>(try rw[hc])<;>clear hc)|(refine Ce (fun hc=>?_) (fun hc=>?_)<;>(replace hc:=bp hc)<;>(try simp(disch:=omega) only[Bu,wrap64,AV]at hc)<;>(try(exfalso;omega)))|(intro nn hnn;generalize hg:A6 _ nn _=σ;refine Ci hg fun hs=>?_;clear hg)|fail)<;>conv=>whnf)
   all_goals try(exfalso;omega)
   refine D3 c.AI.length (fun j (m:Int)=>[(2,eI m),(36,eI (Bq j))]) (fun _ _=>[]) (fun j m=>FU 0 p.AZ=(R9 m (c.AI.drop j)&&FU (n+c.AI.length) (p.AZ.drop (k+1)))/\m=n+j) n rfl ⟨hn,by simp⟩ (hs.take 0) ?_;clear hs hn;rintro j m σ hj ⟨hm,he⟩ hs;rcases BM c.AI hj with⟨x,hx,hjlt⟩|hje
   .rw[drop_cons hx,R9]at hm
    conv=>whnf
    repeat'((first|apply st|(apply sq;intro K U)|(apply si;intro A B Y Z)|(apply Y;clear Z B Y A)|(refine Z _ _ _ ?_;clear Z B Y A)|(apply U;clear U K)|refine⟨rfl,?_⟩|refine ix ?_|(refine DV (fun hc=>?_)<;>(try rw[hc])<;>clear hc)|(refine Ce (fun hc=>?_) (fun hc=>?_)<;>(replace hc:=bp hc))|clear U K)<;>conv=>whnf)
    .rw[wrap64 (by omega) (by omega)]
     rw[hc,beq_self_eq_true,D2]at hm;exact⟨hjlt,_,rfl,⟨by rw[<-hc];rw[<-hc]at hm;exact hm,by omega⟩,hs⟩
    .exact Wp (by rw[hcb,hm];simp[hc])
   .rw[BX hje,R9,D2]at hm
    conv=>whnf
    repeat'((first|apply st|(apply sq;intro K U)|(apply si;intro A B Y Z)|(apply Y;clear Z B Y A)|(apply U;clear U K)|refine⟨rfl,?_⟩|(refine EZ (fun hc=>?_)<;>(try rw[hc])<;>clear hc)|clear U K)<;>conv=>whnf)
    exact⟨hlt,m,rfl,⟨by rw[hm];congr 1;omega,by omega,by omega,by omega⟩,hs⟩
  .conv=>whnf
   repeat'((first|apply st|(apply sq;intro K U)|(apply si;intro A B Y Z)|(apply Y;clear Z B Y A)|(refine Z _ _ _ ?_;clear Z B Y A)|(apply U;clear U K)|refine⟨rfl,?_⟩|refine⟨kZ,?_⟩|refine ix ?_|refine ld ?_|refine Di fun σ hs=>?_|(refine DV (fun hc=>?_)<;>(try rw[hc])<;>clear hc)|(refine Ce (fun hc=>?_) (fun hc=>?_)<;>(replace hc:=bp hc)<;>(try simp(disch:=omega) only[Bu,wrap64,AV]at hc)<;>(try(exfalso;omega)))|(intro nn hnn;generalize hg:A6 _ nn _=σ;refine Ci hg fun hs=>?_;clear hg)|clear U K)<;>conv=>whnf)
   all_goals try(exfalso;omega)
   exact Wp (by rw[hcb,hn];simp[h4])
 .have hne:n=CX p.AZ:=by rw[BX hke]at hn1;simpa[CX]using hn1
  rw[BX hke]at hn;have hsp:FU 0 p.AZ=true:=hn;have hml:=Qs _ _ hsp;rw[hsp,D2,<-hne]at hcb;cases hgd:FJ (BG p)
  .rw[hgd]at hcb
   have hck:=Vd (BG p) false;rw[hgd,if_neg (by decide)]at hck;have hcF:CL p=false:=by rw[hcb];simp
   conv=>whnf
   repeat'((first|apply st|(apply sq;intro K U)|(apply si;intro A B Y Z)|(apply Y;clear Z B Y A)|(refine Z _ _ _ ?_;clear Z B Y A)|(apply U;clear U K)|refine⟨rfl,?_⟩|refine⟨kZ,?_⟩|(refine EZ (fun hc=>?_)<;>(try rw[hc])<;>clear hc)|(refine Ce (fun hc=>?_) (fun hc=>?_)<;>(replace hc:=bp hc)<;>(try simp(disch:=omega) only[Bu,wrap64,AV]at hc)<;>(try(exfalso;omega))<;>(try(cases hc;done)))|refine Pure.use (LX _ (by omega)) ?_|(constructor<;>intro hc<;>(try rw[hc])<;>(replace hc:=bp hc))|refine Pure.use (by assumption) ?_|clear U K)<;>conv=>whnf)
   all_goals exact Wp hcF
  .have hck:=Vd (BG p) false
   rw[hgd,if_pos rfl]at hck;rw[hgd,D2]at hcb;by_cases hps:n=p.AI
   .rw [hps,beq_self_eq_true,D2,<-hps]at hcb
    have hslB:FV 0 p.AZ=true:=by rw[Oy,hsp,VM hgd];rfl
    have hG:=EH hgd;have ho:=JN hG;have hgl:(BG p).length=p.AZ.length:=by simp[BG]
    conv=>whnf
    repeat'((first|apply st|(apply sq;intro K U)|(apply si;intro A B Y Z)|(apply Y;clear Z B Y A)|(apply U;clear U K)|refine⟨rfl,?_⟩|refine⟨kZ,?_⟩|(refine EZ (fun hc=>?_)<;>(try rw[hc])<;>clear hc)|(refine Ce (fun hc=>?_) (fun hc=>?_)<;>(replace hc:=bp hc)<;>(try simp(disch:=omega) only[Bu,wrap64,AV]at hc)<;>(try(exfalso;omega)))|refine Pure.use (LX _ (by omega)) ?_|(constructor<;>intro hc<;>(try rw[hc])<;>(replace hc:=bp hc)<;>try(exfalso;omega))|refine Pure.use (by assumption) ?_|clear U K)<;>conv=>whnf)
    refine D3 p.AZ.length (fun k (_:Unit)=>[(63,eI (Bq k))]) (fun _ _=>[]) (fun k _=>CL p=OX (AT p) n k (p.AZ.drop k)) () rfl hcb hs ?_;clear hs;rintro i - σ hi hn' hs;rcases BM p.AZ hi with⟨c,hc,hilt⟩|hie
    .rw [drop_cons hc,OX]at hn'
     have hci:Bq i=i:=AV (by omega);have hw3:IntKind.i64.wrap (Bq i+3)=(i:Int)+3:=by rw[hci,wrap64 (by omega) (by omega)]
     have hlin:=qb (BG p) false ((i:Int)+3) hgd (by omega) (by omega);have hinl:=(F.2 c (Dm hc)).2.2;have hlb:uw (AT p).parents ((i:Int)+3)= !((Dc (BG p)).getD ((i:Int)+3).toNat []).isEmpty:=rfl;cases hem:((Dc (BG p)).getD ((i:Int)+3).toNat []).isEmpty
     .rw [hem]at hlb
      rw[hlb,Bool.not_false,D2]at hn';rw[hem,if_neg (by decide),<-hw3]at hlin;have hhas:=qn p (i+3) h10 hslB hgd (by omega) (by omega);have hmh:=hZ hslB ho (show 3<=i+3 by omega) (show i+3<3+p.AZ.length by omega);have ei3:((i+3:Nat):Int)=(i:Int)+3:=by omega
      rw[ei3,<-hw3]at hhas;rw[ei3]at hmh;generalize (Dq p (i+3) (i+3 - 2)).mergeSort Gy=mine at *
      conv=>whnf
      repeat'((first|apply st|(apply sq;intro K U)|(apply si;intro A B Y Z)|(apply Y;clear Z B Y A)|(apply U;clear U K)|refine⟨rfl,?_⟩|refine⟨kZ,?_⟩|refine ix ?_|refine ld ?_|refine Di fun σ hs=>?_|(refine DV (fun hc=>?_)<;>(try rw[hc])<;>clear hc)|(refine Ce (fun hc=>?_) (fun hc=>?_)<;>(replace hc:=bp hc)<;>(try simp(disch:=omega) only[Bu,wrap64,AV]at hc)<;>(try(exfalso;omega)))|(intro nn hnn;generalize hg:A6 _ nn _=σ;refine Ci hg fun hs=>?_;clear hg)|refine Pure.use (by assumption) ?_|fail)<;>conv=>whnf)
      generalize nn=mm at *;replace hs:Sat σ [.map mm (R2 [])]:=hs.take 1;refine D3 c.inits.length (fun j (_:List Int)=>[(86,eI (Bq j))]) (fun _ M=>[.map mm (R2 M)]) (fun j M=>CL p=(MG (AT p) ((i:Int)+3) n (c.inits.take j) (c.inits.drop j)&&OX (AT p) n (i+1) (p.AZ.drop (i+1)))/\ ∀s,M.contains s=(c.inits.take j).any fun y=>y.1==s) [] rfl ⟨hn',fun s=>rfl⟩ hs ?_;clear hs;rintro j M σ hj ⟨hm,hMs⟩ hs;rcases BM c.inits hj with⟨x,hx,hjlt⟩|hje
      .have hpa:((c.inits.take j).all fun y=>y.1 != x.1)= !M.contains x.1:=by
        rw[hMs,List.all_eq_not_any_not];congr 2;funext y;simp[bne]
       have hst:CL p=((mine.contains x.1&&(!M.contains x.1&&Wt x.2))&&(MG (AT p) ((i:Int)+3) n (c.inits.take (j+1)) (c.inits.drop (j+1))&&OX (AT p) n (i+1) (p.AZ.drop (i+1)))):=by
        rw[hm,drop_cons hx,MG,hpa,hmh,<-hne,Ar hx];cases decide (0<=x.1)<;>cases decide (x.1<n)<;>cases hasB (AT p) ((i:Int)+3) x.1<;>cases Wt x.2<;>cases M.contains x.1<;>simp
       have hMs': ∀s,(OD M x.1).contains s=(c.inits.take (j+1)).any fun y=>y.1==s:=fun s=>by
        rw[U7,hMs,Ar hx,List.any_append];simp only[QB,List.any_nil,Bool.or_false];congr 1;rw[Hf];simp;exact eq_comm
       have hct:=Ck mine false x.1;have hbt:=P1 x.2;clear hmh hpa hMs hm;cases eA:mine.contains x.1<;>cases eB:M.contains x.1<;>cases eD:Wt x.2<;>rw[eA]at hct<;>rw[eD]at hbt<;>rw[eA,eB,eD]at hst
       all_goals
        conv=>whnf
        repeat'((first|apply st|(apply sq;intro K U)|(apply si;intro A B Y Z)|(apply Y;clear Z B Y A)|(refine Z _ _ _ ?_;clear Z B Y A)|(apply U;clear U K)|refine⟨rfl,?_⟩|refine⟨kZ,?_⟩|refine ix ?_|refine ld ?_|refine Di fun σ hs=>?_|refine FX ?_|refine Es ?_|(refine DV (fun hc=>?_)<;>(try rw[hc])<;>clear hc)|(refine Ce (fun hc=>?_) (fun hc=>?_)<;>(replace hc:=bp hc)<;>(try simp(disch:=omega) only[Bu,wrap64,AV]at hc)<;>(try(cases hc;done)))|refine o8 eB ?_|refine w9 (fun σ hs=>?_)|(intro nn hnn;generalize hg:A6 _ nn _=σ;refine Ci hg fun hs=>?_;clear hg)|refine Pure.use (by assumption) ?_|clear U K)<;>conv=>whnf)
       all_goals first
        | exact⟨hjlt,_,rfl,⟨hst,hMs'⟩,hs.less (Mz _ _)⟩
        | exact Wp (by rw[hst];rfl)
      .rw[BX hje,MG,D2]at hm
       conv=>whnf
       repeat'((first|apply st|(apply sq;intro K U)|(apply si;intro A B Y Z)|(apply Y;clear Z B Y A)|(apply U;clear U K)|refine⟨rfl,?_⟩|(refine EZ (fun hc=>?_)<;>(try rw[hc])<;>clear hc)|clear U K)<;>conv=>whnf)
       exact⟨hilt,(),rfl,hm,hs.take 0⟩
     .rw[hem]at hlb
      rw[hem,if_pos rfl,<-hw3]at hlin;have hcF:CL p=false:=by rw[hn',hlb];rfl
      conv=>whnf
      repeat'((first|apply st|(apply sq;intro K U)|(apply si;intro A B Y Z)|(apply Y;clear Z B Y A)|(refine Z _ _ _ ?_;clear Z B Y A)|(apply U;clear U K)|refine⟨rfl,?_⟩|refine⟨kZ,?_⟩|refine ix ?_|refine Di fun σ hs=>?_|(refine DV (fun hc=>?_)<;>(try rw[hc])<;>clear hc)|(refine Ce (fun hc=>?_) (fun hc=>?_)<;>(replace hc:=bp hc)<;>(try(exfalso;omega)))|(intro nn hnn;generalize hg:A6 _ nn _=σ;refine Ci hg fun hs=>?_;clear hg)|refine Pure.use (by assumption) ?_|clear U K)<;>conv=>whnf)
      all_goals exact Wp hcF
    .conv=>whnf
     repeat'((first|apply st|(apply sq;intro K U)|(apply si;intro A B Y Z)|(apply Y;clear Z B Y A)|(apply U;clear U K)|refine⟨rfl,?_⟩|(refine EZ (fun hc=>?_)<;>(try rw[hc])<;>clear hc)|clear U K)<;>conv=>whnf)
     exact clsT hs (by rw[hn',BX hie];rfl)
   .have hcF:CL p=false:=by rw[hcb];simp[hps]
    conv=>whnf
    repeat'((first|apply st|(apply sq;intro K U)|(apply si;intro A B Y Z)|(apply Y;clear Z B Y A)|(refine Z _ _ _ ?_;clear Z B Y A)|(apply U;clear U K)|refine⟨rfl,?_⟩|refine⟨kZ,?_⟩|(refine EZ (fun hc=>?_)<;>(try rw[hc])<;>clear hc)|(refine Ce (fun hc=>?_) (fun hc=>?_)<;>(replace hc:=bp hc)<;>(try simp(disch:=omega) only[Bu,wrap64,AV]at hc)<;>(try(cases hc;done)))|refine Pure.use (LX _ (by omega)) ?_|(constructor<;>intro hc<;>(try rw[hc])<;>(replace hc:=bp hc)<;>try(exfalso;omega))|clear U K)<;>conv=>whnf)
    all_goals exact Wp hcF
def aR (f : Fact):Ug f=true->Pure Tryz.prog 288 [.a (xF f)] (eI (Ig f)):=by
 induction f using Fact.ind with
 | h f ih=>
   intro ha;refine Pure.fit (by kernel_rfl) fun hf=>?_
   have⟨h2,h3,h4⟩:=oB hf.1;have hM:=Mx;rw[Vj]at ha;simp only[A8,Cm,List.all_map,Dh]at ha;refine sB kZ ?_;have hs:=Sn;by_cases hlf:Cq f=true
   .have hlo:=E8 hlf
    have hw:IntKind.i64.wrap (f.arg+1)=f.arg+1:=wrap64 (by omega) (by omega)
    conv=>whnf
    repeat'((first|apply st|(apply sq;intro K U)|(apply si;intro A B Y Z)|(apply Y;clear Z B Y A)|(apply U;clear U K)|refine⟨rfl,?_⟩|(constructor<;>intro hc<;>(try rw[hc])<;>(replace hc:=bp hc)<;>try(exfalso;omega))|fail)<;>conv=>whnf)
    all_goals try(exfalso;omega)
    all_goals
     refine D3 f.kids.length (fun k (_:Unit)=>[(3,eI (((f.kids.take k).map Ig).foldl T1 (if Cq f then f.arg+1 else 0))),(25,eI (Bq k))]) (fun _ _=>[]) (fun _ _=>True) () (by rw[hw,if_pos hlf];rfl) trivial hs ?_;clear hs;rintro k - σ hk - hs;rcases BM f.kids hk with⟨x,hx,hlt⟩|hke
     .have hxs:=ih x (Dm hx) (ha.2 x (Dm hx))
      conv=>whnf
      repeat'((first|apply st|(apply sq;intro K U)|(apply si;intro A B Y Z)|(apply Y;clear Z B Y A)|(apply U;clear U K)|refine⟨rfl,?_⟩|refine⟨kZ,?_⟩|refine xB ?_|refine ld ?_|refine Di fun σ hs=>?_|(refine DV (fun hc=>?_)<;>(try rw[hc])<;>clear hc)|(intro nn hnn;generalize hg:A6 _ nn _=σ;refine Ci hg fun hs=>?_;clear hg)|refine Pure.use (by assumption) ?_|clear U K)<;>conv=>whnf)
      exact⟨hlt,(),by rw[PQ _ _ _ hx];rfl,trivial,hs.take 0⟩
     .conv=>whnf
      repeat'((first|apply st|(apply sq;intro K U)|(apply si;intro A B Y Z)|(apply Y;clear Z B Y A)|(apply U;clear U K)|refine⟨rfl,?_⟩|(refine EZ (fun hc=>?_)<;>(try rw[hc])<;>clear hc)|clear U K)<;>conv=>whnf)
      exact AS (by rw[CJ hke,<-Qp])
   .have hlo:f.op≠2/\f.op≠3/\f.op≠4:=by
     simp only[Cq,EJ,Cr]at hlf;omega
    conv=>whnf
    repeat'((first|apply st|(apply sq;intro K U)|(apply si;intro A B Y Z)|(apply Y;clear Z B Y A)|(apply U;clear U K)|refine⟨rfl,?_⟩|(constructor<;>intro hc<;>(try rw[hc])<;>(replace hc:=bp hc)<;>try(exfalso;omega))|fail)<;>conv=>whnf)
    all_goals try(exfalso;omega)
    all_goals
     refine D3 f.kids.length (fun k (_:Unit)=>[(3,eI (((f.kids.take k).map Ig).foldl T1 (if Cq f then f.arg+1 else 0))),(25,eI (Bq k))]) (fun _ _=>[]) (fun _ _=>True) () (by rw[if_neg hlf];rfl) trivial hs ?_;clear hs;rintro k - σ hk - hs;rcases BM f.kids hk with⟨x,hx,hlt⟩|hke
     .have hxs:=ih x (Dm hx) (ha.2 x (Dm hx))
      conv=>whnf
      repeat'((first|apply st|(apply sq;intro K U)|(apply si;intro A B Y Z)|(apply Y;clear Z B Y A)|(apply U;clear U K)|refine⟨rfl,?_⟩|refine⟨kZ,?_⟩|refine xB ?_|refine ld ?_|refine Di fun σ hs=>?_|(refine DV (fun hc=>?_)<;>(try rw[hc])<;>clear hc)|(intro nn hnn;generalize hg:A6 _ nn _=σ;refine Ci hg fun hs=>?_;clear hg)|refine Pure.use (by assumption) ?_|clear U K)<;>conv=>whnf)
      exact⟨hlt,(),by rw[PQ _ _ _ hx];rfl,trivial,hs.take 0⟩
     .conv=>whnf
      repeat'((first|apply st|(apply sq;intro K U)|(apply si;intro A B Y Z)|(apply Y;clear Z B Y A)|(apply U;clear U K)|refine⟨rfl,?_⟩|(refine EZ (fun hc=>?_)<;>(try rw[hc])<;>clear hc)|clear U K)<;>conv=>whnf)
      exact AS (by rw[CJ hke,<-Qp])
def a8 (p:Prog) (x:Node) (size:Int):Pure Tryz.prog 286 [.a (Ba p),.a (M8 x),eI size] (.b (SB p x size)):=by
 refine Pure.fit (by kernel_rfl) fun hf=>?_
 have⟨p1,p2,p3,p4⟩:=OW hf.1;have hM:=Mx;have hw:IntKind.i64.wrap (3+((p.AZ.map UC).length:Nat))=3+(p.AZ.length:Int):=by rw[Bu,wrap64 (by omega) (by omega)]
 refine sD kZ ?_;have hs:=Sn
 conv=>whnf
 repeat'((first|apply st|(apply sq;intro K U)|(apply si;intro A B Y Z)|(apply Y;clear Z B Y A)|(apply U;clear U K)|refine⟨rfl,?_⟩|refine Pure.use (P1 _) ?_|(constructor<;>intro hc<;>(try rw[hc])<;>(replace hc:=bp hc))|clear U K)<;>conv=>whnf)
 all_goals first
  | (refine AS ?_;simp[SB, *];done)
  | (refine AS ?_;simp[SB, *];omega)
  | (refine AS ?_;rw[hw];simp[SB, *];done)
  | (refine AS ?_;congr 1;rw[Hf];simp[SB, *];omega)
def qV (n:Nat) (hn:n<=120):Pure Tryz.prog 239 [.i .u64 1,eU n] (.t [.i .u64 0,eU n]):=by
 refine se kZ ?_;have hs:=Sn
 conv=>whnf
 repeat'((first|apply st|(apply sq;intro K U)|(apply si;intro A B Y Z)|(apply Y;clear Z B Y A)|(apply U;clear U K)|refine⟨rfl,?_⟩|refine⟨(by decide:(0:Int)<=_),?_⟩|fail)<;>conv=>whnf)
 have ea: ∀m:Nat,m<=120->bits .and .u64 (m:Int) 4294967295=(m:Int):=fun m hm=>by
  have:=FN (a:=m) (b:=4294967295) (by omega) (by decide)
  have e:m&&&4294967295=m:=by
   have:=Nat.and_two_pow_sub_one_eq_mod m 32;rw[show 2 ^ 32 - 1=4294967295 from rfl]at this;rw[this];omega
  rw[e]at this;exact this
 have e0:=ea 0 (by omega);have e1:=ea 1 (by omega);have en:=ea n hn
 have ef: ∀m:Nat,m<=120->(m:Int).fdiv (2 ^ min (Int.toNat 32) IntKind.u64.bits)=0:=fun m hm=>by
  have:=Sx (a:=m) (c:=32) (by decide);rw[show(Int.toNat 32)=32 from rfl,this,Nat.shiftRight_eq_div_pow];have:m / 2 ^ 32=0:=Nat.div_eq_of_lt (by omega);rw[this];rfl
 have f0:=ef 0 (by omega);have f1:=ef 1 (by omega);have fn:=ef n hn;have w0:IntKind.u64.wrap 0=0:=rfl;have wn:IntKind.u64.wrap (n:Int)=n:=HH (by omega);simp only[Int.natCast_zero,Int.natCast_one,Int.cast_ofNat_Int]at e0 e1 f0 f1;simp only[e0,e1,en,f0,f1,fn,w0,wn,Int.zero_mul,Int.mul_zero,Int.zero_add,Int.add_zero,Int.one_mul];exact AS rfl
def qW (n:Nat) (hn:n<=120):Pure Tryz.prog 160 [.i .u64 1,eU n] (.t [.i .u64 0,eU n]):=by
 refine tT kZ ?_;have hs:=Sn
 conv=>whnf
 repeat'((first|apply st|(apply sq;intro K U)|(apply si;intro A B Y Z)|(apply Y;clear Z B Y A)|(apply U;clear U K)|refine Pure.use (qV n hn) ?_|fail)<;>conv=>whnf)
 all_goals exact AS rfl
end Go.Gl
namespace Go.Gl
variable {P:Program} {σ:AH}
def xO {n sz len cap:Nat} {ki:IntKind} {j:Int} {K:V->AH->Prop} (h:K (.sv n sz j.toNat ((len:Int) - j).toNat) σ) (h0:0<=j:=by omega) (h1:j<=(len:Int):=by omega):AP σ sz (.sl n len cap) (some (.i ki j)) none none K:=by
 unfold AP;simp only[Nr];exact⟨h0,h1,Int.le_refl _,h⟩
def xP {n sz len cap:Nat} {ki:IntKind} {j:Int} {K:V->AH->Prop} (h:K (.sv n sz 0 j.toNat) σ) (h0:0<=j:=by omega) (h1:j<=(len:Int):=by omega):AP σ sz (.sl n len cap) none (some (.i ki j)) none K:=by
 unfold AP;simp only[Nr];refine⟨Int.le_refl _,h0,h1,?_⟩;simpa using h
def vr {l:List At} (h:Sat σ l) (i:Nat) {n len cap sz:Nat} {es ys:List (List V)} {f:Bool} {K:V->AH->Prop} (hi:l[i]? =some (.own (.sl n len cap) sz es)) (hle:ys.length<=es.length) (hys: ∀e∈ys,e.length=sz) (ho: ∀e∈ys,∀v∈e,CA v=true)
    (hk: ∀σ',Sat σ' (l.set i (.own (.sl n len cap) sz (ys++es.drop ys.length)))->K (.i .i64 (ys.length:Nat)) σ'):Aa σ sz (.sl n len cap) (.l ys f) K:=by
 rcases h.get hi with⟨h1,_⟩|⟨n',cap',h1,hn⟩
 .cases h1
 cases h1;unfold Aa;refine⟨hys,ho,?_⟩;simp only[OE,hn];have hm:min ys.length es.length=ys.length:=Nat.min_eq_left hle;refine⟨trivial,by omega,?_⟩;rw[hm];refine hk _ ?_;simp only[List.take_zero,List.nil_append,List.take_length,GM];refine h.change hi (fun b hb ha=>FH hb fun m hm=>?_) (fun b hb ha m hm=>ha m hm) (.inr ⟨n,cap,by simp;omega,by simp[A6]⟩);rw[Ca];intro e;subst e;exact ha m rfl hm
def vq {l:List At} (h:Sat σ l) (i:Nat) {n len cap sz a b c:Nat} {es:List (List V)} {K:V->AH->Prop} (hi:l[i]? =some (.own (.sl n len cap) sz es)) (hbc:a+b<=es.length) (hc:c<=es.length) (hys: ∀e∈es,e.length=sz) (ho: ∀e∈es,∀v∈e,CA v=true)
    (hk: ∀σ',Sat σ' (l.set i (.own (.sl n len cap) sz (es.take a++((es.take c).take (min c b)++es.drop (a+min c b)))))->K (.i .i64 (min c b:Nat)) σ'):Aa σ sz (.sv n sz a b) (.sv n sz 0 c) K:=by
 rcases h.get hi with⟨h1,_⟩|⟨n',cap',h1,hn⟩
 .cases h1
 cases h1;unfold Aa;simp only[rowsOf,hn];have hl:((es.drop 0).take c).length=c:=by simp;omega
 refine⟨trivial,trivial,by omega,fun e he v hv=>ho e (List.mem_of_mem_take (by simpa using he)) v hv,trivial,?_⟩;simp only[OE,hn,List.drop_zero];refine⟨trivial,by omega,?_⟩;have hl2:(es.take c).length=c:=by simp;omega
 rw[hl2];refine hk _ ?_;refine h.change hi (fun b hb ha=>FH hb fun m hm=>?_) (fun b hb ha m hm=>ha m hm) (.inr ⟨n,cap,by simp;omega,by simp[A6]⟩);rw[Ca];intro e;subst e;exact ha m rfl hm
end Go.Gl
namespace Go.Gl
open Go.Proofs
attribute [local irreducible] As Am Ac AQ AM Ab AP AR AL Aa AN AO Ao Ax Sat AW Au Ad W
def repeatA (a:Int) (n:Nat) (h1:1<=n) (hn:n<=120):BK Tryz.prog 102 [.l [[eI a]] true,eI n] [] fun r post=> ∃v,r= .ret v/\post= [.own v 1 (iL (List.replicate n a))]/\(Cg v).isSome=true:=by
 intro σ hs;have hM:=Mx;have hw1:IntKind.u64.wrap 1=1:=rfl;have hwn:IntKind.u64.wrap (n:Int)=n:=HH (by omega);have hwi:IntKind.i64.wrap (n:Int)=n:=wrap64 (by omega) (by omega);refine ts kZ ?_
 conv=>whnf
 repeat'((first|apply st|(apply sq;intro K U)|(apply si;intro A B Y Z)|(apply Y;clear Z B Y A)|(apply U;clear U K)|refine⟨rfl,?_⟩|(constructor<;>intro hc<;>(try rw[hc])<;>(replace hc:=bp hc)<;>try(exfalso;omega))|fail)<;>conv=>whnf)
 rw[show IntKind.u64.wrap (([[eI a]]:List (List V)).length:Nat)=1 from rfl,hwn];refine(qW n hn).use ?_
 conv=>whnf
 repeat'((first|apply st|(apply sq;intro K U)|(apply si;intro A B Y Z)|(apply Y;clear Z B Y A)|(apply U;clear U K)|refine⟨rfl,?_⟩|(constructor<;>intro hc<;>(try rw[hc])<;>(replace hc:=bp hc)<;>try(exfalso;omega))|fail)<;>conv=>whnf)
 all_goals try(exfalso;omega)
 rw[hwi];refine uz hs (IN n) (by omega) fun v σ hs hv=>?_
 obtain⟨id,rfl⟩:=hv
 conv=>whnf
 repeat'((first|(apply sq;intro K U)|(apply si;intro A B Y Z)|(apply Y;clear Z B Y A)|(apply U;clear U K)|fail)<;>conv=>whnf)
 refine vr hs 0 (ys:=[[eI a]]) rfl (by simp;omega) (fun e he=>by simp at he;subst he;rfl) (fun e he v hv=>by simp at he;subst he;simp at hv;subst hv;rfl) fun σ hs=>?_
 have hst:([[eI a]]:List (List V))++(List.replicate n [V.i .i64 0]).drop ([[eI a]]:List (List V)).length=List.replicate 1 [eI a]++List.replicate (n - 1) [eI 0]:=by simp[List.drop_replicate]
 rw[hst]at hs
 conv=>whnf
 repeat'((first|apply st|(apply sq;intro K U)|(apply Y;clear Z B Y A)|(apply U;clear U K)|fail)<;>conv=>whnf)
 refine Gf (fun m:Nat=>n - m) (fun m=>[(8,eI m)]) (fun m=>[.own (.sl id n n) 1 (List.replicate m [eI a]++List.replicate (n - m) [eI 0])]) (fun m=>1<=m/\m<=n) 1 rfl ⟨by omega,h1⟩ hs ?_;clear hs hst;rintro m σ ⟨hm1,hmn⟩ hs
 have hgl: ∀e∈(List.replicate m [eI a]++List.replicate (n - m) [eI 0]:List (List V)),e.length=1/\ ∀v∈e,CA v=true:=fun e he=>by
  rcases Dr.1 he with he|he
  .rw[(List.mem_replicate.1 he).2];exact⟨rfl,fun v hv=>by simp at hv;subst hv;rfl⟩
  .rw[(List.mem_replicate.1 he).2];exact⟨rfl,fun v hv=>by simp at hv;subst hv;rfl⟩
 have hlen:(List.replicate m [eI a]++List.replicate (n - m) [eI 0]:List (List V)).length=n:=by simp;omega
 rcases Nat.lt_or_ge m n with hlt|hge
 .have hcpy:(List.replicate m [eI a]++List.replicate (n - m) [eI 0]:List (List V)).take m++(((List.replicate m [eI a]++List.replicate (n - m) [eI 0]:List (List V)).take m).take (min m (n - m))++(List.replicate m [eI a]++List.replicate (n - m) [eI 0]:List (List V)).drop (m+min m (n - m)))=List.replicate (m+min m (n - m)) [eI a]++List.replicate (n - (m+min m (n - m))) [eI 0]:=by
   have e1:(List.replicate m [eI a]++List.replicate (n - m) [eI 0]:List (List V)).take m=List.replicate m [eI a]:=by
    rw[List.take_append_of_le_length (by simp)];simp
   rw[e1,List.take_replicate,List.drop_append,List.drop_replicate,List.drop_replicate,List.length_replicate,<-P7,List.replicate_append_replicate];have e2:m - (m+min m (n - m))=0:=by omega
   have e3:n - m - (m+min m (n - m) - m)=n - (m+min m (n - m)):=by omega
   rw[e2,e3,List.replicate_zero,List.nil_append];congr 2;omega
  conv=>whnf
  repeat'((first|apply st|(apply sq;intro K U)|(apply si;intro A B Y Z)|(apply Y;clear Z B Y A)|(apply U;clear U K)|apply dr|refine⟨rfl,?_⟩|refine lo ?_|(constructor<;>intro hc<;>(try rw[hc])<;>(replace hc:=bp hc)<;>try(exfalso;omega))|fail)<;>conv=>whnf)
  all_goals try(exfalso;omega)
  refine xO ?_
  conv=>whnf
  repeat'((first|apply dr|fail)<;>conv=>whnf)
  refine xP ?_
  conv=>whnf
  repeat'((first|apply dr|fail)<;>conv=>whnf)
  rw[Hd,show((n:Int) - m).toNat=n - m by omega];refine vq hs 0 rfl (by rw[hlen];omega) (by rw[hlen];omega) (fun e he=>(hgl e he).1) (fun e he=>(hgl e he).2) fun σ hs=>?_
  rw[hcpy]at hs
  conv=>whnf
  repeat'((first|(apply Y;clear Z B Y A)|apply dr|refine⟨rfl,?_⟩|clear U K)<;>conv=>whnf)
  refine⟨m+min m (n - m),by omega,?_,⟨by omega,by omega⟩,hs⟩;rw[wrap64 (by omega) (by omega)];rfl
 .have hme:m=n:=by omega
  subst hme
  conv=>whnf
  repeat'((first|apply st|(apply sq;intro K U)|(apply si;intro A B Y Z)|(apply Y;clear Z B Y A)|(apply U;clear U K)|refine⟨rfl,?_⟩|refine lo ?_|(constructor<;>intro hc<;>(try rw[hc])<;>(replace hc:=bp hc)<;>try(exfalso;omega))|clear U K)<;>conv=>whnf)
  all_goals try(exfalso;omega)
  refine A4 hs (List.Sublist.refl _) (.refl _) fun σ' hs'=>⟨_,⟨_,rfl,?_,rfl⟩,hs'⟩
  simp[iL]
def ae (n:Nat) (h1:1<=n) (hn:n<=120):BK Tryz.prog 102 [.l [[eI (-1)]] true,eI n] [] fun r post=> ∃v,r= .ret v/\post= [.own v 1 (iL (List.replicate n (-1)))]/\(Cg v).isSome=true:=repeatA (-1) n h1 hn
def Qc (op:Int):V:=
 if op=5 then .Eo 360 (.a [])else
 if op=1\/op=2\/op=3\/op=6\/op=18 then .Eo 359 (eI 0)else
 if op=4\/op=8\/op=17 then .Eo 359 (eI 1)else
 if op=7\/op=9\/op=11\/op=12\/op=13\/op=14\/op=15\/op=16 then .Eo 359 (eI 2)else
 if op=10 then .Eo 359 (eI 3)else .DW
def bI (op:Int):Pure Tryz.prog 287 [eI op] (Qc op):=by
 refine sC kZ ?_;have hs:=Sn
 conv=>whnf
 repeat'((first|apply st|(apply sq;intro K U)|(apply si;intro A B Y Z)|(apply Y;clear Z B Y A)|(apply U;clear U K)|refine⟨rfl,?_⟩|(constructor<;>intro hc<;>(try rw[hc])<;>(replace hc:=bp hc))|clear U K)<;>conv=>whnf)
 all_goals exact AS (by simp[Qc, *])
def vJ (n:Int) (p:Prog) (x:Node):Pure Tryz.prog 399 [eI n,.a (Ba p),.a (M8 x)] (eI n):=by
 refine rE kZ ?_;have hs:=Sn
 conv=>whnf
 repeat'((first|apply st|(apply sq;intro K U)|(apply si;intro A B Y Z)|(apply Y;clear Z B Y A)|(apply U;clear U K)|fail)<;>conv=>whnf)
 all_goals exact AS rfl
def my (p:Prog) (x:Node) (h0:0<=x.n) (h1:x.n<p.EV.length):Pure Tryz.prog 400 [.a [],.a (Ba p),.a (M8 x)] (eI (p.EV.getD x.n.toNat 0)):=by
 refine Pure.fit (by kernel_rfl) fun hf=>?_
 have⟨p1,p2,p3,p4⟩:=OW hf.2.1
 have hx:p.EV[x.n.toNat]? =some (p.EV.getD x.n.toNat 0):=by
  rw[Ds,ES (by omega)];rfl
 refine rD kZ ?_;have hs:=Sn
 conv=>whnf
 repeat'((first|apply st|(apply sq;intro K U)|(apply si;intro A B Y Z)|(apply Y;clear Z B Y A)|(apply U;clear U K)|refine Kf ?_|fail)<;>conv=>whnf)
 all_goals exact AS rfl
end Go.Gl
namespace Go.Gl
variable {P:Program} {σ:AH}
def Sat.up {σ':AH} {l:List At} (h:Sat σ l) (hs:Sub σ σ'):Sat σ' l:=by
 refine⟨fun a ha=>?_,h.2⟩;have:=h.1 a ha;cases a with
 | obj n o=>exact hs n o this
 | own v sz es=>
   rcases this with h|⟨n,cap,e,hn⟩
   .exact .inl h
   .exact .inr ⟨n,cap,e,hs n _ hn⟩
def Sat.del {l:List At} {n:Nat} {o:O} (h:Sat σ (.obj n o::l)):Sat (del σ n) l:=by
 refine⟨fun b hb=>FH (h.1 b (.tail _ hb)) fun m hm=>?_,(List.pairwise_cons.1 h.2).2⟩;rw[Gp];intro e;subst e;exact(List.pairwise_cons.1 h.2).1 b hb m rfl hm
def Sat.aH {l:List At} {n:Nat} {o:O} (h:Sat σ l) (hn:σ n=none):Sat (A6 σ n o) (.obj n o::l):=(pG h hn).ue
def Sat.new {l:List At} {n:Nat} {o o':O} (h:Sat σ (.obj n o::l)):Sat (A6 σ n o') (.obj n o'::l):=pF (i:=0) h rfl o'
def AK {v:V} {Q:R->AH->Prop} (h:Q (.ret v) σ):Am σ v Q:=⟨v,σ,fun _ _ h=>h,.refl v,h⟩
inductive Rd (S:Type) where
 | go (s:S)
 | stop (st:od) (s:S)
 | BZ (v:V)
def jd {S:Type} (L:Nat) (E:Env) (ok:FuncId->Array Tmp->Code->Code->Nat->Prop) (H:S->List At) (J:S->Prop) (rest:List At) (yes no:V):Rd S->R->AH->Prop
 | .go s,r,σ=>r= .ret yes/\Sat σ (.obj L (.loop .ready E ok)::(H s++rest))
 | .stop st s,r,σ=>r= .ret no/\Sat σ (.obj L (.loop st E ok)::(H s++rest))
 | .BZ v,r,σ=>r= .BZ v/\ ∃s,J s/\Sat (del σ L) (H s++rest)
def MT {α S:Type} (P:Program) (L:Nat) (E:Env) (ok:FuncId->Array Tmp->Code->Code->Nat->Prop) (ea:α->List V) (H:S->List At) (J:S->Prop) (stp:α->S->Rd S) (D:α->S->Prop):Prop:=
 ∀y s,D y s-> ∀(rest:List At) (σ:AH),Sat σ (.obj L (.loop .ready E ok)::(H s++rest))->L9 P L (ea y) σ (jd L E ok H J rest (.b true) (.b false) (stp y s))
def MT.use {α S:Type} {L:Nat} {E:Env} {ok:FuncId->Array Tmp->Code->Code->Nat->Prop} {ea:α->List V} {H:S->List At} {J:S->Prop} {stp:α->S->Rd S} {D:α->S->Prop} (h:MT P L E ok ea H J stp D) {y:α} {s:S} (hd:D y s) {rest:List At} (hs:Sat σ (.obj L (.loop .ready E ok)::(H s++rest)))
    {Q:R->AH->Prop} (hk: ∀r σ',jd L E ok H J rest (.b true) (.b false) (stp y s) r σ'->Q r σ'):Ao P (.f (.yield L) [] []) (ea y) σ Q:=(h y s hd rest σ hs).mono hk
def KU {L:Nat} {env:Env} {ps:List Nat} {a b:AX} (hσ:σ L=some (.loop .ready env (Bb P ps a b))) {args:List V} (hl:args.length=ps.length) {Q:R->AH->Prop}
    (h:W P a (CK (W P b fun ex env' σ'=>σ' L=none->Oo L env (Bb P ps a b) Q ex env' σ')) (EC ps args env) (del σ L)):L9 P L args σ Q:=
 Pu hσ hl (XR h (Jp fun _ _ h=>jc h))
def NG {α S:Type} {L:Nat} {E:Env} {ps:List Nat} {a b:AX} {ea:α->List V} {H:S->List At} {J:S->Prop} {stp:α->S->Rd S} {D:α->S->Prop} (hl: ∀y,(ea y).length=ps.length)
    (h: ∀y s,D y s-> ∀(rest:List At) (σ:AH),Sat σ (H s++rest)->W P a (CK (W P b fun ex env' σ'=>σ' L=none->Oo L E (Bb P ps a b) (jd L E (Bb P ps a b) H J rest (.b true) (.b false) (stp y s)) ex env' σ')) (EC ps (ea y) E) σ):MT P L E (Bb P ps a b) ea H J stp D:=
 fun y s hd rest σ hs=>KU (hs.get (i:=0) rfl) (hl y) (h y s hd rest _ hs.del)
def U4 {S:Type} {L:Nat} {E:Env} {ok:FuncId->Array Tmp->Code->Code->Nat->Prop} {H:S->List At} {J:S->Prop} {rest:List At} {o:Rd S} {s:S} (h:o= .go s) (hs:Sat σ (H s++rest)) (hn:σ L=none) :
    jd L E ok H J rest (.b true) (.b false) o (.ret (.b true)) (A6 σ L (.loop .ready E ok)):=by
 subst h;exact⟨rfl,hs.aH hn⟩
def XZ {S:Type} {L:Nat} {E:Env} {ok:FuncId->Array Tmp->Code->Code->Nat->Prop} {H:S->List At} {J:S->Prop} {rest:List At} {o:Rd S} {s:S} {st:od} (h:o= .stop st s) (hs:Sat σ (H s++rest)) (hn:σ L=none) :
    jd L E ok H J rest (.b true) (.b false) o (.ret (.b false)) (A6 σ L (.loop st E ok)):=by
 subst h;exact⟨rfl,hs.aH hn⟩
def Qx {S:Type} {L:Nat} {E:Env} {ok:FuncId->Array Tmp->Code->Code->Nat->Prop} {H:S->List At} {J:S->Prop} {rest:List At} {o:Rd S} {s:S} {v:V} (h:o= .BZ v) (hj:J s) (hs:Sat σ (H s++rest)) (hn:σ L=none) :
    jd L E ok H J rest (.b true) (.b false) o (.BZ v) σ:=by
 subst h;refine⟨rfl,s,hj,fun a ha=>FH (hs.1 a ha) fun n hd=>?_,hs.2⟩;obtain⟨o,ho⟩:=DE (hs.1 a ha) hd;rw[Gp];intro e;subst e;rw[hn]at ho;cases ho
def Io {L:Nat} {E env:Env} {ok:FuncId->Array Tmp->Code->Code->Nat->Prop} {Q:Ah->Env->AH->Prop} {l:List At} {v:V} (hs:Sat σ (.obj L (.loop .ready E ok)::l)) (hk: ∀σ',Sat σ' l->Q .normal env σ'):Ij L Q env (.ret v) σ:=
 ⟨_,_,_,hs.get (i:=0) rfl,hk _ hs.del⟩
def ah {L:Nat} {E env:Env} {ok:FuncId->Array Tmp->Code->Code->Nat->Prop} {Q:Ah->Env->AH->Prop} {l:List At} {v:V} (hs:Sat σ (.obj L (.loop .ret E ok)::l)) (hk: ∀σ',Sat σ' l->Q .ret env σ'):Ij L Q env (.ret v) σ:=
 ⟨_,_,_,hs.get (i:=0) rfl,hk _ hs.del⟩
def Xc {L id:Nat} {E env:Env} {ok:FuncId->Array Tmp->Code->Code->Nat->Prop} {Q:Ah->Env->AH->Prop} {l:List At} {v:V} (hs:Sat σ (.obj L (.loop (.exit id) E ok)::l)) (hk: ∀σ',Sat σ' l->Q (.exit id) env σ'):Ij L Q env (.ret v) σ:=
 ⟨_,_,_,hs.get (i:=0) rfl,hk _ hs.del⟩
end Go.Gl
