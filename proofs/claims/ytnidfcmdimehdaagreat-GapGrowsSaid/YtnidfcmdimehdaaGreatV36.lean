import Derived.Test.YtnidfcmdimehdaaGreatV11
import Derived.Test.YtnidfcmdimehdaaGreatV14
import Derived.Test.YtnidfcmdimehdaaGreatV20
import Derived.Test.YtnidfcmdimehdaaGreatV31
import Derived.Test.YtnidfcmdimehdaaGreatV32
import Derived.Test.YtnidfcmdimehdaaGreatV35
set_option linter.all false
set_option linter.defProp false
set_option maxHeartbeats 8000000
noncomputable section
namespace Go.Gl
open Go.Proofs
def Wg {p:Prog} {gen:Int} (h:VR p (F0 p gen)) (bs:List Bool):L4 p (Ct (F0 p gen) bs):=by
 have hs:=Q9 (F0 p gen) bs;have hm: ∀x∈Ct (F0 p gen) bs,x∈F0 p gen:=fun x hx=>hs.subset hx
 have hg: ∀x∈Ct (F0 p gen) bs,(B3 p x).gen=gen:=fun x hx=>by
  have:=(List.contains_iff_mem).2 (hm x hx);rw[Ug,A4,C1]at this;exact this.2
 refine⟨fun x hx=>h.I4 x (hm x hx),fun x hx y hy=>by rw[hg x hx,hg y hy],?_,Nat.le_trans hs.length_le (Nat.le_trans h.few (by decide))⟩;exact((iK p gen).sublist hs).imp fun h=>Int.ne_of_lt h
def kP {xs:List (List Int×Int)} {x:List Int×Int} (h:x∈xs):Tf xs x.1=true:=Gx.2 ⟨x,h,by simp⟩
def WO {p:Prog} {gen:Int} {tog:List Fact->Bool}: ∀x∈DS p gen tog,x.2=eg p x.1:=fun x hx=>by
 rw[DS,Hc]at hx;obtain⟨bs,-,rfl⟩:=hx;rfl
def lP {p:Prog} {gen:Int} (h1:Fi p gen=true) (h8:(F0 p gen).length<=8): ∀x∈DS p gen (JQ (AI p) []),x∈DS p gen (EG (AI p)):=fun x hx=>by
 have hfn:=ML h1 h8;rw[DS,Hc]at hx ⊢;obtain⟨bs,hb,rfl⟩:=hx;exact⟨bs,Mt (fun l hl=>xL hfn.ok.l5 PT (Kb hfn) l hl) _ _ _ hb,rfl⟩
def iu {p:Prog} {gen:Int} (ps:List Int) (h1:Fi p gen=true) (hq:(BN (Co p ps)).isSome=true):Fi (Co p ps) gen=true:=by
 rw[Fi,A4]at h1 ⊢;exact⟨hq,h1.2⟩
def ku {p:Prog} {gen:Int} (ps:List Int) (h1:Fi p gen=true) (h8:(F0 p gen).length<=8) (hq:(BN (Co p ps)).isSome=true) :
    DS (Co p ps) gen (EG (AI (Co p ps)))=DS p gen (EG (AI p))/\ ∀x∈DS p gen (JQ (AI p) []),x∈DS (Co p ps) gen (JQ (AI (Co p ps)) []):=by
 have h2:=iu ps h1 hq;have hf:=ML h1 h8;have hf2:=ML h2 h8;have e1:=Kb hf;have e2:=Kb hf2;exact⟨m9 gen hf.ok hf2.ok (Wg hf) e1 e2,eF gen hf.ok hf2.ok (Wg hf) e1 e2⟩
def aw {s0:List Int->Int} {xs:List (List Int×Int)} (hxs: ∀x∈xs,x.2=s0 x.1) (hxl:xs.length<=256) {x:List Int×Int} (hx:x∈xs) (f g:Bool) :
    Pure Tryz.prog 10 [.l (xs.map TX) f,.l (iL x.1) g] (.t [.a (TX x),.b true]):=by
 have h:=tr s0 xs hxs hxl f x.1 g;rw[kP hx,if_pos rfl,<-hxs x hx]at h;exact h
def Xh {b sz:Nat} {Z:AE} {ys:List (List V)} {f:Bool} {K:V->AE->Prop} (h:AL b Z sz (.l [] true) (.l ys f) fun v' Z'=>(ys≠[]->(CR v').isSome=true)->K v' Z'):AL b Z sz (.l [] true) (.l ys f) K:=by
 obtain⟨h1,h2,h3⟩:=h;exact⟨h1,h2,h3.1,h3.2.1,fun e=>h3.2.2.1 e fun hn=>absurd e hn,fun e=>⟨(h3.2.2.2 e).1,fun n cap hn hc=>(h3.2.2.2 e).2 n cap hn hc fun _=>rfl⟩⟩
attribute [local irreducible] Av An Af AQ AL Ac AP AS AK Ab AN AO As A3 Sat AV A0 Ag W
end Go.Gl
namespace Go.Gl
open Go.Proofs
attribute [local irreducible] Av An Af AQ AL Ac AP AS AK Ab AN AO As A3 Sat AV A0 Ag W
def N4 {p:Prog} {gen:Int} {tog:List Fact->Bool} (h8:(F0 p gen).length<=8):(DS p gen tog).length<=256:=by
 rw[DS,CW];exact Nat.le_trans (KZ _ _) (Nat.le_trans (Nat.pow_le_pow_right (by omega) h8) (by decide))
end Go.Gl
namespace Go.Gl
open Go.Proofs
def tn {Z:AE} {env env2:Env} {K:Env->AE->Prop} {l:List At} (hs:Sat Z l) (i j:Nat) {v:V} {sz n:Nat} {es es':List (List V)} {vs vs2:List V} (hi:l[i]? =some (.own v sz es)) (hj:l[j]? =some (.box n vs))
    (hR: ∀s s2,Ea s s2 es es') (hv: ∀Z2,FH Z Z2 v (.l es' false)->DD Z Z2 vs vs2) (he: ∀Z2,FH Z Z2 v (.l es' false)->YG Z Z2 env env2) (hk: ∀Z2,Sat Z2 ((l.set j (.box n vs2)).eraseIdx i)->K env2 Z2):Fz env Z K:=by
 have hn:Z n=some (.cs vs):=hs.get hj;have hij:j≠i:=fun e=>by subst e;rw[hj]at hi;cases hi
 have hi2:(l.set j (.box n vs2))[i]? =some (.own v sz es):=by rw[List.getElem?_set_ne hij];exact hi
 obtain⟨Z2,h1,h2,h3⟩:=gz (mV hs hj (.cs vs2)) i hi2 (hR _)
 have hf:FH Z Z2 v (.l es' false):=by
  rcases hs.get hi with⟨rfl,_⟩|⟨m,cap,rfl,hm⟩
  .exact .l (fun h=>(by cases h)) (hR _ _)
  .refine .arr hm ?_ rfl (hR _ _)
   cases h2 with
   | arr _ q _ _=>exact q
 refine .inr ⟨env2,Z2,⟨fun m o2 ho=>?_⟩,(he Z2 hf).efz,hk Z2 h3⟩;have:=h1 m o2 ho;by_cases hmn:m=n
 .subst hmn
  rw[C3]at this;cases this;exact .inr ⟨vs,vs2,hn,rfl,hv Z2 hf⟩
 .rw[CY _ _ hmn]at this
  exact .inl this
attribute [local irreducible] Av An Af AQ AL Ac AP AS AK Ab AN AO As A3 Sat AV A0 Ag W
def aX:E0 Gu 3:=fun x=>⟨rfl,fun v hv=>by
 simp only[Gu,Fg,List.not_mem_nil,or_false]at hv
 rcases hv with rfl|rfl|rfl<;>rfl⟩
def xO {p:Prog} {gen:Int} (h:Nb p gen true=0):Fi p gen=true/\(F0 p gen).length<=8:=by
 cases h1:Fi p gen
 .rw[(L9 h1 _).2]at h;cases h
 .rw[(K2 h1).2]at h
  refine⟨rfl,?_⟩;by_cases h8:(F0 p gen).length<=8
  .exact h8
  .rw[if_neg h8]at h;cases h
def pb (a:List Pn) (f:Bool) (hl:a.length<=1000000):BO zP 12 [.l (a.map Gu) f] [] fun r post=> ∃v,r= .ret v/\post= [.own v 3 (a.map Gu)]:=by
 intro Z hs;have hM:=Mx;refine zi kZ ?_
 conv=>whnf
 repeat'((first|clear U K|apply st|(apply zk;intro K U)|fail)<;>conv=>whnf)
 refine⟨fun e t=>?_,fun _=>?_⟩
 .have hxe:a= []:=List.map_eq_nil_iff.1 e
  subst hxe
  conv=>whnf
  repeat'((first|clear U K|apply st|(apply zk;intro K U)|refine za (fun hc=>?_) fun hc=>?_|fail)<;>conv=>whnf)
  .exact AH ⟨_,⟨_,rfl,rfl⟩,DF hs 3⟩
  .replace hs:=DF hs 3
   refine Kx hs 0 (xs:=[]) (ys:=[]) rfl (by simp) aX fun v Z hs=>?_
   refine zz ?_;(repeat clear U K);repeat intro K U
   exact AH ⟨_,⟨_,rfl,rfl⟩,hs⟩
 .refine zz ?_;(repeat clear U K);repeat intro K U
  replace hs:=DF hs 3;refine Xh (Kx hs 0 (xs:=[]) (ys:=a) rfl (by simp;omega) aX fun v Z hs hv=>?_);refine zz ?_;(repeat clear U K);repeat intro K U
  exact AH ⟨_,⟨_,rfl,rfl⟩,hs⟩
attribute [local irreducible] Fz
set_option maxRecDepth 4000 in
def dZ (p : Prog) (gen:Int) (us:List Int) (hb:Bool) (q3:Pure zP 9 [] (.b true)):Pure zP 3 [.a (BT p),eI gen,.l (us.map fun u=>[V.i .u8 u]) hb] (.b true):=by
 refine Pure.fit (by kernel_rfl) fun hf=>?_
 have hul:us.length<=140737488355328:=by
  have:=hf.2.2.1;simp only[o8,CW]at this;exact Nat.le_trans this.1 (aN _)
 have hM:=Mx;have c1:=jQ p gen;have c2:=XJ p gen;by_cases h0:Nb p gen true=0
 .rw [Tp, h0,if_pos rfl]at c1 c2
  have⟨h1,h8⟩:=xO h0;have hok:=ML h1 h8;have hAl:=N4 (tog:=EG (AI p)) h8;have hBl:=N4 (tog:=JQ (AI p) []) h8;have hco:=lP h1 h8;have hst:=WO (p:=p) (gen:=gen) (tog:=EG (AI p));have hgro:=fun ps hq=>ku (gen:=gen) ps h1 h8 hq
  generalize DS p gen (EG (AI p))=A8 at *;generalize DS p gen (JQ (AI p) [])=B8 at *;refine Pure.of ?_;refine yL kZ ?_;have hs:=Sn
  conv=>whnf
  repeat'((first|apply st|(refine ei ?_;intro K U)|(apply si;intro A B hA hB)|(refine hA _ _ ?_;clear hB B hA A)|(apply U;clear U K)|refine⟨rfl,?_⟩|refine⟨kZ,?_⟩|refine c1.use ?_|refine c2.use ?_|refine bc ?_|(constructor<;>intro hc<;>(try rw[hc])<;>(replace hc:=bp hc)<;>(try simp(disch:=omega) only[CW,wrap64,Ae]at hc)<;>try(exfalso;omega))|fail)<;>conv=>whnf)
  refine Cn B8.length (fun k (_:Unit)=>[(52,eI (BR k))]) (fun _ _=>[]) (fun _ _=>True) () rfl trivial hs ?_;clear hs;rintro k - Z hk - hs;rcases BK B8 hk with⟨x,hx,hlt⟩|hke
  .have c3:=aw hst hAl (hco x (Cm hx)) false false
   have hck:BR k=k:=Ae (by omega)
   conv=>whnf
   repeat'((first|apply st|(refine ei ?_;intro K U)|(apply si;intro A B hA hB)|(refine hA _ _ ?_;clear hB B hA A)|(apply U;clear U K)|refine⟨rfl,?_⟩|refine⟨kZ,?_⟩|refine ix ?_|refine ld ?_|refine bY fun Z hs=>?_|refine mc ?_|(refine fK (fun hc=>?_)<;>(try rw[hc])<;>clear hc)|refine c3.use ?_|refine bc ?_|(constructor<;>intro hc<;>(try rw[hc])<;>(replace hc:=bp hc))|(intro nn hnn;generalize hg:Bu _ nn _=Z;refine fL hg fun hs=>?_;clear hg)|clear U K)<;>conv=>whnf)
   all_goals first
    | exact⟨hlt,(),rfl,trivial,hs.less (NQ _)⟩
    | (exfalso;simp at hc;done)
  .conv=>whnf
   repeat'((first|apply st|(refine ei ?_;intro K U)|(apply si;intro A B hA hB)|(refine hA _ _ ?_;clear hB B hA A)|(apply U;clear U K)|refine⟨rfl,?_⟩|refine slq ?_|(refine qG (fun hc=>?_)<;>(try rw[hc])<;>clear hc)|refine bc ?_|clear U K)<;>conv=>whnf)
   generalize hz:us.take _=zl;generalize (hb&&(_:Bool))=hb2
   have hzl:zl.length<=3:=by
    rw[<-hz,Lv];refine Nat.le_trans (Nat.min_le_left _ _) ?_;split<;>omega
   have hcw:(p.AM.map Gu).length=p.AM.length:=CW _;have hcl:p.AM.length<=10:=il (by rw[Fi,A4]at h1;exact h1.1);clear hz hul hf;refine Cn zl.length (fun k (x:V×List Int)=>[(15,x.1),(79,eI (BR k))]) (fun k x=>[.own x.1 1 (iL x.2)]) (fun k x=>x.2.length<=k) (.l [] true,[]) rfl (IS _) (IU hs 1) ?_;clear hs hke hk;rintro k ⟨u,ks⟩ Z hk hkl hs;dsimp only at hkl hs;rcases BK zl hk with⟨y,hy,hlt⟩|hke
   .by_cases hz:0<p.AM.length
    .conv=>whnf
     repeat'((first|apply st|(refine ei ?_;intro K U)|(apply si;intro A B hA hB)|(refine hA _ _ ?_;clear hB B hA A)|(apply U;clear U K)|refine⟨rfl,?_⟩|refine ix ?_|(refine fK (fun hc=>?_)<;>(try rw[hc])<;>clear hc)|(refine⟨(by rw[hcw];omega:((p.AM.map Gu).length:Int)≠0),?_⟩)|refine bc ?_|(constructor<;>intro hc<;>(try rw[hc])<;>(replace hc:=bp hc)<;>(try simp(disch:=omega) only[CW,wrap64,Ae]at hc)<;>try(exfalso;omega))|fail)<;>conv=>whnf)
     generalize IntKind.i64.wrap (3+(IntKind.i64.wrap y).tmod ((p.AM.map Gu).length:Int))=n;have c26:=Cl ks false n;have hll:ks.length<Ad/\(ks.length+1)*8<=140737488355328:=by omega
     cases hcn:ks.contains n<;>rw[hcn]at c26
     .refine Pure.Rv c26 (.cons (hs.Ha 0 rfl) (.cons (.refl _) .nil)) rfl ?_
      conv=>whnf
      repeat'((first|apply st|(apply si;intro A B hA hB)|(refine hA _ _ ?_;clear hB B hA A)|(apply U;clear U K)|refine⟨rfl,?_⟩|refine aq fun v Z hs hsl=>?_|refine xh ?_|(refine⟨(by rw[hcw];omega:((p.AM.map Gu).length:Int)≠0),?_⟩)|refine bc ?_|clear U K)<;>conv=>whnf)
      exact⟨hlt,(_,ks++[_]),rfl,by dsimp only;rw[Ri];simp;omega,hs⟩
     .refine Pure.Rv c26 (.cons (hs.Ha 0 rfl) (.cons (.refl _) .nil)) rfl ?_
      conv=>whnf
      repeat'((first|apply st|(apply si;intro A B hA hB)|(refine hA _ _ ?_;clear hB B hA A)|(apply U;clear U K)|refine⟨rfl,?_⟩|refine xi ?_|refine bc ?_|clear U K)<;>conv=>whnf)
      exact⟨hlt,(u,ks),rfl,by dsimp only;omega,hs⟩
    .conv=>whnf
     repeat'((first|apply st|(refine ei ?_;intro K U)|(apply si;intro A B hA hB)|(refine hA _ _ ?_;clear hB B hA A)|(apply U;clear U K)|refine⟨rfl,?_⟩|refine ix ?_|(refine fK (fun hc=>?_)<;>(try rw[hc])<;>clear hc)|refine bc ?_|(constructor<;>intro hc<;>(try rw[hc])<;>(replace hc:=bp hc)<;>(try simp(disch:=omega) only[CW,wrap64,Ae]at hc)<;>try(exfalso;omega))|clear U K)<;>conv=>whnf)
     exact⟨hlt,(u,ks),rfl,by dsimp only;omega,hs⟩
   .clear hcw
    conv=>whnf
    repeat'((first|(refine ei ?_;intro K U)|(apply si;intro A B hA hB)|(refine hA _ _ ?_;clear hB B hA A)|(apply U;clear U K)|refine⟨rfl,?_⟩|fail)<;>conv=>whnf)
    refine y1 hs 0 rfl (fun Z2 h=> .cons (.refl _) (.cons (.refl _) (.cons (.refl _) (.cons (.refl _) (.cons h (.cons (.refl _) (.cons (.refl _) (.cons (.refl _) (.cons (.refl _) .nil))))))))) fun Z hs=>?_
    conv=>whnf
    repeat'((first|apply st|(refine ei ?_;intro K U)|(apply si;intro A B hA hB)|(refine hA _ _ ?_;clear hB B hA A)|(apply U;clear U K)|refine⟨kZ,?_⟩|refine bY fun Z hs=>?_|(refine qG (fun hc=>?_)<;>(try rw[hc])<;>clear hc)|refine bc ?_|(intro nn hnn;generalize hg:Bu _ nn _=Z;refine fL hg fun hs=>?_;clear hg)|clear U K)<;>conv=>whnf)
    refine(pb p.AM false (by omega)).use (rest:=_) (by simpa using hs) ?_;clear hs;rintro r post Z ⟨v,rfl,rfl⟩ hs
    conv=>whnf
    replace hs:Sat Z [.own v 3 (p.AM.map Gu),.box nn (BT p)]:=hs;refine hAppend hs 0 rfl ⟨by simp[Ad];omega,by simp;omega⟩ (by simp[putAt]) (by simp[putAt,CJ]) fun v Z hs=>?_
    have o1:=Hj hs 0 rfl
    conv=>whnf
    repeat'((first|(refine hA _ _ ?_;clear hB B hA A)|(apply U;clear U K)|refine xZ fun Z hs=>?_|fail)<;>conv=>whnf)
    refine tn hs 0 1 rfl rfl (es':=(Co p ks).AM.map Gu) (fun s s2=>by
     rw[show(Co p ks).AM.map Gu=p.AM.map Gu++[Gu ⟨ks,[],[]⟩] by simp[Co]]
     exact Ql (IQ _) (.cons (.cons (.refl _) (.cons MK (.cons MK .nil))) .nil)) (fun Z2 h=> .cons h (.cons (.refl _) (.cons (.refl _) (.cons (.refl _) (.cons (.refl _) (.cons (.refl _) .nil)))))) (fun Z2 h=> .cons (.refl _) (.cons (.refl _) (.cons (.refl _) (.cons (.refl _) .nil)))) fun Z hs=>?_
    replace hs:Sat Z [.box nn (BT (Co p ks))]:=hs;have e1:=sh (Co p ks);cases hq:(BN (Co p ks)).isSome<;>rw[hq]at e1
    .conv=>whnf
     repeat'((first|apply st|(refine ei ?_;intro K U)|(apply si;intro A B hA hB)|(refine hA _ _ ?_;clear hB B hA A)|(apply U;clear U K)|refine⟨kZ,?_⟩|refine ld ?_|refine xh ?_|refine e1.use ?_|refine q3.use ?_|refine bc ?_|clear U K)<;>conv=>whnf)
     all_goals exact AH (by rfl)
    have e2:=jQ (Co p ks) gen;have e3:=XJ (Co p ks) gen;have h2:=iu ks h1 hq;have e0:Nb (Co p ks) gen true=0:=by rw[(K2 h2).2,if_pos (show(F0 (Co p ks) gen).length<=8 from h8)]
    obtain⟨g1,g2⟩:=hgro ks hq;rw[Tp,e0,if_pos rfl]at e2 e3;rw[g1]at e2;have hDl:=N4 (p:=Co p ks) (gen:=gen) (tog:=JQ (AI (Co p ks)) []) h8;have hst2:=WO (p:=Co p ks) (gen:=gen) (tog:=JQ (AI (Co p ks)) []);generalize DS (Co p ks) gen (JQ (AI (Co p ks)) [])=D8 at *;have e4:=pC A8 hAl false false;clear hgro g1 h2 e0 hq;generalize Co p ks=qq at *
    conv=>whnf
    repeat'((first|apply st|(refine ei ?_;intro K U)|(apply si;intro A B hA hB)|(refine hA _ _ ?_;clear hB B hA A)|(apply U;clear U K)|refine⟨rfl,?_⟩|refine⟨kZ,?_⟩|refine ld ?_|refine xi ?_|refine e1.use ?_|refine e2.use ?_|refine e3.use ?_|refine e4.use ?_|refine bc ?_|(constructor<;>intro hc<;>(try rw[hc])<;>(replace hc:=bp hc)<;>(try simp(disch:=omega) only[CW,wrap64,Ae]at hc)<;>try(exfalso;omega))|fail)<;>conv=>whnf)
    all_goals try(exfalso;simp at hc;done)
    refine Cn B8.length (fun k (_:Unit)=>[(146,eI (BR k))]) (fun _ _=>[]) (fun _ _=>True) () rfl trivial (hs.less (NQ _)) ?_;clear hs;rintro k - Z hk - hs;rcases BK B8 hk with⟨x,hx,hlt⟩|hke
    .have e5:=aw hst2 hDl (g2 x (Cm hx)) false false
     have hck:BR k=k:=Ae (by omega)
     conv=>whnf
     repeat'((first|apply st|(refine ei ?_;intro K U)|(apply si;intro A B hA hB)|(refine hA _ _ ?_;clear hB B hA A)|(apply U;clear U K)|refine⟨rfl,?_⟩|refine⟨kZ,?_⟩|refine ix ?_|refine ld ?_|refine bY fun Z hs=>?_|refine mc ?_|(refine fK (fun hc=>?_)<;>(try rw[hc])<;>clear hc)|refine e5.use ?_|refine bc ?_|(constructor<;>intro hc<;>(try rw[hc])<;>(replace hc:=bp hc))|(intro nn hnn;generalize hg:Bu _ nn _=Z;refine fL hg fun hs=>?_;clear hg)|clear U K)<;>conv=>whnf)
     all_goals first
      | exact⟨hlt,(),rfl,trivial,hs.less (NQ _)⟩
      | (exfalso;simp at hc;done)
    .conv=>whnf
     repeat'((first|apply st|(refine ei ?_;intro K U)|(apply si;intro A B hA hB)|(refine hA _ _ ?_;clear hB B hA A)|(apply U;clear U K)|refine⟨rfl,?_⟩|(refine qG (fun hc=>?_)<;>(try rw[hc])<;>clear hc)|refine bc ?_|refine Pure.use (by assumption) ?_|clear U K)<;>conv=>whnf)
     all_goals exact AH (by rfl)
 .rw[Tp,if_neg h0]at c1 c2
  generalize Nb p gen true=e at *;refine yL kZ ?_;have hs:=Sn
  conv=>whnf
  repeat'((first|apply st|(refine ei ?_;intro K U)|(apply si;intro A B hA hB)|(refine hA _ _ ?_;clear hB B hA A)|(apply U;clear U K)|refine⟨rfl,?_⟩|refine⟨kZ,?_⟩|refine c1.use ?_|refine c2.use ?_|refine bc ?_|(constructor<;>intro hc<;>(try rw[hc])<;>(replace hc:=bp hc)<;>(try simp(disch:=omega) only[CW,wrap64,Ae]at hc)<;>try(exfalso;omega))|refine Pure.use (by assumption) ?_|clear U K)<;>conv=>whnf)
  all_goals first
   | exact AJ rfl
   | (exfalso;simp at hc;done)
end Go.Gl
namespace Go.Gl
open Go.Proofs Go.ChangeShapes Go.WideShapes Go.ChangeAt Go.RowKit
section
variable {H:Type} {enc:TypeId×Value->H} {P:Program} {W:World}
def yZ {t:TypeId} (ht:P.underlying t=some (.int .u8)):VF enc P W t fun x:Int=>[V.i .u8 x]:=fun n cs d ps h _=>by
 obtain⟨k,rfl,-,hw⟩:=DataW.trod_int ht h;simp only[Lit.wf,A4,Cp]at hw;refine⟨k,rfl,⟨_,rfl,?_⟩,trivial⟩;simp only[AY]
 first
  | exact⟨rfl,hw⟩
  | exact⟨trivial,hw⟩
  | exact hw
def cb {n:Nat} {t e:TypeId} {sz:Nat} {α:Type} {ea:α->List V} (ht:P.underlying t=some (.slice e)) (hc:P.cellsOf e=sz) (hsz:0<sz) (he: ∀a,(ea a).length=sz) (h:fN enc P W n e ea)
    {a0:Option Addr} {Th cap0:Nat} {d:DataW H} {ps:List MemPlace} (htr:DataW.trod enc P W 0 (fun _=>true) true (n+1) t [.slice a0 Th cap0]=some (d,ps)) (hw: ∀x∈d.weights P t,x<=reachBytes) (hM:(∀x,ed (ea x)=true)/\1<=P.bytesOf e\/Th<=Ad) :
    ∃l:List α,AY (Hh (fun _=>False) emp W) (.l (l.map ea) false) (.slice a0 Th cap0):=by
 rcases DataW.trod_slice ht htr with⟨hcs,hx⟩|⟨a,len,cap,elems,rest,n',hn,hcs,hx,-,hl,hm,hlen,hel,-,-⟩
 .simp only[List.cons.injEq,Value.slice.injEq,and_true]at hcs
  obtain⟨rfl,rfl,rfl⟩:=hcs;refine⟨[],?_⟩;simp only[List.map_nil,AY];exact⟨none,0,rfl,IS _,fun h=>(by cases h),Nat.zero_le _,fun _=>rfl,fun h=>absurd rfl h⟩
 .simp only[List.cons.injEq,Value.slice.injEq,and_true]at hcs
  obtain⟨rfl,rfl,rfl⟩:=hcs;obtain rfl:n'=n:=by omega
  simp only[Prod.mk.injEq]at hx;obtain⟨rfl,-⟩:=hx;simp only[DataW.weights,ht,Fg,Ds]at hw;have hwl:=hw _ (.inl rfl)
  have hwe: ∀(l:List (DataW H)) (D:DataW H),D∈l-> ∀x∈D.weights P e,x∈DataW.weightsAll P e l:=by
   intro l
   induction l with
   | nil=>intro D hD;cases hD
   | cons y r ih=>
     intro D hD x hx;simp only[DataW.weightsAll,Ds];rcases Fg.1 hD with rfl|hD
     .exact .inl hx
     .exact .inr (ih D hD x hx)
  have each: ∀i,i<Th-> ∃v:α,∃cs',W.cells? 0 (a.add (i*sz)) sz=some cs'/\BV (Hh (fun _=>False) emp W) (fun j=>cs'[j]?) 0 (ea v):=fun i hi=>by
   have hi':=hel i hi;obtain⟨x,hx⟩: ∃x,elems[i]? =some x:=⟨_,Dp (by omega)⟩
   rw[hx,Option.bind_eq_some_iff,hc]at hi';obtain⟨cs',h1,h2⟩:=hi';obtain⟨v,-,h4⟩:=h cs' x.1 x.2 h2 fun y hy=>hw y (.inr (.inl (hwe _ x.1 (Hc.2 ⟨x,Cm hx,rfl⟩) y hy)))
   exact⟨v,cs',h1,h4⟩
  obtain⟨l,hll,hlc⟩:=Jy Th each;refine⟨l,?_⟩
  have hB:l.length<=Hk (l.map ea):=by
   rcases hM with⟨hu,hb⟩|hM
   .simp only[CW,hlen,reachBytes]at hwl
    have h8:(Th+rest.length)*1<=(Th+rest.length)*P.bytesOf e:=Nat.mul_le_mul_left _ hb;have:(l.map ea).all ed=true:=by rw[List.all_map,Dj];exact fun x _=>hu x
    rw[Hk,if_pos this];omega
   .exact J6 (by omega)
  simp only[AY,CW];refine⟨some a,cap0,by rw[hll],by omega,fun h=>(by cases h),hB,fun h=>(by cases h),fun hne=>?_⟩;obtain⟨b,o,spot⟩:=a
  have h0:0<l.length:=by
   rcases l with _|⟨v,r⟩
   .exact absurd rfl hne
   .simp
  have hspot:spot=none:=by
   obtain⟨cs',h1,-⟩:=hlc 0 l[0] (Dp h0);obtain⟨-,h3,h4⟩:=World.cells?_some h1;have h5:=h4 0 hsz;rw[Dp (by omega)]at h5;have:=World.cell?_spot h5;simpa[Addr.add]using this
  subst hspot
  have hcell: ∀i v,l[i]? =some v-> ∀k u,(ea v)[k]? =some u-> ∃c,W.cell? ⟨b,o+i*sz+k,none⟩=some c/\AY (Hh (fun _=>False) emp W) u c:=fun i v hv k u hu=>by
   obtain⟨cs',h1,h2⟩:=hlc i v hv;obtain⟨-,h3,h4⟩:=World.cells?_some h1;have hk:k<sz:=by rw[<-he v];exact(JM.1 hu).1
   obtain⟨c,hc',hr⟩:=BY.1 h2 k u hu;have h5:=h4 k hk;simp only[Gq]at hc';rw[add_plain,add_plain]at h5;exact⟨c,by rw[<-hc',<-h5],hr⟩
  refine⟨b,o,sz,rfl,BC.2 fun j e hj=>?_⟩;rw[OU]at hj;obtain⟨v,hv,rfl⟩:=Option.map_eq_some_iff.1 hj;refine⟨he v,BY.2 fun k u hu=>?_⟩;obtain⟨c,h1,h2⟩:=hcell j v hv k u hu;exact⟨c,by rw[iG];exact h1,h2⟩
end
end Go.Gl
namespace Go.Gl
variable {P:Program} {F:Nat->Prop} {Z:AE} {pu:List FuncId} {fz:List Nat}
end Go.Gl
namespace Go.Gl
def F2 {α β:Type} (R:α->β->Prop):List α->List β->Prop
 | [],l=>l= []
 | x::xs,l=> ∃y ys,R x y/\F2 R xs ys/\l=y::ys
section
variable {α β:Type} {R R':α->β->Prop}
def F2.nil:F2 R [] []:=rfl
def F2.cons {x:α} {y:β} {xs:List α} {ys:List β} (h:R x y) (h':F2 R xs ys):F2 R (x::xs) (y::ys):=⟨y,ys,h,h',rfl⟩
def F2.len: ∀ {xs:List α} {ys:List β},F2 R xs ys->ys.length=xs.length
 | [],_,h=>by cases h;rfl
 | _::_,_,⟨_,_,_,h,e⟩=>by subst e;simp[F2.len h]
def F2.get: ∀ {xs:List α} {ys:List β},F2 R xs ys-> ∀ {i:Nat} {x:α},xs[i]? =some x-> ∃y,ys[i]? =some y/\R x y
 | x::xs,_,⟨y,ys,h1,h2,e⟩,i,z,hi=>by
   subst e;cases i with
   | zero=>simp at hi;subst hi;exact⟨y,by simp,h1⟩
   | succ i=>simp at hi;simpa using F2.get h2 hi
def F2.mono (hm: ∀x y,R x y->R' x y): ∀ {xs:List α} {ys:List β},F2 R xs ys->F2 R' xs ys
 | [],_,h=>h
 | _::_,_,⟨y,ys,h1,h2,e⟩=>⟨y,ys,hm _ _ h1,F2.mono hm h2,e⟩
def F2.app: ∀ {xs xs':List α} {ys ys':List β},F2 R xs ys->F2 R xs' ys'->F2 R (xs++xs') (ys++ys')
 | [],_,_,_,h,h'=>by cases h;exact h'
 | _::_,_,_,_,⟨y,ys,h1,h2,e⟩,h'=>by subst e;exact⟨y,ys++_,h1,F2.app h2 h',rfl⟩
def F2.take: ∀ {xs:List α} {ys:List β},F2 R xs ys-> ∀n,F2 R (xs.take n) (ys.take n)
 | [],_,h,n=>by cases h;simp;rfl
 | _::_,_,⟨y,ys,h1,h2,e⟩,n=>by
   subst e;cases n with
   | zero=>exact rfl
   | succ n=>exact⟨y,_,h1,F2.take h2 n,rfl⟩
def F2.drop: ∀ {xs:List α} {ys:List β},F2 R xs ys-> ∀n,F2 R (xs.drop n) (ys.drop n)
 | [],_,h,n=>by cases h;simp;rfl
 | _::_,_,⟨y,ys,h1,h2,e⟩,n=>by
   subst e;cases n with
   | zero=>exact⟨y,ys,h1,h2,rfl⟩
   | succ n=>exact F2.drop h2 n
def F2.set: ∀ {xs:List α} {ys:List β},F2 R xs ys-> ∀(i:Nat) {x:α} {y:β},R x y->F2 R (xs.set i x) (ys.set i y)
 | [],_,h,i,_,_,_=>by cases h;simp;rfl
 | _::_,_,⟨y,ys,h1,h2,e⟩,i,_,_,h=>by
   subst e;cases i with
   | zero=>exact⟨_,_,h,h2,rfl⟩
   | succ i=>exact⟨_,_,h1,F2.set h2 i h,rfl⟩
def F2.rep {x:α} {y:β} (h:R x y): ∀n,F2 R (List.replicate n x) (List.replicate n y)
 | 0=>rfl
 | n+1=>⟨y,_,h,F2.rep h n,rfl⟩
def F2.mem: ∀ {xs:List α} {ys:List β},F2 R xs ys-> ∀ {y:β},y∈ys-> ∃x,x∈xs/\R x y
 | [],_,h,y,hy=>by cases h;cases hy
 | x ::_,_,⟨z,zs,h1,h2,e⟩,y,hy=>by
   subst e;rcases Fg.1 hy with rfl|hy
   .exact⟨x,.head _,h1⟩
   .obtain⟨u,hu,hr⟩:=F2.mem h2 hy
    exact⟨u,.tail _ hu,hr⟩
def F2.fn (hf: ∀x y z,R x y->R x z->y=z): ∀ {xs:List α} {ys zs:List β},F2 R xs ys->F2 R xs zs->ys=zs
 | [],_,_,h,h'=>by cases h;cases h';rfl
 | _::_,_,_,⟨y,ys,h1,h2,e⟩,⟨z,zs,h3,h4,e'⟩=>by
   subst e;subst e';rw[hf _ _ _ h1 h3,F2.fn hf h2 h4]
end
abbrev Ren:=Nat->Option (Nat×Nat)
def Ren.le (Y Y':Ren):Prop:= ∀i m,Y i=some m->Y' i=some m
def Ren.le.refl (Y:Ren):Y.le Y:=fun _ _ h=>h
def Ren.le.trans {a b c:Ren} (h:a.le b) (k:b.le c):a.le c:=fun i m e=>k i m (h i m e)
def bj (Y:Ren):Fn->Fn->Prop
 | .yield i,f=> ∃m,Y i=some m/\f= .yield m.1
 | fn,f=>f=fn
mutual
def RV (Y:Ren):V->V->Prop
 | .p n off,v=> ∃m,Y n=some m/\v= .p m.1 off
 | .sl n len _,v=> ∃m,Y n=some m/\v= .sl m.1 len m.2
 | .sv n sz off len,v=> ∃m,Y n=some m/\v= .sv m.1 sz off len
 | .pe n sz i off,v=> ∃m,Y n=some m/\v= .pe m.1 sz i off
 | .m n,v=> ∃m,Y n=some m/\v= .m m.1
 | .rp cs,v=> ∃cs',RL Y cs cs'/\v= .rp cs'
 | .l es f,v=> ∃es',RR Y es es'/\v= .l es' f
 | .f fn first cap,v=> ∃fn' first' cap',bj Y fn fn'/\RL Y first first'/\RL Y cap cap'/\v= .f fn' first' cap'
 | .FD t x,v=> ∃x',RV Y x x'/\v= .FD t x'
 | .a cs,v=> ∃cs',RL Y cs cs'/\v= .a cs'
 | .t cs,v=> ∃cs',RL Y cs cs'/\v= .t cs'
 | .b x,v=>v= .b x
 | .i k n,v=>v= .i k n
 | .s x,v=>v= .s x
 | .pn,v=>v= .pn
 | .mn,v=>v= .mn
 | .Lz,v=>v= .Lz
 | .Dv,v=>v= .Dv
 | .any,v=>v= .any
def RL (Y:Ren):List V->List V->Prop
 | [],l=>l= []
 | x::xs,l=> ∃y ys,RV Y x y/\RL Y xs ys/\l=y::ys
def RR (Y:Ren):List (List V)->List (List V)->Prop
 | [],l=>l= []
 | x::xs,l=> ∃y ys,RL Y x y/\RR Y xs ys/\l=y::ys
end
def Bc {Y:Ren}: ∀ {xs ys:List V},RL Y xs ys↔F2 (RV Y) xs ys
 | [],_=>by simp only[RL,F2]
 | x::xs,l=>by
   simp only[RL,F2];constructor
   .rintro⟨y,ys,h1,h2,rfl⟩;exact⟨y,ys,h1,Bc.1 h2,rfl⟩
   .rintro⟨y,ys,h1,h2,rfl⟩;exact⟨y,ys,h1,Bc.2 h2,rfl⟩
def Fo {Y:Ren}: ∀ {xs ys:List (List V)},RR Y xs ys↔F2 (F2 (RV Y)) xs ys
 | [],_=>by simp only[RR,F2]
 | x::xs,l=>by
   simp only[RR,F2];constructor
   .rintro⟨y,ys,h1,h2,rfl⟩;exact⟨y,ys,Bc.1 h1,Fo.1 h2,rfl⟩
   .rintro⟨y,ys,h1,h2,rfl⟩;exact⟨y,ys,Bc.2 h1,Fo.2 h2,rfl⟩
def bj.mono {Y Y':Ren} (h:Y.le Y') {f g:Fn} (k:bj Y f g):bj Y' f g:=by
 cases f<;>first|exact k|exact⟨_,h _ _ k.choose_spec.1,k.choose_spec.2⟩
mutual
def RV.mono {Y Y':Ren} (h:Y.le Y'): ∀(v v':V),RV Y v v'->RV Y' v v'
 | .p _ _,_,k| .sl _ _ _,_,k| .sv _ _ _ _,_,k| .pe _ _ _ _,_,k| .m _,_,k=>by
   simp only[RV]at k ⊢;obtain⟨m,h1,h2⟩:=k;exact⟨m,h _ _ h1,h2⟩
 | .rp cs,_,k=>by
   simp only[RV]at k ⊢;obtain⟨c,h1,h2⟩:=k;exact⟨c,RL.mono h _ _ h1,h2⟩
 | .a cs,_,k=>by
   simp only[RV]at k ⊢;obtain⟨c,h1,h2⟩:=k;exact⟨c,RL.mono h _ _ h1,h2⟩
 | .t cs,_,k=>by
   simp only[RV]at k ⊢;obtain⟨c,h1,h2⟩:=k;exact⟨c,RL.mono h _ _ h1,h2⟩
 | .l es f,_,k=>by
   simp only[RV]at k ⊢;obtain⟨c,h1,h2⟩:=k;exact⟨c,RR.mono h _ _ h1,h2⟩
 | .f fn a b,_,k=>by
   simp only[RV]at k ⊢;obtain⟨g,c,d,h1,h2,h3,h4⟩:=k;exact⟨g,c,d,h1.mono h,RL.mono h _ _ h2,RL.mono h _ _ h3,h4⟩
 | .FD t x,_,k=>by
   simp only[RV]at k ⊢;obtain⟨c,h1,h2⟩:=k;exact⟨c,RV.mono h _ _ h1,h2⟩
 | .b _,_,k| .i _ _,_,k| .s _,_,k| .pn,_,k| .mn,_,k| .Lz,_,k| .Dv,_,k| .any,_,k=>by
   simp only[RV]at k ⊢;exact k
def RL.mono {Y Y':Ren} (h:Y.le Y'): ∀(l l':List V),RL Y l l'->RL Y' l l'
 | [],_,k=>by simp only[RL]at k ⊢;exact k
 | x::xs,_,k=>by
   simp only[RL]at k ⊢;obtain⟨y,ys,h1,h2,h3⟩:=k;exact⟨y,ys,RV.mono h _ _ h1,RL.mono h _ _ h2,h3⟩
def RR.mono {Y Y':Ren} (h:Y.le Y'): ∀(l l':List (List V)),RR Y l l'->RR Y' l l'
 | [],_,k=>by simp only[RR]at k ⊢;exact k
 | x::xs,_,k=>by
   simp only[RR]at k ⊢;obtain⟨y,ys,h1,h2,h3⟩:=k;exact⟨y,ys,RL.mono h _ _ h1,RR.mono h _ _ h2,h3⟩
end
def bj.fn {Y:Ren} {f g g':Fn} (h:bj Y f g) (k:bj Y f g'):g=g':=by
 cases f<;>first|(simp only[bj]at h k;rw[h,k];done)|skip
 simp only[bj]at h k;obtain⟨m,h1,rfl⟩:=h;obtain⟨m',h2,rfl⟩:=k;rw[h1]at h2;cases h2;rfl
mutual
def RV.fn {Y:Ren}: ∀(v a b:V),RV Y v a->RV Y v b->a=b
 | .p _ _,_,_,k,k'| .sl _ _ _,_,_,k,k'| .sv _ _ _ _,_,_,k,k'| .pe _ _ _ _,_,_,k,k'| .m _,_,_,k,k'=>by
   simp only[RV]at k k';obtain⟨m,h1,rfl⟩:=k;obtain⟨m',h2,rfl⟩:=k';rw[h1]at h2;cases h2;rfl
 | .rp _,_,_,k,k'| .a _,_,_,k,k'| .t _,_,_,k,k'=>by
   simp only[RV]at k k';obtain⟨m,h1,rfl⟩:=k;obtain⟨m',h2,rfl⟩:=k';rw[RL.fn _ _ _ h1 h2]
 | .l _ _,_,_,k,k'=>by
   simp only[RV]at k k';obtain⟨m,h1,rfl⟩:=k;obtain⟨m',h2,rfl⟩:=k';rw[RR.fn _ _ _ h1 h2]
 | .f fn a b,_,_,k,k'=>by
   simp only[RV]at k k';obtain⟨g,c,d,h1,h2,h3,rfl⟩:=k;obtain⟨g',c',d',h1',h2',h3',rfl⟩:=k';rw[h1.fn h1',RL.fn _ _ _ h2 h2',RL.fn _ _ _ h3 h3']
 | .FD t x,_,_,k,k'=>by
   simp only[RV]at k k';obtain⟨m,h1,rfl⟩:=k;obtain⟨m',h2,rfl⟩:=k';rw[RV.fn _ _ _ h1 h2]
 | .b _,_,_,k,k'| .i _ _,_,_,k,k'| .s _,_,_,k,k'| .pn,_,_,k,k'| .mn,_,_,k,k'| .Lz,_,_,k,k'| .Dv,_,_,k,k'| .any,_,_,k,k'=>by
   simp only[RV]at k k';rw[k,k']
def RL.fn {Y:Ren}: ∀(l a b:List V),RL Y l a->RL Y l b->a=b
 | [],_,_,k,k'=>by simp only[RL]at k k';rw[k,k']
 | x::xs,_,_,k,k'=>by
   simp only[RL]at k k';obtain⟨y,ys,h1,h2,rfl⟩:=k;obtain⟨z,zs,h3,h4,rfl⟩:=k';rw[RV.fn _ _ _ h1 h3,RL.fn _ _ _ h2 h4]
def RR.fn {Y:Ren}: ∀(l a b:List (List V)),RR Y l a->RR Y l b->a=b
 | [],_,_,k,k'=>by simp only[RR]at k k';rw[k,k']
 | x::xs,_,_,k,k'=>by
   simp only[RR]at k k';obtain⟨y,ys,h1,h2,rfl⟩:=k;obtain⟨z,zs,h3,h4,rfl⟩:=k';rw[RL.fn _ _ _ h1 h3,RR.fn _ _ _ h2 h4]
end
def Nh:Fn->Bool
 | .yield _=>false
 | _=>true
mutual
def BG:V->Bool
 | .p _ _=>false
 | .sl _ _ _=>false
 | .sv _ _ _ _=>false
 | .pe _ _ _ _=>false
 | .m _=>false
 | .rp cs=>CG cs
 | .a cs=>CG cs
 | .t cs=>CG cs
 | .l es _=>SC es
 | .f fn a b=>Nh fn&&(CG a&&CG b)
 | .FD _ x=>BG x
 | _=>true
def CG:List V->Bool
 | []=>true
 | x::xs=>BG x&&CG xs
def SC:List (List V)->Bool
 | []=>true
 | x::xs=>CG x&&SC xs
end
mutual
def RV.pure {Y:Ren}: ∀(v:V),BG v=true->RV Y v v
 | .p _ _,h| .sl _ _ _,h| .sv _ _ _ _,h| .pe _ _ _ _,h| .m _,h=>by simp[BG]at h
 | .rp cs,h| .a cs,h| .t cs,h=>by simp only[BG]at h;simp only[RV];exact⟨_,RL.pure cs h,rfl⟩
 | .l es f,h=>by simp only[BG]at h;simp only[RV];exact⟨_,RR.pure es h,rfl⟩
 | .f fn a b,h=>by
   simp only[BG,A4]at h;simp only[RV];refine⟨fn,a,b,?_,RL.pure a h.2.1,RL.pure b h.2.2,rfl⟩;cases fn<;>first|rfl|(simp[Nh]at h)
 | .FD t x,h=>by simp only[BG]at h;simp only[RV];exact⟨_,RV.pure x h,rfl⟩
 | .b _,_| .i _ _,_| .s _,_| .pn,_| .mn,_| .Lz,_| .Dv,_| .any,_=>by simp only[RV]
def RL.pure {Y:Ren}: ∀(v:List V),CG v=true->RL Y v v
 | [],_=>by simp only[RL]
 | x::xs,h=>by
   simp only[CG,A4]at h;simp only[RL];exact⟨x,xs,RV.pure x h.1,RL.pure xs h.2,rfl⟩
def RR.pure {Y:Ren}: ∀(v:List (List V)),SC v=true->RR Y v v
 | [],_=>by simp only[RR]
 | x::xs,h=>by
   simp only[SC,A4]at h;simp only[RR];exact⟨x,xs,RL.pure x h.1,RR.pure xs h.2,rfl⟩
end
def RV.mG {Y:Ren} {v v':V} (h:RV Y v v') (hp:BG v=true):v'=v:=RV.fn v _ _ h (RV.pure v hp)
mutual
def Eu:V->V->Bool
 | .b x,.b y=>x==y
 | .i k n,.i k' n'=>decide (k=k')&&decide (n=n')
 | .s x,.s y=>decide (x=y)
 | .pn,.pn=>true
 | .p n o,.p n' o'=>Nat.beq n n'&&Nat.beq o o'
 | .rp a,.rp b=>NZ a b
 | .l a f,.l b g=>(f==g)&&cD a b
 | .sl n a b,.sl n' a' b'=>Nat.beq n n'&&(Nat.beq a a'&&Nat.beq b b')
 | .sv n a b c,.sv n' a' b' c'=>Nat.beq n n'&&(Nat.beq a a'&&(Nat.beq b b'&&Nat.beq c c'))
 | .pe n a b c,.pe n' a' b' c'=>Nat.beq n n'&&(Nat.beq a a'&&(Nat.beq b b'&&Nat.beq c c'))
 | .m n,.m n'=>Nat.beq n n'
 | .mn,.mn=>true
 | .f fn a b,.f fn' a' b'=>decide (fn=fn')&&(NZ a a'&&NZ b b')
 | .Lz,.Lz=>true
 | .FD t v,.FD t' v'=>Nat.beq t t'&&Eu v v'
 | .Dv,.Dv=>true
 | .a a,.a b=>NZ a b
 | .t a,.t b=>NZ a b
 | .any,.any=>true
 | _,_=>false
def NZ:List V->List V->Bool
 | [],[]=>true
 | x::xs,y::ys=>Eu x y&&NZ xs ys
 | _,_=>false
def cD:List (List V)->List (List V)->Bool
 | [],[]=>true
 | x::xs,y::ys=>NZ x y&&cD xs ys
 | _,_=>false
end
def C6 {a b:Nat} (h:Nat.beq a b=true):a=b:=U7 h
mutual
def Pc: ∀(a b:V),Eu a b=true->a=b
 | .b x,b,h=>by cases b<;>simp[Eu]at h;rw[h]
 | .i _ _,b,h=>by cases b<;>simp[Eu]at h;rw[h.1,h.2]
 | .s _,b,h=>by cases b<;>simp[Eu]at h;rw[h]
 | .pn,b,h=>by cases b<;>simp[Eu]at h;rfl
 | .p _ _,b,h=>by
   cases b<;>simp only[Eu,A4]at h<;>first|(rw[C6 h.1,C6 h.2];done)|cases h
 | .rp _,b,h=>by
   cases b<;>simp only[Eu]at h<;>first|(rw[G8 _ _ h];done)|cases h
 | .l _ _,b,h=>by
   cases b<;>simp only[Eu,A4,C1]at h<;>first|(rw[h.1,bM _ _ h.2];done)|cases h
 | .sl _ _ _,b,h=>by
   cases b<;>simp only[Eu,A4]at h<;>first|(rw[C6 h.1,C6 h.2.1,C6 h.2.2];done)|cases h
 | .sv _ _ _ _,b,h=>by
   cases b<;>simp only[Eu,A4]at h<;>first|(rw[C6 h.1,C6 h.2.1,C6 h.2.2.1,C6 h.2.2.2];done)|cases h
 | .pe _ _ _ _,b,h=>by
   cases b<;>simp only[Eu,A4]at h<;>first|(rw[C6 h.1,C6 h.2.1,C6 h.2.2.1,C6 h.2.2.2];done)|cases h
 | .m _,b,h=>by
   cases b<;>simp only[Eu]at h<;>first|(rw[C6 h];done)|cases h
 | .mn,b,h=>by cases b<;>simp[Eu]at h;rfl
 | .f _ _ _,b,h=>by
   cases b<;>simp only[Eu,A4,Cp]at h<;>first|(rw[h.1,G8 _ _ h.2.1,G8 _ _ h.2.2];done)|cases h
 | .Lz,b,h=>by cases b<;>simp[Eu]at h;rfl
 | .FD _ _,b,h=>by
   cases b<;>simp only[Eu,A4]at h<;>first|(rw[C6 h.1,Pc _ _ h.2];done)|cases h
 | .Dv,b,h=>by cases b<;>simp[Eu]at h;rfl
 | .a _,b,h=>by
   cases b<;>simp only[Eu]at h<;>first|(rw[G8 _ _ h];done)|cases h
 | .t _,b,h=>by
   cases b<;>simp only[Eu]at h<;>first|(rw[G8 _ _ h];done)|cases h
 | .any,b,h=>by cases b<;>simp[Eu]at h;rfl
def G8: ∀(a b:List V),NZ a b=true->a=b
 | [],[],_=>rfl
 | x::xs,y::ys,h=>by
   simp only[NZ,A4]at h;rw[Pc _ _ h.1,G8 _ _ h.2]
 | [],_::_,h=>by simp[NZ]at h
 | _::_,[],h=>by simp[NZ]at h
def bM: ∀(a b:List (List V)),cD a b=true->a=b
 | [],[],_=>rfl
 | x::xs,y::ys,h=>by
   simp only[cD,A4]at h;rw[G8 _ _ h.1,bM _ _ h.2]
 | [],_::_,h=>by simp[cD]at h
 | _::_,[],h=>by simp[cD]at h
end
inductive EO where
 | cs (vs:List V)
 | arr (sz:Nat) (es:List (List V))
 | map (kvs:List (V×V))
 | loop (st:rU) (env:Env) (ps:List Nat) (a b:AT)
inductive Tr (α:Type) where
 | leaf
 | node (o:Option α) (l r:Tr α)
def Tr.get {α:Type}:Tr α->Nat->Option α
 | .leaf,_=>none
 | .node o l r,k=>match k with
   | 0=>o
   | k+1=>bif Nat.beq (k % 2) 0 then l.get (k / 2)else r.get (k / 2)
def Tr.put {α β:Type} (x:Option α):Nat->Tr α->Nat->(Tr α->β)->β
 | 0,t,_,K=>K t
 | d+1,t,k,K=>match k,t with
   | 0,.leaf=>K (.node x .leaf .leaf)
   | 0,.node _ l r=>K (.node x l r)
   | k+1,.leaf=>bif Nat.beq (k % 2) 0 then Tr.put x d .leaf (k / 2) fun l=>K (.node none l .leaf)else Tr.put x d .leaf (k / 2) fun r=>K (.node none .leaf r)
   | k+1,.node o l r=>bif Nat.beq (k % 2) 0 then Tr.put x d l (k / 2) fun l=>K (.node o l r)else Tr.put x d r (k / 2) fun r=>K (.node o l r)
def A9:Nat:=40
abbrev Tr.set {α:Type} (x:Option α) (d:Nat) (t:Tr α) (k:Nat):Tr α:=Tr.put x d t k id
def Tr.put_eq {α β:Type} {x:Option α}: ∀(d:Nat) (t:Tr α) (k:Nat) (K:Tr α->β),Tr.put x d t k K=K (Tr.set x d t k)
 | 0,t,k,K=>rfl
 | d + 1,t,k,K=>by
   unfold Tr.set;cases k with
   | zero=>cases t<;>rfl
   | succ k=>
     cases t<;>simp only[Tr.put]<;>cases Nat.beq (k % 2) 0<;>simp only[cond_true,cond_false]<;>rw[Tr.put_eq d,Tr.put_eq d _ _ (fun _=>_)]<;>rfl
def Tr.ED {α:Type} {x:Option α}: ∀(d:Nat) (t:Tr α) (k:Nat),k+1<2 ^ d-> ∀j,(Tr.set x d t k).get j=if j=k then x else t.get j
 | 0,_,k,h,_=>by simp at h
 | d + 1, t, k,h,j=>by
   have hp:2 ^ (d+1)=2*2 ^ d:=by rw[Nat.pow_succ];omega
   cases k with
   | zero=>cases t<;>cases j<;>simp[Tr.set,Tr.put,Tr.get]
   | succ k=>
     have hk:k / 2+1<2 ^ d:=by omega
     cases t with
     | leaf=>
       simp only[Tr.set,Tr.put];cases hb:Nat.beq (k % 2) 0 with
       | true=>
         simp only[cond_true];rw[Tr.put_eq];have hb':=C6 hb;cases j with
         | zero=>simp[Tr.get]
         | succ j=>
           simp only[Tr.get,id];cases hj:Nat.beq (j % 2) 0 with
           | true=>
             have hj':=C6 hj;simp only[cond_true];rw[Tr.ED d _ _ hk];simp only[Tr.get];by_cases e:j=k
             .simp[e]
             .rw[if_neg (by omega),if_neg (by omega)]
           | false=>
             simp only[cond_false];rw[if_neg (fun e=>by(have:j=k:=by omega);subst this;rw[hj]at hb;cases hb)]
       | false=>
         simp only[cond_false];rw[Tr.put_eq];have hb':=Nat.ne_of_beq_eq_false hb;cases j with
         | zero=>simp[Tr.get]
         | succ j=>
           simp only[Tr.get,id];cases hj:Nat.beq (j % 2) 0 with
           | false=>
             have hj':=Nat.ne_of_beq_eq_false hj;simp only[cond_false];rw[Tr.ED d _ _ hk];simp only[Tr.get];by_cases e:j=k
             .simp[e]
             .rw[if_neg (by omega),if_neg (by omega)]
           | true=>
             simp only[cond_true];rw[if_neg (fun e=>by(have:j=k:=by omega);subst this;rw[hj]at hb;cases hb)]
     | node o l r=>
       simp only[Tr.set,Tr.put];cases hb:Nat.beq (k % 2) 0 with
       | true=>
         simp only[cond_true];rw[Tr.put_eq];have hb':=C6 hb;cases j with
         | zero=>simp[Tr.get]
         | succ j=>
           simp only[Tr.get,id];cases hj:Nat.beq (j % 2) 0 with
           | true=>
             have hj':=C6 hj;simp only[cond_true];rw[Tr.ED d _ _ hk];by_cases e:j=k
             .simp[e]
             .rw[if_neg (by omega),if_neg (by omega)]
           | false=>
             simp only[cond_false];rw[if_neg (fun e=>by(have:j=k:=by omega);subst this;rw[hj]at hb;cases hb)]
       | false=>
         simp only[cond_false];rw[Tr.put_eq];have hb':=Nat.ne_of_beq_eq_false hb;cases j with
         | zero=>simp[Tr.get]
         | succ j=>
           simp only[Tr.get,id];cases hj:Nat.beq (j % 2) 0 with
           | false=>
             have hj':=Nat.ne_of_beq_eq_false hj;simp only[cond_false];rw[Tr.ED d _ _ hk];by_cases e:j=k
             .simp[e]
             .rw[if_neg (by omega),if_neg (by omega)]
           | true=>
             simp only[cond_true];rw[if_neg (fun e=>by(have:j=k:=by omega);subst this;rw[hj]at hb;cases hb)]
end Go.Gl
