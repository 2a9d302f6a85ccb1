import Derived.Test.YtegbmnmnaijioaaGreatH12
import Derived.Test.YtegbmnmnaijioaaGreatH13
import Derived.Test.YtegbmnmnaijioaaGreatH14
set_option linter.all false
set_option linter.defProp false
noncomputable section
namespace Go.Gl
open Go.Proofs
attribute [local irreducible] A7 Ap Af AT AM Ae AS AU AL Ad AO AP Aw A1 Sat AX Az Ah W
def sJ (xs ys:List Fact) (a b:Bool) (hxl:xs.length≤Aj) (hyl:ys.length≤Aj) (ih: ∀x∈xs,∀y,Pure Tryz.prog 227 [.a (xF x),.a (xF y)] (.b (Cp x y))) :
    Pure Tryz.prog 293 [.l (facts xs) a,.l (facts ys) b,.f (.func 227) [] []] (.b (xs.length==ys.length&&K9 (xs.map Cp) ys)):=by
 have hM:=Mx;refine gP kZ ?_;have hs:=Sn;by_cases hl:xs.length=ys.length
 ·have he:(xs.length==ys.length&&K9 (xs.map Cp) ys)=K9 (xs.map Cp) ys:=by rw[DK.2 hl,EW]
  rw[he]
  conv=>whnf
  repeat'((first|apply st|(apply sq;intro K U)|(apply si;intro A B Y Z)|(apply Y;clear Z B Y A)|(apply U;clear U K)|refine⟨rfl,?_⟩|(constructor<;>intro hc<;>(try rw[hc])<;>(replace hc:=bp hc)<;>(try simp(disch:=omega) only[BT,wrap64,AN]at hc)<;>try(exfalso;omega))|fail)<;>conv=>whnf)
  refine C3 xs.length (fun k (_:Unit)=>[(17,eI (Bc k))]) (fun _ _=>[]) (fun k _=>K9 (xs.map Cp) ys=K9 ((xs.drop k).map Cp) (ys.drop k)) () rfl rfl hs ?_;clear hs;rintro k - σ hk hn hs;have hck:Bc k=k:=AN (by omega);rcases BU xs hk with⟨x,hx,hlt⟩|hke
  ·obtain⟨y,hy⟩: ∃y,ys[k]? =some y:=⟨_,EN (by omega)⟩
   have hy2:ys[(Bc k).toNat]? =some y:=by rw[hck];exact hy
   have c1:=ih x (DL hx) y;rw[drop_cons hx,drop_cons hy,Ct,K9]at hn;cases hxy:Cp x y<;>rw[hxy]at c1 hn
   ·conv=>whnf
    repeat'((first|apply st|(apply sq;intro K U)|(apply si;intro A B Y Z)|(apply Y;clear Z B Y A)|(apply U;clear U K)|refine⟨rfl,?_⟩|refine⟨kZ,?_⟩|refine UR ?_|refine ld ?_|refine Cg fun σ hs=>?_|refine Iw ?_|(refine DR (fun hc=>?_)<;>(try rw[hc])<;>clear hc)|refine Bg (c1.use ?_)|(intro nn hnn;generalize hg:A5 _ nn _=σ;refine CN hg fun hs=>?_;clear hg)|clear U K)<;>conv=>whnf)
    all_goals exact AI (by rw[hn];rfl)
   ·conv=>whnf
    repeat'((first|apply st|(apply sq;intro K U)|(apply si;intro A B Y Z)|(apply Y;clear Z B Y A)|(apply U;clear U K)|refine⟨rfl,?_⟩|refine⟨kZ,?_⟩|refine UR ?_|refine ld ?_|refine Cg fun σ hs=>?_|refine GS ?_|(refine DR (fun hc=>?_)<;>(try rw[hc])<;>clear hc)|refine Bg (c1.use ?_)|(intro nn hnn;generalize hg:A5 _ nn _=σ;refine CN hg fun hs=>?_;clear hg)|clear U K)<;>conv=>whnf)
    all_goals exact⟨hlt,(),rfl,by rw[hn];rfl,hs.less (MJ _)⟩
  ·rw[Au hke,Au (show k=ys.length by omega)]at hn
   conv=>whnf
   repeat'((first|apply st|(apply sq;intro K U)|(apply si;intro A B Y Z)|(apply Y;clear Z B Y A)|(apply U;clear U K)|refine⟨rfl,?_⟩|(refine Ew (fun hc=>?_)<;>(try rw[hc])<;>clear hc)|clear U K)<;>conv=>whnf)
   all_goals exact AI (by rw[hn];rfl)
 ·have he:(xs.length==ys.length&&K9 (xs.map Cp) ys)=false:=by rw[beq_eq_false_iff_ne.2 hl,Bool.false_and]
  rw[he]
  conv=>whnf
  repeat'((first|apply st|(apply sq;intro K U)|(apply si;intro A B Y Z)|(apply Y;clear Z B Y A)|(apply U;clear U K)|refine⟨rfl,?_⟩|(constructor<;>intro hc<;>(try rw[hc])<;>(replace hc:=bp hc)<;>(try simp(disch:=omega) only[BT,wrap64,AN]at hc)<;>try(exfalso;omega))|clear U K)<;>conv=>whnf)
  all_goals try(exfalso;omega)
  all_goals exact AI rfl
set_option maxHeartbeats 2000000 in
def xB (f g:Fact):Pure Tryz.prog 227 [.a (xF f),.a (xF g)] (.b (Cp f g)):=by
 induction f using Fact.ind generalizing g with
 | h f ih=>
   refine Pure.fit (by kernel_rfl) fun hf=>?_
   have⟨h2,h3,h4⟩:=J5 hf.1;have⟨g2,g3,g4⟩:=J5 hf.2.1;have c2:=fun a b=>sJ f.kids g.kids a b h2 g2 fun x hx y=>ih x hx y
   rw[PW];refine gV kZ ?_;have hs:=Sn
   conv=>whnf
   repeat'((first|apply st|(apply sq;intro K U)|(apply si;intro A B Y Z)|(apply Y;clear Z B Y A)|(apply U;clear U K)|refine⟨rfl,?_⟩|refine Pure.use (ZR _ _ _ _) ?_|refine Pure.use (c2 _ _) ?_|(constructor<;>intro hc<;>(try rw[hc])<;>(replace hc:=bp hc))|fail)<;>conv=>whnf)
   all_goals exact AI (by simp[*])
def HY (x:Fact):List Fact:=(if x.op=1 then []else if Cp x DN then [BY]else [BY,DN])++x.kids
def MO (w:AJ) (f x:Fact) (s:SN):Bool×SN:=match((HY x).map fun y=>Iu y f (s.1+1)).find? (Og w f)with|some g=>(true,(s.1+1,g))|none=>(false,(s.1+1,s.2))
def qe (w:AJ) (f x:Fact) (s:SN):(MO w f x s).2.1=s.1+1:=by
 rw[MO];split<;>rfl
def yM (w:AJ) (f x:Fact):Prop:=x.kids.length≤2∧ ∀y∈HY x,arity y=true∧ ∀n,Al w (Iu y f n)=true∧lv (Iu y f n)≤40
abbrev stH (n1 n2 n3 n6:Nat) (s:SN):List At:=[.box n1 [eI s.1],.box n2 (xF BY),.box n3 (xF DN),.box n6 (xF s.2)]
set_option maxHeartbeats 8000000 in
def lQ (w : AJ) (hw:DH w) (f:Fact) (hnf:Al w f=true) (hlf:lv f≤12) (har:arity f=true) (hcf:Br f≤100) (n1 n2 n3 n6:Nat) :
    DI Tryz.prog (.f (.func 226) [] [.p n1 0,.p n2 0,.p n3 0,.rp (xF f),.rp [.rp (wC w (B9 w.parents))],.p n6 0]) (fun y=> .a (xF y)) (stH n1 n2 n3 n6) (MO w f) (v8 (yM w f)):=by
 rintro x ⟨n,o⟩ ⟨⟨hk2,hal⟩,hn0,hn9⟩ σ hs;dsimp only at hn0 hn9;have hcx:1≤Br x:=by rw[Cm];omega
 have hM:=Mx;refine Bg ?_;show A7 Tryz.prog 226 ([]++[.a (xF x)]++_) σ _;have c5:=xB x DN;have hwn:IntKind.i64.wrap (n+1)=n+1:=wrap64 (by omega) (by omega);refine uE kZ ?_;replace hs:Sat σ [.box n1 [eI n],.box n2 (xF BY),.box n3 (xF DN),.box n6 (xF o),.own (.l [] true) 6 (facts [])]:=GV hs 6
 have hcl:(HY x).length≤4:=by
  rw[HY,Qi]
  have:(if x.op=1 then []else if Cp x DN then [BY]else [BY,DN]:List Fact).length≤2:=by
   split
   ·simp
   ·split<;>simp
  omega
 have hst: ∀g,((HY x).map fun y=>Iu y f (n+1)).find? (Og w f)=g→MO w f x (n,o)=match g with|some g=>(true,(n+1,g))|none=>(false,(n+1,o)):=fun g e=>by rw[MO,e]
 by_cases hx1:x.op=1<;>cases hx2:Cp x DN<;>rw[hx2]at c5
 all_goals
  conv=>whnf
  repeat'((first|apply st|(apply sq;intro K U)|(apply si;intro A B Y Z)|(apply Y;clear Z B Y A)|(apply U;clear U K)|refine⟨rfl,?_⟩|refine⟨kZ,?_⟩|refine ld ?_|refine Io fun σ hs=>?_|refine yQ fun v σ hs hsl=>?_|refine Iw ?_|refine GS ?_|(refine J2 hs 4 (ys:=x.kids) (enc:=Fw) rfl ⟨by simp only[Qi,K1,List.length_nil]<;>omega,by simp only[Qi,K1,List.length_nil]<;>omega⟩ KY fun v σ hs=>?_)|refine c5.use ?_|(constructor<;>intro hc<;>(try rw[hc])<;>(replace hc:=bp hc)<;>try(exfalso;omega))|fail)<;>conv=>whnf)
  rw[hwn]at hs
  replace hs:Sat σ [.box n1 [eI (n+1)],.box n2 (xF BY),.box n3 (xF DN),.box n6 (xF o),.own v 6 (facts (HY x))]:=by
   first|rw[HY,if_pos hx1]|rw[HY,if_neg hx1,hx2]
   exact hs
  clear c5 hx1 hx2;generalize HY x=L at *
  conv=>whnf
  repeat'((first|apply st|(apply Y;clear Z B Y A)|(apply U;clear U K)|refine lo ?_|fail)<;>conv=>whnf)
  refine C3 L.length (fun j (_:Unit)=>[(36,eI (Bc j))]) (fun _ _=>[.box n1 [eI (n+1)],.box n2 (xF BY),.box n3 (xF DN),.box n6 (xF o),.own v 6 (facts L)]) (fun j _=>(L.map fun y=>Iu y f (n+1)).find? (Og w f)=((L.drop j).map fun y=>Iu y f (n+1)).find? (Og w f)) () rfl rfl hs ?_;clear hs;rintro j - σ hj hn hs;have hcj:Bc j=j:=AN (by omega);rcases BU L hj with⟨y,hy,hjl⟩|hje
  ·rw [drop_cons hy,Ct,List.find?_cons]at hn
   obtain⟨hya,hgn⟩:=hal y (DL hy);obtain⟨hg1,hg2⟩:=hgn (n+1);have c6:=y0 y f har (by omega) (n+1) (by omega) (by omega);have hyj:L[(Bc j).toNat]? =some y:=by rw[hcj];exact hy
   generalize Iu y f (n+1)=g at *;have c7:=QR w hw f g hnf hg1 (by omega);have c8:=QR w hw g f hg1 hnf (by omega);rw[Og]at hn;cases hi1:XK w f g<;>rw[hi1]at c7 hn
   ·conv=>whnf
    repeat'((first|apply st|(apply sq;intro K U)|(apply si;intro A B Y Z)|(apply Y;clear Z B Y A)|(apply U;clear U K)|refine⟨rfl,?_⟩|refine⟨kZ,?_⟩|refine ld ?_|refine Cg fun σ hs=>?_|refine oi ?_|refine k9 ?_|(refine DR (fun hc=>?_)<;>(try rw[hc])<;>clear hc)|refine c6.use ?_|refine c7.use ?_|(intro nn hnn;generalize hg:A5 _ nn _=σ;refine CN hg fun hs=>?_;clear hg)|clear U K)<;>conv=>whnf)
    all_goals exact⟨hjl,(),rfl,hn,hs.less ((K0 _ _).trans (K0 _ _))⟩
   ·cases hi2:XK w g f<;>rw[hi2]at c8 hn
    ·conv=>whnf
     repeat'((first|apply st|(apply sq;intro K U)|(apply si;intro A B Y Z)|(apply Y;clear Z B Y A)|(apply U;clear U K)|refine⟨rfl,?_⟩|refine⟨kZ,?_⟩|refine ld ?_|refine Cg fun σ hs=>?_|refine oi ?_|refine k9 ?_|refine GS ?_|(refine DR (fun hc=>?_)<;>(try rw[hc])<;>clear hc)|refine c6.use ?_|refine c7.use ?_|refine c8.use ?_|(intro nn hnn;generalize hg:A5 _ nn _=σ;refine CN hg fun hs=>?_;clear hg)|clear U K)<;>conv=>whnf)
     all_goals exact⟨hjl,(),rfl,hn,hs.less ((K0 _ _).trans (K0 _ _))⟩
    ·conv=>whnf
     repeat'((first|apply st|(apply sq;intro K U)|(apply si;intro A B Y Z)|(apply Y;clear Z B Y A)|(apply U;clear U K)|refine⟨rfl,?_⟩|refine⟨kZ,?_⟩|refine ld ?_|refine Cg fun σ hs=>?_|refine oi ?_|refine k9 ?_|refine Iw ?_|(refine DR (fun hc=>?_)<;>(try rw[hc])<;>clear hc)|refine c6.use ?_|refine c7.use ?_|refine c8.use ?_|(intro nn hnn;generalize hg:A5 _ nn _=σ;refine CN hg fun hs=>?_;clear hg)|clear U K)<;>conv=>whnf)
     rw[hst _ hn];exact A4 hs (.cons _ (.cons _ (.cons₂ _ (.cons₂ _ (.cons₂ _ (.cons₂ _ (.cons _ .slnil))))))) (.refl _) fun σ' hs'=>⟨rfl,hs'⟩
  ·rw[hje,List.drop_of_length_le (Ht _),List.map_nil,List.find?_nil]at hn
   conv=>whnf
   repeat'((first|apply st|(apply sq;intro K U)|(apply si;intro A B Y Z)|(apply Y;clear Z B Y A)|(apply U;clear U K)|refine⟨rfl,?_⟩|(refine Ew (fun hc=>?_)<;>(try rw[hc])<;>clear hc)|clear U K)<;>conv=>whnf)
   rw[hst _ hn];exact A4 hs (.cons₂ _ (.cons₂ _ (.cons₂ _ (.cons₂ _ (.cons _ .slnil))))) (.refl _) fun σ' hs'=>⟨rfl,hs'⟩
def Bf (w:AJ):Nat→Fact→Fact
 | 0,f=>f
 | n+1,f=>match Db w f with|some g=>Bf w n g|none=>f
attribute [local irreducible] Fz
def LA (w:AJ) (f:Fact):Bool×SN:=Qo (MO w f) f (-1,f)
def y3 (f:Fact):Pure Tryz.prog 224 [.a (xF f)] (.a (xF (C9 f))):=by
 refine gW kZ ?_;have hs:=Sn
 conv=>whnf
 repeat'((first|apply st|(apply sq;intro K U)|(apply si;intro A B Y Z)|(apply Y;clear Z B Y A)|(apply U;clear U K)|refine⟨kZ,?_⟩|refine ld ?_|refine Cg fun σ hs=>?_|(intro nn hnn;generalize hg:A5 _ nn _=σ;refine CN hg fun hs=>?_;clear hg)|fail)<;>conv=>whnf)
 refine A8 (.a (.cons (.refl _) (.cons (.refl _) (.cons Ds (.cons (.refl _) (.cons (.refl _) (.cons ?_ .nil)))))));refine .l (fun h=>by cases h) ?_;simp only[C9,Fact.kids,List.map,Ba];exact EG _
def lR (w:AJ) (hw:DH w) (f:Fact) (hnf:Al w f=true) (hlf:lv f≤12) (har:arity f=true) (hcf:Br f≤100) (D:Fact→Prop) (hDf:D f) (hD: ∀y,D y→yM w f y∧ ∀k∈y.kids,D k) :
    Pure Tryz.prog 152 [.rp (wC w (B9 w.parents)),.a (xF f)] (.t [.a (xF (LA w f).2.2),.b (LA w f).1]):=by
 have c1:Pure Tryz.prog 224 [.a [.i .i64 1,.i .i64 0,.l [] true,.i .i64 0,.i .i64 0,.l [] true]] (.a (xF DN)):=Pure.arg (y3 BY) (.cons (.a (.cons (.refl _) (.cons (.refl _) (.cons Ds (.cons (.refl _) (.cons (.refl _) (.cons Ds .nil))))))) .nil);refine u0 kZ ?_;have hs:=Sn
 conv=>whnf
 repeat'((first|(refine pg ?_;intro K U)|(apply si;intro A B Y Z)|(apply Y;clear Z B Y A)|(apply U;clear U K)|(intro nn hnn;generalize hg:A5 _ nn _=σ;refine CN hg fun hs=>?_;clear hg)|fail)<;>conv=>whnf)
 clear hnn;generalize nn=n4 at *;refine wO ?_
 conv=>whnf
 repeat'((first|(refine pg ?_;intro K U)|(apply si;intro A B Y Z)|(apply Y;clear Z B Y A)|(apply U;clear U K)|refine Cg fun σ hs=>?_|refine c1.use ?_|(intro nn hnn;generalize hg:A5 _ nn _=σ;refine CN hg fun hs=>?_;clear hg)|fail)<;>conv=>whnf)
 replace hs:=GV hs 6;refine xe hs 3 1 rfl rfl (vs2:=xF BY) (fun σ2 h=> .cons (.refl _) (.cons (.refl _) (.cons h (.cons (.refl _) (.cons (.refl _) (.cons h .nil)))))) (fun σ2 h=> .cons (.refl _) (.cons (.refl _) (.cons (.refl _) (.cons (.refl _) (.cons (.refl _) .nil))))) fun σ hs=>?_
 clear hnn;generalize nn=n7 at *
 conv=>whnf
 repeat'((first|apply st|(refine pg ?_;intro K U)|(apply si;intro A B Y Z)|(apply Y;clear Z B Y A)|(apply U;clear U K)|refine⟨kZ,?_⟩|refine Io fun σ hs=>?_|refine Cg fun σ hs=>?_|(intro nn hnn;generalize hg:A5 _ nn _=σ;refine CN hg fun hs=>?_;clear hg)|fail)<;>conv=>whnf)
 replace hs:Sat σ [.box nn [eI (-1)],.box _ (xF f),.box n7 (xF DN),.box _ (xF BY),.box n4 [.i .i64 0,.i .i64 0,.l [] true,.i .i64 0,.i .i64 0,.l [] true]]:=hs;replace hs:=Sat.front (j:=3) (Sat.front (j:=3) (Sat.front (j:=2) (Sat.front (j:=1) hs rfl) rfl) rfl) rfl;refine wO ?_
 conv=>whnf
 repeat'((first|apply st|(refine pg ?_;intro K U)|(apply si;intro A B Y Z)|refine⟨kZ,?_⟩|fail)<;>conv=>whnf)
 refine(ja (AF:=D) (qe w f) (fun y hy=>⟨(hD y hy).1.1,(hD y hy).2⟩) (fun y s hd=>lQ w hw f hnf hlf har hcf _ _ _ _ y s ⟨(hD y hd.1).1,hd.2⟩) f (-1,f) ⟨hDf,by dsimp only;omega,by dsimp only;omega⟩).use (rest:=[_]) hs ?_;clear hs;rintro r post σ ⟨rfl,rfl⟩ hs;have hsp:LA w f=Qo (MO w f) f (-1,f):=rfl;generalize Qo (MO w f) f (-1,f)=q at *;obtain⟨b,i,g⟩:=q;replace hs:Sat σ [.box _ [eI i],.box _ (xF BY),.box n7 (xF DN),.box _ (xF g),.box n4 [.i .i64 0,.i .i64 0,.l [] true,.i .i64 0,.i .i64 0,.l [] true]]:=hs
 conv=>whnf
 repeat'((first|apply st|(apply sq;intro K U)|(apply si;intro A B Y Z)|(apply Y;clear Z B Y A)|(apply U;clear U K)|refine⟨kZ,?_⟩|refine ld ?_|refine Cg fun σ hs=>?_|refine wO ?_|fail)<;>conv=>whnf)
 all_goals exact AI (by rw[hsp];rfl)
end Go.Gl
namespace Go.Gl
open Go.Proofs
attribute [local irreducible] A7 Ap Af AT AM Ae AS AU AL Ad AO AP Aw A1 Sat AX Az Ah W
structure ku (w:AJ) (AF:Fact→Prop) (M:Fact→Nat):Prop where
 node: ∀f,AF f→Al w f=true∧lv f≤12∧arity f=true∧Br f≤100∧ ∃D:Fact→Prop,D f∧ ∀y,D y→yM w f y∧ ∀k∈y.kids,D k
 step: ∀f,AF f→LA w f=((Db w f).isSome,(LA w f).2.1,(Db w f).getD f)
 next: ∀f g,AF f→Db w f=some g→AF g∧M g<M f
def WS {w:AJ} {f:Fact} (h:Db w f=none): ∀n,Bf w n f=f
 | 0=>rfl
 | n+1=>by rw[Bf,h]
def Nf {w:AJ} {f g:Fact} (h:Db w f=some g) (n:Nat):Bf w (n+1) f=Bf w n g:=by rw[Bf,h]
def wW {w:AJ} {AF:Fact→Prop} {M:Fact→Nat} (hS:ku w AF M): ∀(m:Nat) (f:Fact),AF f→M f≤m→ ∀n n',M f<n→M f<n'→Bf w n f=Bf w n' f:=fun m=>by
 induction m with
 | zero=>
   intro f hf hm n n' h1 h2;obtain⟨a,rfl⟩: ∃a,n=a+1:=⟨n - 1,by omega⟩
   obtain⟨b,rfl⟩: ∃b,n'=b+1:=⟨n' - 1,by omega⟩
   rw[Bf,Bf];cases hst:Db w f with
   | none=>rfl
   | some g=>have:=(hS.next f g hf hst).2;omega
 | succ m ih=>
   intro f hf hm n n' h1 h2;obtain⟨a,rfl⟩: ∃a,n=a+1:=⟨n - 1,by omega⟩
   obtain⟨b,rfl⟩: ∃b,n'=b+1:=⟨n' - 1,by omega⟩
   rw[Bf,Bf];cases hst:Db w f with
   | none=>rfl
   | some g=>
     have:=hS.next f g hf hst
     exact ih g this.1 (by omega) a b (by omega) (by omega)
def nk (f:Fact):arity f=true→Pure Tryz.prog 153 [.a (xF f)] (.a (xF f)):=by
 induction f using Fact.ind with
 | h f ih=>
   intro har;rw[ET,A9,DK,Ev]at har;have hk2:=S5 f;have hM:=Mx;have c1:=Po f.path false;refine uz kZ ?_;have hs:=Sn
   conv=>whnf
   repeat'((first|apply st|(apply sq;intro K U)|(apply si;intro A B Y Z)|(apply Y;clear Z B Y A)|(apply U;clear U K)|refine ld ?_|refine Io fun σ hs=>?_|refine c1.use ?_|(intro nn hnn;generalize hg:A5 _ nn _=σ;refine CN hg fun hs=>?_;clear hg)|fail)<;>conv=>whnf)
   rename_i n1 _ _ _ _ _ _ _;refine C3 f.kids.length (fun k (_:V)=>[(15,eI (Bc k))]) (fun k v=>[.box nn [.i .i64 0,.i .i64 0,.l [] true,.i .i64 0,.i .i64 0,.l [] true],.box n1 [eI f.op,eI f.arg,.l (iL f.path) false,eI f.cls,eI f.n,v],.own v 6 (facts (f.kids.take k))]) (fun _ _=>True) (.l [] true) rfl trivial (GV hs 6) ?_;clear hs;rintro k v σ hk - hs;rcases BU f.kids hk with⟨x,hx,hlt⟩|hke
   ·have hck:Bc k=k:=AN (by omega)
    have hst:=Aa hx;have c2:=ih x (DL hx) (har.2 x (DL hx));have hzl:(f.kids.take k).length≤2:=by rw[Ny];omega
    generalize f.kids.take k=zs at *;have hll:zs.length<Aj∧(zs.length+1)*80≤140737488355328:=by omega
    conv=>whnf
    repeat'((first|apply st|(apply sq;intro K U)|(apply si;intro A B Y Z)|(apply Y;clear Z B Y A)|(apply U;clear U K)|apply dr|refine rk ?_ ?_|exact fun s e=>by cases e;rfl|refine⟨rfl,?_⟩|refine⟨kZ,?_⟩|refine UR ?_|refine ld ?_|refine Io fun σ hs=>?_|refine Cg fun σ hs=>?_|refine yQ fun v σ hs hsl=>?_|(refine DR (fun hc=>?_)<;>(try rw[hc])<;>clear hc)|refine c2.use ?_|(intro nn hnn;generalize hg:A5 _ nn _=σ;refine CN hg fun hs=>?_;clear hg)|clear U K)<;>conv=>whnf)
    exact⟨hlt,_,rfl,trivial,by rw[hst];exact hs.less (K0 _ _)⟩
   ·rw[BI hke]at hs
    conv=>whnf
    repeat'((first|apply st|(apply sq;intro K U)|(apply si;intro A B Y Z)|(apply Y;clear Z B Y A)|(apply U;clear U K)|refine⟨rfl,?_⟩|refine⟨kZ,?_⟩|refine ld ?_|(refine Ew (fun hc=>?_)<;>(try rw[hc])<;>clear hc)|clear U K)<;>conv=>whnf)
    have o1:=G9 hs 2 rfl;refine H5 hs 0 rfl rfl rfl (by simp[o1]) (by decide) fun σ hs=>?_
    clear o1
    conv=>whnf
    repeat'((first|apply st|(apply Y;clear Z B Y A)|(apply U;clear U K)|refine⟨kZ,?_⟩|refine ld ?_|fail)<;>conv=>whnf)
    exact A8 (.a (.cons (.refl _) (.cons (.refl _) (.cons (.refl _) (.cons (.refl _) (.cons (.refl _) (.cons (hs.IV 2 rfl) .nil)))))))
def lW (w:AJ) (hw:DH w) {AF:Fact→Prop} {M:Fact→Nat} (hS:ku w AF M) (f:Fact) (hf:AF f) (hfm:LG w f=true) (hM2:M f<200):Pure Tryz.prog 93 [.a (BC w),.a (xF f)] (.t [.a (xF (Bf w 200 f)),eI 0]):=by
 have c1:Pure Tryz.prog 118 [.a (BC w),.l [xF f] true] (.t [.rp (wC w (B9 w.parents)),.b true]):=by
  have:=OH w hw [f] true (by simp);simp only[facts,Ct,List.map_nil,Ba,SZ,List.all_nil,Bool.and_true,hfm]at this;exact this
 have c2: ∀g,AF g→Pure Tryz.prog 152 [.rp (wC w (B9 w.parents)),.a (xF g)] (.t [.a (xF ((Db w g).getD g)),.b (Db w g).isSome]):=fun g hg=>by
  obtain⟨h1,h2,h3,h4,D,h5,h6⟩:=hS.node g hg;have:=lR w hw g h1 h2 h3 h4 D h5 h6;rw[hS.step g hg]at this;exact this
 obtain⟨Rv,G⟩: ∃Rv,Rv=Bf w 200 f:=⟨_,rfl⟩
 rw[←G];replace G: ∀n,M f<n→Bf w n f=Rv:=fun n hn=>by rw[G];exact wW hS _ f hf (Ht _) _ _ hn hM2
 have hgo: ∀x g,AF x→(∀n,M x<n→Bf w n x=Rv)→Db w x=some g→AF g∧M g<M x∧ ∀n,M g<n→Bf w n g=Rv:=fun x g hx h hst=>by
  obtain⟨h1,h2⟩:=hS.next x g hx hst
  refine⟨h1,h2,fun n hn=>?_⟩;rw[wW hS _ g h1 (Ht _) n (M x+1) hn (by omega),←h (M x+2) (by omega),Nf hst]
 have hnone: ∀x,(∀n,M x<n→Bf w n x=Rv)→Db w x=none→x=Rv:=fun x h hst=>by
  rw[←h (M x+1) (by omega),Bf,hst]
 refine xr kZ ?_;have hs:=Sn
 conv=>whnf
 repeat'((first|apply st|(apply sq;intro K U)|(apply si;intro A B Y Z)|(apply Y;clear Z B Y A)|(apply U;clear U K)|refine⟨kZ,?_⟩|refine ld ?_|refine GS ?_|refine c1.use ?_|(intro nn hnn;generalize hg:A5 _ nn _=σ;refine CN hg fun hs=>?_;clear hg)|fail)<;>conv=>whnf)
 refine Pure.use (c2 f hf) ?_;rename_i n3 _ _ _
 conv=>whnf
 repeat'((first|apply st|(apply sq;intro K U)|(apply Y;clear Z B Y A)|(apply U;clear U K)|refine Cg fun σ hs=>?_|fail)<;>conv=>whnf)
 refine KI (fun x:Fact×Bool=>if x.2 then M x.1+1 else 0) (fun x=>[(8,.b x.2)]) (fun x=>[.box nn [.i .i64 0,.i .i64 0,.l [] true,.i .i64 0,.i .i64 0,.l [] true],.box n3 (xF x.1)]) (fun x=>AF x.1∧(∀n,M x.1<n→Bf w n x.1=Rv)∧(x.2=false→Db w x.1=none)) ((Db w f).getD f,(Db w f).isSome) rfl ?_ hs ?_
 ·cases hst:Db w f with
  | none=>exact⟨hf,G,fun _=>hst⟩
  | some g=>
    obtain⟨h1,h2,h3⟩:=hgo f g hf G hst;exact⟨h1,h3,fun h=>by cases h⟩
 clear hs;rintro⟨x,b⟩ σ ⟨hx,hxn,hxf⟩ hs;dsimp only at hx hxn hxf hs;dsimp only;cases b
 ·have hxR:=hnone x hxn (hxf rfl)
  have c3:=nk x (hS.node x hx).2.2.1
  conv=>whnf
  repeat'((first|apply st|(apply sq;intro K U)|(apply si;intro A B Y Z)|(apply Y;clear Z B Y A)|(apply U;clear U K)|refine⟨kZ,?_⟩|refine ld ?_|refine Cg fun σ hs=>?_|refine c3.use ?_|clear U K)<;>conv=>whnf)
  all_goals exact AI (by rw[←hxR];rfl)
 ·have c3:=c2 x hx
  cases hst:Db w x with
  | none=>
    rw[hst]at c3;dsimp only[Option.getD,Option.isSome]at c3
    conv=>whnf
    repeat'((first|apply st|(apply sq;intro K U)|(apply si;intro A B Y Z)|(apply Y;clear Z B Y A)|(apply U;clear U K)|refine⟨kZ,?_⟩|refine ld ?_|refine Cg fun σ hs=>?_|refine c3.use ?_|clear U K)<;>conv=>whnf)
    all_goals exact⟨(x,false),by simp,rfl,⟨hx,hxn,fun _=>hst⟩,hs⟩
  | some g=>
    rw[hst]at c3;dsimp only[Option.getD,Option.isSome]at c3;obtain⟨h1,h2,h3⟩:=hgo x g hx hxn hst
    conv=>whnf
    repeat'((first|apply st|(apply sq;intro K U)|(apply si;intro A B Y Z)|(apply Y;clear Z B Y A)|(apply U;clear U K)|refine⟨kZ,?_⟩|refine ld ?_|refine Cg fun σ hs=>?_|refine c3.use ?_|clear U K)<;>conv=>whnf)
    all_goals exact⟨(g,true),by simp;omega,rfl,⟨h1,h3,fun h=>by cases h⟩,hs⟩
attribute [local irreducible] Fz
def Dw (p:Prog) (l:List Int):List Fact:=(l.filter fun m=>(BG p m).kind==1).map fun m=>(BG p m).fact
def E4 (p:Prog) (gen:Int):Fact:=if(Dw p (Hv p gen)).isEmpty then .mk 1 0 [] 0 0 []else C9 (Qq 7 (Dw p (Hv p gen)))
def YI (p:Prog) (l:List Int) (x:Int):Dw p (l++[x])=if(BG p x).kind==1 then Dw p l++[(BG p x).fact]else Dw p l:=by
 rw[Dw,List.filter_append];cases h:(BG p x).kind==1<;>simp[Dw,h]
def Ro (p:Prog) (l:List Int):(Dw p l).length≤l.length:=by
 rw[Dw,BT];exact Q7 _ _
end Go.Gl
namespace Go.Gl
open Go.Proofs
attribute [local irreducible] A7 Ap Af AT AM Ae AS AU AL Ad AO AP Aw A1 Sat AX Az Ah W
def pQ (w:AJ) (f:Fact):Prop:= ∃AF M,ku w AF M∧AF f∧M f<200∧ ∀g,AF g→qf w g
def Ln (p:Prog) (gen:Int):Fact×Int:=if KH p gen then(if(Hv p gen).length≤8 then(if CA (AR p) (E4 p gen)then(Bf (AR p) 200 (E4 p gen),0)else(U1,3))else(U1,3))else(U1,2)
attribute [local irreducible] Fz
def Xy (p:Prog) (gen:Int):Pure Tryz.prog 71 [.a (oS p gen)] (.b true):=by
 refine xy kZ ?_;have hs:=Sn
 conv=>whnf
 repeat'((first|apply st|(apply sq;intro K U)|(apply si;intro A B Y Z)|(apply Y;clear Z B Y A)|(apply U;clear U K)|fail)<;>conv=>whnf)
 all_goals exact AI rfl
set_option maxHeartbeats 4000000 in
def kL (p : Prog) (gen:Int) (hsh:KH p gen=true→CA (AR p) (E4 p gen)=true→pQ (AR p) (E4 p gen)):Pure Tryz.prog 31 [.a (Be p),eI gen] (.t [.a (xF (Ln p gen).1),eI (Ln p gen).2]):=by
 refine Pure.fit (by kernel_rfl) fun hf=>?_
 have F:=I6 hf.1;have⟨p1,p2,p3,p4⟩:=GD hf.1;have hM:=Mx;have c1:=vW p gen 71 [] true fun _=>Xy p gen
 rw[Ln];cases h1:KH p gen
 ·rw[(ZE h1 _).1,(ZE h1 _).2]at c1
  rw[if_neg (by decide)];refine fD kZ ?_;have hs:=Sn
  conv=>whnf
  repeat'((first|apply st|(apply sq;intro K U)|(apply si;intro A B Y Z)|(apply Y;clear Z B Y A)|(apply U;clear U K)|refine⟨rfl,?_⟩|refine⟨kZ,?_⟩|refine ld ?_|refine Cg fun σ hs=>?_|refine c1.use ?_|(constructor<;>intro hc<;>(try rw[hc])<;>(replace hc:=bp hc)<;>try(exfalso;omega))|(intro nn hnn;generalize hg:A5 _ nn _=σ;refine CN hg fun hs=>?_;clear hg)|clear U K)<;>conv=>whnf)
  all_goals exact A8 (.t (.cons KZ (.cons (.refl _) .nil)))
 rw[if_pos rfl];replace hsh:=hsh h1;rw[(ZD h1).1,(ZD h1).2]at c1;by_cases h3:(Hv p gen).length≤8
 ·rw [if_pos h3]at c1 ⊢
  rw[KH,A9]at h1;have h16:=(look_ok h1.1).many;have c4:=qg p gen (E4 p gen) h1.1;have c5:=Tw p;rw[h1.1,if_pos rfl]at c5;have hgw:=Uy h1.1;have hmm:=gE (p:=p) (gen:=gen);refine fD kZ ?_;have hs:=Sn
  conv=>whnf
  repeat'((first|apply st|(refine pg ?_;intro K U)|(apply si;intro A B Y Z)|(apply Y;clear Z B Y A)|(apply U;clear U K)|refine⟨rfl,?_⟩|refine⟨kZ,?_⟩|refine ld ?_|refine Cg fun σ hs=>?_|refine c1.use ?_|refine wO ?_|(constructor<;>intro hc<;>(try rw[hc])<;>(replace hc:=bp hc)<;>(try simp(disch:=omega) only[BT,wrap64,AN]at hc)<;>try(exfalso;omega))|(intro nn hnn;generalize hg:A5 _ nn _=σ;refine CN hg fun hs=>?_;clear hg)|fail)<;>conv=>whnf)
  rename_i n4 _ _ _ _ _;refine C3 (Hv p gen).length (fun k v=>[(8,v),(27,eI (Bc k))]) (fun k v=>[.box nn (oS p gen),.box n4 [.i .i64 0,.i .i64 0,.l [] true,.i .i64 0,.i .i64 0,.l [] true],.own v 6 (facts (Dw p ((Hv p gen).take k)))]) (fun _ _=>True) (.l [] true) rfl trivial (GV hs 6) ?_;clear hs;rintro k v σ hk - hs;rcases BU (Hv p gen) hk with⟨x,hx,hlt⟩|hke
  ·have hck:Bc k=k:=AN (by omega)
   have hst:=YI p ((Hv p gen).take k) x;rw[←Aa hx]at hst;have hmx:=hmm x (DL hx);have hxP:=He hmx;have hxr:=hmx;simp only[Dq,A9,Cf]at hxr;have hzl:(Dw p ((Hv p gen).take k)).length≤8:=Nat.le_trans (Ro _ _) (by rw[Ny];omega);generalize Dw p ((Hv p gen).take k)=zs at *;have hll:zs.length<Aj∧(zs.length+1)*80≤140737488355328:=by omega
   generalize BG p x=mx at *;by_cases hkd:mx.kind=1
   ·rw[if_pos (DK.2 hkd)]at hst
    conv=>whnf
    repeat'((first|apply st|(apply sq;intro K U)|(apply si;intro A B Y Z)|(apply Y;clear Z B Y A)|(apply U;clear U K)|refine⟨rfl,?_⟩|refine⟨kZ,?_⟩|refine ix ?_|refine MI ?_|refine yQ fun v σ hs hsl=>?_|(refine DR (fun hc=>?_)<;>(try rw[hc])<;>clear hc)|(constructor<;>intro hc<;>(try rw[hc])<;>(replace hc:=bp hc)<;>try(exfalso;omega))|clear U K)<;>conv=>whnf)
    all_goals try(exfalso;simp[hkd]at hc;done)
    all_goals exact⟨hlt,_,rfl,trivial,by rw[hst];exact hs⟩
   ·rw[if_neg (by simpa using hkd)]at hst
    conv=>whnf
    repeat'((first|apply st|(apply sq;intro K U)|(apply si;intro A B Y Z)|(apply Y;clear Z B Y A)|(apply U;clear U K)|refine⟨rfl,?_⟩|refine ix ?_|refine MI ?_|(refine DR (fun hc=>?_)<;>(try rw[hc])<;>clear hc)|(constructor<;>intro hc<;>(try rw[hc])<;>(replace hc:=bp hc)<;>try(exfalso;omega))|clear U K)<;>conv=>whnf)
    all_goals try(exfalso;simp[hkd]at hc;done)
    all_goals exact⟨hlt,_,rfl,trivial,by rw[hst];exact hs⟩
  ·rw [BI hke]at hs
   have hpl:(Dw p (Hv p gen)).length≤8:=Nat.le_trans (Ro _ _) h3;have hmf:E4 p gen=if(Dw p (Hv p gen)).isEmpty then .mk 1 0 [] 0 0 []else C9 (Qq 7 (Dw p (Hv p gen))):=rfl
   have c3:=wa 7 (Dw p (Hv p gen)) (by omega);generalize Dw p (Hv p gen)=ls at *
   conv=>whnf
   repeat'((first|(refine pg ?_;intro K U)|(apply si;intro A B Y Z)|(apply Y;clear Z B Y A)|(apply U;clear U K)|refine⟨rfl,?_⟩|fail)<;>conv=>whnf)
   refine wO ?_
   conv=>whnf
   repeat'((first|apply st|(refine pg ?_;intro K U)|(apply U;clear U K)|(refine Ew (fun hc=>?_)<;>(try rw[hc])<;>clear hc)|clear U K)<;>conv=>whnf)
   refine xd hs 2 rfl (fun σ2 h=> .cons (.refl _) (.cons (.refl _) (.cons (.refl _) (.cons h .nil)))) fun σ hs=>?_
   generalize E4 p gen=xf at *
   have hfin:CA (AR p) xf=true→Pure Tryz.prog 93 [.a (BC (AR p)),.a (xF xf)] (.t [.a (xF (Bf (AR p) 200 xf)),eI 0]):=fun h4=>by
    obtain⟨AF,M,hS,hx,hm,-⟩:=hsh h4;exact lW (AR p) hgw hS xf hx (by rw[OT];exact h4) hm
   clear hsh;cases ls with
   | nil =>
     rw[List.isEmpty_nil,if_pos rfl]at hmf;subst hmf;cases h4:CA (AR p) (.mk 1 0 [] 0 0 [])<;>rw[h4]at c4
     ·rw[if_neg (by decide),if_neg (by decide)]at c4
      conv=>whnf
      repeat'((first|apply st|(apply sq;intro K U)|(apply si;intro A B Y Z)|(apply Y;clear Z B Y A)|(apply U;clear U K)|refine⟨rfl,?_⟩|refine⟨kZ,?_⟩|refine ld ?_|refine Cg fun σ hs=>?_|refine Pure.use (c3 _) ?_|refine c4.use ?_|(constructor<;>intro hc<;>(try rw[hc])<;>(replace hc:=bp hc)<;>(try simp(disch:=omega) only[BT,wrap64,AN]at hc)<;>try(exfalso;omega))|(intro nn hnn;generalize hg:A5 _ nn _=σ;refine CN hg fun hs=>?_;clear hg)|clear U K)<;>conv=>whnf)
      all_goals try(exfalso;simp at hc;done)
      all_goals try(exfalso;simp at hc;omega)
      all_goals first
       | exact AI rfl
       | exact A8 (.t (.cons KZ (.cons (.refl _) .nil)))
     ·rw[if_pos rfl,if_pos rfl]at c4
      have c6:=hfin h4
      conv=>whnf
      repeat'((first|apply st|(apply sq;intro K U)|(apply si;intro A B Y Z)|(apply Y;clear Z B Y A)|(apply U;clear U K)|refine⟨rfl,?_⟩|refine⟨kZ,?_⟩|refine ld ?_|refine Cg fun σ hs=>?_|refine Pure.use (c3 _) ?_|refine c4.use ?_|refine c5.use ?_|refine c6.use ?_|(constructor<;>intro hc<;>(try rw[hc])<;>(replace hc:=bp hc)<;>(try simp(disch:=omega) only[BT,wrap64,AN]at hc)<;>try(exfalso;omega))|(intro nn hnn;generalize hg:A5 _ nn _=σ;refine CN hg fun hs=>?_;clear hg)|fail)<;>conv=>whnf)
      all_goals try(exfalso;simp at hc;done)
      all_goals try(exfalso;simp at hc;omega)
      all_goals first
       | exact AI rfl
       | exact A8 (.t (.cons KZ (.cons (.refl _) .nil)))
   | cons x r=>
     rw[if_neg (by simp)]at hmf;have c2:=y4 (Qq 7 (x::r));rw[←hmf]at c2;cases h4:CA (AR p) xf<;>rw[h4]at c4
     ·rw[if_neg (by decide),if_neg (by decide)]at c4
      conv=>whnf
      repeat'((first|apply st|(apply sq;intro K U)|(apply si;intro A B Y Z)|(apply Y;clear Z B Y A)|(apply U;clear U K)|refine⟨rfl,?_⟩|refine⟨kZ,?_⟩|refine ld ?_|refine Cg fun σ hs=>?_|refine c2.use ?_|refine Pure.use (c3 _) ?_|refine c4.use ?_|(constructor<;>intro hc<;>(try rw[hc])<;>(replace hc:=bp hc)<;>(try simp(disch:=omega) only[BT,wrap64,AN]at hc)<;>try(exfalso;omega))|(intro nn hnn;generalize hg:A5 _ nn _=σ;refine CN hg fun hs=>?_;clear hg)|clear U K)<;>conv=>whnf)
      all_goals try(exfalso;simp at hc;done)
      all_goals try(exfalso;simp at hc;omega)
      all_goals first
       | exact AI rfl
       | exact A8 (.t (.cons KZ (.cons (.refl _) .nil)))
     ·rw[if_pos rfl,if_pos rfl]at c4
      have c6:=hfin h4
      conv=>whnf
      repeat'((first|apply st|(apply sq;intro K U)|(apply si;intro A B Y Z)|(apply Y;clear Z B Y A)|(apply U;clear U K)|refine⟨rfl,?_⟩|refine⟨kZ,?_⟩|refine ld ?_|refine Cg fun σ hs=>?_|refine c2.use ?_|refine Pure.use (c3 _) ?_|refine c4.use ?_|refine c5.use ?_|refine c6.use ?_|(constructor<;>intro hc<;>(try rw[hc])<;>(replace hc:=bp hc)<;>(try simp(disch:=omega) only[BT,wrap64,AN]at hc)<;>try(exfalso;omega))|(intro nn hnn;generalize hg:A5 _ nn _=σ;refine CN hg fun hs=>?_;clear hg)|fail)<;>conv=>whnf)
      all_goals try(exfalso;simp at hc;done)
      all_goals try(exfalso;simp at hc;omega)
      all_goals first
       | exact AI rfl
       | exact A8 (.t (.cons KZ (.cons (.refl _) .nil)))
 ·rw[if_neg h3]at c1 ⊢
  refine fD kZ ?_;have hs:=Sn
  conv=>whnf
  repeat'((first|apply st|(apply sq;intro K U)|(apply si;intro A B Y Z)|(apply Y;clear Z B Y A)|(apply U;clear U K)|refine⟨rfl,?_⟩|refine⟨kZ,?_⟩|refine ld ?_|refine Cg fun σ hs=>?_|refine c1.use ?_|(constructor<;>intro hc<;>(try rw[hc])<;>(replace hc:=bp hc)<;>try(exfalso;omega))|(intro nn hnn;generalize hg:A5 _ nn _=σ;refine CN hg fun hs=>?_;clear hg)|clear U K)<;>conv=>whnf)
  all_goals exact A8 (.t (.cons KZ (.cons (.refl _) .nil)))
end Go.Gl
namespace Go.Gl
open Go.Proofs
attribute [local irreducible] A7 Ap Af AT AM Ae AS AU AL Ad AO AP Aw A1 Sat AX Az Ah W
end Go.Gl
namespace Go.Gl
def CR (l:List Fact):Int:=((l.map Br).sum:Nat)
def CY:CR []=0:=rfl
def CL (k:Fact) (l:List Fact):CR (k::l)=Br k+CR l:=by simp[CR]
def ES (l:List Fact):0≤CR l:=by unfold CR;omega
def Cx (f:Fact):(Br f:Int)=1+CR f.kids:=by rw[Cm];simp[CR]
def ZI (f:Fact):wk f f.kids=f:=by cases f;rfl
def Ja (f:Fact):1≤Br f:=by rw[Cm];omega
def TR {y:Fact}: ∀(l:List Fact) (n m:Int),(∀k∈l,∀j:Int,j<0∨(Br k:Int)≤j→Iu y k j=k)→n<m∨m+CR l≤n→de l (l.map (Iu y)) n m=l
 | [],n,m,_,_=>rfl
 | k::l,n,m,hk,h=>by
   rw[CL]at h;have:=ES l;rw[Ct,de,hk k (.head _) (n - m) (by omega),TR l n (m+Br k) (fun x hx=>hk x (.tail _ hx)) (by omega)]
def Sx {y:Fact} (f:Fact): ∀n:Int,n<0∨(Br f:Int)≤n→Iu y f n=f:=by
 induction f using Fact.ind with
 | h f ih=>
   intro n hn;have h1:=Ja f;rw[Cx]at hn;rw[H0,if_neg (by have:=ES f.kids;omega),TR f.kids n 1 (fun k hk j hj=>ih k hk j hj) (by omega),ZI]
def place: ∀(l:List Fact) (j:Int),0≤j→j<CR l→ ∃l1 k l2,l=l1++k::l2∧CR l1≤j∧j<CR l1+Br k
 | [],j,h0,h=>by rw[CY]at h;omega
 | k ::l,j,h0,h=>by
   by_cases hj:j<Br k
   ·exact⟨[],k,l,rfl,by rw[CY];exact h0,by rw[CY];omega⟩
   ·rw[CL]at h
    obtain⟨l1,x,l2,rfl,h1,h2⟩:=place l (j - Br k) (by omega) (by omega);exact⟨k::l1,x,l2,rfl,by rw[CL];omega,by rw[CL];omega⟩
def XY {y:Fact} (k:Fact) (l2:List Fact): ∀(l1:List Fact) (n m:Int),m+CR l1≤n→n<m+CR l1+Br k→de (l1++k::l2) ((l1++k::l2).map (Iu y)) n m=l1++Iu y k (n - m - CR l1)::l2
 | [],n,m,h1,h2=>by
   rw[CY]at *;rw[List.nil_append,Ct,de,TR l2 n (m+Br k) (fun x _=>Sx x) (by omega),Int.sub_zero];rfl
 | a::l1,n,m,h1,h2=>by
   rw[CL]at *;have:=ES l1;rw[List.cons_append,Ct,de,Sx a (n - m) (by omega),XY k l2 l1 n (m+Br a) (by omega) (by omega),show n - (m+Br a) - CR l1=n - m - (Br a+CR l1) by omega];rfl
def cB (l:List Fact) (o:Fact):N1 (l.map EX) o (-1)=(o,-1):=by
 cases l with
 | nil=>rfl
 | cons k l=>rw[Ct,N1,if_neg (by decide)]
def Vi: ∀(l:List Fact) (o:Fact) (j:Int),(∀k∈l,∀n:Int,(Br k:Int)≤n→(EX k n).2=n - Br k)→CR l≤j→(N1 (l.map EX) o j).2=j - CR l
 | [],o,j,_,_=>by rw[CY,Int.sub_zero];rfl
 | k::l,o,j,hk,h=>by
   rw[CL]at *;have:=ES l;rw[Ct,N1,if_pos (by omega),hk k (.head _) j (by omega),Vi l _ _ (fun x hx=>hk x (.tail _ hx)) (by omega)];omega
def mK (f:Fact): ∀n:Int,(Br f:Int)≤n→(EX f n).2=n - Br f:=by
 induction f using Fact.ind with
 | h f ih=>
   intro n hn;have h1:=Ja f;rw[Cx]at *;have:=ES f.kids;rw[E9,if_neg (by omega),Vi f.kids f (n - 1) ih (by omega)];omega
def TX (k:Fact) (l2:List Fact): ∀(l1:List Fact) (o:Fact) (j:Int),CR l1≤j→(EX k (j - CR l1)).2= -1→N1 ((l1++k::l2).map EX) o j=EX k (j - CR l1)
 | [],o,j,h0,h=>by
   rw[CY]at *;rw[Int.sub_zero]at *;rw[List.nil_append,Ct,N1,if_pos h0,h,cB];exact Prod.ext rfl h.symm
 | a::l1,o,j,h0,h=>by
   rw[CL]at *;have:=ES l1;rw[List.cons_append,Ct,N1,if_pos (by omega),mK a j (by omega),TX k l2 l1 _ (j - Br a) (by omega) (by rw[←h];congr 2;omega)];congr 1;omega
def rI (f:Fact): ∀n:Int,0≤n→n<Br f→(EX f n).2= -1:=by
 induction f using Fact.ind with
 | h f ih=>
   intro n h0 hn;rw[Cx]at hn;rw[E9];split
   ·rfl
   ·obtain⟨l1,k,l2,he,h1,h2⟩:=place f.kids (n - 1) (by omega) (by omega)
    have hk:=ih k (by rw[he];simp) (n - 1 - CR l1) (by omega) (by omega);rw[he,TX k l2 l1 f (n - 1) h1 hk];exact hk
def ib {x:Fact} (l:List Fact):az l (l.map (UQ x)) (-1)=(l,-1):=by
 cases l with
 | nil=>rfl
 | cons k l=>rw[Ct,az,if_neg (by decide)]
def ZZ {x:Fact}: ∀(l:List Fact) (j:Int),(∀k∈l,∀n:Int,(Br k:Int)≤n→UQ x k n=(k,n - Br k))→CR l≤j→az l (l.map (UQ x)) j=(l,j - CR l)
 | [],j,_,_=>by rw[CY,Int.sub_zero];rfl
 | k::l,j,hk,h=>by
   rw[CL]at *;have:=ES l;rw[Ct,az,if_pos (by omega),hk k (.head _) j (by omega),ZZ l _ (fun x hx=>hk x (.tail _ hx)) (by dsimp only;omega)];exact Prod.ext rfl (by dsimp only;omega)
def qw {x:Fact} (f:Fact): ∀n:Int,(Br f:Int)≤n→UQ x f n=(f,n - Br f):=by
 induction f using Fact.ind with
 | h f ih=>
   intro n hn;have h1:=Ja f;rw[Cx]at *;have:=ES f.kids;rw[XZ,if_neg (by omega),ZZ f.kids (n - 1) ih (by omega)];exact Prod.ext (ZI f) (by dsimp only;omega)
def fY {x:Fact} (k:Fact) (l2:List Fact): ∀(l1:List Fact) (j:Int),CR l1≤j→(UQ x k (j - CR l1)).2= -1→az (l1++k::l2) ((l1++k::l2).map (UQ x)) j=(l1++(UQ x k (j - CR l1)).1::l2,-1)
 | [],j,h0,h=>by
   rw[CY]at *;rw[Int.sub_zero]at *;rw[List.nil_append,Ct,az,if_pos h0,h,ib];rfl
 | a::l1,j,h0,h=>by
   rw[CL]at *;have:=ES l1;have e:j - Br a - CR l1=j - (Br a+CR l1):=by omega
   rw[List.cons_append,Ct,az,if_pos (by omega),qw a j (by omega),fY k l2 l1 (j - Br a) (by omega) (by rw[e];exact h),e];rfl
def Uw {x:Fact} (f:Fact): ∀n:Int,0≤n→n<Br f→UQ x f n=(Iu x f n,-1):=by
 induction f using Fact.ind with
 | h f ih=>
   intro n h0 hn;rw[Cx]at hn;rw[XZ,H0];split
   ·rfl
   ·obtain⟨l1,k,l2,he,h1,h2⟩:=place f.kids (n - 1) (by omega) (by omega)
    have hk:=ih k (by rw[he];simp) (n - 1 - CR l1) (by omega) (by omega);rw[he,fY k l2 l1 (n - 1) h1 (by rw[hk]),XY k l2 l1 n 1 (by omega) (by omega),hk]
end Go.Gl
namespace Go.Gl
def Fh (a:Int→Nat) (f:Fact):Nat:=f.FL fun f l=>a f.op+l.sum
def E5 (a:Int→Nat) (f:Fact):Fh a f=a f.op+(f.kids.map (Fh a)).sum:=Fact.CG _ f
def ra (a:Int→Nat) (f:Fact) (l:List Fact):Fh a (wk f l)=a f.op+(l.map (Fh a)).sum:=E5 a (wk f l)
def PA {f:Fact} {n:Int} {l1 l2:List Fact} {k:Fact} (he:f.kids=l1++k::l2) (hz:n≠0) (h1:CR l1≤n - 1) (h2:n - 1<CR l1+Br k):EX f n=EX k (n - 1 - CR l1):=by
 rw[E9,if_neg hz,he,TX k l2 l1 f (n - 1) h1 (rI k _ (by omega) (by omega))]
def Y2 {y f:Fact} {n:Int} {l1 l2:List Fact} {k:Fact} (he:f.kids=l1++k::l2) (hz:n≠0) (h1:CR l1≤n - 1) (h2:n - 1<CR l1+Br k):Iu y f n=wk f (l1++Iu y k (n - 1 - CR l1)::l2):=by
 rw[H0,if_neg hz,he,XY k l2 l1 n 1 (by omega) (by omega)]
def Ux (a:Int→Nat) (y f:Fact): ∀n:Int,0≤n→n<Br f→Fh a (Iu y f n)+Fh a (EX f n).1=Fh a f+Fh a y:=by
 induction f using Fact.ind with
 | h f ih=>
   intro n h0 hn;rw[Cx]at hn;by_cases hz:n=0
   ·subst hz
    rw[H0,if_pos rfl,E9,if_pos rfl];exact Nat.add_comm _ _
   ·obtain⟨l1,k,l2,he,h1,h2⟩:=place f.kids (n - 1) (by omega) (by omega)
    have hk:=ih k (by rw[he];simp) (n - 1 - CR l1) (by omega) (by omega);rw[PA he hz h1 h2,Y2 he hz h1 h2,ra,E5 a f,he];simp only[Qn,Ct,List.sum_append,List.sum_cons];omega
def O7 {P : Fact→Bool} (F: ∀f,P f=true→ ∀k∈f.kids,P k=true) (hw: ∀f l,P f=true→l.length=f.kids.length→(∀k∈l,P k=true)→P (wk f l)=true) {y:Fact} (hy:P y=true) (f:Fact):P f=true→ ∀n,P (Iu y f n)=true:=by
 induction f using Fact.ind with
 | h f ih=>
   intro hf n;by_cases hz:n=0
   ·rw[H0,if_pos hz];exact hy
   ·by_cases hi:0≤n∧n<Br f
    ·obtain⟨h0,hn⟩:=hi
     rw[Cx]at hn;obtain⟨l1,k,l2,he,h1,h2⟩:=place f.kids (n - 1) (by omega) (by omega);rw[Y2 he hz h1 h2];refine hw f _ hf (by rw[he];simp) fun x hx=>?_
     rcases FK.1 hx with hx|hx
     ·exact F f hf x (by rw[he];exact Sa _ hx)
     ·rcases F7.1 hx with rfl|hx
      ·exact ih k (by rw[he];simp) (F f hf k (by rw[he];simp)) _
      ·exact F f hf x (by rw[he];exact UO _ (.tail _ hx))
    ·rw[Sx f n (by omega)];exact hf
def IA {P:Fact→Bool} (F: ∀f,P f=true→ ∀k∈f.kids,P k=true) (f:Fact):P f=true→ ∀n:Int,0≤n→n<Br f→P (EX f n).1=true:=by
 induction f using Fact.ind with
 | h f ih=>
   intro hf n h0 hn;rw[Cx]at hn;by_cases hz:n=0
   ·rw[E9,if_pos hz];exact hf
   ·obtain⟨l1,k,l2,he,h1,h2⟩:=place f.kids (n - 1) (by omega) (by omega)
    rw[PA he hz h1 h2];exact ih k (by rw[he];simp) (F f hf k (by rw[he];simp)) _ (by omega) (by omega)
def Od (f:Fact):List Fact:=f.FL fun f l=>f::l.flatten
def TU (f:Fact):Od f=f::(f.kids.map Od).flatten:=Fact.CG _ f
def PY: ∀l:List Fact,(∀k∈l,(Od k).length=Br k)→((l.map Od).flatten.length:Int)=CR l
 | [],_=>rfl
 | k::l,h=>by
   rw[Ct,List.flatten_cons,Qi,CL,h k (.head _)];have:=PY l fun x hx=>h x (.tail _ hx)
   omega
def PZ (f:Fact):(Od f).length=Br f:=by
 induction f using Fact.ind with
 | h f ih=>
   have:=PY f.kids ih;have h2:=Cx f;rw[TU,K1];omega
def l5 (f:Fact): ∀k:Nat,k<Br f→(Od f)[k]? =some (EX f k).1:=by
 induction f using Fact.ind with
 | h f ih=>
   intro n hn;have hc:=Cx f;rw[TU];cases n with
   | zero=>rw[E9];rfl
   | succ n=>
     obtain⟨l1,k,l2,he,h1,h2⟩:=place f.kids n (by omega) (by omega);rw[vq,PA he (by omega) (by omega) (by omega),he,Qn,List.flatten_append];have hl:=PY l1 fun x _=>PZ x
     rw[List.getElem?_append_right (by omega),Ct,List.flatten_cons,oN (by rw[PZ];omega),ih k (by rw[he];simp) _ (by omega)];congr 3;omega
section
variable {S:Type}
def W9 (stp:Fact→S→Bool×S):List Fact→S→Bool×S
 | [],s=>(false,s)
 | x::r,s=>if(stp x s).1 then stp x s else W9 stp r (stp x s).2
def Py (stp:Fact→S→Bool×S): ∀(a b:List Fact) (s:S),W9 stp (a++b) s=if(W9 stp a s).1 then W9 stp a s else W9 stp b (W9 stp a s).2
 | [],_,_=>rfl
 | x ::a,b,s=>by
   rw[List.cons_append,W9,W9];cases h:(stp x s).1
   ·simp only[ML,if_false]
    exact Py stp a b _
   ·simp[h]
def qa (stp:Fact→S→Bool×S) (f:Fact): ∀s,Qo stp f s=W9 stp (Od f) s:=by
 induction f using Fact.ind with
 | h f ih=>
   have hl: ∀(l:List Fact),(∀k∈l,k∈f.kids)→ ∀s,dt (l.map (Qo stp)) s=W9 stp (l.map Od).flatten s:=fun l=>by
    induction l with
    | nil=>exact fun _ _=>rfl
    | cons k r ih2=>
      intro hm s;rw[Ct,dt,Ct,List.flatten_cons,Py,ih k (hm k (.head _)),ih2 fun x hx=>hm x (.tail _ hx)]
   intro s;rw[XV,TU,W9,hl f.kids fun _ h=>h]
end
end Go.Gl
namespace Go.Gl
def CW (op:Int):Bool:=op==2||(op==3||op==4)
def US (op:Int):Nat:=if op=5 then 0 else if op=6∨op=7 then 0 else 1
def aN (op:Int):Nat:=if CW op then 2 else 1
def aM (op:Int):Nat:=if CW op then 3 else 1
def Ka (f:Fact):Br f=Fh (fun _=>1) f:=by
 induction f using Fact.ind with
 | h f ih=>
   rw[Cm,E5,List.map_congr_left ih]
def NU (f:Fact):arity f=true→lv f=Fh US f:=by
 induction f using Fact.ind with
 | h f ih=>
   intro har;have h2:=har;rw[ET,A9,DK,Ev]at h2;rw[NV,dw,E5,US];by_cases h5:f.op=5
   ·obtain⟨a,ha,hb⟩:=FB har h5
    rw[if_pos h5,if_pos h5,ha];simpa using ih a (by rw[ha];exact .head _) hb
   ·rw[if_neg h5,if_neg h5]
    by_cases h6:f.op=6∨f.op=7
    ·obtain⟨a,b,ha,hb,hc⟩:=EV har h6
     rw[if_pos h6,if_pos h6,ha];have e1:=ih a (by rw[ha];exact .head _) hb;have e2:=ih b (by rw[ha];exact .tail _ (.head _)) hc;simp[e1,e2]
    ·rw[if_neg h6,if_neg h6]
     have:f.kids= []:=W4.1 (by rw[h2.1,Bp,if_neg h5,if_neg h6]);rw[this];rfl
def Ot {a b:Int→Nat} {c:Nat} (h: ∀o,a o≤c*b o) (f:Fact):Fh a f≤c*Fh b f:=by
 induction f using Fact.ind with
 | h f ih=>
   rw[E5,E5,Nat.mul_add]
   have hl: ∀l:List Fact,(∀k∈l,Fh a k≤c*Fh b k)→(l.map (Fh a)).sum≤c*(l.map (Fh b)).sum:=fun l=>by
    induction l with
    | nil=>exact fun _=>by simp
    | cons k r ih2=>
      intro hk;have h1:=hk k (.head _);have h2:=ih2 fun x hx=>hk x (.tail _ hx)
      simp only[Ct,List.sum_cons,Nat.mul_add];omega
   have:=hl f.kids ih;have:=h f.op;omega
def Mc (a:Int→Nat) {f k:Fact} (h:k∈f.kids):a f.op+Fh a k≤Fh a f:=by
 obtain⟨l1,l2,he⟩:=List.append_of_mem h;rw[E5 a f,he];simp only[Qn,Ct,List.sum_append,List.sum_cons];omega
def CD {w:AJ} {f:Fact} (h:Al w f=true): ∀k∈f.kids,Al w k=true:=by
 rw[Bs,A9,Ev]at h;exact h.2
def Ll {w:AJ} {f:Fact} {l:List Fact} (h:Al w f=true) (hl:l.length=f.kids.length) (hk: ∀k∈l,Al w k=true):Al w (wk f l)=true:=by
 rw[Bs,A9,Ev]at *;refine⟨?_,hk⟩;have:=h.1;cases f;simp only[Cq,Qp,Bj,wk,Fact.op,Fact.arg,Fact.path,Fact.cls,Fact.n,Fact.kids]at *;rw[hl];exact this
def IB {w : AJ} {x:Fact} (h:Al w x=true):x.op=1∧x=BY∨CW x.op=true∨(x.op=5∨x.op=6∨x.op=7)∧x.arg=0∧x.path= []∧x.cls=0∧x.n=0:=by
 rw[Bs,A9]at h;have h1:=h.1;rw[Cq,A9]at h1;obtain⟨hop,h1⟩:=h1;cases x with
 | mk o a p c n k=>
   by_cases h2:o=2
   ·right;left;simp[CW,Fact.op,h2]
   ·by_cases h3:o=3∨o=4
    ·right;left;rcases h3 with h3|h3<;>simp[CW,Fact.op,h3]
    ·rw[Qp,if_neg (show¬(Fact.mk o a p c n k).op=2 from h2),if_neg (show¬((Fact.mk o a p c n k).op=3∨(Fact.mk o a p c n k).op=4) from h3)]at hop
     simp only[Bj,Fact.op,Fact.arg,Fact.path,Fact.cls,Fact.n,Fact.kids,A9,Cf,F6,DK]at *;obtain⟨e2,-,-,-,e6⟩:=h1
     have e7:a=0∧p= []∧c=0∧n=0:=by
      rcases e6 with e6|⟨q1,q2,q3,q4⟩
      ·omega
      ·exact⟨q1,W4.1 q2,q3,q4⟩
     obtain⟨rfl,rfl,rfl,rfl⟩:=e7;rcases hop with((rfl|rfl)|rfl)|rfl
     ·left
      have:k= []:=W4.1 (by rw[e2];rfl);exact⟨rfl,by rw[this]⟩
     ·exact .inr (.inr ⟨.inl rfl,rfl,rfl,rfl,rfl⟩)
     ·exact .inr (.inr ⟨.inr (.inl rfl),rfl,rfl,rfl,rfl⟩)
     ·exact .inr (.inr ⟨.inr (.inr rfl),rfl,rfl,rfl,rfl⟩)
def aR {w:AJ} {x:Fact} (h:Al w x=true):HY x=FT x:=by
 have e:(x.op=1)↔Cp x BY=true:=by
  rw[Dh];constructor
  ·intro h1
   rcases IB h with⟨_,h2⟩|h2|⟨h2,_⟩
   ·exact h2
   ·simp[CW]at h2;omega
   ·omega
  ·rintro rfl;rfl
 rw[HY,FT];by_cases h1:x.op=1
 ·rw[if_pos h1,if_pos (e.1 h1)]
 ·rw[if_neg h1,if_neg fun h2=>h1 (e.2 h2)]
def Jh (w:AJ):Al w BY=true:=by
 rw[Bs];simp[Cq,Qp,Bp,EH,Bj,Fact.op,Fact.arg,Fact.path,Fact.cls,Fact.n,Fact.kids]
def Vl (w:AJ):Al w DN=true:=by
 rw[Bs,DN,C9];simp[Cq,Qp,Bp,EH,Bj,Fact.op,Fact.arg,Fact.path,Fact.cls,Fact.n,Fact.kids];exact Jh w
def Jp {w:AJ} {x:Fact} (h:Al w x=true): ∀y∈FT x,Al w y=true:=fun y hy=>by
 rw[FT]at hy;rcases FK.1 hy with hy|hy
 ·split at hy
  ·cases hy
  ·split at hy
   ·simp at hy;subst hy;exact Jh w
   ·simp at hy
    rcases hy with rfl|rfl
    ·exact Jh w
    ·exact Vl w
 ·exact CD h y hy
end Go.Gl
namespace Go.Gl
def S1 {a:Int→Nat} (h: ∀o,1≤a o) (f:Fact):1≤Fh a f:=by
 rw[E5];have:=h f.op;omega
def PL (o:Int):1≤aN o:=by unfold aN;split<;>omega
def Kf (o:Int):1≤aM o:=by unfold aM;split<;>omega
def oL {w:AJ} {f:Fact} (h:Al w f=true):1≤Fh US f:=by
 rw[←NU f (Ao f h)];exact Xc f (Ao f h)
def fk {w:AJ} {x:Fact} (h:Al w x=true) (h5:x.op=5): ∃k,x=C9 k∧Al w k=true:=by
 obtain⟨k,hk,-⟩:=FB (Ao x h) h5;rcases IB h with⟨h1,_⟩|h1|⟨_,e1,e2,e3,e4⟩
 ·omega
 ·simp[CW]at h1;omega
 ·refine⟨k,?_,CD h k (by rw[hk];exact .head _)⟩
  cases x;simp only[Fact.op,Fact.arg,Fact.path,Fact.cls,Fact.n,Fact.kids]at *;subst h5 e1 e2 e3 e4 hk;rfl
def TZ (a:Int→Nat):Fh a BY=a 1:=by rw[E5];rfl
def S2 (a:Int→Nat) (k:Fact):Fh a (C9 k)=a 5+Fh a k:=by
 rw[E5];show a 5+(([k]:List Fact).map (Fh a)).sum=_;simp
def hX {w:AJ} {x:Fact} (h:Al w x=true) (hx:x≠BY):2≤Fh aM x∧2≤Fh aN x:=by
 rcases IB h with⟨_,h1⟩|h1|⟨h1,_⟩
 ·exact absurd h1 hx
 ·have e1:aM x.op=3:=by rw[aM,if_pos h1]
  have e2:aN x.op=2:=by rw[aN,if_pos h1]
  rw[E5,E5,e1,e2];omega
 ·obtain⟨k,hk⟩: ∃k,k∈x.kids:=by
   rcases h1 with h5|h6
   ·obtain⟨k,hk,-⟩:=FB (Ao x h) h5
    exact⟨k,by rw[hk];exact .head _⟩
   ·obtain⟨k,b,hk,-⟩:=EV (Ao x h) h6
    exact⟨k,by rw[hk];exact .head _⟩
  have e1:=Mc aM hk;have e2:=Mc aN hk;have:=S1 Kf k;have:=S1 PL k;have:=Kf x.op;have:=PL x.op;omega
def kH {w:AJ} {x:Fact} (h:Al w x=true) (hx:x≠BY) (hn:x≠DN):3≤Fh aM x:=by
 rcases IB h with⟨_,h1⟩|h1|⟨h1,_⟩
 ·exact absurd h1 hx
 ·have e1:aM x.op=3:=by rw[aM,if_pos h1]
  rw[E5,e1];omega
 ·rcases h1 with h5|h6
  ·obtain⟨k,rfl,hk⟩:=fk h h5
   have hkt:k≠BY:=fun e=>hn (by rw[e];rfl)
   have:=(hX hk hkt).1;rw[S2];have:=Kf 5;omega
  ·obtain⟨a,b,hk,-⟩:=EV (Ao x h) h6
   rw[E5,hk];have:=S1 Kf a;have:=S1 Kf b;have:=Kf x.op;simp only[Ct,List.map_nil,List.sum_cons,List.sum_nil];omega
def NG {w:AJ} {x:Fact} (h:Al w x=true) {y:Fact} (hy:y∈FT x):Fh US y≤Fh US x∧Fh aN y≤Fh aN x∧Fh aM y<Fh aM x:=by
 have hlx:=oL h;have t1:Fh US BY=1:=by rw[TZ];rfl
 have t2:Fh aN BY=1:=by rw[TZ];rfl
 have t3:Fh aM BY=1:=by rw[TZ];rfl
 have n1:Fh US DN=1:=by rw[DN,S2,t1];rfl
 have n2:Fh aN DN=2:=by rw[DN,S2,t2];rfl
 have n3:Fh aM DN=2:=by rw[DN,S2,t3];rfl
 rw[FT]at hy;rcases FK.1 hy with hy|hy
 ·cases hx1:Cp x BY
  ·have hxt:x≠BY:=fun e=>by rw[(Dh x BY).2 e]at hx1;cases hx1
   have h2:=hX h hxt;rw[hx1,if_neg (by decide)]at hy;cases hx2:Cp x DN
   ·have hxn:x≠DN:=fun e=>by rw[(Dh x DN).2 e]at hx2;cases hx2
    have h3:=kH h hxt hxn;rw[hx2,if_neg (by decide)]at hy;simp only[F7,List.not_mem_nil,or_false]at hy;rcases hy with rfl|rfl
    ·omega
    ·omega
   ·rw[hx2,if_pos rfl]at hy
    simp only[F7,List.not_mem_nil,or_false]at hy;subst hy;omega
  ·rw[hx1,if_pos rfl]at hy
   cases hy
 ·have e1:=Mc US hy
  have e2:=Mc aN hy;have e3:=Mc aM hy;have:=Kf x.op;omega
def II {w:AJ} {f g:Fact}: ∀ {l:List Nat},Jw w f l=some g→ ∃n∈l,∃y∈FT (EX f n).1,g=(UQ y f n).1
 | [],h=>by cases h
 | n ::l,h=>by
   rw[Jw]at h;cases hs:KM w f n with
   | none=>
     rw[hs,Option.none_or]at h;obtain⟨m,hm,r⟩:=II h;exact⟨m,.tail _ hm,r⟩
   | some g2=>
     rw[hs]at h;obtain rfl:g2=g:=Option.some.inj h;have:=List.mem_of_find?_eq_some hs;obtain⟨y,hy,e⟩:=KE.1 this;exact⟨n,.head _,y,hy,e.symm⟩
def OF {w:AJ} {f g:Fact} (h:Al w f=true) (hg:Db w f=some g):Al w g=true∧Fh US g≤Fh US f∧Fh aN g≤Fh aN f∧Fh aM g<Fh aM f:=by
 obtain⟨n,hn,y,hy,rfl⟩:=II hg;rw[List.mem_range]at hn;have hx:=IA (P:=Al w) (fun f h=>CD h) f h n (by omega) (by omega);rw[Uw f n (by omega) (by omega)];have h1:=NG hx hy;have e1:=Ux US y f n (by omega) (by omega);have e2:=Ux aN y f n (by omega) (by omega);have e3:=Ux aM y f n (by omega) (by omega);exact⟨O7 (P:=Al w) (fun f h=>CD h) (fun f l h hl hk=>Ll h hl hk) (Jp hx y hy) f h n,by dsimp only;omega,by dsimp only;omega,by dsimp only;omega⟩
end Go.Gl
namespace Go.Gl
def Rf {w:AJ} {f:Fact} (h:Al w f=true): ∀(d k:Nat),k+d=Br f→
    (W9 (MO w f) ((Od f).drop k) ((k:Int) - 1,f)).1=(Jw w f ((List.range (Br f)).drop k)).isSome∧(W9 (MO w f) ((Od f).drop k) ((k:Int) - 1,f)).2.2=(Jw w f ((List.range (Br f)).drop k)).getD f
 | 0,k,hk=>by
   rw[List.drop_of_length_le (by rw[PZ];omega),List.drop_of_length_le (by rw[List.length_range];omega)];exact⟨rfl,rfl⟩
 | d + 1,k,hk=>by
   have hlt:k<Br f:=by omega
   have hx:=IA (P:=Al w) (fun f h=>CD h) f h k (by omega) (by omega);have hr:(List.range (Br f))[k]? =some k:=List.getElem?_range hlt
   have hc:(HY (EX f (k:Int)).1).map (fun y=>Iu y f ((k:Int) - 1+1))=(FT (EX f (k:Int)).1).map fun y=>(UQ y f (k:Int)).1:=by
    rw[aR hx];refine List.map_congr_left fun y _=>?_
    rw[Uw f k (by omega) (by omega),Int.sub_add_cancel]
   have he:MO w f (EX f (k:Int)).1 ((k:Int) - 1,f)=match KM w f k with|some g=>(true,((k:Int) - 1+1,g))|none=>(false,((k:Int) - 1+1,f)):=by
    rw[MO,KM,←hc];try(dsimp only;cases List.find? (Og w f) ((HY (EX f (k:Int)).1).map fun y=>Iu y f ((k:Int) - 1+1))<;>rfl)
   rw[drop_cons (l5 f k hlt),drop_cons hr,W9,Jw,he];cases hs:KM w f k with
   | some g=>exact⟨rfl,rfl⟩
   | none=>
     have:=Rf h d (k+1) (by omega);rw[show(((k+1:Nat):Int) - 1)=(k:Int) - 1+1 by omega]at this;rw[Option.none_or];exact this
def iP {w:AJ} {f:Fact} (h:Al w f=true):LA w f=((Db w f).isSome,(LA w f).2.1,(Db w f).getD f):=by
 have:=Rf h (Br f) 0 (by omega);rw[List.drop_zero,List.drop_zero]at this;have e:LA w f=W9 (MO w f) (Od f) ((0:Nat) - 1,f):=by rw[LA,qa];rfl
 rw[e]at *;exact Prod.ext this.1 (Prod.ext rfl this.2)
def QC {most:Int}: ∀(l:List Fact) (n:Int),(∀k∈l,∀m:Int,(Br k:Int)≤m→BV k m=Br k)→n+CR l≤most→DE (l.map BV) n most=n+CR l
 | [],n,_,_=>by rw[CY];simp[DE]
 | k::l,n,hk,h=>by
   rw[CL]at *;have:=ES l;rw[Ct,DE,if_pos (by omega),hk k (.head _) (most - n) (by omega),QC l _ (fun x hx=>hk x (.tail _ hx)) (by omega)];omega
def Kr (f:Fact): ∀m:Int,(Br f:Int)≤m→BV f m=Br f:=by
 induction f using Fact.ind with
 | h f ih=>
   intro m hm;rw[Cx]at *;rw[GO,QC f.kids 1 ih hm]
def Zr {w:AJ} {x:Fact} (h:Al w x=true):x.kids.length≤2:=by
 have:=Ao x h;rw[ET,A9,DK]at this;rw[this.1];exact S5 x
def rF {w:AJ} {f x:Fact} (hf:Al w f=true) (hl:lv f≤12) (hx:Al w x=true) (hlx:lv x≤12):yM w f x:=by
 refine⟨Zr hx,fun y hy=>?_⟩;rw[aR hx]at hy;have hyn:=Jp hx y hy;refine⟨Ao y hyn,fun n=>?_⟩;have hs:=O7 (P:=Al w) (fun f h=>CD h) (fun f l h hl hk=>Ll h hl hk) hyn f hf n;refine⟨hs,?_⟩;by_cases hi:0≤n∧n<Br f
 ·have h1:=Ux US y f n hi.1 hi.2
  have h2:=(NG hx hy).1;rw[NU _ (Ao _ hs)];rw[NU _ (Ao _ hf)]at hl;rw[NU _ (Ao _ hx)]at hlx;omega
 ·rw[Sx f n (by omega)]
  omega
def jw {w:AJ} {f:Fact} (hf:CA w f=true) (hn:BV f 24≤12):pQ w f:=by
 simp only[CA,A9,Cf]at hf;have hnf:=hf.2.2
 have hcf:Br f≤12:=by
  have:=Gg f 24 (by omega) (by omega);omega
 have hS:ku w (fun g=>Al w g=true∧Fh US g≤12∧Fh aN g≤24) (Fh aM):=by
  refine⟨fun g ⟨h1,h2,h3⟩=>?_,fun g ⟨h1,_,_⟩=>iP h1,fun g g2 ⟨h1,h2,h3⟩ hg=>?_⟩
  ·have hl:lv g≤12:=by rw[NU g (Ao g h1)];exact h2
   have hc:Br g≤1*Fh aN g:=by rw[Ka];exact Ot (fun o=>by have:=PL o;omega) g
   refine⟨h1,hl,Ao g h1,by omega,fun x=>Al w x=true∧lv x≤12,⟨h1,hl⟩,fun y ⟨hy,hly⟩=>⟨rF h1 hl hy hly,fun k hk=>⟨CD hy k hk,?_⟩⟩⟩;have e:=Mc US hk;rw[NU _ (Ao _ hy)]at hly;rw[NU _ (Ao _ (CD hy k hk))];omega
  ·have:=OF h1 hg
   exact⟨⟨this.1,by omega,by omega⟩,this.2.2.2⟩
 refine⟨_,_,hS,⟨hnf,?_,?_⟩,?_,fun g ⟨h1,h2,h3⟩=>?_⟩
 ·have:=Ot (a:=US) (b:=fun _=>1) (c:=1) (fun o=>by unfold US;split<;>(try split)<;>omega) f
  rw[←Ka]at this;omega
 ·have:=Ot (a:=aN) (b:=fun _=>1) (c:=2) (fun o=>by unfold aN;split<;>omega) f
  rw[←Ka]at this;omega
 ·have:=Ot (a:=aM) (b:=fun _=>1) (c:=3) (fun o=>by unfold aM;split<;>omega) f
  rw[←Ka]at this;omega
 ·obtain⟨n1,n2,n3,n4,-⟩:=hS.node g ⟨h1,h2,h3⟩
  have hc:Br g≤1*Fh aN g:=by rw[Ka];exact Ot (fun o=>by have:=PL o;omega) g
  refine⟨h1,n2,n3,Kr g 24 (by omega),by omega,fun n hn=>?_⟩;have hx:=IA (P:=Al w) (fun f h=>CD h) g h1 n (by omega) (by omega);refine⟨Zr hx,fun y hy=>?_⟩;rw[Uw g n (by omega) (by omega)];have hs:=O7 (P:=Al w) (fun f h=>CD h) (fun f l h hl hk=>Ll h hl hk) (Jp hx y hy) g h1 n;refine⟨hs,?_⟩;have e1:=Ux US y g n (by omega) (by omega);have e2:=(NG hx hy).1;rw[NU _ (Ao _ hs)];omega
end Go.Gl
namespace Go.Gl
open Go.Proofs
structure Wid (w w':AJ) (ps:List Int):Prop where
 par:w'.parents=w.parents++[ps]
 own:w'.owner=w.owner++[3+(w.parents.length:Int)]
variable {w w':AJ} {ps:List Int}
def Wid.ol (h:Wid w w' ps):w'.owner.length=w.owner.length+1:=by rw[h.own];simp
def xk {w:AJ} {M:Int→Hs} {f:Fact} {l:List Bool} (h:f.op=5):XB w M f l= !l.getD 0 false:=by rw[XB,if_neg (by omega),if_pos h]
def xj {w:AJ} {M:Int→Hs} {f:Fact} {l:List Bool} (h:f.op=6):XB w M f l=(l.getD 0 false&&l.getD 1 false):=by rw[XB,if_neg (by omega),if_neg (by omega),if_pos h]
def xi {w:AJ} {M:Int→Hs} {f:Fact} {l:List Bool} (h:f.op=7):XB w M f l=(l.getD 0 false||l.getD 1 false):=by rw[XB,if_neg (by omega),if_neg (by omega),if_neg (by omega),if_pos h]
def xh {w:AJ} {M:Int→Hs} {f:Fact} {l:List Bool} (h:f.op=2∨f.op=3∨f.op=4):XB w M f l=Qk w (M f.arg) f.path f:=by rw[XB,if_neg (by omega),if_neg (by omega),if_neg (by omega),if_neg (by omega)]
variable {w w':AJ} {ps:List Int}
def mq {w:AJ} {os:List Ob} {args:List (Int×Int)} {f:Fact} {l:List Bool} (h:f.op=5):HX w os args f l= !l.getD 0 false:=by rw[HX,if_neg (by omega),if_pos h]
def mo {w:AJ} {os:List Ob} {args:List (Int×Int)} {f:Fact} {l:List Bool} (h:f.op=6):HX w os args f l=(l.getD 0 false&&l.getD 1 false):=by rw[HX,if_neg (by omega),if_neg (by omega),if_pos h]
def ml {w:AJ} {os:List Ob} {args:List (Int×Int)} {f:Fact} {l:List Bool} (h:f.op=7):HX w os args f l=(l.getD 0 false||l.getD 1 false):=by rw[HX,if_neg (by omega),if_neg (by omega),if_neg (by omega),if_pos h]
def mj {w:AJ} {os:List Ob} {args:List (Int×Int)} {f:Fact} {l:List Bool} (h:f.op=2∨f.op=3∨f.op=4):HX w os args f l=Y5 w os args f:=by rw[HX,if_neg (by omega),if_neg (by omega),if_neg (by omega),if_neg (by omega)]
def pd (w:AJ) (os:List Ob) (v:Int×Int) (kid:Int→Hs):Hs:=
 if Bz os.length v then(if v.1=1 then .int v.2 else if v.1=2 then .UF else .obj (fun c=>Im w.parents (XI os v).1.toNat c) kid)else .UF
def oO (w:AJ) (os:List Ob):Nat→Int×Int→Hs
 | 0,v=>pd w os v fun _=> .UF
 | d+1,v=>pd w os v fun s=>oO w os d (NO w os s v)
def fR {w:AJ} (hw:It w) (os:List Ob) (v:Int×Int) {kid:Int→Hs} (hk: ∀s,Fo w (kid s)):Fo w (pd w os v kid):=by
 unfold pd;split
 ·rename_i hv
  split
  ·rename_i h1
   simp only[Bz,if_pos h1,A9,Cf]at hv;exact hv
  ·split
   ·trivial
   ·refine⟨fun c _ hc q hq=>?_,hk⟩
    refine Jg hw.ord _ c _ hc ?_;rw[EZ hw.ord,F6,JR];exact .inr ⟨q,hq,D2 hw.ord _⟩
 ·trivial
def fP {w:AJ} (hw:It w) (os:List Ob): ∀(d:Nat) (v:Int×Int),Fo w (oO w os d v)
 | 0,v=>fR hw os v fun _=>trivial
 | d+1,v=>fR hw os v fun s=>fP hw os d _
def iN {w : AJ} (hw:It w) {os:List Ob} (hos:Qt w os) (d:Nat) {u:Int×Int} (hu:Bz os.length u=true) {f:Fact} (hc:f.op=2→0≤f.cls) :
    Fu (oO w os d u) f=if f.op=2 then I2 w.parents (Jv os u) f.cls else u.1==1&&(if f.op=3 then decide (u.2<f.n)else u.2==f.n):=by
 obtain⟨kid,e⟩: ∃kid,oO w os d u=pd w os u kid:=by cases d<;>exact⟨_,rfl⟩
 rw[e,pd,if_pos hu];rcases XW hu with h1|h2|h3
 ·have hcv:Jv os u=1:=by rw[Jv,if_pos h1]
  rw[if_pos h1];simp only[Fu];by_cases h:f.op=2
  ·rw[if_pos h,if_pos h,hcv,I2,Hu]
   have:=hc h;simp;omega
  ·rw[if_neg h,if_neg h,DK.2 h1,EW]
   split
   ·rfl
   ·rw[Hu,Cf,DK]
 ·have hcv:Jv os u=2:=by rw[Jv,if_neg (by omega),if_pos h2]
  rw[if_neg (by omega),if_pos h2];simp only[Fu];by_cases h:f.op=2
  ·rw[if_pos h,hcv,I2,Hu]
   have:=hc h;simp[h];omega
  ·rw[if_neg h,beq_eq_false_iff_ne.2 (show u.1≠1 by omega),beq_eq_false_iff_ne.2 h]
   rfl
 ·obtain⟨o,q1,q2,q3⟩:=JW hu h3
  have hoo:=hos.own o q3;have hcv:Jv os u=o.1:=by rw[Jv,if_neg (by omega),if_neg (by omega)];exact congrArg Prod.fst q2
  rw[if_neg (by omega),if_neg (by omega),q2];simp only[Fu];by_cases h:f.op=2
  ·have h0:=hc h
   rw[if_pos h,hcv,I2,DK.2 h,EW,decide_eq_true hoo.1,EW];by_cases hz:f.cls=0
   ·rw[hz];simp
   rw[beq_eq_false_iff_ne.2 hz,Bool.false_or,Bool.false_or];by_cases h3c:3≤f.cls
   ·rw[decide_eq_true h3c,EW]
    by_cases he:o.1=f.cls
    ·rw[he,D2 hw.ord];simp
    ·rw[beq_eq_false_iff_ne.2 he,Bool.false_or]
   ·rw[decide_eq_false h3c,Bool.false_and,beq_eq_false_iff_ne.2 (show o.1≠f.cls by omega),Bool.false_or]
    cases hb:Im w.parents o.1.toNat f.cls.toNat
    ·rfl
    ·have:=Sv hw.ord _ _ (by omega) hb
     omega
  ·rw[if_neg h,beq_eq_false_iff_ne.2 (show u.1≠1 by omega),beq_eq_false_iff_ne.2 h]
   rfl
def mS (w:AJ) (t:Hs) (f:Fact):Qk w t [] f=Fu t f:=by cases t<;>rfl
def fw {w:AJ} (hw:It w) {c s:Int} (hc:3≤c) (hs:0≤s∧s<(w.owner.length:Int)):hasB w c s=Im w.parents c.toNat (CZ w s).toNat:=by
 have ho:=O9 hw hs;rw[hasB,I2,decide_eq_true hc,EW,beq_eq_false_iff_ne.2 (show CZ w s≠0 by omega),Bool.false_or,EW];by_cases he:c=CZ w s
 ·rw[←he,D2 hw.ord];simp
 ·rw[beq_eq_false_iff_ne.2 he,Bool.false_or]
def fQ {w:AJ} (hw:It w) {os:List Ob} (hos:Qt w os) (f:Fact): ∀(l:List Int) (d:Nat) (v:Int×Int),l.length≤d→(∀s∈l,0≤s∧s<(w.owner.length:Int))→Bz os.length v=true→
    Qk w (oO w os d v) l f=match bA w os l v with|none=>false|some u=>Fu (oO w os (d - l.length) u) f
 | [],d,v,_,_,_=>by rw[mS];rfl
 | s::r,0,v,h,_,_=>by simp at h
 | s ::r,d+1,v,h,hl,hv=>by
   have hs:=hl s (.head _);rw[bA,oO,pd,if_pos hv];rcases XW hv with h1|h2|h3
   ·rw[if_pos h1,beq_eq_false_iff_ne.2 (show v.1≠3 by omega)];rfl
   ·rw[if_neg (by omega),if_pos h2,beq_eq_false_iff_ne.2 (show v.1≠3 by omega)];rfl
   ·obtain⟨o,q1,q2,q3⟩:=JW hv h3
    have hoo:=hos.own o q3;rw[if_neg (by omega),if_neg (by omega),Qk,DK.2 h3,EW,q2,fw hw hoo.1 hs];cases hh:Im w.parents o.1.toNat (CZ w s).toNat
    ·rfl
    ·obtain⟨i,_,_,_,_,_,hv2⟩:=PU hos q2 q3 hs (by rw[fw hw hoo.1 hs,hh])
     rw[EW,if_pos rfl,fQ hw hos f r d _ (by simpa using h) (fun x hx=>hl x (.tail _ hx)) hv2];rw[K1,Nat.add_sub_add_right]
def yf (w:AJ) (os:List Ob) (args:List (Int×Int)) (a:Int):Hs:=oO w os 2 (args.getD a.toNat (0,0))
def rb {w:AJ} (hw:It w) (os:List Ob) (args:List (Int×Int)) (a:Int):Fo w (yf w os args a):=fP hw os 2 _
def cE {w:AJ} {f:Fact} (h:Al w f=true):f.path.length≤2:=by
 rw[Bs,A9]at h;have h1:=h.1;simp only[Cq,EH,A9,Cf]at h1;exact h1.2.2.2.2.1.2
def aB {w:AJ} (hw:It w) {os:List Ob} (hos:Qt w os) {args:List (Int×Int)} (hv: ∀v∈args,Bz os.length v=true) (f:Fact):Al w f=true→BQ f≤args.length→HO w (yf w os args) f=Ci w os args f:=by
 induction f using Fact.ind with
 | h f ih=>
   intro hn hsp;rw[Mf,JI];have hk1: ∀x∈f.kids,BQ x≤args.length:=fun x hx=>Int.le_trans (EE hx) hsp
   have hpl:=cE hn;rcases QF hn with h1|⟨h5,x,hk,hx⟩|⟨h6,x,y,hk,hx,hy⟩|⟨h7,x,y,hk,hx,hy⟩|⟨hop,hlf,hp,hcl,ha0⟩
   ·simp only[XB,HX,if_pos h1]
   ·have e1:=ih x (by rw[hk];exact .head _) hx (hk1 x (by rw[hk];exact .head _))
    rw[xk h5,mq h5,hk];simp only[Ct,List.map_nil,e1]
   ·have e1:=ih x (by rw[hk];exact .head _) hx (hk1 x (by rw[hk];exact .head _))
    have e2:=ih y (by rw[hk];exact .tail _ (.head _)) hy (hk1 y (by rw[hk];exact .tail _ (.head _)));rw[xj h6,mo h6,hk];simp only[Ct,List.map_nil,e1,e2]
   ·have e1:=ih x (by rw[hk];exact .head _) hx (hk1 x (by rw[hk];exact .head _))
    have e2:=ih y (by rw[hk];exact .tail _ (.head _)) hy (hk1 y (by rw[hk];exact .tail _ (.head _)));rw[xi h7,ml h7,hk];simp only[Ct,List.map_nil,e1,e2]
   ·rw[xh hop,mj hop]
    have hsl:=P3 hlf
    have hva:Bz os.length (args.getD f.arg.toNat (0,0))=true:=by
     have hl:f.arg.toNat<args.length:=by omega
     rw[D9,EN hl];exact hv _ (List.getElem_mem hl)
    rw[Y5,yf,fQ hw hos f _ 2 _ hpl hp hva];cases hu:bA w os f.path (args.getD f.arg.toNat (0,0))with
    | none=>rfl
    | some u=>exact iN hw hos _ (Xs hos hp hva hu) fun h=>(hcl h).1
def Mu {w:AJ} {f g:Fact}: ∀ {l:List Nat},Jw w f l=some g→Og w f g=true
 | [],h=>by cases h
 | n ::l,h=>by
   rw[Jw]at h;cases hs:KM w f n with
   | none=>
     rw[hs,Option.none_or]at h;exact Mu h
   | some g2=>
     rw[hs]at h;obtain rfl:g2=g:=Option.some.inj h;exact List.find?_some hs
def PF {w:AJ} (hw:It w) {f g:Fact} (hf:Al w f=true) (hg:Al w g=true):Og w f g=true↔ ∀M:Int→Hs,(∀a,Fo w (M a))→HO w M f=HO w M g:=by
 rw[Og,A9,Vv hw hf hg,Vv hw hg hf];constructor
 ·rintro⟨h1,h2⟩ M hM
  rw[Hu];exact⟨h1 M hM,h2 M hM⟩
 ·intro h
  exact⟨fun M hM e=>by rw[←h M hM];exact e,fun M hM e=>by rw[h M hM];exact e⟩
def Tm (w:AJ) (M:Int→Hs):HO w M BY=true:=by rw[Mf];rfl
def PE (w:AJ) (M:Int→Hs) (k:Fact):HO w M (C9 k)= !HO w M k:=by rw[Mf];rfl
def gI (w:AJ) (M:Int→Hs):HO w M DN=false:=by rw[show DN=C9 BY from rfl,PE,Tm];rfl
def Iv (f:Fact):Int:=f.FL fun f l=>l.foldl EY (if CW f.op then 1 else 0)+1
def Ga (f:Fact):Iv f=(f.kids.map Iv).foldl EY (if CW f.op then 1 else 0)+1:=Fact.CG _ f
def PJ {f k:Fact} (h:k∈f.kids):Iv k+1≤Iv f:=by
 rw[Ga f];have:=FI (f.kids.map Iv) (if CW f.op then 1 else 0) (List.mem_map_of_mem h);omega
def Xl (f:Fact):1≤Iv f∧(CW f.op=true→2≤Iv f):=by
 rw[Ga f];have:=Cr (f.kids.map Iv) (if CW f.op then 1 else 0);constructor
 ·have h0:(0:Int)≤(if CW f.op=true then 1 else 0):=by split<;>decide
  omega
 ·intro h;rw[if_pos h]at this ⊢;omega
def jj (f:Fact):Dm f≤Iv f:=by
 induction f using Fact.ind with
 | h f ih=>
   rw[Fb,Ga]
   have:(f.kids.map Dm).foldl EY 0≤(f.kids.map Iv).foldl EY (if CW f.op then 1 else 0):=by
    refine Cs _ _ (fun x hx=>?_) ?_
    ·obtain⟨k,hk,rfl⟩:=KE.1 hx
     exact Int.le_trans (ih k hk) (FI _ _ (List.mem_map_of_mem hk))
    ·have:=Cr (f.kids.map Iv) (if CW f.op then 1 else 0)
     have h0:(0:Int)≤(if CW f.op=true then 1 else 0):=by split<;>decide
     omega
   omega
def xl (y f:Fact): ∀n:Int,0≤n→n<Br f→Iv y≤Iv (EX f n).1→Iv (Iu y f n)≤Iv f:=by
 induction f using Fact.ind with
 | h f ih=>
   intro n h0 hn hy;rw[Cx]at hn;by_cases hz:n=0
   ·subst hz
    rw[E9,if_pos rfl]at hy;rw[H0,if_pos rfl];exact hy
   ·obtain⟨l1,k,l2,he,h1,h2⟩:=place f.kids (n - 1) (by omega) (by omega)
    rw[PA he hz h1 h2]at hy;have hk:=ih k (by rw[he];simp) (n - 1 - CR l1) (by omega) (by omega) hy;rw[Y2 he hz h1 h2];have e:Iv (wk f (l1++Iu y k (n - 1 - CR l1)::l2))=((l1++Iu y k (n - 1 - CR l1)::l2).map Iv).foldl EY (if CW f.op then 1 else 0)+1:=Ga _;rw[e];have hb:=Cr (f.kids.map Iv) (if CW f.op then 1 else 0)
    have:((l1++Iu y k (n - 1 - CR l1)::l2).map Iv).foldl EY (if CW f.op then 1 else 0)≤Iv f - 1:=by
     refine Cs _ _ (fun x hx=>?_) (by rw[Ga f];omega);obtain⟨z,hz,rfl⟩:=KE.1 hx;rcases FK.1 hz with hz|hz
     ·have:=PJ (f:=f) (k:=z) (by rw[he];exact Sa _ hz);omega
     ·rcases F7.1 hz with rfl|hz
      ·have:=PJ (f:=f) (k:=k) (by rw[he];simp);omega
      ·have:=PJ (f:=f) (k:=z) (by rw[he];exact UO _ (.tail _ hz));omega
    omega
def Gm {x y:Fact} (hy:y∈FT x):y=BY∧x≠BY∨y=DN∧x≠BY∧x≠DN∨y∈x.kids:=by
 rw[FT]at hy;rcases FK.1 hy with hy|hy
 ·by_cases h1:Cp x BY=true
  ·rw[if_pos h1]at hy;cases hy
  ·have n1:x≠BY:=fun e=>h1 ((Dh _ _).2 e)
   rw[if_neg h1]at hy;by_cases h2:Cp x DN=true
   ·rw[if_pos h2]at hy
    exact .inl ⟨by simpa using hy,n1⟩
   ·have n2:x≠DN:=fun e=>h2 ((Dh _ _).2 e)
    rw[if_neg h2]at hy;rcases F7.1 hy with rfl|hy
    ·exact .inl ⟨rfl,n1⟩
    ·exact .inr (.inl ⟨by simpa using hy,n1,n2⟩)
 ·exact .inr (.inr hy)
def Jj {w:AJ} {x:Fact} (h:Al w x=true):CW x.op=true∨x.op=1→x.kids= []:=by
 intro h1;have har:=Ao _ h;rw[ET,A9,DK]at har
 have h0:Bp x.op=0:=by
  have h5: ¬x.op=5:=by
   rcases h1 with h1|h1
   ·simp[CW]at h1;omega
   ·omega
  have h6: ¬(x.op=6∨x.op=7):=by
   rcases h1 with h1|h1
   ·simp[CW]at h1;omega
   ·omega
  simp[Bp,h5,h6]
  try omega
 rw[h0]at har;exact W4.1 har.1
def To:Iv BY=1:=by rw[Ga];rfl
def gL:Iv DN=2:=by
 rw[Ga];show(([BY]:List Fact).map Iv).foldl EY 0+1=2;rw[Ct,To];rfl
def nc {w : AJ} {x:Fact} (h:Al w x=true) {y:Fact} (hy:y∈FT x):Iv y≤Iv x:=by
 have h1:=Xl x;rcases Gm hy with⟨rfl,_⟩|⟨rfl,n1,n2⟩|hy
 ·rw[To];exact h1.1
 ·rw [gL]
  rcases IB h with⟨_,e⟩|hl|⟨h2,_⟩
  ·exact absurd e n1
  ·exact h1.2 hl
  ·obtain⟨k,hk⟩: ∃k,k∈x.kids:=by
    rcases h2 with h5|h6
    ·obtain⟨k,hk,-⟩:=FB (Ao x h) h5
     exact⟨k,by rw[hk];exact .head _⟩
    ·obtain⟨k,b,hk,-⟩:=EV (Ao x h) h6
     exact⟨k,by rw[hk];exact .head _⟩
   have:=PJ hk;have:=(Xl k).1;omega
 ·have:=PJ hy;omega
def Yw (f:Fact):Bool:=f.FL fun f l=>decide (f.kids.length≤1)&&l.all id
def TF (f:Fact):Yw f=(decide (f.kids.length≤1)&&f.kids.all Yw):=by rw[Yw,Fact.CG,List.all_map];rfl
def aP {f:Fact} (h:Yw f=true): ∀k∈f.kids,Yw k=true:=by
 rw[TF,A9,Ev]at h;exact h.2
def Tq {w:AJ} {f:Fact} (h:Al w f=true) (hc:Yw f=true):f.kids= []∨ ∃k,f=C9 k∧Al w k=true:=by
 rcases IB h with⟨h1,_⟩|hl|⟨h2,_⟩
 ·exact .inl (Jj h (.inr h1))
 ·exact .inl (Jj h (.inl hl))
 ·rcases h2 with h5|h6
  ·exact .inr (fk h h5)
  ·obtain⟨a,b,hk,-⟩:=EV (Ao f h) h6
   rw[TF,hk]at hc;simp at hc
def sL {w : AJ} (f:Fact):Al w f=true→Iv f≤Br f+(if Yw f then 1 else 0):=by
 induction f using Fact.ind with
 | h f ih=>
   intro h;have hk0:f.kids= []→Yw f=true:=fun e=>by rw[TF,e];rfl
   rcases IB h with⟨h1,_⟩|hl|⟨h2,_⟩
   ·have hk:=Jj h (.inr h1)
    have:CW f.op=false:=by rw[h1];rfl
    rw[hk0 hk,Ga,Cm,hk,this];simp
   ·have hk:=Jj h (.inl hl)
    rw[hk0 hk,Ga,Cm,hk,hl];simp
   ·have hlf:CW f.op=false:=by
     rw[CW];have e1:(f.op==2)=false:=by rw[beq_eq_false_iff_ne];omega
     have e2:(f.op==3)=false:=by rw[beq_eq_false_iff_ne];omega
     have e3:(f.op==4)=false:=by rw[beq_eq_false_iff_ne];omega
     rw[e1,e2,e3];rfl
    rcases h2 with h5|h6
    ·obtain⟨k,hk,-⟩:=FB (Ao f h) h5
     have:=ih k (by rw[hk];exact .head _) (CD h k (by rw[hk];exact .head _));have d0:=(Xl k).1;have e:Yw f=Yw k:=by rw[TF,hk];simp
     have e2:Iv f=Iv k+1:=by
      rw[Ga,hk,hlf];simp only[Ct,List.map_nil,List.foldl_cons,List.foldl_nil,EY];split<;>simp at* <;>omega
     rw[e,e2,Cm,hk];simp only[Ct,List.map_nil,List.sum_cons,List.sum_nil];omega
    ·obtain⟨a,b,hk,-⟩:=EV (Ao f h) h6
     have h1:=ih a (by rw[hk];exact .head _) (CD h a (by rw[hk];exact .head _));have h2:=ih b (by rw[hk];exact .tail _ (.head _)) (CD h b (by rw[hk];exact .tail _ (.head _)));have c1:=Ja a;have c2:=Ja b
     have:Iv f≤Br f:=by
      rw[Ga]
      have:(f.kids.map Iv).foldl EY (if CW f.op then 1 else 0)≤Br f - 1:=by
       rw[Cm,hk];simp only[Ct,List.map_nil,List.sum_cons,List.sum_nil];refine Cs _ _ (fun x hx=>?_) (by rw[hlf];simp;omega);simp at hx;rcases hx with rfl|rfl
       ·split at h1<;>omega
       ·split at h2<;>omega
      omega
     split<;>omega
def vS {w:AJ} (f:Fact):Al w f=true→Yw f=true→ ∀n:Int,0≤n→n<Br f→ ∃b:Bool,∀M,HO w M f=(HO w M (EX f n).1 != b)∧ ∀y,HO w M (Iu y f n)=(HO w M y != b):=by
 induction f using Fact.ind with
 | h f ih=>
   intro hn hc n h0 hlt;by_cases hz:n=0
   ·subst hz
    refine⟨false,fun M=>?_⟩;rw[E9,if_pos rfl];refine⟨by simp,fun y=>?_⟩;rw[H0,if_pos rfl];simp
   ·rw[Cx]at hlt
    rcases Tq hn hc with e|⟨k,rfl,hk⟩
    ·rw[e,CY]at hlt;omega
    ·have hkk:(C9 k).kids= []++k:: []:=rfl
     rw[hkk,List.nil_append,CL,CY]at hlt;have h1:CR ([]:List Fact)≤n - 1:=by rw[CY];omega
     have h2:n - 1<CR ([]:List Fact)+Br k:=by rw[CY];omega
     obtain⟨b,hb⟩:=ih k (by rw[hkk];simp) hk (aP hc k (by rw[hkk];simp)) (n - 1 - CR []) (by rw[CY];omega) (by rw[CY];omega);refine⟨!b,fun M=>?_⟩;obtain⟨b1,b2⟩:=hb M;rw[PA hkk hz h1 h2,PE,b1];refine⟨by cases HO w M (EX k (n - 1 - CR [])).1<;>cases b<;>rfl,fun y=>?_⟩;rw[Y2 hkk hz h1 h2];have e:wk (C9 k) ([]++Iu y k (n - 1 - CR []):: [])=C9 (Iu y k (n - 1 - CR [])):=rfl;rw[e,PE,b2];cases HO w M y<;>cases b<;>rfl
def fj (w:AJ): ∀a:Int,Fo w ((fun _=>Hs.UF:Int→Hs) a):=fun _=>trivial
def cu {α:Type} {p:α→Bool} {l:List α} (h:l.find? p=none) {x:α} (hx:x∈l):p x=false:=by
 have:=List.find?_eq_none.1 h x hx;simpa using this
def Yr {w:AJ} (hw:It w) {f g:Fact} (hn:Al w f=true) (hc:Yw f=true) (hg:Db w f=some g):g=BY∨g=DN:=by
 obtain⟨m,hm⟩: ∃m,Br f=m+1:=⟨Br f - 1,by have:=Ja f;omega⟩
 have e0: ∀y,(UQ y f ((0:Nat):Int)).1=y:=fun y=>by rw[XZ];rfl
 have n0:(EX f ((0:Nat):Int)).1=f:=by rw[E9];rfl
 rw[Db,hm,List.range_succ_eq_map,Jw]at hg;cases hs:KM w f (0:Nat)with
 | some g2=>
   rw[hs]at hg;obtain rfl:g2=g:=Option.some.inj hg;have hev:=List.find?_some hs;have:=List.mem_of_find?_eq_some hs;obtain⟨y,hy,rfl⟩:=KE.1 this;rw[e0]at *;rw[n0]at hy;rcases Gm hy with⟨h,_⟩|⟨h,_⟩|h
   ·exact .inl h
   ·exact .inr h
   ·exfalso
    rcases Tq hn hc with e|⟨k,rfl,hk⟩
    ·rw[e]at h;cases h
    ·obtain rfl:y=k:=by simpa[C9,Fact.kids]using h
     have:=(PF hw hn hk).1 hev _ (fj w);rw[PE]at this;cases h2:HO w (fun _=>Hs.UF) y<;>rw[h2]at this<;>cases this
 | none=>
   rw[hs,Option.none_or]at hg;exfalso;have hev:=Mu hg;obtain⟨n,hnm,y,hy,rfl⟩:=II hg;obtain⟨n',hn',rfl⟩:=KE.1 hnm;rw[List.mem_range]at hn';have hlt:((Nat.succ n':Nat):Int)<Br f:=by rw[hm];omega
   have hx:=IA (P:=Al w) (fun f h=>CD h) f hn (Nat.succ n':Nat) (by omega) hlt;have hxc:=IA (P:=Yw) (fun f h=>aP h) f hc (Nat.succ n':Nat) (by omega) hlt;have hyn:=Jp hx y hy;rw[Uw f _ (by omega) hlt]at hev;dsimp only at hev;have hsn:=O7 (P:=Al w) (fun f h=>CD h) (fun f l h hl hk=>Ll h hl hk) hyn f hn (Nat.succ n':Nat);have hpar:=vS (w:=w) f hn hc (Nat.succ n':Nat) (by omega) hlt;obtain⟨b,hb⟩:=hpar
   have hxy: ∀M:Int→Hs,(∀a,Fo w (M a))→HO w M (EX f (Nat.succ n':Nat)).1=HO w M y:=fun M hM=>by
    have h1:=(PF hw hn hsn).1 hev M hM;rw[(hb M).1,(hb M).2]at h1;cases h2:HO w M (EX f (Nat.succ n':Nat)).1<;>cases h3:HO w M y<;>rw[h2,h3]at h1<;>cases b<;>first|rfl|cases h1
   have hcan: ∀z,z∈FT f→Og w f z=false:=fun z hz=>by
    refine cu hs (KE.2 ⟨z,by rw[n0];exact hz,e0 z⟩)
   have hft:f≠BY:=fun e=>by
    rw[e]at hlt;have:Br BY=1:=by rw[Cm];rfl
    omega
   have hfn:f≠DN:=fun e=>by
    subst e
    have hc2:Br DN=2:=by
     rw[Cm];show 1+(([BY]:List Fact).map Br).sum=2;have:Br BY=1:=by rw[Cm];rfl
     simp[this]
    obtain rfl:n'=0:=by omega
    have e1:(EX DN ((Nat.succ 0:Nat):Int)).1=BY:=by
     rw[E9];show(N1 (([BY]:List Fact).map EX) DN 0).1=BY;rw[Ct,N1,if_pos (by decide),E9];rfl
    rw[e1]at hy;rcases Gm hy with⟨_,h⟩|⟨_,h,_⟩|h
    ·exact h rfl
    ·exact h rfl
    ·simp[BY,Fact.kids]at h
   have hmem:BY∈FT f∧DN∈FT f:=by
    rw[FT,if_neg (fun h=>hft ((Dh _ _).1 h)),if_neg (fun h=>hfn ((Dh _ _).1 h))];simp
   have key: ∀c:Bool,(∀M:Int→Hs,(∀a,Fo w (M a))→HO w M y=c)→False:=fun c hcst=>by
    have hfe: ∀M:Int→Hs,(∀a,Fo w (M a))→HO w M f=(c != b):=fun M hM=>by rw[(hb M).1,hxy M hM,hcst M hM]
    cases hcb:(c != b)
    ·have:=hcan _ hmem.2
     rw[(PF hw hn (Vl w)).2 fun M hM=>by rw[hfe M hM,hcb,gI]]at this;cases this
    ·have:=hcan _ hmem.1
     rw[(PF hw hn (Jh w)).2 fun M hM=>by rw[hfe M hM,hcb,Tm]]at this;cases this
   rcases Gm hy with⟨rfl,_⟩|⟨rfl,_⟩|h
   ·exact key true fun M _=>Tm w M
   ·exact key false fun M _=>gI w M
   ·rcases Tq hx hxc with e|⟨k,e,hk⟩
    ·rw[e]at h;cases h
    ·rw[e]at h hxy
     obtain rfl:y=k:=by simpa[C9,Fact.kids]using h
     have:=hxy _ (fj w);rw[PE]at this;cases h2:HO w (fun _=>Hs.UF) y<;>rw[h2]at this<;>cases this
def iV {f:Fact} {l:List Fact} {n:Int} (hf:BQ f≤n) (hl: ∀k∈l,BQ k≤n):BQ (wk f l)≤n:=by
 have e:BQ (wk f l)=(l.map BQ).foldl EY (if Bj f then f.arg+1 else 0):=B4 _;rw[e];refine Cs _ _ (fun x hx=>?_) ?_
 ·obtain⟨k,hk,rfl⟩:=KE.1 hx
  exact hl k hk
 ·rw[B4]at hf
  exact Int.le_trans (Cr _ _) hf
def X3 {x y:Fact} {n:Int} (h0:0≤n) (hx:BQ x≤n) (hy:y∈FT x):BQ y≤n:=by
 have ht:BQ BY=0:=by rw[B4];rfl
 rcases Gm hy with⟨rfl,_⟩|⟨rfl,_⟩|h
 ·omega
 ·have:BQ DN=0:=by
   rw[B4];show(([BY]:List Fact).map BQ).foldl EY 0=0;rw[Ct,ht];rfl
  omega
 ·exact Int.le_trans (EE h) hx
def VU {w:AJ} (hw:It w) {f g:Fact} {n:Int} (h0:0≤n) (h:Al w f=true) (hs:BQ f≤n) (hg:Db w f=some g):Iv g≤Iv f∧BQ g≤n∧ ∀M:Int→Hs,(∀a,Fo w (M a))→HO w M g=HO w M f:=by
 have hgn:=(OF h hg).1;have hev:=Mu hg;refine⟨?_,?_,fun M hM=>((PF hw h hgn).1 hev M hM).symm⟩
 all_goals
  obtain⟨k,hk,y,hy,rfl⟩:=II hg;rw[List.mem_range]at hk;have hx:=IA (P:=Al w) (fun f h=>CD h) f h k (by omega) (by omega);rw[Uw f k (by omega) (by omega)]
 ·exact xl y f k (by omega) (by omega) (nc hx hy)
 ·have hsx:=IA (P:=fun f=>decide (BQ f≤n)) (fun f h k hk=>decide_eq_true (Int.le_trans (EE hk) (of_decide_eq_true h))) f (decide_eq_true hs) k (by omega) (by omega)
  have:=O7 (P:=fun f=>decide (BQ f≤n)) (fun f h k hk=>decide_eq_true (Int.le_trans (EE hk) (of_decide_eq_true h))) (fun f l h _ hk=>decide_eq_true (iV (of_decide_eq_true h) fun k h=>of_decide_eq_true (hk k h))) (y:=y) (decide_eq_true (X3 h0 (of_decide_eq_true hsx) hy)) f (decide_eq_true hs) k;exact of_decide_eq_true this
def My {w:AJ} (hw:It w) {n:Int} (h0:0≤n): ∀(k:Nat) (f:Fact),Al w f=true→BQ f≤n→Al w (Bf w k f)=true∧Fh aN (Bf w k f)≤Fh aN f∧Iv (Bf w k f)≤Iv f∧BQ (Bf w k f)≤n∧ ∀M:Int→Hs,(∀a,Fo w (M a))→HO w M (Bf w k f)=HO w M f
 | 0,f,h,hs=>⟨h,Ht _,Int.le_refl _,hs,fun _ _=>rfl⟩
 | k + 1,f,h,hs=>by
   rw[Bf];cases hst:Db w f with
   | none=>exact⟨h,Ht _,Int.le_refl _,hs,fun _ _=>rfl⟩
   | some g=>
     have h1:=OF h hst;have h2:=VU hw h0 h hs hst;obtain⟨r1,r2,r3,r4,r5⟩:=My hw h0 k g h1.1 h2.2.1;exact⟨r1,Nat.le_trans r2 h1.2.2.1,Int.le_trans r3 h2.1,r4,fun M hM=>(r5 M hM).trans (h2.2.2 M hM)⟩
def X5 {w:AJ} (hw:It w) {f:Fact} {n:Int} (h0:0≤n) (hf:CA w f=true) (hc:Br f≤12) (hs:BQ f≤n):CA w (Bf w 200 f)=true∧BQ (Bf w 200 f)≤n∧ ∀M:Int→Hs,(∀a,Fo w (M a))→HO w M (Bf w 200 f)=HO w M f:=by
 have hf2:=hf;simp only[CA,A9,Cf]at hf2;have hnf:=hf2.2.2;obtain⟨r1,r2,r3,r4,r5⟩:=My hw h0 200 f hnf hs;refine⟨?_,r4,r5⟩
 have ha:Fh aN f≤2*Br f:=by
  rw[Ka];exact Ot (fun o=>by unfold aN;split<;>omega) f
 have hcg:Br (Bf w 200 f)≤1*Fh aN (Bf w 200 f):=by rw[Ka];exact Ot (fun o=>by have:=PL o;omega) _
 have hno:BV (Bf w 200 f) 24≤24:=by rw[Kr _ 24 (by omega)];omega
 simp only[CA,A9,Cf];refine⟨hno,?_,r1⟩;have hd:=jj (Bf w 200 f);have hdc:=sL (w:=w) f hnf;cases hch:Yw f
 ·rw[hch]at hdc
  simp at hdc;omega
 ·cases hst:Db w f with
  | none=>rw[WS hst];exact hf2.2.1
  | some g=>
    rw[Nf hst 199]at hd ⊢;have h1:=OF hnf hst;obtain⟨-,-,q3,-,-⟩:=My hw h0 199 g h1.1 (VU hw h0 hnf hs hst).2.1
    have:Iv g≤2:=by
     rcases Yr hw hnf hch hst with rfl|rfl
     ·rw[To];omega
     ·rw[gL];omega
    omega
section
variable {w:AJ} {os:List Ob} {args:List (Int×Int)}
def jT (f:Fact):Ci w os args (C9 f)= !Ci w os args f:=by rw[JI];rfl
def cR:Ci w os args BY=true:=by rw[JI];rfl
def Zu: ∀l:List Fact,l≠[]→Ci w os args (Qq 7 l)=l.any (Ci w os args)
 | [],h=>absurd rfl h
 | [x],_=>by rw[Qq];simp
 | x::y::r,_=>by
   have ih:=Zu (y::r) (by simp);rw[Qq,JI,SY,←ih];rfl
end
def cS (p:Prog) (gen:Int) (w:AJ) (os:List Ob) (args:List (Int×Int)):Ci w os args (E4 p gen)= !(Hv p gen).any fun m=>(BG p m).kind==1&&Ci w os args (BG p m).fact:=by
 have e:(Hv p gen).any (fun m=>(BG p m).kind==1&&Ci w os args (BG p m).fact)=(Dw p (Hv p gen)).any (Ci w os args):=by
  rw[Dw,List.any_map,List.any_filter];rfl
 rw[e,E4];cases h:Dw p (Hv p gen)with
 | nil=>rw[List.isEmpty_nil,if_pos rfl];exact cR
 | cons x r=>rw[if_neg (by simp),jT,Zu _ (by simp)]
def ie (p:Prog) (os:List Ob) (gen:Int) (args:List (Int×Int)):((Su p os gen args).any fun m=>Dq p m&&(BG p m).kind==1)=(Hv p gen).any fun m=>(BG p m).kind==1&&Ci (AR p) os args (BG p m).fact:=by
 rw[Hu,JR,JR];constructor
 ·rintro⟨m,h1,h2⟩
  rw[Su,qS]at h1;obtain⟨h3,h4⟩:=JS.1 h1;rw[A9]at h2 h4;exact⟨m,JS.2 ⟨h3,h4.1⟩,by rw[h2.2,h4.2];rfl⟩
 ·rintro⟨m,h1,h2⟩
  rw[Hv,XA]at h1;obtain⟨h3,h4⟩:=JS.1 h1;rw[A9]at h2;refine⟨m,JS.2 ⟨h3,by rw[h4,h2.2];rfl⟩,?_⟩;rw[h2.1,Bool.and_true];have:=Eh.1 h3;simp only[Dq,A9,Cf];exact this
def av (p:Prog) (gen:Int) (k:Nat):Int:=((XA p gen k).map fun m=>BV (BG p m).fact 24+1).sum
def VR (p:Prog) (gen:Int) (k:Nat):av p gen (k+1)=if(BG p (k:Int)).gen==gen then av p gen k+(BV (BG p (k:Int)).fact 24+1)else av p gen k:=by
 rw[av,Vy];split
 ·rw[Qn,List.sum_append];simp[av]
 ·rfl
def M3 (f:Fact):1≤BV f 24∧BV f 24≤25:=by
 have:=IL f 24 (by omega);omega
def ZN (p:Prog) (gen:Int): ∀k:Nat,0≤av p gen k∧av p gen k≤26*k
 | 0=>by simp[av,XA,Bk]
 | k+1=>by
   have:=ZN p gen k;have:=M3 (BG p (k:Int)).fact;rw[VR];split<;>omega
def gh: ∀l:List Fact,l≠[]→(Br (Qq 7 l):Int)+1=((l.map fun f=>(Br f:Int)+1)).sum
 | [],h=>absurd rfl h
 | [x],_=>by simp[Qq]
 | x::y::r,_=>by
   have ih:=gh (y::r) (by simp);rw[Qq,Cx];show 1+CR [x,Qq 7 (y::r)]+1=_;rw[CL,CL,CY,Ct,List.sum_cons,←ih];omega
def Kj (f:Int→Int) (hf: ∀m,0≤f m) (g:Int→Bool): ∀l:List Int,((l.filter g).map f).sum≤(l.map f).sum∧0≤(l.map f).sum
 | []=>by simp
 | x::r=>by
   have:=Kj f hf g r;have:=hf x;rw[List.filter_cons];split
   ·simp only[Ct,List.sum_cons];omega
   ·simp only[Ct,List.sum_cons];omega
def VT (f:Int→Int) (hf: ∀m,0≤f m) {m:Int}: ∀l:List Int,m∈l→f m≤(l.map f).sum
 | [],h=>by cases h
 | x::r,h=>by
   have h0:=(Kj f hf (fun _=>true) r).2;have:=hf x;simp only[Ct,List.sum_cons];rcases F7.1 h with rfl|h
   ·omega
   ·have:=VT f hf r h;omega
def VS {f g:Int→Int}: ∀l:List Int,(∀m∈l,f m=g m)→(l.map f).sum=(l.map g).sum
 | [],_=>rfl
 | x::r,h=>by
   simp only[Ct,List.sum_cons];rw[h x (.head _),VS r fun m hm=>h m (.tail _ hm)]
def jm {p:Prog} {gen:Int} (h:av p gen p.methods.length≤12):Br (E4 p gen)≤12:=by
 have hf: ∀m,0≤BV (BG p m).fact 24+1:=fun m=>by have:=M3 (BG p m).fact;omega
 have hno: ∀m∈Hv p gen,BV (BG p m).fact 24+1=(Br (BG p m).fact:Int)+1:=fun m hm=>by
  have:=VT (fun m=>BV (BG p m).fact 24+1) hf _ hm;have h2:((Hv p gen).map fun m=>BV (BG p m).fact 24+1).sum≤12:=h;have:=Gg (BG p m).fact 24 (by omega) (by omega);omega
 rw[E4];cases hl:Dw p (Hv p gen)with
 | nil=>
   rw[List.isEmpty_nil,if_pos rfl];have:Br (.mk 1 0 [] 0 0 [])=1:=by rw[Cm];rfl
   omega
 | cons x r=>
   rw[if_neg (by simp)]
   have e:(Br (C9 (Qq 7 (x::r))):Int)=Br (Qq 7 (x::r))+1:=by
    rw[Cx];show 1+CR [Qq 7 (x::r)]=_;rw[CL,CY];omega
   have e2:=gh (x::r) (by simp);rw[←hl]at e e2
   have e3:((Dw p (Hv p gen)).map fun f=>(Br f:Int)+1).sum≤av p gen p.methods.length:=by
    rw[Dw,List.map_map];have q1:=(Kj (fun m=>BV (BG p m).fact 24+1) hf (fun m=>(BG p m).kind==1) (Hv p gen)).1;have q2:=VS (f:=(fun f=>(Br f:Int)+1)∘fun m=>(BG p m).fact) (g:=fun m=>BV (BG p m).fact 24+1) ((Hv p gen).filter fun m=>(BG p m).kind==1) fun m hm=>(hno m (JS.1 hm).1).symm
    rw[q2];exact q1
   rw[hl]at e e2 e3;omega
def VW {n:Int} (h0:0≤n): ∀l:List Fact,(∀f∈l,BQ f≤n)→BQ (Qq 7 l)≤n
 | [],_=>by rw[Qq,B4];exact h0
 | [x],h=>h x (.head _)
 | x::y::r,h=>by
   have ih:=VW h0 (y::r) fun f hf=>h f (.tail _ hf)
   rw[Qq,B4];refine Cs _ _ (fun z hz=>?_) h0;simp only[Fact.kids,Ct,List.map_nil,F7,List.not_mem_nil,or_false]at hz;rcases hz with rfl|rfl
   ·exact h x (.head _)
   ·exact ih
def X2 {p:Prog} {gen:Int} {n:Int} (h0:0≤n) (h: ∀m∈Hv p gen,BQ (BG p m).fact≤n):BQ (E4 p gen)≤n:=by
 rw[E4];split
 ·rw[B4];exact h0
 ·rw[C9,B4]
  refine Cs _ _ (fun z hz=>?_) h0;simp only[Fact.kids,Ct,List.map_nil,F7,List.not_mem_nil,or_false]at hz;subst hz;refine VW h0 _ fun f hf=>?_
  obtain⟨m,hm,rfl⟩:=KE.1 hf;exact h m (JS.1 hm).1
end Go.Gl
