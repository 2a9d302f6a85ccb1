import Derived.Test.YtnidfcmdimehdaaGreatU13
import Derived.Test.YtnidfcmdimehdaaGreatU15
import Derived.Test.YtnidfcmdimehdaaGreatU40
import Derived.Test.YtnidfcmdimehdaaGreatU41
set_option linter.all false
set_option linter.defProp false
set_option maxHeartbeats 8000000
noncomputable section
namespace Go.Gl
open Go.Proofs
attribute [local irreducible] As Af AV AQ AI AU AP AR AJ AT AM AN Ag Ar Sat AS Ap AX W
def sw (xs ys:List Fact) (a b:Bool) (hxl:xs.length<=AZ) (hyl:ys.length<=AZ) (ih: ∀x∈xs,∀y,Pure zP 188 [.a (xF x),.a (xF y)] (.b (CR x y))) :
    Pure zP 235 [.l (facts xs) a,.l (facts ys) b,.f (.func 188) [] []] (.b (xs.length==ys.length&&Jm (xs.map CR) ys)):=by
 have hM:=Mx;refine gV kZ ?_;have hs:=Sn;by_cases hl:xs.length=ys.length
 .have he:(xs.length==ys.length&&Jm (xs.map CR) ys)=Jm (xs.map CR) ys:=by rw[Cd.2 hl,Db]
  rw[he]
  conv=>whnf
  repeat'((first|apply st|(apply sq;intro K U)|(apply si;intro A B hA hB)|(refine hA _ _ ?_;clear hB B hA A)|(apply U;clear U K)|refine⟨rfl,?_⟩|(constructor<;>intro hc<;>(try rw[hc])<;>(replace hc:=bp hc)<;>(try simp(disch:=omega) only[Bh,wrap64,AW]at hc)<;>try(exfalso;omega))|fail)<;>conv=>whnf)
  refine Ba xs.length (fun k (_:Unit)=>[(17,eI (Au k))]) (fun _ _=>[]) (fun k _=>Jm (xs.map CR) ys=Jm ((xs.drop k).map CR) (ys.drop k)) () rfl rfl hs ?_;clear hs;rintro k - Z hk hn hs;have hck:Au k=k:=AW (by omega);rcases Aw xs hk with⟨x,hx,hlt⟩|hke
  .obtain⟨y,hy⟩: ∃y,ys[k]? =some y:=⟨_,CQ (by omega)⟩
   have hy2:ys[(Au k).toNat]? =some y:=by rw[hck];exact hy
   have c1:=ih x (BY hx) y;rw[drop_cons hx,drop_cons hy,Cn,Jm]at hn;cases hxy:CR x y<;>rw[hxy]at c1 hn
   .conv=>whnf
    repeat'((first|apply st|(apply sq;intro K U)|(apply si;intro A B hA hB)|(refine hA _ _ ?_;clear hB B hA A)|(apply U;clear U K)|refine⟨rfl,?_⟩|refine⟨kZ,?_⟩|refine ixF ?_|refine ld ?_|refine ZL fun Z hs=>?_|refine cft ?_|(refine qU (fun hc=>?_)<;>(try rw[hc])<;>clear hc)|refine A6 (c1.use ?_)|(intro nn hnn;generalize hg:Bz _ nn _=Z;refine bT hg fun hs=>?_;clear hg)|clear U K)<;>conv=>whnf)
    all_goals exact AF (by rw[hn];rfl)
   .conv=>whnf
    repeat'((first|apply st|(apply sq;intro K U)|(apply si;intro A B hA hB)|(refine hA _ _ ?_;clear hB B hA A)|(apply U;clear U K)|refine⟨rfl,?_⟩|refine⟨kZ,?_⟩|refine ixF ?_|refine ld ?_|refine ZL fun Z hs=>?_|refine cff ?_|(refine qU (fun hc=>?_)<;>(try rw[hc])<;>clear hc)|refine A6 (c1.use ?_)|(intro nn hnn;generalize hg:Bz _ nn _=Z;refine bT hg fun hs=>?_;clear hg)|clear U K)<;>conv=>whnf)
    all_goals exact⟨hlt,(),rfl,by rw[hn];rfl,hs.less (Ie _)⟩
  .rw[Ad hke,Ad (show k=ys.length by omega)]at hn
   conv=>whnf
   repeat'((first|apply st|(apply sq;intro K U)|(apply si;intro A B hA hB)|(refine hA _ _ ?_;clear hB B hA A)|(apply U;clear U K)|refine⟨rfl,?_⟩|(refine qT (fun hc=>?_)<;>(try rw[hc])<;>clear hc)|clear U K)<;>conv=>whnf)
   all_goals exact AF (by rw[hn];rfl)
 .have he:(xs.length==ys.length&&Jm (xs.map CR) ys)=false:=by rw[beq_eq_false_iff_ne.2 hl,Bool.false_and]
  rw[he]
  conv=>whnf
  repeat'((first|apply st|(apply sq;intro K U)|(apply si;intro A B hA hB)|(refine hA _ _ ?_;clear hB B hA A)|(apply U;clear U K)|refine⟨rfl,?_⟩|(constructor<;>intro hc<;>(try rw[hc])<;>(replace hc:=bp hc)<;>(try simp(disch:=omega) only[Bh,wrap64,AW]at hc)<;>try(exfalso;omega))|clear U K)<;>conv=>whnf)
  all_goals try(exfalso;omega)
  all_goals exact AF rfl
def yI (f g:Fact):Pure zP 188 [.a (xF f),.a (xF g)] (.b (CR f g)):=by
 induction f using Fact.ind generalizing g with
 | h f ih=>
   refine Pure.fit (by kernel_rfl) fun hf=>?_
   have⟨h2,h3,h4⟩:=JK hf.1;have⟨g2,g3,g4⟩:=JK hf.2.1;have c2:=fun a b=>sw f.kids g.kids a b h2 g2 fun x hx y=>ih x hx y
   rw[J0];refine gh kZ ?_;have hs:=Sn
   conv=>whnf
   repeat'((first|apply st|(apply sq;intro K U)|(apply si;intro A B hA hB)|(refine hA _ _ ?_;clear hB B hA A)|(apply U;clear U K)|refine⟨rfl,?_⟩|refine Pure.use (Zp _ _ _ _) ?_|refine Pure.use (c2 _ _) ?_|(constructor<;>intro hc<;>(try rw[hc])<;>(replace hc:=bp hc))|fail)<;>conv=>whnf)
   all_goals exact AF (by simp[*])
def H8 (x:Fact):List Fact:=(if x.op=1 then []else if CR x Fg then [Cv]else [Cv,Fg])++x.kids
def NM (w:AE) (f x:Fact) (s:SN):Bool×SN:=match((H8 x).map fun y=>Lv y f (s.1+1)).find? (Xt w f)with|some g=>(true,(s.1+1,g))|none=>(false,(s.1+1,s.2))
def rK (w:AE) (f x:Fact) (s:SN):(NM w f x s).2.1=s.1+1:=by
 rw[NM];split<;>rfl
def lZ (w:AE) (f x:Fact):Prop:=x.kids.length<=2/\ ∀y∈H8 x,arity y=true/\ ∀n,An w (Lv y f n)=true/\lv (Lv y f n)<=40
abbrev stH (n1 n2 n3 n6:Nat) (s:SN):List At:=[.box n1 [eI s.1],.box n2 (xF Cv),.box n3 (xF Fg),.box n6 (xF s.2)]
def mI (w : AE) (hw:CS w) (f:Fact) (hnf:An w f=true) (hlf:lv f<=12) (har:arity f=true) (hcf:CA f<=100) (n1 n2 n3 n6:Nat) :
    Cq zP (.f (.func 207) [] [.p n1 0,.p n2 0,.p n3 0,.rp (xF f),.rp [.rp (wC w (BR w.parents))],.p n6 0]) (fun y=> .a (xF y)) (stH n1 n2 n3 n6) (NM w f) (xQ (lZ w f)):=by
 rintro x ⟨n,o⟩ ⟨⟨hk2,hal⟩,hn0,hn9⟩ Z hs;dsimp only at hn0 hn9;have hcx:1<=CA x:=by rw[ET];omega
 have hM:=Mx;refine A6 ?_;show As zP 207 ([]++[.a (xF x)]++_) Z _;have c5:=yI x Fg;have hwn:IntKind.i64.wrap (n+1)=n+1:=wrap64 (by omega) (by omega);refine uz kZ ?_;replace hs:Sat Z [.box n1 [eI n],.box n2 (xF Cv),.box n3 (xF Fg),.box n6 (xF o),.own (.l [] true) 6 (facts [])]:=Ce hs 6
 have hcl:(H8 x).length<=4:=by
  rw[H8,Kt]
  have:(if x.op=1 then []else if CR x Fg then [Cv]else [Cv,Fg]:List Fact).length<=2:=by
   split
   .simp
   .split<;>simp
  omega
 have hst: ∀g,((H8 x).map fun y=>Lv y f (n+1)).find? (Xt w f)=g->NM w f x (n,o)=match g with|some g=>(true,(n+1,g))|none=>(false,(n+1,o)):=fun g e=>by rw[NM,e]
 by_cases hx1:x.op=1<;>cases hx2:CR x Fg<;>rw[hx2]at c5
 all_goals
  conv=>whnf
  repeat'((first|apply st|(apply sq;intro K U)|(apply si;intro A B hA hB)|(refine hA _ _ ?_;clear hB B hA A)|(apply U;clear U K)|refine⟨rfl,?_⟩|refine⟨kZ,?_⟩|refine ld ?_|refine xO fun Z hs=>?_|refine oz fun v Z hs hsl=>?_|refine cft ?_|refine cff ?_|(refine EH hs 4 (ys:=x.kids) (enc:=EY) rfl ⟨by simp only[Kt,JU,List.length_nil]<;>omega,by simp only[Kt,JU,List.length_nil]<;>omega⟩ GD fun v Z hs=>?_)|refine c5.use ?_|(constructor<;>intro hc<;>(try rw[hc])<;>(replace hc:=bp hc)<;>try(exfalso;omega))|fail)<;>conv=>whnf)
  rw[hwn]at hs
  replace hs:Sat Z [.box n1 [eI (n+1)],.box n2 (xF Cv),.box n3 (xF Fg),.box n6 (xF o),.own v 6 (facts (H8 x))]:=by
   first|rw[H8,if_pos hx1]|rw[H8,if_neg hx1,hx2]
   exact hs
  clear c5 hx1 hx2;generalize H8 x=L at *
  conv=>whnf
  repeat'((first|apply st|(refine hA _ _ ?_;clear hB B hA A)|(apply U;clear U K)|refine lo ?_|fail)<;>conv=>whnf)
  refine Ba L.length (fun j (_:Unit)=>[(36,eI (Au j))]) (fun _ _=>[.box n1 [eI (n+1)],.box n2 (xF Cv),.box n3 (xF Fg),.box n6 (xF o),.own v 6 (facts L)]) (fun j _=>(L.map fun y=>Lv y f (n+1)).find? (Xt w f)=((L.drop j).map fun y=>Lv y f (n+1)).find? (Xt w f)) () rfl rfl hs ?_;clear hs;rintro j - Z hj hn hs;have hcj:Au j=j:=AW (by omega);rcases Aw L hj with⟨y,hy,hjl⟩|hje
  .rw [drop_cons hy,Cn,List.find?_cons]at hn
   obtain⟨hya,hgn⟩:=hal y (BY hy);obtain⟨hg1,hg2⟩:=hgn (n+1);have c6:=putP y f har (by omega) (n+1) (by omega) (by omega);have hyj:L[(Au j).toNat]? =some y:=by rw[hcj];exact hy
   generalize Lv y f (n+1)=g at *;have c7:=Lj w hw f g hnf hg1 (by omega);have c8:=Lj w hw g f hg1 hnf (by omega);rw[Xt]at hn;cases hi1:NQ w f g<;>rw[hi1]at c7 hn
   .conv=>whnf
    repeat'((first|apply st|(apply sq;intro K U)|(apply si;intro A B hA hB)|(refine hA _ _ ?_;clear hB B hA A)|(apply U;clear U K)|refine⟨rfl,?_⟩|refine⟨kZ,?_⟩|refine ld ?_|refine ZL fun Z hs=>?_|refine oi ?_|refine xr ?_|(refine qU (fun hc=>?_)<;>(try rw[hc])<;>clear hc)|refine c6.use ?_|refine c7.use ?_|(intro nn hnn;generalize hg:Bz _ nn _=Z;refine bT hg fun hs=>?_;clear hg)|clear U K)<;>conv=>whnf)
    all_goals exact⟨hjl,(),rfl,hn,hs.less ((HU _ _).trans (HU _ _))⟩
   .cases hi2:NQ w g f<;>rw[hi2]at c8 hn
    .conv=>whnf
     repeat'((first|apply st|(apply sq;intro K U)|(apply si;intro A B hA hB)|(refine hA _ _ ?_;clear hB B hA A)|(apply U;clear U K)|refine⟨rfl,?_⟩|refine⟨kZ,?_⟩|refine ld ?_|refine ZL fun Z hs=>?_|refine oi ?_|refine xr ?_|refine cff ?_|(refine qU (fun hc=>?_)<;>(try rw[hc])<;>clear hc)|refine c6.use ?_|refine c7.use ?_|refine c8.use ?_|(intro nn hnn;generalize hg:Bz _ nn _=Z;refine bT hg fun hs=>?_;clear hg)|clear U K)<;>conv=>whnf)
     all_goals exact⟨hjl,(),rfl,hn,hs.less ((HU _ _).trans (HU _ _))⟩
    .conv=>whnf
     repeat'((first|apply st|(apply sq;intro K U)|(apply si;intro A B hA hB)|(refine hA _ _ ?_;clear hB B hA A)|(apply U;clear U K)|refine⟨rfl,?_⟩|refine⟨kZ,?_⟩|refine ld ?_|refine ZL fun Z hs=>?_|refine oi ?_|refine xr ?_|refine cft ?_|(refine qU (fun hc=>?_)<;>(try rw[hc])<;>clear hc)|refine c6.use ?_|refine c7.use ?_|refine c8.use ?_|(intro nn hnn;generalize hg:Bz _ nn _=Z;refine bT hg fun hs=>?_;clear hg)|clear U K)<;>conv=>whnf)
     rw[hst _ hn];exact Aj hs (.cons _ (.cons _ (.cons₂ _ (.cons₂ _ (.cons₂ _ (.cons₂ _ (.cons _ .slnil))))))) (.refl _) fun Z' hs'=>⟨rfl,hs'⟩
  .rw[hje,List.drop_of_length_le (G0 _),List.map_nil,List.find?_nil]at hn
   conv=>whnf
   repeat'((first|apply st|(apply sq;intro K U)|(apply si;intro A B hA hB)|(refine hA _ _ ?_;clear hB B hA A)|(apply U;clear U K)|refine⟨rfl,?_⟩|(refine qT (fun hc=>?_)<;>(try rw[hc])<;>clear hc)|clear U K)<;>conv=>whnf)
   rw[hst _ hn];exact Aj hs (.cons₂ _ (.cons₂ _ (.cons₂ _ (.cons₂ _ (.cons _ .slnil))))) (.refl _) fun Z' hs'=>⟨rfl,hs'⟩
end Go.Gl
namespace Go.Gl
def LW (op:Int):Bool:=op==2||(op==3||op==4)
def VD (op:Int):Nat:=if op=5 then 0 else if op=6\/op=7 then 0 else 1
def aN (op:Int):Nat:=if LW op then 2 else 1
def aM (op:Int):Nat:=if LW op then 3 else 1
def P2 (f:Fact):CA f=GG (fun _=>1) f:=by
 induction f using Fact.ind with
 | h f ih=>
   rw[ET,FL,List.map_congr_left ih]
def OF (f:Fact):arity f=true->lv f=GG VD f:=by
 induction f using Fact.ind with
 | h f ih=>
   intro har;have h2:=har;rw[FU,A7,Cd,DT]at h2;rw[JH,Xj,FL,VD];by_cases h5:f.op=5
   .obtain⟨a,ha,hb⟩:=Dt har h5
    rw[if_pos h5,if_pos h5,ha];simpa using ih a (by rw[ha];exact .head _) hb
   .rw[if_neg h5,if_neg h5]
    by_cases h6:f.op=6\/f.op=7
    .obtain⟨a,b,ha,hb,hc⟩:=Ds har h6
     rw[if_pos h6,if_pos h6,ha];have e1:=ih a (by rw[ha];exact .head _) hb;have e2:=ih b (by rw[ha];exact .tail _ (.head _)) hc;simp[e1,e2]
    .rw[if_neg h6,if_neg h6]
     have:f.kids= []:=VA.1 (by rw[h2.1,B2,if_neg h5,if_neg h6]);rw[this];rfl
def Vc {a b:Int->Nat} {c:Nat} (h: ∀o,a o<=c*b o) (f:Fact):GG a f<=c*GG b f:=by
 induction f using Fact.ind with
 | h f ih=>
   rw[FL,FL,Nat.mul_add]
   have hl: ∀l:List Fact,(∀k∈l,GG a k<=c*GG b k)->(l.map (GG a)).sum<=c*(l.map (GG b)).sum:=fun l=>by
    induction l with
    | nil=>exact fun _=>by simp
    | cons k r ih2=>
      intro hk;have h1:=hk k (.head _);have h2:=ih2 fun x hx=>hk x (.tail _ hx)
      simp only[Cn,List.sum_cons,Nat.mul_add];omega
   have:=hl f.kids ih;have:=h f.op;omega
def NW (a:Int->Nat) {f k:Fact} (h:k∈f.kids):a f.op+GG a k<=GG a f:=by
 obtain⟨l1,l2,he⟩:=List.append_of_mem h;rw[FL a f,he];simp only[ND,Cn,List.sum_append,List.sum_cons];omega
def Df {w:AE} {f:Fact} (h:An w f=true): ∀k∈f.kids,An w k=true:=by
 rw[Be,A7,DT]at h;exact h.2
def QM {w:AE} {f:Fact} {l:List Fact} (h:An w f=true) (hl:l.length=f.kids.length) (hk: ∀k∈l,An w k=true):An w (wk f l)=true:=by
 rw[Be,A7,DT]at *;refine⟨?_,hk⟩;have:=h.1;cases f;simp only[Cf,SH,Bu,wk,Fact.op,Fact.arg,Fact.path,Fact.cls,Fact.n,Fact.kids]at *;rw[hl];exact this
def PE {w : AE} {x:Fact} (h:An w x=true):x.op=1/\x=Cv\/LW x.op=true\/(x.op=5\/x.op=6\/x.op=7)/\x.arg=0/\x.path= []/\x.cls=0/\x.n=0:=by
 rw[Be,A7]at h;have h1:=h.1;rw[Cf,A7]at h1;obtain⟨hop,h1⟩:=h1;cases x with
 | mk o a p c n k=>
   by_cases h2:o=2
   .right;left;simp[LW,Fact.op,h2]
   .by_cases h3:o=3\/o=4
    .right;left;rcases h3 with h3|h3<;>simp[LW,Fact.op,h3]
    .rw[SH,if_neg (show¬(Fact.mk o a p c n k).op=2 from h2),if_neg (show¬((Fact.mk o a p c n k).op=3\/(Fact.mk o a p c n k).op=4) from h3)]at hop
     simp only[Bu,Fact.op,Fact.arg,Fact.path,Fact.cls,Fact.n,Fact.kids,A7,CF,Ew,Cd]at *;obtain⟨e2,-,-,-,e6⟩:=h1
     have e7:a=0/\p= []/\c=0/\n=0:=by
      rcases e6 with e6|⟨q1,q2,q3,q4⟩
      .omega
      .exact⟨q1,VA.1 q2,q3,q4⟩
     obtain⟨rfl,rfl,rfl,rfl⟩:=e7;rcases hop with((rfl|rfl)|rfl)|rfl
     .left
      have:k= []:=VA.1 (by rw[e2];rfl);exact⟨rfl,by rw[this]⟩
     .exact .inr (.inr ⟨.inl rfl,rfl,rfl,rfl,rfl⟩)
     .exact .inr (.inr ⟨.inr (.inl rfl),rfl,rfl,rfl,rfl⟩)
     .exact .inr (.inr ⟨.inr (.inr rfl),rfl,rfl,rfl,rfl⟩)
def bD {w:AE} {x:Fact} (h:An w x=true):H8 x=K8 x:=by
 have e:(x.op=1)↔CR x Cv=true:=by
  rw[E2];constructor
  .intro h1
   rcases PE h with⟨_,h2⟩|h2|⟨h2,_⟩
   .exact h2
   .simp[LW]at h2;omega
   .omega
  .rintro rfl;rfl
 rw[H8,K8];by_cases h1:x.op=1
 .rw[if_pos h1,if_pos (e.1 h1)]
 .rw[if_neg h1,if_neg fun h2=>h1 (e.2 h2)]
def No (w:AE):An w Cv=true:=by
 rw[Be];simp[Cf,SH,B2,Ex,Bu,Fact.op,Fact.arg,Fact.path,Fact.cls,Fact.n,Fact.kids]
def je (w:AE):An w Fg=true:=by
 rw[Be,Fg,Ca];simp[Cf,SH,B2,Ex,Bu,Fact.op,Fact.arg,Fact.path,Fact.cls,Fact.n,Fact.kids];exact No w
def N9 {w:AE} {x:Fact} (h:An w x=true): ∀y∈K8 x,An w y=true:=fun y hy=>by
 rw[K8]at hy;rcases Du.1 hy with hy|hy
 .split at hy
  .cases hy
  .split at hy
   .simp at hy;subst hy;exact No w
   .simp at hy
    rcases hy with rfl|rfl
    .exact No w
    .exact je w
 .exact Df h y hy
end Go.Gl
namespace Go.Gl
def T1 {a:Int->Nat} (h: ∀o,1<=a o) (f:Fact):1<=GG a f:=by
 rw[FL];have:=h f.op;omega
def UE (o:Int):1<=aN o:=by unfold aN;split<;>omega
def LY (o:Int):1<=aM o:=by unfold aM;split<;>omega
def oq {w:AE} {f:Fact} (h:An w f=true):1<=GG VD f:=by
 rw[<-OF f (Am f h)];exact X9 f (Am f h)
def rz {w:AE} {x:Fact} (h:An w x=true) (h5:x.op=5): ∃k,x=Ca k/\An w k=true:=by
 obtain⟨k,hk,-⟩:=Dt (Am x h) h5;rcases PE h with⟨h1,_⟩|h1|⟨_,e1,e2,e3,e4⟩
 .omega
 .simp[LW]at h1;omega
 .refine⟨k,?_,Df h k (by rw[hk];exact .head _)⟩
  cases x;simp only[Fact.op,Fact.arg,Fact.path,Fact.cls,Fact.n,Fact.kids]at *;subst h5 e1 e2 e3 e4 hk;rfl
def UY (a:Int->Nat):GG a Cv=a 1:=by rw[FL];rfl
def T2 (a:Int->Nat) (k:Fact):GG a (Ca k)=a 5+GG a k:=by
 rw[FL];show a 5+(([k]:List Fact).map (GG a)).sum=_;simp
def iO {w:AE} {x:Fact} (h:An w x=true) (hx:x≠Cv):2<=GG aM x/\2<=GG aN x:=by
 rcases PE h with⟨_,h1⟩|h1|⟨h1,_⟩
 .exact absurd h1 hx
 .have e1:aM x.op=3:=by rw[aM,if_pos h1]
  have e2:aN x.op=2:=by rw[aN,if_pos h1]
  rw[FL,FL,e1,e2];omega
 .obtain⟨k,hk⟩: ∃k,k∈x.kids:=by
   rcases h1 with h5|h6
   .obtain⟨k,hk,-⟩:=Dt (Am x h) h5
    exact⟨k,by rw[hk];exact .head _⟩
   .obtain⟨k,b,hk,-⟩:=Ds (Am x h) h6
    exact⟨k,by rw[hk];exact .head _⟩
  have e1:=NW aM hk;have e2:=NW aN hk;have:=T1 LY k;have:=T1 UE k;have:=LY x.op;have:=UE x.op;omega
def kr {w:AE} {x:Fact} (h:An w x=true) (hx:x≠Cv) (hn:x≠Fg):3<=GG aM x:=by
 rcases PE h with⟨_,h1⟩|h1|⟨h1,_⟩
 .exact absurd h1 hx
 .have e1:aM x.op=3:=by rw[aM,if_pos h1]
  rw[FL,e1];omega
 .rcases h1 with h5|h6
  .obtain⟨k,rfl,hk⟩:=rz h h5
   have hkt:k≠Cv:=fun e=>hn (by rw[e];rfl)
   have:=(iO hk hkt).1;rw[T2];have:=LY 5;omega
  .obtain⟨a,b,hk,-⟩:=Ds (Am x h) h6
   rw[FL,hk];have:=T1 LY a;have:=T1 LY b;have:=LY x.op;simp only[Cn,List.map_nil,List.sum_cons,List.sum_nil];omega
def N8 {w:AE} {x:Fact} (h:An w x=true) {y:Fact} (hy:y∈K8 x):GG VD y<=GG VD x/\GG aN y<=GG aN x/\GG aM y<GG aM x:=by
 have hlx:=oq h;have t1:GG VD Cv=1:=by rw[UY];rfl
 have t2:GG aN Cv=1:=by rw[UY];rfl
 have t3:GG aM Cv=1:=by rw[UY];rfl
 have n1:GG VD Fg=1:=by rw[Fg,T2,t1];rfl
 have n2:GG aN Fg=2:=by rw[Fg,T2,t2];rfl
 have n3:GG aM Fg=2:=by rw[Fg,T2,t3];rfl
 rw[K8]at hy;rcases Du.1 hy with hy|hy
 .cases hx1:CR x Cv
  .have hxt:x≠Cv:=fun e=>by rw[(E2 x Cv).2 e]at hx1;cases hx1
   have h2:=iO h hxt;rw[hx1,if_neg (by decide)]at hy;cases hx2:CR x Fg
   .have hxn:x≠Fg:=fun e=>by rw[(E2 x Fg).2 e]at hx2;cases hx2
    have h3:=kr h hxt hxn;rw[hx2,if_neg (by decide)]at hy;simp only[Ff,List.not_mem_nil,or_false]at hy;rcases hy with rfl|rfl
    .omega
    .omega
   .rw[hx2,if_pos rfl]at hy
    simp only[Ff,List.not_mem_nil,or_false]at hy;subst hy;omega
  .rw[hx1,if_pos rfl]at hy
   cases hy
 .have e1:=NW VD hy
  have e2:=NW aN hy;have e3:=NW aM hy;have:=LY x.op;omega
def Qu {w:AE} {f g:Fact}: ∀ {l:List Nat},Pk w f l=some g-> ∃n∈l,∃y∈K8 (GX f n).1,g=(Xi y f n).1
 | [],h=>by cases h
 | n ::l,h=>by
   rw[Pk]at h;cases hs:Px w f n with
   | none=>
     rw[hs,Option.none_or]at h;obtain⟨m,hm,r⟩:=Qu h;exact⟨m,.tail _ hm,r⟩
   | some g2=>
     rw[hs]at h;obtain rfl:g2=g:=Option.some.inj h;have:=List.mem_of_find?_eq_some hs;obtain⟨y,hy,e⟩:=GL.1 this;exact⟨n,.head _,y,hy,e.symm⟩
def mH {w:AE} {f g:Fact} (h:An w f=true) (hg:FE w f=some g):An w g=true/\GG VD g<=GG VD f/\GG aN g<=GG aN f/\GG aM g<GG aM f:=by
 obtain⟨n,hn,y,hy,rfl⟩:=Qu hg;rw[List.mem_range]at hn;have hx:=UT (P:=An w) (fun f h=>Df h) f h n (by omega) (by omega);rw[e9 f n (by omega) (by omega)];have h1:=N8 hx hy;have e1:=Vb VD y f n (by omega) (by omega);have e2:=Vb aN y f n (by omega) (by omega);have e3:=Vb aM y f n (by omega) (by omega);exact⟨X5 (P:=An w) (fun f h=>Df h) (fun f l h hl hk=>QM h hl hk) (N9 hx y hy) f h n,by dsimp only;omega,by dsimp only;omega,by dsimp only;omega⟩
end Go.Gl
namespace Go.Gl
open Go.Proofs
attribute [local irreducible] As Af AV AQ AI AU AP AR AJ AT AM AN Ag Ar Sat AS Ap AX W
def DE (w:AE):Nat->Fact->Fact
 | 0,f=>f
 | n+1,f=>match FE w f with|some g=>DE w n g|none=>f
attribute [local irreducible] Fz
def L6 (w:AE) (f:Fact):Bool×SN:=Rq (NM w f) f (-1,f)
def notP (f:Fact):Pure zP 205 [.a (xF f)] (.a (xF (Ca f))):=by
 refine gd kZ ?_;have hs:=Sn
 conv=>whnf
 repeat'((first|apply st|(apply sq;intro K U)|(apply si;intro A B hA hB)|(refine hA _ _ ?_;clear hB B hA A)|(apply U;clear U K)|refine⟨kZ,?_⟩|refine ld ?_|refine ZL fun Z hs=>?_|(intro nn hnn;generalize hg:Bz _ nn _=Z;refine bT hg fun hs=>?_;clear hg)|fail)<;>conv=>whnf)
 refine AY (.a (.cons (.refl _) (.cons (.refl _) (.cons BS (.cons (.refl _) (.cons (.refl _) (.cons ?_ .nil)))))));refine .l (fun h=>by cases h) ?_;simp only[Ca,Fact.kids,List.map,A9];exact CU _
def mJ (w:AE) (hw:CS w) (f:Fact) (hnf:An w f=true) (hlf:lv f<=12) (har:arity f=true) (hcf:CA f<=100) (D:Fact->Prop) (hDf:D f) (hD: ∀y,D y->lZ w f y/\ ∀k∈y.kids,D k) :
    Pure zP 157 [.rp (wC w (BR w.parents)),.a (xF f)] (.t [.a (xF (L6 w f).2.2),.b (L6 w f).1]):=by
 have c1:Pure zP 205 [.a [.i .i64 1,.i .i64 0,.l [] true,.i .i64 0,.i .i64 0,.l [] true]] (.a (xF Fg)):=Pure.arg (notP Cv) (.cons (.a (.cons (.refl _) (.cons (.refl _) (.cons BS (.cons (.refl _) (.cons (.refl _) (.cons BS .nil))))))) .nil);refine vj kZ ?_;have hs:=Sn
 conv=>whnf
 repeat'((first|(refine dz ?_;intro K U)|(apply si;intro A B hA hB)|(refine hA _ _ ?_;clear hB B hA A)|(apply U;clear U K)|(intro nn hnn;generalize hg:Bz _ nn _=Z;refine bT hg fun hs=>?_;clear hg)|fail)<;>conv=>whnf)
 clear hnn;generalize nn=n4 at *;refine qS ?_
 conv=>whnf
 repeat'((first|(refine dz ?_;intro K U)|(apply si;intro A B hA hB)|(refine hA _ _ ?_;clear hB B hA A)|(apply U;clear U K)|refine ZL fun Z hs=>?_|refine c1.use ?_|(intro nn hnn;generalize hg:Bz _ nn _=Z;refine bT hg fun hs=>?_;clear hg)|fail)<;>conv=>whnf)
 replace hs:=Ce hs 6;refine yj hs 3 1 rfl rfl (vs2:=xF Cv) (fun Z2 h=> .cons (.refl _) (.cons (.refl _) (.cons h (.cons (.refl _) (.cons (.refl _) (.cons h .nil)))))) (fun Z2 h=> .cons (.refl _) (.cons (.refl _) (.cons (.refl _) (.cons (.refl _) (.cons (.refl _) .nil))))) fun Z hs=>?_
 clear hnn;generalize nn=n7 at *
 conv=>whnf
 repeat'((first|apply st|(refine dz ?_;intro K U)|(apply si;intro A B hA hB)|(refine hA _ _ ?_;clear hB B hA A)|(apply U;clear U K)|refine⟨kZ,?_⟩|refine xO fun Z hs=>?_|refine ZL fun Z hs=>?_|(intro nn hnn;generalize hg:Bz _ nn _=Z;refine bT hg fun hs=>?_;clear hg)|fail)<;>conv=>whnf)
 replace hs:Sat Z [.box nn [eI (-1)],.box _ (xF f),.box n7 (xF Fg),.box _ (xF Cv),.box n4 [.i .i64 0,.i .i64 0,.l [] true,.i .i64 0,.i .i64 0,.l [] true]]:=hs;replace hs:=Sat.front (j:=3) (Sat.front (j:=3) (Sat.front (j:=2) (Sat.front (j:=1) hs rfl) rfl) rfl) rfl;refine qS ?_
 conv=>whnf
 repeat'((first|apply st|(refine dz ?_;intro K U)|(apply si;intro A B hA hB)|refine⟨kZ,?_⟩|fail)<;>conv=>whnf)
 refine(j8 (C:=D) (rK w f) (fun y hy=>⟨(hD y hy).1.1,(hD y hy).2⟩) (fun y s hd=>mI w hw f hnf hlf har hcf _ _ _ _ y s ⟨(hD y hd.1).1,hd.2⟩) f (-1,f) ⟨hDf,by dsimp only;omega,by dsimp only;omega⟩).use (rest:=[_]) hs ?_;clear hs;rintro r post Z ⟨rfl,rfl⟩ hs;have hsp:L6 w f=Rq (NM w f) f (-1,f):=rfl;generalize Rq (NM w f) f (-1,f)=q at *;obtain⟨b,i,g⟩:=q;replace hs:Sat Z [.box _ [eI i],.box _ (xF Cv),.box n7 (xF Fg),.box _ (xF g),.box n4 [.i .i64 0,.i .i64 0,.l [] true,.i .i64 0,.i .i64 0,.l [] true]]:=hs
 conv=>whnf
 repeat'((first|apply st|(apply sq;intro K U)|(apply si;intro A B hA hB)|(refine hA _ _ ?_;clear hB B hA A)|(apply U;clear U K)|refine⟨kZ,?_⟩|refine ld ?_|refine ZL fun Z hs=>?_|refine qS ?_|fail)<;>conv=>whnf)
 all_goals exact AF (by rw[hsp];rfl)
end Go.Gl
namespace Go.Gl
open Go.Proofs
attribute [local irreducible] As Af AV AQ AI AU AP AR AJ AT AM AN Ag Ar Sat AS Ap AX W
structure lS (w:AE) (C:Fact->Prop) (M:Fact->Nat):Prop where
 node: ∀f,C f->An w f=true/\lv f<=12/\arity f=true/\CA f<=100/\ ∃D:Fact->Prop,D f/\ ∀y,D y->lZ w f y/\ ∀k∈y.kids,D k
 step: ∀f,C f->L6 w f=((FE w f).isSome,(L6 w f).2.1,(FE w f).getD f)
 next: ∀f g,C f->FE w f=some g->C g/\M g<M f
def XA {w:AE} {f g:Fact} (h:FE w f=some g) (n:Nat):DE w (n+1) f=DE w n g:=by rw[DE,h]
def xm {w:AE} {C:Fact->Prop} {M:Fact->Nat} (hS:lS w C M): ∀(m:Nat) (f:Fact),C f->M f<=m-> ∀n n',M f<n->M f<n'->DE w n f=DE w n' f:=fun m=>by
 induction m with
 | zero=>
   intro f hf hm n n' h1 h2;obtain⟨a,rfl⟩: ∃a,n=a+1:=⟨n - 1,by omega⟩
   obtain⟨b,rfl⟩: ∃b,n'=b+1:=⟨n' - 1,by omega⟩
   rw[DE,DE];cases hst:FE w f with
   | none=>rfl
   | some g=>have:=(hS.next f g hf hst).2;omega
 | succ m ih=>
   intro f hf hm n n' h1 h2;obtain⟨a,rfl⟩: ∃a,n=a+1:=⟨n - 1,by omega⟩
   obtain⟨b,rfl⟩: ∃b,n'=b+1:=⟨n' - 1,by omega⟩
   rw[DE,DE];cases hst:FE w f with
   | none=>rfl
   | some g=>
     have:=hS.next f g hf hst
     exact ih g this.1 (by omega) a b (by omega) (by omega)
def oM (f:Fact):arity f=true->Pure zP 158 [.a (xF f)] (.a (xF f)):=by
 induction f using Fact.ind with
 | h f ih=>
   intro har;rw[FU,A7,Cd,DT]at har;have hk2:=T5 f;have hM:=Mx;have c1:=Qh f.path false;refine vg kZ ?_;have hs:=Sn
   conv=>whnf
   repeat'((first|apply st|(apply sq;intro K U)|(apply si;intro A B hA hB)|(refine hA _ _ ?_;clear hB B hA A)|(apply U;clear U K)|refine ld ?_|refine xO fun Z hs=>?_|refine c1.use ?_|(intro nn hnn;generalize hg:Bz _ nn _=Z;refine bT hg fun hs=>?_;clear hg)|fail)<;>conv=>whnf)
   rename_i n1 _ _ _ _ _ _ _;refine Ba f.kids.length (fun k (_:V)=>[(15,eI (Au k))]) (fun k v=>[.box nn [.i .i64 0,.i .i64 0,.l [] true,.i .i64 0,.i .i64 0,.l [] true],.box n1 [eI f.op,eI f.arg,.l (iL f.path) false,eI f.cls,eI f.n,v],.own v 6 (facts (f.kids.take k))]) (fun _ _=>True) (.l [] true) rfl trivial (Ce hs 6) ?_;clear hs;rintro k v Z hk - hs;rcases Aw f.kids hk with⟨x,hx,hlt⟩|hke
   .have hck:Au k=k:=AW (by omega)
    have hst:=AO hx;have c2:=ih x (BY hx) (har.2 x (BY hx));have hzl:(f.kids.take k).length<=2:=by rw[Ib];omega
    generalize f.kids.take k=zs at *;have hll:zs.length<AZ/\(zs.length+1)*80<=140737488355328:=by omega
    conv=>whnf
    repeat'((first|apply st|(apply sq;intro K U)|(apply si;intro A B hA hB)|(refine hA _ _ ?_;clear hB B hA A)|(apply U;clear U K)|apply dr|refine rk ?_ ?_|exact fun s e=>by cases e;rfl|refine⟨rfl,?_⟩|refine⟨kZ,?_⟩|refine ixF ?_|refine ld ?_|refine xO fun Z hs=>?_|refine ZL fun Z hs=>?_|refine oz fun v Z hs hsl=>?_|(refine qU (fun hc=>?_)<;>(try rw[hc])<;>clear hc)|refine c2.use ?_|(intro nn hnn;generalize hg:Bz _ nn _=Z;refine bT hg fun hs=>?_;clear hg)|clear U K)<;>conv=>whnf)
    exact⟨hlt,_,rfl,trivial,by rw[hst];exact hs.less (HU _ _)⟩
   .rw[Ak hke]at hs
    conv=>whnf
    repeat'((first|apply st|(apply sq;intro K U)|(apply si;intro A B hA hB)|(refine hA _ _ ?_;clear hB B hA A)|(apply U;clear U K)|refine⟨rfl,?_⟩|refine⟨kZ,?_⟩|refine ld ?_|(refine qT (fun hc=>?_)<;>(try rw[hc])<;>clear hc)|clear U K)<;>conv=>whnf)
    have o1:=F8 hs 2 rfl;refine FN hs 0 rfl rfl rfl (by simp[o1]) (by decide) fun Z hs=>?_
    clear o1
    conv=>whnf
    repeat'((first|apply st|(refine hA _ _ ?_;clear hB B hA A)|(apply U;clear U K)|refine⟨kZ,?_⟩|refine ld ?_|fail)<;>conv=>whnf)
    exact AY (.a (.cons (.refl _) (.cons (.refl _) (.cons (.refl _) (.cons (.refl _) (.cons (.refl _) (.cons (hs.Ic 2 rfl) .nil)))))))
def mN (w:AE) (hw:CS w) {C:Fact->Prop} {M:Fact->Nat} (hS:lS w C M) (f:Fact) (hf:C f) (hfm:K7 w f=true) (hM2:M f<200):Pure zP 100 [.a (Ax w),.a (xF f)] (.t [.a (xF (DE w 200 f)),eI 0]):=by
 have c1:Pure zP 77 [.a (Ax w),.l [xF f] true] (.t [.rp (wC w (BR w.parents)),.b true]):=by
  have:=UP w hw [f] true (by simp);simp only[facts,Cn,List.map_nil,A9,Jd,List.all_nil,Bool.and_true,hfm]at this;exact this
 have c2: ∀g,C g->Pure zP 157 [.rp (wC w (BR w.parents)),.a (xF g)] (.t [.a (xF ((FE w g).getD g)),.b (FE w g).isSome]):=fun g hg=>by
  obtain⟨h1,h2,h3,h4,D,h5,h6⟩:=hS.node g hg;have:=mJ w hw g h1 h2 h3 h4 D h5 h6;rw[hS.step g hg]at this;exact this
 obtain⟨Rv,hR⟩: ∃Rv,Rv=DE w 200 f:=⟨_,rfl⟩
 rw[<-hR];replace hR: ∀n,M f<n->DE w n f=Rv:=fun n hn=>by rw[hR];exact xm hS _ f hf (G0 _) _ _ hn hM2
 have hgo: ∀x g,C x->(∀n,M x<n->DE w n x=Rv)->FE w x=some g->C g/\M g<M x/\ ∀n,M g<n->DE w n g=Rv:=fun x g hx h hst=>by
  obtain⟨h1,h2⟩:=hS.next x g hx hst
  refine⟨h1,h2,fun n hn=>?_⟩;rw[xm hS _ g h1 (G0 _) n (M x+1) hn (by omega),<-h (M x+2) (by omega),XA hst]
 have hnone: ∀x,(∀n,M x<n->DE w n x=Rv)->FE w x=none->x=Rv:=fun x h hst=>by
  rw[<-h (M x+1) (by omega),DE,hst]
 refine wi kZ ?_;have hs:=Sn
 conv=>whnf
 repeat'((first|apply st|(apply sq;intro K U)|(apply si;intro A B hA hB)|(refine hA _ _ ?_;clear hB B hA A)|(apply U;clear U K)|refine⟨kZ,?_⟩|refine ld ?_|refine cff ?_|refine c1.use ?_|(intro nn hnn;generalize hg:Bz _ nn _=Z;refine bT hg fun hs=>?_;clear hg)|fail)<;>conv=>whnf)
 refine Pure.use (c2 f hf) ?_;rename_i n3 _ _ _
 conv=>whnf
 repeat'((first|apply st|(apply sq;intro K U)|(refine hA _ _ ?_;clear hB B hA A)|(apply U;clear U K)|refine ZL fun Z hs=>?_|fail)<;>conv=>whnf)
 refine DD (fun x:Fact×Bool=>if x.2 then M x.1+1 else 0) (fun x=>[(8,.b x.2)]) (fun x=>[.box nn [.i .i64 0,.i .i64 0,.l [] true,.i .i64 0,.i .i64 0,.l [] true],.box n3 (xF x.1)]) (fun x=>C x.1/\(∀n,M x.1<n->DE w n x.1=Rv)/\(x.2=false->FE w x.1=none)) ((FE w f).getD f,(FE w f).isSome) rfl ?_ hs ?_
 .cases hst:FE w f with
  | none=>exact⟨hf,hR,fun _=>hst⟩
  | some g=>
    obtain⟨h1,h2,h3⟩:=hgo f g hf hR hst;exact⟨h1,h3,fun h=>by cases h⟩
 clear hs;rintro⟨x,b⟩ Z ⟨hx,hxn,hxf⟩ hs;dsimp only at hx hxn hxf hs;dsimp only;cases b
 .have hxR:=hnone x hxn (hxf rfl)
  have c3:=oM x (hS.node x hx).2.2.1
  conv=>whnf
  repeat'((first|apply st|(apply sq;intro K U)|(apply si;intro A B hA hB)|(refine hA _ _ ?_;clear hB B hA A)|(apply U;clear U K)|refine⟨kZ,?_⟩|refine ld ?_|refine ZL fun Z hs=>?_|refine c3.use ?_|clear U K)<;>conv=>whnf)
  all_goals exact AF (by rw[<-hxR];rfl)
 .have c3:=c2 x hx
  cases hst:FE w x with
  | none=>
    rw[hst]at c3;dsimp only[Option.getD,Option.isSome]at c3
    conv=>whnf
    repeat'((first|apply st|(apply sq;intro K U)|(apply si;intro A B hA hB)|(refine hA _ _ ?_;clear hB B hA A)|(apply U;clear U K)|refine⟨kZ,?_⟩|refine ld ?_|refine ZL fun Z hs=>?_|refine c3.use ?_|clear U K)<;>conv=>whnf)
    all_goals exact⟨(x,false),by simp,rfl,⟨hx,hxn,fun _=>hst⟩,hs⟩
  | some g=>
    rw[hst]at c3;dsimp only[Option.getD,Option.isSome]at c3;obtain⟨h1,h2,h3⟩:=hgo x g hx hxn hst
    conv=>whnf
    repeat'((first|apply st|(apply sq;intro K U)|(apply si;intro A B hA hB)|(refine hA _ _ ?_;clear hB B hA A)|(apply U;clear U K)|refine⟨kZ,?_⟩|refine ld ?_|refine ZL fun Z hs=>?_|refine c3.use ?_|clear U K)<;>conv=>whnf)
    all_goals exact⟨(g,true),by simp;omega,rfl,⟨h1,h3,fun h=>by cases h⟩,hs⟩
attribute [local irreducible] Fz
def Fw (p:Prog) (l:List Int):List Fact:=(l.filter fun m=>(BK p m).kind==1).map fun m=>(BK p m).fact
def L7 (p:Prog) (gen:Int):Fact:=if(Fw p (Bo p gen)).isEmpty then .mk 1 0 [] 0 0 []else Ca (lO 7 (Fw p (Bo p gen)))
def Yh (p:Prog) (l:List Int) (x:Int):Fw p (l++[x])=if(BK p x).kind==1 then Fw p l++[(BK p x).fact]else Fw p l:=by
 rw[Fw,List.filter_append];cases h:(BK p x).kind==1<;>simp[Fw,h]
def Sr (p:Prog) (l:List Int):(Fw p l).length<=l.length:=by
 rw[Fw,Bh];exact NI _ _
end Go.Gl
namespace Go.Gl
open Go.Proofs
attribute [local irreducible] As Af AV AQ AI AU AP AR AJ AT AM AN Ag Ar Sat AS Ap AX W
def fR (w:AE) (f:Fact):Prop:= ∃C M,lS w C M/\C f/\M f<200/\ ∀g,C g->rL w g
def Mi (p:Prog) (gen:Int):Fact×Int:=if B9 p gen then(if(Bo p gen).length<=8 then(if Bv (AG p) (L7 p gen)then(DE (AG p) 200 (L7 p gen),0)else(Js,3))else(Js,3))else(Js,2)
end Go.Gl
namespace Go.Gl
def Sh {w:AE} {f:Fact} (h:An w f=true): ∀(d k:Nat),k+d=CA f->
    (Xn (NM w f) ((Pd f).drop k) ((k:Int) - 1,f)).1=(Pk w f ((List.range (CA f)).drop k)).isSome/\(Xn (NM w f) ((Pd f).drop k) ((k:Int) - 1,f)).2.2=(Pk w f ((List.range (CA f)).drop k)).getD f
 | 0,k,hk=>by
   rw[List.drop_of_length_le (by rw[QH];omega),List.drop_of_length_le (by rw[xc];omega)];exact⟨rfl,rfl⟩
 | d + 1,k,hk=>by
   have hlt:k<CA f:=by omega
   have hx:=UT (P:=An w) (fun f h=>Df h) f h k (by omega) (by omega);have hr:(List.range (CA f))[k]? =some k:=List.getElem?_range hlt
   have hc:(H8 (GX f (k:Int)).1).map (fun y=>Lv y f ((k:Int) - 1+1))=(K8 (GX f (k:Int)).1).map fun y=>(Xi y f (k:Int)).1:=by
    rw[bD hx];refine List.map_congr_left fun y _=>?_
    rw[e9 f k (by omega) (by omega),Int.sub_add_cancel]
   have he:NM w f (GX f (k:Int)).1 ((k:Int) - 1,f)=match Px w f k with|some g=>(true,((k:Int) - 1+1,g))|none=>(false,((k:Int) - 1+1,f)):=by
    rw[NM,Px,<-hc];try(dsimp only;cases List.find? (Xt w f) ((H8 (GX f (k:Int)).1).map fun y=>Lv y f ((k:Int) - 1+1))<;>rfl)
   rw[drop_cons (mb f k hlt),drop_cons hr,Xn,Pk,he];cases hs:Px w f k with
   | some g=>exact⟨rfl,rfl⟩
   | none=>
     have:=Sh h d (k+1) (by omega);rw[show(((k+1:Nat):Int) - 1)=(k:Int) - 1+1 by omega]at this;rw[Option.none_or];exact this
def ir {w:AE} {f:Fact} (h:An w f=true):L6 w f=((FE w f).isSome,(L6 w f).2.1,(FE w f).getD f):=by
 have:=Sh h (CA f) 0 (by omega);rw[List.drop_zero,List.drop_zero]at this;have e:L6 w f=Xn (NM w f) (Pd f) ((0:Nat) - 1,f):=by rw[L6,rF];rfl
 rw[e]at *;exact Prod.ext this.1 (Prod.ext rfl this.2)
def Q5 {most:Int}: ∀(l:List Fact) (n:Int),(∀k∈l,∀m:Int,(CA k:Int)<=m->B1 k m=CA k)->n+C8 l<=most->C2 (l.map B1) n most=n+C8 l
 | [],n,_,_=>by rw[FT];simp[C2]
 | k::l,n,hk,h=>by
   rw[DK]at *;have:=Ec l;rw[Cn,C2,if_pos (by omega),hk k (.head _) (most - n) (by omega),Q5 l _ (fun x hx=>hk x (.tail _ hx)) (by omega)];omega
def Ym (f:Fact): ∀m:Int,(CA f:Int)<=m->B1 f m=CA f:=by
 induction f using Fact.ind with
 | h f ih=>
   intro m hm;rw[D6]at *;rw[IS,Q5 f.kids 1 ih hm]
def aK {w:AE} {x:Fact} (h:An w x=true):x.kids.length<=2:=by
 have:=Am x h;rw[FU,A7,Cd]at this;rw[this.1];exact T5 x
def rm {w:AE} {f x:Fact} (hf:An w f=true) (hl:lv f<=12) (hx:An w x=true) (hlx:lv x<=12):lZ w f x:=by
 refine⟨aK hx,fun y hy=>?_⟩;rw[bD hx]at hy;have hyn:=N9 hx y hy;refine⟨Am y hyn,fun n=>?_⟩;have hs:=X5 (P:=An w) (fun f h=>Df h) (fun f l h hl hk=>QM h hl hk) hyn f hf n;refine⟨hs,?_⟩;by_cases hi:0<=n/\n<CA f
 .have h1:=Vb VD y f n hi.1 hi.2
  have h2:=(N8 hx hy).1;rw[OF _ (Am _ hs)];rw[OF _ (Am _ hf)]at hl;rw[OF _ (Am _ hx)]at hlx;omega
 .rw[Tw f n (by omega)]
  omega
def kQ {w:AE} {f:Fact} (hf:Bv w f=true) (hn:B1 f 24<=12):fR w f:=by
 simp only[Bv,A7,CF]at hf;have hnf:=hf.2.2
 have hcf:CA f<=12:=by
  have:=Ix f 24 (by omega) (by omega);omega
 have hS:lS w (fun g=>An w g=true/\GG VD g<=12/\GG aN g<=24) (GG aM):=by
  refine⟨fun g ⟨h1,h2,h3⟩=>?_,fun g ⟨h1,_,_⟩=>ir h1,fun g g2 ⟨h1,h2,h3⟩ hg=>?_⟩
  .have hl:lv g<=12:=by rw[OF g (Am g h1)];exact h2
   have hc:CA g<=1*GG aN g:=by rw[P2];exact Vc (fun o=>by have:=UE o;omega) g
   refine⟨h1,hl,Am g h1,by omega,fun x=>An w x=true/\lv x<=12,⟨h1,hl⟩,fun y ⟨hy,hly⟩=>⟨rm h1 hl hy hly,fun k hk=>⟨Df hy k hk,?_⟩⟩⟩;have e:=NW VD hk;rw[OF _ (Am _ hy)]at hly;rw[OF _ (Am _ (Df hy k hk))];omega
  .have:=mH h1 hg
   exact⟨⟨this.1,by omega,by omega⟩,this.2.2.2⟩
 refine⟨_,_,hS,⟨hnf,?_,?_⟩,?_,fun g ⟨h1,h2,h3⟩=>?_⟩
 .have:=Vc (a:=VD) (b:=fun _=>1) (c:=1) (fun o=>by unfold VD;split<;>(try split)<;>omega) f
  rw[<-P2]at this;omega
 .have:=Vc (a:=aN) (b:=fun _=>1) (c:=2) (fun o=>by unfold aN;split<;>omega) f
  rw[<-P2]at this;omega
 .have:=Vc (a:=aM) (b:=fun _=>1) (c:=3) (fun o=>by unfold aM;split<;>omega) f
  rw[<-P2]at this;omega
 .obtain⟨n1,n2,n3,n4,-⟩:=hS.node g ⟨h1,h2,h3⟩
  have hc:CA g<=1*GG aN g:=by rw[P2];exact Vc (fun o=>by have:=UE o;omega) g
  refine⟨h1,n2,n3,Ym g 24 (by omega),by omega,fun n hn=>?_⟩;have hx:=UT (P:=An w) (fun f h=>Df h) g h1 n (by omega) (by omega);refine⟨aK hx,fun y hy=>?_⟩;rw[e9 g n (by omega) (by omega)];have hs:=X5 (P:=An w) (fun f h=>Df h) (fun f l h hl hk=>QM h hl hk) (N9 hx y hy) g h1 n;refine⟨hs,?_⟩;have e1:=Vb VD y g n (by omega) (by omega);have e2:=(N8 hx hy).1;rw[OF _ (Am _ hs)];omega
end Go.Gl
namespace Go.Gl
open Go.Proofs
def PX (c:Int):Fact:=Fact.mk 2 0 [] c 0 []
def qV (k:Int) (f:Fact) (n:Int):L5:=⟨k,0,f,n⟩
def Kw:Prog:=⟨[⟨[],[],[]⟩,⟨[3],[],[]⟩,⟨[3],[],[]⟩],0,[1],[qV 1 (PX 3) 0,qV 1 (PX 4) 1,qV 1 (PX 5) 2],[⟨2,0,[]⟩,⟨2,0,[]⟩,⟨2,0,[]⟩,⟨2,0,[]⟩],3⟩
def orF (f g:Fact):Fact:= .mk 7 0 [] 0 0 [f,g]
def exH:Prog:=⟨[⟨[],[],[]⟩,⟨[3],[],[]⟩,⟨[3],[],[]⟩],0,[1],[qV 1 (PX 3) 0,qV 1 (PX 4) 1,qV 1 (PX 5) 2,qV 4 (orF (PX 4) (PX 5)) 3],[⟨2,0,[]⟩,⟨2,0,[]⟩,⟨2,0,[]⟩,⟨2,0,[]⟩,⟨2,0,[]⟩],4⟩
end Go.Gl
