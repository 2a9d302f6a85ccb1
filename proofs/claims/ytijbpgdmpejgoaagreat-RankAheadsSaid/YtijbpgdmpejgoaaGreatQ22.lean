import Derived.Test.YtijbpgdmpejgoaaGreatQ7
import Derived.Test.YtijbpgdmpejgoaaGreatQ8
import Derived.Test.YtijbpgdmpejgoaaGreatQ21
set_option linter.all false
set_option linter.unusedVariables false
set_option linter.unusedSimpArgs false
namespace Go.Gl
open Go.Proofs
attribute [local irreducible] Bj Bf Ba Al Aa BS Ao Aq Ac BO Ah Ap Bz CA Sat A7 B8 Be W
abbrev rkC (p:Prog) (L:Nat):List V:=Br p++(BQ (Ae p)++[.m L])
abbrev rb (p:Prog) (L:Nat):V:= .rp (rkC p L)
abbrev kM (x:Int×Int):V:= .a [eI x.1,eI x.2]
def ZS (p:Prog) (M:List (Int×Int)):List (V×V):=M.map fun x=>(kM x,.b (Pf p x.1 x.2))
theorem Oc (p:Prog) (M:List (Int×Int)): ∀kv∈ZS p M,Bb (.a [.i64,.i64]) kv.1=true:=by
 intro kv h;obtain⟨e,_,rfl⟩:=Nv.1 h;rfl
theorem lY (x y:Int×Int):D0 (kM x) (kM y)=(x==y):=by
 obtain⟨a,b⟩:=x;obtain⟨c,d⟩:=y;have e:D0 (kM (a,b)) (kM (c,d))=(a==c&&b==d):=by simp[D0,B7,kM]
 rw[e];rfl
theorem Tu (p:Prog) (x:Int×Int): ∀(M:List (Int×Int)),Cr (kM x) (ZS p M)=if M.contains x then some (.b (Pf p x.1 x.2))else none
 | []=>rfl
 | y ::r=>by
   rw[ZS,List.map_cons,Cr,lY,List.contains_cons];cases h:x==y
   ·rw[cond_false,Bool.false_or]
    exact Tu p x r
   ·rw[cond_true,Bool.true_or,if_pos rfl]
    have:x=y:=by simpa using h
    rw[this]
theorem XH (p:Prog) (x:Int×Int): ∀(M:List (Int×Int)),M.contains x=false→Dy (kM x) (.b (Pf p x.1 x.2)) (ZS p M)=ZS p (M++[x])
 | [],_=>rfl
 | y::r,h=>by
   rw[List.contains_cons,Bool.or_eq_false_iff]at h;have ih:=XH p x r h.2;simp only[ZS]at ih;rw[ZS,List.map_cons,Dy,lY,h.1,cond_false,ih];rfl
theorem br (p:Prog):CL Tryz.prog 42 [.a (Br p)] [] fun r post=>if(Bx p).isSome then∃L,r= .ret (rb p L)∧post= [.map L []]else r= .ret .pn∧post= []:=by
 intro σ hs;have hw:=lA p;cases h:(Bx p).isSome<;>rw[h]at hw
 ·simp only[Mk,if_false]at hw ⊢
  refine pT nb ?_
  conv=>whnf
  repeat'((first|refine st ?_|(refine sq ?_;intro K U)|(refine si ?_;intro A B Y Z)|(refine Y _ _ ?_;clear Z B Y A)|(refine U _ _ ?_;clear U K)|refine⟨rfl,?_⟩|refine⟨nb,?_⟩|refine Hi fun σ hs=>?_|refine Pure.use hw ?_|(constructor<;>intro hc<;>(try rw[hc])<;>(replace hc:=bp hc)<;>try(exfalso;omega))|(intro nn hnn;generalize hg:BI _ nn _=σ;refine Fy hg fun hs=>?_;clear hg)|clear U K)<;>conv=>whnf)
  exact AS ⟨_,⟨rfl,rfl⟩,hs.less (List.nil_sublist _)⟩
 ·simp only[if_true]at hw ⊢
  refine pT nb ?_
  conv=>whnf
  repeat'((first|refine st ?_|(refine sq ?_;intro K U)|(refine si ?_;intro A B Y Z)|(refine Y _ _ ?_;clear Z B Y A)|(refine U _ _ ?_;clear U K)|refine⟨rfl,?_⟩|refine⟨nb,?_⟩|refine ld ?_|refine Hi fun σ hs=>?_|refine Pure.use hw ?_|(constructor<;>intro hc<;>(try rw[hc])<;>(replace hc:=bp hc)<;>(try simp(disch:=omega) only[B2,wrap64,AU]at hc)<;>try(exfalso;omega))|(intro nn hnn;generalize hg:BI _ nn _=σ;refine Fy hg fun hs=>?_;clear hg)|fail)<;>conv=>whnf)
  exact AS ⟨_,⟨nn,rfl,rfl⟩,hs.less (.cons₂ _ (List.nil_sublist _))⟩
theorem zf (p:Prog) (L:Nat) (m:Int):Pure Tryz.prog 73 [eI m,.rp [rb p L]] (.b (!Cw p m)):=by
 refine zw nb ?_;have hs:=Sn
 conv=>whnf
 repeat'((first|refine st ?_|(refine sq ?_;intro K U)|(refine si ?_;intro A B Y Z)|(refine Y _ _ ?_;clear Z B Y A)|(refine U _ _ ?_;clear U K)|refine⟨rfl,?_⟩|(constructor<;>intro hc<;>(try rw[hc])<;>(replace hc:=bp hc))|fail)<;>conv=>whnf)
 ·refine AM ?_
  have e1:decide (0≤m)=true:=decide_eq_true hc;rw[Cw,e1,Bool.true_and,B2];show V.b (decide (m≥(p.methods.length:Int)))=_;by_cases hl:m<(p.methods.length:Int)
  ·rw[decide_eq_true hl,decide_eq_false (by omega)];rfl
  ·rw[decide_eq_false hl,decide_eq_true (by omega)];rfl
 ·refine AM ?_
  rw[Cw,decide_eq_false (by omega)];rfl
theorem NT {g:FuncId} {fi ca:List V} {f:Int→Bool} {xs:List Int} (b:Bool) (h: ∀y∈xs,Pure Tryz.prog g (fi++[eI y]++ca) (.b (f y))):Pure Tryz.prog 72 [.l (iL xs) b,.f (.func g) fi ca] (.b (xs.any f)):=by
 have:=I8 g fi ca (fun _=>[]) (fun y (_:Unit)=>(f y,())) (fun y _=>y∈xs) (Oz fun y hy=>h y hy) xs b () (J9 fun y hy _=>hy);rw[LV]at this;exact Pure.of (Bj.mono (this emp Sat.nil) fun r σ' ⟨post,⟨h1,h2⟩,h3⟩=>h1)
theorem zg (p:Prog) (L:Nat) (l:List Int) (b:Bool):Pure Tryz.prog 43 [rb p L,.l (iL l) b] (.b (l.all (Cw p))):=by
 have hc:=fun b=>NT (g:=73) (fi:=[]) (ca:=[.rp [rb p L]]) (f:=fun m=> !Cw p m) (xs:=l) b fun y _=>zf p L y
 refine pS nb ?_;have hs:=Sn
 conv=>whnf
 repeat'((first|refine st ?_|(refine sq ?_;intro K U)|(refine si ?_;intro A B Y Z)|(refine Y _ _ ?_;clear Z B Y A)|(refine U _ _ ?_;clear U K)|refine Pure.use (hc _) ?_|fail)<;>conv=>whnf)
 all_goals exact AM (by rw[List.all_eq_not_any_not];rfl)
theorem tU (l:List Int) (b:Bool):Pure Tryz.prog 43 [.pn,.l (iL l) b] (.b false):=by
 refine pS nb ?_;have hs:=Sn
 conv=>whnf
 repeat'((first|refine st ?_|(refine sq ?_;intro K U)|(refine si ?_;intro A B Y Z)|(refine Y _ _ ?_;clear Z B Y A)|(refine U _ _ ?_;clear U K)|refine IV ?_|fail)<;>conv=>whnf)
 all_goals exact AM rfl
theorem ku (p:Prog) (L:Nat) (m n:Int) (hm:Cw p m=true) (hn:Cw p n=true):Pure Tryz.prog 44 [rb p L,eI m,eI n] (.b (ME p m n)):=by
 refine Pure.fit (by kernel_rfl) fun hf=>?_
 have hxm:=Fe hm;have hxn:=Fe hn;simp only[Cw,Bn,D8]at hm hn;refine AAC nb ?_;have hs:=Sn
 conv=>whnf
 repeat'((first|refine st ?_|(refine sq ?_;intro K U)|(refine si ?_;intro A B Y Z)|(refine Y _ _ ?_;clear Z B Y A)|(refine U _ _ ?_;clear U K)|refine dr ?_|refine rk ?_ ?_|exact fun s e=>by cases e;rfl|refine⟨rfl,?_⟩|refine⟨nb,?_⟩|refine Sp ?_|refine ld ?_|refine Hi fun σ hs=>?_|(constructor<;>intro hc<;>(try rw[hc])<;>(replace hc:=bp hc))|(intro nn hnn;generalize hg:BI _ nn _=σ;refine Fy hg fun hs=>?_;clear hg)|fail)<;>conv=>whnf)
 all_goals exact AM (by simp[ME, *])
set_option maxHeartbeats 1000000 in
theorem Qa (p:Prog) (L:Nat) (m n:Int) (hk:OJ p) (hgw:FZ (Ae p)) (hfm: ∀x∈p.methods,Ev (Ae p) x.fact=true) (hm:Cw p m=true) (hn:Cw p n=true) (M:List (Int×Int)) :
 CL Tryz.prog 54 [rb p L,eI m,eI n] [.map L (ZS p M)] fun r post=>r= .ret (.b (Pf p m n))∧ ∃M',post= [.map L (ZS p M')]:=by
 intro σ hs;have hxm:=Fe hm;have hxn:=Fe hn;have hmm:=DL hxm;have hmn:=DL hxn;have hip:=ZL (Ae p) hgw (Jm p m).fact (Jm p n).fact (hfm _ hmm) (hfm _ hmn) (hk.facts _ hmm).1 (hk.facts _ hmn).1 (by have:=(hk.facts _ hmm).2;have:=(hk.facts _ hmn).2;omega);simp only[Cw,Bn,D8]at hm hn;have hfd:=Tu p (m,n) M;refine z7 nb ?_;cases hc:M.contains (m,n)
 ·rw[hc,if_neg (by decide)]at hfd
  conv=>whnf
  repeat'((first|refine st ?_|(refine sq ?_;intro K U)|(refine si ?_;intro A B Y Z)|(refine Y _ _ ?_;clear Z B Y A)|(refine U _ _ ?_;clear U K)|refine dr ?_|refine⟨nb,?_⟩|refine Sp ?_|refine ld ?_|refine Hi fun σ hs=>?_|refine Ls ?_|refine Rh hs 1 rfl rfl (Oc _ _) hfd ?_|refine K3 hs 1 rfl rfl (Oc _ _) fun σ hs=>?_|refine Pure.use hip ?_|(intro nn hnn;generalize hg:BI _ nn _=σ;refine Fy hg fun hs=>?_;clear hg)|fail)<;>conv=>whnf)
  replace hs:Sat σ [.box nn [eI m,eI n],.map L (Dy (kM (m,n)) (.b (Pf p m n)) (ZS p M))]:=hs;rw[XH p (m,n) M hc]at hs;exact AS ⟨_,⟨rfl,_,rfl⟩,hs.less (List.sublist_cons_self _ _)⟩
 ·rw[hc,if_pos rfl]at hfd
  conv=>whnf
  repeat'((first|refine st ?_|(refine sq ?_;intro K U)|(refine si ?_;intro A B Y Z)|(refine Y _ _ ?_;clear Z B Y A)|(refine U _ _ ?_;clear U K)|refine dr ?_|refine⟨nb,?_⟩|refine ld ?_|refine Hi fun σ hs=>?_|refine IV ?_|refine Rh hs 1 rfl rfl (Oc _ _) hfd ?_|(intro nn hnn;generalize hg:BI _ nn _=σ;refine Fy hg fun hs=>?_;clear hg)|fail)<;>conv=>whnf)
  exact AS ⟨_,⟨rfl,M,rfl⟩,hs.less (List.sublist_cons_self _ _)⟩
theorem kx (p:Prog) (L:Nat) (m n:Int) (hk:OJ p) (hgw:FZ (Ae p)) (hfm: ∀x∈p.methods,Ev (Ae p) x.fact=true) (hm:Cw p m=true) (hn:Cw p n=true) (M:List (Int×Int)) :
 CL Tryz.prog 45 [rb p L,eI m,eI n] [.map L (ZS p M)] fun r post=>r= .ret (.b (OS p m n))∧ ∃M',post= [.map L (ZS p M')]:=by
 intro σ hs;have h1:=fun M=>Qa p L m n hk hgw hfm hm hn M
 have h2:=fun M=>Qa p L n m hk hgw hfm hn hm M
 unfold OS;cases hb1:Pf p m n<;>cases hb2:Pf p n m<;>rw[hb1]at h1<;>rw[hb2]at h2
 all_goals
  refine AAB nb ?_
  conv=>whnf
  repeat'((first|(refine sq ?_;intro K U)|(refine si ?_;intro A B Y Z)|(refine Y _ _ ?_;clear Z B Y A)|(refine U _ _ ?_;clear U K)|fail)<;>conv=>whnf)
  refine(h1 M).use (rest:=[]) (by simpa using hs) ?_;clear hs;rintro r post σ ⟨rfl,M',rfl⟩ hs
  conv=>whnf
  repeat'((first|refine st ?_|(refine Y _ _ ?_;clear Z B Y A)|(refine U _ _ ?_;clear U K)|fail)<;>conv=>whnf)
 ·exact AS ⟨_,⟨rfl,M',rfl⟩,hs⟩
 ·exact AS ⟨_,⟨rfl,M',rfl⟩,hs⟩
 all_goals
  refine(h2 M').use (rest:=[]) (by simpa using hs) ?_;clear hs;rintro r post σ ⟨rfl,M2,rfl⟩ hs
  conv=>whnf
  repeat'((first|refine st ?_|(refine Y _ _ ?_;clear Z B Y A)|(refine U _ _ ?_;clear U K)|fail)<;>conv=>whnf)
  exact AS ⟨_,⟨rfl,M2,rfl⟩,hs⟩
theorem j7 {p:Prog} (h:(Bx p).isSome=true): ∀x∈p.methods,Ev (Ae p) x.fact=true:=fun x hx=>by
 have:=(HZ h).2 x hx;simp only[Pa,Bn]at this;exact this.2.2.2.2.1
theorem lB (p:Prog) (m n:Int):Pure Tryz.prog 12 [.a (Br p),eI m,eI n] (.t [.b (G5 p m n).1,eI (G5 p m n).2]):=by
 refine Pure.of ?_;have hr:=br p;refine AAH nb ?_;have hs:=Sn
 conv=>whnf
 repeat'((first|refine st ?_|(refine sq ?_;intro K U)|(refine si ?_;intro A B Y Z)|(refine Y _ _ ?_;clear Z B Y A)|(refine U _ _ ?_;clear U K)|refine⟨nb,?_⟩|fail)<;>conv=>whnf)
 refine hr.use (rest:=[]) (by simpa using hs) ?_;clear hs;cases h:(Bx p).isSome
 ·have hh:=fun b=>tU [m,n] b
  rintro r post σ ⟨rfl,rfl⟩ hs
  conv=>whnf
  repeat'((first|refine st ?_|(refine sq ?_;intro K U)|(refine si ?_;intro A B Y Z)|(refine Y _ _ ?_;clear Z B Y A)|(refine U _ _ ?_;clear U K)|refine Ls ?_|refine Pure.use (hh _) ?_|clear U K)<;>conv=>whnf)
  exact AS (by simp[G5,h])
 ·rintro r post σ ⟨L,rfl,rfl⟩ hs
  have hh:=fun b=>zg p L [m,n] b
  have hall: [m,n].all (Cw p)=(Cw p m&&Cw p n):=by simp
  rw[hall]at hh;cases hmn:Cw p m&&Cw p n<;>rw[hmn]at hh
  ·conv=>whnf
   repeat'((first|refine st ?_|(refine sq ?_;intro K U)|(refine si ?_;intro A B Y Z)|(refine Y _ _ ?_;clear Z B Y A)|(refine U _ _ ?_;clear U K)|refine Ls ?_|refine Pure.use (hh _) ?_|clear U K)<;>conv=>whnf)
   exact AS (by simp only[G5,h,hmn];rfl)
  ·obtain⟨hm,hn⟩:=Bool.and_eq_true_iff.1 hmn
   have ha:=ku p L m n hm hn;cases hal:ME p m n<;>rw[hal]at ha
   ·conv=>whnf
    repeat'((first|refine st ?_|(refine sq ?_;intro K U)|(refine si ?_;intro A B Y Z)|(refine Y _ _ ?_;clear Z B Y A)|(refine U _ _ ?_;clear U K)|refine Ls ?_|refine IV ?_|refine Pure.use (hh _) ?_|refine Pure.use ha ?_|clear U K)<;>conv=>whnf)
    exact AS (by simp only[G5,h,hmn,hal];rfl)
   ·conv=>whnf
    repeat'((first|refine st ?_|(refine sq ?_;intro K U)|(refine si ?_;intro A B Y Z)|(refine Y _ _ ?_;clear Z B Y A)|(refine U _ _ ?_;clear U K)|refine IV ?_|refine Pure.use (hh _) ?_|refine Pure.use ha ?_|fail)<;>conv=>whnf)
    refine(kx p L m n (look_ok h) (zk h) (j7 h) hm hn []).use (rest:=[]) hs ?_;clear hs;rintro r post σ ⟨rfl,M,rfl⟩ hs
    conv=>whnf
    repeat'((first|refine st ?_|(refine Y _ _ ?_;clear Z B Y A)|(refine U _ _ ?_;clear U K)|fail)<;>conv=>whnf)
    exact AS (by simp only[G5,h,hmn,hal];rfl)
theorem UT (p:Prog) (m n:Int) (hk:Pure Tryz.prog 14 [] (.b true)):Pure Tryz.prog 3 [.a (Br p),eI m,eI n] (.b true):=by
 have h1:=lB p m n;have h2:=kz p m n;generalize G5 p m n=x at *;obtain⟨b,e⟩:=x;cases b
 all_goals
  refine ctr3 nb ?_;have hs:=Sn
  conv=>whnf
  repeat'((first|refine st ?_|(refine sq ?_;intro K U)|(refine si ?_;intro A B Y Z)|(refine Y _ _ ?_;clear Z B Y A)|(refine U _ _ ?_;clear U K)|refine⟨rfl,?_⟩|refine⟨nb,?_⟩|refine Ls ?_|refine Pure.use h1 ?_|refine Pure.use h2 ?_|refine Pure.use hk ?_|(constructor<;>intro hc<;>(try rw[hc])<;>(replace hc:=bp hc)<;>(try simp(disch:=omega) only[B2,wrap64,AU]at hc))|fail)<;>conv=>whnf)
  ·exact AM rfl
  ·exfalso
   simp at hc
end Go.Gl
namespace Go.Gl
variable {P:Program} {Λ:Nat→Prop} {σ:AH} {pu:List FuncId} {fz:List Nat}
end Go.Gl
namespace Go.Gl
def F2 {α β:Type} (R:α→β→Prop):List α→List β→Prop
 | [],l=>l= []
 | x::xs,l=> ∃y ys,R x y∧F2 R xs ys∧l=y::ys
section
variable {α β:Type} {R R':α→β→Prop}
theorem F2.nil:F2 R [] []:=rfl
theorem F2.cons {x:α} {y:β} {xs:List α} {ys:List β} (h:R x y) (h':F2 R xs ys):F2 R (x::xs) (y::ys):=⟨y,ys,h,h',rfl⟩
theorem F2.len: ∀ {xs:List α} {ys:List β},F2 R xs ys→ys.length=xs.length
 | [],_,h=>by cases h;rfl
 | _::_,_,⟨_,_,_,h,e⟩=>by subst e;simp[F2.len h]
theorem F2.get: ∀ {xs:List α} {ys:List β},F2 R xs ys→ ∀ {i:Nat} {x:α},xs[i]? =some x→ ∃y,ys[i]? =some y∧R x y
 | x::xs,_,⟨y,ys,h1,h2,e⟩,i,z,hi=>by
   subst e;cases i with
   | zero=>simp at hi;subst hi;exact⟨y,by simp,h1⟩
   | succ i=>simp at hi;simpa using F2.get h2 hi
theorem F2.mono (hm: ∀x y,R x y→R' x y): ∀ {xs:List α} {ys:List β},F2 R xs ys→F2 R' xs ys
 | [],_,h=>h
 | _::_,_,⟨y,ys,h1,h2,e⟩=>⟨y,ys,hm _ _ h1,F2.mono hm h2,e⟩
theorem F2.app: ∀ {xs xs':List α} {ys ys':List β},F2 R xs ys→F2 R xs' ys'→F2 R (xs++xs') (ys++ys')
 | [],_,_,_,h,h'=>by cases h;exact h'
 | _::_,_,_,_,⟨y,ys,h1,h2,e⟩,h'=>by subst e;exact⟨y,ys++_,h1,F2.app h2 h',rfl⟩
theorem F2.take: ∀ {xs:List α} {ys:List β},F2 R xs ys→ ∀n,F2 R (xs.take n) (ys.take n)
 | [],_,h,n=>by cases h;simp;rfl
 | _::_,_,⟨y,ys,h1,h2,e⟩,n=>by
   subst e;cases n with
   | zero=>exact rfl
   | succ n=>exact⟨y,_,h1,F2.take h2 n,rfl⟩
theorem F2.drop: ∀ {xs:List α} {ys:List β},F2 R xs ys→ ∀n,F2 R (xs.drop n) (ys.drop n)
 | [],_,h,n=>by cases h;simp;rfl
 | _::_,_,⟨y,ys,h1,h2,e⟩,n=>by
   subst e;cases n with
   | zero=>exact⟨y,ys,h1,h2,rfl⟩
   | succ n=>exact F2.drop h2 n
theorem F2.set: ∀ {xs:List α} {ys:List β},F2 R xs ys→ ∀(i:Nat) {x:α} {y:β},R x y→F2 R (xs.set i x) (ys.set i y)
 | [],_,h,i,_,_,_=>by cases h;simp;rfl
 | _::_,_,⟨y,ys,h1,h2,e⟩,i,_,_,h=>by
   subst e;cases i with
   | zero=>exact⟨_,_,h,h2,rfl⟩
   | succ i=>exact⟨_,_,h1,F2.set h2 i h,rfl⟩
theorem F2.rep {x:α} {y:β} (h:R x y): ∀n,F2 R (List.replicate n x) (List.replicate n y)
 | 0=>rfl
 | n+1=>⟨y,_,h,F2.rep h n,rfl⟩
theorem F2.mem: ∀ {xs:List α} {ys:List β},F2 R xs ys→ ∀ {y:β},y∈ys→ ∃x,x∈xs∧R x y
 | [],_,h,y,hy=>by cases h;cases hy
 | x ::_,_,⟨z,zs,h1,h2,e⟩,y,hy=>by
   subst e;rcases IF.1 hy with rfl|hy
   ·exact⟨x,.head _,h1⟩
   ·obtain⟨u,hu,hr⟩:=F2.mem h2 hy
    exact⟨u,.tail _ hu,hr⟩
theorem F2.fn (hf: ∀x y z,R x y→R x z→y=z): ∀ {xs:List α} {ys zs:List β},F2 R xs ys→F2 R xs zs→ys=zs
 | [],_,_,h,h'=>by cases h;cases h';rfl
 | _::_,_,_,⟨y,ys,h1,h2,e⟩,⟨z,zs,h3,h4,e'⟩=>by
   subst e;subst e';rw[hf _ _ _ h1 h3,F2.fn hf h2 h4]
end
abbrev Ren:=Nat→Option (Nat×Nat)
def Ren.le (ρ ρ':Ren):Prop:= ∀i m,ρ i=some m→ρ' i=some m
theorem Ren.le.refl (ρ:Ren):ρ.le ρ:=fun _ _ h=>h
theorem Ren.le.trans {a b c:Ren} (h:a.le b) (k:b.le c):a.le c:=fun i m e=>k i m (h i m e)
def Xx (ρ:Ren):Fn→Fn→Prop
 | .yield i,f=> ∃m,ρ i=some m∧f= .yield m.1
 | fn,f=>f=fn
mutual
def RV (ρ:Ren):V→V→Prop
 | .p n off,v=> ∃m,ρ n=some m∧v= .p m.1 off
 | .sl n len _,v=> ∃m,ρ n=some m∧v= .sl m.1 len m.2
 | .sv n sz off len,v=> ∃m,ρ n=some m∧v= .sv m.1 sz off len
 | .pe n sz i off,v=> ∃m,ρ n=some m∧v= .pe m.1 sz i off
 | .m n,v=> ∃m,ρ n=some m∧v= .m m.1
 | .rp cs,v=> ∃cs',RL ρ cs cs'∧v= .rp cs'
 | .l es f,v=> ∃es',RR ρ es es'∧v= .l es' f
 | .f fn first cap,v=> ∃fn' first' cap',Xx ρ fn fn'∧RL ρ first first'∧RL ρ cap cap'∧v= .f fn' first' cap'
 | .E2 t x,v=> ∃x',RV ρ x x'∧v= .E2 t x'
 | .a cs,v=> ∃cs',RL ρ cs cs'∧v= .a cs'
 | .t cs,v=> ∃cs',RL ρ cs cs'∧v= .t cs'
 | .b x,v=>v= .b x
 | .i k n,v=>v= .i k n
 | .s x,v=>v= .s x
 | .pn,v=>v= .pn
 | .mn,v=>v= .mn
 | .HB,v=>v= .HB
 | .Dp,v=>v= .Dp
 | .any,v=>v= .any
def RL (ρ:Ren):List V→List V→Prop
 | [],l=>l= []
 | x::xs,l=> ∃y ys,RV ρ x y∧RL ρ xs ys∧l=y::ys
def RR (ρ:Ren):List (List V)→List (List V)→Prop
 | [],l=>l= []
 | x::xs,l=> ∃y ys,RL ρ x y∧RR ρ xs ys∧l=y::ys
end
theorem Bs {ρ:Ren}: ∀ {xs ys:List V},RL ρ xs ys↔F2 (RV ρ) xs ys
 | [],_=>by simp only[RL,F2]
 | x::xs,l=>by
   simp only[RL,F2];constructor
   ·rintro⟨y,ys,h1,h2,rfl⟩;exact⟨y,ys,h1,Bs.1 h2,rfl⟩
   ·rintro⟨y,ys,h1,h2,rfl⟩;exact⟨y,ys,h1,Bs.2 h2,rfl⟩
theorem Fb {ρ:Ren}: ∀ {xs ys:List (List V)},RR ρ xs ys↔F2 (F2 (RV ρ)) xs ys
 | [],_=>by simp only[RR,F2]
 | x::xs,l=>by
   simp only[RR,F2];constructor
   ·rintro⟨y,ys,h1,h2,rfl⟩;exact⟨y,ys,Bs.1 h1,Fb.1 h2,rfl⟩
   ·rintro⟨y,ys,h1,h2,rfl⟩;exact⟨y,ys,Bs.2 h1,Fb.2 h2,rfl⟩
theorem Xx.mono {ρ ρ':Ren} (h:ρ.le ρ') {f g:Fn} (k:Xx ρ f g):Xx ρ' f g:=by
 cases f<;>first|exact k|exact⟨_,h _ _ k.choose_spec.1,k.choose_spec.2⟩
mutual
theorem RV.mono {ρ ρ':Ren} (h:ρ.le ρ'): ∀(v v':V),RV ρ v v'→RV ρ' v v'
 | .p _ _,_,k| .sl _ _ _,_,k| .sv _ _ _ _,_,k| .pe _ _ _ _,_,k| .m _,_,k=>by
   simp only[RV]at k ⊢;obtain⟨m,h1,h2⟩:=k;exact⟨m,h _ _ h1,h2⟩
 | .rp cs,_,k=>by
   simp only[RV]at k ⊢;obtain⟨c,h1,h2⟩:=k;exact⟨c,RL.mono h _ _ h1,h2⟩
 | .a cs,_,k=>by
   simp only[RV]at k ⊢;obtain⟨c,h1,h2⟩:=k;exact⟨c,RL.mono h _ _ h1,h2⟩
 | .t cs,_,k=>by
   simp only[RV]at k ⊢;obtain⟨c,h1,h2⟩:=k;exact⟨c,RL.mono h _ _ h1,h2⟩
 | .l es f,_,k=>by
   simp only[RV]at k ⊢;obtain⟨c,h1,h2⟩:=k;exact⟨c,RR.mono h _ _ h1,h2⟩
 | .f fn a b,_,k=>by
   simp only[RV]at k ⊢;obtain⟨g,c,d,h1,h2,h3,h4⟩:=k;exact⟨g,c,d,h1.mono h,RL.mono h _ _ h2,RL.mono h _ _ h3,h4⟩
 | .E2 t x,_,k=>by
   simp only[RV]at k ⊢;obtain⟨c,h1,h2⟩:=k;exact⟨c,RV.mono h _ _ h1,h2⟩
 | .b _,_,k| .i _ _,_,k| .s _,_,k| .pn,_,k| .mn,_,k| .HB,_,k| .Dp,_,k| .any,_,k=>by
   simp only[RV]at k ⊢;exact k
theorem RL.mono {ρ ρ':Ren} (h:ρ.le ρ'): ∀(l l':List V),RL ρ l l'→RL ρ' l l'
 | [],_,k=>by simp only[RL]at k ⊢;exact k
 | x::xs,_,k=>by
   simp only[RL]at k ⊢;obtain⟨y,ys,h1,h2,h3⟩:=k;exact⟨y,ys,RV.mono h _ _ h1,RL.mono h _ _ h2,h3⟩
theorem RR.mono {ρ ρ':Ren} (h:ρ.le ρ'): ∀(l l':List (List V)),RR ρ l l'→RR ρ' l l'
 | [],_,k=>by simp only[RR]at k ⊢;exact k
 | x::xs,_,k=>by
   simp only[RR]at k ⊢;obtain⟨y,ys,h1,h2,h3⟩:=k;exact⟨y,ys,RL.mono h _ _ h1,RR.mono h _ _ h2,h3⟩
end
theorem Xx.fn {ρ:Ren} {f g g':Fn} (h:Xx ρ f g) (k:Xx ρ f g'):g=g':=by
 cases f<;>first|(simp only[Xx]at h k;rw[h,k];done)|skip
 simp only[Xx]at h k;obtain⟨m,h1,rfl⟩:=h;obtain⟨m',h2,rfl⟩:=k;rw[h1]at h2;cases h2;rfl
mutual
theorem RV.fn {ρ:Ren}: ∀(v a b:V),RV ρ v a→RV ρ v b→a=b
 | .p _ _,_,_,k,k'| .sl _ _ _,_,_,k,k'| .sv _ _ _ _,_,_,k,k'| .pe _ _ _ _,_,_,k,k'| .m _,_,_,k,k'=>by
   simp only[RV]at k k';obtain⟨m,h1,rfl⟩:=k;obtain⟨m',h2,rfl⟩:=k';rw[h1]at h2;cases h2;rfl
 | .rp _,_,_,k,k'| .a _,_,_,k,k'| .t _,_,_,k,k'=>by
   simp only[RV]at k k';obtain⟨m,h1,rfl⟩:=k;obtain⟨m',h2,rfl⟩:=k';rw[RL.fn _ _ _ h1 h2]
 | .l _ _,_,_,k,k'=>by
   simp only[RV]at k k';obtain⟨m,h1,rfl⟩:=k;obtain⟨m',h2,rfl⟩:=k';rw[RR.fn _ _ _ h1 h2]
 | .f fn a b,_,_,k,k'=>by
   simp only[RV]at k k';obtain⟨g,c,d,h1,h2,h3,rfl⟩:=k;obtain⟨g',c',d',h1',h2',h3',rfl⟩:=k';rw[h1.fn h1',RL.fn _ _ _ h2 h2',RL.fn _ _ _ h3 h3']
 | .E2 t x,_,_,k,k'=>by
   simp only[RV]at k k';obtain⟨m,h1,rfl⟩:=k;obtain⟨m',h2,rfl⟩:=k';rw[RV.fn _ _ _ h1 h2]
 | .b _,_,_,k,k'| .i _ _,_,_,k,k'| .s _,_,_,k,k'| .pn,_,_,k,k'| .mn,_,_,k,k'| .HB,_,_,k,k'| .Dp,_,_,k,k'| .any,_,_,k,k'=>by
   simp only[RV]at k k';rw[k,k']
theorem RL.fn {ρ:Ren}: ∀(l a b:List V),RL ρ l a→RL ρ l b→a=b
 | [],_,_,k,k'=>by simp only[RL]at k k';rw[k,k']
 | x::xs,_,_,k,k'=>by
   simp only[RL]at k k';obtain⟨y,ys,h1,h2,rfl⟩:=k;obtain⟨z,zs,h3,h4,rfl⟩:=k';rw[RV.fn _ _ _ h1 h3,RL.fn _ _ _ h2 h4]
theorem RR.fn {ρ:Ren}: ∀(l a b:List (List V)),RR ρ l a→RR ρ l b→a=b
 | [],_,_,k,k'=>by simp only[RR]at k k';rw[k,k']
 | x::xs,_,_,k,k'=>by
   simp only[RR]at k k';obtain⟨y,ys,h1,h2,rfl⟩:=k;obtain⟨z,zs,h3,h4,rfl⟩:=k';rw[RL.fn _ _ _ h1 h3,RR.fn _ _ _ h2 h4]
end
def L2:Fn→Bool
 | .yield _=>false
 | _=>true
mutual
def A1:V→Bool
 | .p _ _=>false
 | .sl _ _ _=>false
 | .sv _ _ _ _=>false
 | .pe _ _ _ _=>false
 | .m _=>false
 | .rp cs=>BX cs
 | .a cs=>BX cs
 | .t cs=>BX cs
 | .l es _=>Px es
 | .f fn a b=>L2 fn&&(BX a&&BX b)
 | .E2 _ x=>A1 x
 | _=>true
def BX:List V→Bool
 | []=>true
 | x::xs=>A1 x&&BX xs
def Px:List (List V)→Bool
 | []=>true
 | x::xs=>BX x&&Px xs
end
mutual
theorem RV.pure {ρ:Ren}: ∀(v:V),A1 v=true→RV ρ v v
 | .p _ _,h| .sl _ _ _,h| .sv _ _ _ _,h| .pe _ _ _ _,h| .m _,h=>by simp[A1]at h
 | .rp cs,h| .a cs,h| .t cs,h=>by simp only[A1]at h;simp only[RV];exact⟨_,RL.pure cs h,rfl⟩
 | .l es f,h=>by simp only[A1]at h;simp only[RV];exact⟨_,RR.pure es h,rfl⟩
 | .f fn a b,h=>by
   simp only[A1,Bn]at h;simp only[RV];refine⟨fn,a,b,?_,RL.pure a h.2.1,RL.pure b h.2.2,rfl⟩;cases fn<;>first|rfl|(simp[L2]at h)
 | .E2 t x,h=>by simp only[A1]at h;simp only[RV];exact⟨_,RV.pure x h,rfl⟩
 | .b _,_| .i _ _,_| .s _,_| .pn,_| .mn,_| .HB,_| .Dp,_| .any,_=>by simp only[RV]
theorem RL.pure {ρ:Ren}: ∀(v:List V),BX v=true→RL ρ v v
 | [],_=>by simp only[RL]
 | x::xs,h=>by
   simp only[BX,Bn]at h;simp only[RL];exact⟨x,xs,RV.pure x h.1,RL.pure xs h.2,rfl⟩
theorem RR.pure {ρ:Ren}: ∀(v:List (List V)),Px v=true→RR ρ v v
 | [],_=>by simp only[RR]
 | x::xs,h=>by
   simp only[Px,Bn]at h;simp only[RR];exact⟨x,xs,RL.pure x h.1,RR.pure xs h.2,rfl⟩
end
theorem RV.da {ρ:Ren} {v v':V} (h:RV ρ v v') (hp:A1 v=true):v'=v:=RV.fn v _ _ h (RV.pure v hp)
mutual
def Eo:V→V→Bool
 | .b x,.b y=>x==y
 | .i k n,.i k' n'=>decide (k=k')&&decide (n=n')
 | .s x,.s y=>decide (x=y)
 | .pn,.pn=>true
 | .p n o,.p n' o'=>Nat.beq n n'&&Nat.beq o o'
 | .rp a,.rp b=>Lz a b
 | .l a f,.l b g=>(f==g)&&X8 a b
 | .sl n a b,.sl n' a' b'=>Nat.beq n n'&&(Nat.beq a a'&&Nat.beq b b')
 | .sv n a b c,.sv n' a' b' c'=>Nat.beq n n'&&(Nat.beq a a'&&(Nat.beq b b'&&Nat.beq c c'))
 | .pe n a b c,.pe n' a' b' c'=>Nat.beq n n'&&(Nat.beq a a'&&(Nat.beq b b'&&Nat.beq c c'))
 | .m n,.m n'=>Nat.beq n n'
 | .mn,.mn=>true
 | .f fn a b,.f fn' a' b'=>decide (fn=fn')&&(Lz a a'&&Lz b b')
 | .HB,.HB=>true
 | .E2 t v,.E2 t' v'=>Nat.beq t t'&&Eo v v'
 | .Dp,.Dp=>true
 | .a a,.a b=>Lz a b
 | .t a,.t b=>Lz a b
 | .any,.any=>true
 | _,_=>false
def Lz:List V→List V→Bool
 | [],[]=>true
 | x::xs,y::ys=>Eo x y&&Lz xs ys
 | _,_=>false
def X8:List (List V)→List (List V)→Bool
 | [],[]=>true
 | x::xs,y::ys=>Lz x y&&X8 xs ys
 | _,_=>false
end
theorem DA {a b:Nat} (h:Nat.beq a b=true):a=b:=Nat.eq_of_beq_eq_true h
mutual
theorem Nt: ∀(a b:V),Eo a b=true→a=b
 | .b x,b,h=>by cases b<;>simp[Eo]at h;rw[h]
 | .i _ _,b,h=>by cases b<;>simp[Eo]at h;rw[h.1,h.2]
 | .s _,b,h=>by cases b<;>simp[Eo]at h;rw[h]
 | .pn,b,h=>by cases b<;>simp[Eo]at h;rfl
 | .p _ _,b,h=>by
   cases b<;>simp only[Eo,Bn]at h<;>first|(rw[DA h.1,DA h.2];done)|cases h
 | .rp _,b,h=>by
   cases b<;>simp only[Eo]at h<;>first|(rw[Gk _ _ h];done)|cases h
 | .l _ _,b,h=>by
   cases b<;>simp only[Eo,Bn,FQ]at h<;>first|(rw[h.1,Xg _ _ h.2];done)|cases h
 | .sl _ _ _,b,h=>by
   cases b<;>simp only[Eo,Bn]at h<;>first|(rw[DA h.1,DA h.2.1,DA h.2.2];done)|cases h
 | .sv _ _ _ _,b,h=>by
   cases b<;>simp only[Eo,Bn]at h<;>first|(rw[DA h.1,DA h.2.1,DA h.2.2.1,DA h.2.2.2];done)|cases h
 | .pe _ _ _ _,b,h=>by
   cases b<;>simp only[Eo,Bn]at h<;>first|(rw[DA h.1,DA h.2.1,DA h.2.2.1,DA h.2.2.2];done)|cases h
 | .m _,b,h=>by
   cases b<;>simp only[Eo]at h<;>first|(rw[DA h];done)|cases h
 | .mn,b,h=>by cases b<;>simp[Eo]at h;rfl
 | .f _ _ _,b,h=>by
   cases b<;>simp only[Eo,Bn,D8]at h<;>first|(rw[h.1,Gk _ _ h.2.1,Gk _ _ h.2.2];done)|cases h
 | .HB,b,h=>by cases b<;>simp[Eo]at h;rfl
 | .E2 _ _,b,h=>by
   cases b<;>simp only[Eo,Bn]at h<;>first|(rw[DA h.1,Nt _ _ h.2];done)|cases h
 | .Dp,b,h=>by cases b<;>simp[Eo]at h;rfl
 | .a _,b,h=>by
   cases b<;>simp only[Eo]at h<;>first|(rw[Gk _ _ h];done)|cases h
 | .t _,b,h=>by
   cases b<;>simp only[Eo]at h<;>first|(rw[Gk _ _ h];done)|cases h
 | .any,b,h=>by cases b<;>simp[Eo]at h;rfl
theorem Gk: ∀(a b:List V),Lz a b=true→a=b
 | [],[],_=>rfl
 | x::xs,y::ys,h=>by
   simp only[Lz,Bn]at h;rw[Nt _ _ h.1,Gk _ _ h.2]
 | [],_::_,h=>by simp[Lz]at h
 | _::_,[],h=>by simp[Lz]at h
theorem Xg: ∀(a b:List (List V)),X8 a b=true→a=b
 | [],[],_=>rfl
 | x::xs,y::ys,h=>by
   simp only[X8,Bn]at h;rw[Gk _ _ h.1,Xg _ _ h.2]
 | [],_::_,h=>by simp[X8]at h
 | _::_,[],h=>by simp[X8]at h
end
inductive EO where
 | cs (vs:List V)
 | arr (sz:Nat) (es:List (List V))
 | map (kvs:List (V×V))
 | loop (st:xw) (env:Env) (ps:List Nat) (a b:AK)
inductive Tr (α:Type) where
 | leaf
 | node (o:Option α) (l r:Tr α)
def Tr.get {α:Type}:Tr α→Nat→Option α
 | .leaf,_=>none
 | .node o l r,k=>match k with
   | 0=>o
   | k+1=>bif Nat.beq (k % 2) 0 then l.get (k / 2)else r.get (k / 2)
def Tr.put {α β:Type} (x:Option α):Nat→Tr α→Nat→(Tr α→β)→β
 | 0,t,_,K=>K t
 | d+1,t,k,K=>match k,t with
   | 0,.leaf=>K (.node x .leaf .leaf)
   | 0,.node _ l r=>K (.node x l r)
   | k+1,.leaf=>bif Nat.beq (k % 2) 0 then Tr.put x d .leaf (k / 2) fun l=>K (.node none l .leaf)else Tr.put x d .leaf (k / 2) fun r=>K (.node none .leaf r)
   | k+1,.node o l r=>bif Nat.beq (k % 2) 0 then Tr.put x d l (k / 2) fun l=>K (.node o l r)else Tr.put x d r (k / 2) fun r=>K (.node o l r)
def BL:Nat:=40
abbrev Tr.set {α:Type} (x:Option α) (d:Nat) (t:Tr α) (k:Nat):Tr α:=Tr.put x d t k id
theorem Tr.put_eq {α β:Type} {x:Option α}: ∀(d:Nat) (t:Tr α) (k:Nat) (K:Tr α→β),Tr.put x d t k K=K (Tr.set x d t k)
 | 0,t,k,K=>rfl
 | d + 1,t,k,K=>by
   unfold Tr.set;cases k with
   | zero=>cases t<;>rfl
   | succ k=>
     cases t<;>simp only[Tr.put]<;>cases Nat.beq (k % 2) 0<;>simp only[cond_true,cond_false]<;>rw[Tr.put_eq d,Tr.put_eq d _ _ (fun _=>_)]<;>rfl
theorem Tr.ES {α:Type} {x:Option α}: ∀(d:Nat) (t:Tr α) (k:Nat),k+1<2 ^ d→ ∀j,(Tr.set x d t k).get j=if j=k then x else t.get j
 | 0,_,k,h,_=>by simp at h
 | d + 1, t, k,h,j=>by
   have hp:2 ^ (d+1)=2*2 ^ d:=by rw[Nat.pow_succ];omega
   cases k with
   | zero=>cases t<;>cases j<;>simp[Tr.set,Tr.put,Tr.get]
   | succ k=>
     have hk:k / 2+1<2 ^ d:=by omega
     cases t with
     | leaf=>
       simp only[Tr.set,Tr.put];cases hb:Nat.beq (k % 2) 0 with
       | true=>
         simp only[cond_true];rw[Tr.put_eq];have hb':=DA hb;cases j with
         | zero=>simp[Tr.get]
         | succ j=>
           simp only[Tr.get,id];cases hj:Nat.beq (j % 2) 0 with
           | true=>
             have hj':=DA hj;simp only[cond_true];rw[Tr.ES d _ _ hk];simp only[Tr.get];by_cases e:j=k
             ·simp[e]
             ·rw[if_neg (by omega),if_neg (by omega)]
           | false=>
             simp only[cond_false];rw[if_neg (fun e=>by(have:j=k:=by omega);subst this;rw[hj]at hb;cases hb)]
       | false=>
         simp only[cond_false];rw[Tr.put_eq];have hb':=Nat.ne_of_beq_eq_false hb;cases j with
         | zero=>simp[Tr.get]
         | succ j=>
           simp only[Tr.get,id];cases hj:Nat.beq (j % 2) 0 with
           | false=>
             have hj':=Nat.ne_of_beq_eq_false hj;simp only[cond_false];rw[Tr.ES d _ _ hk];simp only[Tr.get];by_cases e:j=k
             ·simp[e]
             ·rw[if_neg (by omega),if_neg (by omega)]
           | true=>
             simp only[cond_true];rw[if_neg (fun e=>by(have:j=k:=by omega);subst this;rw[hj]at hb;cases hb)]
     | node o l r=>
       simp only[Tr.set,Tr.put];cases hb:Nat.beq (k % 2) 0 with
       | true=>
         simp only[cond_true];rw[Tr.put_eq];have hb':=DA hb;cases j with
         | zero=>simp[Tr.get]
         | succ j=>
           simp only[Tr.get,id];cases hj:Nat.beq (j % 2) 0 with
           | true=>
             have hj':=DA hj;simp only[cond_true];rw[Tr.ES d _ _ hk];by_cases e:j=k
             ·simp[e]
             ·rw[if_neg (by omega),if_neg (by omega)]
           | false=>
             simp only[cond_false];rw[if_neg (fun e=>by(have:j=k:=by omega);subst this;rw[hj]at hb;cases hb)]
       | false=>
         simp only[cond_false];rw[Tr.put_eq];have hb':=Nat.ne_of_beq_eq_false hb;cases j with
         | zero=>simp[Tr.get]
         | succ j=>
           simp only[Tr.get,id];cases hj:Nat.beq (j % 2) 0 with
           | false=>
             have hj':=Nat.ne_of_beq_eq_false hj;simp only[cond_false];rw[Tr.ES d _ _ hk];by_cases e:j=k
             ·simp[e]
             ·rw[if_neg (by omega),if_neg (by omega)]
           | true=>
             simp only[cond_true];rw[if_neg (fun e=>by(have:j=k:=by omega);subst this;rw[hj]at hb;cases hb)]
end Go.Gl
