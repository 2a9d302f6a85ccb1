import Derived.Test.YtijbpgdmpejgoaaGreatProg
import Derived.KernelRfl
import Derived.Test.YtijbpgdmpejgoaaGreatQ8
import Derived.Test.YtijbpgdmpejgoaaGreatQ14
import Derived.Test.YtijbpgdmpejgoaaGreatQ15
set_option linter.all false
set_option linter.unusedVariables false
set_option linter.unusedSimpArgs false
namespace Go.Gl
open Go.Proofs
attribute [local irreducible] BQ BJ A5 Ab AQ A4 Ac Af AR Az AW Aa BT Bf Sat An BZ A6 W
section
variable {S:Type} (g:FuncId) (fi ca:List V) (H:S→List At) (f:Int→Bool) (J:S→Prop) (D:Int→Prop)
theorem O3 {v:V} {xs:List Int} (hst:L0 Tryz.prog (.f (.func g) fi ca) eI (fun s=> .own v 1 (iL xs)::H s) f J D) (hD: ∀x∈xs,D x) (hxl:xs.length≤Ax) (s0:S) (hj0:J s0) :
 Bx Tryz.prog 103 [v,.f (.func g) fi ca] (.own v 1 (iL xs)::H s0) fun r post=>r= .ret (eI (Lx f xs 0))∧ ∃s',J s'∧post= .own v 1 (iL xs)::H s':=by
 intro σ hs;have hM:=Mx;refine aW nb ?_
 conv=>whnf
 repeat'((first|refine st ?_|(refine sq ?_;intro K U)|(refine si ?_;intro A B Y Z)|(refine Y _ _ ?_;clear Z B Y A)|(refine U _ _ ?_;clear U K)|refine lo ?_|fail)<;>conv=>whnf)
 refine FR xs.length (fun k (_:S)=>[(8,eI (Bo k))]) (fun _ s=> .own v 1 (iL xs)::H s) (fun k s=>J s∧Lx f xs 0=Lx f (xs.drop k) k) s0 rfl ⟨hj0,rfl⟩ hs ?_;clear hs hj0;rintro k s σ hk ⟨hj,hn⟩ hs;have hck:Bo k=k:=Ad (by omega);rcases Bq xs hk with⟨y,hy,hlt⟩|hke
 ·rw[drop_cons hy]at hn
  have hDy:=hD y (Fo hy);rw[Lx]at hn
  conv=>whnf
  repeat'((first|refine st ?_|(refine sq ?_;intro K U)|(refine si ?_;intro A B Y Z)|(refine Y _ _ ?_;clear Z B Y A)|(refine U _ _ ?_;clear U K)|refine⟨rfl,?_⟩|refine oi ?_|refine ol fun x hx=>?_|(refine FB (fun hc=>?_)<;>(try rw[hc])<;>clear hc)|fail)<;>conv=>whnf)
  obtain rfl:x=y:=by rw[hck,Int.toNat_natCast,hy]at hx;exact(Option.some.inj hx).symm
  refine hst.use hDy hj hs ?_;clear hs hj;intro s σ hj hs;cases hyes:f x
  ·rw[hyes,if_neg (by decide)]at hn
   conv=>whnf
   repeat'((first|refine st ?_|(refine si ?_;intro A B Y Z)|(refine Y _ _ ?_;clear Z B Y A)|(refine U _ _ ?_;clear U K)|refine⟨rfl,?_⟩|clear U K)<;>conv=>whnf)
   exact⟨hlt,_,rfl,⟨hj,hn⟩,hs⟩
  ·rw[hyes,if_pos rfl]at hn
   conv=>whnf
   repeat'((first|refine st ?_|(refine sq ?_;intro K U)|(refine si ?_;intro A B Y Z)|(refine Y _ _ ?_;clear Z B Y A)|(refine U _ _ ?_;clear U K)|clear U K)<;>conv=>whnf)
   rw[hn];exact AO ⟨_,⟨by rw[hck],s,hj,rfl⟩,hs⟩
 ·rw[Bt hke,Lx]at hn
  conv=>whnf
  repeat'((first|refine st ?_|(refine sq ?_;intro K U)|(refine si ?_;intro A B Y Z)|(refine Y _ _ ?_;clear Z B Y A)|(refine U _ _ ?_;clear U K)|refine⟨rfl,?_⟩|(refine F5 (fun hc=>?_)<;>(try rw[hc])<;>clear hc)|clear U K)<;>conv=>whnf)
  rw[hn];exact AO ⟨_,⟨rfl,s,hj,rfl⟩,hs⟩
theorem MY {v:V} {xs:List Int} (hst:L0 Tryz.prog (.f (.func g) fi ca) eI (fun s=> .own v 1 (iL xs)::H s) f J D) (hD: ∀x∈xs,D x) (hxl:xs.length≤Ax) (s0:S) (hj0:J s0) :
 Bx Tryz.prog 72 [v,.f (.func g) fi ca] (.own v 1 (iL xs)::H s0) fun r post=>r= .ret (.b (xs.any f))∧ ∃s',J s'∧post= .own v 1 (iL xs)::H s':=by
 intro σ hs;refine oe nb ?_
 conv=>whnf
 repeat'((first|(refine sq ?_;intro K U)|(refine si ?_;intro A B Y Z)|(refine Y _ _ ?_;clear Z B Y A)|(refine U _ _ ?_;clear U K)|fail)<;>conv=>whnf)
 refine(O3 g fi ca H f J D hst hD hxl s0 hj0).use (rest:=[]) (by simpa using hs) ?_;rintro r post σ ⟨rfl,s',hj,rfl⟩ hs
 conv=>whnf
 repeat'((first|refine st ?_|(refine Y _ _ ?_;clear Z B Y A)|(refine U _ _ ?_;clear U K)|refine⟨rfl,?_⟩|fail)<;>conv=>whnf)
 exact AO ⟨_,⟨by rw[←TL f xs 0],s',hj,rfl⟩,by simpa using hs⟩
theorem ed {v:V} {xs:List Int} (hst:L0 Tryz.prog (.f (.func g) fi ca) eI (fun s=> .own v 1 (iL xs)::H s) f J D):L0 Tryz.prog (.f (.func 217) [] [.rp [.f (.func g) fi ca]]) eI (fun s=> .own v 1 (iL xs)::H s) (fun y=> !f y) J D:=by
 intro y s hd hj σ hs;refine CZ ?_;show BQ Tryz.prog 217 ([]++[eI y]++[.rp [.f (.func g) fi ca]]) σ _;refine aR nb ?_
 conv=>whnf
 repeat'((first|refine st ?_|(refine sq ?_;intro K U)|(refine si ?_;intro A B Y Z)|(refine Y _ _ ?_;clear Z B Y A)|(refine U _ _ ?_;clear U K)|fail)<;>conv=>whnf)
 refine hst.use hd hj hs ?_;clear hs;intro s' σ hj' hs
 conv=>whnf
 repeat'((first|refine st ?_|(refine Y _ _ ?_;clear Z B Y A)|(refine U _ _ ?_;clear U K)|fail)<;>conv=>whnf)
 exact AO ⟨rfl,s',hj',hs⟩
theorem XK {v:V} {xs:List Int} (hst:L0 Tryz.prog (.f (.func g) fi ca) eI (fun s=> .own v 1 (iL xs)::H s) f J D) (hD: ∀x∈xs,D x) (hxl:xs.length≤Ax) (s0:S) (hj0:J s0) :
 Bx Tryz.prog 177 [v,.f (.func g) fi ca] (.own v 1 (iL xs)::H s0) fun r post=>r= .ret (.b (xs.all f))∧ ∃s',J s'∧post= .own v 1 (iL xs)::H s':=by
 intro σ hs;refine aT nb ?_
 conv=>whnf
 repeat'((first|(refine sq ?_;intro K U)|(refine si ?_;intro A B Y Z)|(refine Y _ _ ?_;clear Z B Y A)|(refine U _ _ ?_;clear U K)|fail)<;>conv=>whnf)
 refine(MY 217 [] [.rp [.f (.func g) fi ca]] H _ J D (ed g fi ca H f J D hst) hD hxl s0 hj0).use (rest:=[]) (by simpa using hs) ?_;rintro r post σ ⟨rfl,s',hj,rfl⟩ hs
 conv=>whnf
 repeat'((first|refine st ?_|(refine Y _ _ ?_;clear Z B Y A)|(refine U _ _ ?_;clear U K)|fail)<;>conv=>whnf)
 refine AO ⟨_,⟨?_,s',hj,rfl⟩,by simpa using hs⟩;rw[List.all_eq_not_any_not]
end
abbrev I8 (l:Fact):List V:=xF (Ay l).1++[.b (Ay l).2]
abbrev EU (ls:List Fact):List (List V):=ls.map I8
theorem dq (xs ys:List Int) (f g:Bool):Pure Tryz.prog 273 [.l (iL xs) f,.l (iL ys) g] (.b (xs==ys)):=by
 refine Pure.fit (by kernel_rfl) fun hf=>?_
 have hx:=Zl hf.1;have hy:=Zl hf.2.1;have hM:=Mx;refine uG nb ?_;have hs:=Sn
 conv=>whnf
 repeat'((first|refine st ?_|(refine sq ?_;intro K U)|(refine si ?_;intro A B Y Z)|(refine Y _ _ ?_;clear Z B Y A)|(refine U _ _ ?_;clear U K)|refine⟨rfl,?_⟩|(constructor<;>intro hc<;>(try rw[hc])<;>(replace hc:=bp hc)<;>(try simp(disch:=omega) only[Ce,wrap64,Ad]at hc))|clear U K)<;>conv=>whnf)
 ·exact AY (by(have:(xs==ys)=false:=by(simp;intro e;subst e;simp at hc));rw[this])
 have hl:xs.length=ys.length:=by omega
 refine FR xs.length (fun k (_:Unit)=>[(13,eI (Bo k))]) (fun _ _=>[]) (fun k _=>(xs==ys)=(xs.drop k==ys.drop k)) () rfl rfl Sat.nil ?_;clear hs;rintro k - σ hk hn hs;rcases Bq xs hk with⟨x,hxk,hlt⟩|hke
 ·obtain⟨y,hyk⟩: ∃y,ys[k]? =some y:=⟨_,Fs (by omega)⟩
  rw[drop_cons hxk,drop_cons hyk]at hn
  conv=>whnf
  repeat'((first|refine st ?_|(refine sq ?_;intro K U)|(refine si ?_;intro A B Y Z)|(refine Y _ _ ?_;clear Z B Y A)|(refine U _ _ ?_;clear U K)|refine dr ?_|refine⟨rfl,?_⟩|refine ix ?_|(refine FB (fun hc=>?_)<;>(try rw[hc])<;>clear hc)|(constructor<;>intro hc<;>(try rw[hc])<;>(replace hc:=bp hc))|clear U K)<;>conv=>whnf)
  ·exact AY (by rw[hn];simp[*])
  ·exact⟨hlt,(),rfl,by rw[hn];simp[*],hs⟩
 ·conv=>whnf
  repeat'((first|refine st ?_|(refine sq ?_;intro K U)|(refine si ?_;intro A B Y Z)|(refine Y _ _ ?_;clear Z B Y A)|(refine U _ _ ?_;clear U K)|refine⟨rfl,?_⟩|(refine F5 (fun hc=>?_)<;>(try rw[hc])<;>clear hc)|clear U K)<;>conv=>whnf)
  exact AY (by rw[hn,Bt hke,Bt (by omega)];rfl)
theorem fD (a b:Bool) (u:V):Pure Tryz.prog 274 [.l [] a,.l [] b,u] (.b true):=by
 refine uF nb ?_;have hs:=Sn;have hM:=Mx
 conv=>whnf
 repeat'((first|refine st ?_|(refine sq ?_;intro K U)|(refine si ?_;intro A B Y Z)|(refine Y _ _ ?_;clear Z B Y A)|(refine U _ _ ?_;clear U K)|refine⟨rfl,?_⟩|(constructor<;>intro hc<;>(try rw[hc])<;>(replace hc:=bp hc)<;>(try simp(disch:=omega) only[Ce,wrap64,Ad]at hc)<;>try(exfalso;omega))|fail)<;>conv=>whnf)
 refine FR 0 (fun k (_:Unit)=>[(17,eI (Bo k))]) (fun _ _=>[]) (fun _ _=>True) () rfl trivial Sat.nil ?_;clear hs;rintro k - σ hk - hs;obtain rfl:k=0:=by omega
 conv=>whnf
 repeat'((first|refine st ?_|(refine sq ?_;intro K U)|(refine si ?_;intro A B Y Z)|(refine Y _ _ ?_;clear Z B Y A)|(refine U _ _ ?_;clear U K)|refine⟨rfl,?_⟩|(constructor<;>intro hc<;>(try rw[hc])<;>(replace hc:=bp hc)<;>(try simp(disch:=omega) only[Ce,wrap64,Ad]at hc))|clear U K)<;>conv=>whnf)
 ·exfalso
  simp at hc
 ·exact AY rfl
set_option maxHeartbeats 1000000 in
theorem dt (f g:Fact) (hf:f.kids= []) (hg:g.kids= []):Pure Tryz.prog 258 [.a (xF f),.a (xF g)] (.b (GS f g)):=by
 have e:GS f g=(f.op==g.op&&(f.arg==g.arg&&(f.cls==g.cls&&(f.n==g.n&&f.path==g.path)))):=by
  rw[Ss,hf,hg];simp[Un]
 obtain⟨o,a,p,c,n,k⟩:=f;obtain⟨o',a',p',c',n',k'⟩:=g;simp only[Fact.kids]at hf hg;subst hf;subst hg;refine uM nb ?_;have hs:=Sn;rw[e]
 conv=>whnf
 repeat'((first|refine st ?_|(refine sq ?_;intro K U)|(refine si ?_;intro A B Y Z)|(refine Y _ _ ?_;clear Z B Y A)|(refine U _ _ ?_;clear U K)|refine⟨rfl,?_⟩|refine Pure.use (dq _ _ _ _) ?_|refine Pure.use (fD _ _ _) ?_|(constructor<;>intro hc<;>(try rw[hc])<;>(replace hc:=bp hc))|fail)<;>conv=>whnf)
 all_goals simp only[Fact.op,Fact.arg,Fact.cls,Fact.n,Fact.path]at *
 all_goals exact AY (by simp[*])
theorem U1:GX I8 7:=fun l=>by
 refine⟨rfl,fun v hv=>?_⟩;rcases FQ.1 hv with hv|hv
 ·exact(U2 (Ay l).1).2 v (by show v∈Gb (Ay l).1;rw[CO];exact hv)
 ·simp at hv;subst hv;rfl
def O8 (x y:Fact):Bool:=(Ay x).2==(Ay y).2&&GS (Ay x).1 (Ay y).1
abbrev WI (l:Fact):Prop:=(Ay l).1.kids= []
abbrev rA (f:Fact→Bool):Fact→Unit→Bool×Unit:=fun y _=>(f y,())
theorem du (x:Fact) (hx1:WI x) (n:Nat):DD Tryz.prog (.f (.func 257) [] [.p n 0]) (fun y=> .a (I8 y)) (fun _:Unit=>[.box n (I8 x)]) (rA (O8 x)) (fun y _=>WI y):=by
 intro y s hy1 σ hs;refine CZ ?_;show BQ Tryz.prog 257 ([]++[.a (I8 y)]++[.p n 0]) σ _;refine uN nb ?_;unfold O8
 conv=>whnf
 repeat'((first|refine st ?_|(refine sq ?_;intro K U)|(refine si ?_;intro A B Y Z)|(refine Y _ _ ?_;clear Z B Y A)|(refine U _ _ ?_;clear U K)|refine⟨nb,?_⟩|refine ld ?_|refine Pure.use (dt _ _ hx1 hy1) ?_|(constructor<;>intro hc<;>(try rw[hc])<;>(replace hc:=bp hc))|fail)<;>conv=>whnf)
 all_goals exact AO ⟨by simp[rA, *],hs⟩
section
variable {S:Type} (g:FuncId) (fi ca:List V) (H:S→List At)
theorem O2 (stp:Fact→S→Bool×S) (D:Fact→S→Prop) {v:V} {xs:List Fact} (hst:DD Tryz.prog (.f (.func g) fi ca) (fun y=> .a (I8 y)) (fun s=> .own v 7 (EU xs)::H s) stp D) (hxl:xs.length≤Ax) (s0:S) (hd:UT stp D xs s0) :
 Bx Tryz.prog 272 [v,.f (.func g) fi ca] (.own v 7 (EU xs)::H s0) fun r post=>r= .ret (eI (CC stp xs 0 s0).1)∧post= .own v 7 (EU xs)::H (CC stp xs 0 s0).2:=by
 intro σ hs;have hM:=Mx;refine uH nb ?_
 conv=>whnf
 repeat'((first|refine st ?_|(refine sq ?_;intro K U)|(refine si ?_;intro A B Y Z)|(refine Y _ _ ?_;clear Z B Y A)|(refine U _ _ ?_;clear U K)|refine lo ?_|fail)<;>conv=>whnf)
 refine FR xs.length (fun k (_:S)=>[(8,eI (Bo k))]) (fun _ s=> .own v 7 (EU xs)::H s) (fun k s=>UT stp D (xs.drop k) s∧CC stp xs 0 s0=CC stp (xs.drop k) k s) s0 rfl ⟨hd,rfl⟩ hs ?_;clear hs;rintro k s σ hk ⟨hd,hn⟩ hs;have hck:Bo k=k:=Ad (by omega);rcases Bq xs hk with⟨y,hy,hlt⟩|hke
 ·rw[drop_cons hy]at hn hd
  obtain⟨hd1,hd2⟩:=hd;rw[CC]at hn
  conv=>whnf
  repeat'((first|refine st ?_|(refine sq ?_;intro K U)|(refine si ?_;intro A B Y Z)|(refine Y _ _ ?_;clear Z B Y A)|(refine U _ _ ?_;clear U K)|refine⟨rfl,?_⟩|refine⟨nb,?_⟩|refine oi ?_|refine ol fun x hx=>?_|(refine FB (fun hc=>?_)<;>(try rw[hc])<;>clear hc)|fail)<;>conv=>whnf)
  obtain rfl:x=y:=by rw[hck,Int.toNat_natCast,hy]at hx;exact(Option.some.inj hx).symm
  refine hst.use hd1 hs ?_;clear hs;intro σ hs;cases hyes:(stp x s).1
  ·rw[hyes,if_neg (by decide)]at hn
   conv=>whnf
   repeat'((first|refine st ?_|(refine si ?_;intro A B Y Z)|(refine Y _ _ ?_;clear Z B Y A)|(refine U _ _ ?_;clear U K)|refine⟨rfl,?_⟩|clear U K)<;>conv=>whnf)
   exact⟨hlt,_,rfl,⟨hd2,hn⟩,hs⟩
  ·rw[hyes,if_pos rfl]at hn
   conv=>whnf
   repeat'((first|refine st ?_|(refine sq ?_;intro K U)|(refine si ?_;intro A B Y Z)|(refine Y _ _ ?_;clear Z B Y A)|(refine U _ _ ?_;clear U K)|clear U K)<;>conv=>whnf)
   rw[hn];exact AO ⟨_,⟨by rw[hck],rfl⟩,hs⟩
 ·rw[Bt hke,CC]at hn
  conv=>whnf
  repeat'((first|refine st ?_|(refine sq ?_;intro K U)|(refine si ?_;intro A B Y Z)|(refine Y _ _ ?_;clear Z B Y A)|(refine U _ _ ?_;clear U K)|refine⟨rfl,?_⟩|(refine F5 (fun hc=>?_)<;>(try rw[hc])<;>clear hc)|clear U K)<;>conv=>whnf)
  rw[hn];exact AO ⟨_,⟨rfl,rfl⟩,hs⟩
theorem Lr (stp:Fact→S→Bool×S) (D:Fact→S→Prop) {v:V} {xs:List Fact} (hst:DD Tryz.prog (.f (.func g) fi ca) (fun y=> .a (I8 y)) (fun s=> .own v 7 (EU xs)::H s) stp D) (hxl:xs.length≤Ax) (s0:S) (hd:UT stp D xs s0) :
 Bx Tryz.prog 256 [v,.f (.func g) fi ca] (.own v 7 (EU xs)::H s0) fun r post=>r= .ret (.b (decide ((CC stp xs 0 s0).1≥0)))∧post= .own v 7 (EU xs)::H (CC stp xs 0 s0).2:=by
 intro σ hs;refine uO nb ?_
 conv=>whnf
 repeat'((first|(refine sq ?_;intro K U)|(refine si ?_;intro A B Y Z)|(refine Y _ _ ?_;clear Z B Y A)|(refine U _ _ ?_;clear U K)|fail)<;>conv=>whnf)
 refine(O2 g fi ca H stp D hst hxl s0 hd).use (rest:=[]) (by simpa using hs) ?_;rintro r post σ ⟨rfl,rfl⟩ hs
 conv=>whnf
 repeat'((first|refine st ?_|(refine Y _ _ ?_;clear Z B Y A)|(refine U _ _ ?_;clear U K)|refine⟨rfl,?_⟩|fail)<;>conv=>whnf)
 exact AO ⟨_,⟨rfl,rfl⟩,by simpa using hs⟩
end
theorem cM (a:List Fact) (f:Bool) (hl:a.length≤1000000):Bx Tryz.prog 255 [.l (EU a) f] [] fun r post=> ∃v,r= .ret v∧post= [.own v 7 (EU a)]:=by
 intro σ hs;have hM:=Mx;refine uP nb ?_
 conv=>whnf
 repeat'((first|(refine sq ?_;intro K U)|(refine si ?_;intro A B Y Z)|(refine Y _ _ ?_;clear Z B Y A)|(refine U _ _ ?_;clear U K)|fail)<;>conv=>whnf)
 refine⟨fun e t=>?_,fun _=>?_⟩
 ·have hxe:a= []:=List.map_eq_nil_iff.1 e
  subst hxe
  conv=>whnf
  repeat'((first|refine st ?_|(refine sq ?_;intro K U)|(refine si ?_;intro A B Y Z)|(refine Y _ _ ?_;clear Z B Y A)|(refine U _ _ ?_;clear U K)|(constructor<;>intro hc<;>(try rw[hc])<;>(replace hc:=bp hc))|clear U K)<;>conv=>whnf)
  ·exact AO ⟨_,⟨_,rfl,rfl⟩,FF hs 7⟩
  ·replace hs:=FF hs 7
   refine PD hs 0 (xs:=[]) (ys:=[]) rfl (by simp) U1 fun v σ hs=>?_
   conv=>whnf
   repeat'((first|refine st ?_|(refine Y _ _ ?_;clear Z B Y A)|(refine U _ _ ?_;clear U K)|fail)<;>conv=>whnf)
   exact AO ⟨_,⟨_,rfl,rfl⟩,hs⟩
 ·conv=>whnf
  repeat'((first|refine st ?_|(refine sq ?_;intro K U)|(refine si ?_;intro A B Y Z)|(refine Y _ _ ?_;clear Z B Y A)|(refine U _ _ ?_;clear U K)|fail)<;>conv=>whnf)
  replace hs:=FF hs 7;refine PD hs 0 (xs:=[]) (ys:=a) rfl (by simp;omega) U1 fun v σ hs=>?_
  conv=>whnf
  repeat'((first|refine st ?_|(refine Y _ _ ?_;clear Z B Y A)|(refine U _ _ ?_;clear U K)|fail)<;>conv=>whnf)
  exact AO ⟨_,⟨_,rfl,rfl⟩,hs⟩
theorem Sq {w:AM} {x:Fact} (h:He w x):x=if(Ay x).2 then FY (Ay x).1 else(Ay x).1:=by
 obtain⟨g,hn,hl,rfl|rfl⟩:=h
 ·have:=FJ hl
  have h5: ¬x.op=5:=by omega
  simp only[Ay,if_neg h5];rfl
 ·rfl
theorem WY {w:AM} {x y:Fact} (hx1:He w x) (hy1:He w y):O8 x y=GS x y:=by
 rw[Bool.eq_iff_iff,LX];simp only[O8,BO,Dp,LX];constructor
 ·rintro⟨h1,h2⟩
  rw[Sq hx1,Sq hy1,h1,h2]
 ·rintro rfl
  exact⟨rfl,rfl⟩
theorem Pf {w:AM} {x:Fact} (h:He w x):WI x:=by
 obtain⟨-,hn,hl⟩:=Gk h;have hlo:=FJ hl;have har:=C2 _ hn;rw[Kb,BO,Dp]at har
 have h0:Cy (Ay x).1.op=0:=by
  have h5: ¬(Ay x).1.op=5:=by omega
  have h6: ¬((Ay x).1.op=6∨(Ay x).1.op=7):=by omega
  simp[Cy,h5,h6]
  try omega
 rw[h0]at har;exact List.length_eq_zero_iff.1 har.1
theorem YL {w:AM} (a b:List Fact) (f g:Bool) (hla: ∀x∈a,He w x) (hlb: ∀x∈b,He w x) (hl:a.length+b.length<1000000):Pure Tryz.prog 228 [.l (EU a) f,.l (EU b) g] (.l (EU (Ck a b)) false):=by
 have hM:=Mx;refine Pure.of ?_;refine uX nb ?_;have hs:=Sn
 conv=>whnf
 repeat'((first|(refine sq ?_;intro K U)|(refine si ?_;intro A B Y Z)|(refine Y _ _ ?_;clear Z B Y A)|(refine U _ _ ?_;clear U K)|fail)<;>conv=>whnf)
 refine(cM a f (by omega)).use (rest:=[]) (by simpa using hs) ?_;clear hs;rintro r post σ ⟨v,rfl,rfl⟩ hs
 conv=>whnf
 repeat'((first|refine st ?_|(refine sq ?_;intro K U)|(refine si ?_;intro A B Y Z)|(refine Y _ _ ?_;clear Z B Y A)|(refine U _ _ ?_;clear U K)|fail)<;>conv=>whnf)
 refine FR b.length (fun k v=>[(5,v),(12,eI (Bo k))]) (fun k v=>[.own v 7 (EU (Ck a (b.take k)))]) (fun _ _=>True) v rfl trivial hs ?_;clear hs;rintro k v σ hk - hs;have hml:=Pm a (b.take k);rw[UD]at hml;rcases Bq b hk with⟨x,hxk,hlt⟩|hke
 ·have hsn:=Vc a (b.take k) x
  rw[←BF hxk]at hsn;have hxg:=hlb x (Fo hxk)
  have hmem: ∀y∈Ck a (b.take k),He w y:=fun y hy=>by
   rcases Pl _ _ _ hy with h|h
   ·exact hla y h
   ·exact hlb y (List.mem_of_mem_take h)
  generalize Ck a (b.take k)=m at *
  have hany:m.any (O8 x)=m.any (GS x):=by
   rw[Bool.eq_iff_iff,List.any_eq_true,List.any_eq_true];exact⟨fun⟨y,hy,h⟩=>⟨y,hy,by rw[←WY hxg (hmem y hy)];exact h⟩,fun⟨y,hy,h⟩=>⟨y,hy,by rw[WY hxg (hmem y hy)];exact h⟩⟩
  conv=>whnf
  repeat'((first|refine st ?_|(refine sq ?_;intro K U)|(refine si ?_;intro A B Y Z)|(refine Y _ _ ?_;clear Z B Y A)|(refine U _ _ ?_;clear U K)|refine⟨rfl,?_⟩|refine⟨nb,?_⟩|refine ix ?_|refine GM fun σ hs=>?_|(refine FB (fun hc=>?_)<;>(try rw[hc])<;>clear hc)|(intro nn hnn;generalize hg:BI _ nn _=σ;refine D8 hg fun hs=>?_;clear hg)|fail)<;>conv=>whnf)
  generalize nn=n7 at *;have hs2:Sat σ [.own v 7 (EU m),.box n7 (I8 x)]:=hs.perm (.swap _ _ _);clear hs hnn;refine(Lr 257 [] [.p n7 0] (fun _:Unit=>[.box n7 (I8 x)]) (rA (O8 x)) (fun y _=>WI y) ((du x (Pf hxg) n7).more [_]) (by omega) () (K8 fun y hy _=>Pf (hmem y hy))).use (rest:=[]) hs2 ?_;clear hs2;rintro r post σ ⟨rfl,rfl⟩ hs;rw[Nq,hany];cases hy:m.any (GS x)
  ·rw[hy,if_neg Bool.false_ne_true]at hsn
   conv=>whnf
   repeat'((first|refine st ?_|(refine si ?_;intro A B Y Z)|(refine Y _ _ ?_;clear Z B Y A)|(refine U _ _ ?_;clear U K)|refine⟨nb,?_⟩|refine ld ?_|refine MM ?_|fail)<;>conv=>whnf)
   refine HL (WK (x:=x) (xs:=m) (enc:=I8) hs 0 rfl (by omega) U1 fun v σ hs hsl=>?_)
   conv=>whnf
   repeat'((first|(refine si ?_;intro A B Y Z)|(refine Y _ _ ?_;clear Z B Y A)|(refine U _ _ ?_;clear U K)|refine⟨rfl,?_⟩|clear U K)<;>conv=>whnf)
   exact⟨hlt,v,rfl,trivial,by rw[hsn];exact hs.less (.cons₂ _ (List.nil_sublist _))⟩
  ·rw[hy,if_pos rfl]at hsn
   conv=>whnf
   repeat'((first|refine st ?_|(refine si ?_;intro A B Y Z)|(refine Y _ _ ?_;clear Z B Y A)|(refine U _ _ ?_;clear U K)|refine⟨rfl,?_⟩|refine G5 ?_|clear U K)<;>conv=>whnf)
   exact⟨hlt,v,rfl,trivial,by rw[hsn];exact hs.less (.cons₂ _ (List.nil_sublist _))⟩
 ·conv=>whnf
  repeat'((first|refine st ?_|(refine sq ?_;intro K U)|(refine si ?_;intro A B Y Z)|(refine Y _ _ ?_;clear Z B Y A)|(refine U _ _ ?_;clear U K)|refine⟨rfl,?_⟩|(refine F5 (fun hc=>?_)<;>(try rw[hc])<;>clear hc)|clear U K)<;>conv=>whnf)
  exact Y0 (N0 hs 0 rfl (vf:= .l (EU (Ck a b)) false) (by rw[Cz hke])) fun r σ h=>h.1
end Go.Gl
namespace Go.Gl
open Go.Proofs
abbrev aw:AJ:=(.seq [0,3] (.A2 [⟨(some 3),.MS (.t 1),none⟩,
 ⟨(some 4),.mv (.c .pn),none⟩])
 (.seq [0,3,5,6] (.BC [0,3,5,6] [⟨0,⟨(some 8),.mv (.t 0),none⟩,[],[]⟩,
  ⟨1,⟨(some 9),.D5 (.t 8),none⟩,[],[]⟩,
  ⟨2,⟨(some 10),.GZ 1 (.t 9),none⟩,[],[]⟩,
  ⟨3,⟨(some 11),.load none (.t 10),none⟩,[],[]⟩,
  ⟨4,⟨(some 12),.load (some 4) (.t 3),none⟩,[],[]⟩,
  ⟨5,⟨(some 13),.lookup (.a [.i64,.i64,.i64,.i64]) .pn true (.t 11) (.t 12),none⟩,[],[]⟩,
  ⟨6,⟨(some 7),.mv (.t 13),none⟩,[],[]⟩,
  ⟨7,⟨(some 14),.extract 0 (.t 7),none⟩,[],[]⟩,
  ⟨8,⟨(some 15),.extract 1 (.t 7),none⟩,[],[]⟩,
  ⟨9,⟨(some 5),.mv (.t 14),none⟩,[],[]⟩,
  ⟨10,⟨(some 6),.mv (.t 15),none⟩,[],[]⟩])
 (.seq [5] (.seq [0,3,5,17] (.A2 [⟨(some 16),.mv (.t 6),none⟩,
  ⟨(some 17),.not (.t 16),none⟩])
 (.cond (.t 17)
 (.seq [0,3,5] (.A2 [⟨(some 18),.build [(.i .i64 0),(.i .i64 0),(.l [] true)] [(0,1,(.c (.i .i64 (-1000000000)))),(1,1,(.c (.i .i64 1000000000)))],none⟩,
  ⟨(some 19),.build [(.i .i64 0),(.i .i64 0),(.l [] true),(.i .u64 0),(.i .u64 0),(.b false),(.b false),(.l [] true)] [(0,3,(.t 18))],none⟩,
  ⟨(some 20),.box (.t 19),none⟩,
  ⟨(some 5),.mv (.t 20),none⟩])
 (.BC [5] [⟨0,⟨(some 21),.mv (.t 0),none⟩,[],[]⟩,
  ⟨1,⟨(some 22),.D5 (.t 21),none⟩,[],[]⟩,
  ⟨2,⟨(some 23),.GZ 1 (.t 22),none⟩,[],[]⟩,
  ⟨3,⟨(some 24),.load none (.t 23),none⟩,[],[]⟩,
  ⟨4,⟨(some 25),.load (some 4) (.t 3),none⟩,[],[]⟩,
  ⟨5,⟨(some 26),.mv (.t 5),none⟩,[],[]⟩,
  ⟨6,⟨none,.Cw (.a [.i64,.i64,.i64,.i64]) (.t 24) (.t 25) (.t 26),none⟩,[],[]⟩]))
 .skip))
 (.seq [4] (.A2 [⟨(some 27),.mv (.t 5),none⟩,
  ⟨(some 4),.mv (.t 27),none⟩])
 .ret))))
theorem eC:Tryz.f275.body.bind (res Tryz.prog Tryz.f275.ntmps [] [3])=some (erase aw):=by kernel_rfl
theorem jx {args:List V} (hn:args.length≤28) {σ:AG} {Q:R→AG→Prop} (h:W Tryz.prog aw (dZ [4] Q) (A0 0 args) σ):BQ Tryz.prog 275 args σ Q:=
 OR Tryz.func275 (by kernel_rfl) eC rfl hn (kL h)
end Go.Gl
namespace Go.Gl
open Go.Proofs
attribute [local irreducible] BQ BJ A5 Ab AQ A4 Ac Af AR Az AW Aa BT Bf Sat An BZ A6 W
abbrev Rw (w:AM) (us:List Nat) (L:Nat):V:= .rp [.rp (wC w us),.m L]
def On (es es':List Cr):Prop:= ∃new:List Cr,es'=es++new∧ ∀x∈new,x.k=k0
theorem On.refl (es:List Cr):On es es:=⟨[],by simp,by simp⟩
theorem On.trans {a b c:List Cr} (h1:On a b) (h2:On b c):On a c:=by
 obtain⟨x,rfl,hx⟩:=h1;obtain⟨y,rfl,hy⟩:=h2;refine⟨x++y,by simp,fun z hz=>?_⟩;rcases FQ.1 hz with h|h
 ·exact hx z h
 ·exact hy z h
theorem On.mem {a b:List Cr} (h:On a b) {e:Cr} (he:e∈a):e∈b:=by
 obtain⟨x,rfl,_⟩:=h;exact Ru _ he
structure rV (kf:Int→List Int→Kn) (es es':List Cr) (a:Int) (p:List Int) (e:Cr):Prop where
 inv:Df kf es'
 ext:On es es'
 mem:e∈es'
 is:e.is a p=true
theorem rV.k {kf:Int→List Int→Kn} {es es':List Cr} {a:Int} {p:List Int} {e:Cr} (h:rV kf es es' a p e):e.k=kf a p:=by
 have:=h.inv.val e h.mem;obtain⟨h1,h2⟩:=JI.1 h.is;rw[this,h1,h2]
theorem Qh {σ:AG} {l:List At} (h:Sat σ l) (i:Nat) {n:Nat} {kvs:List (V×V)} {ks:KS} {z vk:V} {ok:Bool} {o:Option V} (hi:l[i]? =some (.map n kvs)) (hk:BM ks vk=true) (hks: ∀kv∈kvs,BM ks kv.1=true) (hf:CR vk kvs=o) {K:V→Prop} (h':K (found z ok o)) :
 AW σ ks z ok (.m n) vk K:=RH h i hi hk hks (hf ▸ h')
theorem Jt (w:AM) (us:List Nat) {kf:Int→List Int→Kn} {L:Nat} {es:List Cr} (h:Df kf es) {a:Int} {p:List Int} (hp:p.length≤2) :
 Bx Tryz.prog 275 [Rw w us L,D3 a p] (B3 L es) fun r post=> ∃es' e,rV kf es es' a p e∧r= .ret (.p e.b 0)∧post=B3 L es':=by
 intro σ hs;refine jx nb ?_;unfold B3 at hs;rcases kX a p es with hn|⟨pre,e,post,rfl,he,hpre⟩
 ·have hf:=TA hp h.len hn
  conv=>whnf
  repeat'((first|refine st ?_|(refine sq ?_;intro K U)|(refine si ?_;intro A B Y Z)|(refine Y _ _ ?_;clear Z B Y A)|(refine U _ _ ?_;clear U K)|refine dr ?_|refine⟨nb,?_⟩|refine MM ?_|refine Qh hs 0 rfl rfl (Nj _) hf ?_|refine J2 hs 1 rfl rfl (Nj _) fun σ hs=>?_|(intro nn hnn;generalize hg:BI _ nn _=σ;refine D8 hg fun hs=>?_;clear hg)|fail)<;>conv=>whnf)
  simp only[List.set_cons_succ,List.set_cons_zero]at hs;change Sat σ (_:: .map L (DW (D3 a p) (.p nn 0) (UG es))::_)at hs;rw[aE hp nn (.l [] true) (.l [] true) k0 h.len hn]at hs;have hs2:=FF (FF hs 1) 1;refine AO ⟨_,⟨es++[⟨a,p,nn,.l [] true,.l [] true,k0⟩],⟨a,p,nn,.l [] true,.l [] true,k0⟩,⟨h.add hp hn _ _ _,⟨_,rfl,by simp⟩,by simp,by simp[Cr.is]⟩,rfl,rfl⟩,?_⟩;unfold B3;rw[List.flatMap_append,List.flatMap_cons,List.flatMap_nil,List.append_nil];refine hs2.perm ((List.perm_middle (l₁:=[_,_,_])).trans (.cons _ (List.perm_append_comm.trans (List.Perm.append_left _ (List.reverse_perm _).symm))))
 ·have hf:=S9 hp he h.len hpre
  conv=>whnf
  repeat'((first|refine st ?_|(refine sq ?_;intro K U)|(refine si ?_;intro A B Y Z)|(refine Y _ _ ?_;clear Z B Y A)|(refine U _ _ ?_;clear U K)|refine dr ?_|refine⟨nb,?_⟩|refine G5 ?_|refine Qh hs 0 rfl rfl (Nj _) hf ?_|fail)<;>conv=>whnf)
  exact AO ⟨_,⟨_,e,⟨h,.refl _,by simp,he⟩,rfl,rfl⟩,hs⟩
theorem Mk (a:Int) (p:List Int) (s:Int) (hp:p.length<2):Pure Tryz.prog 276 [D3 a p,eI s] (D3 a (p++[s])):=by
 refine uE nb ?_;have hs:=Sn
 match p,hp with
 | [],_=>
   conv=>whnf
   repeat'((first|refine st ?_|(refine sq ?_;intro K U)|(refine si ?_;intro A B Y Z)|(refine Y _ _ ?_;clear Z B Y A)|(refine U _ _ ?_;clear U K)|refine⟨rfl,?_⟩|refine⟨nb,?_⟩|refine Y8 ?_|refine ld ?_|refine G4 fun σ hs=>?_|refine GM fun σ hs=>?_|(intro nn hnn;generalize hg:BI _ nn _=σ;refine D8 hg fun hs=>?_;clear hg)|fail)<;>conv=>whnf)
   all_goals exact AY rfl
 | [x],_=>
   conv=>whnf
   repeat'((first|refine st ?_|(refine sq ?_;intro K U)|(refine si ?_;intro A B Y Z)|(refine Y _ _ ?_;clear Z B Y A)|(refine U _ _ ?_;clear U K)|refine⟨rfl,?_⟩|refine⟨nb,?_⟩|refine Y8 ?_|refine ld ?_|refine G4 fun σ hs=>?_|refine GM fun σ hs=>?_|(intro nn hnn;generalize hg:BI _ nn _=σ;refine D8 hg fun hs=>?_;clear hg)|fail)<;>conv=>whnf)
   all_goals exact AY rfl
set_option maxHeartbeats 1000000 in
theorem v7 {b:Nat} {vn vs:V} {k:Kn} (f:Fact) (c:Bool) (hl:f.op=2∨f.op=3∨f.op=4) (hc:f.op=2→0≤f.cls∧f.cls<64) (hm:k.CK<18446744073709551616) (hn:k.Ft<18446744073709551616) (hno:k.no.length<1000000) (hN: -1000000000≤f.n∧f.n≤1000000000) :
 Bx Tryz.prog 277 [.p b 0,.a (xF f++[.b c])] (rP b vn vs k) fun r post=>r= .ret (.t [])∧ ∃vn',post=rP b vn' vs (Cd k f c):=by
 intro σ hs;have hM:=Mx;refine uD nb ?_;rw[show xF f++[V.b c]= [eI f.op,eI f.arg,.l (iL f.path) false,eI f.cls,eI f.n,.l (f.kids.map Gb) false,.b c] from rfl];have hw:IntKind.i64.wrap (f.n - 1)=f.n - 1:=wrap64 (by omega) (by omega);cases c<;>rcases hl with h2|h3|h4
 ·have hE:Cd k f false= {k with CK:=k.CK|||2 ^ f.cls.toNat}:=by rw[Cd,if_pos h2,if_neg Bool.false_ne_true]
  rw[hE]
  conv=>whnf
  repeat'((first|refine st ?_|(refine sq ?_;intro K U)|(refine si ?_;intro A B Y Z)|(refine Y _ _ ?_;clear Z B Y A)|(refine U _ _ ?_;clear U K)|refine dr ?_|refine⟨rfl,?_⟩|refine ld ?_|refine G4 fun σ hs=>?_|refine G5 ?_|refine Pure.use (Ge _ _ hm (by omega) (by omega)) ?_|(constructor<;>intro hc<;>(try rw[hc])<;>(replace hc:=bp hc)<;>try(exfalso;omega))|fail)<;>conv=>whnf)
  exact AO ⟨_,⟨rfl,vn,rfl⟩,hs⟩
 ·have hE:Cd k f false= {k with high:=if f.n - 1<k.high then f.n - 1 else k.high,whole:=true}:=by rw[Cd,if_neg (by omega),if_pos h3,if_neg Bool.false_ne_true]
  rw[hE]
  conv=>whnf
  repeat'((first|refine st ?_|(refine sq ?_;intro K U)|(refine si ?_;intro A B Y Z)|(refine Y _ _ ?_;clear Z B Y A)|(refine U _ _ ?_;clear U K)|refine dr ?_|refine⟨rfl,?_⟩|refine ld ?_|refine G4 fun σ hs=>?_|refine G5 ?_|(constructor<;>intro hc<;>(try rw[hc])<;>(replace hc:=bp hc)<;>try(exfalso;omega))|fail)<;>conv=>whnf)
  rw[hw]at hs;exact AO ⟨_,⟨rfl,vn,rfl⟩,hs⟩
 ·have hE:Cd k f false= {k with low:=if f.n > k.low then f.n else k.low,high:=if f.n<k.high then f.n else k.high,whole:=true}:=by rw[Cd,if_neg (by omega),if_neg (by omega),if_neg Bool.false_ne_true]
  rw[hE]
  conv=>whnf
  repeat'((first|refine st ?_|(refine sq ?_;intro K U)|(refine si ?_;intro A B Y Z)|(refine Y _ _ ?_;clear Z B Y A)|(refine U _ _ ?_;clear U K)|refine dr ?_|refine rk ?_ ?_|exact fun s e=>by cases e;rfl|refine⟨rfl,?_⟩|refine ld ?_|refine G4 fun σ hs=>?_|(constructor<;>intro hc<;>(try rw[hc])<;>(replace hc:=bp hc)<;>try(exfalso;omega))|fail)<;>conv=>whnf)
  exact AO ⟨_,⟨rfl,vn,rfl⟩,hs⟩
 ·have hE:Cd k f true= {k with Ft:=k.Ft|||2 ^ f.cls.toNat}:=by rw[Cd,if_pos h2,if_pos rfl]
  rw[hE]
  conv=>whnf
  repeat'((first|refine st ?_|(refine sq ?_;intro K U)|(refine si ?_;intro A B Y Z)|(refine Y _ _ ?_;clear Z B Y A)|(refine U _ _ ?_;clear U K)|refine dr ?_|refine⟨rfl,?_⟩|refine ld ?_|refine G4 fun σ hs=>?_|refine MM ?_|refine Pure.use (Ge _ _ hn (by omega) (by omega)) ?_|(constructor<;>intro hc<;>(try rw[hc])<;>(replace hc:=bp hc)<;>try(exfalso;omega))|fail)<;>conv=>whnf)
  exact AO ⟨_,⟨rfl,vn,rfl⟩,hs⟩
 ·have hE:Cd k f true= {k with low:=if f.n > k.low then f.n else k.low}:=by rw[Cd,if_neg (by omega),if_pos h3,if_pos rfl]
  rw[hE]
  conv=>whnf
  repeat'((first|refine st ?_|(refine sq ?_;intro K U)|(refine si ?_;intro A B Y Z)|(refine Y _ _ ?_;clear Z B Y A)|(refine U _ _ ?_;clear U K)|refine dr ?_|refine⟨rfl,?_⟩|refine ld ?_|refine G4 fun σ hs=>?_|refine MM ?_|(constructor<;>intro hc<;>(try rw[hc])<;>(replace hc:=bp hc)<;>try(exfalso;omega))|fail)<;>conv=>whnf)
  exact AO ⟨_,⟨rfl,vn,rfl⟩,hs⟩
 ·have hE:Cd k f true= {k with no:=k.no++[f.n]}:=by rw[Cd,if_neg (by omega),if_neg (by omega),if_pos rfl]
  rw[hE]
  conv=>whnf
  repeat'((first|refine st ?_|(refine sq ?_;intro K U)|(refine si ?_;intro A B Y Z)|(refine Y _ _ ?_;clear Z B Y A)|(refine U _ _ ?_;clear U K)|refine dr ?_|refine⟨rfl,?_⟩|refine ld ?_|refine G4 fun σ hs=>?_|refine aq fun v σ hs hsl=>?_|(constructor<;>intro hc<;>(try rw[hc])<;>(replace hc:=bp hc)<;>try(exfalso;omega))|fail)<;>conv=>whnf)
  exact AO ⟨_,⟨rfl,_,rfl⟩,hs⟩
theorem GW {σ:AG} {X:List At} {L:Nat} {pre post:List Cr} {e:Cr} (h:Sat σ (X++B3 L (pre++e::post))):Sat σ (.box e.b [eI e.k.low,eI e.k.high,e.vn,eU e.k.CK,eU e.k.Ft,.b e.k.whole,.b e.k.Au,e.vs]:: .own e.vn 1 (iL e.k.no):: .own e.vs 1 (iL e.k.AL)::(X++GU L (pre++e::post) pre post)):=by
 have h2:Sat σ (SS e++(X++GU L (pre++e::post) pre post)):=h.perm ((List.Perm.append_left X (TD L pre post e)).trans (by rw[←UR,←UR];exact List.perm_append_comm.append_right _));exact h2
theorem Dw {σ:AG} {X:List At} {L:Nat} {pre post:List Cr} {e e':Cr} (h1:e'.a=e.a) (h2:e'.p=e.p) (h3:e'.b=e.b) (h:Sat σ (SS e'++(X++GU L (pre++e::post) pre post))):Sat σ (X++B3 L (pre++e'::post)):=by
 rw[←RZ h1 h2 h3]at h;exact h.perm ((List.Perm.append_left X (TD L pre post e')).trans (by rw[←UR,←UR];exact List.perm_append_comm.append_right _)).symm
theorem Iq {α:Type} (a b c:α) (l:List α):(a::b::c::l).Perm (b::c::a::l):=(List.Perm.swap _ _ _).trans (.cons _ (.swap _ _ _))
theorem Lf {α:Type} (a:α) (l:List α):(a::l).Perm (l++[a]):=(List.perm_append_singleton a l).symm
def kI (m:Nat) (k:Kn):Prop:=k.CK<18446744073709551616∧k.Ft<18446744073709551616∧k.no.length≤m∧k.AL.length≤m
theorem fA (f:Fact) (c:Bool) (j:Nat) (a:Int) (p:List Int) (k:Kn):(DS f c j a p k).CK=k.CK:=by unfold DS;(repeat' split)<;>rfl
theorem sd (f:Fact) (c:Bool) (j:Nat) (a:Int) (p:List Int) (k:Kn):(DS f c j a p k).Ft=k.Ft:=by unfold DS;(repeat' split)<;>rfl
theorem yQ (f:Fact) (c:Bool) (j:Nat) (a:Int) (p:List Int) (k:Kn):(DS f c j a p k).no=k.no:=by unfold DS;(repeat' split)<;>rfl
theorem bt (f:Fact) (c:Bool) (j:Nat) (a:Int) (p:List Int) (k:Kn):(DS f c j a p k).AL.length≤k.AL.length+1:=by
 unfold DS
 repeat' split
 ·exact QA _ _
 all_goals simp[DV]
theorem yP {m:Nat} {k:Kn} (h:kI m k) (f:Fact) (c:Bool) (j:Nat) (a:Int) (p:List Int):kI (m+1) (DS f c j a p k):=by
 obtain⟨h1,h2,h3,h4⟩:=h;refine⟨by rw[fA];exact h1,by rw[sd];exact h2,by rw[yQ];omega,?_⟩;have:=bt f c j a p k;omega
theorem Pd {k:Kn} (c:Bool) (h:k.Au=true):DV k c= {k with Au:=true}:=by simp[DV,h]
theorem OG {k:Kn} (c:Bool) (h:k.Au=false):DV k c= {k with Au:= !c}:=by simp[DV,h]
abbrev Jj (a:Int) (p:List Int):List V:=[eI a,eI (p.length:Int),eI (p.getD 0 0),eI (p.getD 1 0)]
structure Zo (f:Fact):Prop where
 op:f.op=2∨f.op=3∨f.op=4
 path:f.path.length≤2
 cls:f.op=2→0≤f.cls∧f.cls<64
 n: -1000000000≤f.n∧f.n≤1000000000
set_option maxHeartbeats 2000000 in
theorem kF (w : AM) (us:List Nat) {kf:Int→List Int→Kn} {L:Nat} {es:List Cr} (h:Df kf es) (f:Fact) (c:Bool) (hl:Zo f) {m:Nat} (hm:m<1000) (hb: ∀a p,kI m (kf a p)) :
 Bx Tryz.prog 259 [Rw w us L,.a (xF f++[.b c])] (B3 L es) fun r post=>r= .ret (.t [])∧ ∃es',Df (fun a p=>if a=f.arg∧p=f.path then Cd (DS f c f.path.length a p (kf a p)) f c else DS f c f.path.length a p (kf a p)) es'∧post=B3 L es':=by
 intro σ hs;have hM:=Mx;obtain⟨l1,l2,l3,l4⟩:=hl;refine uL nb ?_;rw[show xF f++[V.b c]= [eI f.op,eI f.arg,.l (iL f.path) false,eI f.cls,eI f.n,.l (f.kids.map Gb) false,.b c] from rfl]
 conv=>whnf
 repeat'((first|refine st ?_|(refine sq ?_;intro K U)|(refine si ?_;intro A B Y Z)|(refine Y _ _ ?_;clear Z B Y A)|(refine U _ _ ?_;clear U K)|refine⟨nb,?_⟩|refine ld ?_|refine GM fun σ hs=>?_|(intro nn hnn;generalize hg:BI _ nn _=σ;refine D8 hg fun hs=>?_;clear hg)|fail)<;>conv=>whnf)
 generalize nn=nx at *;refine(Jt w us h (a:=f.arg) (p:=[]) (by simp)).use (rest:=[.box nx (Jj f.arg [])]) (hs.perm (Lf _ _)) ?_;clear hs hnn;rintro r post σ ⟨es1,e1,got,rfl,rfl⟩ hs;have hek:=got.k;obtain⟨hea,hep⟩:=JI.1 got.is;obtain⟨pre,post,rfl⟩:=List.append_of_mem got.mem;replace hs:=GW (X:=[.box nx (Jj f.arg [])]) (hs.perm List.perm_append_comm);cases hnd:e1.k.Au<;>rw[hnd]at hs
 all_goals
  conv=>whnf
  repeat'((first|refine st ?_|(refine sq ?_;intro K U)|(refine si ?_;intro A B Y Z)|(refine Y _ _ ?_;clear Z B Y A)|(refine U _ _ ?_;clear U K)|refine ld ?_|refine G4 fun σ hs=>?_|fail)<;>conv=>whnf)
  obtain⟨e2,es2,Y,Z,hC⟩: ∃(e2:Cr) (es2:List Cr),(Df (fun a p=>DS f c 0 a p (kf a p)) es2∧e2∈es2∧e2.is f.arg (f.path.take 0)=true)∧e2.b=e1.b∧Sat σ (.box nx (Jj f.arg (f.path.take 0))::B3 L es2):=by
   refine⟨⟨e1.a,e1.p,e1.b,e1.vn,e1.vs,DV e1.k c⟩,_,⟨(got.inv.change e1.b e1.vn e1.vs (DV e1.k c)).congr fun a p=>?_,US _ (.head _),got.is⟩,rfl,?_⟩
   ·rw[ew,Ry,hea,hep,hek]
    by_cases ha:a=f.arg∧p= []
    ·rw[if_pos ha,if_pos ha,ha.1,ha.2]
    ·rw[if_neg ha,if_neg ha]
   ·refine Dw (X:=[.box nx (Jj f.arg [])]) (e:=e1) rfl rfl rfl ?_
    first
     | (rw[Pd c hnd];exact hs)
     | (rw[OG c hnd];exact hs)
  rw[←Z];clear hs hnd got hek hea hep;refine FR f.path.length (fun j (x:List Cr×Cr)=>[(31,eI (Bo j)),(5,.p x.2.b 0)]) (fun j x=> .box nx (Jj f.arg (f.path.take j))::B3 L x.1) (fun j x=>Df (fun a p=>DS f c j a p (kf a p)) x.1∧x.2∈x.1∧x.2.is f.arg (f.path.take j)=true) (es2,e2) rfl Y hC ?_;clear Y hC;generalize e2.b=b0 at *;clear Z e2 es2;rintro j ⟨es2,e2⟩ σ hj ⟨hinv,hmem,his⟩ hs;simp only at hinv hmem his hs
  have hek:e2.k=DS f c j f.arg (f.path.take j) (kf f.arg (f.path.take j)):=by
   have:=hinv.val e2 hmem;obtain⟨h1,h2⟩:=JI.1 his;rw[this,h1,h2]
  have hok:kI (m+1) e2.k:=by rw[hek];exact yP (hb _ _) f c j _ _
  obtain⟨hea,hep⟩:=JI.1 his;obtain⟨pre2,post2,rfl⟩:=List.append_of_mem hmem;replace hs:=GW (X:=[.box nx (Jj f.arg (f.path.take j))]) hs;have hck:Bo j=j:=Ad (by omega);rcases Bq f.path hj with⟨s,hsj,hjlt⟩|hje
  ·have hct:=fun b=>Dc e2.k.AL b s
   have hk4:=hok.2.2.2;have hsl0:ct e2.k s= {e2.k with AL:=Hp e2.k.AL s}:=rfl
   have hne:f.path.take j++[s]≠f.path.take j:=by
    intro e;have:=congrArg List.length e;simp at this
   have hgd:f.path.getD j 0=s:=by rw[FA,hsj];rfl
   have htk:f.path.take (j+1)=f.path.take j++[s]:=BF hsj;cases hcB:e2.k.AL.contains s
   all_goals
    rw[hcB]at hct
    conv=>whnf
    repeat'((first|refine st ?_|(refine sq ?_;intro K U)|(refine si ?_;intro A B Y Z)|(refine Y _ _ ?_;clear Z B Y A)|(refine U _ _ ?_;clear U K)|refine⟨rfl,?_⟩|refine⟨nb,?_⟩|refine ix ?_|refine ld ?_|refine G4 fun σ hs=>?_|refine GM fun σ hs=>?_|refine aq fun v σ hs hsl=>?_|refine MM ?_|refine G5 ?_|(refine FB (fun hc=>?_)<;>(try rw[hc])<;>clear hc)|refine Pure.ZT (hct false) (.cons (hs.Jk 2 rfl) (.cons (.refl _) .nil)) rfl ?_|refine Pure.use (Mk f.arg (f.path.take j) s (by rw[UD];omega)) ?_|fail)<;>conv=>whnf)
   refine(kS (.inl hsl)).use (rest:=_) (hs.front (j:=2) rfl) ?_;clear hs;rintro r post σ ⟨rfl,rfl⟩ hs;replace hs:Sat σ (.box e2.b [eI e2.k.low,eI e2.k.high,e2.vn,eU e2.k.CK,eU e2.k.Ft,.b e2.k.whole,.b e2.k.Au,v]:: .own e2.vn 1 (iL e2.k.no):: .own v 1 (iL ((e2.k.AL++[s]).mergeSort Mw))::([.box nx (Jj f.arg (f.path.take j))]++GU L (pre2++e2::post2) pre2 post2)):=hs.perm (Iq _ _ _ _)
   conv=>whnf
   repeat'((first|(refine sq ?_;intro K U)|(refine si ?_;intro A B Y Z)|(refine Y _ _ ?_;clear Z B Y A)|(refine U _ _ ?_;clear U K)|refine⟨nb,?_⟩|refine ld ?_|refine GM fun σ hs=>?_|refine Pure.use (Mk f.arg (f.path.take j) s (by rw[UD];omega)) ?_|fail)<;>conv=>whnf)
   have hs3: ∃vs3,Sat σ (.box nx (Jj f.arg (f.path.take j++[s]))::B3 L (pre2++⟨e2.a,e2.p,e2.b,e2.vn,vs3,ct e2.k s⟩::post2)):=⟨v,Dw (X:=[_]) (e:=e2) rfl rfl rfl (by rw[hsl0,Hp,if_neg (by rw[hcB];decide)];exact hs)⟩
   rotate_left
   have hs3: ∃vs3,Sat σ (.box nx (Jj f.arg (f.path.take j++[s]))::B3 L (pre2++⟨e2.a,e2.p,e2.b,e2.vn,vs3,ct e2.k s⟩::post2)):=⟨e2.vs,Dw (X:=[_]) (e:=e2) rfl rfl rfl (by rw[hsl0,Hp,if_pos hcB];exact hs)⟩
   all_goals
    clear hs;obtain⟨vs3,hs⟩:=hs3;have hinv3:=hinv.change e2.b e2.vn vs3 (ct e2.k s);refine(Jt w us hinv3 (a:=f.arg) (p:=f.path.take j++[s]) (by rw[UE,UD];simp;omega)).use (rest:=[.box nx (Jj f.arg (f.path.take j++[s]))]) (hs.perm (Lf _ _)) ?_;clear hs;rintro r post σ ⟨es4,e4,got,rfl,rfl⟩ hs;have hek4:=got.k;obtain⟨hea4,hep4⟩:=JI.1 got.is;obtain⟨pre4,post4,rfl⟩:=List.append_of_mem got.mem;replace hs:=GW (X:=[.box nx (Jj f.arg (f.path.take j++[s]))]) (hs.perm List.perm_append_comm);cases hnd:e4.k.Au<;>rw[hnd]at hs
    all_goals
     conv=>whnf
     repeat'((first|refine st ?_|(refine si ?_;intro A B Y Z)|(refine Y _ _ ?_;clear Z B Y A)|(refine U _ _ ?_;clear U K)|refine⟨rfl,?_⟩|refine ld ?_|refine G4 fun σ hs=>?_|clear U K)<;>conv=>whnf)
     refine⟨hjlt,(pre4++⟨e4.a,e4.p,e4.b,e4.vn,e4.vs,DV e4.k c⟩::post4,⟨e4.a,e4.p,e4.b,e4.vn,e4.vs,DV e4.k c⟩),rfl,⟨(got.inv.change e4.b e4.vn e4.vs (DV e4.k c)).congr fun a p=>?_,US _ (.head _),by rw[htk];exact got.is⟩,?_⟩
     ·rw[ez f c hjlt,Ry,hea4,hep4,htk,hgd]
      by_cases h1:a=f.arg∧p=f.path.take j++[s]
      ·rw[if_pos h1,if_pos h1,hek4,Ry,hea,hep,if_neg (fun h=>hne h.2),h1.1,h1.2]
      ·rw[if_neg h1,if_neg h1,Ry,hea,hep]
       by_cases h2:a=f.arg∧p=f.path.take j
       ·rw[if_pos h2,if_pos h2,hek,h2.1,h2.2]
       ·rw[if_neg h2,if_neg h2]
     ·rw[htk]
      refine Dw (X:=[.box nx (Jj f.arg (f.path.take j++[s]))]) (e:=e4) rfl rfl rfl ?_
      first
       | (rw[Pd c hnd];exact hs)
       | (rw[OG c hnd];exact hs)
  ·have etk:f.path.take j=f.path:=Cz hje
   rw[etk]at his hs hek hep
   conv=>whnf
   repeat'((first|refine st ?_|(refine sq ?_;intro K U)|(refine si ?_;intro A B Y Z)|(refine Y _ _ ?_;clear Z B Y A)|(refine U _ _ ?_;clear U K)|refine⟨rfl,?_⟩|refine⟨nb,?_⟩|(refine F5 (fun hc=>?_)<;>(try rw[hc])<;>clear hc)|clear U K)<;>conv=>whnf)
   refine(v7 f c l1 l3 hok.1 hok.2.1 (by have:=hok.2.2.1;omega) l4).use (rest:=[.box nx (Jj f.arg f.path)]++GU L (pre2++e2::post2) pre2 post2) hs ?_;rintro r post σ ⟨rfl,vn',rfl⟩ hs
   conv=>whnf
   repeat'((first|(refine Y _ _ ?_;clear Z B Y A)|fail)<;>conv=>whnf)
   refine AO ⟨_,⟨rfl,_,(hinv.change e2.b vn' e2.vs (Cd e2.k f c)).congr fun a p=>?_,rfl⟩,(Dw (X:=[.box nx (Jj f.arg f.path)]) (e:=e2) (e':=⟨e2.a,e2.p,e2.b,vn',e2.vs,Cd e2.k f c⟩) rfl rfl rfl hs).less (List.sublist_cons_self _ _)⟩;rw[Ry,hea,hep,hek,←hje];by_cases h1:a=f.arg∧p=f.path
   ·rw[if_pos h1,if_pos h1,h1.1,h1.2]
   ·rw[if_neg h1,if_neg h1]
theorem wB (w:AM) (us:List Nat) {kf:Int→List Int→Kn} {L:Nat} {es:List Cr} (h:Df kf es) (l:Fact) (hl:Zo (Ay l).1) {m:Nat} (hm:m<1000) (hb: ∀a p,kI m (kf a p)) :
 Bx Tryz.prog 259 [Rw w us L,.a (I8 l)] (B3 L es) fun r post=>r= .ret (.t [])∧ ∃es',Df (fun a p=>C1 a p (kf a p) l) es'∧post=B3 L es':=fun σ hs=>
 BQ.mono (kF w us h (Ay l).1 (Ay l).2 hl hm hb σ hs) fun r σ' ⟨post,⟨h1,es',h2,h3⟩,h4⟩=>⟨post,⟨h1,es',h2.congr fun a p=>(se a p (kf a p) l).symm,h3⟩,h4⟩
def VA (ls:List Fact):Prop:= ∀l∈ls,Zo (Ay l).1
theorem aF {ls:List Fact} (h:VA ls) (a:Int) (p:List Int):kI ls.length (kn ls a p):=by
 have hc:Hk 64 ls:=fun l hl ho=>(h l hl).cls ho
 obtain⟨h1,h2⟩:=fC hc a p;obtain⟨h3,h4⟩:=aG a p ls k0;exact⟨by simpa using h1,by simpa using h2,by simpa[kn,k0]using h3,by simpa[kn,k0]using h4⟩
theorem inv0:Df (kn []) []:=⟨fun x hx=>(by cases hx),fun a p _=>rfl,.nil,fun x hx=>(by cases hx)⟩
set_option maxHeartbeats 1000000 in
theorem bO (w:AM) (us:List Nat) (ls:List Fact) (b:Bool) (h:VA ls) (hlen:ls.length<900) :
 Bx Tryz.prog 230 [.rp (wC w us),.l (EU ls) b] [] fun r post=> ∃L es,r= .ret (Rw w us L)∧Df (kn ls) es∧post=B3 L es:=by
 intro σ hs;have hM:=Mx;refine uW nb ?_
 conv=>whnf
 repeat'((first|refine st ?_|(refine sq ?_;intro K U)|(refine si ?_;intro A B Y Z)|(refine Y _ _ ?_;clear Z B Y A)|(refine U _ _ ?_;clear U K)|(intro nn hnn;generalize hg:BI _ nn _=σ;refine D8 hg fun hs=>?_;clear hg)|fail)<;>conv=>whnf)
 generalize nn=L at *;refine FR ls.length (fun k (x:List Cr)=>[(14,eI (Bo k))]) (fun k x=>B3 L x) (fun k x=>Df (kn (ls.take k)) x) [] rfl inv0 hs ?_;clear hs hnn;rintro k es σ hk hinv hs;rcases Bq ls hk with⟨l,hlk,hlt⟩|hke
 ·have hlm:l∈ls:=Fo hlk
  have htk:ls.take (k+1)=ls.take k++[l]:=BF hlk;have hbk: ∀a p,kI (ls.take k).length (kn (ls.take k) a p):=aF fun x hx=>h x (List.mem_of_mem_take hx)
  conv=>whnf
  repeat'((first|refine st ?_|(refine sq ?_;intro K U)|(refine si ?_;intro A B Y Z)|(refine Y _ _ ?_;clear Z B Y A)|(refine U _ _ ?_;clear U K)|refine⟨rfl,?_⟩|refine⟨nb,?_⟩|refine ix ?_|refine ld ?_|refine GM fun σ hs=>?_|(refine FB (fun hc=>?_)<;>(try rw[hc])<;>clear hc)|(intro nn hnn;generalize hg:BI _ nn _=σ;refine D8 hg fun hs=>?_;clear hg)|fail)<;>conv=>whnf)
  rename_i nb hnb _ hs;generalize nn=n7 at *;refine(wB w us hinv l (h l hlm) (m:=(ls.take k).length) (by rw[UD];omega) hbk).use (rest:=[.box n7 (I8 l)]) (hs.perm (Lf _ _)) ?_;clear hs;rintro r post σ ⟨rfl,es',hinv',rfl⟩ hs
  conv=>whnf
  repeat'((first|(refine si ?_;intro A B Y Z)|(refine Y _ _ ?_;clear Z B Y A)|(refine U _ _ ?_;clear U K)|refine⟨rfl,?_⟩|clear U K)<;>conv=>whnf)
  refine⟨hlt,es',rfl,?_,hs.less (List.sublist_append_left _ _)⟩;rw[htk];exact hinv'.congr fun a p=>(fB _ _ _ _).symm
 ·have etk:ls.take k=ls:=Cz hke
  rw[etk]at hinv
  conv=>whnf
  repeat'((first|refine st ?_|(refine sq ?_;intro K U)|(refine si ?_;intro A B Y Z)|(refine Y _ _ ?_;clear Z B Y A)|(refine U _ _ ?_;clear U K)|refine⟨rfl,?_⟩|(refine F5 (fun hc=>?_)<;>(try rw[hc])<;>clear hc)|clear U K)<;>conv=>whnf)
  exact AO ⟨_,⟨L,es,rfl,hinv,rfl⟩,hs⟩
structure Hr (w:AM) (kf:Int→List Int→Kn):Prop where
 ok: ∀a p,kI 1000 (kf a p)
 low: ∀a p,-1000000000≤(kf a p).low∧(kf a p).low≤1000000000
 short: ∀a p,2≤p.length→(kf a p).AL= []
 AL: ∀a p,∀s∈(kf a p).AL,0≤s∧s<w.owner.length
abbrev Hx (L:Nat) (pre post:List Cr) (e:Cr) (s:List Cr):List At:=
 .box e.b [eI e.k.low,eI e.k.high,e.vn,eU e.k.CK,eU e.k.Ft,.b e.k.whole,.b e.k.Au,e.vs]:: .own e.vn 1 (iL e.k.no)::GU L (pre++e::(post++s)) pre (post++s)
theorem wV {σ:AG} {L:Nat} {pre post:List Cr} {e:Cr} {s:List Cr} (h:Sat σ (B3 L (pre++e::(post++s)))):Sat σ (.own e.vs 1 (iL e.k.AL)::Hx L pre post e s):=
 (GW (X:=[]) h).perm ((Iq _ _ _ _).symm)
theorem rF {σ:AG} {L:Nat} {pre post:List Cr} {e:Cr} {s:List Cr} (h:Sat σ (.own e.vs 1 (iL e.k.AL)::Hx L pre post e s)):Sat σ (B3 L (pre++e::(post++s))):=
 Dw (X:=[]) (e:=e) (e':=e) rfl rfl rfl (h.perm (Iq _ _ _ _))
def NJ (kf:Int→List Int→Kn) (L:Nat) (es:List Cr) (post:List At):Prop:= ∃es',On es es'∧Df kf es'∧post=B3 L es'
theorem ji (w:AM) (us:List Nat) {kf:Int→List Int→Kn} {L:Nat} {pre post:List Cr} {e:Cr} {a:Int} {p:List Int} (hp:p.length<2) :
 L0 Tryz.prog (.f (.func 290) [] [.rp [Rw w us L],.rp (Jj a p)]) eI (fun s=> .own e.vs 1 (iL e.k.AL)::Hx L pre post e s) (fun y=> !(kf a (p++[y])).Au) (fun s=>Df kf (pre++e::(post++s))∧ ∀x∈s,x.k=k0) (fun _=>True):=by
 rintro y s - ⟨hj,hj0⟩ σ hs;refine CZ ?_;show BQ Tryz.prog 290 ([]++[eI y]++[.rp [Rw w us L],.rp (Jj a p)]) σ _;refine tq nb ?_
 conv=>whnf
 repeat'((first|refine st ?_|(refine sq ?_;intro K U)|(refine si ?_;intro A B Y Z)|(refine Y _ _ ?_;clear Z B Y A)|(refine U _ _ ?_;clear U K)|refine dr ?_|refine rk ?_ ?_|exact fun s e=>by cases e;rfl|refine⟨nb,?_⟩|refine Pure.use (Mk a p y hp) ?_|fail)<;>conv=>whnf)
 refine(Jt w us hj (a:=a) (p:=p++[y]) (by simp;omega)).use (rest:=[]) (by simpa using rF hs) ?_;clear hs;rintro r post' σ ⟨es4,e4,got,rfl,rfl⟩ hs;have hek4:=got.k;obtain⟨new,he4,hnew⟩:=got.ext;have hinv:=got.inv;obtain⟨pre4,post4,he5⟩:=List.append_of_mem got.mem;rw[List.append_nil,he5]at hs;replace hs:=GW (X:=[]) hs
 conv=>whnf
 repeat'((first|refine st ?_|(refine Y _ _ ?_;clear Z B Y A)|(refine U _ _ ?_;clear U K)|refine dr ?_|refine ld ?_|fail)<;>conv=>whnf)
 refine AO ⟨by rw[hek4],s++new,⟨?_,fun x hx=>?_⟩,?_⟩
 ·rw[he4]at hinv
  simpa using hinv
 ·rcases FQ.1 hx with hx|hx
  ·exact hj0 x hx
  ·exact hnew x hx
 ·have h2:=Dw (X:=[]) (e:=e4) (e':=e4) rfl rfl rfl hs
  rw[←he5,he4]at h2;refine wV ?_;simpa using h2
theorem jj (w:AM) (us:List Nat) {kf:Int→List Int→Kn} (hr:Hr w kf) {L:Nat} {es:List Cr} (h:Df kf es) {a:Int} {p:List Int} (hp:p.length≤2) :
 Bx Tryz.prog 288 [Rw w us L,D3 a p] (B3 L es) fun r post=>r= .ret (.b (NM kf a p))∧NJ kf L es post:=by
 intro σ hs;have hM:=Mx;refine tt nb ?_
 conv=>whnf
 repeat'((first|refine st ?_|(refine sq ?_;intro K U)|(refine si ?_;intro A B Y Z)|(refine Y _ _ ?_;clear Z B Y A)|(refine U _ _ ?_;clear U K)|refine⟨nb,?_⟩|fail)<;>conv=>whnf)
 refine(Jt w us h (a:=a) (p:=p) hp).use (rest:=[]) (by simpa using hs) ?_;clear hs;rintro r post σ ⟨es4,e4,got,rfl,rfl⟩ hs;have hek:=got.k;obtain⟨pre,post,rfl⟩:=List.append_of_mem got.mem;rw[List.append_nil]at hs;replace hs:=GW (X:=[]) hs;have hsl:=(hr.ok a p).2.2.2;have hsh:=hr.short a p;rw[←hek]at hsl hsh
 have hst:p.length<2∨e4.k.AL= []:=by
  rcases Nat.lt_or_ge p.length 2 with h'|h'
  ·exact .inl h'
  ·exact .inr (hsh h')
 have hE:NM kf a p=e4.k.AL.all fun y=> !(kf a (p++[y])).Au:=by rw[NM,hek]
 conv=>whnf
 repeat'((first|refine ld ?_|fail)<;>conv=>whnf)
 have hall:Bx Tryz.prog 177 [e4.vs,.f (.func 290) [] [.rp [Rw w us L],.rp (Jj a p)]] (.own e4.vs 1 (iL e4.k.AL)::Hx L pre post e4 []) fun r post'=>r= .ret (.b (e4.k.AL.all fun y=> !(kf a (p++[y])).Au))∧ ∃s',(Df kf (pre++e4::(post++s'))∧ ∀x∈s',x.k=k0)∧post'= .own e4.vs 1 (iL e4.k.AL)::Hx L pre post e4 s':=by
  rcases hst with h'|h'
  ·exact XK 290 [] [.rp [Rw w us L],.rp (Jj a p)] (Hx L pre post e4) _ _ _ (ji w us h') (fun _ _=>trivial) (by omega) [] ⟨by simpa using got.inv,by simp⟩
  ·exact XK 290 [] [.rp [Rw w us L],.rp (Jj a p)] (Hx L pre post e4) _ _ (fun _=>False) (fun y s hf=>hf.elim) (fun x hx=>by rw[h']at hx;cases hx) (by omega) [] ⟨by simpa using got.inv,by simp⟩
 refine hall.use (rest:=[]) (by
  have h2:=wV (L:=L) (pre:=pre) (post:=post) (e:=e4) (s:=[]) (by simpa using Dw (X:=[]) (e:=e4) (e':=e4) rfl rfl rfl hs)
  simpa using h2) ?_
 clear hs;rintro r post' σ ⟨rfl,s',⟨hi,hn⟩,rfl⟩ hs
 conv=>whnf
 repeat'((first|refine st ?_|(refine Y _ _ ?_;clear Z B Y A)|(refine U _ _ ?_;clear U K)|fail)<;>conv=>whnf)
 refine AO ⟨_,⟨by rw[hE],pre++e4::(post++s'),got.ext.trans ⟨s',by simp,hn⟩,hi,rfl⟩,rF (by simpa using hs)⟩
theorem cg {m u:Nat} (hm:m<18446744073709551616):(M7 m u=0)↔Oi m u=true:=by
 rw[Nd (by simpa using hm)];constructor
 ·intro h b hb
  have hlt:b<64:=by
   rcases Nat.lt_or_ge b 64 with h'|h'
   ·exact h'
   ·rw[Nat.testBit_lt_two_pow (Nat.lt_of_lt_of_le hm (by simpa using Nat.pow_le_pow_right (n:=2) (by decide) h'))]at hb;cases hb
  have:=Nx (a:=m) (b:=u) hlt;rw[h,Nat.zero_testBit,hb]at this;simpa using this
 ·intro h
  refine Nat.eq_of_testBit_eq fun i=>?_
  rw[Nat.zero_testBit];rcases Nat.lt_or_ge i 64 with hlt|hge
  ·rw[Nx hlt]
   cases hb:m.testBit i with
   | false=>rfl
   | true=>rw[h i hb];rfl
  ·exact Nat.testBit_lt_two_pow (Nat.lt_of_lt_of_le (RW _ _) (by simpa using Nat.pow_le_pow_right (n:=2) (by decide) hge))
theorem S0 (w:AM) (us:List Nat) {kf:Int→List Int→Kn} (hr:Hr w kf) {L:Nat} {es:List Cr} (h:Df kf es) {a:Int} {p:List Int} (hp:p.length≤2) (c:Nat) (hc:c<64) :
 Bx Tryz.prog 284 [Rw w us L,D3 a p,eI c] (B3 L es) fun r post=>r= .ret (.b (HA kf a p c))∧NJ kf L es post:=by
 intro σ hs;refine tw nb ?_
 conv=>whnf
 repeat'((first|refine st ?_|(refine sq ?_;intro K U)|(refine si ?_;intro A B Y Z)|(refine Y _ _ ?_;clear Z B Y A)|(refine U _ _ ?_;clear U K)|refine⟨nb,?_⟩|fail)<;>conv=>whnf)
 refine(Jt w us h (a:=a) (p:=p) hp).use (rest:=[]) (by simpa using hs) ?_;clear hs;rintro r post σ ⟨es4,e4,got,rfl,rfl⟩ hs;have hek:=got.k;obtain⟨pre,post,rfl⟩:=List.append_of_mem got.mem;rw[List.append_nil]at hs;replace hs:=GW (X:=[]) hs;have hok:=hr.ok a p;rw[←hek]at hok;have hu:1|||2 ^ c<18446744073709551616:=Jp (by decide) (JD hc)
 have hb1:bits .andNot .u64 (e4.k.CK:Int) ((1|||2 ^ c:Nat):Int)=((M7 e4.k.CK (1|||2 ^ c):Nat):Int):=P4;have hb2:bits .and .u64 (e4.k.Ft:Int) ((1|||2 ^ c:Nat):Int)=((e4.k.Ft&&&(1|||2 ^ c):Nat):Int):=KZ hok.2.1 hu;have hb3:=cg (u:=1|||2 ^ c) hok.1;have F:HA kf a p c=(Oi e4.k.CK (1|||2 ^ c)&&(e4.k.Ft&&&(1|||2 ^ c)==0&&NM kf a p)):=by rw[HA,hek]
 conv=>whnf
 repeat'((first|refine st ?_|(refine sq ?_;intro K U)|(refine si ?_;intro A B Y Z)|(refine Y _ _ ?_;clear Z B Y A)|(refine U _ _ ?_;clear U K)|refine⟨rfl,?_⟩|refine⟨nb,?_⟩|refine ld ?_|refine Pure.use (WU 1 c (by decide) hc) ?_|(constructor<;>intro hc<;>(try rw[hc])<;>(replace hc:=bp hc))|fail)<;>conv=>whnf)
 ·have h1:Oi e4.k.CK (1|||2 ^ c)=true:=hb3.1 (by omega)
  have h2:(e4.k.Ft&&&(1|||2 ^ c)==0)=true:=by rw[Dp];omega
  refine(jj w us hr got.inv hp).use (rest:=[]) (by simpa using Dw (X:=[]) (e:=e4) (e':=e4) rfl rfl rfl hs) ?_;clear hs;rintro r post' σ ⟨rfl,es5,hx,hi,rfl⟩ hs
  conv=>whnf
  repeat'((first|refine st ?_|(refine Y _ _ ?_;clear Z B Y A)|(refine U _ _ ?_;clear U K)|fail)<;>conv=>whnf)
  exact AO ⟨_,⟨by rw[F,h1,h2];rfl,es5,got.ext.trans hx,hi,rfl⟩,by simpa using hs⟩
 ·have h2:(e4.k.Ft&&&(1|||2 ^ c)==0)=false:=by rw[beq_eq_false_iff_ne];omega
  exact AO ⟨_,⟨by rw[F,h2];simp,_,got.ext,got.inv,rfl⟩,by simpa using Dw (X:=[]) (e:=e4) (e':=e4) rfl rfl rfl hs⟩
 ·have h1:Oi e4.k.CK (1|||2 ^ c)=false:=by
   rw[←Bool.not_eq_true,←hb3];omega
  exact AO ⟨_,⟨by rw[F,h1];simp,_,got.ext,got.inv,rfl⟩,by simpa using Dw (X:=[]) (e:=e4) (e':=e4) rfl rfl rfl hs⟩
theorem OL (w:AM) (us:List Nat) {kf:Int→List Int→Kn} (hr:Hr w kf) {L:Nat} {es:List Cr} (h:Df kf es) {a:Int} {p:List Int} (hp:p.length≤2) :
 Bx Tryz.prog 278 [Rw w us L,D3 a p] (B3 L es) fun r post=>r= .ret (.t [eI (JF (kf a p)),.b (QS kf a p)])∧NJ kf L es post:=by
 intro σ hs;have hM:=Mx;refine uC nb ?_
 conv=>whnf
 repeat'((first|refine st ?_|(refine sq ?_;intro K U)|(refine si ?_;intro A B Y Z)|(refine Y _ _ ?_;clear Z B Y A)|(refine U _ _ ?_;clear U K)|refine⟨nb,?_⟩|fail)<;>conv=>whnf)
 refine(Jt w us h (a:=a) (p:=p) hp).use (rest:=[]) (by simpa using hs) ?_;clear hs;rintro r post σ ⟨es4,e4,got,rfl,rfl⟩ hs;have hek:=got.k;obtain⟨pre,post,rfl⟩:=List.append_of_mem got.mem;rw[List.append_nil]at hs;replace hs:=GW (X:=[]) hs;have hok:=hr.ok a p;have hlo:=hr.low a p;rw[←hek]at hok hlo;have hno:=hok.2.2.1;have hle:=W0 e4.k.no e4.k.low;have hL:JF (kf a p)=Hb e4.k.no (from_ e4.k.no e4.k.low) e4.k.low:=by rw[JF,←hek];exact XM hle (Nat.le_refl _)
 conv=>whnf
 repeat'((first|refine st ?_|(refine sq ?_;intro K U)|(refine si ?_;intro A B Y Z)|(refine Y _ _ ?_;clear Z B Y A)|(refine U _ _ ?_;clear U K)|refine ld ?_|fail)<;>conv=>whnf)
 refine NQ (fun n:Int=>from_ e4.k.no n) (fun n=>[(7,eI n)]) (fun _=> .box e4.b [eI e4.k.low,eI e4.k.high,e4.vn,eU e4.k.CK,eU e4.k.Ft,.b e4.k.whole,.b e4.k.Au,e4.vs]:: .own e4.vn 1 (iL e4.k.no):: .own e4.vs 1 (iL e4.k.AL)::([]++GU L (pre++e4::post) pre post)) (fun n=> -1000000000≤n∧n+from_ e4.k.no n≤1000001000∧JF (kf a p)=Hb e4.k.no (from_ e4.k.no n) n) e4.k.low rfl ⟨by omega,by omega,hL⟩ hs ?_;clear hs hL hle;rintro n σ ⟨hn0,hn1,hL⟩ hs;have hct2:=fun b=>Dc e4.k.no b n
 cases hcB:e4.k.no.contains n<;>rw[hcB]at hct2
 ·have hout:n∉e4.k.no:=by simpa using hcB
  rw[kD hout]at hL;have hI:QS kf a p=(decide (n≤e4.k.high)&&HA kf a p 1):=by rw[QS,hL,hek]
  conv=>whnf
  repeat'((first|refine st ?_|(refine sq ?_;intro K U)|(refine si ?_;intro A B Y Z)|(refine Y _ _ ?_;clear Z B Y A)|(refine U _ _ ?_;clear U K)|refine⟨rfl,?_⟩|refine⟨nb,?_⟩|refine ld ?_|refine Pure.ZT (hct2 false) (.cons (hs.Jk 1 rfl) (.cons (.refl _) .nil)) rfl ?_|(constructor<;>intro hc<;>(try rw[hc])<;>(replace hc:=bp hc))|clear U K)<;>conv=>whnf)
  all_goals
   have hsc:Sat σ (B3 L (pre++e4::post)):=by simpa using Dw (X:=[]) (e:=e4) (e':=e4) rfl rfl rfl hs
  ·refine(S0 w us hr got.inv hp 1 (by decide)).use (rest:=[]) (by simpa using hsc) ?_
   clear hs hsc;rintro r post' σ ⟨rfl,es5,hx,hi,rfl⟩ hs
   conv=>whnf
   repeat'((first|refine st ?_|(refine Y _ _ ?_;clear Z B Y A)|(refine U _ _ ?_;clear U K)|fail)<;>conv=>whnf)
   exact AO ⟨_,⟨by rw[hL,hI,decide_eq_true (by assumption)];rfl,es5,got.ext.trans hx,hi,rfl⟩,by simpa using hs⟩
  ·exact AO ⟨_,⟨by rw[hL,hI,decide_eq_false (by omega)];rfl,_,got.ext,got.inv,rfl⟩,hsc⟩
 ·have hin:n∈e4.k.no:=by simpa using hcB
  have hlt:=RM hin;have hwr:IntKind.i64.wrap (n+1)=n+1:=wrap64 (by omega) (by omega);obtain⟨m,hm⟩: ∃m,from_ e4.k.no n=m+1:=⟨from_ e4.k.no n - 1,by omega⟩
  have hL2:JF (kf a p)=Hb e4.k.no (from_ e4.k.no (n+1)) (n+1):=by rw[hL,hm,wA hin];exact XM (by omega) (Nat.le_refl _)
  conv=>whnf
  repeat'((first|refine st ?_|(refine sq ?_;intro K U)|(refine si ?_;intro A B Y Z)|(refine Y _ _ ?_;clear Z B Y A)|(refine U _ _ ?_;clear U K)|refine⟨rfl,?_⟩|refine ld ?_|refine Pure.ZT (hct2 false) (.cons (hs.Jk 1 rfl) (.cons (.refl _) .nil)) rfl ?_|clear U K)<;>conv=>whnf)
  exact⟨n+1,hlt,by rw[hwr];rfl,⟨by omega,by omega,hL2⟩,hs⟩
theorem Wp (w:AM) (us:List Nat) {kf:Int→List Int→Kn} (hr:Hr w kf) {L:Nat} {es:List Cr} (h:Df kf es) {a:Int} {p:List Int} (hp:p.length≤2) :
 Bx Tryz.prog 279 [Rw w us L,D3 a p] (B3 L es) fun r post=>r= .ret (.b (Jq kf a p))∧NJ kf L es post:=by
 intro σ hs;refine uB nb ?_
 conv=>whnf
 repeat'((first|refine st ?_|(refine sq ?_;intro K U)|(refine si ?_;intro A B Y Z)|(refine Y _ _ ?_;clear Z B Y A)|(refine U _ _ ?_;clear U K)|refine⟨nb,?_⟩|fail)<;>conv=>whnf)
 refine(Jt w us h (a:=a) (p:=p) hp).use (rest:=[]) (by simpa using hs) ?_;clear hs;rintro r post σ ⟨es4,e4,got,rfl,rfl⟩ hs;have hek:=got.k;obtain⟨pre,post,rfl⟩:=List.append_of_mem got.mem;rw[List.append_nil]at hs;have hsc:=hs;replace hs:=GW (X:=[]) hs;have hN:Jq kf a p=(!e4.k.whole&&HA kf a p 2):=by rw[Jq,hek]
 cases hw:e4.k.whole<;>rw[hw]at hs hN
 ·conv=>whnf
  repeat'((first|refine st ?_|refine⟨nb,?_⟩|refine ld ?_|refine MM ?_|fail)<;>conv=>whnf)
  refine(S0 w us hr got.inv hp 2 (by decide)).use (rest:=[]) (by simpa using hsc) ?_;clear hs hsc;rintro r post' σ ⟨rfl,es5,hx,hi,rfl⟩ hs
  conv=>whnf
  repeat'((first|refine st ?_|(refine Y _ _ ?_;clear Z B Y A)|(refine U _ _ ?_;clear U K)|fail)<;>conv=>whnf)
  exact AO ⟨_,⟨by rw[hN];rfl,es5,got.ext.trans hx,hi,rfl⟩,by simpa using hs⟩
 ·conv=>whnf
  repeat'((first|refine st ?_|(refine Y _ _ ?_;clear Z B Y A)|(refine U _ _ ?_;clear U K)|refine ld ?_|refine G5 ?_|fail)<;>conv=>whnf)
  exact AO ⟨_,⟨by rw[hN];rfl,_,got.ext,got.inv,rfl⟩,hsc⟩
end Go.Gl
