import Derived.Test.YtijbpgdmpejgoaaGreatProg
import Derived.KernelRfl
import Derived.Test.YtijbpgdmpejgoaaGreatQ8
import Derived.Test.YtijbpgdmpejgoaaGreatQ18
import Derived.Test.YtijbpgdmpejgoaaGreatQ19
set_option linter.all false
set_option linter.unusedVariables false
set_option linter.unusedSimpArgs false
namespace Go.Gl
open Go.Proofs
attribute [local irreducible] Bj Bf Ba Al Aa BS Ao Aq Ac BO Ah Ap Bz CA Sat A7 B8 Be W
section
variable {S:Type} (g:FuncId) (fi ca:List V) (H:S→List At) (f:Int→Bool) (J:S→Prop) (D:Int→Prop)
theorem Ps {v:V} {xs:List Int} (hst:Mt Tryz.prog (.f (.func g) fi ca) eI (fun s=> .own v 1 (iL xs)::H s) f J D) (hD: ∀x∈xs,D x) (hxl:xs.length≤Ak) (s0:S) (hj0:J s0) :
 CL Tryz.prog 103 [v,.f (.func g) fi ca] (.own v 1 (iL xs)::H s0) fun r post=>r= .ret (eI (Mr f xs 0))∧ ∃s',J s'∧post= .own v 1 (iL xs)::H s':=by
 intro σ hs;have hM:=Mx;refine a7 nb ?_
 conv=>whnf
 repeat'((first|refine st ?_|(refine sq ?_;intro K U)|(refine si ?_;intro A B Y Z)|(refine Y _ _ ?_;clear Z B Y A)|(refine U _ _ ?_;clear U K)|refine lo ?_|fail)<;>conv=>whnf)
 refine C5 xs.length (fun k (_:S)=>[(8,eI (Bw k))]) (fun _ s=> .own v 1 (iL xs)::H s) (fun k s=>J s∧Mr f xs 0=Mr f (xs.drop k) k) s0 rfl ⟨hj0,rfl⟩ hs ?_;clear hs hj0;rintro k s σ hk ⟨hj,hn⟩ hs;have hck:Bw k=k:=AU (by omega);rcases B0 xs hk with⟨y,hy,hlt⟩|hke
 ·rw[drop_cons hy]at hn
  have hDy:=hD y (DL hy);rw[Mr]at hn
  conv=>whnf
  repeat'((first|refine st ?_|(refine sq ?_;intro K U)|(refine si ?_;intro A B Y Z)|(refine Y _ _ ?_;clear Z B Y A)|(refine U _ _ ?_;clear U K)|refine⟨rfl,?_⟩|refine oi ?_|refine ol fun x hx=>?_|(refine Et (fun hc=>?_)<;>(try rw[hc])<;>clear hc)|fail)<;>conv=>whnf)
  obtain rfl:x=y:=by rw[hck,Int.toNat_natCast,hy]at hx;exact(Option.some.inj hx).symm
  refine hst.use hDy hj hs ?_;clear hs hj;intro s σ hj hs;cases hyes:f x
  ·rw[hyes,if_neg (by decide)]at hn
   conv=>whnf
   repeat'((first|refine st ?_|(refine si ?_;intro A B Y Z)|(refine Y _ _ ?_;clear Z B Y A)|(refine U _ _ ?_;clear U K)|refine⟨rfl,?_⟩|clear U K)<;>conv=>whnf)
   exact⟨hlt,_,rfl,⟨hj,hn⟩,hs⟩
  ·rw[hyes,if_pos rfl]at hn
   conv=>whnf
   repeat'((first|refine st ?_|(refine sq ?_;intro K U)|(refine si ?_;intro A B Y Z)|(refine Y _ _ ?_;clear Z B Y A)|(refine U _ _ ?_;clear U K)|clear U K)<;>conv=>whnf)
   rw[hn];exact AS ⟨_,⟨by rw[hck],s,hj,rfl⟩,hs⟩
 ·rw[Ax hke,Mr]at hn
  conv=>whnf
  repeat'((first|refine st ?_|(refine sq ?_;intro K U)|(refine si ?_;intro A B Y Z)|(refine Y _ _ ?_;clear Z B Y A)|(refine U _ _ ?_;clear U K)|refine⟨rfl,?_⟩|(refine F4 (fun hc=>?_)<;>(try rw[hc])<;>clear hc)|clear U K)<;>conv=>whnf)
  rw[hn];exact AS ⟨_,⟨rfl,s,hj,rfl⟩,hs⟩
theorem NU {v:V} {xs:List Int} (hst:Mt Tryz.prog (.f (.func g) fi ca) eI (fun s=> .own v 1 (iL xs)::H s) f J D) (hD: ∀x∈xs,D x) (hxl:xs.length≤Ak) (s0:S) (hj0:J s0) :
 CL Tryz.prog 72 [v,.f (.func g) fi ca] (.own v 1 (iL xs)::H s0) fun r post=>r= .ret (.b (xs.any f))∧ ∃s',J s'∧post= .own v 1 (iL xs)::H s':=by
 intro σ hs;refine pQ nb ?_
 conv=>whnf
 repeat'((first|(refine sq ?_;intro K U)|(refine si ?_;intro A B Y Z)|(refine Y _ _ ?_;clear Z B Y A)|(refine U _ _ ?_;clear U K)|fail)<;>conv=>whnf)
 refine(Ps g fi ca H f J D hst hD hxl s0 hj0).use (rest:=[]) (by simpa using hs) ?_;rintro r post σ ⟨rfl,s',hj,rfl⟩ hs
 conv=>whnf
 repeat'((first|refine st ?_|(refine Y _ _ ?_;clear Z B Y A)|(refine U _ _ ?_;clear U K)|refine⟨rfl,?_⟩|fail)<;>conv=>whnf)
 exact AS ⟨_,⟨by rw[←T6 f xs 0],s',hj,rfl⟩,by simpa using hs⟩
theorem fN {v:V} {xs:List Int} (hst:Mt Tryz.prog (.f (.func g) fi ca) eI (fun s=> .own v 1 (iL xs)::H s) f J D):Mt Tryz.prog (.f (.func 217) [] [.rp [.f (.func g) fi ca]]) eI (fun s=> .own v 1 (iL xs)::H s) (fun y=> !f y) J D:=by
 intro y s hd hj σ hs;refine C1 ?_;show Bj Tryz.prog 217 ([]++[eI y]++[.rp [.f (.func g) fi ca]]) σ _;refine ar nb ?_
 conv=>whnf
 repeat'((first|refine st ?_|(refine sq ?_;intro K U)|(refine si ?_;intro A B Y Z)|(refine Y _ _ ?_;clear Z B Y A)|(refine U _ _ ?_;clear U K)|fail)<;>conv=>whnf)
 refine hst.use hd hj hs ?_;clear hs;intro s' σ hj' hs
 conv=>whnf
 repeat'((first|refine st ?_|(refine Y _ _ ?_;clear Z B Y A)|(refine U _ _ ?_;clear U K)|fail)<;>conv=>whnf)
 exact AS ⟨rfl,s',hj',hs⟩
theorem Xj {v:V} {xs:List Int} (hst:Mt Tryz.prog (.f (.func g) fi ca) eI (fun s=> .own v 1 (iL xs)::H s) f J D) (hD: ∀x∈xs,D x) (hxl:xs.length≤Ak) (s0:S) (hj0:J s0) :
 CL Tryz.prog 177 [v,.f (.func g) fi ca] (.own v 1 (iL xs)::H s0) fun r post=>r= .ret (.b (xs.all f))∧ ∃s',J s'∧post= .own v 1 (iL xs)::H s':=by
 intro σ hs;refine aw nb ?_
 conv=>whnf
 repeat'((first|(refine sq ?_;intro K U)|(refine si ?_;intro A B Y Z)|(refine Y _ _ ?_;clear Z B Y A)|(refine U _ _ ?_;clear U K)|fail)<;>conv=>whnf)
 refine(NU 217 [] [.rp [.f (.func g) fi ca]] H _ J D (fN g fi ca H f J D hst) hD hxl s0 hj0).use (rest:=[]) (by simpa using hs) ?_;rintro r post σ ⟨rfl,s',hj,rfl⟩ hs
 conv=>whnf
 repeat'((first|refine st ?_|(refine Y _ _ ?_;clear Z B Y A)|(refine U _ _ ?_;clear U K)|fail)<;>conv=>whnf)
 refine AS ⟨_,⟨?_,s',hj,rfl⟩,by simpa using hs⟩;rw[List.all_eq_not_any_not]
end
abbrev J1 (l:Fact):List V:=xF (BV l).1++[.b (BV l).2]
abbrev E5 (ls:List Fact):List (List V):=ls.map J1
theorem eR (xs ys:List Int) (f g:Bool):Pure Tryz.prog 273 [.l (iL xs) f,.l (iL ys) g] (.b (xs==ys)):=by
 refine Pure.fit (by kernel_rfl) fun hf=>?_
 have hx:=Ks hf.1;have hy:=Ks hf.2.1;have hM:=Mx;refine ur nb ?_;have hs:=Sn
 conv=>whnf
 repeat'((first|refine st ?_|(refine sq ?_;intro K U)|(refine si ?_;intro A B Y Z)|(refine Y _ _ ?_;clear Z B Y A)|(refine U _ _ ?_;clear U K)|refine⟨rfl,?_⟩|(constructor<;>intro hc<;>(try rw[hc])<;>(replace hc:=bp hc)<;>(try simp(disch:=omega) only[B2,wrap64,AU]at hc))|clear U K)<;>conv=>whnf)
 ·exact AM (by(have:(xs==ys)=false:=by(simp;intro e;subst e;simp at hc));rw[this])
 have hl:xs.length=ys.length:=by omega
 refine C5 xs.length (fun k (_:Unit)=>[(13,eI (Bw k))]) (fun _ _=>[]) (fun k _=>(xs==ys)=(xs.drop k==ys.drop k)) () rfl rfl Sat.nil ?_;clear hs;rintro k - σ hk hn hs;rcases B0 xs hk with⟨x,hxk,hlt⟩|hke
 ·obtain⟨y,hyk⟩: ∃y,ys[k]? =some y:=⟨_,E4 (by omega)⟩
  rw[drop_cons hxk,drop_cons hyk]at hn
  conv=>whnf
  repeat'((first|refine st ?_|(refine sq ?_;intro K U)|(refine si ?_;intro A B Y Z)|(refine Y _ _ ?_;clear Z B Y A)|(refine U _ _ ?_;clear U K)|refine dr ?_|refine⟨rfl,?_⟩|refine ix ?_|(refine Et (fun hc=>?_)<;>(try rw[hc])<;>clear hc)|(constructor<;>intro hc<;>(try rw[hc])<;>(replace hc:=bp hc))|clear U K)<;>conv=>whnf)
  ·exact AM (by rw[hn];simp[*])
  ·exact⟨hlt,(),rfl,by rw[hn];simp[*],hs⟩
 ·conv=>whnf
  repeat'((first|refine st ?_|(refine sq ?_;intro K U)|(refine si ?_;intro A B Y Z)|(refine Y _ _ ?_;clear Z B Y A)|(refine U _ _ ?_;clear U K)|refine⟨rfl,?_⟩|(refine F4 (fun hc=>?_)<;>(try rw[hc])<;>clear hc)|clear U K)<;>conv=>whnf)
  exact AM (by rw[hn,Ax hke,Ax (by omega)];rfl)
theorem fY (a b:Bool) (u:V):Pure Tryz.prog 274 [.l [] a,.l [] b,u] (.b true):=by
 refine uq nb ?_;have hs:=Sn;have hM:=Mx
 conv=>whnf
 repeat'((first|refine st ?_|(refine sq ?_;intro K U)|(refine si ?_;intro A B Y Z)|(refine Y _ _ ?_;clear Z B Y A)|(refine U _ _ ?_;clear U K)|refine⟨rfl,?_⟩|(constructor<;>intro hc<;>(try rw[hc])<;>(replace hc:=bp hc)<;>(try simp(disch:=omega) only[B2,wrap64,AU]at hc)<;>try(exfalso;omega))|fail)<;>conv=>whnf)
 refine C5 0 (fun k (_:Unit)=>[(17,eI (Bw k))]) (fun _ _=>[]) (fun _ _=>True) () rfl trivial Sat.nil ?_;clear hs;rintro k - σ hk - hs;obtain rfl:k=0:=by omega
 conv=>whnf
 repeat'((first|refine st ?_|(refine sq ?_;intro K U)|(refine si ?_;intro A B Y Z)|(refine Y _ _ ?_;clear Z B Y A)|(refine U _ _ ?_;clear U K)|refine⟨rfl,?_⟩|(constructor<;>intro hc<;>(try rw[hc])<;>(replace hc:=bp hc)<;>(try simp(disch:=omega) only[B2,wrap64,AU]at hc))|clear U K)<;>conv=>whnf)
 ·exfalso
  simp at hc
 ·exact AM rfl
set_option maxHeartbeats 1000000 in
theorem eS (f g:Fact) (hf:f.kids= []) (hg:g.kids= []):Pure Tryz.prog 258 [.a (xF f),.a (xF g)] (.b (FT f g)):=by
 have e:FT f g=(f.op==g.op&&(f.arg==g.arg&&(f.cls==g.cls&&(f.n==g.n&&f.path==g.path)))):=by
  rw[LI,hf,hg];simp[Pk]
 obtain⟨o,a,p,c,n,k⟩:=f;obtain⟨o',a',p',c',n',k'⟩:=g;simp only[Fact.kids]at hf hg;subst hf;subst hg;refine vB nb ?_;have hs:=Sn;rw[e]
 conv=>whnf
 repeat'((first|refine st ?_|(refine sq ?_;intro K U)|(refine si ?_;intro A B Y Z)|(refine Y _ _ ?_;clear Z B Y A)|(refine U _ _ ?_;clear U K)|refine⟨rfl,?_⟩|refine Pure.use (eR _ _ _ _) ?_|refine Pure.use (fY _ _ _) ?_|(constructor<;>intro hc<;>(try rw[hc])<;>(replace hc:=bp hc))|fail)<;>conv=>whnf)
 all_goals simp only[Fact.op,Fact.arg,Fact.cls,Fact.n,Fact.path]at *
 all_goals exact AM (by simp[*])
theorem VO:F9 J1 7:=fun l=>by
 refine⟨rfl,fun v hv=>?_⟩;rcases Fo.1 hv with hv|hv
 ·exact(L6 (BV l).1).2 v (by show v∈Ge (BV l).1;rw[Bp];exact hv)
 ·simp at hv;subst hv;rfl
def Pw (x y:Fact):Bool:=(BV x).2==(BV y).2&&FT (BV x).1 (BV y).1
abbrev We (l:Fact):Prop:=(BV l).1.kids= []
abbrev rn (f:Fact→Bool):Fact→Unit→Bool×Unit:=fun y _=>(f y,())
theorem eT (x:Fact) (hx1:We x) (n:Nat):Dc Tryz.prog (.f (.func 257) [] [.p n 0]) (fun y=> .a (J1 y)) (fun _:Unit=>[.box n (J1 x)]) (rn (Pw x)) (fun y _=>We y):=by
 intro y s hy1 σ hs;refine C1 ?_;show Bj Tryz.prog 257 ([]++[.a (J1 y)]++[.p n 0]) σ _;refine vC nb ?_;unfold Pw
 conv=>whnf
 repeat'((first|refine st ?_|(refine sq ?_;intro K U)|(refine si ?_;intro A B Y Z)|(refine Y _ _ ?_;clear Z B Y A)|(refine U _ _ ?_;clear U K)|refine⟨nb,?_⟩|refine ld ?_|refine Pure.use (eS _ _ hx1 hy1) ?_|(constructor<;>intro hc<;>(try rw[hc])<;>(replace hc:=bp hc))|fail)<;>conv=>whnf)
 all_goals exact AS ⟨by simp[rn, *],hs⟩
section
variable {S:Type} (g:FuncId) (fi ca:List V) (H:S→List At)
theorem Pr (stp:Fact→S→Bool×S) (D:Fact→S→Prop) {v:V} {xs:List Fact} (hst:Dc Tryz.prog (.f (.func g) fi ca) (fun y=> .a (J1 y)) (fun s=> .own v 7 (E5 xs)::H s) stp D) (hxl:xs.length≤Ak) (s0:S) (hd:U4 stp D xs s0) :
 CL Tryz.prog 272 [v,.f (.func g) fi ca] (.own v 7 (E5 xs)::H s0) fun r post=>r= .ret (eI (Cf stp xs 0 s0).1)∧post= .own v 7 (E5 xs)::H (Cf stp xs 0 s0).2:=by
 intro σ hs;have hM:=Mx;refine uu nb ?_
 conv=>whnf
 repeat'((first|refine st ?_|(refine sq ?_;intro K U)|(refine si ?_;intro A B Y Z)|(refine Y _ _ ?_;clear Z B Y A)|(refine U _ _ ?_;clear U K)|refine lo ?_|fail)<;>conv=>whnf)
 refine C5 xs.length (fun k (_:S)=>[(8,eI (Bw k))]) (fun _ s=> .own v 7 (E5 xs)::H s) (fun k s=>U4 stp D (xs.drop k) s∧Cf stp xs 0 s0=Cf stp (xs.drop k) k s) s0 rfl ⟨hd,rfl⟩ hs ?_;clear hs;rintro k s σ hk ⟨hd,hn⟩ hs;have hck:Bw k=k:=AU (by omega);rcases B0 xs hk with⟨y,hy,hlt⟩|hke
 ·rw[drop_cons hy]at hn hd
  obtain⟨hd1,hd2⟩:=hd;rw[Cf]at hn
  conv=>whnf
  repeat'((first|refine st ?_|(refine sq ?_;intro K U)|(refine si ?_;intro A B Y Z)|(refine Y _ _ ?_;clear Z B Y A)|(refine U _ _ ?_;clear U K)|refine⟨rfl,?_⟩|refine⟨nb,?_⟩|refine oi ?_|refine ol fun x hx=>?_|(refine Et (fun hc=>?_)<;>(try rw[hc])<;>clear hc)|fail)<;>conv=>whnf)
  obtain rfl:x=y:=by rw[hck,Int.toNat_natCast,hy]at hx;exact(Option.some.inj hx).symm
  refine hst.use hd1 hs ?_;clear hs;intro σ hs;cases hyes:(stp x s).1
  ·rw[hyes,if_neg (by decide)]at hn
   conv=>whnf
   repeat'((first|refine st ?_|(refine si ?_;intro A B Y Z)|(refine Y _ _ ?_;clear Z B Y A)|(refine U _ _ ?_;clear U K)|refine⟨rfl,?_⟩|clear U K)<;>conv=>whnf)
   exact⟨hlt,_,rfl,⟨hd2,hn⟩,hs⟩
  ·rw[hyes,if_pos rfl]at hn
   conv=>whnf
   repeat'((first|refine st ?_|(refine sq ?_;intro K U)|(refine si ?_;intro A B Y Z)|(refine Y _ _ ?_;clear Z B Y A)|(refine U _ _ ?_;clear U K)|clear U K)<;>conv=>whnf)
   rw[hn];exact AS ⟨_,⟨by rw[hck],rfl⟩,hs⟩
 ·rw[Ax hke,Cf]at hn
  conv=>whnf
  repeat'((first|refine st ?_|(refine sq ?_;intro K U)|(refine si ?_;intro A B Y Z)|(refine Y _ _ ?_;clear Z B Y A)|(refine U _ _ ?_;clear U K)|refine⟨rfl,?_⟩|(refine F4 (fun hc=>?_)<;>(try rw[hc])<;>clear hc)|clear U K)<;>conv=>whnf)
  rw[hn];exact AS ⟨_,⟨rfl,rfl⟩,hs⟩
theorem Mj (stp:Fact→S→Bool×S) (D:Fact→S→Prop) {v:V} {xs:List Fact} (hst:Dc Tryz.prog (.f (.func g) fi ca) (fun y=> .a (J1 y)) (fun s=> .own v 7 (E5 xs)::H s) stp D) (hxl:xs.length≤Ak) (s0:S) (hd:U4 stp D xs s0) :
 CL Tryz.prog 256 [v,.f (.func g) fi ca] (.own v 7 (E5 xs)::H s0) fun r post=>r= .ret (.b (decide ((Cf stp xs 0 s0).1≥0)))∧post= .own v 7 (E5 xs)::H (Cf stp xs 0 s0).2:=by
 intro σ hs;refine vD nb ?_
 conv=>whnf
 repeat'((first|(refine sq ?_;intro K U)|(refine si ?_;intro A B Y Z)|(refine Y _ _ ?_;clear Z B Y A)|(refine U _ _ ?_;clear U K)|fail)<;>conv=>whnf)
 refine(Pr g fi ca H stp D hst hxl s0 hd).use (rest:=[]) (by simpa using hs) ?_;rintro r post σ ⟨rfl,rfl⟩ hs
 conv=>whnf
 repeat'((first|refine st ?_|(refine Y _ _ ?_;clear Z B Y A)|(refine U _ _ ?_;clear U K)|refine⟨rfl,?_⟩|fail)<;>conv=>whnf)
 exact AS ⟨_,⟨rfl,rfl⟩,by simpa using hs⟩
end
theorem ct (a:List Fact) (f:Bool) (hl:a.length≤1000000):CL Tryz.prog 255 [.l (E5 a) f] [] fun r post=> ∃v,r= .ret v∧post= [.own v 7 (E5 a)]:=by
 intro σ hs;have hM:=Mx;refine vE nb ?_
 conv=>whnf
 repeat'((first|(refine sq ?_;intro K U)|(refine si ?_;intro A B Y Z)|(refine Y _ _ ?_;clear Z B Y A)|(refine U _ _ ?_;clear U K)|fail)<;>conv=>whnf)
 refine⟨fun e t=>?_,fun _=>?_⟩
 ·have hxe:a= []:=List.map_eq_nil_iff.1 e
  subst hxe
  conv=>whnf
  repeat'((first|refine st ?_|(refine sq ?_;intro K U)|(refine si ?_;intro A B Y Z)|(refine Y _ _ ?_;clear Z B Y A)|(refine U _ _ ?_;clear U K)|(constructor<;>intro hc<;>(try rw[hc])<;>(replace hc:=bp hc))|clear U K)<;>conv=>whnf)
  ·exact AS ⟨_,⟨_,rfl,rfl⟩,Ga hs 7⟩
  ·replace hs:=Ga hs 7
   refine Kq hs 0 (xs:=[]) (ys:=[]) rfl (by simp) VO fun v σ hs=>?_
   conv=>whnf
   repeat'((first|refine st ?_|(refine Y _ _ ?_;clear Z B Y A)|(refine U _ _ ?_;clear U K)|fail)<;>conv=>whnf)
   exact AS ⟨_,⟨_,rfl,rfl⟩,hs⟩
 ·conv=>whnf
  repeat'((first|refine st ?_|(refine sq ?_;intro K U)|(refine si ?_;intro A B Y Z)|(refine Y _ _ ?_;clear Z B Y A)|(refine U _ _ ?_;clear U K)|fail)<;>conv=>whnf)
  replace hs:=Ga hs 7;refine Kq hs 0 (xs:=[]) (ys:=a) rfl (by simp;omega) VO fun v σ hs=>?_
  conv=>whnf
  repeat'((first|refine st ?_|(refine Y _ _ ?_;clear Z B Y A)|(refine U _ _ ?_;clear U K)|fail)<;>conv=>whnf)
  exact AS ⟨_,⟨_,rfl,rfl⟩,hs⟩
theorem Td {w:AP} {x:Fact} (h:Ii w x):x=if(BV x).2 then Gv (BV x).1 else(BV x).1:=by
 obtain⟨g,hn,hl,rfl|rfl⟩:=h
 ·have:=Gj hl
  have h5: ¬x.op=5:=by omega
  simp only[BV,if_neg h5];rfl
 ·rfl
theorem Wr {w:AP} {x y:Fact} (hx1:Ii w x) (hy1:Ii w y):Pw x y=FT x y:=by
 rw[Bool.eq_iff_iff,QF];simp only[Pw,Bn,FQ,QF];constructor
 ·rintro⟨h1,h2⟩
  rw[Td hx1,Td hy1,h1,h2]
 ·rintro rfl
  exact⟨rfl,rfl⟩
theorem QT {w:AP} {x:Fact} (h:Ii w x):We x:=by
 obtain⟨-,hn,hl⟩:=I1 h;have hlo:=Gj hl;have har:=DS _ hn;rw[LX,Bn,FQ]at har
 have h0:Cl (BV x).1.op=0:=by
  have h5: ¬(BV x).1.op=5:=by omega
  have h6: ¬((BV x).1.op=6∨(BV x).1.op=7):=by omega
  simp[Cl,h5,h6]
  try omega
 rw[h0]at har;exact List.length_eq_zero_iff.1 har.1
theorem Yi {w:AP} (a b:List Fact) (f g:Bool) (hla: ∀x∈a,Ii w x) (hlb: ∀x∈b,Ii w x) (hl:a.length+b.length<1000000):Pure Tryz.prog 228 [.l (E5 a) f,.l (E5 b) g] (.l (E5 (Cy a b)) false):=by
 have hM:=Mx;refine Pure.of ?_;refine vT nb ?_;have hs:=Sn
 conv=>whnf
 repeat'((first|(refine sq ?_;intro K U)|(refine si ?_;intro A B Y Z)|(refine Y _ _ ?_;clear Z B Y A)|(refine U _ _ ?_;clear U K)|fail)<;>conv=>whnf)
 refine(ct a f (by omega)).use (rest:=[]) (by simpa using hs) ?_;clear hs;rintro r post σ ⟨v,rfl,rfl⟩ hs
 conv=>whnf
 repeat'((first|refine st ?_|(refine sq ?_;intro K U)|(refine si ?_;intro A B Y Z)|(refine Y _ _ ?_;clear Z B Y A)|(refine U _ _ ?_;clear U K)|fail)<;>conv=>whnf)
 refine C5 b.length (fun k v=>[(5,v),(12,eI (Bw k))]) (fun k v=>[.own v 7 (E5 (Cy a (b.take k)))]) (fun _ _=>True) v rfl trivial hs ?_;clear hs;rintro k v σ hk - hs;have hml:=MV a (b.take k);rw[PZ]at hml;rcases B0 b hk with⟨x,hxk,hlt⟩|hke
 ·have hsn:=PH a (b.take k) x
  rw[←AR hxk]at hsn;have hxg:=hlb x (DL hxk)
  have hmem: ∀y∈Cy a (b.take k),Ii w y:=fun y hy=>by
   rcases QY _ _ _ hy with h|h
   ·exact hla y h
   ·exact hlb y (List.mem_of_mem_take h)
  generalize Cy a (b.take k)=m at *
  have hany:m.any (Pw x)=m.any (FT x):=by
   rw[Bool.eq_iff_iff,List.any_eq_true,List.any_eq_true];exact⟨fun⟨y,hy,h⟩=>⟨y,hy,by rw[←Wr hxg (hmem y hy)];exact h⟩,fun⟨y,hy,h⟩=>⟨y,hy,by rw[Wr hxg (hmem y hy)];exact h⟩⟩
  conv=>whnf
  repeat'((first|refine st ?_|(refine sq ?_;intro K U)|(refine si ?_;intro A B Y Z)|(refine Y _ _ ?_;clear Z B Y A)|(refine U _ _ ?_;clear U K)|refine⟨rfl,?_⟩|refine⟨nb,?_⟩|refine ix ?_|refine Hi fun σ hs=>?_|(refine Et (fun hc=>?_)<;>(try rw[hc])<;>clear hc)|(intro nn hnn;generalize hg:BI _ nn _=σ;refine Fy hg fun hs=>?_;clear hg)|fail)<;>conv=>whnf)
  generalize nn=n7 at *;have hs2:Sat σ [.own v 7 (E5 m),.box n7 (J1 x)]:=hs.perm (.swap _ _ _);clear hs hnn;refine(Mj 257 [] [.p n7 0] (fun _:Unit=>[.box n7 (J1 x)]) (rn (Pw x)) (fun y _=>We y) ((eT x (QT hxg) n7).more [_]) (by omega) () (J9 fun y hy _=>QT (hmem y hy))).use (rest:=[]) hs2 ?_;clear hs2;rintro r post σ ⟨rfl,rfl⟩ hs;rw[LV,hany];cases hy:m.any (FT x)
  ·rw[hy,if_neg Bool.false_ne_true]at hsn
   conv=>whnf
   repeat'((first|refine st ?_|(refine si ?_;intro A B Y Z)|(refine Y _ _ ?_;clear Z B Y A)|(refine U _ _ ?_;clear U K)|refine⟨nb,?_⟩|refine ld ?_|refine Ls ?_|fail)<;>conv=>whnf)
   refine GM (Fs (x:=x) (xs:=m) (enc:=J1) hs 0 rfl (by omega) VO fun v σ hs hsl=>?_)
   conv=>whnf
   repeat'((first|(refine si ?_;intro A B Y Z)|(refine Y _ _ ?_;clear Z B Y A)|(refine U _ _ ?_;clear U K)|refine⟨rfl,?_⟩|clear U K)<;>conv=>whnf)
   exact⟨hlt,v,rfl,trivial,by rw[hsn];exact hs.less (.cons₂ _ (List.nil_sublist _))⟩
  ·rw[hy,if_pos rfl]at hsn
   conv=>whnf
   repeat'((first|refine st ?_|(refine si ?_;intro A B Y Z)|(refine Y _ _ ?_;clear Z B Y A)|(refine U _ _ ?_;clear U K)|refine⟨rfl,?_⟩|refine IV ?_|clear U K)<;>conv=>whnf)
   exact⟨hlt,v,rfl,trivial,by rw[hsn];exact hs.less (.cons₂ _ (List.nil_sublist _))⟩
 ·conv=>whnf
  repeat'((first|refine st ?_|(refine sq ?_;intro K U)|(refine si ?_;intro A B Y Z)|(refine Y _ _ ?_;clear Z B Y A)|(refine U _ _ ?_;clear U K)|refine⟨rfl,?_⟩|(refine F4 (fun hc=>?_)<;>(try rw[hc])<;>clear hc)|clear U K)<;>conv=>whnf)
  exact ZN (ER hs 0 rfl (vf:= .l (E5 (Cy a b)) false) (by rw[A5 hke])) fun r σ h=>h.1
end Go.Gl
namespace Go.Gl
open Go.Proofs
abbrev bM:AK:=(.seq [0,3] (.Am [⟨(some 3),.NQ (.t 1),none⟩,
 ⟨(some 4),.mv (.c .pn),none⟩])
 (.seq [0,3,5,6] (.A9 [0,3,5,6] [⟨0,⟨(some 8),.mv (.t 0),none⟩,[],[]⟩,
  ⟨1,⟨(some 9),.Ei (.t 8),none⟩,[],[]⟩,
  ⟨2,⟨(some 10),.HH 1 (.t 9),none⟩,[],[]⟩,
  ⟨3,⟨(some 11),.load none (.t 10),none⟩,[],[]⟩,
  ⟨4,⟨(some 12),.load (some 4) (.t 3),none⟩,[],[]⟩,
  ⟨5,⟨(some 13),.lookup (.a [.i64,.i64,.i64,.i64]) .pn true (.t 11) (.t 12),none⟩,[],[]⟩,
  ⟨6,⟨(some 7),.mv (.t 13),none⟩,[],[]⟩,
  ⟨7,⟨(some 14),.extract 0 (.t 7),none⟩,[],[]⟩,
  ⟨8,⟨(some 15),.extract 1 (.t 7),none⟩,[],[]⟩,
  ⟨9,⟨(some 5),.mv (.t 14),none⟩,[],[]⟩,
  ⟨10,⟨(some 6),.mv (.t 15),none⟩,[],[]⟩])
 (.seq [5] (.seq [0,3,5,17] (.Am [⟨(some 16),.mv (.t 6),none⟩,
  ⟨(some 17),.not (.t 16),none⟩])
 (.cond (.t 17)
 (.seq [0,3,5] (.Am [⟨(some 18),.build [(.i .i64 0),(.i .i64 0),(.l [] true)] [(0,1,(.c (.i .i64 (-1000000000)))),(1,1,(.c (.i .i64 1000000000)))],none⟩,
  ⟨(some 19),.build [(.i .i64 0),(.i .i64 0),(.l [] true),(.i .u64 0),(.i .u64 0),(.b false),(.b false),(.l [] true)] [(0,3,(.t 18))],none⟩,
  ⟨(some 20),.box (.t 19),none⟩,
  ⟨(some 5),.mv (.t 20),none⟩])
 (.A9 [5] [⟨0,⟨(some 21),.mv (.t 0),none⟩,[],[]⟩,
  ⟨1,⟨(some 22),.Ei (.t 21),none⟩,[],[]⟩,
  ⟨2,⟨(some 23),.HH 1 (.t 22),none⟩,[],[]⟩,
  ⟨3,⟨(some 24),.load none (.t 23),none⟩,[],[]⟩,
  ⟨4,⟨(some 25),.load (some 4) (.t 3),none⟩,[],[]⟩,
  ⟨5,⟨(some 26),.mv (.t 5),none⟩,[],[]⟩,
  ⟨6,⟨none,.DO (.a [.i64,.i64,.i64,.i64]) (.t 24) (.t 25) (.t 26),none⟩,[],[]⟩]))
 .skip))
 (.seq [4] (.Am [⟨(some 27),.mv (.t 5),none⟩,
  ⟨(some 4),.mv (.t 27),none⟩])
 .ret))))
theorem ec:Tryz.f275.body.bind (res Tryz.prog Tryz.f275.ntmps [] [3])=some (erase bM):=by kernel_rfl
theorem kQ {args:List V} (hn:args.length≤28) {σ:AH} {Q:R→AH→Prop} (h:W Tryz.prog bM (eF [4] Q) (BA 0 args) σ):Bj Tryz.prog 275 args σ Q:=
 PQ Tryz.func275 (by kernel_rfl) ec rfl hn (lG h)
end Go.Gl
namespace Go.Gl
open Go.Proofs
attribute [local irreducible] Bj Bf Ba Al Aa BS Ao Aq Ac BO Ah Ap Bz CA Sat A7 B8 Be W
abbrev Sm (w:AP) (us:List Nat) (L:Nat):V:= .rp [.rp (wC w us),.m L]
def Pg (es es':List DM):Prop:= ∃new:List DM,es'=es++new∧ ∀x∈new,x.k=k0
theorem Pg.refl (es:List DM):Pg es es:=⟨[],by simp,by simp⟩
theorem Pg.trans {a b c:List DM} (h1:Pg a b) (h2:Pg b c):Pg a c:=by
 obtain⟨x,rfl,hx⟩:=h1;obtain⟨y,rfl,hy⟩:=h2;refine⟨x++y,by simp,fun z hz=>?_⟩;rcases Fo.1 hz with h|h
 ·exact hx z h
 ·exact hy z h
theorem Pg.mem {a b:List DM} (h:Pg a b) {e:DM} (he:e∈a):e∈b:=by
 obtain⟨x,rfl,_⟩:=h;exact Uv _ he
structure sH (kf:Int→List Int→Kn) (es es':List DM) (a:Int) (p:List Int) (e:DM):Prop where
 inv:EC kf es'
 ext:Pg es es'
 mem:e∈es'
 is:e.is a p=true
theorem sH.k {kf:Int→List Int→Kn} {es es':List DM} {a:Int} {p:List Int} {e:DM} (h:sH kf es es' a p e):e.k=kf a p:=by
 have:=h.inv.val e h.mem;obtain⟨h1,h2⟩:=KD.1 h.is;rw[this,h1,h2]
theorem Rh {σ:AH} {l:List At} (h:Sat σ l) (i:Nat) {n:Nat} {kvs:List (V×V)} {ks:KS} {z vk:V} {ok:Bool} {o:Option V} (hi:l[i]? =some (.map n kvs)) (hk:Bb ks vk=true) (hks: ∀kv∈kvs,Bb ks kv.1=true) (hf:Cr vk kvs=o) {K:V→Prop} (h':K (found z ok o)) :
 Ah σ ks z ok (.m n) vk K:=SF h i hi hk hks (hf ▸ h')
theorem Ku (w:AP) (us:List Nat) {kf:Int→List Int→Kn} {L:Nat} {es:List DM} (h:EC kf es) {a:Int} {p:List Int} (hp:p.length≤2) :
 CL Tryz.prog 275 [Sm w us L,Eg a p] (CW L es) fun r post=> ∃es' e,sH kf es es' a p e∧r= .ret (.p e.b 0)∧post=CW L es':=by
 intro σ hs;refine kQ nb ?_;unfold CW at hs;rcases lQ a p es with hn|⟨pre,e,post,rfl,he,hpre⟩
 ·have hf:=Tx hp h.len hn
  conv=>whnf
  repeat'((first|refine st ?_|(refine sq ?_;intro K U)|(refine si ?_;intro A B Y Z)|(refine Y _ _ ?_;clear Z B Y A)|(refine U _ _ ?_;clear U K)|refine dr ?_|refine⟨nb,?_⟩|refine Ls ?_|refine Rh hs 0 rfl rfl (Od _) hf ?_|refine K3 hs 1 rfl rfl (Od _) fun σ hs=>?_|(intro nn hnn;generalize hg:BI _ nn _=σ;refine Fy hg fun hs=>?_;clear hg)|fail)<;>conv=>whnf)
  simp only[List.set_cons_succ,List.set_cons_zero]at hs;change Sat σ (_:: .map L (Dy (Eg a p) (.p nn 0) (Uz es))::_)at hs;rw[aV hp nn (.l [] true) (.l [] true) k0 h.len hn]at hs;have hs2:=Ga (Ga hs 1) 1;refine AS ⟨_,⟨es++[⟨a,p,nn,.l [] true,.l [] true,k0⟩],⟨a,p,nn,.l [] true,.l [] true,k0⟩,⟨h.add hp hn _ _ _,⟨_,rfl,by simp⟩,by simp,by simp[DM.is]⟩,rfl,rfl⟩,?_⟩;unfold CW;rw[List.flatMap_append,List.flatMap_cons,List.flatMap_nil,List.append_nil];refine hs2.perm ((List.perm_middle (l₁:=[_,_,_])).trans (.cons _ (List.perm_append_comm.trans (List.Perm.append_left _ (List.reverse_perm _).symm))))
 ·have hf:=Tw hp he h.len hpre
  conv=>whnf
  repeat'((first|refine st ?_|(refine sq ?_;intro K U)|(refine si ?_;intro A B Y Z)|(refine Y _ _ ?_;clear Z B Y A)|(refine U _ _ ?_;clear U K)|refine dr ?_|refine⟨nb,?_⟩|refine IV ?_|refine Rh hs 0 rfl rfl (Od _) hf ?_|fail)<;>conv=>whnf)
  exact AS ⟨_,⟨_,e,⟨h,.refl _,by simp,he⟩,rfl,rfl⟩,hs⟩
theorem Nj (a:Int) (p:List Int) (s:Int) (hp:p.length<2):Pure Tryz.prog 276 [Eg a p,eI s] (Eg a (p++[s])):=by
 refine uo nb ?_;have hs:=Sn
 match p,hp with
 | [],_=>
   conv=>whnf
   repeat'((first|refine st ?_|(refine sq ?_;intro K U)|(refine si ?_;intro A B Y Z)|(refine Y _ _ ?_;clear Z B Y A)|(refine U _ _ ?_;clear U K)|refine⟨rfl,?_⟩|refine⟨nb,?_⟩|refine rj ?_|refine ld ?_|refine Lq fun σ hs=>?_|refine Hi fun σ hs=>?_|(intro nn hnn;generalize hg:BI _ nn _=σ;refine Fy hg fun hs=>?_;clear hg)|fail)<;>conv=>whnf)
   all_goals exact AM rfl
 | [x],_=>
   conv=>whnf
   repeat'((first|refine st ?_|(refine sq ?_;intro K U)|(refine si ?_;intro A B Y Z)|(refine Y _ _ ?_;clear Z B Y A)|(refine U _ _ ?_;clear U K)|refine⟨rfl,?_⟩|refine⟨nb,?_⟩|refine rj ?_|refine ld ?_|refine Lq fun σ hs=>?_|refine Hi fun σ hs=>?_|(intro nn hnn;generalize hg:BI _ nn _=σ;refine Fy hg fun hs=>?_;clear hg)|fail)<;>conv=>whnf)
   all_goals exact AM rfl
set_option maxHeartbeats 1000000 in
theorem xe {b:Nat} {vn vs:V} {k:Kn} (f:Fact) (c:Bool) (hl:f.op=2∨f.op=3∨f.op=4) (hc:f.op=2→0≤f.cls∧f.cls<64) (hm:k.CO<18446744073709551616) (hn:k.GX<18446744073709551616) (hno:k.no.length<1000000) (hN: -1000000000≤f.n∧f.n≤1000000000) :
 CL Tryz.prog 277 [.p b 0,.a (xF f++[.b c])] (sF b vn vs k) fun r post=>r= .ret (.t [])∧ ∃vn',post=sF b vn' vs (C6 k f c):=by
 intro σ hs;have hM:=Mx;refine um nb ?_;rw[show xF f++[V.b c]= [eI f.op,eI f.arg,.l (iL f.path) false,eI f.cls,eI f.n,.l (f.kids.map Ge) false,.b c] from rfl];have hw:IntKind.i64.wrap (f.n - 1)=f.n - 1:=wrap64 (by omega) (by omega);cases c<;>rcases hl with h2|h3|h4
 ·have hE:C6 k f false= {k with CO:=k.CO|||2 ^ f.cls.toNat}:=by rw[C6,if_pos h2,if_neg Bool.false_ne_true]
  rw[hE]
  conv=>whnf
  repeat'((first|refine st ?_|(refine sq ?_;intro K U)|(refine si ?_;intro A B Y Z)|(refine Y _ _ ?_;clear Z B Y A)|(refine U _ _ ?_;clear U K)|refine dr ?_|refine⟨rfl,?_⟩|refine ld ?_|refine Lq fun σ hs=>?_|refine IV ?_|refine Pure.use (HL _ _ hm (by omega) (by omega)) ?_|(constructor<;>intro hc<;>(try rw[hc])<;>(replace hc:=bp hc)<;>try(exfalso;omega))|fail)<;>conv=>whnf)
  exact AS ⟨_,⟨rfl,vn,rfl⟩,hs⟩
 ·have hE:C6 k f false= {k with high:=if f.n - 1<k.high then f.n - 1 else k.high,whole:=true}:=by rw[C6,if_neg (by omega),if_pos h3,if_neg Bool.false_ne_true]
  rw[hE]
  conv=>whnf
  repeat'((first|refine st ?_|(refine sq ?_;intro K U)|(refine si ?_;intro A B Y Z)|(refine Y _ _ ?_;clear Z B Y A)|(refine U _ _ ?_;clear U K)|refine dr ?_|refine⟨rfl,?_⟩|refine ld ?_|refine Lq fun σ hs=>?_|refine IV ?_|(constructor<;>intro hc<;>(try rw[hc])<;>(replace hc:=bp hc)<;>try(exfalso;omega))|fail)<;>conv=>whnf)
  rw[hw]at hs;exact AS ⟨_,⟨rfl,vn,rfl⟩,hs⟩
 ·have hE:C6 k f false= {k with low:=if f.n > k.low then f.n else k.low,high:=if f.n<k.high then f.n else k.high,whole:=true}:=by rw[C6,if_neg (by omega),if_neg (by omega),if_neg Bool.false_ne_true]
  rw[hE]
  conv=>whnf
  repeat'((first|refine st ?_|(refine sq ?_;intro K U)|(refine si ?_;intro A B Y Z)|(refine Y _ _ ?_;clear Z B Y A)|(refine U _ _ ?_;clear U K)|refine dr ?_|refine rk ?_ ?_|exact fun s e=>by cases e;rfl|refine⟨rfl,?_⟩|refine ld ?_|refine Lq fun σ hs=>?_|(constructor<;>intro hc<;>(try rw[hc])<;>(replace hc:=bp hc)<;>try(exfalso;omega))|fail)<;>conv=>whnf)
  exact AS ⟨_,⟨rfl,vn,rfl⟩,hs⟩
 ·have hE:C6 k f true= {k with GX:=k.GX|||2 ^ f.cls.toNat}:=by rw[C6,if_pos h2,if_pos rfl]
  rw[hE]
  conv=>whnf
  repeat'((first|refine st ?_|(refine sq ?_;intro K U)|(refine si ?_;intro A B Y Z)|(refine Y _ _ ?_;clear Z B Y A)|(refine U _ _ ?_;clear U K)|refine dr ?_|refine⟨rfl,?_⟩|refine ld ?_|refine Lq fun σ hs=>?_|refine Ls ?_|refine Pure.use (HL _ _ hn (by omega) (by omega)) ?_|(constructor<;>intro hc<;>(try rw[hc])<;>(replace hc:=bp hc)<;>try(exfalso;omega))|fail)<;>conv=>whnf)
  exact AS ⟨_,⟨rfl,vn,rfl⟩,hs⟩
 ·have hE:C6 k f true= {k with low:=if f.n > k.low then f.n else k.low}:=by rw[C6,if_neg (by omega),if_pos h3,if_pos rfl]
  rw[hE]
  conv=>whnf
  repeat'((first|refine st ?_|(refine sq ?_;intro K U)|(refine si ?_;intro A B Y Z)|(refine Y _ _ ?_;clear Z B Y A)|(refine U _ _ ?_;clear U K)|refine dr ?_|refine⟨rfl,?_⟩|refine ld ?_|refine Lq fun σ hs=>?_|refine Ls ?_|(constructor<;>intro hc<;>(try rw[hc])<;>(replace hc:=bp hc)<;>try(exfalso;omega))|fail)<;>conv=>whnf)
  exact AS ⟨_,⟨rfl,vn,rfl⟩,hs⟩
 ·have hE:C6 k f true= {k with no:=k.no++[f.n]}:=by rw[C6,if_neg (by omega),if_neg (by omega),if_pos rfl]
  rw[hE]
  conv=>whnf
  repeat'((first|refine st ?_|(refine sq ?_;intro K U)|(refine si ?_;intro A B Y Z)|(refine Y _ _ ?_;clear Z B Y A)|(refine U _ _ ?_;clear U K)|refine dr ?_|refine⟨rfl,?_⟩|refine ld ?_|refine Lq fun σ hs=>?_|refine aq fun v σ hs hsl=>?_|(constructor<;>intro hc<;>(try rw[hc])<;>(replace hc:=bp hc)<;>try(exfalso;omega))|fail)<;>conv=>whnf)
  exact AS ⟨_,⟨rfl,_,rfl⟩,hs⟩
theorem HG {σ:AH} {X:List At} {L:Nat} {pre post:List DM} {e:DM} (h:Sat σ (X++CW L (pre++e::post))):Sat σ (.box e.b [eI e.k.low,eI e.k.high,e.vn,eU e.k.CO,eU e.k.GX,.b e.k.whole,.b e.k.A8,e.vs]:: .own e.vn 1 (iL e.k.no):: .own e.vs 1 (iL e.k.AN)::(X++HE L (pre++e::post) pre post)):=by
 have h2:Sat σ (TI e++(X++HE L (pre++e::post) pre post)):=h.perm ((List.Perm.append_left X (Tz L pre post e)).trans (by rw[←WU,←WU];exact List.perm_append_comm.append_right _));exact h2
theorem EZ {σ:AH} {X:List At} {L:Nat} {pre post:List DM} {e e':DM} (h1:e'.a=e.a) (h2:e'.p=e.p) (h3:e'.b=e.b) (h:Sat σ (TI e'++(X++HE L (pre++e::post) pre post))):Sat σ (X++CW L (pre++e'::post)):=by
 rw[←SU h1 h2 h3]at h;exact h.perm ((List.Perm.append_left X (Tz L pre post e')).trans (by rw[←WU,←WU];exact List.perm_append_comm.append_right _)).symm
theorem Mn {α:Type} (a b c:α) (l:List α):(a::b::c::l).Perm (b::c::a::l):=(List.Perm.swap _ _ _).trans (.cons _ (.swap _ _ _))
theorem MT {α:Type} (a:α) (l:List α):(a::l).Perm (l++[a]):=(List.perm_append_singleton a l).symm
def lE (m:Nat) (k:Kn):Prop:=k.CO<18446744073709551616∧k.GX<18446744073709551616∧k.no.length≤m∧k.AN.length≤m
theorem fV (f:Fact) (c:Bool) (j:Nat) (a:Int) (p:List Int) (k:Kn):(Du f c j a p k).CO=k.CO:=by unfold Du;(repeat' split)<;>rfl
theorem tN (f:Fact) (c:Bool) (j:Nat) (a:Int) (p:List Int) (k:Kn):(Du f c j a p k).GX=k.GX:=by unfold Du;(repeat' split)<;>rfl
theorem ze (f:Fact) (c:Bool) (j:Nat) (a:Int) (p:List Int) (k:Kn):(Du f c j a p k).no=k.no:=by unfold Du;(repeat' split)<;>rfl
theorem cN (f:Fact) (c:Bool) (j:Nat) (a:Int) (p:List Int) (k:Kn):(Du f c j a p k).AN.length≤k.AN.length+1:=by
 unfold Du
 repeat' split
 ·exact Qv _ _
 all_goals simp[Dw]
theorem zd {m:Nat} {k:Kn} (h:lE m k) (f:Fact) (c:Bool) (j:Nat) (a:Int) (p:List Int):lE (m+1) (Du f c j a p k):=by
 obtain⟨h1,h2,h3,h4⟩:=h;refine⟨by rw[fV];exact h1,by rw[tN];exact h2,by rw[ze];omega,?_⟩;have:=cN f c j a p k;omega
theorem QS {k:Kn} (c:Bool) (h:k.A8=true):Dw k c= {k with A8:=true}:=by simp[Dw,h]
theorem PB {k:Kn} (c:Bool) (h:k.A8=false):Dw k c= {k with A8:= !c}:=by simp[Dw,h]
abbrev Kg (a:Int) (p:List Int):List V:=[eI a,eI (p.length:Int),eI (p.getD 0 0),eI (p.getD 1 0)]
structure Z1 (f:Fact):Prop where
 op:f.op=2∨f.op=3∨f.op=4
 path:f.path.length≤2
 cls:f.op=2→0≤f.cls∧f.cls<64
 n: -1000000000≤f.n∧f.n≤1000000000
set_option maxHeartbeats 2000000 in
theorem k9 (w : AP) (us:List Nat) {kf:Int→List Int→Kn} {L:Nat} {es:List DM} (h:EC kf es) (f:Fact) (c:Bool) (hl:Z1 f) {m:Nat} (hm:m<1000) (hb: ∀a p,lE m (kf a p)) :
 CL Tryz.prog 259 [Sm w us L,.a (xF f++[.b c])] (CW L es) fun r post=>r= .ret (.t [])∧ ∃es',EC (fun a p=>if a=f.arg∧p=f.path then C6 (Du f c f.path.length a p (kf a p)) f c else Du f c f.path.length a p (kf a p)) es'∧post=CW L es':=by
 intro σ hs;have hM:=Mx;obtain⟨l1,l2,l3,l4⟩:=hl;refine vA nb ?_;rw[show xF f++[V.b c]= [eI f.op,eI f.arg,.l (iL f.path) false,eI f.cls,eI f.n,.l (f.kids.map Ge) false,.b c] from rfl]
 conv=>whnf
 repeat'((first|refine st ?_|(refine sq ?_;intro K U)|(refine si ?_;intro A B Y Z)|(refine Y _ _ ?_;clear Z B Y A)|(refine U _ _ ?_;clear U K)|refine⟨nb,?_⟩|refine ld ?_|refine Hi fun σ hs=>?_|(intro nn hnn;generalize hg:BI _ nn _=σ;refine Fy hg fun hs=>?_;clear hg)|fail)<;>conv=>whnf)
 generalize nn=nx at *;refine(Ku w us h (a:=f.arg) (p:=[]) (by simp)).use (rest:=[.box nx (Kg f.arg [])]) (hs.perm (MT _ _)) ?_;clear hs hnn;rintro r post σ ⟨es1,e1,got,rfl,rfl⟩ hs;have hek:=got.k;obtain⟨hea,hep⟩:=KD.1 got.is;obtain⟨pre,post,rfl⟩:=List.append_of_mem got.mem;replace hs:=HG (X:=[.box nx (Kg f.arg [])]) (hs.perm List.perm_append_comm);cases hnd:e1.k.A8<;>rw[hnd]at hs
 all_goals
  conv=>whnf
  repeat'((first|refine st ?_|(refine sq ?_;intro K U)|(refine si ?_;intro A B Y Z)|(refine Y _ _ ?_;clear Z B Y A)|(refine U _ _ ?_;clear U K)|refine ld ?_|refine Lq fun σ hs=>?_|fail)<;>conv=>whnf)
  obtain⟨e2,es2,Y,Z,hC⟩: ∃(e2:DM) (es2:List DM),(EC (fun a p=>Du f c 0 a p (kf a p)) es2∧e2∈es2∧e2.is f.arg (f.path.take 0)=true)∧e2.b=e1.b∧Sat σ (.box nx (Kg f.arg (f.path.take 0))::CW L es2):=by
   refine⟨⟨e1.a,e1.p,e1.b,e1.vn,e1.vs,Dw e1.k c⟩,_,⟨(got.inv.change e1.b e1.vn e1.vs (Dw e1.k c)).congr fun a p=>?_,WV _ (.head _),got.is⟩,rfl,?_⟩
   ·rw[fT,Sr,hea,hep,hek]
    by_cases ha:a=f.arg∧p= []
    ·rw[if_pos ha,if_pos ha,ha.1,ha.2]
    ·rw[if_neg ha,if_neg ha]
   ·refine EZ (X:=[.box nx (Kg f.arg [])]) (e:=e1) rfl rfl rfl ?_
    first
     | (rw[QS c hnd];exact hs)
     | (rw[PB c hnd];exact hs)
  rw[←Z];clear hs hnd got hek hea hep;refine C5 f.path.length (fun j (x:List DM×DM)=>[(31,eI (Bw j)),(5,.p x.2.b 0)]) (fun j x=> .box nx (Kg f.arg (f.path.take j))::CW L x.1) (fun j x=>EC (fun a p=>Du f c j a p (kf a p)) x.1∧x.2∈x.1∧x.2.is f.arg (f.path.take j)=true) (es2,e2) rfl Y hC ?_;clear Y hC;generalize e2.b=b0 at *;clear Z e2 es2;rintro j ⟨es2,e2⟩ σ hj ⟨hinv,hmem,his⟩ hs;simp only at hinv hmem his hs
  have hek:e2.k=Du f c j f.arg (f.path.take j) (kf f.arg (f.path.take j)):=by
   have:=hinv.val e2 hmem;obtain⟨h1,h2⟩:=KD.1 his;rw[this,h1,h2]
  have hok:lE (m+1) e2.k:=by rw[hek];exact zd (hb _ _) f c j _ _
  obtain⟨hea,hep⟩:=KD.1 his;obtain⟨pre2,post2,rfl⟩:=List.append_of_mem hmem;replace hs:=HG (X:=[.box nx (Kg f.arg (f.path.take j))]) hs;have hck:Bw j=j:=AU (by omega);rcases B0 f.path hj with⟨s,hsj,hjlt⟩|hje
  ·have hct:=fun b=>D6 e2.k.AN b s
   have hk4:=hok.2.2.2;have hsl0:dM e2.k s= {e2.k with AN:=Iv e2.k.AN s}:=rfl
   have hne:f.path.take j++[s]≠f.path.take j:=by
    intro e;have:=congrArg List.length e;simp at this
   have hgd:f.path.getD j 0=s:=by rw[E9,hsj];rfl
   have htk:f.path.take (j+1)=f.path.take j++[s]:=AR hsj;cases hcB:e2.k.AN.contains s
   all_goals
    rw[hcB]at hct
    conv=>whnf
    repeat'((first|refine st ?_|(refine sq ?_;intro K U)|(refine si ?_;intro A B Y Z)|(refine Y _ _ ?_;clear Z B Y A)|(refine U _ _ ?_;clear U K)|refine⟨rfl,?_⟩|refine⟨nb,?_⟩|refine ix ?_|refine ld ?_|refine Lq fun σ hs=>?_|refine Hi fun σ hs=>?_|refine aq fun v σ hs hsl=>?_|refine Ls ?_|refine IV ?_|(refine Et (fun hc=>?_)<;>(try rw[hc])<;>clear hc)|refine Pure.X1 (hct false) (.cons (hs.I9 2 rfl) (.cons (.refl _) .nil)) rfl ?_|refine Pure.use (Nj f.arg (f.path.take j) s (by rw[PZ];omega)) ?_|fail)<;>conv=>whnf)
   refine(lL (.inl hsl)).use (rest:=_) (hs.front (j:=2) rfl) ?_;clear hs;rintro r post σ ⟨rfl,rfl⟩ hs;replace hs:Sat σ (.box e2.b [eI e2.k.low,eI e2.k.high,e2.vn,eU e2.k.CO,eU e2.k.GX,.b e2.k.whole,.b e2.k.A8,v]:: .own e2.vn 1 (iL e2.k.no):: .own v 1 (iL ((e2.k.AN++[s]).mergeSort Nx))::([.box nx (Kg f.arg (f.path.take j))]++HE L (pre2++e2::post2) pre2 post2)):=hs.perm (Mn _ _ _ _)
   conv=>whnf
   repeat'((first|(refine sq ?_;intro K U)|(refine si ?_;intro A B Y Z)|(refine Y _ _ ?_;clear Z B Y A)|(refine U _ _ ?_;clear U K)|refine⟨nb,?_⟩|refine ld ?_|refine Hi fun σ hs=>?_|refine Pure.use (Nj f.arg (f.path.take j) s (by rw[PZ];omega)) ?_|fail)<;>conv=>whnf)
   have hs3: ∃vs3,Sat σ (.box nx (Kg f.arg (f.path.take j++[s]))::CW L (pre2++⟨e2.a,e2.p,e2.b,e2.vn,vs3,dM e2.k s⟩::post2)):=⟨v,EZ (X:=[_]) (e:=e2) rfl rfl rfl (by rw[hsl0,Iv,if_neg (by rw[hcB];decide)];exact hs)⟩
   rotate_left
   have hs3: ∃vs3,Sat σ (.box nx (Kg f.arg (f.path.take j++[s]))::CW L (pre2++⟨e2.a,e2.p,e2.b,e2.vn,vs3,dM e2.k s⟩::post2)):=⟨e2.vs,EZ (X:=[_]) (e:=e2) rfl rfl rfl (by rw[hsl0,Iv,if_pos hcB];exact hs)⟩
   all_goals
    clear hs;obtain⟨vs3,hs⟩:=hs3;have hinv3:=hinv.change e2.b e2.vn vs3 (dM e2.k s);refine(Ku w us hinv3 (a:=f.arg) (p:=f.path.take j++[s]) (by rw[Sl,PZ];simp;omega)).use (rest:=[.box nx (Kg f.arg (f.path.take j++[s]))]) (hs.perm (MT _ _)) ?_;clear hs;rintro r post σ ⟨es4,e4,got,rfl,rfl⟩ hs;have hek4:=got.k;obtain⟨hea4,hep4⟩:=KD.1 got.is;obtain⟨pre4,post4,rfl⟩:=List.append_of_mem got.mem;replace hs:=HG (X:=[.box nx (Kg f.arg (f.path.take j++[s]))]) (hs.perm List.perm_append_comm);cases hnd:e4.k.A8<;>rw[hnd]at hs
    all_goals
     conv=>whnf
     repeat'((first|refine st ?_|(refine si ?_;intro A B Y Z)|(refine Y _ _ ?_;clear Z B Y A)|(refine U _ _ ?_;clear U K)|refine⟨rfl,?_⟩|refine ld ?_|refine Lq fun σ hs=>?_|clear U K)<;>conv=>whnf)
     refine⟨hjlt,(pre4++⟨e4.a,e4.p,e4.b,e4.vn,e4.vs,Dw e4.k c⟩::post4,⟨e4.a,e4.p,e4.b,e4.vn,e4.vs,Dw e4.k c⟩),rfl,⟨(got.inv.change e4.b e4.vn e4.vs (Dw e4.k c)).congr fun a p=>?_,WV _ (.head _),by rw[htk];exact got.is⟩,?_⟩
     ·rw[fU f c hjlt,Sr,hea4,hep4,htk,hgd]
      by_cases h1:a=f.arg∧p=f.path.take j++[s]
      ·rw[if_pos h1,if_pos h1,hek4,Sr,hea,hep,if_neg (fun h=>hne h.2),h1.1,h1.2]
      ·rw[if_neg h1,if_neg h1,Sr,hea,hep]
       by_cases h2:a=f.arg∧p=f.path.take j
       ·rw[if_pos h2,if_pos h2,hek,h2.1,h2.2]
       ·rw[if_neg h2,if_neg h2]
     ·rw[htk]
      refine EZ (X:=[.box nx (Kg f.arg (f.path.take j++[s]))]) (e:=e4) rfl rfl rfl ?_
      first
       | (rw[QS c hnd];exact hs)
       | (rw[PB c hnd];exact hs)
  ·have etk:f.path.take j=f.path:=A5 hje
   rw[etk]at his hs hek hep
   conv=>whnf
   repeat'((first|refine st ?_|(refine sq ?_;intro K U)|(refine si ?_;intro A B Y Z)|(refine Y _ _ ?_;clear Z B Y A)|(refine U _ _ ?_;clear U K)|refine⟨rfl,?_⟩|refine⟨nb,?_⟩|(refine F4 (fun hc=>?_)<;>(try rw[hc])<;>clear hc)|clear U K)<;>conv=>whnf)
   refine(xe f c l1 l3 hok.1 hok.2.1 (by have:=hok.2.2.1;omega) l4).use (rest:=[.box nx (Kg f.arg f.path)]++HE L (pre2++e2::post2) pre2 post2) hs ?_;rintro r post σ ⟨rfl,vn',rfl⟩ hs
   conv=>whnf
   repeat'((first|(refine Y _ _ ?_;clear Z B Y A)|fail)<;>conv=>whnf)
   refine AS ⟨_,⟨rfl,_,(hinv.change e2.b vn' e2.vs (C6 e2.k f c)).congr fun a p=>?_,rfl⟩,(EZ (X:=[.box nx (Kg f.arg f.path)]) (e:=e2) (e':=⟨e2.a,e2.p,e2.b,vn',e2.vs,C6 e2.k f c⟩) rfl rfl rfl hs).less (List.sublist_cons_self _ _)⟩;rw[Sr,hea,hep,hek,←hje];by_cases h1:a=f.arg∧p=f.path
   ·rw[if_pos h1,if_pos h1,h1.1,h1.2]
   ·rw[if_neg h1,if_neg h1]
theorem xj (w:AP) (us:List Nat) {kf:Int→List Int→Kn} {L:Nat} {es:List DM} (h:EC kf es) (l:Fact) (hl:Z1 (BV l).1) {m:Nat} (hm:m<1000) (hb: ∀a p,lE m (kf a p)) :
 CL Tryz.prog 259 [Sm w us L,.a (J1 l)] (CW L es) fun r post=>r= .ret (.t [])∧ ∃es',EC (fun a p=>DR a p (kf a p) l) es'∧post=CW L es':=fun σ hs=>
 Bj.mono (k9 w us h (BV l).1 (BV l).2 hl hm hb σ hs) fun r σ' ⟨post,⟨h1,es',h2,h3⟩,h4⟩=>⟨post,⟨h1,es',h2.congr fun a p=>(tP a p (kf a p) l).symm,h3⟩,h4⟩
def VW (ls:List Fact):Prop:= ∀l∈ls,Z1 (BV l).1
theorem aW {ls:List Fact} (h:VW ls) (a:Int) (p:List Int):lE ls.length (kn ls a p):=by
 have hc:Ik 64 ls:=fun l hl ho=>(h l hl).cls ho
 obtain⟨h1,h2⟩:=fX hc a p;obtain⟨h3,h4⟩:=aX a p ls k0;exact⟨by simpa using h1,by simpa using h2,by simpa[kn,k0]using h3,by simpa[kn,k0]using h4⟩
theorem inv0:EC (kn []) []:=⟨fun x hx=>(by cases hx),fun a p _=>rfl,.nil,fun x hx=>(by cases hx)⟩
set_option maxHeartbeats 1000000 in
theorem bf (w:AP) (us:List Nat) (ls:List Fact) (b:Bool) (h:VW ls) (hlen:ls.length<900) :
 CL Tryz.prog 230 [.rp (wC w us),.l (E5 ls) b] [] fun r post=> ∃L es,r= .ret (Sm w us L)∧EC (kn ls) es∧post=CW L es:=by
 intro σ hs;have hM:=Mx;refine vS nb ?_
 conv=>whnf
 repeat'((first|refine st ?_|(refine sq ?_;intro K U)|(refine si ?_;intro A B Y Z)|(refine Y _ _ ?_;clear Z B Y A)|(refine U _ _ ?_;clear U K)|(intro nn hnn;generalize hg:BI _ nn _=σ;refine Fy hg fun hs=>?_;clear hg)|fail)<;>conv=>whnf)
 generalize nn=L at *;refine C5 ls.length (fun k (x:List DM)=>[(14,eI (Bw k))]) (fun k x=>CW L x) (fun k x=>EC (kn (ls.take k)) x) [] rfl inv0 hs ?_;clear hs hnn;rintro k es σ hk hinv hs;rcases B0 ls hk with⟨l,hlk,hlt⟩|hke
 ·have hlm:l∈ls:=DL hlk
  have htk:ls.take (k+1)=ls.take k++[l]:=AR hlk;have hbk: ∀a p,lE (ls.take k).length (kn (ls.take k) a p):=aW fun x hx=>h x (List.mem_of_mem_take hx)
  conv=>whnf
  repeat'((first|refine st ?_|(refine sq ?_;intro K U)|(refine si ?_;intro A B Y Z)|(refine Y _ _ ?_;clear Z B Y A)|(refine U _ _ ?_;clear U K)|refine⟨rfl,?_⟩|refine⟨nb,?_⟩|refine ix ?_|refine ld ?_|refine Hi fun σ hs=>?_|(refine Et (fun hc=>?_)<;>(try rw[hc])<;>clear hc)|(intro nn hnn;generalize hg:BI _ nn _=σ;refine Fy hg fun hs=>?_;clear hg)|fail)<;>conv=>whnf)
  rename_i nb hnb _ hs;generalize nn=n7 at *;refine(xj w us hinv l (h l hlm) (m:=(ls.take k).length) (by rw[PZ];omega) hbk).use (rest:=[.box n7 (J1 l)]) (hs.perm (MT _ _)) ?_;clear hs;rintro r post σ ⟨rfl,es',hinv',rfl⟩ hs
  conv=>whnf
  repeat'((first|(refine si ?_;intro A B Y Z)|(refine Y _ _ ?_;clear Z B Y A)|(refine U _ _ ?_;clear U K)|refine⟨rfl,?_⟩|clear U K)<;>conv=>whnf)
  refine⟨hlt,es',rfl,?_,hs.less (List.sublist_append_left _ _)⟩;rw[htk];exact hinv'.congr fun a p=>(fW _ _ _ _).symm
 ·have etk:ls.take k=ls:=A5 hke
  rw[etk]at hinv
  conv=>whnf
  repeat'((first|refine st ?_|(refine sq ?_;intro K U)|(refine si ?_;intro A B Y Z)|(refine Y _ _ ?_;clear Z B Y A)|(refine U _ _ ?_;clear U K)|refine⟨rfl,?_⟩|(refine F4 (fun hc=>?_)<;>(try rw[hc])<;>clear hc)|clear U K)<;>conv=>whnf)
  exact AS ⟨_,⟨L,es,rfl,hinv,rfl⟩,hs⟩
structure Iw (w:AP) (kf:Int→List Int→Kn):Prop where
 ok: ∀a p,lE 1000 (kf a p)
 low: ∀a p,-1000000000≤(kf a p).low∧(kf a p).low≤1000000000
 short: ∀a p,2≤p.length→(kf a p).AN= []
 AN: ∀a p,∀s∈(kf a p).AN,0≤s∧s<w.owner.length
abbrev Hx (L:Nat) (pre post:List DM) (e:DM) (s:List DM):List At:=
 .box e.b [eI e.k.low,eI e.k.high,e.vn,eU e.k.CO,eU e.k.GX,.b e.k.whole,.b e.k.A8,e.vs]:: .own e.vn 1 (iL e.k.no)::HE L (pre++e::(post++s)) pre (post++s)
theorem x5 {σ:AH} {L:Nat} {pre post:List DM} {e:DM} {s:List DM} (h:Sat σ (CW L (pre++e::(post++s)))):Sat σ (.own e.vs 1 (iL e.k.AN)::Hx L pre post e s):=
 (HG (X:=[]) h).perm ((Mn _ _ _ _).symm)
theorem r5 {σ:AH} {L:Nat} {pre post:List DM} {e:DM} {s:List DM} (h:Sat σ (.own e.vs 1 (iL e.k.AN)::Hx L pre post e s)):Sat σ (CW L (pre++e::(post++s))):=
 EZ (X:=[]) (e:=e) (e':=e) rfl rfl rfl (h.perm (Mn _ _ _ _))
def OB (kf:Int→List Int→Kn) (L:Nat) (es:List DM) (post:List At):Prop:= ∃es',Pg es es'∧EC kf es'∧post=CW L es'
theorem kC (w:AP) (us:List Nat) {kf:Int→List Int→Kn} {L:Nat} {pre post:List DM} {e:DM} {a:Int} {p:List Int} (hp:p.length<2) :
 Mt Tryz.prog (.f (.func 290) [] [.rp [Sm w us L],.rp (Kg a p)]) eI (fun s=> .own e.vs 1 (iL e.k.AN)::Hx L pre post e s) (fun y=> !(kf a (p++[y])).A8) (fun s=>EC kf (pre++e::(post++s))∧ ∀x∈s,x.k=k0) (fun _=>True):=by
 rintro y s - ⟨hj,hj0⟩ σ hs;refine C1 ?_;show Bj Tryz.prog 290 ([]++[eI y]++[.rp [Sm w us L],.rp (Kg a p)]) σ _;refine uZ nb ?_
 conv=>whnf
 repeat'((first|refine st ?_|(refine sq ?_;intro K U)|(refine si ?_;intro A B Y Z)|(refine Y _ _ ?_;clear Z B Y A)|(refine U _ _ ?_;clear U K)|refine dr ?_|refine rk ?_ ?_|exact fun s e=>by cases e;rfl|refine⟨nb,?_⟩|refine Pure.use (Nj a p y hp) ?_|fail)<;>conv=>whnf)
 refine(Ku w us hj (a:=a) (p:=p++[y]) (by simp;omega)).use (rest:=[]) (by simpa using r5 hs) ?_;clear hs;rintro r post' σ ⟨es4,e4,got,rfl,rfl⟩ hs;have hek4:=got.k;obtain⟨new,he4,hnew⟩:=got.ext;have hinv:=got.inv;obtain⟨pre4,post4,he5⟩:=List.append_of_mem got.mem;rw[List.append_nil,he5]at hs;replace hs:=HG (X:=[]) hs
 conv=>whnf
 repeat'((first|refine st ?_|(refine Y _ _ ?_;clear Z B Y A)|(refine U _ _ ?_;clear U K)|refine dr ?_|refine ld ?_|fail)<;>conv=>whnf)
 refine AS ⟨by rw[hek4],s++new,⟨?_,fun x hx=>?_⟩,?_⟩
 ·rw[he4]at hinv
  simpa using hinv
 ·rcases Fo.1 hx with hx|hx
  ·exact hj0 x hx
  ·exact hnew x hx
 ·have h2:=EZ (X:=[]) (e:=e4) (e':=e4) rfl rfl rfl hs
  rw[←he5,he4]at h2;refine x5 ?_;simpa using h2
theorem kD (w:AP) (us:List Nat) {kf:Int→List Int→Kn} (hr:Iw w kf) {L:Nat} {es:List DM} (h:EC kf es) {a:Int} {p:List Int} (hp:p.length≤2) :
 CL Tryz.prog 288 [Sm w us L,Eg a p] (CW L es) fun r post=>r= .ret (.b (OD kf a p))∧OB kf L es post:=by
 intro σ hs;have hM:=Mx;refine ub nb ?_
 conv=>whnf
 repeat'((first|refine st ?_|(refine sq ?_;intro K U)|(refine si ?_;intro A B Y Z)|(refine Y _ _ ?_;clear Z B Y A)|(refine U _ _ ?_;clear U K)|refine⟨nb,?_⟩|fail)<;>conv=>whnf)
 refine(Ku w us h (a:=a) (p:=p) hp).use (rest:=[]) (by simpa using hs) ?_;clear hs;rintro r post σ ⟨es4,e4,got,rfl,rfl⟩ hs;have hek:=got.k;obtain⟨pre,post,rfl⟩:=List.append_of_mem got.mem;rw[List.append_nil]at hs;replace hs:=HG (X:=[]) hs;have hsl:=(hr.ok a p).2.2.2;have hsh:=hr.short a p;rw[←hek]at hsl hsh
 have hst:p.length<2∨e4.k.AN= []:=by
  rcases Nat.lt_or_ge p.length 2 with h'|h'
  ·exact .inl h'
  ·exact .inr (hsh h')
 have hE:OD kf a p=e4.k.AN.all fun y=> !(kf a (p++[y])).A8:=by rw[OD,hek]
 conv=>whnf
 repeat'((first|refine ld ?_|fail)<;>conv=>whnf)
 have hall:CL Tryz.prog 177 [e4.vs,.f (.func 290) [] [.rp [Sm w us L],.rp (Kg a p)]] (.own e4.vs 1 (iL e4.k.AN)::Hx L pre post e4 []) fun r post'=>r= .ret (.b (e4.k.AN.all fun y=> !(kf a (p++[y])).A8))∧ ∃s',(EC kf (pre++e4::(post++s'))∧ ∀x∈s',x.k=k0)∧post'= .own e4.vs 1 (iL e4.k.AN)::Hx L pre post e4 s':=by
  rcases hst with h'|h'
  ·exact Xj 290 [] [.rp [Sm w us L],.rp (Kg a p)] (Hx L pre post e4) _ _ _ (kC w us h') (fun _ _=>trivial) (by omega) [] ⟨by simpa using got.inv,by simp⟩
  ·exact Xj 290 [] [.rp [Sm w us L],.rp (Kg a p)] (Hx L pre post e4) _ _ (fun _=>False) (fun y s hf=>hf.elim) (fun x hx=>by rw[h']at hx;cases hx) (by omega) [] ⟨by simpa using got.inv,by simp⟩
 refine hall.use (rest:=[]) (by
  have h2:=x5 (L:=L) (pre:=pre) (post:=post) (e:=e4) (s:=[]) (by simpa using EZ (X:=[]) (e:=e4) (e':=e4) rfl rfl rfl hs)
  simpa using h2) ?_
 clear hs;rintro r post' σ ⟨rfl,s',⟨hi,hn⟩,rfl⟩ hs
 conv=>whnf
 repeat'((first|refine st ?_|(refine Y _ _ ?_;clear Z B Y A)|(refine U _ _ ?_;clear U K)|fail)<;>conv=>whnf)
 refine AS ⟨_,⟨by rw[hE],pre++e4::(post++s'),got.ext.trans ⟨s',by simp,hn⟩,hi,rfl⟩,r5 (by simpa using hs)⟩
theorem dI {m u:Nat} (hm:m<18446744073709551616):(N7 m u=0)↔Pd m u=true:=by
 rw[OX (by simpa using hm)];constructor
 ·intro h b hb
  have hlt:b<64:=by
   rcases Nat.lt_or_ge b 64 with h'|h'
   ·exact h'
   ·rw[Nat.testBit_lt_two_pow (Nat.lt_of_lt_of_le hm (by simpa using Nat.pow_le_pow_right (n:=2) (by decide) h'))]at hb;cases hb
  have:=Oo (a:=m) (b:=u) hlt;rw[h,Nat.zero_testBit,hb]at this;simpa using this
 ·intro h
  refine Nat.eq_of_testBit_eq fun i=>?_
  rw[Nat.zero_testBit];rcases Nat.lt_or_ge i 64 with hlt|hge
  ·rw[Oo hlt]
   cases hb:m.testBit i with
   | false=>rfl
   | true=>rw[h i hb];rfl
  ·exact Nat.testBit_lt_two_pow (Nat.lt_of_lt_of_le (SQ _ _) (by simpa using Nat.pow_le_pow_right (n:=2) (by decide) hge))
theorem Tm (w:AP) (us:List Nat) {kf:Int→List Int→Kn} (hr:Iw w kf) {L:Nat} {es:List DM} (h:EC kf es) {a:Int} {p:List Int} (hp:p.length≤2) (c:Nat) (hc:c<64) :
 CL Tryz.prog 284 [Sm w us L,Eg a p,eI c] (CW L es) fun r post=>r= .ret (.b (Ho kf a p c))∧OB kf L es post:=by
 intro σ hs;refine ue nb ?_
 conv=>whnf
 repeat'((first|refine st ?_|(refine sq ?_;intro K U)|(refine si ?_;intro A B Y Z)|(refine Y _ _ ?_;clear Z B Y A)|(refine U _ _ ?_;clear U K)|refine⟨nb,?_⟩|fail)<;>conv=>whnf)
 refine(Ku w us h (a:=a) (p:=p) hp).use (rest:=[]) (by simpa using hs) ?_;clear hs;rintro r post σ ⟨es4,e4,got,rfl,rfl⟩ hs;have hek:=got.k;obtain⟨pre,post,rfl⟩:=List.append_of_mem got.mem;rw[List.append_nil]at hs;replace hs:=HG (X:=[]) hs;have hok:=hr.ok a p;rw[←hek]at hok;have hu:1|||2 ^ c<18446744073709551616:=Ko (by decide) (J7 hc)
 have hb1:bits .andNot .u64 (e4.k.CO:Int) ((1|||2 ^ c:Nat):Int)=((N7 e4.k.CO (1|||2 ^ c):Nat):Int):=Qp;have hb2:bits .and .u64 (e4.k.GX:Int) ((1|||2 ^ c:Nat):Int)=((e4.k.GX&&&(1|||2 ^ c):Nat):Int):=LW hok.2.1 hu;have hb3:=dI (u:=1|||2 ^ c) hok.1;have F:Ho kf a p c=(Pd e4.k.CO (1|||2 ^ c)&&(e4.k.GX&&&(1|||2 ^ c)==0&&OD kf a p)):=by rw[Ho,hek]
 conv=>whnf
 repeat'((first|refine st ?_|(refine sq ?_;intro K U)|(refine si ?_;intro A B Y Z)|(refine Y _ _ ?_;clear Z B Y A)|(refine U _ _ ?_;clear U K)|refine⟨rfl,?_⟩|refine⟨nb,?_⟩|refine ld ?_|refine Pure.use (Wn 1 c (by decide) hc) ?_|(constructor<;>intro hc<;>(try rw[hc])<;>(replace hc:=bp hc))|fail)<;>conv=>whnf)
 ·have h1:Pd e4.k.CO (1|||2 ^ c)=true:=hb3.1 (by omega)
  have h2:(e4.k.GX&&&(1|||2 ^ c)==0)=true:=by rw[FQ];omega
  refine(kD w us hr got.inv hp).use (rest:=[]) (by simpa using EZ (X:=[]) (e:=e4) (e':=e4) rfl rfl rfl hs) ?_;clear hs;rintro r post' σ ⟨rfl,es5,hx,hi,rfl⟩ hs
  conv=>whnf
  repeat'((first|refine st ?_|(refine Y _ _ ?_;clear Z B Y A)|(refine U _ _ ?_;clear U K)|fail)<;>conv=>whnf)
  exact AS ⟨_,⟨by rw[F,h1,h2];rfl,es5,got.ext.trans hx,hi,rfl⟩,by simpa using hs⟩
 ·have h2:(e4.k.GX&&&(1|||2 ^ c)==0)=false:=by rw[beq_eq_false_iff_ne];omega
  exact AS ⟨_,⟨by rw[F,h2];simp,_,got.ext,got.inv,rfl⟩,by simpa using EZ (X:=[]) (e:=e4) (e':=e4) rfl rfl rfl hs⟩
 ·have h1:Pd e4.k.CO (1|||2 ^ c)=false:=by
   rw[←Bool.not_eq_true,←hb3];omega
  exact AS ⟨_,⟨by rw[F,h1];simp,_,got.ext,got.inv,rfl⟩,by simpa using EZ (X:=[]) (e:=e4) (e':=e4) rfl rfl rfl hs⟩
theorem PI (w:AP) (us:List Nat) {kf:Int→List Int→Kn} (hr:Iw w kf) {L:Nat} {es:List DM} (h:EC kf es) {a:Int} {p:List Int} (hp:p.length≤2) :
 CL Tryz.prog 278 [Sm w us L,Eg a p] (CW L es) fun r post=>r= .ret (.t [eI (KA (kf a p)),.b (RJ kf a p)])∧OB kf L es post:=by
 intro σ hs;have hM:=Mx;refine uk nb ?_
 conv=>whnf
 repeat'((first|refine st ?_|(refine sq ?_;intro K U)|(refine si ?_;intro A B Y Z)|(refine Y _ _ ?_;clear Z B Y A)|(refine U _ _ ?_;clear U K)|refine⟨nb,?_⟩|fail)<;>conv=>whnf)
 refine(Ku w us h (a:=a) (p:=p) hp).use (rest:=[]) (by simpa using hs) ?_;clear hs;rintro r post σ ⟨es4,e4,got,rfl,rfl⟩ hs;have hek:=got.k;obtain⟨pre,post,rfl⟩:=List.append_of_mem got.mem;rw[List.append_nil]at hs;replace hs:=HG (X:=[]) hs;have hok:=hr.ok a p;have hlo:=hr.low a p;rw[←hek]at hok hlo;have hno:=hok.2.2.1;have hle:=XO e4.k.no e4.k.low;have hL:KA (kf a p)=IW e4.k.no (from_ e4.k.no e4.k.low) e4.k.low:=by rw[KA,←hek];exact Xk hle (Nat.le_refl _)
 conv=>whnf
 repeat'((first|refine st ?_|(refine sq ?_;intro K U)|(refine si ?_;intro A B Y Z)|(refine Y _ _ ?_;clear Z B Y A)|(refine U _ _ ?_;clear U K)|refine ld ?_|fail)<;>conv=>whnf)
 refine J2 (fun n:Int=>from_ e4.k.no n) (fun n=>[(7,eI n)]) (fun _=> .box e4.b [eI e4.k.low,eI e4.k.high,e4.vn,eU e4.k.CO,eU e4.k.GX,.b e4.k.whole,.b e4.k.A8,e4.vs]:: .own e4.vn 1 (iL e4.k.no):: .own e4.vs 1 (iL e4.k.AN)::([]++HE L (pre++e4::post) pre post)) (fun n=> -1000000000≤n∧n+from_ e4.k.no n≤1000001000∧KA (kf a p)=IW e4.k.no (from_ e4.k.no n) n) e4.k.low rfl ⟨by omega,by omega,hL⟩ hs ?_;clear hs hL hle;rintro n σ ⟨hn0,hn1,hL⟩ hs;have hct2:=fun b=>D6 e4.k.no b n
 cases hcB:e4.k.no.contains n<;>rw[hcB]at hct2
 ·have hout:n∉e4.k.no:=by simpa using hcB
  rw[k7 hout]at hL;have hI:RJ kf a p=(decide (n≤e4.k.high)&&Ho kf a p 1):=by rw[RJ,hL,hek]
  conv=>whnf
  repeat'((first|refine st ?_|(refine sq ?_;intro K U)|(refine si ?_;intro A B Y Z)|(refine Y _ _ ?_;clear Z B Y A)|(refine U _ _ ?_;clear U K)|refine⟨rfl,?_⟩|refine⟨nb,?_⟩|refine ld ?_|refine Pure.X1 (hct2 false) (.cons (hs.I9 1 rfl) (.cons (.refl _) .nil)) rfl ?_|(constructor<;>intro hc<;>(try rw[hc])<;>(replace hc:=bp hc))|clear U K)<;>conv=>whnf)
  all_goals
   have hsc:Sat σ (CW L (pre++e4::post)):=by simpa using EZ (X:=[]) (e:=e4) (e':=e4) rfl rfl rfl hs
  ·refine(Tm w us hr got.inv hp 1 (by decide)).use (rest:=[]) (by simpa using hsc) ?_
   clear hs hsc;rintro r post' σ ⟨rfl,es5,hx,hi,rfl⟩ hs
   conv=>whnf
   repeat'((first|refine st ?_|(refine Y _ _ ?_;clear Z B Y A)|(refine U _ _ ?_;clear U K)|fail)<;>conv=>whnf)
   exact AS ⟨_,⟨by rw[hL,hI,decide_eq_true (by assumption)];rfl,es5,got.ext.trans hx,hi,rfl⟩,by simpa using hs⟩
  ·exact AS ⟨_,⟨by rw[hL,hI,decide_eq_false (by omega)];rfl,_,got.ext,got.inv,rfl⟩,hsc⟩
 ·have hin:n∈e4.k.no:=by simpa using hcB
  have hlt:=SJ hin;have hwr:IntKind.i64.wrap (n+1)=n+1:=wrap64 (by omega) (by omega);obtain⟨m,hm⟩: ∃m,from_ e4.k.no n=m+1:=⟨from_ e4.k.no n - 1,by omega⟩
  have hL2:KA (kf a p)=IW e4.k.no (from_ e4.k.no (n+1)) (n+1):=by rw[hL,hm,xi hin];exact Xk (by omega) (Nat.le_refl _)
  conv=>whnf
  repeat'((first|refine st ?_|(refine sq ?_;intro K U)|(refine si ?_;intro A B Y Z)|(refine Y _ _ ?_;clear Z B Y A)|(refine U _ _ ?_;clear U K)|refine⟨rfl,?_⟩|refine ld ?_|refine Pure.X1 (hct2 false) (.cons (hs.I9 1 rfl) (.cons (.refl _) .nil)) rfl ?_|clear U K)<;>conv=>whnf)
  exact⟨n+1,hlt,by rw[hwr];rfl,⟨by omega,by omega,hL2⟩,hs⟩
theorem XD (w:AP) (us:List Nat) {kf:Int→List Int→Kn} (hr:Iw w kf) {L:Nat} {es:List DM} (h:EC kf es) {a:Int} {p:List Int} (hp:p.length≤2) :
 CL Tryz.prog 279 [Sm w us L,Eg a p] (CW L es) fun r post=>r= .ret (.b (Kp kf a p))∧OB kf L es post:=by
 intro σ hs;refine uj nb ?_
 conv=>whnf
 repeat'((first|refine st ?_|(refine sq ?_;intro K U)|(refine si ?_;intro A B Y Z)|(refine Y _ _ ?_;clear Z B Y A)|(refine U _ _ ?_;clear U K)|refine⟨nb,?_⟩|fail)<;>conv=>whnf)
 refine(Ku w us h (a:=a) (p:=p) hp).use (rest:=[]) (by simpa using hs) ?_;clear hs;rintro r post σ ⟨es4,e4,got,rfl,rfl⟩ hs;have hek:=got.k;obtain⟨pre,post,rfl⟩:=List.append_of_mem got.mem;rw[List.append_nil]at hs;have hsc:=hs;replace hs:=HG (X:=[]) hs;have hN:Kp kf a p=(!e4.k.whole&&Ho kf a p 2):=by rw[Kp,hek]
 cases hw:e4.k.whole<;>rw[hw]at hs hN
 ·conv=>whnf
  repeat'((first|refine st ?_|refine⟨nb,?_⟩|refine ld ?_|refine Ls ?_|fail)<;>conv=>whnf)
  refine(Tm w us hr got.inv hp 2 (by decide)).use (rest:=[]) (by simpa using hsc) ?_;clear hs hsc;rintro r post' σ ⟨rfl,es5,hx,hi,rfl⟩ hs
  conv=>whnf
  repeat'((first|refine st ?_|(refine Y _ _ ?_;clear Z B Y A)|(refine U _ _ ?_;clear U K)|fail)<;>conv=>whnf)
  exact AS ⟨_,⟨by rw[hN];rfl,es5,got.ext.trans hx,hi,rfl⟩,by simpa using hs⟩
 ·conv=>whnf
  repeat'((first|refine st ?_|(refine Y _ _ ?_;clear Z B Y A)|(refine U _ _ ?_;clear U K)|refine ld ?_|refine IV ?_|fail)<;>conv=>whnf)
  exact AS ⟨_,⟨by rw[hN];rfl,_,got.ext,got.inv,rfl⟩,hsc⟩
end Go.Gl
