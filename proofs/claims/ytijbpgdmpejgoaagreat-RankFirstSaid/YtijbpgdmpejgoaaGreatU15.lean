import Derived.Test.YtijbpgdmpejgoaaGreatProg
import Derived.KernelRfl
import Derived.Test.YtijbpgdmpejgoaaGreatU5
import Derived.Test.YtijbpgdmpejgoaaGreatU14
set_option linter.all false
set_option linter.defProp false
noncomputable section
namespace Go.Gl
def G9 (no:List Int):Nat→Int→Int
 | 0,n=>n
 | k+1,n=>if no.contains n then G9 no k (n+1)else n
def from_ (no:List Int) (n:Int):Nat:=(no.filter fun x=>decide (n≤x)).length
def Rm {no:List Int} {n:Int} (h:n∈no):from_ no (n+1)<from_ no n:=by
 induction no with
 | nil=>cases h
 | cons x r ih=>
   simp only[from_,List.filter_cons]at ih ⊢;by_cases hx:x=n
   ·subst hx
    have hle:(r.filter fun y=>decide (x+1≤y)).length≤(r.filter fun y=>decide (x≤y)).length:=by
     refine List.Sublist.length_le ?_
     have e:(r.filter fun y=>decide (x+1≤y))=(r.filter fun y=>decide (x≤y)).filter fun y=>decide (x+1≤y):=by
      rw[List.filter_filter];refine List.filter_congr fun y _=>?_
      rw[LW,BY,Ce,Ce];omega
     rw[e];exact List.filter_sublist
    rw[if_neg (by simp<;>omega),if_pos (by simp),KH];omega
   ·have h':n∈r:=by
     rcases GB.1 h with e|e
     ·exact absurd e.symm hx
     ·exact e
    have:=ih h';by_cases h1:n≤x
    ·rw[if_pos (by rw[Ce];omega),if_pos (by rw[Ce];omega),KH,KH]
     omega
    ·rw[if_neg (by rw[Ce];omega),if_neg (by rw[Ce];omega)]
     omega
def Wh (no:List Int) (n:Int):from_ no n≤no.length:=KD _ _
def LD {no:List Int}: ∀(k:Nat) (n:Int),from_ no n≤k→n≤G9 no k n∧G9 no k n∉no∧ ∀j,n≤j→j<G9 no k n→j∈no
 | 0,n,h=>by
   refine⟨Int.le_refl _,fun hm=>?_,fun j h1 h2=>by simp only[G9]at h2;omega⟩;have:=Rm hm;simp only[G9]at this;omega
 | k + 1,n,h=>by
   rw[G9];split
   ·rename_i hc
    rw[List.contains_iff_mem]at hc;have hlt:=Rm hc;obtain⟨h1,h2,h3⟩:=LD (no:=no) k (n+1) (by omega);refine⟨by omega,h2,fun j hj1 hj2=>?_⟩;by_cases e:j=n
    ·subst e;exact hc
    ·exact h3 j (by omega) hj2
   ·rename_i hc
    exact⟨Int.le_refl _,fun hm=>hc (List.contains_iff_mem.2 hm),fun j h1 h2=>by omega⟩
def nT {no:List Int} {k:Nat} {n:Int} (h:n∈no):G9 no (k+1) n=G9 no k (n+1):=by rw[G9,if_pos (List.contains_iff_mem.2 h)]
def fQ {no:List Int} {k:Nat} {n:Int} (h:n∉no):G9 no k n=n:=by
 cases k with
 | zero=>rfl
 | succ k=>rw[G9,if_neg (fun hc=>h (List.contains_iff_mem.1 hc))]
def W7 {no:List Int} {k k':Nat} {n:Int} (h:from_ no n≤k) (h':from_ no n≤k'):G9 no k n=G9 no k' n:=by
 obtain⟨a1,a2,a3⟩:=LD k n h;obtain⟨b1,b2,b3⟩:=LD k' n h';rcases Int.lt_trichotomy (G9 no k n) (G9 no k' n)with hl|he|hg
 ·exact absurd (b3 _ a1 hl) a2
 ·exact he
 ·exact absurd (a3 _ b1 hg) b2
def Jq (k:Kn):Int:=G9 k.no k.no.length k.low
def Ng (kf:Int→List Int→Kn) (a:Int) (p:List Int):Bool:=(kf a p).AT.all fun s=> !(kf a (p++[s])).A9
def Hp (kf:Int→List Int→Kn) (a:Int) (p:List Int) (c:Nat):Bool:=PM (kf a p).CD (1|||2 ^ c)&&((kf a p).GY&&&(1|||2 ^ c)==0&&Ng kf a p)
def Q6 (kf:Int→List Int→Kn) (a:Int) (p:List Int):Bool:=decide (Jq (kf a p)≤(kf a p).high)&&Hp kf a p 1
def KW (kf:Int→List Int→Kn) (a:Int) (p:List Int):Bool:= !(kf a p).whole&&Hp kf a p 2
def Mo (w:AK) (kf:Int→List Int→Kn) (a:Int):Nat→List Int→Bool
 | 0,p=>Q6 kf a p||(KW kf a p||(Mm w (kf a p) (fun s=>(kf a (p++[s])).A9) (fun _=>false)).2)
 | d+1,p=>Q6 kf a p||(KW kf a p||(Mm w (kf a p) (fun s=>(kf a (p++[s])).A9) (fun s=>Mo w kf a d (p++[s]))).2)
def Yu (w:AK) (kf:Int→List Int→Kn):Bool:=(Bi 3).all fun a=>Mo w kf a 2 []
def Wo {n:Nat} {ls:List Fact} (h:Hq n ls) (a:Int) (p:List Int):Ng (kn ls) a p=FG n ls a p:=by
 rw[Ng,FG,Kz h];congr 1;funext s;rw[L7,Bool.not_not]
def Zf {n m:Nat} {ls:List Fact} (hn:n≤64) (hc:Ij n ls) (h:Hq m ls) (a:Int) (p:List Int):Q6 (kn ls) a p=((Ic ls a p).isSome&&FG m ls a p):=by
 have hcore:=ND ls a p;have hc2:Ij n (ls.filter (Gr a p)):=fun l hl=>hc l (JV.1 hl).1
 simp only[FH,Prod.mk.injEq]at hcore;obtain⟨c1,c2,c3,c4,c5,-⟩:=hcore;rw[Q6,Hp,Wo h,c4,c5,←Bool.and_assoc (PM _ _),Xn hn hc2,←Bool.and_assoc];congr 1;have hf:=QZ (ls.filter (Gr a p)) k0;rw[Ic,show t0=(k0.low,k0.high,k0.no) from rfl,hf,Jq,c2,c3,c1];obtain⟨h1,h2,h3⟩:=LD (no:=(Eo (ls.filter (Gr a p)) k0).no) _ (Eo (ls.filter (Gr a p)) k0).low (Wh _ _);have hs:=aV (high:=(Eo (ls.filter (Gr a p)) k0).high) h1 h2 h3;cases(ls.filter (Gr a p)).all fun l=>ga (A0 l)with
 | false=>simp
 | true=>rw[if_pos rfl,Option.bind_some,hs,Bool.and_true]
def WO {n m:Nat} {ls:List Fact} (hn:n≤64) (hc:Ij n ls) (h:Hq m ls) (a:Int) (p:List Int):KW (kn ls) a p=HP m ls a p:=by
 have hcore:=ND ls a p;have hc2:Ij n (ls.filter (Gr a p)):=fun l hl=>hc l (JV.1 hl).1
 simp only[FH,Prod.mk.injEq]at hcore;obtain⟨-,-,-,c4,c5,c6⟩:=hcore;rw[KW,Hp,Wo h,c4,c5,c6,HP,←U2 hn hc2];simp only[Bool.and_assoc]
def Z0 {w:AK} {ls:List Fact} (ho:ordered w.parents) (how: ∀s:Int,0≤s→s<w.owner.length→3≤CV w s∧CV w s<3+w.parents.length) (hn:3+w.parents.length≤64) (hc:Ij (3+w.parents.length) ls) (hp:Hq w.owner.length ls) (a:Int): ∀(d:Nat) (p:List Int),Mo w (kn ls) a d p=KT w ls a d p
 | 0,p=>by
   rw[Mo,KT,Zf hn hc hp,WO hn hc hp,fm ho how hc hp fun s=>L7 ls a (p++[s])]
 | d+1,p=>by
   rw[Mo,KT,Zf hn hc hp,WO hn hc hp,fm ho how hc hp fun s=>L7 ls a (p++[s])];have e:(fun s=>Mo w (kn ls) a d (p++[s]))=fun s=>KT w ls a d (p++[s]):=funext fun s=>Z0 ho how hn hc hp a d (p++[s])
   rw[e]
def iI {w:AK} {ls:List Fact} (ho:ordered w.parents) (how: ∀s:Int,0≤s→s<w.owner.length→3≤CV w s∧CV w s<3+w.parents.length) (hn:3+w.parents.length≤64) (hc:Ij (3+w.parents.length) ls) (hp:Hq w.owner.length ls):Yu w (kn ls)=Gs w ls:=by
 rw[Yu,Gs];congr 1;funext a;exact Z0 ho how hn hc hp a 2 []
end Go.Gl
namespace Go.Gl
open Go.Proofs
attribute [local irreducible] BJ A2 Ak AW AM Aj AV AX AN Ai AR AU A5 BF Sat Ad BD Al W
section
variable {S:Type} (g:FuncId) (fi ca:List V) (H:S→List At) (f:Int→Bool) (J:S→Prop) (D:Int→Prop)
def Pa {v:V} {xs:List Int} (hst:MR Tryz.prog (.f (.func g) fi ca) eI (fun s=> .own v 1 (iL xs)::H s) f J D) (hD: ∀x∈xs,D x) (hxl:xs.length≤Af) (s0:S) (hj0:J s0) :
    Bk Tryz.prog 103 [v,.f (.func g) fi ca] (.own v 1 (iL xs)::H s0) fun r post=>r= .ret (eI (MO f xs 0))∧ ∃s',J s'∧post= .own v 1 (iL xs)::H s':=by
 intro σ hs;have hM:=Mx;refine Zy kZ ?_
 conv=>whnf
 repeat'((first|apply st|(apply sq;intro K U)|(apply si;intro A B Y Z)|(apply Y;clear Z B Y A)|(apply U;clear U K)|refine lo ?_|fail)<;>conv=>whnf)
 refine B2 xs.length (fun k (_:S)=>[(8,eI (A4 k))]) (fun _ s=> .own v 1 (iL xs)::H s) (fun k s=>J s∧MO f xs 0=MO f (xs.drop k) k) s0 rfl ⟨hj0,rfl⟩ hs ?_;clear hs hj0;rintro k s σ hk ⟨hj,hn⟩ hs;have hck:A4 k=k:=AL (by omega);rcases BC xs hk with⟨y,hy,hlt⟩|hke
 ·rw[drop_cons hy]at hn
  have hDy:=hD y (B5 hy);rw[MO]at hn
  conv=>whnf
  repeat'((first|apply st|(apply sq;intro K U)|(apply si;intro A B Y Z)|(apply Y;clear Z B Y A)|(apply U;clear U K)|refine⟨rfl,?_⟩|refine oi ?_|refine ol fun x hx=>?_|(refine CK (fun hc=>?_)<;>(try rw[hc])<;>clear hc)|fail)<;>conv=>whnf)
  obtain rfl:x=y:=by rw[hck,KF,hy]at hx;exact(Option.some.inj hx).symm
  refine hst.use hDy hj hs ?_;clear hs hj;intro s σ hj hs;cases hyes:f x
  ·rw[hyes,if_neg (by decide)]at hn
   conv=>whnf
   repeat'((first|apply st|(apply si;intro A B Y Z)|(apply Y;clear Z B Y A)|(apply U;clear U K)|refine⟨rfl,?_⟩|clear U K)<;>conv=>whnf)
   exact⟨hlt,_,rfl,⟨hj,hn⟩,hs⟩
  ·rw[hyes,if_pos rfl]at hn
   conv=>whnf
   repeat'((first|apply st|(apply sq;intro K U)|(apply si;intro A B Y Z)|(apply Y;clear Z B Y A)|(apply U;clear U K)|clear U K)<;>conv=>whnf)
   rw[hn];exact AQ ⟨_,⟨by rw[hck],s,hj,rfl⟩,hs⟩
 ·rw[Ah hke,MO]at hn
  conv=>whnf
  repeat'((first|apply st|(apply sq;intro K U)|(apply si;intro A B Y Z)|(apply Y;clear Z B Y A)|(apply U;clear U K)|refine⟨rfl,?_⟩|(refine DR (fun hc=>?_)<;>(try rw[hc])<;>clear hc)|clear U K)<;>conv=>whnf)
  rw[hn];exact AQ ⟨_,⟨rfl,s,hj,rfl⟩,hs⟩
def Mv {v:V} {xs:List Int} (hst:MR Tryz.prog (.f (.func g) fi ca) eI (fun s=> .own v 1 (iL xs)::H s) f J D) (hD: ∀x∈xs,D x) (hxl:xs.length≤Af) (s0:S) (hj0:J s0) :
    Bk Tryz.prog 72 [v,.f (.func g) fi ca] (.own v 1 (iL xs)::H s0) fun r post=>r= .ret (.b (xs.any f))∧ ∃s',J s'∧post= .own v 1 (iL xs)::H s':=by
 intro σ hs;refine gF kZ ?_
 conv=>whnf
 repeat'((first|(apply sq;intro K U)|(apply si;intro A B Y Z)|(apply Y;clear Z B Y A)|(apply U;clear U K)|fail)<;>conv=>whnf)
 refine(Pa g fi ca H f J D hst hD hxl s0 hj0).use (rest:=[]) (by simpa using hs) ?_;rintro r post σ ⟨rfl,s',hj,rfl⟩ hs
 conv=>whnf
 repeat'((first|apply st|(apply Y;clear Z B Y A)|(apply U;clear U K)|refine⟨rfl,?_⟩|fail)<;>conv=>whnf)
 exact AQ ⟨_,⟨by rw[←TO f xs 0],s',hj,rfl⟩,by simpa using hs⟩
def dv {v:V} {xs:List Int} (hst:MR Tryz.prog (.f (.func g) fi ca) eI (fun s=> .own v 1 (iL xs)::H s) f J D):MR Tryz.prog (.f (.func 217) [] [.rp [.f (.func g) fi ca]]) eI (fun s=> .own v 1 (iL xs)::H s) (fun y=> !f y) J D:=by
 intro y s hd hj σ hs;refine Bp ?_;show BJ Tryz.prog 217 ([]++[eI y]++[.rp [.f (.func g) fi ca]]) σ _;refine Zp kZ ?_
 conv=>whnf
 repeat'((first|apply st|(apply sq;intro K U)|(apply si;intro A B Y Z)|(apply Y;clear Z B Y A)|(apply U;clear U K)|fail)<;>conv=>whnf)
 refine hst.use hd hj hs ?_;clear hs;intro s' σ hj' hs
 conv=>whnf
 repeat'((first|apply st|(apply Y;clear Z B Y A)|(apply U;clear U K)|fail)<;>conv=>whnf)
 exact AQ ⟨rfl,s',hj',hs⟩
def W6 {v:V} {xs:List Int} (hst:MR Tryz.prog (.f (.func g) fi ca) eI (fun s=> .own v 1 (iL xs)::H s) f J D) (hD: ∀x∈xs,D x) (hxl:xs.length≤Af) (s0:S) (hj0:J s0) :
    Bk Tryz.prog 177 [v,.f (.func g) fi ca] (.own v 1 (iL xs)::H s0) fun r post=>r= .ret (.b (xs.all f))∧ ∃s',J s'∧post= .own v 1 (iL xs)::H s':=by
 intro σ hs;refine Zt kZ ?_
 conv=>whnf
 repeat'((first|(apply sq;intro K U)|(apply si;intro A B Y Z)|(apply Y;clear Z B Y A)|(apply U;clear U K)|fail)<;>conv=>whnf)
 refine(Mv 217 [] [.rp [.f (.func g) fi ca]] H _ J D (dv g fi ca H f J D hst) hD hxl s0 hj0).use (rest:=[]) (by simpa using hs) ?_;rintro r post σ ⟨rfl,s',hj,rfl⟩ hs
 conv=>whnf
 repeat'((first|apply st|(apply Y;clear Z B Y A)|(apply U;clear U K)|fail)<;>conv=>whnf)
 refine AQ ⟨_,⟨?_,s',hj,rfl⟩,by simpa using hs⟩;rw[List.all_eq_not_any_not]
end
abbrev Jk (l:Fact):List V:=xF (A0 l).1++[.b (A0 l).2]
abbrev FD (ls:List Fact):List (List V):=ls.map Jk
def dT (xs ys:List Int) (f g:Bool):Pure Tryz.prog 273 [.l (iL xs) f,.l (iL ys) g] (.b (xs==ys)):=by
 refine Pure.fit (by kernel_rfl) fun hf=>?_
 have hx:=Jb hf.1;have hy:=Jb hf.2.1;have hM:=Mx;refine jz kZ ?_;have hs:=Sn
 conv=>whnf
 repeat'((first|apply st|(apply sq;intro K U)|(apply si;intro A B Y Z)|(apply Y;clear Z B Y A)|(apply U;clear U K)|refine⟨rfl,?_⟩|(constructor<;>intro hc<;>(try rw[hc])<;>(replace hc:=bp hc)<;>(try simp(disch:=omega) only[BQ,wrap64,AL]at hc))|clear U K)<;>conv=>whnf)
 ·exact AI (by(have:(xs==ys)=false:=by(simp;intro e;subst e;simp at hc));rw[this])
 have hl:xs.length=ys.length:=by omega
 refine B2 xs.length (fun k (_:Unit)=>[(13,eI (A4 k))]) (fun _ _=>[]) (fun k _=>(xs==ys)=(xs.drop k==ys.drop k)) () rfl rfl Sat.nil ?_;clear hs;rintro k - σ hk hn hs;rcases BC xs hk with⟨x,hxk,hlt⟩|hke
 ·obtain⟨y,hyk⟩: ∃y,ys[k]? =some y:=⟨_,DJ (by omega)⟩
  rw[drop_cons hxk,drop_cons hyk]at hn
  conv=>whnf
  repeat'((first|apply st|(apply sq;intro K U)|(apply si;intro A B Y Z)|(apply Y;clear Z B Y A)|(apply U;clear U K)|apply dr|refine⟨rfl,?_⟩|refine ix ?_|(refine CK (fun hc=>?_)<;>(try rw[hc])<;>clear hc)|(constructor<;>intro hc<;>(try rw[hc])<;>(replace hc:=bp hc))|clear U K)<;>conv=>whnf)
  ·exact AI (by rw[hn];simp[*])
  ·exact⟨hlt,(),rfl,by rw[hn];simp[*],hs⟩
 ·conv=>whnf
  repeat'((first|apply st|(apply sq;intro K U)|(apply si;intro A B Y Z)|(apply Y;clear Z B Y A)|(apply U;clear U K)|refine⟨rfl,?_⟩|(refine DR (fun hc=>?_)<;>(try rw[hc])<;>clear hc)|clear U K)<;>conv=>whnf)
  exact AI (by rw[hn,Ah hke,Ah (by omega)];rfl)
def eK (a b:Bool) (u:V):Pure Tryz.prog 274 [.l [] a,.l [] b,u] (.b true):=by
 refine jy kZ ?_;have hs:=Sn;have hM:=Mx
 conv=>whnf
 repeat'((first|apply st|(apply sq;intro K U)|(apply si;intro A B Y Z)|(apply Y;clear Z B Y A)|(apply U;clear U K)|refine⟨rfl,?_⟩|(constructor<;>intro hc<;>(try rw[hc])<;>(replace hc:=bp hc)<;>(try simp(disch:=omega) only[BQ,wrap64,AL]at hc)<;>try(exfalso;omega))|fail)<;>conv=>whnf)
 refine B2 0 (fun k (_:Unit)=>[(17,eI (A4 k))]) (fun _ _=>[]) (fun _ _=>True) () rfl trivial Sat.nil ?_;clear hs;rintro k - σ hk - hs;obtain rfl:k=0:=by omega
 conv=>whnf
 repeat'((first|apply st|(apply sq;intro K U)|(apply si;intro A B Y Z)|(apply Y;clear Z B Y A)|(apply U;clear U K)|refine⟨rfl,?_⟩|(constructor<;>intro hc<;>(try rw[hc])<;>(replace hc:=bp hc)<;>(try simp(disch:=omega) only[BQ,wrap64,AL]at hc))|clear U K)<;>conv=>whnf)
 ·exfalso
  simp at hc
 ·exact AI rfl
set_option maxHeartbeats 1000000 in
def dU (f g:Fact) (hf:f.kids= []) (hg:g.kids= []):Pure Tryz.prog 258 [.a (xF f),.a (xF g)] (.b (FY f g)):=by
 have e:FY f g=(f.op==g.op&&(f.arg==g.arg&&(f.cls==g.cls&&(f.n==g.n&&f.path==g.path)))):=by
  rw[Ks,hf,hg];simp[PT]
 obtain⟨o,a,p,c,n,k⟩:=f;obtain⟨o',a',p',c',n',k'⟩:=g;simp only[Fact.kids]at hf hg;subst hf;subst hg;refine kE kZ ?_;have hs:=Sn;rw[e]
 conv=>whnf
 repeat'((first|apply st|(apply sq;intro K U)|(apply si;intro A B Y Z)|(apply Y;clear Z B Y A)|(apply U;clear U K)|refine⟨rfl,?_⟩|refine Pure.use (dT _ _ _ _) ?_|refine Pure.use (eK _ _ _) ?_|(constructor<;>intro hc<;>(try rw[hc])<;>(replace hc:=bp hc))|fail)<;>conv=>whnf)
 all_goals simp only[Fact.op,Fact.arg,Fact.cls,Fact.n,Fact.path]at *
 all_goals exact AI (by simp[*])
def UZ:Eg Jk 7:=fun l=>by
 refine⟨rfl,fun v hv=>?_⟩;rcases Fs.1 hv with hv|hv
 ·exact(Js (A0 l).1).2 v (by show v∈Fx (A0 l).1;rw[Bd];exact hv)
 ·simp at hv;subst hv;rfl
def Po (x y:Fact):Bool:=(A0 x).2==(A0 y).2&&FY (A0 x).1 (A0 y).1
abbrev Vt (l:Fact):Prop:=(A0 l).1.kids= []
abbrev gj (f:Fact→Bool):Fact→Unit→Bool×Unit:=fun y _=>(f y,())
def dV (x:Fact) (hx1:Vt x) (n:Nat):DC Tryz.prog (.f (.func 257) [] [.p n 0]) (fun y=> .a (Jk y)) (fun _:Unit=>[.box n (Jk x)]) (gj (Po x)) (fun y _=>Vt y):=by
 intro y s hy1 σ hs;refine Bp ?_;show BJ Tryz.prog 257 ([]++[.a (Jk y)]++[.p n 0]) σ _;refine kF kZ ?_;unfold Po
 conv=>whnf
 repeat'((first|apply st|(apply sq;intro K U)|(apply si;intro A B Y Z)|(apply Y;clear Z B Y A)|(apply U;clear U K)|refine⟨kZ,?_⟩|refine ld ?_|refine Pure.use (dU _ _ hx1 hy1) ?_|(constructor<;>intro hc<;>(try rw[hc])<;>(replace hc:=bp hc))|fail)<;>conv=>whnf)
 all_goals exact AQ ⟨by simp[gj, *],hs⟩
section
variable {S:Type} (g:FuncId) (fi ca:List V) (H:S→List At)
def PZ (stp:Fact→S→Bool×S) (D:Fact→S→Prop) {v:V} {xs:List Fact} (hst:DC Tryz.prog (.f (.func g) fi ca) (fun y=> .a (Jk y)) (fun s=> .own v 7 (FD xs)::H s) stp D) (hxl:xs.length≤Af) (s0:S) (hd:UI stp D xs s0) :
    Bk Tryz.prog 272 [v,.f (.func g) fi ca] (.own v 7 (FD xs)::H s0) fun r post=>r= .ret (eI (Bo stp xs 0 s0).1)∧post= .own v 7 (FD xs)::H (Bo stp xs 0 s0).2:=by
 intro σ hs;have hM:=Mx;refine j0 kZ ?_
 conv=>whnf
 repeat'((first|apply st|(apply sq;intro K U)|(apply si;intro A B Y Z)|(apply Y;clear Z B Y A)|(apply U;clear U K)|refine lo ?_|fail)<;>conv=>whnf)
 refine B2 xs.length (fun k (_:S)=>[(8,eI (A4 k))]) (fun _ s=> .own v 7 (FD xs)::H s) (fun k s=>UI stp D (xs.drop k) s∧Bo stp xs 0 s0=Bo stp (xs.drop k) k s) s0 rfl ⟨hd,rfl⟩ hs ?_;clear hs;rintro k s σ hk ⟨hd,hn⟩ hs;have hck:A4 k=k:=AL (by omega);rcases BC xs hk with⟨y,hy,hlt⟩|hke
 ·rw[drop_cons hy]at hn hd
  obtain⟨hd1,hd2⟩:=hd;rw[Bo]at hn
  conv=>whnf
  repeat'((first|apply st|(apply sq;intro K U)|(apply si;intro A B Y Z)|(apply Y;clear Z B Y A)|(apply U;clear U K)|refine⟨rfl,?_⟩|refine⟨kZ,?_⟩|refine oi ?_|refine ol fun x hx=>?_|(refine CK (fun hc=>?_)<;>(try rw[hc])<;>clear hc)|fail)<;>conv=>whnf)
  obtain rfl:x=y:=by rw[hck,KF,hy]at hx;exact(Option.some.inj hx).symm
  refine hst.use hd1 hs ?_;clear hs;intro σ hs;cases hyes:(stp x s).1
  ·rw[hyes,if_neg (by decide)]at hn
   conv=>whnf
   repeat'((first|apply st|(apply si;intro A B Y Z)|(apply Y;clear Z B Y A)|(apply U;clear U K)|refine⟨rfl,?_⟩|clear U K)<;>conv=>whnf)
   exact⟨hlt,_,rfl,⟨hd2,hn⟩,hs⟩
  ·rw[hyes,if_pos rfl]at hn
   conv=>whnf
   repeat'((first|apply st|(apply sq;intro K U)|(apply si;intro A B Y Z)|(apply Y;clear Z B Y A)|(apply U;clear U K)|clear U K)<;>conv=>whnf)
   rw[hn];exact AQ ⟨_,⟨by rw[hck],rfl⟩,hs⟩
 ·rw[Ah hke,Bo]at hn
  conv=>whnf
  repeat'((first|apply st|(apply sq;intro K U)|(apply si;intro A B Y Z)|(apply Y;clear Z B Y A)|(apply U;clear U K)|refine⟨rfl,?_⟩|(refine DR (fun hc=>?_)<;>(try rw[hc])<;>clear hc)|clear U K)<;>conv=>whnf)
  rw[hn];exact AQ ⟨_,⟨rfl,rfl⟩,hs⟩
def MJ (stp:Fact→S→Bool×S) (D:Fact→S→Prop) {v:V} {xs:List Fact} (hst:DC Tryz.prog (.f (.func g) fi ca) (fun y=> .a (Jk y)) (fun s=> .own v 7 (FD xs)::H s) stp D) (hxl:xs.length≤Af) (s0:S) (hd:UI stp D xs s0) :
    Bk Tryz.prog 256 [v,.f (.func g) fi ca] (.own v 7 (FD xs)::H s0) fun r post=>r= .ret (.b (decide ((Bo stp xs 0 s0).1≥0)))∧post= .own v 7 (FD xs)::H (Bo stp xs 0 s0).2:=by
 intro σ hs;refine kG kZ ?_
 conv=>whnf
 repeat'((first|(apply sq;intro K U)|(apply si;intro A B Y Z)|(apply Y;clear Z B Y A)|(apply U;clear U K)|fail)<;>conv=>whnf)
 refine(PZ g fi ca H stp D hst hxl s0 hd).use (rest:=[]) (by simpa using hs) ?_;rintro r post σ ⟨rfl,rfl⟩ hs
 conv=>whnf
 repeat'((first|apply st|(apply Y;clear Z B Y A)|(apply U;clear U K)|refine⟨rfl,?_⟩|fail)<;>conv=>whnf)
 exact AQ ⟨_,⟨rfl,rfl⟩,by simpa using hs⟩
end
def bq (a:List Fact) (f:Bool) (hl:a.length≤1000000):Bk Tryz.prog 255 [.l (FD a) f] [] fun r post=> ∃v,r= .ret v∧post= [.own v 7 (FD a)]:=by
 intro σ hs;have hM:=Mx;refine kH kZ ?_
 conv=>whnf
 repeat'((first|(apply sq;intro K U)|(apply si;intro A B Y Z)|(apply Y;clear Z B Y A)|(apply U;clear U K)|fail)<;>conv=>whnf)
 refine⟨fun e t=>?_,fun _=>?_⟩
 ·have hxe:a= []:=List.map_eq_nil_iff.1 e
  subst hxe
  conv=>whnf
  repeat'((first|apply st|(apply sq;intro K U)|(apply si;intro A B Y Z)|(apply Y;clear Z B Y A)|(apply U;clear U K)|(constructor<;>intro hc<;>(try rw[hc])<;>(replace hc:=bp hc))|clear U K)<;>conv=>whnf)
  ·exact AQ ⟨_,⟨_,rfl,rfl⟩,C7 hs 7⟩
  ·replace hs:=C7 hs 7
   refine Is hs 0 (xs:=[]) (ys:=[]) rfl (by simp) UZ fun v σ hs=>?_
   conv=>whnf
   repeat'((first|apply st|(apply Y;clear Z B Y A)|(apply U;clear U K)|fail)<;>conv=>whnf)
   exact AQ ⟨_,⟨_,rfl,rfl⟩,hs⟩
 ·conv=>whnf
  repeat'((first|apply st|(apply sq;intro K U)|(apply si;intro A B Y Z)|(apply Y;clear Z B Y A)|(apply U;clear U K)|fail)<;>conv=>whnf)
  replace hs:=C7 hs 7;refine Is hs 0 (xs:=[]) (ys:=a) rfl (by simp;omega) UZ fun v σ hs=>?_
  conv=>whnf
  repeat'((first|apply st|(apply Y;clear Z B Y A)|(apply U;clear U K)|fail)<;>conv=>whnf)
  exact AQ ⟨_,⟨_,rfl,rfl⟩,hs⟩
def S0 {w:AK} {x:Fact} (h:Ib w x):x=if(A0 x).2 then FX (A0 x).1 else(A0 x).1:=by
 obtain⟨g,hn,hl,rfl|rfl⟩:=h
 ·have:=F2 hl
  have h5: ¬x.op=5:=by omega
  simp only[A0,if_neg h5];rfl
 ·rfl
def V6 {w:AK} {x y:Fact} (hx1:Ib w x) (hy1:Ib w y):Po x y=FY x y:=by
 rw[LW,Ly];simp only[Po,BY,Dx,Ly];constructor
 ·rintro⟨h1,h2⟩
  rw[S0 hx1,S0 hy1,h1,h2]
 ·rintro rfl
  exact⟨rfl,rfl⟩
def QH {w:AK} {x:Fact} (h:Ib w x):Vt x:=by
 obtain⟨-,hn,hl⟩:=HX h;have hlo:=F2 hl;have har:=C0 _ hn;rw[K7,BY,Dx]at har
 have h0:CF (A0 x).1.op=0:=by
  have h5: ¬(A0 x).1.op=5:=by omega
  have h6: ¬((A0 x).1.op=6∨(A0 x).1.op=7):=by omega
  simp[CF,h5,h6]
  try omega
 rw[h0]at har;exact Yq.1 har.1
def X5 {w:AK} (a b:List Fact) (f g:Bool) (hla: ∀x∈a,Ib w x) (hlb: ∀x∈b,Ib w x) (hl:a.length+b.length<1000000):Pure Tryz.prog 228 [.l (FD a) f,.l (FD b) g] (.l (FD (CW a b)) false):=by
 have hM:=Mx;refine Pure.of ?_;refine kg kZ ?_;have hs:=Sn
 conv=>whnf
 repeat'((first|(apply sq;intro K U)|(apply si;intro A B Y Z)|(apply Y;clear Z B Y A)|(apply U;clear U K)|fail)<;>conv=>whnf)
 refine(bq a f (by omega)).use (rest:=[]) (by simpa using hs) ?_;clear hs;rintro r post σ ⟨v,rfl,rfl⟩ hs
 conv=>whnf
 repeat'((first|apply st|(apply sq;intro K U)|(apply si;intro A B Y Z)|(apply Y;clear Z B Y A)|(apply U;clear U K)|fail)<;>conv=>whnf)
 refine B2 b.length (fun k v=>[(5,v),(12,eI (A4 k))]) (fun k v=>[.own v 7 (FD (CW a (b.take k)))]) (fun _ _=>True) v rfl trivial hs ?_;clear hs;rintro k v σ hk - hs;have hml:=L8 a (b.take k);rw[KG]at hml;rcases BC b hk with⟨x,hxk,hlt⟩|hke
 ·have hsn:=Ou a (b.take k) x
  rw[←AO hxk]at hsn;have hxg:=hlb x (B5 hxk)
  have hmem: ∀y∈CW a (b.take k),Ib w y:=fun y hy=>by
   rcases QN _ _ _ hy with h|h
   ·exact hla y h
   ·exact hlb y (List.mem_of_mem_take h)
  generalize CW a (b.take k)=m at *
  have hany:m.any (Po x)=m.any (FY x):=by
   rw[LW,JU,JU];exact⟨fun⟨y,hy,h⟩=>⟨y,hy,by rw[←V6 hxg (hmem y hy)];exact h⟩,fun⟨y,hy,h⟩=>⟨y,hy,by rw[V6 hxg (hmem y hy)];exact h⟩⟩
  conv=>whnf
  repeat'((first|apply st|(apply sq;intro K U)|(apply si;intro A B Y Z)|(apply Y;clear Z B Y A)|(apply U;clear U K)|refine⟨rfl,?_⟩|refine⟨kZ,?_⟩|refine ix ?_|refine Dy fun σ hs=>?_|(refine CK (fun hc=>?_)<;>(try rw[hc])<;>clear hc)|(intro nn hnn;generalize hg:BA _ nn _=σ;refine Ct hg fun hs=>?_;clear hg)|fail)<;>conv=>whnf)
  generalize nn=n7 at *;have hs2:Sat σ [.own v 7 (FD m),.box n7 (Jk x)]:=hs.perm (.swap _ _ _);clear hs hnn;refine(MJ 257 [] [.p n7 0] (fun _:Unit=>[.box n7 (Jk x)]) (gj (Po x)) (fun y _=>Vt y) ((dV x (QH hxg) n7).more [_]) (by omega) () (Gy fun y hy _=>QH (hmem y hy))).use (rest:=[]) hs2 ?_;clear hs2;rintro r post σ ⟨rfl,rfl⟩ hs;rw[K4,hany];cases hy:m.any (FY x)
  ·rw[hy,if_neg Bool.false_ne_true]at hsn
   conv=>whnf
   repeat'((first|apply st|(apply si;intro A B Y Z)|(apply Y;clear Z B Y A)|(apply U;clear U K)|refine⟨kZ,?_⟩|refine ld ?_|refine Er ?_|fail)<;>conv=>whnf)
   refine GO (Fv (x:=x) (xs:=m) (enc:=Jk) hs 0 rfl (by omega) UZ fun v σ hs hsl=>?_)
   conv=>whnf
   repeat'((first|(apply si;intro A B Y Z)|(apply Y;clear Z B Y A)|(apply U;clear U K)|refine⟨rfl,?_⟩|clear U K)<;>conv=>whnf)
   exact⟨hlt,v,rfl,trivial,by rw[hsn];exact hs.less (.cons₂ _ (LR _))⟩
  ·rw[hy,if_pos rfl]at hsn
   conv=>whnf
   repeat'((first|apply st|(apply si;intro A B Y Z)|(apply Y;clear Z B Y A)|(apply U;clear U K)|refine⟨rfl,?_⟩|refine De ?_|clear U K)<;>conv=>whnf)
   exact⟨hlt,v,rfl,trivial,by rw[hsn];exact hs.less (.cons₂ _ (LR _))⟩
 ·conv=>whnf
  repeat'((first|apply st|(apply sq;intro K U)|(apply si;intro A B Y Z)|(apply Y;clear Z B Y A)|(apply U;clear U K)|refine⟨rfl,?_⟩|(refine DR (fun hc=>?_)<;>(try rw[hc])<;>clear hc)|clear U K)<;>conv=>whnf)
  exact Yh (EM hs 0 rfl (vf:= .l (FD (CW a b)) false) (by rw[Ar hke])) fun r σ h=>h.1
end Go.Gl
namespace Go.Gl
open Go.Proofs
abbrev aG:AJ:=(.seq [0,3] (.Ax [⟨(some 3),.SQ (.t 1),none⟩,
 ⟨(some 4),.mv (.c .pn),none⟩])
 (.seq [0,3,5,6] (.BX [0,3,5,6] [⟨0,⟨(some 8),.mv (.t 0),none⟩,[],[]⟩,
  ⟨1,⟨(some 9),.Fa (.t 8),none⟩,[],[]⟩,
  ⟨2,⟨(some 10),.Jc 1 (.t 9),none⟩,[],[]⟩,
  ⟨3,⟨(some 11),.load none (.t 10),none⟩,[],[]⟩,
  ⟨4,⟨(some 12),.load (some 4) (.t 3),none⟩,[],[]⟩,
  ⟨5,⟨(some 13),.lookup (.a [.i64,.i64,.i64,.i64]) .pn true (.t 11) (.t 12),none⟩,[],[]⟩,
  ⟨6,⟨(some 7),.mv (.t 13),none⟩,[],[]⟩,
  ⟨7,⟨(some 14),.extract 0 (.t 7),none⟩,[],[]⟩,
  ⟨8,⟨(some 15),.extract 1 (.t 7),none⟩,[],[]⟩,
  ⟨9,⟨(some 5),.mv (.t 14),none⟩,[],[]⟩,
  ⟨10,⟨(some 6),.mv (.t 15),none⟩,[],[]⟩])
 (.seq [5] (.seq [0,3,5,17] (.Ax [⟨(some 16),.mv (.t 6),none⟩,
  ⟨(some 17),.not (.t 16),none⟩])
 (.cond (.t 17)
 (.seq [0,3,5] (.Ax [⟨(some 18),.build [(.i .i64 0),(.i .i64 0),(.l [] true)] [(0,1,(.c (.i .i64 (-1000000000)))),(1,1,(.c (.i .i64 1000000000)))],none⟩,
  ⟨(some 19),.build [(.i .i64 0),(.i .i64 0),(.l [] true),(.i .u64 0),(.i .u64 0),(.b false),(.b false),(.l [] true)] [(0,3,(.t 18))],none⟩,
  ⟨(some 20),.box (.t 19),none⟩,
  ⟨(some 5),.mv (.t 20),none⟩])
 (.BX [5] [⟨0,⟨(some 21),.mv (.t 0),none⟩,[],[]⟩,
  ⟨1,⟨(some 22),.Fa (.t 21),none⟩,[],[]⟩,
  ⟨2,⟨(some 23),.Jc 1 (.t 22),none⟩,[],[]⟩,
  ⟨3,⟨(some 24),.load none (.t 23),none⟩,[],[]⟩,
  ⟨4,⟨(some 25),.load (some 4) (.t 3),none⟩,[],[]⟩,
  ⟨5,⟨(some 26),.mv (.t 5),none⟩,[],[]⟩,
  ⟨6,⟨none,.D9 (.a [.i64,.i64,.i64,.i64]) (.t 24) (.t 25) (.t 26),none⟩,[],[]⟩]))
 .skip))
 (.seq [4] (.Ax [⟨(some 27),.mv (.t 5),none⟩,
  ⟨(some 4),.mv (.t 27),none⟩])
 .ret))))
def dX:Tryz.f275.body.bind (res Tryz.prog Tryz.f275.ntmps [] [3])=some (erase aG):=by kernel_rfl
def e8 {args:List V} (hn:args.length≤28) {σ:AH} {Q:R→AH→Prop} (h:W Tryz.prog aG (dB [4] Q) (C5 0 args) σ):BJ Tryz.prog 275 args σ Q:=
 O5 Tryz.func275 (by kernel_rfl) dX rfl hn (gg h)
end Go.Gl
namespace Go.Gl
open Go.Proofs
attribute [local irreducible] BJ A2 Ak AW AM Aj AV AX AN Ai AR AU A5 BF Sat Ad BD Al W
abbrev SF (w:AK) (us:List Nat) (L:Nat):V:= .rp [.rp (wC w us),.m L]
def PR (es es':List C8):Prop:= ∃new:List C8,es'=es++new∧ ∀x∈new,x.k=k0
def PR.refl (es:List C8):PR es es:=⟨[],by simp,by simp⟩
def PR.trans {a b c:List C8} (h1:PR a b) (h2:PR b c):PR a c:=by
 obtain⟨x,rfl,hx⟩:=h1;obtain⟨y,rfl,hy⟩:=h2;refine⟨x++y,by simp,fun z hz=>?_⟩;rcases Fs.1 hz with h|h
 ·exact hx z h
 ·exact hy z h
def PR.mem {a b:List C8} (h:PR a b) {e:C8} (he:e∈a):e∈b:=by
 obtain⟨x,rfl,_⟩:=h;exact PL _ he
structure iD (kf:Int→List Int→Kn) (es es':List C8) (a:Int) (p:List Int) (e:C8):Prop where
 inv:D0 kf es'
 ext:PR es es'
 mem:e∈es'
 is:e.is a p=true
def iD.k {kf:Int→List Int→Kn} {es es':List C8} {a:Int} {p:List Int} {e:C8} (h:iD kf es es' a p e):e.k=kf a p:=by
 have:=h.inv.val e h.mem;obtain⟨h1,h2⟩:=Jr.1 h.is;rw[this,h1,h2]
def Lm {σ:AH} {l:List At} (h:Sat σ l) (i:Nat) {n:Nat} {kvs:List (V×V)} {ks:KS} {z vk:V} {ok:Bool} {o:Option V} (hi:l[i]? =some (.map n kvs)) (hk:Bt ks vk=true) (hks: ∀kv∈kvs,Bt ks kv.1=true) (hf:DG vk kvs=o) {K:V→Prop} (h':K (found z ok o)) :
    AR σ ks z ok (.m n) vk K:=JD h i hi hk hks (hf ▸ h')
def Kb (w:AK) (us:List Nat) {kf:Int→List Int→Kn} {L:Nat} {es:List C8} (h:D0 kf es) {a:Int} {p:List Int} (hp:p.length≤2) :
    Bk Tryz.prog 275 [SF w us L,Ed a p] (CH L es) fun r post=> ∃es' e,iD kf es es' a p e∧r= .ret (.p e.b 0)∧post=CH L es':=by
 intro σ hs;refine e8 kZ ?_;unfold CH at hs;rcases fg a p es with hn|⟨pre,e,post,rfl,he,hpre⟩
 ·have hf:=TH hp h.len hn
  conv=>whnf
  repeat'((first|apply st|(apply sq;intro K U)|(apply si;intro A B Y Z)|(apply Y;clear Z B Y A)|(apply U;clear U K)|apply dr|refine⟨kZ,?_⟩|refine Er ?_|refine Lm hs 0 rfl rfl (N6 _) hf ?_|refine Hy hs 1 rfl rfl (N6 _) fun σ hs=>?_|(intro nn hnn;generalize hg:BA _ nn _=σ;refine Ct hg fun hs=>?_;clear hg)|fail)<;>conv=>whnf)
  simp only[List.set_cons_succ,List.set_cons_zero]at hs;change Sat σ (_:: .map L (EF (Ed a p) (.p nn 0) (UD es))::_)at hs;rw[Zc hp nn (.l [] true) (.l [] true) k0 h.len hn]at hs;have hs2:=C7 (C7 hs 1) 1;refine AQ ⟨_,⟨es++[⟨a,p,nn,.l [] true,.l [] true,k0⟩],⟨a,p,nn,.l [] true,.l [] true,k0⟩,⟨h.add hp hn _ _ _,⟨_,rfl,by simp⟩,by simp,by simp[C8.is]⟩,rfl,rfl⟩,?_⟩;unfold CH;rw[List.flatMap_append,List.flatMap_cons,List.flatMap_nil,Ig];refine hs2.perm ((List.perm_middle (l₁:=[_,_,_])).trans (.cons _ (SE.trans (List.Perm.append_left _ (List.reverse_perm _).symm))))
 ·have hf:=TG hp he h.len hpre
  conv=>whnf
  repeat'((first|apply st|(apply sq;intro K U)|(apply si;intro A B Y Z)|(apply Y;clear Z B Y A)|(apply U;clear U K)|apply dr|refine⟨kZ,?_⟩|refine De ?_|refine Lm hs 0 rfl rfl (N6 _) hf ?_|fail)<;>conv=>whnf)
  exact AQ ⟨_,⟨_,e,⟨h,.refl _,by simp,he⟩,rfl,rfl⟩,hs⟩
def NB (a:Int) (p:List Int) (s:Int) (hp:p.length<2):Pure Tryz.prog 276 [Ed a p,eI s] (Ed a (p++[s])):=by
 refine jx kZ ?_;have hs:=Sn
 match p,hp with
 | [],_=>
   conv=>whnf
   repeat'((first|apply st|(apply sq;intro K U)|(apply si;intro A B Y Z)|(apply Y;clear Z B Y A)|(apply U;clear U K)|refine⟨rfl,?_⟩|refine⟨kZ,?_⟩|refine UE ?_|refine ld ?_|refine FB fun σ hs=>?_|refine Dy fun σ hs=>?_|(intro nn hnn;generalize hg:BA _ nn _=σ;refine Ct hg fun hs=>?_;clear hg)|fail)<;>conv=>whnf)
   all_goals exact AI rfl
 | [x],_=>
   conv=>whnf
   repeat'((first|apply st|(apply sq;intro K U)|(apply si;intro A B Y Z)|(apply Y;clear Z B Y A)|(apply U;clear U K)|refine⟨rfl,?_⟩|refine⟨kZ,?_⟩|refine UE ?_|refine ld ?_|refine FB fun σ hs=>?_|refine Dy fun σ hs=>?_|(intro nn hnn;generalize hg:BA _ nn _=σ;refine Ct hg fun hs=>?_;clear hg)|fail)<;>conv=>whnf)
   all_goals exact AI rfl
set_option maxHeartbeats 1000000 in
def nM {b:Nat} {vn vs:V} {k:Kn} (f:Fact) (c:Bool) (hl:f.op=2∨f.op=3∨f.op=4) (hc:f.op=2→0≤f.cls∧f.cls<64) (hm:k.CD<18446744073709551616) (hn:k.GY<18446744073709551616) (hno:k.no.length<1000000) (hN: -1000000000≤f.n∧f.n≤1000000000) :
    Bk Tryz.prog 277 [.p b 0,.a (xF f++[.b c])] (hZ b vn vs k) fun r post=>r= .ret (.t [])∧ ∃vn',post=hZ b vn' vs (Cu k f c):=by
 intro σ hs;have hM:=Mx;refine jw kZ ?_;rw[show xF f++[V.b c]= [eI f.op,eI f.arg,.l (iL f.path) false,eI f.cls,eI f.n,.l (f.kids.map Fx) false,.b c] from rfl];have hw:IntKind.i64.wrap (f.n - 1)=f.n - 1:=wrap64 (by omega) (by omega);cases c<;>rcases hl with h2|h3|h4
 ·have hE:Cu k f false= {k with CD:=k.CD|||2 ^ f.cls.toNat}:=by rw[Cu,if_pos h2,if_neg Bool.false_ne_true]
  rw[hE]
  conv=>whnf
  repeat'((first|apply st|(apply sq;intro K U)|(apply si;intro A B Y Z)|(apply Y;clear Z B Y A)|(apply U;clear U K)|apply dr|refine⟨rfl,?_⟩|refine ld ?_|refine FB fun σ hs=>?_|refine De ?_|refine Pure.use (HR _ _ hm (by omega) (by omega)) ?_|(constructor<;>intro hc<;>(try rw[hc])<;>(replace hc:=bp hc)<;>try(exfalso;omega))|fail)<;>conv=>whnf)
  exact AQ ⟨_,⟨rfl,vn,rfl⟩,hs⟩
 ·have hE:Cu k f false= {k with high:=if f.n - 1<k.high then f.n - 1 else k.high,whole:=true}:=by rw[Cu,if_neg (by omega),if_pos h3,if_neg Bool.false_ne_true]
  rw[hE]
  conv=>whnf
  repeat'((first|apply st|(apply sq;intro K U)|(apply si;intro A B Y Z)|(apply Y;clear Z B Y A)|(apply U;clear U K)|apply dr|refine⟨rfl,?_⟩|refine ld ?_|refine FB fun σ hs=>?_|refine De ?_|(constructor<;>intro hc<;>(try rw[hc])<;>(replace hc:=bp hc)<;>try(exfalso;omega))|fail)<;>conv=>whnf)
  rw[hw]at hs;exact AQ ⟨_,⟨rfl,vn,rfl⟩,hs⟩
 ·have hE:Cu k f false= {k with low:=if f.n > k.low then f.n else k.low,high:=if f.n<k.high then f.n else k.high,whole:=true}:=by rw[Cu,if_neg (by omega),if_neg (by omega),if_neg Bool.false_ne_true]
  rw[hE]
  conv=>whnf
  repeat'((first|apply st|(apply sq;intro K U)|(apply si;intro A B Y Z)|(apply Y;clear Z B Y A)|(apply U;clear U K)|apply dr|refine rk ?_ ?_|exact fun s e=>by cases e;rfl|refine⟨rfl,?_⟩|refine ld ?_|refine FB fun σ hs=>?_|(constructor<;>intro hc<;>(try rw[hc])<;>(replace hc:=bp hc)<;>try(exfalso;omega))|fail)<;>conv=>whnf)
  exact AQ ⟨_,⟨rfl,vn,rfl⟩,hs⟩
 ·have hE:Cu k f true= {k with GY:=k.GY|||2 ^ f.cls.toNat}:=by rw[Cu,if_pos h2,if_pos rfl]
  rw[hE]
  conv=>whnf
  repeat'((first|apply st|(apply sq;intro K U)|(apply si;intro A B Y Z)|(apply Y;clear Z B Y A)|(apply U;clear U K)|apply dr|refine⟨rfl,?_⟩|refine ld ?_|refine FB fun σ hs=>?_|refine Er ?_|refine Pure.use (HR _ _ hn (by omega) (by omega)) ?_|(constructor<;>intro hc<;>(try rw[hc])<;>(replace hc:=bp hc)<;>try(exfalso;omega))|fail)<;>conv=>whnf)
  exact AQ ⟨_,⟨rfl,vn,rfl⟩,hs⟩
 ·have hE:Cu k f true= {k with low:=if f.n > k.low then f.n else k.low}:=by rw[Cu,if_neg (by omega),if_pos h3,if_pos rfl]
  rw[hE]
  conv=>whnf
  repeat'((first|apply st|(apply sq;intro K U)|(apply si;intro A B Y Z)|(apply Y;clear Z B Y A)|(apply U;clear U K)|apply dr|refine⟨rfl,?_⟩|refine ld ?_|refine FB fun σ hs=>?_|refine Er ?_|(constructor<;>intro hc<;>(try rw[hc])<;>(replace hc:=bp hc)<;>try(exfalso;omega))|fail)<;>conv=>whnf)
  exact AQ ⟨_,⟨rfl,vn,rfl⟩,hs⟩
 ·have hE:Cu k f true= {k with no:=k.no++[f.n]}:=by rw[Cu,if_neg (by omega),if_neg (by omega),if_pos rfl]
  rw[hE]
  conv=>whnf
  repeat'((first|apply st|(apply sq;intro K U)|(apply si;intro A B Y Z)|(apply Y;clear Z B Y A)|(apply U;clear U K)|apply dr|refine⟨rfl,?_⟩|refine ld ?_|refine FB fun σ hs=>?_|refine aq fun v σ hs hsl=>?_|(constructor<;>intro hc<;>(try rw[hc])<;>(replace hc:=bp hc)<;>try(exfalso;omega))|fail)<;>conv=>whnf)
  exact AQ ⟨_,⟨rfl,_,rfl⟩,hs⟩
def HO {σ:AH} {X:List At} {L:Nat} {pre post:List C8} {e:C8} (h:Sat σ (X++CH L (pre++e::post))):Sat σ (.box e.b [eI e.k.low,eI e.k.high,e.vn,eU e.k.CD,eU e.k.GY,.b e.k.whole,.b e.k.A9,e.vs]:: .own e.vn 1 (iL e.k.no):: .own e.vs 1 (iL e.k.AT)::(X++HN L (pre++e::post) pre post)):=by
 have h2:Sat σ (Sg e++(X++HN L (pre++e::post) pre post)):=h.perm ((List.Perm.append_left X (TL L pre post e)).trans (by rw[←UC,←UC];exact SE.append_right _));exact h2
def ES {σ:AH} {X:List At} {L:Nat} {pre post:List C8} {e e':C8} (h1:e'.a=e.a) (h2:e'.p=e.p) (h3:e'.b=e.b) (h:Sat σ (Sg e'++(X++HN L (pre++e::post) pre post))):Sat σ (X++CH L (pre++e'::post)):=by
 rw[←Rv h1 h2 h3]at h;exact h.perm ((List.Perm.append_left X (TL L pre post e')).trans (by rw[←UC,←UC];exact SE.append_right _)).symm
def IL {α:Type} (a b c:α) (l:List α):(a::b::c::l).Perm (b::c::a::l):=(List.Perm.swap _ _ _).trans (.cons _ (.swap _ _ _))
def L6 {α:Type} (a:α) (l:List α):(a::l).Perm (l++[a]):=(List.perm_append_singleton a l).symm
def fW (m:Nat) (k:Kn):Prop:=k.CD<18446744073709551616∧k.GY<18446744073709551616∧k.no.length≤m∧k.AT.length≤m
def eF (f:Fact) (c:Bool) (j:Nat) (a:Int) (p:List Int) (k:Kn):(Df f c j a p k).CD=k.CD:=by unfold Df;(repeat' split)<;>rfl
def jQ (f:Fact) (c:Bool) (j:Nat) (a:Int) (p:List Int) (k:Kn):(Df f c j a p k).GY=k.GY:=by unfold Df;(repeat' split)<;>rfl
def pA (f:Fact) (c:Bool) (j:Nat) (a:Int) (p:List Int) (k:Kn):(Df f c j a p k).no=k.no:=by unfold Df;(repeat' split)<;>rfl
def bO (f:Fact) (c:Bool) (j:Nat) (a:Int) (p:List Int) (k:Kn):(Df f c j a p k).AT.length≤k.AT.length+1:=by
 unfold Df
 repeat' split
 ·exact Qr _ _
 all_goals simp[Dm]
def o9 {m:Nat} {k:Kn} (h:fW m k) (f:Fact) (c:Bool) (j:Nat) (a:Int) (p:List Int):fW (m+1) (Df f c j a p k):=by
 obtain⟨h1,h2,h3,h4⟩:=h;refine⟨by rw[eF];exact h1,by rw[jQ];exact h2,by rw[pA];omega,?_⟩;have:=bO f c j a p k;omega
def QG {k:Kn} (c:Bool) (h:k.A9=true):Dm k c= {k with A9:=true}:=by simp[Dm,h]
def Oi {k:Kn} (c:Bool) (h:k.A9=false):Dm k c= {k with A9:= !c}:=by simp[Dm,h]
abbrev KI (a:Int) (p:List Int):List V:=[eI a,eI (p.length:Int),eI (p.getD 0 0),eI (p.getD 1 0)]
structure ZI (f:Fact):Prop where
 op:f.op=2∨f.op=3∨f.op=4
 path:f.path.length≤2
 cls:f.op=2→0≤f.cls∧f.cls<64
 n: -1000000000≤f.n∧f.n≤1000000000
set_option maxHeartbeats 2000000 in
def fS (w : AK) (us:List Nat) {kf:Int→List Int→Kn} {L:Nat} {es:List C8} (h:D0 kf es) (f:Fact) (c:Bool) (hl:ZI f) {m:Nat} (hm:m<1000) (hb: ∀a p,fW m (kf a p)) :
    Bk Tryz.prog 259 [SF w us L,.a (xF f++[.b c])] (CH L es) fun r post=>r= .ret (.t [])∧ ∃es',D0 (fun a p=>if a=f.arg∧p=f.path then Cu (Df f c f.path.length a p (kf a p)) f c else Df f c f.path.length a p (kf a p)) es'∧post=CH L es':=by
 intro σ hs;have hM:=Mx;obtain⟨l1,l2,l3,l4⟩:=hl;refine kD kZ ?_;rw[show xF f++[V.b c]= [eI f.op,eI f.arg,.l (iL f.path) false,eI f.cls,eI f.n,.l (f.kids.map Fx) false,.b c] from rfl]
 conv=>whnf
 repeat'((first|apply st|(apply sq;intro K U)|(apply si;intro A B Y Z)|(apply Y;clear Z B Y A)|(apply U;clear U K)|refine⟨kZ,?_⟩|refine ld ?_|refine Dy fun σ hs=>?_|(intro nn hnn;generalize hg:BA _ nn _=σ;refine Ct hg fun hs=>?_;clear hg)|fail)<;>conv=>whnf)
 generalize nn=nx at *;refine(Kb w us h (a:=f.arg) (p:=[]) (by simp)).use (rest:=[.box nx (KI f.arg [])]) (hs.perm (L6 _ _)) ?_;clear hs hnn;rintro r post σ ⟨es1,e1,got,rfl,rfl⟩ hs;have hek:=got.k;obtain⟨hea,hep⟩:=Jr.1 got.is;obtain⟨pre,post,rfl⟩:=List.append_of_mem got.mem;replace hs:=HO (X:=[.box nx (KI f.arg [])]) (hs.perm SE);cases hnd:e1.k.A9<;>rw[hnd]at hs
 all_goals
  conv=>whnf
  repeat'((first|apply st|(apply sq;intro K U)|(apply si;intro A B Y Z)|(apply Y;clear Z B Y A)|(apply U;clear U K)|refine ld ?_|refine FB fun σ hs=>?_|fail)<;>conv=>whnf)
  obtain⟨e2,es2,Y,Z,hC⟩: ∃(e2:C8) (es2:List C8),(D0 (fun a p=>Df f c 0 a p (kf a p)) es2∧e2∈es2∧e2.is f.arg (f.path.take 0)=true)∧e2.b=e1.b∧Sat σ (.box nx (KI f.arg (f.path.take 0))::CH L es2):=by
   refine⟨⟨e1.a,e1.p,e1.b,e1.vn,e1.vs,Dm e1.k c⟩,_,⟨(got.inv.change e1.b e1.vn e1.vs (Dm e1.k c)).congr fun a p=>?_,PH _ (.head _),got.is⟩,rfl,?_⟩
   ·rw[eC,SJ,hea,hep,hek]
    by_cases ha:a=f.arg∧p= []
    ·rw[if_pos ha,if_pos ha,ha.1,ha.2]
    ·rw[if_neg ha,if_neg ha]
   ·refine ES (X:=[.box nx (KI f.arg [])]) (e:=e1) rfl rfl rfl ?_
    first
     | (rw[QG c hnd];exact hs)
     | (rw[Oi c hnd];exact hs)
  rw[←Z];clear hs hnd got hek hea hep;refine B2 f.path.length (fun j (x:List C8×C8)=>[(31,eI (A4 j)),(5,.p x.2.b 0)]) (fun j x=> .box nx (KI f.arg (f.path.take j))::CH L x.1) (fun j x=>D0 (fun a p=>Df f c j a p (kf a p)) x.1∧x.2∈x.1∧x.2.is f.arg (f.path.take j)=true) (es2,e2) rfl Y hC ?_;clear Y hC;generalize e2.b=b0 at *;clear Z e2 es2;rintro j ⟨es2,e2⟩ σ hj ⟨hinv,hmem,his⟩ hs;simp only at hinv hmem his hs
  have hek:e2.k=Df f c j f.arg (f.path.take j) (kf f.arg (f.path.take j)):=by
   have:=hinv.val e2 hmem;obtain⟨h1,h2⟩:=Jr.1 his;rw[this,h1,h2]
  have hok:fW (m+1) e2.k:=by rw[hek];exact o9 (hb _ _) f c j _ _
  obtain⟨hea,hep⟩:=Jr.1 his;obtain⟨pre2,post2,rfl⟩:=List.append_of_mem hmem;replace hs:=HO (X:=[.box nx (KI f.arg (f.path.take j))]) hs;have hck:A4 j=j:=AL (by omega);rcases BC f.path hj with⟨s,hsj,hjlt⟩|hje
  ·have hct:=fun b=>Dv e2.k.AT b s
   have hk4:=hok.2.2.2;have hsl0:cR e2.k s= {e2.k with AT:=Iv e2.k.AT s}:=rfl
   have hne:f.path.take j++[s]≠f.path.take j:=by
    intro e;have:=congrArg List.length e;simp at this
   have hgd:f.path.getD j 0=s:=by rw[DY,hsj];rfl
   have htk:f.path.take (j+1)=f.path.take j++[s]:=AO hsj;cases hcB:e2.k.AT.contains s
   all_goals
    rw[hcB]at hct
    conv=>whnf
    repeat'((first|apply st|(apply sq;intro K U)|(apply si;intro A B Y Z)|(apply Y;clear Z B Y A)|(apply U;clear U K)|refine⟨rfl,?_⟩|refine⟨kZ,?_⟩|refine ix ?_|refine ld ?_|refine FB fun σ hs=>?_|refine Dy fun σ hs=>?_|refine aq fun v σ hs hsl=>?_|refine Er ?_|refine De ?_|(refine CK (fun hc=>?_)<;>(try rw[hc])<;>clear hc)|refine Pure.XK (hct false) (.cons (hs.Pm 2 rfl) (.cons (.refl _) .nil)) rfl ?_|refine Pure.use (NB f.arg (f.path.take j) s (by rw[KG];omega)) ?_|fail)<;>conv=>whnf)
   refine(Y5 (.inl hsl)).use (rest:=_) (hs.front (j:=2) rfl) ?_;clear hs;rintro r post σ ⟨rfl,rfl⟩ hs;replace hs:Sat σ (.box e2.b [eI e2.k.low,eI e2.k.high,e2.vn,eU e2.k.CD,eU e2.k.GY,.b e2.k.whole,.b e2.k.A9,v]:: .own e2.vn 1 (iL e2.k.no):: .own v 1 (iL ((e2.k.AT++[s]).mergeSort G8))::([.box nx (KI f.arg (f.path.take j))]++HN L (pre2++e2::post2) pre2 post2)):=hs.perm (IL _ _ _ _)
   conv=>whnf
   repeat'((first|(apply sq;intro K U)|(apply si;intro A B Y Z)|(apply Y;clear Z B Y A)|(apply U;clear U K)|refine⟨kZ,?_⟩|refine ld ?_|refine Dy fun σ hs=>?_|refine Pure.use (NB f.arg (f.path.take j) s (by rw[KG];omega)) ?_|fail)<;>conv=>whnf)
   have hs3: ∃vs3,Sat σ (.box nx (KI f.arg (f.path.take j++[s]))::CH L (pre2++⟨e2.a,e2.p,e2.b,e2.vn,vs3,cR e2.k s⟩::post2)):=⟨v,ES (X:=[_]) (e:=e2) rfl rfl rfl (by rw[hsl0,Iv,if_neg (by rw[hcB];decide)];exact hs)⟩
   rotate_left
   have hs3: ∃vs3,Sat σ (.box nx (KI f.arg (f.path.take j++[s]))::CH L (pre2++⟨e2.a,e2.p,e2.b,e2.vn,vs3,cR e2.k s⟩::post2)):=⟨e2.vs,ES (X:=[_]) (e:=e2) rfl rfl rfl (by rw[hsl0,Iv,if_pos hcB];exact hs)⟩
   all_goals
    clear hs;obtain⟨vs3,hs⟩:=hs3;have hinv3:=hinv.change e2.b e2.vn vs3 (cR e2.k s);refine(Kb w us hinv3 (a:=f.arg) (p:=f.path.take j++[s]) (by rw[PK,KG];simp;omega)).use (rest:=[.box nx (KI f.arg (f.path.take j++[s]))]) (hs.perm (L6 _ _)) ?_;clear hs;rintro r post σ ⟨es4,e4,got,rfl,rfl⟩ hs;have hek4:=got.k;obtain⟨hea4,hep4⟩:=Jr.1 got.is;obtain⟨pre4,post4,rfl⟩:=List.append_of_mem got.mem;replace hs:=HO (X:=[.box nx (KI f.arg (f.path.take j++[s]))]) (hs.perm SE);cases hnd:e4.k.A9<;>rw[hnd]at hs
    all_goals
     conv=>whnf
     repeat'((first|apply st|(apply si;intro A B Y Z)|(apply Y;clear Z B Y A)|(apply U;clear U K)|refine⟨rfl,?_⟩|refine ld ?_|refine FB fun σ hs=>?_|clear U K)<;>conv=>whnf)
     refine⟨hjlt,(pre4++⟨e4.a,e4.p,e4.b,e4.vn,e4.vs,Dm e4.k c⟩::post4,⟨e4.a,e4.p,e4.b,e4.vn,e4.vs,Dm e4.k c⟩),rfl,⟨(got.inv.change e4.b e4.vn e4.vs (Dm e4.k c)).congr fun a p=>?_,PH _ (.head _),by rw[htk];exact got.is⟩,?_⟩
     ·rw[eE f c hjlt,SJ,hea4,hep4,htk,hgd]
      by_cases h1:a=f.arg∧p=f.path.take j++[s]
      ·rw[if_pos h1,if_pos h1,hek4,SJ,hea,hep,if_neg (fun h=>hne h.2),h1.1,h1.2]
      ·rw[if_neg h1,if_neg h1,SJ,hea,hep]
       by_cases h2:a=f.arg∧p=f.path.take j
       ·rw[if_pos h2,if_pos h2,hek,h2.1,h2.2]
       ·rw[if_neg h2,if_neg h2]
     ·rw[htk]
      refine ES (X:=[.box nx (KI f.arg (f.path.take j++[s]))]) (e:=e4) rfl rfl rfl ?_
      first
       | (rw[QG c hnd];exact hs)
       | (rw[Oi c hnd];exact hs)
  ·have etk:f.path.take j=f.path:=Ar hje
   rw[etk]at his hs hek hep
   conv=>whnf
   repeat'((first|apply st|(apply sq;intro K U)|(apply si;intro A B Y Z)|(apply Y;clear Z B Y A)|(apply U;clear U K)|refine⟨rfl,?_⟩|refine⟨kZ,?_⟩|(refine DR (fun hc=>?_)<;>(try rw[hc])<;>clear hc)|clear U K)<;>conv=>whnf)
   refine(nM f c l1 l3 hok.1 hok.2.1 (by have:=hok.2.2.1;omega) l4).use (rest:=[.box nx (KI f.arg f.path)]++HN L (pre2++e2::post2) pre2 post2) hs ?_;rintro r post σ ⟨rfl,vn',rfl⟩ hs
   conv=>whnf
   repeat'((first|(apply Y;clear Z B Y A)|fail)<;>conv=>whnf)
   refine AQ ⟨_,⟨rfl,_,(hinv.change e2.b vn' e2.vs (Cu e2.k f c)).congr fun a p=>?_,rfl⟩,(ES (X:=[.box nx (KI f.arg f.path)]) (e:=e2) (e':=⟨e2.a,e2.p,e2.b,vn',e2.vs,Cu e2.k f c⟩) rfl rfl rfl hs).less (Ji _ _)⟩;rw[SJ,hea,hep,hek,←hje];by_cases h1:a=f.arg∧p=f.path
   ·rw[if_pos h1,if_pos h1,h1.1,h1.2]
   ·rw[if_neg h1,if_neg h1]
def nU (w:AK) (us:List Nat) {kf:Int→List Int→Kn} {L:Nat} {es:List C8} (h:D0 kf es) (l:Fact) (hl:ZI (A0 l).1) {m:Nat} (hm:m<1000) (hb: ∀a p,fW m (kf a p)) :
    Bk Tryz.prog 259 [SF w us L,.a (Jk l)] (CH L es) fun r post=>r= .ret (.t [])∧ ∃es',D0 (fun a p=>DI a p (kf a p) l) es'∧post=CH L es':=fun σ hs=>
 BJ.mono (fS w us h (A0 l).1 (A0 l).2 hl hm hb σ hs) fun r σ' ⟨post,⟨h1,es',h2,h3⟩,h4⟩=>⟨post,⟨h1,es',h2.congr fun a p=>(jR a p (kf a p) l).symm,h3⟩,h4⟩
def Ui (ls:List Fact):Prop:= ∀l∈ls,ZI (A0 l).1
def Zd {ls:List Fact} (h:Ui ls) (a:Int) (p:List Int):fW ls.length (kn ls a p):=by
 have hc:Ij 64 ls:=fun l hl ho=>(h l hl).cls ho
 obtain⟨h1,h2⟩:=eJ hc a p;obtain⟨h3,h4⟩:=Ze a p ls k0;exact⟨by simpa using h1,by simpa using h2,by simpa[kn,k0]using h3,by simpa[kn,k0]using h4⟩
def ur:D0 (kn []) []:=⟨fun x hx=>(by cases hx),fun a p _=>rfl,.nil,fun x hx=>(by cases hx)⟩
set_option maxHeartbeats 1000000 in
def aU (w:AK) (us:List Nat) (ls:List Fact) (b:Bool) (h:Ui ls) (hlen:ls.length<900) :
    Bk Tryz.prog 230 [.rp (wC w us),.l (FD ls) b] [] fun r post=> ∃L es,r= .ret (SF w us L)∧D0 (kn ls) es∧post=CH L es:=by
 intro σ hs;have hM:=Mx;refine ke kZ ?_
 conv=>whnf
 repeat'((first|apply st|(apply sq;intro K U)|(apply si;intro A B Y Z)|(apply Y;clear Z B Y A)|(apply U;clear U K)|(intro nn hnn;generalize hg:BA _ nn _=σ;refine Ct hg fun hs=>?_;clear hg)|fail)<;>conv=>whnf)
 generalize nn=L at *;refine B2 ls.length (fun k (x:List C8)=>[(14,eI (A4 k))]) (fun k x=>CH L x) (fun k x=>D0 (kn (ls.take k)) x) [] rfl ur hs ?_;clear hs hnn;rintro k es σ hk hinv hs;rcases BC ls hk with⟨l,hlk,hlt⟩|hke
 ·have hlm:l∈ls:=B5 hlk
  have htk:ls.take (k+1)=ls.take k++[l]:=AO hlk;have hbk: ∀a p,fW (ls.take k).length (kn (ls.take k) a p):=Zd fun x hx=>h x (List.mem_of_mem_take hx)
  conv=>whnf
  repeat'((first|apply st|(apply sq;intro K U)|(apply si;intro A B Y Z)|(apply Y;clear Z B Y A)|(apply U;clear U K)|refine⟨rfl,?_⟩|refine⟨kZ,?_⟩|refine ix ?_|refine ld ?_|refine Dy fun σ hs=>?_|(refine CK (fun hc=>?_)<;>(try rw[hc])<;>clear hc)|(intro nn hnn;generalize hg:BA _ nn _=σ;refine Ct hg fun hs=>?_;clear hg)|fail)<;>conv=>whnf)
  rename_i nb hnb _ hs;generalize nn=n7 at *;refine(nU w us hinv l (h l hlm) (m:=(ls.take k).length) (by rw[KG];omega) hbk).use (rest:=[.box n7 (Jk l)]) (hs.perm (L6 _ _)) ?_;clear hs;rintro r post σ ⟨rfl,es',hinv',rfl⟩ hs
  conv=>whnf
  repeat'((first|(apply si;intro A B Y Z)|(apply Y;clear Z B Y A)|(apply U;clear U K)|refine⟨rfl,?_⟩|clear U K)<;>conv=>whnf)
  refine⟨hlt,es',rfl,?_,hs.less (List.sublist_append_left _ _)⟩;rw[htk];exact hinv'.congr fun a p=>(eH _ _ _ _).symm
 ·have etk:ls.take k=ls:=Ar hke
  rw[etk]at hinv
  conv=>whnf
  repeat'((first|apply st|(apply sq;intro K U)|(apply si;intro A B Y Z)|(apply Y;clear Z B Y A)|(apply U;clear U K)|refine⟨rfl,?_⟩|(refine DR (fun hc=>?_)<;>(try rw[hc])<;>clear hc)|clear U K)<;>conv=>whnf)
  exact AQ ⟨_,⟨L,es,rfl,hinv,rfl⟩,hs⟩
structure Iw (w:AK) (kf:Int→List Int→Kn):Prop where
 ok: ∀a p,fW 1000 (kf a p)
 low: ∀a p,-1000000000≤(kf a p).low∧(kf a p).low≤1000000000
 short: ∀a p,2≤p.length→(kf a p).AT= []
 AT: ∀a p,∀s∈(kf a p).AT,0≤s∧s<w.owner.length
abbrev Hx (L:Nat) (pre post:List C8) (e:C8) (s:List C8):List At:=
 .box e.b [eI e.k.low,eI e.k.high,e.vn,eU e.k.CD,eU e.k.GY,.b e.k.whole,.b e.k.A9,e.vs]:: .own e.vn 1 (iL e.k.no)::HN L (pre++e::(post++s)) pre (post++s)
def n6 {σ:AH} {L:Nat} {pre post:List C8} {e:C8} {s:List C8} (h:Sat σ (CH L (pre++e::(post++s)))):Sat σ (.own e.vs 1 (iL e.k.AT)::Hx L pre post e s):=
 (HO (X:=[]) h).perm ((IL _ _ _ _).symm)
def gu {σ:AH} {L:Nat} {pre post:List C8} {e:C8} {s:List C8} (h:Sat σ (.own e.vs 1 (iL e.k.AT)::Hx L pre post e s)):Sat σ (CH L (pre++e::(post++s))):=
 ES (X:=[]) (e:=e) (e':=e) rfl rfl rfl (h.perm (IL _ _ _ _))
def Nc (kf:Int→List Int→Kn) (L:Nat) (es:List C8) (post:List At):Prop:= ∃es',PR es es'∧D0 kf es'∧post=CH L es'
def eg (w:AK) (us:List Nat) {kf:Int→List Int→Kn} {L:Nat} {pre post:List C8} {e:C8} {a:Int} {p:List Int} (hp:p.length<2) :
    MR Tryz.prog (.f (.func 290) [] [.rp [SF w us L],.rp (KI a p)]) eI (fun s=> .own e.vs 1 (iL e.k.AT)::Hx L pre post e s) (fun y=> !(kf a (p++[y])).A9) (fun s=>D0 kf (pre++e::(post++s))∧ ∀x∈s,x.k=k0) (fun _=>True):=by
 rintro y s - ⟨hj,hj0⟩ σ hs;refine Bp ?_;show BJ Tryz.prog 290 ([]++[eI y]++[.rp [SF w us L],.rp (KI a p)]) σ _;refine jj kZ ?_
 conv=>whnf
 repeat'((first|apply st|(apply sq;intro K U)|(apply si;intro A B Y Z)|(apply Y;clear Z B Y A)|(apply U;clear U K)|apply dr|refine rk ?_ ?_|exact fun s e=>by cases e;rfl|refine⟨kZ,?_⟩|refine Pure.use (NB a p y hp) ?_|fail)<;>conv=>whnf)
 refine(Kb w us hj (a:=a) (p:=p++[y]) (by simp;omega)).use (rest:=[]) (by simpa using gu hs) ?_;clear hs;rintro r post' σ ⟨es4,e4,got,rfl,rfl⟩ hs;have hek4:=got.k;obtain⟨new,he4,hnew⟩:=got.ext;have hinv:=got.inv;obtain⟨pre4,post4,he5⟩:=List.append_of_mem got.mem;rw[Ig,he5]at hs;replace hs:=HO (X:=[]) hs
 conv=>whnf
 repeat'((first|apply st|(apply Y;clear Z B Y A)|(apply U;clear U K)|apply dr|refine ld ?_|fail)<;>conv=>whnf)
 refine AQ ⟨by rw[hek4],s++new,⟨?_,fun x hx=>?_⟩,?_⟩
 ·rw[he4]at hinv
  simpa using hinv
 ·rcases Fs.1 hx with hx|hx
  ·exact hj0 x hx
  ·exact hnew x hx
 ·have h2:=ES (X:=[]) (e:=e4) (e':=e4) rfl rfl rfl hs
  rw[←he5,he4]at h2;refine n6 ?_;simpa using h2
def ei (w:AK) (us:List Nat) {kf:Int→List Int→Kn} (hr:Iw w kf) {L:Nat} {es:List C8} (h:D0 kf es) {a:Int} {p:List Int} (hp:p.length≤2) :
    Bk Tryz.prog 288 [SF w us L,Ed a p] (CH L es) fun r post=>r= .ret (.b (Ng kf a p))∧Nc kf L es post:=by
 intro σ hs;have hM:=Mx;refine jl kZ ?_
 conv=>whnf
 repeat'((first|apply st|(apply sq;intro K U)|(apply si;intro A B Y Z)|(apply Y;clear Z B Y A)|(apply U;clear U K)|refine⟨kZ,?_⟩|fail)<;>conv=>whnf)
 refine(Kb w us h (a:=a) (p:=p) hp).use (rest:=[]) (by simpa using hs) ?_;clear hs;rintro r post σ ⟨es4,e4,got,rfl,rfl⟩ hs;have hek:=got.k;obtain⟨pre,post,rfl⟩:=List.append_of_mem got.mem;rw[Ig]at hs;replace hs:=HO (X:=[]) hs;have hsl:=(hr.ok a p).2.2.2;have hsh:=hr.short a p;rw[←hek]at hsl hsh
 have hst:p.length<2∨e4.k.AT= []:=by
  rcases Nat.lt_or_ge p.length 2 with h'|h'
  ·exact .inl h'
  ·exact .inr (hsh h')
 have hE:Ng kf a p=e4.k.AT.all fun y=> !(kf a (p++[y])).A9:=by rw[Ng,hek]
 conv=>whnf
 repeat'((first|refine ld ?_|fail)<;>conv=>whnf)
 have hall:Bk Tryz.prog 177 [e4.vs,.f (.func 290) [] [.rp [SF w us L],.rp (KI a p)]] (.own e4.vs 1 (iL e4.k.AT)::Hx L pre post e4 []) fun r post'=>r= .ret (.b (e4.k.AT.all fun y=> !(kf a (p++[y])).A9))∧ ∃s',(D0 kf (pre++e4::(post++s'))∧ ∀x∈s',x.k=k0)∧post'= .own e4.vs 1 (iL e4.k.AT)::Hx L pre post e4 s':=by
  rcases hst with h'|h'
  ·exact W6 290 [] [.rp [SF w us L],.rp (KI a p)] (Hx L pre post e4) _ _ _ (eg w us h') (fun _ _=>trivial) (by omega) [] ⟨by simpa using got.inv,by simp⟩
  ·exact W6 290 [] [.rp [SF w us L],.rp (KI a p)] (Hx L pre post e4) _ _ (fun _=>False) (fun y s hf=>hf.elim) (fun x hx=>by rw[h']at hx;cases hx) (by omega) [] ⟨by simpa using got.inv,by simp⟩
 refine hall.use (rest:=[]) (by
  have h2:=n6 (L:=L) (pre:=pre) (post:=post) (e:=e4) (s:=[]) (by simpa using ES (X:=[]) (e:=e4) (e':=e4) rfl rfl rfl hs)
  simpa using h2) ?_
 clear hs;rintro r post' σ ⟨rfl,s',⟨hi,hn⟩,rfl⟩ hs
 conv=>whnf
 repeat'((first|apply st|(apply Y;clear Z B Y A)|(apply U;clear U K)|fail)<;>conv=>whnf)
 refine AQ ⟨_,⟨by rw[hE],pre++e4::(post++s'),got.ext.trans ⟨s',by simp,hn⟩,hi,rfl⟩,gu (by simpa using hs)⟩
def cH {m u:Nat} (hm:m<18446744073709551616):(NW m u=0)↔PM m u=true:=by
 rw[Nz (by simpa using hm)];constructor
 ·intro h b hb
  have hlt:b<64:=by
   rcases Nat.lt_or_ge b 64 with h'|h'
   ·exact h'
   ·rw[Nat.testBit_lt_two_pow (Nat.lt_of_lt_of_le hm (by simpa using Nat.pow_le_pow_right (n:=2) (by decide) h'))]at hb;cases hb
  have:=OL (a:=m) (b:=u) hlt;rw[h,Nat.zero_testBit,hb]at this;simpa using this
 ·intro h
  refine Nat.eq_of_testBit_eq fun i=>?_
  rw[Nat.zero_testBit];rcases Nat.lt_or_ge i 64 with hlt|hge
  ·rw[OL hlt]
   cases hb:m.testBit i with
   | false=>rfl
   | true=>rw[h i hb];rfl
  ·exact Nat.testBit_lt_two_pow (Nat.lt_of_lt_of_le (Rr _ _) (by simpa using Nat.pow_le_pow_right (n:=2) (by decide) hge))
def TA (w:AK) (us:List Nat) {kf:Int→List Int→Kn} (hr:Iw w kf) {L:Nat} {es:List C8} (h:D0 kf es) {a:Int} {p:List Int} (hp:p.length≤2) (c:Nat) (hc:c<64) :
    Bk Tryz.prog 284 [SF w us L,Ed a p,eI c] (CH L es) fun r post=>r= .ret (.b (Hp kf a p c))∧Nc kf L es post:=by
 intro σ hs;refine jo kZ ?_
 conv=>whnf
 repeat'((first|apply st|(apply sq;intro K U)|(apply si;intro A B Y Z)|(apply Y;clear Z B Y A)|(apply U;clear U K)|refine⟨kZ,?_⟩|fail)<;>conv=>whnf)
 refine(Kb w us h (a:=a) (p:=p) hp).use (rest:=[]) (by simpa using hs) ?_;clear hs;rintro r post σ ⟨es4,e4,got,rfl,rfl⟩ hs;have hek:=got.k;obtain⟨pre,post,rfl⟩:=List.append_of_mem got.mem;rw[Ig]at hs;replace hs:=HO (X:=[]) hs;have hok:=hr.ok a p;rw[←hek]at hok;have hu:1|||2 ^ c<18446744073709551616:=KV (by decide) (Jp hc)
 have hb1:bits .andNot .u64 (e4.k.CD:Int) ((1|||2 ^ c:Nat):Int)=((NW e4.k.CD (1|||2 ^ c):Nat):Int):=Qi;have hb2:bits .and .u64 (e4.k.GY:Int) ((1|||2 ^ c:Nat):Int)=((e4.k.GY&&&(1|||2 ^ c):Nat):Int):=K5 hok.2.1 hu;have hb3:=cH (u:=1|||2 ^ c) hok.1;have F:Hp kf a p c=(PM e4.k.CD (1|||2 ^ c)&&(e4.k.GY&&&(1|||2 ^ c)==0&&Ng kf a p)):=by rw[Hp,hek]
 conv=>whnf
 repeat'((first|apply st|(apply sq;intro K U)|(apply si;intro A B Y Z)|(apply Y;clear Z B Y A)|(apply U;clear U K)|refine⟨rfl,?_⟩|refine⟨kZ,?_⟩|refine ld ?_|refine Pure.use (V1 1 c (by decide) hc) ?_|(constructor<;>intro hc<;>(try rw[hc])<;>(replace hc:=bp hc))|fail)<;>conv=>whnf)
 ·have h1:PM e4.k.CD (1|||2 ^ c)=true:=hb3.1 (by omega)
  have h2:(e4.k.GY&&&(1|||2 ^ c)==0)=true:=by rw[Dx];omega
  refine(ei w us hr got.inv hp).use (rest:=[]) (by simpa using ES (X:=[]) (e:=e4) (e':=e4) rfl rfl rfl hs) ?_;clear hs;rintro r post' σ ⟨rfl,es5,hx,hi,rfl⟩ hs
  conv=>whnf
  repeat'((first|apply st|(apply Y;clear Z B Y A)|(apply U;clear U K)|fail)<;>conv=>whnf)
  exact AQ ⟨_,⟨by rw[F,h1,h2];rfl,es5,got.ext.trans hx,hi,rfl⟩,by simpa using hs⟩
 ·have h2:(e4.k.GY&&&(1|||2 ^ c)==0)=false:=by rw[beq_eq_false_iff_ne];omega
  exact AQ ⟨_,⟨by rw[F,h2];simp,_,got.ext,got.inv,rfl⟩,by simpa using ES (X:=[]) (e:=e4) (e':=e4) rfl rfl rfl hs⟩
 ·have h1:PM e4.k.CD (1|||2 ^ c)=false:=by
   rw[←Bool.not_eq_true,←hb3];omega
  exact AQ ⟨_,⟨by rw[F,h1];simp,_,got.ext,got.inv,rfl⟩,by simpa using ES (X:=[]) (e:=e4) (e':=e4) rfl rfl rfl hs⟩
def Ov (w:AK) (us:List Nat) {kf:Int→List Int→Kn} (hr:Iw w kf) {L:Nat} {es:List C8} (h:D0 kf es) {a:Int} {p:List Int} (hp:p.length≤2) :
    Bk Tryz.prog 278 [SF w us L,Ed a p] (CH L es) fun r post=>r= .ret (.t [eI (Jq (kf a p)),.b (Q6 kf a p)])∧Nc kf L es post:=by
 intro σ hs;have hM:=Mx;refine jv kZ ?_
 conv=>whnf
 repeat'((first|apply st|(apply sq;intro K U)|(apply si;intro A B Y Z)|(apply Y;clear Z B Y A)|(apply U;clear U K)|refine⟨kZ,?_⟩|fail)<;>conv=>whnf)
 refine(Kb w us h (a:=a) (p:=p) hp).use (rest:=[]) (by simpa using hs) ?_;clear hs;rintro r post σ ⟨es4,e4,got,rfl,rfl⟩ hs;have hek:=got.k;obtain⟨pre,post,rfl⟩:=List.append_of_mem got.mem;rw[Ig]at hs;replace hs:=HO (X:=[]) hs;have hok:=hr.ok a p;have hlo:=hr.low a p;rw[←hek]at hok hlo;have hno:=hok.2.2.1;have hle:=Wh e4.k.no e4.k.low;have hL:Jq (kf a p)=G9 e4.k.no (from_ e4.k.no e4.k.low) e4.k.low:=by rw[Jq,←hek];exact W7 hle (JT _)
 conv=>whnf
 repeat'((first|apply st|(apply sq;intro K U)|(apply si;intro A B Y Z)|(apply Y;clear Z B Y A)|(apply U;clear U K)|refine ld ?_|fail)<;>conv=>whnf)
 refine Fo (fun n:Int=>from_ e4.k.no n) (fun n=>[(7,eI n)]) (fun _=> .box e4.b [eI e4.k.low,eI e4.k.high,e4.vn,eU e4.k.CD,eU e4.k.GY,.b e4.k.whole,.b e4.k.A9,e4.vs]:: .own e4.vn 1 (iL e4.k.no):: .own e4.vs 1 (iL e4.k.AT)::([]++HN L (pre++e4::post) pre post)) (fun n=> -1000000000≤n∧n+from_ e4.k.no n≤1000001000∧Jq (kf a p)=G9 e4.k.no (from_ e4.k.no n) n) e4.k.low rfl ⟨by omega,by omega,hL⟩ hs ?_;clear hs hL hle;rintro n σ ⟨hn0,hn1,hL⟩ hs;have hct2:=fun b=>Dv e4.k.no b n
 cases hcB:e4.k.no.contains n<;>rw[hcB]at hct2
 ·have hout:n∉e4.k.no:=by simpa using hcB
  rw[fQ hout]at hL;have hI:Q6 kf a p=(decide (n≤e4.k.high)&&Hp kf a p 1):=by rw[Q6,hL,hek]
  conv=>whnf
  repeat'((first|apply st|(apply sq;intro K U)|(apply si;intro A B Y Z)|(apply Y;clear Z B Y A)|(apply U;clear U K)|refine⟨rfl,?_⟩|refine⟨kZ,?_⟩|refine ld ?_|refine Pure.XK (hct2 false) (.cons (hs.Pm 1 rfl) (.cons (.refl _) .nil)) rfl ?_|(constructor<;>intro hc<;>(try rw[hc])<;>(replace hc:=bp hc))|clear U K)<;>conv=>whnf)
  all_goals
   have hsc:Sat σ (CH L (pre++e4::post)):=by simpa using ES (X:=[]) (e:=e4) (e':=e4) rfl rfl rfl hs
  ·refine(TA w us hr got.inv hp 1 (by decide)).use (rest:=[]) (by simpa using hsc) ?_
   clear hs hsc;rintro r post' σ ⟨rfl,es5,hx,hi,rfl⟩ hs
   conv=>whnf
   repeat'((first|apply st|(apply Y;clear Z B Y A)|(apply U;clear U K)|fail)<;>conv=>whnf)
   exact AQ ⟨_,⟨by rw[hL,hI,decide_eq_true (by assumption)];rfl,es5,got.ext.trans hx,hi,rfl⟩,by simpa using hs⟩
  ·exact AQ ⟨_,⟨by rw[hL,hI,decide_eq_false (by omega)];rfl,_,got.ext,got.inv,rfl⟩,hsc⟩
 ·have hin:n∈e4.k.no:=by simpa using hcB
  have hlt:=Rm hin;have hwr:IntKind.i64.wrap (n+1)=n+1:=wrap64 (by omega) (by omega);obtain⟨m,hm⟩: ∃m,from_ e4.k.no n=m+1:=⟨from_ e4.k.no n - 1,by omega⟩
  have hL2:Jq (kf a p)=G9 e4.k.no (from_ e4.k.no (n+1)) (n+1):=by rw[hL,hm,nT hin];exact W7 (by omega) (JT _)
  conv=>whnf
  repeat'((first|apply st|(apply sq;intro K U)|(apply si;intro A B Y Z)|(apply Y;clear Z B Y A)|(apply U;clear U K)|refine⟨rfl,?_⟩|refine ld ?_|refine Pure.XK (hct2 false) (.cons (hs.Pm 1 rfl) (.cons (.refl _) .nil)) rfl ?_|clear U K)<;>conv=>whnf)
  exact⟨n+1,hlt,by rw[hwr];rfl,⟨by omega,by omega,hL2⟩,hs⟩
def WQ (w:AK) (us:List Nat) {kf:Int→List Int→Kn} (hr:Iw w kf) {L:Nat} {es:List C8} (h:D0 kf es) {a:Int} {p:List Int} (hp:p.length≤2) :
    Bk Tryz.prog 279 [SF w us L,Ed a p] (CH L es) fun r post=>r= .ret (.b (KW kf a p))∧Nc kf L es post:=by
 intro σ hs;refine ju kZ ?_
 conv=>whnf
 repeat'((first|apply st|(apply sq;intro K U)|(apply si;intro A B Y Z)|(apply Y;clear Z B Y A)|(apply U;clear U K)|refine⟨kZ,?_⟩|fail)<;>conv=>whnf)
 refine(Kb w us h (a:=a) (p:=p) hp).use (rest:=[]) (by simpa using hs) ?_;clear hs;rintro r post σ ⟨es4,e4,got,rfl,rfl⟩ hs;have hek:=got.k;obtain⟨pre,post,rfl⟩:=List.append_of_mem got.mem;rw[Ig]at hs;have hsc:=hs;replace hs:=HO (X:=[]) hs;have hN:KW kf a p=(!e4.k.whole&&Hp kf a p 2):=by rw[KW,hek]
 cases hw:e4.k.whole<;>rw[hw]at hs hN
 ·conv=>whnf
  repeat'((first|apply st|refine⟨kZ,?_⟩|refine ld ?_|refine Er ?_|fail)<;>conv=>whnf)
  refine(TA w us hr got.inv hp 2 (by decide)).use (rest:=[]) (by simpa using hsc) ?_;clear hs hsc;rintro r post' σ ⟨rfl,es5,hx,hi,rfl⟩ hs
  conv=>whnf
  repeat'((first|apply st|(apply Y;clear Z B Y A)|(apply U;clear U K)|fail)<;>conv=>whnf)
  exact AQ ⟨_,⟨by rw[hN];rfl,es5,got.ext.trans hx,hi,rfl⟩,by simpa using hs⟩
 ·conv=>whnf
  repeat'((first|apply st|(apply Y;clear Z B Y A)|(apply U;clear U K)|refine ld ?_|refine De ?_|fail)<;>conv=>whnf)
  exact AQ ⟨_,⟨by rw[hN];rfl,_,got.ext,got.inv,rfl⟩,hsc⟩
def RG {σ:AH} {X:List At} {L:Nat} {pre post:List C8} {e:C8} {s:List C8} (h:Sat σ (X++CH L (pre++e::(post++s)))):Sat σ (.own e.vs 1 (iL e.k.AT)::(X++Hx L pre post e s)):=by
 have h2:=HO h;refine h2.perm ((IL _ _ _ _).symm.trans (.cons _ ?_));exact(List.perm_middle.trans (.cons _ List.perm_middle)).symm
def fA {σ:AH} {X:List At} {L:Nat} {pre post:List C8} {e:C8} {s:List C8} (h:Sat σ (.own e.vs 1 (iL e.k.AT)::(X++Hx L pre post e s))):Sat σ (X++CH L (pre++e::(post++s))):=by
 refine ES (X:=X) (e:=e) (e':=e) rfl rfl rfl ?_;refine h.perm ?_;refine List.Perm.trans (.cons _ (List.perm_middle.trans (.cons _ List.perm_middle))) ?_;exact IL _ _ _ _
def Wc (s:Nat) (c:Int) (hs0:s<18446744073709551616) (h0:0≤c) (hc:c<64):Pure Tryz.prog 152 [eU s,eI c] (.b (s.testBit c.toNat)):=by
 have:=Nq s c.toNat hs0 (by omega);rw[Int.toNat_of_nonneg h0]at this;exact this
def cI {m:Nat} (hm:m<18446744073709551616):NW m 1=HI m:=by
 refine Nat.eq_of_testBit_eq fun i=>?_
 rw[TS];rcases Nat.lt_or_ge i 64 with hlt|hge
 ·rw[OL hlt,show(1:Nat)=2 ^ 0 from rfl,Nat.testBit_two_pow]
  congr 2;rw[LW,Ce,Dx];omega
 ·have h64:18446744073709551616≤2 ^ i:=by simpa using Nat.pow_le_pow_right (n:=2) (by decide) hge
  rw[Nat.testBit_lt_two_pow (Nat.lt_of_lt_of_le (Rr _ _) h64),Nat.testBit_lt_two_pow (Nat.lt_of_lt_of_le hm h64)];rfl
set_option maxHeartbeats 4000000 in
def QE (w : AK) (hw:CQ w) {kf:Int→List Int→Kn} (hr:Iw w kf) {a:Int} {p:List Int} (hp:p.length≤2) (can:Int→Bool)
    (hcan: ∀s∈(kf a p).AT,∀L es,D0 kf es→Bk Tryz.prog 260 [SF w (CE w.parents) L,Ed a (p++[s])] (CH L es) fun r post=>r= .ret (.b (can s))∧Nc kf L es post) {L:Nat} {es:List C8} (h:D0 kf es) :
    Bk Tryz.prog 280 [SF w (CE w.parents) L,Ed a p] (CH L es) fun r post=>r= .ret (.t [eU (Mm w (kf a p) (fun s=>(kf a (p++[s])).A9) can).1,.b (Mm w (kf a p) (fun s=>(kf a (p++[s])).A9) can).2])∧Nc kf L es post:=by
 intro σ hs;have hM:=Mx;generalize hus:CE w.parents=us at *;refine jt kZ ?_
 conv=>whnf
 repeat'((first|apply st|(apply sq;intro K U)|(apply si;intro A B Y Z)|(apply Y;clear Z B Y A)|(apply U;clear U K)|refine⟨kZ,?_⟩|fail)<;>conv=>whnf)
 refine(Kb w us h (a:=a) (p:=p) hp).use (rest:=[]) (by simpa using hs) ?_;clear hs;rintro r post σ ⟨es4,e4,got,rfl,rfl⟩ hs;have hek:=got.k;obtain⟨pre,post,rfl⟩:=List.append_of_mem got.mem;rw[Ig]at hs;have hsc:=hs;replace hs:=HO (X:=[]) hs;have hok:=hr.ok a p;have hsl:=(hr.ok a p).2.2.2;have hsh:=hr.short a p;have hsw:=hr.AT a p;rw[←hek]at hok hsl hsh hsw hcan;have hO:Mm w (kf a p) (fun s=>(kf a (p++[s])).A9) can=Mm w e4.k (fun s=>(kf a (p++[s])).A9) can:=by rw[hek]
 have hOn:(e4.k.whole=true∨e4.k.CD.testBit 1=true∨e4.k.CD.testBit 2=true∨e4.k.GY.testBit 0=true)→Mm w (kf a p) (fun s=>(kf a (p++[s])).A9) can=(0,false):=fun h=>by
  rw[hO,Mm,if_pos];rcases h with h|h|h|h<;>rw[h]<;>simp
 have hOy:e4.k.whole=false→e4.k.CD.testBit 1=false→e4.k.CD.testBit 2=false→e4.k.GY.testBit 0=false→Mm w (kf a p) (fun s=>(kf a (p++[s])).A9) can=match IP w (fun s=>(kf a (p++[s])).A9) can e4.k.AT (e4.k.CD,e4.k.GY)with
  | none=>(0,false)
  | some u=>(HI (Dd (CE w.parents) w.parents.length u.1),HI (Dd (CE w.parents) w.parents.length u.1)&&&u.2==0):=fun h1 h2 h3 h4=>by
  rw[hO,Mm,h1,h2,h3,h4];rfl
 clear hO;cases hb0:e4.k.whole<;>rw[hb0]at hs
 rotate_left
 ·conv=>whnf
  repeat'((first|apply st|(apply sq;intro K U)|(apply si;intro A B Y Z)|(apply Y;clear Z B Y A)|(apply U;clear U K)|apply dr|refine ld ?_|clear U K)<;>conv=>whnf)
  exact AQ ⟨_,⟨by rw[hOn (.inl hb0)];rfl,_,got.ext,got.inv,rfl⟩,hsc⟩
 ·conv => whnf
  repeat'((first|apply st|(apply sq;intro K U)|(apply si;intro A B Y Z)|(apply Y;clear Z B Y A)|(apply U;clear U K)|apply dr|refine lo ?_|refine ld ?_|refine Pure.use (Nq e4.k.CD 1 hok.1 (by decide)) ?_|refine Pure.use (Nq e4.k.CD 2 hok.1 (by decide)) ?_|refine Pure.use (Nq e4.k.GY 0 hok.2.1 (by decide)) ?_|(constructor<;>intro hc<;>(try rw[hc])<;>(replace hc:=bp hc))|clear U K)<;>conv=>whnf)
  all_goals first
   | exact AQ ⟨_,⟨by rw[hOn (by first|exact .inl (by assumption)|exact .inr (.inl (by assumption))|exact .inr (.inr (.inl (by assumption)))|exact .inr (.inr (.inr (by assumption))))];rfl,_,got.ext,got.inv,rfl⟩,hsc⟩
   | skip
  replace hOy:=hOy hb0 (by assumption) (by assumption) (by assumption);clear hOn;generalize hnf:(fun s=>(kf a (p++[s])).A9)=A9 at *
  have hs1:Sat σ (.own e4.vs 1 (iL e4.k.AT)::Hx L pre post e4 []):=by
   have h2:=RG (X:=[]) (L:=L) (pre:=pre) (post:=post) (e:=e4) (s:=[]) (by simpa using hsc);simpa using h2
  refine B2 e4.k.AT.length (fun k (x:(Nat×Nat)×List C8)=>[(47,eI (A4 k)),(7,eU x.1.1),(8,eU x.1.2)]) (fun k x=> .own e4.vs 1 (iL e4.k.AT)::Hx L pre post e4 x.2) (fun k x=>(x.1.1<18446744073709551616∧x.1.2<18446744073709551616)∧(D0 kf (pre++e4::(post++x.2))∧ ∀y∈x.2,y.k=k0)∧IP w A9 can e4.k.AT (e4.k.CD,e4.k.GY)=IP w A9 can (e4.k.AT.drop k) x.1) ((e4.k.CD,e4.k.GY),[]) rfl ⟨⟨hok.1,hok.2.1⟩,⟨by simpa using got.inv,by simp⟩,rfl⟩ hs1 ?_;clear hs hs1 hsc;rintro k ⟨⟨m,no⟩,new⟩ σ hk ⟨⟨hm,hno⟩,⟨hinv,hnew⟩,hF⟩ hs;simp only at hm hno hinv hnew hF hs;have hck:A4 k=k:=AL (by have:=hok.2.2.2;omega);rcases BC e4.k.AT hk with⟨s,hsk,hlt⟩|hke
  ·have hsm:=B5 hsk
   have hp2:p.length<2:=by
    rcases Nat.lt_or_ge p.length 2 with h'|h'
    ·exact h'
    ·rw[hsh h']at hsm;cases hsm
   obtain⟨hs0,hs1⟩:=hsw s hsm;rw[drop_cons hsk,IP]at hF
   conv=>whnf
   repeat'((first|apply st|(apply sq;intro K U)|(apply si;intro A B Y Z)|(apply Y;clear Z B Y A)|(apply U;clear U K)|apply dr|refine⟨rfl,?_⟩|refine⟨kZ,?_⟩|refine ld ?_|refine Dy fun σ hs=>?_|refine oi ?_|refine ol fun x hx=>?_|(refine CK (fun hc=>?_)<;>(try rw[hc])<;>clear hc)|refine Pure.use (NB a p _ hp2) ?_|(intro nn hnn;generalize hg:BA _ nn _=σ;refine Ct hg fun hs=>?_;clear hg)|fail)<;>conv=>whnf)
   obtain rfl:x=s:=by rw[hck,KF,hsk]at hx;exact(Option.some.inj hx).symm
   generalize nn=n7 at *;have hs2:Sat σ ([.box n7 (KI a (p++[x]))]++CH L (pre++e4::(post++new))):=fA (X:=[.box n7 (KI a (p++[x]))]) (hs.perm (.swap _ _ _));clear hs;obtain⟨o,ho⟩: ∃o,w.owner[x.toNat]? =some o:=⟨_,DJ (by omega)⟩
   have hoI:CV w x=o:=by simp only[CV,DY,ho];rfl
   obtain⟨ho1,ho2⟩:=hw.2.2 o (B5 ho);have hwp:=hw.1.1;have hcx:=hcan x hsm L;cases hnx:A9 x<;>cases hcy:can x
   all_goals
    rw[hcy]at hcx;rw[Vq,hnx,hcy,hoI]at hF;refine(Kb w us hinv (a:=a) (p:=p++[x]) (by simp;omega)).use (rest:=[.box n7 (KI a (p++[x]))]) (hs2.perm SE) ?_;clear hs2;rintro r post' σ ⟨es5,e5,got5,rfl,rfl⟩ hs;have hek5:e5.k.A9=A9 x:=by rw[got5.k,←hnf]
    rw[hnx]at hek5;obtain⟨newA,heA,hnA⟩:=got5.ext;obtain⟨pre5,post5,he5⟩:=List.append_of_mem got5.mem;rw[he5]at hs;replace hs:=HO (X:=[.box n7 (KI a (p++[x]))]) (hs.perm SE);rw[hek5]at hs
    conv=>whnf
    repeat'((first|apply dr|refine rk ?_ ?_|exact fun s e=>by cases e;rfl|refine⟨kZ,?_⟩|refine ld ?_|fail)<;>conv=>whnf)
    have hs2:Sat σ ([.box n7 (KI a (p++[x]))]++CH L (pre5++e5::post5)):=ES (X:=[.box n7 (KI a (p++[x]))]) (e:=e5) (e':=e5) rfl rfl rfl (by rw[←hek5]at hs;exact hs);clear hs;refine(hcx es5 got5.inv).use (rest:=[.box n7 (KI a (p++[x]))]) (by rw[he5];exact hs2.perm SE) ?_;clear hs2;rintro r post' σ ⟨rfl,es6,⟨new6,he6,hn6⟩,hi6,rfl⟩ hs;have he7:es6=pre5++e5::(post5++new6):=by rw[he6,he5];simp
    rw[he7]at hs;replace hs:=HO (X:=[.box n7 (KI a (p++[x]))]) (hs.perm SE);rw[hek5]at hs
    conv=>whnf
    repeat'((first|apply st|(apply sq;intro K U)|(apply si;intro A B Y Z)|(apply Y;clear Z B Y A)|(apply U;clear U K)|apply dr|refine rk ?_ ?_|exact fun s e=>by cases e;rfl|refine⟨rfl,?_⟩|refine GX ?_|refine ld ?_|refine Er ?_|refine De ?_|refine Pure.use (HR m o hm (by omega) (by omega)) ?_|refine Pure.use (HR no o hno (by omega) (by omega)) ?_|clear U K)<;>conv=>whnf)
    simp only[Bool.not_false,Bool.not_true,Bool.and_true,Bool.and_false,LS,if_false,if_true,Option.bind_some,Option.bind_none]at hF;have e7:es6=pre++e4::(post++(new++newA++new6)):=by rw[he6,heA];simp
    have hs2:Sat σ ([.box n7 (KI a (p++[x]))]++CH L (pre5++e5::(post5++new6))):=ES (X:=[.box n7 (KI a (p++[x]))]) (e:=e5) (e':=e5) rfl rfl rfl (by rw[←hek5]at hs;exact hs)
    have hs3:Sat σ (CH L (pre++e4::(post++(new++newA++new6)))):=by
     rw[←he7,e7]at hs2;exact hs2.less (List.sublist_append_right _ _)
    have hi7:D0 kf (pre++e4::(post++(new++newA++new6))):=by rw[←e7];exact hi6
    have hn7: ∀y∈new++newA++new6,y.k=k0:=fun y hy=>by
     rcases Fs.1 hy with hy|hy
     ·rcases Fs.1 hy with hy|hy
      ·exact hnew y hy
      ·exact hnA y hy
     ·exact hn6 y hy
    have hob:2 ^ o.toNat<18446744073709551616:=Jp (by omega)
   ·exact⟨hlt,((m,no|||2 ^ o.toNat),new++newA++new6),rfl,⟨⟨hm,KV hno hob⟩,⟨hi7,hn7⟩,hF⟩,RG (X:=[]) hs3⟩
   ·exact⟨hlt,((m,no),new++newA++new6),rfl,⟨⟨hm,hno⟩,⟨hi7,hn7⟩,hF⟩,RG (X:=[]) hs3⟩
   ·rw[hF]at hOy
    exact AQ ⟨_,⟨by rw[hOy];rfl,_,got.ext.trans ⟨_,by simp,hn7⟩,hi7,rfl⟩,hs3⟩
   ·exact⟨hlt,((m|||2 ^ o.toNat,no),new++newA++new6),rfl,⟨⟨KV hm hob,hno⟩,⟨hi7,hn7⟩,hF⟩,RG (X:=[]) hs3⟩
  ·rw [Ah hke,IP]at hF
   rw[hF]at hOy;simp only at hOy
   conv=>whnf
   repeat'((first|apply st|(apply sq;intro K U)|(apply si;intro A B Y Z)|(apply Y;clear Z B Y A)|(apply U;clear U K)|refine⟨rfl,?_⟩|(refine DR (fun hc=>?_)<;>(try rw[hc])<;>clear hc)|clear U K)<;>conv=>whnf)
   have hu:nh us:=by rw[←hus];exact HS _ _ (by have:=hw.1.1;omega)
   have hul:us.length=3+w.parents.length:=by rw[←hus];exact Eh _ _
   have hwp:=hw.1.1;have hwl:IntKind.i64.wrap (3+((Ec w.parents).length:Nat))=3+(w.parents.length:Int):=by rw[BQ,wrap64 (by omega) (by omega)]
   refine B2 w.parents.length (fun k (x:Nat)=>[(14,eI (KQ 3 k)),(7,eU x)]) (fun _ _=> .own e4.vs 1 (iL e4.k.AT)::Hx L pre post e4 new) (fun k x=>x<18446744073709551616∧x=Dd us k m) m rfl ⟨hm,rfl⟩ hs ?_;clear hs;clear hke hck hk k;rintro k x σ hk ⟨hx64,hxe⟩ hs;have hc3:KQ 3 k=3+k:=NL (by omega) (by omega);by_cases hlt:k<w.parents.length
   ·have hbt:Dd us (k+1) m=if x.testBit (KQ 3 k).toNat then x|||us.getD (3+k) 0 else x:=by
     rw[Dd,←hxe,hc3,show(3+(k:Int)).toNat=3+k by omega]
    have hup:(List.drop ((KQ 3 k).toNat*1) (List.drop 2 (wC w us)))[0]? =some (eU (us.getD (3+k) 0)):=by
     rw[cO,cO,←Vo w us (i:=3+k) (by omega)];congr 1;omega
    conv=>whnf
    repeat'((first|apply st|(apply sq;intro K U)|(apply si;intro A B Y Z)|(apply Y;clear Z B Y A)|(apply U;clear U K)|refine⟨rfl,?_⟩|refine nv ?_|(rw[hup])|refine Pure.use (Wc x (KQ 3 k) hx64 (by omega) (by omega)) ?_|(constructor<;>intro hc<;>(try rw[hc])<;>(replace hc:=bp hc)<;>(try simp(disch:=omega) only[BQ,wrap64,AL]at hc)<;>try(exfalso;omega))|clear U K)<;>conv=>whnf)
    ·refine⟨hlt,x|||us.getD (3+k) 0,?_,⟨KV hx64 (Li hu _),by rw[hbt,if_pos (by assumption)]⟩,hs⟩
     rw[Kl hx64 (Li hu _)];rfl
    ·exact⟨hlt,x,rfl,⟨hx64,by rw[hbt,if_neg (by rw[‹x.testBit _=false›];decide)]⟩,hs⟩
   ·have hke:k=w.parents.length:=by omega
    rw[hus,←hke,←hxe]at hOy
    have Y:bits .andNot .u64 (x:Int) 1=((HI x:Nat):Int):=by
     have:=Qi (a:=x) (b:=1);rw[cI hx64]at this;exact this
    have hcl:HI x<18446744073709551616:=by unfold HI;omega
    have Z:bits .and .u64 ((HI x:Nat):Int) (no:Int)=((HI x&&&no:Nat):Int):=K5 hcl hno
    conv=>whnf
    repeat'((first|apply st|(apply sq;intro K U)|(apply si;intro A B Y Z)|(apply Y;clear Z B Y A)|(apply U;clear U K)|refine⟨rfl,?_⟩|(constructor<;>intro hc<;>(try rw[hc])<;>(replace hc:=bp hc)<;>(try simp(disch:=omega) only[BQ,wrap64,AL]at hc)<;>try(exfalso;omega))|clear U K)<;>conv=>whnf)
    rw[Y,Z];refine AQ ⟨_,⟨?_,_,got.ext.trans ⟨new,by simp,hnew⟩,hinv,rfl⟩,gu hs⟩;rw[hOy]
    have hz:(((HI x&&&no:Nat):Int)==0)=(HI x&&&no==0):=by
     rw[LW,Dx,Dx];omega
    rw[←hz]
def nG (w:AK) (hw:CQ w) {kf:Int→List Int→Kn} (hr:Iw w kf) (a:Int): ∀(d:Nat) (p:List Int),p.length+d=2→ ∀(L:Nat) (es:List C8),D0 kf es→
    Bk Tryz.prog 260 [SF w (CE w.parents) L,Ed a p] (CH L es) fun r post=>r= .ret (.b (Mo w kf a d p))∧Nc kf L es post:=by
 intro d
 induction d with
 | zero=>
   intro p hp L es h σ hs;have hint:=Ov w (CE w.parents) hr h (L:=L) (a:=a) (p:=p) (by omega);have hnone:=fun es h=>WQ w (CE w.parents) hr (es:=es) h (L:=L) (a:=a) (p:=p) (by omega)
   have hobj:=fun es h=>QE w hw hr (a:=a) (p:=p) (by omega) (fun _=>false) (by rw[hr.short a p (by omega)];intro s hs;cases hs) (L:=L) (es:=es) h
   rw[Mo];cases hI:Q6 kf a p<;>cases hN:KW kf a p<;>rw[hI]at hint<;>rw[hN]at hnone
   all_goals
    refine Zo kZ ?_
    conv=>whnf
    repeat'((first|apply st|(apply sq;intro K U)|(apply si;intro A B Y Z)|(apply Y;clear Z B Y A)|(apply U;clear U K)|refine⟨kZ,?_⟩|fail)<;>conv=>whnf)
    refine hint.use (rest:=[]) (by simpa using hs) ?_;clear hs;rintro r post σ ⟨rfl,es2,hx2,hi2,rfl⟩ hs;rw[Ig]at hs
    conv=>whnf
    repeat'((first|apply st|(apply sq;intro K U)|(apply si;intro A B Y Z)|(apply Y;clear Z B Y A)|(apply U;clear U K)|refine⟨kZ,?_⟩|clear U K)<;>conv=>whnf)
   rotate_left 2
   ·exact AQ ⟨_,⟨rfl,es2,hx2,hi2,rfl⟩,hs⟩
   ·exact AQ ⟨_,⟨rfl,es2,hx2,hi2,rfl⟩,hs⟩
   all_goals
    refine(hnone es2 hi2).use (rest:=[]) (by simpa using hs) ?_;clear hs;rintro r post σ ⟨rfl,es3,hx3,hi3,rfl⟩ hs;rw[Ig]at hs
    conv=>whnf
    repeat'((first|apply st|(apply sq;intro K U)|(apply si;intro A B Y Z)|(apply Y;clear Z B Y A)|(apply U;clear U K)|refine⟨kZ,?_⟩|refine Er ?_|refine De ?_|clear U K)<;>conv=>whnf)
   rotate_left 1
   ·exact AQ ⟨_,⟨rfl,es3,hx2.trans hx3,hi3,rfl⟩,hs⟩
   ·refine(hobj es3 hi3).use (rest:=[]) (by simpa using hs) ?_
    clear hs;rintro r post σ ⟨rfl,es4,hx4,hi4,rfl⟩ hs;rw[Ig]at hs
    conv=>whnf
    repeat'((first|apply st|(apply sq;intro K U)|(apply si;intro A B Y Z)|(apply Y;clear Z B Y A)|(apply U;clear U K)|fail)<;>conv=>whnf)
    exact AQ ⟨_,⟨rfl,es4,(hx2.trans hx3).trans hx4,hi4,rfl⟩,hs⟩
 | succ d ih=>
   intro p hp L es h σ hs;have hint:=Ov w (CE w.parents) hr h (L:=L) (a:=a) (p:=p) (by omega);have hnone:=fun es h=>WQ w (CE w.parents) hr (es:=es) h (L:=L) (a:=a) (p:=p) (by omega)
   have hobj:=fun es h=>QE w hw hr (a:=a) (p:=p) (by omega) (fun s=>Mo w kf a d (p++[s])) (fun s hs L es h=>ih (p++[s]) (by simp;omega) L es h) (L:=L) (es:=es) h
   rw[Mo];cases hI:Q6 kf a p<;>cases hN:KW kf a p<;>rw[hI]at hint<;>rw[hN]at hnone
   all_goals
    refine Zo kZ ?_
    conv=>whnf
    repeat'((first|apply st|(apply sq;intro K U)|(apply si;intro A B Y Z)|(apply Y;clear Z B Y A)|(apply U;clear U K)|refine⟨kZ,?_⟩|fail)<;>conv=>whnf)
    refine hint.use (rest:=[]) (by simpa using hs) ?_;clear hs;rintro r post σ ⟨rfl,es2,hx2,hi2,rfl⟩ hs;rw[Ig]at hs
    conv=>whnf
    repeat'((first|apply st|(apply sq;intro K U)|(apply si;intro A B Y Z)|(apply Y;clear Z B Y A)|(apply U;clear U K)|refine⟨kZ,?_⟩|clear U K)<;>conv=>whnf)
   rotate_left 2
   ·exact AQ ⟨_,⟨rfl,es2,hx2,hi2,rfl⟩,hs⟩
   ·exact AQ ⟨_,⟨rfl,es2,hx2,hi2,rfl⟩,hs⟩
   all_goals
    refine(hnone es2 hi2).use (rest:=[]) (by simpa using hs) ?_;clear hs;rintro r post σ ⟨rfl,es3,hx3,hi3,rfl⟩ hs;rw[Ig]at hs
    conv=>whnf
    repeat'((first|apply st|(apply sq;intro K U)|(apply si;intro A B Y Z)|(apply Y;clear Z B Y A)|(apply U;clear U K)|refine⟨kZ,?_⟩|refine Er ?_|refine De ?_|clear U K)<;>conv=>whnf)
   rotate_left 1
   ·exact AQ ⟨_,⟨rfl,es3,hx2.trans hx3,hi3,rfl⟩,hs⟩
   ·refine(hobj es3 hi3).use (rest:=[]) (by simpa using hs) ?_
    clear hs;rintro r post σ ⟨rfl,es4,hx4,hi4,rfl⟩ hs;rw[Ig]at hs
    conv=>whnf
    repeat'((first|apply st|(apply sq;intro K U)|(apply si;intro A B Y Z)|(apply Y;clear Z B Y A)|(apply U;clear U K)|fail)<;>conv=>whnf)
    exact AQ ⟨_,⟨rfl,es4,(hx2.trans hx3).trans hx4,hi4,rfl⟩,hs⟩
abbrev gO:V:= .KJ 257 (.a [])
def aP (w:AK) (hw:CQ w) {kf:Int→List Int→Kn} (hr:Iw w kf) {L:Nat} {es:List C8} (h:D0 kf es) :
    Bk Tryz.prog 231 [SF w (CE w.parents) L] (CH L es) fun r post=>r=(if Yu w kf then .ret (.t [])else .C2 gO)∧post= []:=by
 intro σ hs;refine kY kZ ?_
 conv=>whnf
 repeat'((first|apply st|(apply sq;intro K U)|(apply si;intro A B Y Z)|(apply Y;clear Z B Y A)|(apply U;clear U K)|fail)<;>conv=>whnf)
 refine B2 3 (fun k (x:List C8)=>[(3,eI (A4 k))]) (fun k x=>CH L x) (fun k x=>D0 kf x∧Yu w kf=((Bi 3).drop k).all fun a=>Mo w kf a 2 []) es rfl ⟨h,rfl⟩ hs ?_;clear hs h;rintro k es σ hk ⟨h,hn⟩ hs;have hck:A4 k=k:=AL (by simp only[Af];omega);have hl3:(Bi 3).length=3:=rfl;rcases BC (Bi 3) hk with⟨a,ha,hlt⟩|hke
 ·rw[drop_cons ha,My]at hn
  have hak:a=A4 k:=by
   rw[hck];simp only[Bi,Pc,List.getElem?_range (show k<3 from hlt),Yk]at ha;exact(Option.some.inj ha).symm
  subst hak;have hcan:=nG w hw hr (A4 k) 2 [] rfl L es h;cases hC:Mo w kf (A4 k) 2 []<;>rw[hC]at hcan hn
  all_goals
   conv=>whnf
   repeat'((first|apply st|(apply sq;intro K U)|(apply si;intro A B Y Z)|(apply Y;clear Z B Y A)|(apply U;clear U K)|refine⟨rfl,?_⟩|(constructor<;>intro hc<;>(try rw[hc])<;>(replace hc:=bp hc)<;>(try simp(disch:=omega) only[BQ,wrap64,AL]at hc)<;>try(exfalso;omega))|fail)<;>conv=>whnf)
   refine hcan.use (rest:=[]) (by simpa using hs) ?_;clear hs;rintro r post σ ⟨rfl,es2,hx2,hi2,rfl⟩ hs;rw[Ig]at hs
   conv=>whnf
   repeat'((first|apply st|(apply si;intro A B Y Z)|(apply Y;clear Z B Y A)|(refine Z _ _ _ ?_;clear Z B Y A)|(apply U;clear U K)|refine⟨rfl,?_⟩|refine Er ?_|refine De ?_|clear U K)<;>conv=>whnf)
  ·exact DO ⟨_,⟨by rw[hn];rfl,rfl⟩,hs.less (LR _)⟩
  ·exact⟨by omega,es2,rfl,⟨hi2,by simpa using hn⟩,hs⟩
 ·rw[Ah hke]at hn
  conv=>whnf
  repeat'((first|apply st|(apply sq;intro K U)|(apply si;intro A B Y Z)|(apply Y;clear Z B Y A)|(apply U;clear U K)|refine⟨rfl,?_⟩|(constructor<;>intro hc<;>(try rw[hc])<;>(replace hc:=bp hc)<;>(try simp(disch:=omega) only[BQ,wrap64,AL]at hc)<;>try(exfalso;omega))|clear U K)<;>conv=>whnf)
  exact AQ ⟨_,⟨by rw[hn];rfl,rfl⟩,hs.less (LR _)⟩
def W8 {w:AK} {ls:List Fact} (hw:w.parents.length≤60) (h: ∀x∈ls,Ib w x):Ui ls:=by
 intro l hl;obtain⟨-,hc,hsm,hsh⟩:=I1 h;obtain⟨-,hn,hlf⟩:=HX (h l hl);exact⟨F2 hlf,hsh l hl,fun ho=>by have:=hc l hl ho;omega,hsm l hl⟩
def jS {ls:List Fact} (h:Jo ls) (a:Int) (p:List Int): -1000000000≤(kn ls a p).low∧(kn ls a p).low≤1000000000:=by
 have key: ∀(ls:List Fact) (k:Kn),Jo ls→(-1000000000≤k.low∧k.low≤1000000000)→ -1000000000≤(ls.foldl (DI a p) k).low∧(ls.foldl (DI a p) k).low≤1000000000:=by
  intro ls
  induction ls with
  | nil=>intro k _ h;exact h
  | cons l r ih=>
    intro k hs hk;refine ih _ (fun x hx=>hs x (.tail _ hx)) ?_;have hn:=hs l (.head _);unfold DI Cu Dm cR
    repeat' split
    all_goals first
     | exact hk
     | exact hn
     | (simp only;exact hk)
     | (simp only;exact hn)
 exact key ls k0 h ⟨by decide,by decide⟩
def WG {w:AK} {ls:List Fact} (h: ∀x∈ls,Ib w x):Hq w.owner.length ls:=by
 intro l hl s hs;obtain⟨-,hn,-⟩:=HX (h l hl);rw[Ch,BY]at hn;have:=hn.1;simp only[DB,Es,BY,EN,HM,Ce]at this;exact this.2.2.2.2.1.1 s hs
def dY {w:AK} (hw:CQ w) {ls:List Fact} (h: ∀x∈ls,Ib w x) (hlen:ls.length<900):Iw w (kn ls):=by
 have hadd:=W8 (by have:=hw.1.1;omega) h;obtain⟨-,-,hsm,hsh⟩:=I1 h;have hp:=WG h;refine⟨fun a p=>?_,jS hsm,fun a p hpl=>?_,fun a p s hs=>?_⟩
 ·obtain⟨h1,h2,h3,h4⟩:=Zd hadd a p
  exact⟨h1,h2,by omega,by omega⟩
 ·rw[Kz hp]
  exact Lx hsh hpl
 ·rw[Kz hp]at hs
  exact JJ hs
def iH {w:AK} (hw:CQ w) {ls:List Fact} (h: ∀x∈ls,Ib w x):Yu w (kn ls)=Gs w ls:=by
 obtain⟨-,hc,-,-⟩:=I1 h;refine iI ?_ (fun s h0 h1=>?_) (by have:=hw.1.1;omega) (fun l hl ho=>by have:=hc l hl ho;omega) (WG h)
 ·exact JM hw.1
 ·obtain⟨o,ho⟩: ∃o,w.owner[s.toNat]? =some o:=⟨_,DJ (by omega)⟩
  have hoI:CV w s=o:=by simp only[CV,DY,ho];rfl
  rw[hoI];exact hw.2.2 o (B5 ho)
def ep {σ:AH} {n:Nat} {x:V} {rest:List At} (hs:Sat σ (.box n [x]::rest)) {Q:AH→Prop} (hq: ∀σ',Sat σ' (.box n [.b false]::rest)→Q σ'):Ms Tryz.prog 229 [.p n 0] (some gO) σ Q:=by
 refine Wr kZ ?_
 conv=>whnf
 repeat'((first|apply st|(apply sq;intro K U)|(apply si;intro A B Y Z)|(apply Y;clear Z B Y A)|(apply U;clear U K)|refine FB fun σ hs=>?_|refine Dy fun σ hs=>?_|refine gi rfl ?_|(intro nn hnn;generalize hg:BA _ nn _=σ;refine Ct hg fun hs=>?_;clear hg)|fail)<;>conv=>whnf)
 exact hq _ (hs.less (Ji _ _))
def er {σ:AH} {n:Nat} {x:V} {rest:List At} (hs:Sat σ (.box n [x]::rest)) {Q:AH→Prop} (hq: ∀σ',Sat σ' (.box n [x]::rest)→Q σ'):Ms Tryz.prog 229 [.p n 0] none σ Q:=by
 refine Wr kZ ?_
 conv=>whnf
 repeat'((first|apply st|(apply sq;intro K U)|(apply si;intro A B Y Z)|(apply Y;clear Z B Y A)|(apply U;clear U K)|refine⟨rfl,?_⟩|refine Dy fun σ hs=>?_|(intro nn hnn;generalize hg:BA _ nn _=σ;refine Ct hg fun hs=>?_;clear hg)|fail)<;>conv=>whnf)
 exact hq _ (hs.less (Ji _ _))
attribute [local irreducible] Ms
def Td (w:AK) (hw:CQ w) (ls:List Fact) (b:Bool) (hl: ∀x∈ls,Ib w x) (hlen:ls.length<900):Pure Tryz.prog 183 [.rp (wC w (CE w.parents)),.l (FD ls) b] (.b (Gs w ls)):=by
 refine Pure.of ?_;refine lT kZ ?_;have hs:=Sn
 conv=>whnf
 repeat'((first|(apply sq;intro K U)|(apply si;intro A B Y Z)|(apply Y;clear Z B Y A)|(apply U;clear U K)|(intro nn hnn;generalize hg:BA _ nn _=σ;refine Ct hg fun hs=>?_;clear hg)|fail)<;>conv=>whnf)
 refine(aU w (CE w.parents) ls b (W8 (by have:=hw.1.1;omega) hl) hlen).use (rest:=[.box nn [.b false]]) (by simpa using hs) ?_;clear hs;rintro r post σ ⟨L,es,rfl,hinv,rfl⟩ hs;have hwh:=aP w hw (dY hw hl hlen) hinv (L:=L);rw[iH hw hl]at hwh;cases ht:Gs w ls<;>rw[ht]at hwh
 all_goals
  conv=>whnf
  refine hwh.use (rest:=[.box nn [.b false]]) hs ?_;clear hs;rintro r post σ ⟨rfl,rfl⟩ hs
  conv=>whnf
  repeat'((first|apply st|(apply sq;intro K U)|(apply si;intro A B Y Z)|(apply Y;clear Z B Y A)|(refine Z _ _ _ ?_;clear Z B Y A)|(apply U;clear U K)|refine FB fun σ hs=>?_|clear U K)<;>conv=>whnf)
 ·refine ep (rest:=[]) hs fun σ hs=>?_
  conv=>whnf
  repeat'((first|refine ld ?_|fail)<;>conv=>whnf)
  exact AQ (by rw[ht];rfl)
 ·refine er (rest:=[]) (x:= .b true) hs fun σ hs=>?_
  conv=>whnf
  repeat'((first|refine ld ?_|fail)<;>conv=>whnf)
  exact AQ (by rw[ht];rfl)
end Go.Gl
