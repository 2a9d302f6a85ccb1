import Derived.Test.YtijbpgdmpejgoaaGreatProg
import Derived.KernelRfl
import Derived.Test.YtijbpgdmpejgoaaGreatS5
import Derived.Test.YtijbpgdmpejgoaaGreatS13
set_option linter.all false
noncomputable section
namespace Go.Gl
def I1 (no:List Int):Nat→Int→Int
 | 0,n=>n
 | k+1,n=>if no.contains n then I1 no k (n+1)else n
def from_ (no:List Int) (n:Int):Nat:=(no.filter fun x=>decide (n≤x)).length
theorem S6 {no:List Int} {n:Int} (h:n∈no):from_ no (n+1)<from_ no n:=by
 induction no with
 | nil=>cases h
 | cons x r ih=>
   simp only[from_,List.filter_cons]at ih ⊢;by_cases hx:x=n
   ·subst hx
    have hle:(r.filter fun y=>decide (x+1≤y)).length≤(r.filter fun y=>decide (x≤y)).length:=by
     refine List.Sublist.length_le ?_
     have e:(r.filter fun y=>decide (x+1≤y))=(r.filter fun y=>decide (x≤y)).filter fun y=>decide (x+1≤y):=by
      rw[List.filter_filter];refine List.filter_congr fun y _=>?_
      rw[KZ,Bj,D4,D4];omega
     rw[e];exact List.filter_sublist
    rw[if_neg (by simp<;>omega),if_pos (by simp),OB];omega
   ·have h':n∈r:=by
     rcases IC.1 h with e|e
     ·exact absurd e.symm hx
     ·exact e
    have:=ih h';by_cases h1:n≤x
    ·rw[if_pos (by rw[D4];omega),if_pos (by rw[D4];omega),OB,OB]
     omega
    ·rw[if_neg (by rw[D4];omega),if_neg (by rw[D4];omega)]
     omega
theorem YC (no:List Int) (n:Int):from_ no n≤no.length:=TU _ _
theorem L9 {no:List Int}: ∀(k:Nat) (n:Int),from_ no n≤k→n≤I1 no k n∧I1 no k n∉no∧ ∀j,n≤j→j<I1 no k n→j∈no
 | 0,n,h=>by
   refine⟨Int.le_refl _,fun hm=>?_,fun j h1 h2=>by simp only[I1]at h2;omega⟩;have:=S6 hm;simp only[I1]at this;omega
 | k + 1,n,h=>by
   rw[I1];split
   ·rename_i hc
    rw[List.contains_iff_mem]at hc;have hlt:=S6 hc;obtain⟨h1,h2,h3⟩:=L9 (no:=no) k (n+1) (by omega);refine⟨by omega,h2,fun j hj1 hj2=>?_⟩;by_cases e:j=n
    ·subst e;exact hc
    ·exact h3 j (by omega) hj2
   ·rename_i hc
    exact⟨Int.le_refl _,fun hm=>hc (List.contains_iff_mem.2 hm),fun j h1 h2=>by omega⟩
theorem yw {no:List Int} {k:Nat} {n:Int} (h:n∈no):I1 no (k+1) n=I1 no k (n+1):=by rw[I1,if_pos (List.contains_iff_mem.2 h)]
theorem mV {no:List Int} {k:Nat} {n:Int} (h:n∉no):I1 no k n=n:=by
 cases k with
 | zero=>rfl
 | succ k=>rw[I1,if_neg (fun hc=>h (List.contains_iff_mem.1 hc))]
theorem Yc {no:List Int} {k k':Nat} {n:Int} (h:from_ no n≤k) (h':from_ no n≤k'):I1 no k n=I1 no k' n:=by
 obtain⟨a1,a2,a3⟩:=L9 k n h;obtain⟨b1,b2,b3⟩:=L9 k' n h';rcases Int.lt_trichotomy (I1 no k n) (I1 no k' n)with hl|he|hg
 ·exact absurd (b3 _ a1 hl) a2
 ·exact he
 ·exact absurd (a3 _ b1 hg) b2
def Kl (k:Kn):Int:=I1 k.no k.no.length k.low
def Oy (kf:Int→List Int→Kn) (a:Int) (p:List Int):Bool:=(kf a p).AK.all fun s=> !(kf a (p++[s])).A4
def IK (kf:Int→List Int→Kn) (a:Int) (p:List Int) (c:Nat):Bool:=QO (kf a p).CL (1|||2 ^ c)&&((kf a p).Gu&&&(1|||2 ^ c)==0&&Oy kf a p)
def R9 (kf:Int→List Int→Kn) (a:Int) (p:List Int):Bool:=decide (Kl (kf a p)≤(kf a p).high)&&IK kf a p 1
def LP (kf:Int→List Int→Kn) (a:Int) (p:List Int):Bool:= !(kf a p).whole&&IK kf a p 2
def N3 (w:AM) (kf:Int→List Int→Kn) (a:Int):Nat→List Int→Bool
 | 0,p=>R9 kf a p||(LP kf a p||(Ny w (kf a p) (fun s=>(kf a (p++[s])).A4) (fun _=>false)).2)
 | d+1,p=>R9 kf a p||(LP kf a p||(Ny w (kf a p) (fun s=>(kf a (p++[s])).A4) (fun s=>N3 w kf a d (p++[s]))).2)
def aW (w:AM) (kf:Int→List Int→Kn):Bool:=(C8 3).all fun a=>N3 w kf a 2 []
theorem YK {n:Nat} {ls:List Fact} (h:IL n ls) (a:Int) (p:List Int):Oy (kn ls) a p=Gx n ls a p:=by
 rw[Oy,Gx,L0 h];congr 1;funext s;rw[M6,Bool.not_not]
theorem cB {n m:Nat} {ls:List Fact} (hn:n≤64) (hc:JF n ls) (h:IL m ls) (a:Int) (p:List Int):R9 (kn ls) a p=((LK ls a p).isSome&&Gx m ls a p):=by
 have hcore:=OQ ls a p;have hc2:JF n (ls.filter (I8 a p)):=fun l hl=>hc l (Rr.1 hl).1
 simp only[FK,Prod.mk.injEq]at hcore;obtain⟨c1,c2,c3,c4,c5,-⟩:=hcore;rw[R9,IK,YK h,c4,c5,←Bool.and_assoc (QO _ _),ZK hn hc2,←Bool.and_assoc];congr 1;have hf:=RX (ls.filter (I8 a p)) k0;rw[LK,show t0=(k0.low,k0.high,k0.no) from rfl,hf,Kl,c2,c3,c1];obtain⟨h1,h2,h3⟩:=L9 (no:=(E0 (ls.filter (I8 a p)) k0).no) _ (E0 (ls.filter (I8 a p)) k0).low (YC _ _);have hs:=dK (high:=(E0 (ls.filter (I8 a p)) k0).high) h1 h2 h3;cases(ls.filter (I8 a p)).all fun l=>tF (BV l)with
 | false=>simp
 | true=>rw[if_pos rfl,Option.bind_some,hs,Bool.and_true]
theorem X0 {n m:Nat} {ls:List Fact} (hn:n≤64) (hc:JF n ls) (h:IL m ls) (a:Int) (p:List Int):LP (kn ls) a p=KH m ls a p:=by
 have hcore:=OQ ls a p;have hc2:JF n (ls.filter (I8 a p)):=fun l hl=>hc l (Rr.1 hl).1
 simp only[FK,Prod.mk.injEq]at hcore;obtain⟨-,-,-,c4,c5,c6⟩:=hcore;rw[LP,IK,YK h,c4,c5,c6,KH,←Wj hn hc2];simp only[Bool.and_assoc]
theorem cW {w:AM} {ls:List Fact} (ho:ordered w.parents) (how: ∀s:Int,0≤s→s<w.owner.length→3≤EK w s∧EK w s<3+w.parents.length) (hn:3+w.parents.length≤64) (hc:JF (3+w.parents.length) ls) (hp:IL w.owner.length ls) (a:Int): ∀(d:Nat) (p:List Int),N3 w (kn ls) a d p=On w ls a d p
 | 0,p=>by
   rw[N3,On,cB hn hc hp,X0 hn hc hp,m7 ho how hc hp fun s=>M6 ls a (p++[s])]
 | d+1,p=>by
   rw[N3,On,cB hn hc hp,X0 hn hc hp,m7 ho how hc hp fun s=>M6 ls a (p++[s])];have e:(fun s=>N3 w (kn ls) a d (p++[s]))=fun s=>On w ls a d (p++[s]):=funext fun s=>cW ho how hn hc hp a d (p++[s])
   rw[e]
theorem th {w:AM} {ls:List Fact} (ho:ordered w.parents) (how: ∀s:Int,0≤s→s<w.owner.length→3≤EK w s∧EK w s<3+w.parents.length) (hn:3+w.parents.length≤64) (hc:JF (3+w.parents.length) ls) (hp:IL w.owner.length ls):aW w (kn ls)=IG w ls:=by
 rw[aW,IG];congr 1;funext a;exact cW ho how hn hc hp a 2 []
end Go.Gl
namespace Go.Gl
open Go.Proofs
attribute [local irreducible] Be BQ BH Ae AR BC Af Ag AT A7 AZ Ad Bk Bx Sat Au Bs BI W
section
variable {S:Type} (g:FuncId) (fi ca:List V) (H:S→List At) (f:Int→Bool) (J:S→Prop) (D:Int→Prop)
theorem Qc {v:V} {xs:List Int} (hst:NV Tryz.prog (.f (.func g) fi ca) eI (fun s=> .own v 1 (iL xs)::H s) f J D) (hD: ∀x∈xs,D x) (hxl:xs.length≤Ai) (s0:S) (hj0:J s0) :
 B9 Tryz.prog 103 [v,.f (.func g) fi ca] (.own v 1 (iL xs)::H s0) fun r post=>r= .ret (eI (NT f xs 0))∧ ∃s',J s'∧post= .own v 1 (iL xs)::H s':=by
 intro σ hs;have hM:=Mx;refine cR nb ?_
 conv=>whnf
 repeat'((first|apply st|(apply sq;intro K U)|(apply si;intro A B Y Z)|(apply Y;clear Z B Y A)|(apply U;clear U K)|refine lo ?_|fail)<;>conv=>whnf)
 refine Cn xs.length (fun k (_:S)=>[(8,eI (BJ k))]) (fun _ s=> .own v 1 (iL xs)::H s) (fun k s=>J s∧NT f xs 0=NT f (xs.drop k) k) s0 rfl ⟨hj0,rfl⟩ hs ?_;clear hs hj0;rintro k s σ hk ⟨hj,hn⟩ hs;have hck:BJ k=k:=AP (by omega);rcases Bo xs hk with⟨y,hy,hlt⟩|hke
 ·rw[drop_cons hy]at hn
  have hDy:=hD y (DM hy);rw[NT]at hn
  conv=>whnf
  repeat'((first|apply st|(apply sq;intro K U)|(apply si;intro A B Y Z)|(apply Y;clear Z B Y A)|(apply U;clear U K)|refine⟨rfl,?_⟩|refine oi ?_|refine ol fun x hx=>?_|(refine D0 (fun hc=>?_)<;>(try rw[hc])<;>clear hc)|fail)<;>conv=>whnf)
  obtain rfl:x=y:=by rw[hck,LG,hy]at hx;exact(Option.some.inj hx).symm
  refine hst.use hDy hj hs ?_;clear hs hj;intro s σ hj hs;cases hyes:f x
  ·rw[hyes,if_neg (by decide)]at hn
   conv=>whnf
   repeat'((first|apply st|(apply si;intro A B Y Z)|(apply Y;clear Z B Y A)|(apply U;clear U K)|refine⟨rfl,?_⟩|clear U K)<;>conv=>whnf)
   exact⟨hlt,_,rfl,⟨hj,hn⟩,hs⟩
  ·rw[hyes,if_pos rfl]at hn
   conv=>whnf
   repeat'((first|apply st|(apply sq;intro K U)|(apply si;intro A B Y Z)|(apply Y;clear Z B Y A)|(apply U;clear U K)|clear U K)<;>conv=>whnf)
   rw[hn];exact AQ ⟨_,⟨by rw[hck],s,hj,rfl⟩,hs⟩
 ·rw[As hke,NT]at hn
  conv=>whnf
  repeat'((first|apply st|(apply sq;intro K U)|(apply si;intro A B Y Z)|(apply Y;clear Z B Y A)|(apply U;clear U K)|refine⟨rfl,?_⟩|(refine Fh (fun hc=>?_)<;>(try rw[hc])<;>clear hc)|clear U K)<;>conv=>whnf)
  rw[hn];exact AQ ⟨_,⟨rfl,s,hj,rfl⟩,hs⟩
theorem N8 {v:V} {xs:List Int} (hst:NV Tryz.prog (.f (.func g) fi ca) eI (fun s=> .own v 1 (iL xs)::H s) f J D) (hD: ∀x∈xs,D x) (hxl:xs.length≤Ai) (s0:S) (hj0:J s0) :
 B9 Tryz.prog 72 [v,.f (.func g) fi ca] (.own v 1 (iL xs)::H s0) fun r post=>r= .ret (.b (xs.any f))∧ ∃s',J s'∧post= .own v 1 (iL xs)::H s':=by
 intro σ hs;refine qq nb ?_
 conv=>whnf
 repeat'((first|(apply sq;intro K U)|(apply si;intro A B Y Z)|(apply Y;clear Z B Y A)|(apply U;clear U K)|fail)<;>conv=>whnf)
 refine(Qc g fi ca H f J D hst hD hxl s0 hj0).use (rest:=[]) (by simpa using hs) ?_;rintro r post σ ⟨rfl,s',hj,rfl⟩ hs
 conv=>whnf
 repeat'((first|apply st|(apply Y;clear Z B Y A)|(apply U;clear U K)|refine⟨rfl,?_⟩|fail)<;>conv=>whnf)
 exact AQ ⟨_,⟨by rw[←Uv f xs 0],s',hj,rfl⟩,by simpa using hs⟩
theorem gq {v:V} {xs:List Int} (hst:NV Tryz.prog (.f (.func g) fi ca) eI (fun s=> .own v 1 (iL xs)::H s) f J D):NV Tryz.prog (.f (.func 217) [] [.rp [.f (.func g) fi ca]]) eI (fun s=> .own v 1 (iL xs)::H s) (fun y=> !f y) J D:=by
 intro y s hd hj σ hs;refine C1 ?_;show Be Tryz.prog 217 ([]++[eI y]++[.rp [.f (.func g) fi ca]]) σ _;refine cL nb ?_
 conv=>whnf
 repeat'((first|apply st|(apply sq;intro K U)|(apply si;intro A B Y Z)|(apply Y;clear Z B Y A)|(apply U;clear U K)|fail)<;>conv=>whnf)
 refine hst.use hd hj hs ?_;clear hs;intro s' σ hj' hs
 conv=>whnf
 repeat'((first|apply st|(apply Y;clear Z B Y A)|(apply U;clear U K)|fail)<;>conv=>whnf)
 exact AQ ⟨rfl,s',hj',hs⟩
theorem YZ {v:V} {xs:List Int} (hst:NV Tryz.prog (.f (.func g) fi ca) eI (fun s=> .own v 1 (iL xs)::H s) f J D) (hD: ∀x∈xs,D x) (hxl:xs.length≤Ai) (s0:S) (hj0:J s0) :
 B9 Tryz.prog 177 [v,.f (.func g) fi ca] (.own v 1 (iL xs)::H s0) fun r post=>r= .ret (.b (xs.all f))∧ ∃s',J s'∧post= .own v 1 (iL xs)::H s':=by
 intro σ hs;refine cO nb ?_
 conv=>whnf
 repeat'((first|(apply sq;intro K U)|(apply si;intro A B Y Z)|(apply Y;clear Z B Y A)|(apply U;clear U K)|fail)<;>conv=>whnf)
 refine(N8 217 [] [.rp [.f (.func g) fi ca]] H _ J D (gq g fi ca H f J D hst) hD hxl s0 hj0).use (rest:=[]) (by simpa using hs) ?_;rintro r post σ ⟨rfl,s',hj,rfl⟩ hs
 conv=>whnf
 repeat'((first|apply st|(apply Y;clear Z B Y A)|(apply U;clear U K)|fail)<;>conv=>whnf)
 refine AQ ⟨_,⟨?_,s',hj,rfl⟩,by simpa using hs⟩;rw[List.all_eq_not_any_not]
end
abbrev Kc (l:Fact):List V:=xF (BV l).1++[.b (BV l).2]
abbrev FH (ls:List Fact):List (List V):=ls.map Kc
theorem gF (xs ys:List Int) (f g:Bool):Pure Tryz.prog 273 [.l (iL xs) f,.l (iL ys) g] (.b (xs==ys)):=by
 refine Pure.fit (by kernel_rfl) fun hf=>?_
 have hx:=LU hf.1;have hy:=LU hf.2.1;have hM:=Mx;refine wV nb ?_;have hs:=Sn
 conv=>whnf
 repeat'((first|apply st|(apply sq;intro K U)|(apply si;intro A B Y Z)|(apply Y;clear Z B Y A)|(apply U;clear U K)|refine⟨rfl,?_⟩|(constructor<;>intro hc<;>(try rw[hc])<;>(replace hc:=bp hc)<;>(try simp(disch:=omega) only[Bz,wrap64,AP]at hc))|clear U K)<;>conv=>whnf)
 ·exact AJ (by(have:(xs==ys)=false:=by(simp;intro e;subst e;simp at hc));rw[this])
 have hl:xs.length=ys.length:=by omega
 refine Cn xs.length (fun k (_:Unit)=>[(13,eI (BJ k))]) (fun _ _=>[]) (fun k _=>(xs==ys)=(xs.drop k==ys.drop k)) () rfl rfl Sat.nil ?_;clear hs;rintro k - σ hk hn hs;rcases Bo xs hk with⟨x,hxk,hlt⟩|hke
 ·obtain⟨y,hyk⟩: ∃y,ys[k]? =some y:=⟨_,FD (by omega)⟩
  rw[drop_cons hxk,drop_cons hyk]at hn
  conv=>whnf
  repeat'((first|apply st|(apply sq;intro K U)|(apply si;intro A B Y Z)|(apply Y;clear Z B Y A)|(apply U;clear U K)|apply dr|refine⟨rfl,?_⟩|refine ix ?_|(refine D0 (fun hc=>?_)<;>(try rw[hc])<;>clear hc)|(constructor<;>intro hc<;>(try rw[hc])<;>(replace hc:=bp hc))|clear U K)<;>conv=>whnf)
  ·exact AJ (by rw[hn];simp[*])
  ·exact⟨hlt,(),rfl,by rw[hn];simp[*],hs⟩
 ·conv=>whnf
  repeat'((first|apply st|(apply sq;intro K U)|(apply si;intro A B Y Z)|(apply Y;clear Z B Y A)|(apply U;clear U K)|refine⟨rfl,?_⟩|(refine Fh (fun hc=>?_)<;>(try rw[hc])<;>clear hc)|clear U K)<;>conv=>whnf)
  exact AJ (by rw[hn,As hke,As (by omega)];rfl)
theorem iB (a b:Bool) (u:V):Pure Tryz.prog 274 [.l [] a,.l [] b,u] (.b true):=by
 refine wU nb ?_;have hs:=Sn;have hM:=Mx
 conv=>whnf
 repeat'((first|apply st|(apply sq;intro K U)|(apply si;intro A B Y Z)|(apply Y;clear Z B Y A)|(apply U;clear U K)|refine⟨rfl,?_⟩|(constructor<;>intro hc<;>(try rw[hc])<;>(replace hc:=bp hc)<;>(try simp(disch:=omega) only[Bz,wrap64,AP]at hc)<;>try(exfalso;omega))|fail)<;>conv=>whnf)
 refine Cn 0 (fun k (_:Unit)=>[(17,eI (BJ k))]) (fun _ _=>[]) (fun _ _=>True) () rfl trivial Sat.nil ?_;clear hs;rintro k - σ hk - hs;obtain rfl:k=0:=by omega
 conv=>whnf
 repeat'((first|apply st|(apply sq;intro K U)|(apply si;intro A B Y Z)|(apply Y;clear Z B Y A)|(apply U;clear U K)|refine⟨rfl,?_⟩|(constructor<;>intro hc<;>(try rw[hc])<;>(replace hc:=bp hc)<;>(try simp(disch:=omega) only[Bz,wrap64,AP]at hc))|clear U K)<;>conv=>whnf)
 ·exfalso
  simp at hc
 ·exact AJ rfl
set_option maxHeartbeats 1000000 in
theorem gG (f g:Fact) (hf:f.kids= []) (hg:g.kids= []):Pure Tryz.prog 258 [.a (xF f),.a (xF g)] (.b (Fk f g)):=by
 have e:Fk f g=(f.op==g.op&&(f.arg==g.arg&&(f.cls==g.cls&&(f.n==g.n&&f.path==g.path)))):=by
  rw[Ls,hf,hg];simp[QU]
 obtain⟨o,a,p,c,n,k⟩:=f;obtain⟨o',a',p',c',n',k'⟩:=g;simp only[Fact.kids]at hf hg;subst hf;subst hg;refine wj nb ?_;have hs:=Sn;rw[e]
 conv=>whnf
 repeat'((first|apply st|(apply sq;intro K U)|(apply si;intro A B Y Z)|(apply Y;clear Z B Y A)|(apply U;clear U K)|refine⟨rfl,?_⟩|refine Pure.use (gF _ _ _ _) ?_|refine Pure.use (iB _ _ _) ?_|(constructor<;>intro hc<;>(try rw[hc])<;>(replace hc:=bp hc))|fail)<;>conv=>whnf)
 all_goals simp only[Fact.op,Fact.arg,Fact.cls,Fact.n,Fact.path]at *
 all_goals exact AJ (by simp[*])
theorem WE:GC Kc 7:=fun l=>by
 refine⟨rfl,fun v hv=>?_⟩;rcases F8.1 hv with hv|hv
 ·exact(Mg (BV l).1).2 v (by show v∈Gz (BV l).1;rw[Bq];exact hv)
 ·simp at hv;subst hv;rfl
def Qh (x y:Fact):Bool:=(BV x).2==(BV y).2&&Fk (BV x).1 (BV y).1
abbrev XV (l:Fact):Prop:=(BV l).1.kids= []
abbrev tK (f:Fact→Bool):Fact→Unit→Bool×Unit:=fun y _=>(f y,())
theorem gI (x:Fact) (hx1:XV x) (n:Nat):Df Tryz.prog (.f (.func 257) [] [.p n 0]) (fun y=> .a (Kc y)) (fun _:Unit=>[.box n (Kc x)]) (tK (Qh x)) (fun y _=>XV y):=by
 intro y s hy1 σ hs;refine C1 ?_;show Be Tryz.prog 257 ([]++[.a (Kc y)]++[.p n 0]) σ _;refine wk nb ?_;unfold Qh
 conv=>whnf
 repeat'((first|apply st|(apply sq;intro K U)|(apply si;intro A B Y Z)|(apply Y;clear Z B Y A)|(apply U;clear U K)|refine⟨nb,?_⟩|refine ld ?_|refine Pure.use (gG _ _ hx1 hy1) ?_|(constructor<;>intro hc<;>(try rw[hc])<;>(replace hc:=bp hc))|fail)<;>conv=>whnf)
 all_goals exact AQ ⟨by simp[tK, *],hs⟩
section
variable {S:Type} (g:FuncId) (fi ca:List V) (H:S→List At)
theorem Qb (stp:Fact→S→Bool×S) (D:Fact→S→Prop) {v:V} {xs:List Fact} (hst:Df Tryz.prog (.f (.func g) fi ca) (fun y=> .a (Kc y)) (fun s=> .own v 7 (FH xs)::H s) stp D) (hxl:xs.length≤Ai) (s0:S) (hd:Vs stp D xs s0) :
 B9 Tryz.prog 272 [v,.f (.func g) fi ca] (.own v 7 (FH xs)::H s0) fun r post=>r= .ret (eI (Cd stp xs 0 s0).1)∧post= .own v 7 (FH xs)::H (Cd stp xs 0 s0).2:=by
 intro σ hs;have hM:=Mx;refine wW nb ?_
 conv=>whnf
 repeat'((first|apply st|(apply sq;intro K U)|(apply si;intro A B Y Z)|(apply Y;clear Z B Y A)|(apply U;clear U K)|refine lo ?_|fail)<;>conv=>whnf)
 refine Cn xs.length (fun k (_:S)=>[(8,eI (BJ k))]) (fun _ s=> .own v 7 (FH xs)::H s) (fun k s=>Vs stp D (xs.drop k) s∧Cd stp xs 0 s0=Cd stp (xs.drop k) k s) s0 rfl ⟨hd,rfl⟩ hs ?_;clear hs;rintro k s σ hk ⟨hd,hn⟩ hs;have hck:BJ k=k:=AP (by omega);rcases Bo xs hk with⟨y,hy,hlt⟩|hke
 ·rw[drop_cons hy]at hn hd
  obtain⟨hd1,hd2⟩:=hd;rw[Cd]at hn
  conv=>whnf
  repeat'((first|apply st|(apply sq;intro K U)|(apply si;intro A B Y Z)|(apply Y;clear Z B Y A)|(apply U;clear U K)|refine⟨rfl,?_⟩|refine⟨nb,?_⟩|refine oi ?_|refine ol fun x hx=>?_|(refine D0 (fun hc=>?_)<;>(try rw[hc])<;>clear hc)|fail)<;>conv=>whnf)
  obtain rfl:x=y:=by rw[hck,LG,hy]at hx;exact(Option.some.inj hx).symm
  refine hst.use hd1 hs ?_;clear hs;intro σ hs;cases hyes:(stp x s).1
  ·rw[hyes,if_neg (by decide)]at hn
   conv=>whnf
   repeat'((first|apply st|(apply si;intro A B Y Z)|(apply Y;clear Z B Y A)|(apply U;clear U K)|refine⟨rfl,?_⟩|clear U K)<;>conv=>whnf)
   exact⟨hlt,_,rfl,⟨hd2,hn⟩,hs⟩
  ·rw[hyes,if_pos rfl]at hn
   conv=>whnf
   repeat'((first|apply st|(apply sq;intro K U)|(apply si;intro A B Y Z)|(apply Y;clear Z B Y A)|(apply U;clear U K)|clear U K)<;>conv=>whnf)
   rw[hn];exact AQ ⟨_,⟨by rw[hck],rfl⟩,hs⟩
 ·rw[As hke,Cd]at hn
  conv=>whnf
  repeat'((first|apply st|(apply sq;intro K U)|(apply si;intro A B Y Z)|(apply Y;clear Z B Y A)|(apply U;clear U K)|refine⟨rfl,?_⟩|(refine Fh (fun hc=>?_)<;>(try rw[hc])<;>clear hc)|clear U K)<;>conv=>whnf)
  rw[hn];exact AQ ⟨_,⟨rfl,rfl⟩,hs⟩
theorem NM (stp:Fact→S→Bool×S) (D:Fact→S→Prop) {v:V} {xs:List Fact} (hst:Df Tryz.prog (.f (.func g) fi ca) (fun y=> .a (Kc y)) (fun s=> .own v 7 (FH xs)::H s) stp D) (hxl:xs.length≤Ai) (s0:S) (hd:Vs stp D xs s0) :
 B9 Tryz.prog 256 [v,.f (.func g) fi ca] (.own v 7 (FH xs)::H s0) fun r post=>r= .ret (.b (decide ((Cd stp xs 0 s0).1≥0)))∧post= .own v 7 (FH xs)::H (Cd stp xs 0 s0).2:=by
 intro σ hs;refine wm nb ?_
 conv=>whnf
 repeat'((first|(apply sq;intro K U)|(apply si;intro A B Y Z)|(apply Y;clear Z B Y A)|(apply U;clear U K)|fail)<;>conv=>whnf)
 refine(Qb g fi ca H stp D hst hxl s0 hd).use (rest:=[]) (by simpa using hs) ?_;rintro r post σ ⟨rfl,rfl⟩ hs
 conv=>whnf
 repeat'((first|apply st|(apply Y;clear Z B Y A)|(apply U;clear U K)|refine⟨rfl,?_⟩|fail)<;>conv=>whnf)
 exact AQ ⟨_,⟨rfl,rfl⟩,by simpa using hs⟩
end
theorem eM (a:List Fact) (f:Bool) (hl:a.length≤1000000):B9 Tryz.prog 255 [.l (FH a) f] [] fun r post=> ∃v,r= .ret v∧post= [.own v 7 (FH a)]:=by
 intro σ hs;have hM:=Mx;refine wq nb ?_
 conv=>whnf
 repeat'((first|(apply sq;intro K U)|(apply si;intro A B Y Z)|(apply Y;clear Z B Y A)|(apply U;clear U K)|fail)<;>conv=>whnf)
 refine⟨fun e t=>?_,fun _=>?_⟩
 ·have hxe:a= []:=List.map_eq_nil_iff.1 e
  subst hxe
  conv=>whnf
  repeat'((first|apply st|(apply sq;intro K U)|(apply si;intro A B Y Z)|(apply Y;clear Z B Y A)|(apply U;clear U K)|(constructor<;>intro hc<;>(try rw[hc])<;>(replace hc:=bp hc))|clear U K)<;>conv=>whnf)
  ·exact AQ ⟨_,⟨_,rfl,rfl⟩,GA hs 7⟩
  ·replace hs:=GA hs 7
   refine LR hs 0 (xs:=[]) (ys:=[]) rfl (by simp) WE fun v σ hs=>?_
   conv=>whnf
   repeat'((first|apply st|(apply Y;clear Z B Y A)|(apply U;clear U K)|fail)<;>conv=>whnf)
   exact AQ ⟨_,⟨_,rfl,rfl⟩,hs⟩
 ·conv=>whnf
  repeat'((first|apply st|(apply sq;intro K U)|(apply si;intro A B Y Z)|(apply Y;clear Z B Y A)|(apply U;clear U K)|fail)<;>conv=>whnf)
  replace hs:=GA hs 7;refine LR hs 0 (xs:=[]) (ys:=a) rfl (by simp;omega) WE fun v σ hs=>?_
  conv=>whnf
  repeat'((first|apply st|(apply Y;clear Z B Y A)|(apply U;clear U K)|fail)<;>conv=>whnf)
  exact AQ ⟨_,⟨_,rfl,rfl⟩,hs⟩
theorem UR {w:AM} {x:Fact} (h:JD w x):x=if(BV x).2 then HH (BV x).1 else(BV x).1:=by
 obtain⟨g,hn,hl,rfl|rfl⟩:=h
 ·have:=G5 hl
  have h5: ¬x.op=5:=by omega
  simp only[BV,if_neg h5];rfl
 ·rfl
theorem Xi {w:AM} {x y:Fact} (hx1:JD w x) (hy1:JD w y):Qh x y=Fk x y:=by
 rw[KZ,Qz];simp only[Qh,Bj,FL,Qz];constructor
 ·rintro⟨h1,h2⟩
  rw[UR hx1,UR hy1,h1,h2]
 ·rintro rfl
  exact⟨rfl,rfl⟩
theorem RF {w:AM} {x:Fact} (h:JD w x):XV x:=by
 obtain⟨-,hn,hl⟩:=JW h;have hlo:=G5 hl;have har:=DU _ hn;rw[L6,Bj,FL]at har
 have h0:Cj (BV x).1.op=0:=by
  have h5: ¬(BV x).1.op=5:=by omega
  have h6: ¬((BV x).1.op=6∨(BV x).1.op=7):=by omega
  simp[Cj,h5,h6]
  try omega
 rw[h0]at har;exact aK.1 har.1
theorem Zb {w:AM} (a b:List Fact) (f g:Bool) (hla: ∀x∈a,JD w x) (hlb: ∀x∈b,JD w x) (hl:a.length+b.length<1000000):Pure Tryz.prog 228 [.l (FH a) f,.l (FH b) g] (.l (FH (Cy a b)) false):=by
 have hM:=Mx;refine Pure.of ?_;refine xI nb ?_;have hs:=Sn
 conv=>whnf
 repeat'((first|(apply sq;intro K U)|(apply si;intro A B Y Z)|(apply Y;clear Z B Y A)|(apply U;clear U K)|fail)<;>conv=>whnf)
 refine(eM a f (by omega)).use (rest:=[]) (by simpa using hs) ?_;clear hs;rintro r post σ ⟨v,rfl,rfl⟩ hs
 conv=>whnf
 repeat'((first|apply st|(apply sq;intro K U)|(apply si;intro A B Y Z)|(apply Y;clear Z B Y A)|(apply U;clear U K)|fail)<;>conv=>whnf)
 refine Cn b.length (fun k v=>[(5,v),(12,eI (BJ k))]) (fun k v=>[.own v 7 (FH (Cy a (b.take k)))]) (fun _ _=>True) v rfl trivial hs ?_;clear hs;rintro k v σ hk - hs;have hml:=M7 a (b.take k);rw[QI]at hml;rcases Bo b hk with⟨x,hxk,hlt⟩|hke
 ·have hsn:=Pz a (b.take k) x
  rw[←AO hxk]at hsn;have hxg:=hlb x (DM hxk)
  have hmem: ∀y∈Cy a (b.take k),JD w y:=fun y hy=>by
   rcases RM _ _ _ hy with h|h
   ·exact hla y h
   ·exact hlb y (List.mem_of_mem_take h)
  generalize Cy a (b.take k)=m at *
  have hany:m.any (Qh x)=m.any (Fk x):=by
   rw[KZ,Nt,Nt];exact⟨fun⟨y,hy,h⟩=>⟨y,hy,by rw[←Xi hxg (hmem y hy)];exact h⟩,fun⟨y,hy,h⟩=>⟨y,hy,by rw[Xi hxg (hmem y hy)];exact h⟩⟩
  conv=>whnf
  repeat'((first|apply st|(apply sq;intro K U)|(apply si;intro A B Y Z)|(apply Y;clear Z B Y A)|(apply U;clear U K)|refine⟨rfl,?_⟩|refine⟨nb,?_⟩|refine ix ?_|refine HZ fun σ hs=>?_|(refine D0 (fun hc=>?_)<;>(try rw[hc])<;>clear hc)|(intro nn hnn;generalize hg:BE _ nn _=σ;refine E3 hg fun hs=>?_;clear hg)|fail)<;>conv=>whnf)
  generalize nn=n7 at *;have hs2:Sat σ [.own v 7 (FH m),.box n7 (Kc x)]:=hs.perm (.swap _ _ _);clear hs hnn;refine(NM 257 [] [.p n7 0] (fun _:Unit=>[.box n7 (Kc x)]) (tK (Qh x)) (fun y _=>XV y) ((gI x (RF hxg) n7).more [_]) (by omega) () (Md fun y hy _=>RF (hmem y hy))).use (rest:=[]) hs2 ?_;clear hs2;rintro r post σ ⟨rfl,rfl⟩ hs;rw[PS,hany];cases hy:m.any (Fk x)
  ·rw[hy,if_neg Bool.false_ne_true]at hsn
   conv=>whnf
   repeat'((first|apply st|(apply si;intro A B Y Z)|(apply Y;clear Z B Y A)|(apply U;clear U K)|refine⟨nb,?_⟩|refine ld ?_|refine IE ?_|fail)<;>conv=>whnf)
   refine Gh (GB (x:=x) (xs:=m) (enc:=Kc) hs 0 rfl (by omega) WE fun v σ hs hsl=>?_)
   conv=>whnf
   repeat'((first|(apply si;intro A B Y Z)|(apply Y;clear Z B Y A)|(apply U;clear U K)|refine⟨rfl,?_⟩|clear U K)<;>conv=>whnf)
   exact⟨hlt,v,rfl,trivial,by rw[hsn];exact hs.less (.cons₂ _ (QN _))⟩
  ·rw[hy,if_pos rfl]at hsn
   conv=>whnf
   repeat'((first|apply st|(apply si;intro A B Y Z)|(apply Y;clear Z B Y A)|(apply U;clear U K)|refine⟨rfl,?_⟩|refine GH ?_|clear U K)<;>conv=>whnf)
   exact⟨hlt,v,rfl,trivial,by rw[hsn];exact hs.less (.cons₂ _ (QN _))⟩
 ·conv=>whnf
  repeat'((first|apply st|(apply sq;intro K U)|(apply si;intro A B Y Z)|(apply Y;clear Z B Y A)|(apply U;clear U K)|refine⟨rfl,?_⟩|(refine Fh (fun hc=>?_)<;>(try rw[hc])<;>clear hc)|clear U K)<;>conv=>whnf)
  exact aI (Eb hs 0 rfl (vf:= .l (FH (Cy a b)) false) (by rw[A2 hke])) fun r σ h=>h.1
end Go.Gl
namespace Go.Gl
open Go.Proofs
abbrev ct:AI:=(.seq [0,3] (.Ak [⟨(some 3),.N4 (.t 1),none⟩,
 ⟨(some 4),.mv (.c .pn),none⟩])
 (.seq [0,3,5,6] (.A5 [0,3,5,6] [⟨0,⟨(some 8),.mv (.t 0),none⟩,[],[]⟩,
  ⟨1,⟨(some 9),.Et (.t 8),none⟩,[],[]⟩,
  ⟨2,⟨(some 10),.Hj 1 (.t 9),none⟩,[],[]⟩,
  ⟨3,⟨(some 11),.load none (.t 10),none⟩,[],[]⟩,
  ⟨4,⟨(some 12),.load (some 4) (.t 3),none⟩,[],[]⟩,
  ⟨5,⟨(some 13),.lookup (.a [.i64,.i64,.i64,.i64]) .pn true (.t 11) (.t 12),none⟩,[],[]⟩,
  ⟨6,⟨(some 7),.mv (.t 13),none⟩,[],[]⟩,
  ⟨7,⟨(some 14),.extract 0 (.t 7),none⟩,[],[]⟩,
  ⟨8,⟨(some 15),.extract 1 (.t 7),none⟩,[],[]⟩,
  ⟨9,⟨(some 5),.mv (.t 14),none⟩,[],[]⟩,
  ⟨10,⟨(some 6),.mv (.t 15),none⟩,[],[]⟩])
 (.seq [5] (.seq [0,3,5,17] (.Ak [⟨(some 16),.mv (.t 6),none⟩,
  ⟨(some 17),.not (.t 16),none⟩])
 (.cond (.t 17)
 (.seq [0,3,5] (.Ak [⟨(some 18),.build [(.i .i64 0),(.i .i64 0),(.l [] true)] [(0,1,(.c (.i .i64 (-1000000000)))),(1,1,(.c (.i .i64 1000000000)))],none⟩,
  ⟨(some 19),.build [(.i .i64 0),(.i .i64 0),(.l [] true),(.i .u64 0),(.i .u64 0),(.b false),(.b false),(.l [] true)] [(0,3,(.t 18))],none⟩,
  ⟨(some 20),.box (.t 19),none⟩,
  ⟨(some 5),.mv (.t 20),none⟩])
 (.A5 [5] [⟨0,⟨(some 21),.mv (.t 0),none⟩,[],[]⟩,
  ⟨1,⟨(some 22),.Et (.t 21),none⟩,[],[]⟩,
  ⟨2,⟨(some 23),.Hj 1 (.t 22),none⟩,[],[]⟩,
  ⟨3,⟨(some 24),.load none (.t 23),none⟩,[],[]⟩,
  ⟨4,⟨(some 25),.load (some 4) (.t 3),none⟩,[],[]⟩,
  ⟨5,⟨(some 26),.mv (.t 5),none⟩,[],[]⟩,
  ⟨6,⟨none,.DQ (.a [.i64,.i64,.i64,.i64]) (.t 24) (.t 25) (.t 26),none⟩,[],[]⟩]))
 .skip))
 (.seq [4] (.Ak [⟨(some 27),.mv (.t 5),none⟩,
  ⟨(some 4),.mv (.t 27),none⟩])
 .ret))))
theorem gO:Tryz.f275.body.bind (res Tryz.prog Tryz.f275.ntmps [] [3])=some (erase ct):=by kernel_rfl
theorem mE {args:List V} (hn:args.length≤28) {σ:AH} {Q:R→AH→Prop} (h:W Tryz.prog ct (fm [4] Q) (A8 0 args) σ):Be Tryz.prog 275 args σ Q:=
 P7 Tryz.func275 (by kernel_rfl) gO rfl hn (mf h)
end Go.Gl
namespace Go.Gl
open Go.Proofs
attribute [local irreducible] Be BQ BH Ae AR BC Af Ag AT A7 AZ Ad Bk Bx Sat Au Bs BI W
abbrev Ta (w:AM) (us:List Nat) (L:Nat):V:= .rp [.rp (wC w us),.m L]
def QR (es es':List DO):Prop:= ∃new:List DO,es'=es++new∧ ∀x∈new,x.k=k0
theorem QR.refl (es:List DO):QR es es:=⟨[],by simp,by simp⟩
theorem QR.trans {a b c:List DO} (h1:QR a b) (h2:QR b c):QR a c:=by
 obtain⟨x,rfl,hx⟩:=h1;obtain⟨y,rfl,hy⟩:=h2;refine⟨x++y,by simp,fun z hz=>?_⟩;rcases F8.1 hz with h|h
 ·exact hx z h
 ·exact hy z h
theorem QR.mem {a b:List DO} (h:QR a b) {e:DO} (he:e∈a):e∈b:=by
 obtain⟨x,rfl,_⟩:=h;exact Vj _ he
structure td (kf:Int→List Int→Kn) (es es':List DO) (a:Int) (p:List Int) (e:DO):Prop where
 inv:EN kf es'
 ext:QR es es'
 mem:e∈es'
 is:e.is a p=true
theorem td.k {kf:Int→List Int→Kn} {es es':List DO} {a:Int} {p:List Int} {e:DO} (h:td kf es es' a p e):e.k=kf a p:=by
 have:=h.inv.val e h.mem;obtain⟨h1,h2⟩:=Kp.1 h.is;rw[this,h1,h2]
theorem SQ {σ:AH} {l:List At} (h:Sat σ l) (i:Nat) {n:Nat} {kvs:List (V×V)} {ks:KS} {z vk:V} {ok:Bool} {o:Option V} (hi:l[i]? =some (.map n kvs)) (hk:Ba ks vk=true) (hks: ∀kv∈kvs,Ba ks kv.1=true) (hf:Cq vk kvs=o) {K:V→Prop} (h':K (found z ok o)) :
 AZ σ ks z ok (.m n) vk K:=S2 h i hi hk hks (hf ▸ h')
theorem LW (w:AM) (us:List Nat) {kf:Int→List Int→Kn} {L:Nat} {es:List DO} (h:EN kf es) {a:Int} {p:List Int} (hp:p.length≤2) :
 B9 Tryz.prog 275 [Ta w us L,Er a p] (CQ L es) fun r post=> ∃es' e,td kf es es' a p e∧r= .ret (.p e.b 0)∧post=CQ L es':=by
 intro σ hs;refine mE nb ?_;unfold CQ at hs;rcases my a p es with hn|⟨pre,e,post,rfl,he,hpre⟩
 ·have hf:=Um hp h.len hn
  conv=>whnf
  repeat'((first|apply st|(apply sq;intro K U)|(apply si;intro A B Y Z)|(apply Y;clear Z B Y A)|(apply U;clear U K)|apply dr|refine⟨nb,?_⟩|refine IE ?_|refine SQ hs 0 rfl rfl (PN _) hf ?_|refine Lg hs 1 rfl rfl (PN _) fun σ hs=>?_|(intro nn hnn;generalize hg:BE _ nn _=σ;refine E3 hg fun hs=>?_;clear hg)|fail)<;>conv=>whnf)
  simp only[List.set_cons_succ,List.set_cons_zero]at hs;change Sat σ (_:: .map L (D9 (Er a p) (.p nn 0) (Vn es))::_)at hs;rw[b6 hp nn (.l [] true) (.l [] true) k0 h.len hn]at hs;have hs2:=GA (GA hs 1) 1;refine AQ ⟨_,⟨es++[⟨a,p,nn,.l [] true,.l [] true,k0⟩],⟨a,p,nn,.l [] true,.l [] true,k0⟩,⟨h.add hp hn _ _ _,⟨_,rfl,by simp⟩,by simp,by simp[DO.is]⟩,rfl,rfl⟩,?_⟩;unfold CQ;rw[List.flatMap_append,List.flatMap_cons,List.flatMap_nil,J9];refine hs2.perm ((List.perm_middle (l₁:=[_,_,_])).trans (.cons _ (TZ.trans (List.Perm.append_left _ (List.reverse_perm _).symm))))
 ·have hf:=Ul hp he h.len hpre
  conv=>whnf
  repeat'((first|apply st|(apply sq;intro K U)|(apply si;intro A B Y Z)|(apply Y;clear Z B Y A)|(apply U;clear U K)|apply dr|refine⟨nb,?_⟩|refine GH ?_|refine SQ hs 0 rfl rfl (PN _) hf ?_|fail)<;>conv=>whnf)
  exact AQ ⟨_,⟨_,e,⟨h,.refl _,by simp,he⟩,rfl,rfl⟩,hs⟩
theorem OO (a:Int) (p:List Int) (s:Int) (hp:p.length<2):Pure Tryz.prog 276 [Er a p,eI s] (Er a (p++[s])):=by
 refine wT nb ?_;have hs:=Sn
 match p,hp with
 | [],_=>
   conv=>whnf
   repeat'((first|apply st|(apply sq;intro K U)|(apply si;intro A B Y Z)|(apply Y;clear Z B Y A)|(apply U;clear U K)|refine⟨rfl,?_⟩|refine⟨nb,?_⟩|refine tH ?_|refine ld ?_|refine IB fun σ hs=>?_|refine HZ fun σ hs=>?_|(intro nn hnn;generalize hg:BE _ nn _=σ;refine E3 hg fun hs=>?_;clear hg)|fail)<;>conv=>whnf)
   all_goals exact AJ rfl
 | [x],_=>
   conv=>whnf
   repeat'((first|apply st|(apply sq;intro K U)|(apply si;intro A B Y Z)|(apply Y;clear Z B Y A)|(apply U;clear U K)|refine⟨rfl,?_⟩|refine⟨nb,?_⟩|refine tH ?_|refine ld ?_|refine IB fun σ hs=>?_|refine HZ fun σ hs=>?_|(intro nn hnn;generalize hg:BE _ nn _=σ;refine E3 hg fun hs=>?_;clear hg)|fail)<;>conv=>whnf)
   all_goals exact AJ rfl
set_option maxHeartbeats 1000000 in
theorem yq {b:Nat} {vn vs:V} {k:Kn} (f:Fact) (c:Bool) (hl:f.op=2∨f.op=3∨f.op=4) (hc:f.op=2→0≤f.cls∧f.cls<64) (hm:k.CL<18446744073709551616) (hn:k.Gu<18446744073709551616) (hno:k.no.length<1000000) (hN: -1000000000≤f.n∧f.n≤1000000000) :
 B9 Tryz.prog 277 [.p b 0,.a (xF f++[.b c])] (ta b vn vs k) fun r post=>r= .ret (.t [])∧ ∃vn',post=ta b vn' vs (C5 k f c):=by
 intro σ hs;have hM:=Mx;refine wS nb ?_;rw[show xF f++[V.b c]= [eI f.op,eI f.arg,.l (iL f.path) false,eI f.cls,eI f.n,.l (f.kids.map Gz) false,.b c] from rfl];have hw:IntKind.i64.wrap (f.n - 1)=f.n - 1:=wrap64 (by omega) (by omega);cases c<;>rcases hl with h2|h3|h4
 ·have hE:C5 k f false= {k with CL:=k.CL|||2 ^ f.cls.toNat}:=by rw[C5,if_pos h2,if_neg Bool.false_ne_true]
  rw[hE]
  conv=>whnf
  repeat'((first|apply st|(apply sq;intro K U)|(apply si;intro A B Y Z)|(apply Y;clear Z B Y A)|(apply U;clear U K)|apply dr|refine⟨rfl,?_⟩|refine ld ?_|refine IB fun σ hs=>?_|refine GH ?_|refine Pure.use (Hm _ _ hm (by omega) (by omega)) ?_|(constructor<;>intro hc<;>(try rw[hc])<;>(replace hc:=bp hc)<;>try(exfalso;omega))|fail)<;>conv=>whnf)
  exact AQ ⟨_,⟨rfl,vn,rfl⟩,hs⟩
 ·have hE:C5 k f false= {k with high:=if f.n - 1<k.high then f.n - 1 else k.high,whole:=true}:=by rw[C5,if_neg (by omega),if_pos h3,if_neg Bool.false_ne_true]
  rw[hE]
  conv=>whnf
  repeat'((first|apply st|(apply sq;intro K U)|(apply si;intro A B Y Z)|(apply Y;clear Z B Y A)|(apply U;clear U K)|apply dr|refine⟨rfl,?_⟩|refine ld ?_|refine IB fun σ hs=>?_|refine GH ?_|(constructor<;>intro hc<;>(try rw[hc])<;>(replace hc:=bp hc)<;>try(exfalso;omega))|fail)<;>conv=>whnf)
  rw[hw]at hs;exact AQ ⟨_,⟨rfl,vn,rfl⟩,hs⟩
 ·have hE:C5 k f false= {k with low:=if f.n > k.low then f.n else k.low,high:=if f.n<k.high then f.n else k.high,whole:=true}:=by rw[C5,if_neg (by omega),if_neg (by omega),if_neg Bool.false_ne_true]
  rw[hE]
  conv=>whnf
  repeat'((first|apply st|(apply sq;intro K U)|(apply si;intro A B Y Z)|(apply Y;clear Z B Y A)|(apply U;clear U K)|apply dr|refine rk ?_ ?_|exact fun s e=>by cases e;rfl|refine⟨rfl,?_⟩|refine ld ?_|refine IB fun σ hs=>?_|(constructor<;>intro hc<;>(try rw[hc])<;>(replace hc:=bp hc)<;>try(exfalso;omega))|fail)<;>conv=>whnf)
  exact AQ ⟨_,⟨rfl,vn,rfl⟩,hs⟩
 ·have hE:C5 k f true= {k with Gu:=k.Gu|||2 ^ f.cls.toNat}:=by rw[C5,if_pos h2,if_pos rfl]
  rw[hE]
  conv=>whnf
  repeat'((first|apply st|(apply sq;intro K U)|(apply si;intro A B Y Z)|(apply Y;clear Z B Y A)|(apply U;clear U K)|apply dr|refine⟨rfl,?_⟩|refine ld ?_|refine IB fun σ hs=>?_|refine IE ?_|refine Pure.use (Hm _ _ hn (by omega) (by omega)) ?_|(constructor<;>intro hc<;>(try rw[hc])<;>(replace hc:=bp hc)<;>try(exfalso;omega))|fail)<;>conv=>whnf)
  exact AQ ⟨_,⟨rfl,vn,rfl⟩,hs⟩
 ·have hE:C5 k f true= {k with low:=if f.n > k.low then f.n else k.low}:=by rw[C5,if_neg (by omega),if_pos h3,if_pos rfl]
  rw[hE]
  conv=>whnf
  repeat'((first|apply st|(apply sq;intro K U)|(apply si;intro A B Y Z)|(apply Y;clear Z B Y A)|(apply U;clear U K)|apply dr|refine⟨rfl,?_⟩|refine ld ?_|refine IB fun σ hs=>?_|refine IE ?_|(constructor<;>intro hc<;>(try rw[hc])<;>(replace hc:=bp hc)<;>try(exfalso;omega))|fail)<;>conv=>whnf)
  exact AQ ⟨_,⟨rfl,vn,rfl⟩,hs⟩
 ·have hE:C5 k f true= {k with no:=k.no++[f.n]}:=by rw[C5,if_neg (by omega),if_neg (by omega),if_pos rfl]
  rw[hE]
  conv=>whnf
  repeat'((first|apply st|(apply sq;intro K U)|(apply si;intro A B Y Z)|(apply Y;clear Z B Y A)|(apply U;clear U K)|apply dr|refine⟨rfl,?_⟩|refine ld ?_|refine IB fun σ hs=>?_|refine aq fun v σ hs hsl=>?_|(constructor<;>intro hc<;>(try rw[hc])<;>(replace hc:=bp hc)<;>try(exfalso;omega))|fail)<;>conv=>whnf)
  exact AQ ⟨_,⟨rfl,_,rfl⟩,hs⟩
theorem Hi {σ:AH} {X:List At} {L:Nat} {pre post:List DO} {e:DO} (h:Sat σ (X++CQ L (pre++e::post))):Sat σ (.box e.b [eI e.k.low,eI e.k.high,e.vn,eU e.k.CL,eU e.k.Gu,.b e.k.whole,.b e.k.A4,e.vs]:: .own e.vn 1 (iL e.k.no):: .own e.vs 1 (iL e.k.AK)::(X++Hf L (pre++e::post) pre post)):=by
 have h2:Sat σ (T6 e++(X++Hf L (pre++e::post) pre post)):=h.perm ((List.Perm.append_left X (Uo L pre post e)).trans (by rw[←TV,←TV];exact TZ.append_right _));exact h2
theorem Ej {σ:AH} {X:List At} {L:Nat} {pre post:List DO} {e e':DO} (h1:e'.a=e.a) (h2:e'.p=e.p) (h3:e'.b=e.b) (h:Sat σ (T6 e'++(X++Hf L (pre++e::post) pre post))):Sat σ (X++CQ L (pre++e'::post)):=by
 rw[←TE h1 h2 h3]at h;exact h.perm ((List.Perm.append_left X (Uo L pre post e')).trans (by rw[←TV,←TV];exact TZ.append_right _)).symm
theorem KF {α:Type} (a b c:α) (l:List α):(a::b::c::l).Perm (b::c::a::l):=(List.Perm.swap _ _ _).trans (.cons _ (.swap _ _ _))
theorem M5 {α:Type} (a:α) (l:List α):(a::l).Perm (l++[a]):=(List.perm_append_singleton a l).symm
def mb (m:Nat) (k:Kn):Prop:=k.CL<18446744073709551616∧k.Gu<18446744073709551616∧k.no.length≤m∧k.AK.length≤m
theorem hX (f:Fact) (c:Bool) (j:Nat) (a:Int) (p:List Int) (k:Kn):(D2 f c j a p k).CL=k.CL:=by unfold D2;(repeat' split)<;>rfl
theorem uh (f:Fact) (c:Bool) (j:Nat) (a:Int) (p:List Int) (k:Kn):(D2 f c j a p k).Gu=k.Gu:=by unfold D2;(repeat' split)<;>rfl
theorem AAx (f:Fact) (c:Bool) (j:Nat) (a:Int) (p:List Int) (k:Kn):(D2 f c j a p k).no=k.no:=by unfold D2;(repeat' split)<;>rfl
theorem dm (f:Fact) (c:Bool) (j:Nat) (a:Int) (p:List Int) (k:Kn):(D2 f c j a p k).AK.length≤k.AK.length+1:=by
 unfold D2
 repeat' split
 ·exact Rn _ _
 all_goals simp[D7]
theorem AAw {m:Nat} {k:Kn} (h:mb m k) (f:Fact) (c:Bool) (j:Nat) (a:Int) (p:List Int):mb (m+1) (D2 f c j a p k):=by
 obtain⟨h1,h2,h3,h4⟩:=h;refine⟨by rw[hX];exact h1,by rw[uh];exact h2,by rw[AAx];omega,?_⟩;have:=dm f c j a p k;omega
theorem RD {k:Kn} (c:Bool) (h:k.A4=true):D7 k c= {k with A4:=true}:=by simp[D7,h]
theorem Pt {k:Kn} (c:Bool) (h:k.A4=false):D7 k c= {k with A4:= !c}:=by simp[D7,h]
abbrev LH (a:Int) (p:List Int):List V:=[eI a,eI (p.length:Int),eI (p.getD 0 0),eI (p.getD 1 0)]
structure bK (f:Fact):Prop where
 op:f.op=2∨f.op=3∨f.op=4
 path:f.path.length≤2
 cls:f.op=2→0≤f.cls∧f.cls<64
 n: -1000000000≤f.n∧f.n≤1000000000
set_option maxHeartbeats 2000000 in
theorem mX (w : AM) (us:List Nat) {kf:Int→List Int→Kn} {L:Nat} {es:List DO} (h:EN kf es) (f:Fact) (c:Bool) (hl:bK f) {m:Nat} (hm:m<1000) (hb: ∀a p,mb m (kf a p)) :
 B9 Tryz.prog 259 [Ta w us L,.a (xF f++[.b c])] (CQ L es) fun r post=>r= .ret (.t [])∧ ∃es',EN (fun a p=>if a=f.arg∧p=f.path then C5 (D2 f c f.path.length a p (kf a p)) f c else D2 f c f.path.length a p (kf a p)) es'∧post=CQ L es':=by
 intro σ hs;have hM:=Mx;obtain⟨l1,l2,l3,l4⟩:=hl;refine wi nb ?_;rw[show xF f++[V.b c]= [eI f.op,eI f.arg,.l (iL f.path) false,eI f.cls,eI f.n,.l (f.kids.map Gz) false,.b c] from rfl]
 conv=>whnf
 repeat'((first|apply st|(apply sq;intro K U)|(apply si;intro A B Y Z)|(apply Y;clear Z B Y A)|(apply U;clear U K)|refine⟨nb,?_⟩|refine ld ?_|refine HZ fun σ hs=>?_|(intro nn hnn;generalize hg:BE _ nn _=σ;refine E3 hg fun hs=>?_;clear hg)|fail)<;>conv=>whnf)
 generalize nn=nx at *;refine(LW w us h (a:=f.arg) (p:=[]) (by simp)).use (rest:=[.box nx (LH f.arg [])]) (hs.perm (M5 _ _)) ?_;clear hs hnn;rintro r post σ ⟨es1,e1,got,rfl,rfl⟩ hs;have hek:=got.k;obtain⟨hea,hep⟩:=Kp.1 got.is;obtain⟨pre,post,rfl⟩:=List.append_of_mem got.mem;replace hs:=Hi (X:=[.box nx (LH f.arg [])]) (hs.perm TZ);cases hnd:e1.k.A4<;>rw[hnd]at hs
 all_goals
  conv=>whnf
  repeat'((first|apply st|(apply sq;intro K U)|(apply si;intro A B Y Z)|(apply Y;clear Z B Y A)|(apply U;clear U K)|refine ld ?_|refine IB fun σ hs=>?_|fail)<;>conv=>whnf)
  obtain⟨e2,es2,Y,Z,hC⟩: ∃(e2:DO) (es2:List DO),(EN (fun a p=>D2 f c 0 a p (kf a p)) es2∧e2∈es2∧e2.is f.arg (f.path.take 0)=true)∧e2.b=e1.b∧Sat σ (.box nx (LH f.arg (f.path.take 0))::CQ L es2):=by
   refine⟨⟨e1.a,e1.p,e1.b,e1.vn,e1.vs,D7 e1.k c⟩,_,⟨(got.inv.change e1.b e1.vn e1.vs (D7 e1.k c)).congr fun a p=>?_,XL _ (.head _),got.is⟩,rfl,?_⟩
   ·rw[gy,Te,hea,hep,hek]
    by_cases ha:a=f.arg∧p= []
    ·rw[if_pos ha,if_pos ha,ha.1,ha.2]
    ·rw[if_neg ha,if_neg ha]
   ·refine Ej (X:=[.box nx (LH f.arg [])]) (e:=e1) rfl rfl rfl ?_
    first
     | (rw[RD c hnd];exact hs)
     | (rw[Pt c hnd];exact hs)
  rw[←Z];clear hs hnd got hek hea hep;refine Cn f.path.length (fun j (x:List DO×DO)=>[(31,eI (BJ j)),(5,.p x.2.b 0)]) (fun j x=> .box nx (LH f.arg (f.path.take j))::CQ L x.1) (fun j x=>EN (fun a p=>D2 f c j a p (kf a p)) x.1∧x.2∈x.1∧x.2.is f.arg (f.path.take j)=true) (es2,e2) rfl Y hC ?_;clear Y hC;generalize e2.b=b0 at *;clear Z e2 es2;rintro j ⟨es2,e2⟩ σ hj ⟨hinv,hmem,his⟩ hs;simp only at hinv hmem his hs
  have hek:e2.k=D2 f c j f.arg (f.path.take j) (kf f.arg (f.path.take j)):=by
   have:=hinv.val e2 hmem;obtain⟨h1,h2⟩:=Kp.1 his;rw[this,h1,h2]
  have hok:mb (m+1) e2.k:=by rw[hek];exact AAw (hb _ _) f c j _ _
  obtain⟨hea,hep⟩:=Kp.1 his;obtain⟨pre2,post2,rfl⟩:=List.append_of_mem hmem;replace hs:=Hi (X:=[.box nx (LH f.arg (f.path.take j))]) hs;have hck:BJ j=j:=AP (by omega);rcases Bo f.path hj with⟨s,hsj,hjlt⟩|hje
  ·have hct:=fun b=>EH e2.k.AK b s
   have hk4:=hok.2.2.2;have hsl0:ew e2.k s= {e2.k with AK:=JP e2.k.AK s}:=rfl
   have hne:f.path.take j++[s]≠f.path.take j:=by
    intro e;have:=congrArg List.length e;simp at this
   have hgd:f.path.getD j 0=s:=by rw[FM,hsj];rfl
   have htk:f.path.take (j+1)=f.path.take j++[s]:=AO hsj;cases hcB:e2.k.AK.contains s
   all_goals
    rw[hcB]at hct
    conv=>whnf
    repeat'((first|apply st|(apply sq;intro K U)|(apply si;intro A B Y Z)|(apply Y;clear Z B Y A)|(apply U;clear U K)|refine⟨rfl,?_⟩|refine⟨nb,?_⟩|refine ix ?_|refine ld ?_|refine IB fun σ hs=>?_|refine HZ fun σ hs=>?_|refine aq fun v σ hs hsl=>?_|refine IE ?_|refine GH ?_|(refine D0 (fun hc=>?_)<;>(try rw[hc])<;>clear hc)|refine Pure.Yt (hct false) (.cons (hs.I6 2 rfl) (.cons (.refl _) .nil)) rfl ?_|refine Pure.use (OO f.arg (f.path.take j) s (by rw[QI];omega)) ?_|fail)<;>conv=>whnf)
   refine(mo (.inl hsl)).use (rest:=_) (hs.front (j:=2) rfl) ?_;clear hs;rintro r post σ ⟨rfl,rfl⟩ hs;replace hs:Sat σ (.box e2.b [eI e2.k.low,eI e2.k.high,e2.vn,eU e2.k.CL,eU e2.k.Gu,.b e2.k.whole,.b e2.k.A4,v]:: .own e2.vn 1 (iL e2.k.no):: .own v 1 (iL ((e2.k.AK++[s]).mergeSort Oe))::([.box nx (LH f.arg (f.path.take j))]++Hf L (pre2++e2::post2) pre2 post2)):=hs.perm (KF _ _ _ _)
   conv=>whnf
   repeat'((first|(apply sq;intro K U)|(apply si;intro A B Y Z)|(apply Y;clear Z B Y A)|(apply U;clear U K)|refine⟨nb,?_⟩|refine ld ?_|refine HZ fun σ hs=>?_|refine Pure.use (OO f.arg (f.path.take j) s (by rw[QI];omega)) ?_|fail)<;>conv=>whnf)
   have hs3: ∃vs3,Sat σ (.box nx (LH f.arg (f.path.take j++[s]))::CQ L (pre2++⟨e2.a,e2.p,e2.b,e2.vn,vs3,ew e2.k s⟩::post2)):=⟨v,Ej (X:=[_]) (e:=e2) rfl rfl rfl (by rw[hsl0,JP,if_neg (by rw[hcB];decide)];exact hs)⟩
   rotate_left
   have hs3: ∃vs3,Sat σ (.box nx (LH f.arg (f.path.take j++[s]))::CQ L (pre2++⟨e2.a,e2.p,e2.b,e2.vn,vs3,ew e2.k s⟩::post2)):=⟨e2.vs,Ej (X:=[_]) (e:=e2) rfl rfl rfl (by rw[hsl0,JP,if_pos hcB];exact hs)⟩
   all_goals
    clear hs;obtain⟨vs3,hs⟩:=hs3;have hinv3:=hinv.change e2.b e2.vn vs3 (ew e2.k s);refine(LW w us hinv3 (a:=f.arg) (p:=f.path.take j++[s]) (by rw[QJ,QI];simp;omega)).use (rest:=[.box nx (LH f.arg (f.path.take j++[s]))]) (hs.perm (M5 _ _)) ?_;clear hs;rintro r post σ ⟨es4,e4,got,rfl,rfl⟩ hs;have hek4:=got.k;obtain⟨hea4,hep4⟩:=Kp.1 got.is;obtain⟨pre4,post4,rfl⟩:=List.append_of_mem got.mem;replace hs:=Hi (X:=[.box nx (LH f.arg (f.path.take j++[s]))]) (hs.perm TZ);cases hnd:e4.k.A4<;>rw[hnd]at hs
    all_goals
     conv=>whnf
     repeat'((first|apply st|(apply si;intro A B Y Z)|(apply Y;clear Z B Y A)|(apply U;clear U K)|refine⟨rfl,?_⟩|refine ld ?_|refine IB fun σ hs=>?_|clear U K)<;>conv=>whnf)
     refine⟨hjlt,(pre4++⟨e4.a,e4.p,e4.b,e4.vn,e4.vs,D7 e4.k c⟩::post4,⟨e4.a,e4.p,e4.b,e4.vn,e4.vs,D7 e4.k c⟩),rfl,⟨(got.inv.change e4.b e4.vn e4.vs (D7 e4.k c)).congr fun a p=>?_,XL _ (.head _),by rw[htk];exact got.is⟩,?_⟩
     ·rw[gz f c hjlt,Te,hea4,hep4,htk,hgd]
      by_cases h1:a=f.arg∧p=f.path.take j++[s]
      ·rw[if_pos h1,if_pos h1,hek4,Te,hea,hep,if_neg (fun h=>hne h.2),h1.1,h1.2]
      ·rw[if_neg h1,if_neg h1,Te,hea,hep]
       by_cases h2:a=f.arg∧p=f.path.take j
       ·rw[if_pos h2,if_pos h2,hek,h2.1,h2.2]
       ·rw[if_neg h2,if_neg h2]
     ·rw[htk]
      refine Ej (X:=[.box nx (LH f.arg (f.path.take j++[s]))]) (e:=e4) rfl rfl rfl ?_
      first
       | (rw[RD c hnd];exact hs)
       | (rw[Pt c hnd];exact hs)
  ·have etk:f.path.take j=f.path:=A2 hje
   rw[etk]at his hs hek hep
   conv=>whnf
   repeat'((first|apply st|(apply sq;intro K U)|(apply si;intro A B Y Z)|(apply Y;clear Z B Y A)|(apply U;clear U K)|refine⟨rfl,?_⟩|refine⟨nb,?_⟩|(refine Fh (fun hc=>?_)<;>(try rw[hc])<;>clear hc)|clear U K)<;>conv=>whnf)
   refine(yq f c l1 l3 hok.1 hok.2.1 (by have:=hok.2.2.1;omega) l4).use (rest:=[.box nx (LH f.arg f.path)]++Hf L (pre2++e2::post2) pre2 post2) hs ?_;rintro r post σ ⟨rfl,vn',rfl⟩ hs
   conv=>whnf
   repeat'((first|(apply Y;clear Z B Y A)|fail)<;>conv=>whnf)
   refine AQ ⟨_,⟨rfl,_,(hinv.change e2.b vn' e2.vs (C5 e2.k f c)).congr fun a p=>?_,rfl⟩,(Ej (X:=[.box nx (LH f.arg f.path)]) (e:=e2) (e':=⟨e2.a,e2.p,e2.b,vn',e2.vs,C5 e2.k f c⟩) rfl rfl rfl hs).less (Oa _ _)⟩;rw[Te,hea,hep,hek,←hje];by_cases h1:a=f.arg∧p=f.path
   ·rw[if_pos h1,if_pos h1,h1.1,h1.2]
   ·rw[if_neg h1,if_neg h1]
theorem yx (w:AM) (us:List Nat) {kf:Int→List Int→Kn} {L:Nat} {es:List DO} (h:EN kf es) (l:Fact) (hl:bK (BV l).1) {m:Nat} (hm:m<1000) (hb: ∀a p,mb m (kf a p)) :
 B9 Tryz.prog 259 [Ta w us L,.a (Kc l)] (CQ L es) fun r post=>r= .ret (.t [])∧ ∃es',EN (fun a p=>DT a p (kf a p) l) es'∧post=CQ L es':=fun σ hs=>
 Be.mono (mX w us h (BV l).1 (BV l).2 hl hm hb σ hs) fun r σ' ⟨post,⟨h1,es',h2,h3⟩,h4⟩=>⟨post,⟨h1,es',h2.congr fun a p=>(ui a p (kf a p) l).symm,h3⟩,h4⟩
def WO (ls:List Fact):Prop:= ∀l∈ls,bK (BV l).1
theorem b7 {ls:List Fact} (h:WO ls) (a:Int) (p:List Int):mb ls.length (kn ls a p):=by
 have hc:JF 64 ls:=fun l hl ho=>(h l hl).cls ho
 obtain⟨h1,h2⟩:=iA hc a p;obtain⟨h3,h4⟩:=cA a p ls k0;exact⟨by simpa using h1,by simpa using h2,by simpa[kn,k0]using h3,by simpa[kn,k0]using h4⟩
theorem inv0:EN (kn []) []:=⟨fun x hx=>(by cases hx),fun a p _=>rfl,.nil,fun x hx=>(by cases hx)⟩
set_option maxHeartbeats 1000000 in
theorem dJ (w:AM) (us:List Nat) (ls:List Fact) (b:Bool) (h:WO ls) (hlen:ls.length<900) :
 B9 Tryz.prog 230 [.rp (wC w us),.l (FH ls) b] [] fun r post=> ∃L es,r= .ret (Ta w us L)∧EN (kn ls) es∧post=CQ L es:=by
 intro σ hs;have hM:=Mx;refine xH nb ?_
 conv=>whnf
 repeat'((first|apply st|(apply sq;intro K U)|(apply si;intro A B Y Z)|(apply Y;clear Z B Y A)|(apply U;clear U K)|(intro nn hnn;generalize hg:BE _ nn _=σ;refine E3 hg fun hs=>?_;clear hg)|fail)<;>conv=>whnf)
 generalize nn=L at *;refine Cn ls.length (fun k (x:List DO)=>[(14,eI (BJ k))]) (fun k x=>CQ L x) (fun k x=>EN (kn (ls.take k)) x) [] rfl inv0 hs ?_;clear hs hnn;rintro k es σ hk hinv hs;rcases Bo ls hk with⟨l,hlk,hlt⟩|hke
 ·have hlm:l∈ls:=DM hlk
  have htk:ls.take (k+1)=ls.take k++[l]:=AO hlk;have hbk: ∀a p,mb (ls.take k).length (kn (ls.take k) a p):=b7 fun x hx=>h x (List.mem_of_mem_take hx)
  conv=>whnf
  repeat'((first|apply st|(apply sq;intro K U)|(apply si;intro A B Y Z)|(apply Y;clear Z B Y A)|(apply U;clear U K)|refine⟨rfl,?_⟩|refine⟨nb,?_⟩|refine ix ?_|refine ld ?_|refine HZ fun σ hs=>?_|(refine D0 (fun hc=>?_)<;>(try rw[hc])<;>clear hc)|(intro nn hnn;generalize hg:BE _ nn _=σ;refine E3 hg fun hs=>?_;clear hg)|fail)<;>conv=>whnf)
  rename_i nb hnb _ hs;generalize nn=n7 at *;refine(yx w us hinv l (h l hlm) (m:=(ls.take k).length) (by rw[QI];omega) hbk).use (rest:=[.box n7 (Kc l)]) (hs.perm (M5 _ _)) ?_;clear hs;rintro r post σ ⟨rfl,es',hinv',rfl⟩ hs
  conv=>whnf
  repeat'((first|(apply si;intro A B Y Z)|(apply Y;clear Z B Y A)|(apply U;clear U K)|refine⟨rfl,?_⟩|clear U K)<;>conv=>whnf)
  refine⟨hlt,es',rfl,?_,hs.less (List.sublist_append_left _ _)⟩;rw[htk];exact hinv'.congr fun a p=>(hZ _ _ _ _).symm
 ·have etk:ls.take k=ls:=A2 hke
  rw[etk]at hinv
  conv=>whnf
  repeat'((first|apply st|(apply sq;intro K U)|(apply si;intro A B Y Z)|(apply Y;clear Z B Y A)|(apply U;clear U K)|refine⟨rfl,?_⟩|(refine Fh (fun hc=>?_)<;>(try rw[hc])<;>clear hc)|clear U K)<;>conv=>whnf)
  exact AQ ⟨_,⟨L,es,rfl,hinv,rfl⟩,hs⟩
structure JQ (w:AM) (kf:Int→List Int→Kn):Prop where
 ok: ∀a p,mb 1000 (kf a p)
 low: ∀a p,-1000000000≤(kf a p).low∧(kf a p).low≤1000000000
 short: ∀a p,2≤p.length→(kf a p).AK= []
 AK: ∀a p,∀s∈(kf a p).AK,0≤s∧s<w.owner.length
abbrev Hx (L:Nat) (pre post:List DO) (e:DO) (s:List DO):List At:=
 .box e.b [eI e.k.low,eI e.k.high,e.vn,eU e.k.CL,eU e.k.Gu,.b e.k.whole,.b e.k.A4,e.vs]:: .own e.vn 1 (iL e.k.no)::Hf L (pre++e::(post++s)) pre (post++s)
theorem zE {σ:AH} {L:Nat} {pre post:List DO} {e:DO} {s:List DO} (h:Sat σ (CQ L (pre++e::(post++s)))):Sat σ (.own e.vs 1 (iL e.k.AK)::Hx L pre post e s):=
 (Hi (X:=[]) h).perm ((KF _ _ _ _).symm)
theorem tQ {σ:AH} {L:Nat} {pre post:List DO} {e:DO} {s:List DO} (h:Sat σ (.own e.vs 1 (iL e.k.AK)::Hx L pre post e s)):Sat σ (CQ L (pre++e::(post++s))):=
 Ej (X:=[]) (e:=e) (e':=e) rfl rfl rfl (h.perm (KF _ _ _ _))
def Ow (kf:Int→List Int→Kn) (L:Nat) (es:List DO) (post:List At):Prop:= ∃es',QR es es'∧EN kf es'∧post=CQ L es'
theorem lr (w:AM) (us:List Nat) {kf:Int→List Int→Kn} {L:Nat} {pre post:List DO} {e:DO} {a:Int} {p:List Int} (hp:p.length<2) :
 NV Tryz.prog (.f (.func 290) [] [.rp [Ta w us L],.rp (LH a p)]) eI (fun s=> .own e.vs 1 (iL e.k.AK)::Hx L pre post e s) (fun y=> !(kf a (p++[y])).A4) (fun s=>EN kf (pre++e::(post++s))∧ ∀x∈s,x.k=k0) (fun _=>True):=by
 rintro y s - ⟨hj,hj0⟩ σ hs;refine C1 ?_;show Be Tryz.prog 290 ([]++[eI y]++[.rp [Ta w us L],.rp (LH a p)]) σ _;refine wG nb ?_
 conv=>whnf
 repeat'((first|apply st|(apply sq;intro K U)|(apply si;intro A B Y Z)|(apply Y;clear Z B Y A)|(apply U;clear U K)|apply dr|refine rk ?_ ?_|exact fun s e=>by cases e;rfl|refine⟨nb,?_⟩|refine Pure.use (OO a p y hp) ?_|fail)<;>conv=>whnf)
 refine(LW w us hj (a:=a) (p:=p++[y]) (by simp;omega)).use (rest:=[]) (by simpa using tQ hs) ?_;clear hs;rintro r post' σ ⟨es4,e4,got,rfl,rfl⟩ hs;have hek4:=got.k;obtain⟨new,he4,hnew⟩:=got.ext;have hinv:=got.inv;obtain⟨pre4,post4,he5⟩:=List.append_of_mem got.mem;rw[J9,he5]at hs;replace hs:=Hi (X:=[]) hs
 conv=>whnf
 repeat'((first|apply st|(apply Y;clear Z B Y A)|(apply U;clear U K)|apply dr|refine ld ?_|fail)<;>conv=>whnf)
 refine AQ ⟨by rw[hek4],s++new,⟨?_,fun x hx=>?_⟩,?_⟩
 ·rw[he4]at hinv
  simpa using hinv
 ·rcases F8.1 hx with hx|hx
  ·exact hj0 x hx
  ·exact hnew x hx
 ·have h2:=Ej (X:=[]) (e:=e4) (e':=e4) rfl rfl rfl hs
  rw[←he5,he4]at h2;refine zE ?_;simpa using h2
theorem lu (w:AM) (us:List Nat) {kf:Int→List Int→Kn} (hr:JQ w kf) {L:Nat} {es:List DO} (h:EN kf es) {a:Int} {p:List Int} (hp:p.length≤2) :
 B9 Tryz.prog 288 [Ta w us L,Er a p] (CQ L es) fun r post=>r= .ret (.b (Oy kf a p))∧Ow kf L es post:=by
 intro σ hs;have hM:=Mx;refine wI nb ?_
 conv=>whnf
 repeat'((first|apply st|(apply sq;intro K U)|(apply si;intro A B Y Z)|(apply Y;clear Z B Y A)|(apply U;clear U K)|refine⟨nb,?_⟩|fail)<;>conv=>whnf)
 refine(LW w us h (a:=a) (p:=p) hp).use (rest:=[]) (by simpa using hs) ?_;clear hs;rintro r post σ ⟨es4,e4,got,rfl,rfl⟩ hs;have hek:=got.k;obtain⟨pre,post,rfl⟩:=List.append_of_mem got.mem;rw[J9]at hs;replace hs:=Hi (X:=[]) hs;have hsl:=(hr.ok a p).2.2.2;have hsh:=hr.short a p;rw[←hek]at hsl hsh
 have hst:p.length<2∨e4.k.AK= []:=by
  rcases Nat.lt_or_ge p.length 2 with h'|h'
  ·exact .inl h'
  ·exact .inr (hsh h')
 have hE:Oy kf a p=e4.k.AK.all fun y=> !(kf a (p++[y])).A4:=by rw[Oy,hek]
 conv=>whnf
 repeat'((first|refine ld ?_|fail)<;>conv=>whnf)
 have hall:B9 Tryz.prog 177 [e4.vs,.f (.func 290) [] [.rp [Ta w us L],.rp (LH a p)]] (.own e4.vs 1 (iL e4.k.AK)::Hx L pre post e4 []) fun r post'=>r= .ret (.b (e4.k.AK.all fun y=> !(kf a (p++[y])).A4))∧ ∃s',(EN kf (pre++e4::(post++s'))∧ ∀x∈s',x.k=k0)∧post'= .own e4.vs 1 (iL e4.k.AK)::Hx L pre post e4 s':=by
  rcases hst with h'|h'
  ·exact YZ 290 [] [.rp [Ta w us L],.rp (LH a p)] (Hx L pre post e4) _ _ _ (lr w us h') (fun _ _=>trivial) (by omega) [] ⟨by simpa using got.inv,by simp⟩
  ·exact YZ 290 [] [.rp [Ta w us L],.rp (LH a p)] (Hx L pre post e4) _ _ (fun _=>False) (fun y s hf=>hf.elim) (fun x hx=>by rw[h']at hx;cases hx) (by omega) [] ⟨by simpa using got.inv,by simp⟩
 refine hall.use (rest:=[]) (by
  have h2:=zE (L:=L) (pre:=pre) (post:=post) (e:=e4) (s:=[]) (by simpa using Ej (X:=[]) (e:=e4) (e':=e4) rfl rfl rfl hs)
  simpa using h2) ?_
 clear hs;rintro r post' σ ⟨rfl,s',⟨hi,hn⟩,rfl⟩ hs
 conv=>whnf
 repeat'((first|apply st|(apply Y;clear Z B Y A)|(apply U;clear U K)|fail)<;>conv=>whnf)
 refine AQ ⟨_,⟨by rw[hE],pre++e4::(post++s'),got.ext.trans ⟨s',by simp,hn⟩,hi,rfl⟩,tQ (by simpa using hs)⟩
theorem eg {m u:Nat} (hm:m<18446744073709551616):(Oq m u=0)↔QO m u=true:=by
 rw[PH (by simpa using hm)];constructor
 ·intro h b hb
  have hlt:b<64:=by
   rcases Nat.lt_or_ge b 64 with h'|h'
   ·exact h'
   ·rw[Nat.testBit_lt_two_pow (Nat.lt_of_lt_of_le hm (by simpa using Nat.pow_le_pow_right (n:=2) (by decide) h'))]at hb;cases hb
  have:=PZ (a:=m) (b:=u) hlt;rw[h,Nat.zero_testBit,hb]at this;simpa using this
 ·intro h
  refine Nat.eq_of_testBit_eq fun i=>?_
  rw[Nat.zero_testBit];rcases Nat.lt_or_ge i 64 with hlt|hge
  ·rw[PZ hlt]
   cases hb:m.testBit i with
   | false=>rfl
   | true=>rw[h i hb];rfl
  ·exact Nat.testBit_lt_two_pow (Nat.lt_of_lt_of_le (TC _ _) (by simpa using Nat.pow_le_pow_right (n:=2) (by decide) hge))
theorem Uc (w:AM) (us:List Nat) {kf:Int→List Int→Kn} (hr:JQ w kf) {L:Nat} {es:List DO} (h:EN kf es) {a:Int} {p:List Int} (hp:p.length≤2) (c:Nat) (hc:c<64) :
 B9 Tryz.prog 284 [Ta w us L,Er a p,eI c] (CQ L es) fun r post=>r= .ret (.b (IK kf a p c))∧Ow kf L es post:=by
 intro σ hs;refine wL nb ?_
 conv=>whnf
 repeat'((first|apply st|(apply sq;intro K U)|(apply si;intro A B Y Z)|(apply Y;clear Z B Y A)|(apply U;clear U K)|refine⟨nb,?_⟩|fail)<;>conv=>whnf)
 refine(LW w us h (a:=a) (p:=p) hp).use (rest:=[]) (by simpa using hs) ?_;clear hs;rintro r post σ ⟨es4,e4,got,rfl,rfl⟩ hs;have hek:=got.k;obtain⟨pre,post,rfl⟩:=List.append_of_mem got.mem;rw[J9]at hs;replace hs:=Hi (X:=[]) hs;have hok:=hr.ok a p;rw[←hek]at hok;have hu:1|||2 ^ c<18446744073709551616:=LO (by decide) (Kj hc)
 have hb1:bits .andNot .u64 (e4.k.CL:Int) ((1|||2 ^ c:Nat):Int)=((Oq e4.k.CL (1|||2 ^ c):Nat):Int):=Rg;have hb2:bits .and .u64 (e4.k.Gu:Int) ((1|||2 ^ c:Nat):Int)=((e4.k.Gu&&&(1|||2 ^ c):Nat):Int):=L5 hok.2.1 hu;have hb3:=eg (u:=1|||2 ^ c) hok.1;have F:IK kf a p c=(QO e4.k.CL (1|||2 ^ c)&&(e4.k.Gu&&&(1|||2 ^ c)==0&&Oy kf a p)):=by rw[IK,hek]
 conv=>whnf
 repeat'((first|apply st|(apply sq;intro K U)|(apply si;intro A B Y Z)|(apply Y;clear Z B Y A)|(apply U;clear U K)|refine⟨rfl,?_⟩|refine⟨nb,?_⟩|refine ld ?_|refine Pure.use (Xe 1 c (by decide) hc) ?_|(constructor<;>intro hc<;>(try rw[hc])<;>(replace hc:=bp hc))|fail)<;>conv=>whnf)
 ·have h1:QO e4.k.CL (1|||2 ^ c)=true:=hb3.1 (by omega)
  have h2:(e4.k.Gu&&&(1|||2 ^ c)==0)=true:=by rw[FL];omega
  refine(lu w us hr got.inv hp).use (rest:=[]) (by simpa using Ej (X:=[]) (e:=e4) (e':=e4) rfl rfl rfl hs) ?_;clear hs;rintro r post' σ ⟨rfl,es5,hx,hi,rfl⟩ hs
  conv=>whnf
  repeat'((first|apply st|(apply Y;clear Z B Y A)|(apply U;clear U K)|fail)<;>conv=>whnf)
  exact AQ ⟨_,⟨by rw[F,h1,h2];rfl,es5,got.ext.trans hx,hi,rfl⟩,by simpa using hs⟩
 ·have h2:(e4.k.Gu&&&(1|||2 ^ c)==0)=false:=by rw[beq_eq_false_iff_ne];omega
  exact AQ ⟨_,⟨by rw[F,h2];simp,_,got.ext,got.inv,rfl⟩,by simpa using Ej (X:=[]) (e:=e4) (e':=e4) rfl rfl rfl hs⟩
 ·have h1:QO e4.k.CL (1|||2 ^ c)=false:=by
   rw[←Bool.not_eq_true,←hb3];omega
  exact AQ ⟨_,⟨by rw[F,h1];simp,_,got.ext,got.inv,rfl⟩,by simpa using Ej (X:=[]) (e:=e4) (e':=e4) rfl rfl rfl hs⟩
theorem P0 (w:AM) (us:List Nat) {kf:Int→List Int→Kn} (hr:JQ w kf) {L:Nat} {es:List DO} (h:EN kf es) {a:Int} {p:List Int} (hp:p.length≤2) :
 B9 Tryz.prog 278 [Ta w us L,Er a p] (CQ L es) fun r post=>r= .ret (.t [eI (Kl (kf a p)),.b (R9 kf a p)])∧Ow kf L es post:=by
 intro σ hs;have hM:=Mx;refine wR nb ?_
 conv=>whnf
 repeat'((first|apply st|(apply sq;intro K U)|(apply si;intro A B Y Z)|(apply Y;clear Z B Y A)|(apply U;clear U K)|refine⟨nb,?_⟩|fail)<;>conv=>whnf)
 refine(LW w us h (a:=a) (p:=p) hp).use (rest:=[]) (by simpa using hs) ?_;clear hs;rintro r post σ ⟨es4,e4,got,rfl,rfl⟩ hs;have hek:=got.k;obtain⟨pre,post,rfl⟩:=List.append_of_mem got.mem;rw[J9]at hs;replace hs:=Hi (X:=[]) hs;have hok:=hr.ok a p;have hlo:=hr.low a p;rw[←hek]at hok hlo;have hno:=hok.2.2.1;have hle:=YC e4.k.no e4.k.low;have hL:Kl (kf a p)=I1 e4.k.no (from_ e4.k.no e4.k.low) e4.k.low:=by rw[Kl,←hek];exact Yc hle (J1 _)
 conv=>whnf
 repeat'((first|apply st|(apply sq;intro K U)|(apply si;intro A B Y Z)|(apply Y;clear Z B Y A)|(apply U;clear U K)|refine ld ?_|fail)<;>conv=>whnf)
 refine Ke (fun n:Int=>from_ e4.k.no n) (fun n=>[(7,eI n)]) (fun _=> .box e4.b [eI e4.k.low,eI e4.k.high,e4.vn,eU e4.k.CL,eU e4.k.Gu,.b e4.k.whole,.b e4.k.A4,e4.vs]:: .own e4.vn 1 (iL e4.k.no):: .own e4.vs 1 (iL e4.k.AK)::([]++Hf L (pre++e4::post) pre post)) (fun n=> -1000000000≤n∧n+from_ e4.k.no n≤1000001000∧Kl (kf a p)=I1 e4.k.no (from_ e4.k.no n) n) e4.k.low rfl ⟨by omega,by omega,hL⟩ hs ?_;clear hs hL hle;rintro n σ ⟨hn0,hn1,hL⟩ hs;have hct2:=fun b=>EH e4.k.no b n
 cases hcB:e4.k.no.contains n<;>rw[hcB]at hct2
 ·have hout:n∉e4.k.no:=by simpa using hcB
  rw[mV hout]at hL;have hI:R9 kf a p=(decide (n≤e4.k.high)&&IK kf a p 1):=by rw[R9,hL,hek]
  conv=>whnf
  repeat'((first|apply st|(apply sq;intro K U)|(apply si;intro A B Y Z)|(apply Y;clear Z B Y A)|(apply U;clear U K)|refine⟨rfl,?_⟩|refine⟨nb,?_⟩|refine ld ?_|refine Pure.Yt (hct2 false) (.cons (hs.I6 1 rfl) (.cons (.refl _) .nil)) rfl ?_|(constructor<;>intro hc<;>(try rw[hc])<;>(replace hc:=bp hc))|clear U K)<;>conv=>whnf)
  all_goals
   have hsc:Sat σ (CQ L (pre++e4::post)):=by simpa using Ej (X:=[]) (e:=e4) (e':=e4) rfl rfl rfl hs
  ·refine(Uc w us hr got.inv hp 1 (by decide)).use (rest:=[]) (by simpa using hsc) ?_
   clear hs hsc;rintro r post' σ ⟨rfl,es5,hx,hi,rfl⟩ hs
   conv=>whnf
   repeat'((first|apply st|(apply Y;clear Z B Y A)|(apply U;clear U K)|fail)<;>conv=>whnf)
   exact AQ ⟨_,⟨by rw[hL,hI,decide_eq_true (by assumption)];rfl,es5,got.ext.trans hx,hi,rfl⟩,by simpa using hs⟩
  ·exact AQ ⟨_,⟨by rw[hL,hI,decide_eq_false (by omega)];rfl,_,got.ext,got.inv,rfl⟩,hsc⟩
 ·have hin:n∈e4.k.no:=by simpa using hcB
  have hlt:=S6 hin;have hwr:IntKind.i64.wrap (n+1)=n+1:=wrap64 (by omega) (by omega);obtain⟨m,hm⟩: ∃m,from_ e4.k.no n=m+1:=⟨from_ e4.k.no n - 1,by omega⟩
  have hL2:Kl (kf a p)=I1 e4.k.no (from_ e4.k.no (n+1)) (n+1):=by rw[hL,hm,yw hin];exact Yc (by omega) (J1 _)
  conv=>whnf
  repeat'((first|apply st|(apply sq;intro K U)|(apply si;intro A B Y Z)|(apply Y;clear Z B Y A)|(apply U;clear U K)|refine⟨rfl,?_⟩|refine ld ?_|refine Pure.Yt (hct2 false) (.cons (hs.I6 1 rfl) (.cons (.refl _) .nil)) rfl ?_|clear U K)<;>conv=>whnf)
  exact⟨n+1,hlt,by rw[hwr];rfl,⟨by omega,by omega,hL2⟩,hs⟩
theorem X1 (w:AM) (us:List Nat) {kf:Int→List Int→Kn} (hr:JQ w kf) {L:Nat} {es:List DO} (h:EN kf es) {a:Int} {p:List Int} (hp:p.length≤2) :
 B9 Tryz.prog 279 [Ta w us L,Er a p] (CQ L es) fun r post=>r= .ret (.b (LP kf a p))∧Ow kf L es post:=by
 intro σ hs;refine wQ nb ?_
 conv=>whnf
 repeat'((first|apply st|(apply sq;intro K U)|(apply si;intro A B Y Z)|(apply Y;clear Z B Y A)|(apply U;clear U K)|refine⟨nb,?_⟩|fail)<;>conv=>whnf)
 refine(LW w us h (a:=a) (p:=p) hp).use (rest:=[]) (by simpa using hs) ?_;clear hs;rintro r post σ ⟨es4,e4,got,rfl,rfl⟩ hs;have hek:=got.k;obtain⟨pre,post,rfl⟩:=List.append_of_mem got.mem;rw[J9]at hs;have hsc:=hs;replace hs:=Hi (X:=[]) hs;have hN:LP kf a p=(!e4.k.whole&&IK kf a p 2):=by rw[LP,hek]
 cases hw:e4.k.whole<;>rw[hw]at hs hN
 ·conv=>whnf
  repeat'((first|apply st|refine⟨nb,?_⟩|refine ld ?_|refine IE ?_|fail)<;>conv=>whnf)
  refine(Uc w us hr got.inv hp 2 (by decide)).use (rest:=[]) (by simpa using hsc) ?_;clear hs hsc;rintro r post' σ ⟨rfl,es5,hx,hi,rfl⟩ hs
  conv=>whnf
  repeat'((first|apply st|(apply Y;clear Z B Y A)|(apply U;clear U K)|fail)<;>conv=>whnf)
  exact AQ ⟨_,⟨by rw[hN];rfl,es5,got.ext.trans hx,hi,rfl⟩,by simpa using hs⟩
 ·conv=>whnf
  repeat'((first|apply st|(apply Y;clear Z B Y A)|(apply U;clear U K)|refine ld ?_|refine GH ?_|fail)<;>conv=>whnf)
  exact AQ ⟨_,⟨by rw[hN];rfl,_,got.ext,got.inv,rfl⟩,hsc⟩
theorem SI {σ:AH} {X:List At} {L:Nat} {pre post:List DO} {e:DO} {s:List DO} (h:Sat σ (X++CQ L (pre++e::(post++s)))):Sat σ (.own e.vs 1 (iL e.k.AK)::(X++Hx L pre post e s)):=by
 have h2:=Hi h;refine h2.perm ((KF _ _ _ _).symm.trans (.cons _ ?_));exact(List.perm_middle.trans (.cons _ List.perm_middle)).symm
theorem mG {σ:AH} {X:List At} {L:Nat} {pre post:List DO} {e:DO} {s:List DO} (h:Sat σ (.own e.vs 1 (iL e.k.AK)::(X++Hx L pre post e s))):Sat σ (X++CQ L (pre++e::(post++s))):=by
 refine Ej (X:=X) (e:=e) (e':=e) rfl rfl rfl ?_;refine h.perm ?_;refine List.Perm.trans (.cons _ (List.perm_middle.trans (.cons _ List.perm_middle))) ?_;exact KF _ _ _ _
theorem iH (s:Nat) (c:Int) (hs0:s<18446744073709551616) (h0:0≤c) (hc:c<64):Pure Tryz.prog 152 [eU s,eI c] (.b (s.testBit c.toNat)):=by
 have:=SP s c.toNat hs0 (by omega);rw[Int.toNat_of_nonneg h0]at this;exact this
theorem ei {m:Nat} (hm:m<18446744073709551616):Oq m 1=Hd m:=by
 refine Nat.eq_of_testBit_eq fun i=>?_
 rw[U0];rcases Nat.lt_or_ge i 64 with hlt|hge
 ·rw[PZ hlt,show(1:Nat)=2 ^ 0 from rfl,Nat.testBit_two_pow]
  congr 2;rw[KZ,D4,FL];omega
 ·have h64:18446744073709551616≤2 ^ i:=by simpa using Nat.pow_le_pow_right (n:=2) (by decide) hge
  rw[Nat.testBit_lt_two_pow (Nat.lt_of_lt_of_le (TC _ _) h64),Nat.testBit_lt_two_pow (Nat.lt_of_lt_of_le hm h64)];rfl
set_option maxHeartbeats 4000000 in
theorem Q9 (w:AM) (hw:Fs w) {kf:Int→List Int→Kn} (hr:JQ w kf) {a:Int} {p:List Int} (hp:p.length≤2) (can:Int→Bool)
 (hcan: ∀s∈(kf a p).AK,∀L es,EN kf es→B9 Tryz.prog 260 [Ta w (E5 w.parents) L,Er a (p++[s])] (CQ L es) fun r post=>r= .ret (.b (can s))∧Ow kf L es post) {L:Nat} {es:List DO} (h:EN kf es) :
 B9 Tryz.prog 280 [Ta w (E5 w.parents) L,Er a p] (CQ L es) fun r post=>r= .ret (.t [eU (Ny w (kf a p) (fun s=>(kf a (p++[s])).A4) can).1,.b (Ny w (kf a p) (fun s=>(kf a (p++[s])).A4) can).2])∧Ow kf L es post:=by
 intro σ hs;have hM:=Mx;generalize hus:E5 w.parents=us at *;refine wP nb ?_
 conv=>whnf
 repeat'((first|apply st|(apply sq;intro K U)|(apply si;intro A B Y Z)|(apply Y;clear Z B Y A)|(apply U;clear U K)|refine⟨nb,?_⟩|fail)<;>conv=>whnf)
 refine(LW w us h (a:=a) (p:=p) hp).use (rest:=[]) (by simpa using hs) ?_;clear hs;rintro r post σ ⟨es4,e4,got,rfl,rfl⟩ hs;have hek:=got.k;obtain⟨pre,post,rfl⟩:=List.append_of_mem got.mem;rw[J9]at hs;have hsc:=hs;replace hs:=Hi (X:=[]) hs;have hok:=hr.ok a p;have hsl:=(hr.ok a p).2.2.2;have hsh:=hr.short a p;have hsw:=hr.AK a p;rw[←hek]at hok hsl hsh hsw hcan;have hO:Ny w (kf a p) (fun s=>(kf a (p++[s])).A4) can=Ny w e4.k (fun s=>(kf a (p++[s])).A4) can:=by rw[hek]
 have hOn:(e4.k.whole=true∨e4.k.CL.testBit 1=true∨e4.k.CL.testBit 2=true∨e4.k.Gu.testBit 0=true)→Ny w (kf a p) (fun s=>(kf a (p++[s])).A4) can=(0,false):=fun h=>by
  rw[hO,Ny,if_pos];rcases h with h|h|h|h<;>rw[h]<;>simp
 have hOy:e4.k.whole=false→e4.k.CL.testBit 1=false→e4.k.CL.testBit 2=false→e4.k.Gu.testBit 0=false→Ny w (kf a p) (fun s=>(kf a (p++[s])).A4) can=match It w (fun s=>(kf a (p++[s])).A4) can e4.k.AK (e4.k.CL,e4.k.Gu)with
  | none=>(0,false)
  | some u=>(Hd (Dx (E5 w.parents) w.parents.length u.1),Hd (Dx (E5 w.parents) w.parents.length u.1)&&&u.2==0):=fun h1 h2 h3 h4=>by
  rw[hO,Ny,h1,h2,h3,h4];rfl
 clear hO;cases hb0:e4.k.whole<;>rw[hb0]at hs
 rotate_left
 ·conv=>whnf
  repeat'((first|apply st|(apply sq;intro K U)|(apply si;intro A B Y Z)|(apply Y;clear Z B Y A)|(apply U;clear U K)|apply dr|refine ld ?_|clear U K)<;>conv=>whnf)
  exact AQ ⟨_,⟨by rw[hOn (.inl hb0)];rfl,_,got.ext,got.inv,rfl⟩,hsc⟩
 ·conv => whnf
  repeat'((first|apply st|(apply sq;intro K U)|(apply si;intro A B Y Z)|(apply Y;clear Z B Y A)|(apply U;clear U K)|apply dr|refine lo ?_|refine ld ?_|refine Pure.use (SP e4.k.CL 1 hok.1 (by decide)) ?_|refine Pure.use (SP e4.k.CL 2 hok.1 (by decide)) ?_|refine Pure.use (SP e4.k.Gu 0 hok.2.1 (by decide)) ?_|(constructor<;>intro hc<;>(try rw[hc])<;>(replace hc:=bp hc))|clear U K)<;>conv=>whnf)
  all_goals first
   | exact AQ ⟨_,⟨by rw[hOn (by first|exact .inl (by assumption)|exact .inr (.inl (by assumption))|exact .inr (.inr (.inl (by assumption)))|exact .inr (.inr (.inr (by assumption))))];rfl,_,got.ext,got.inv,rfl⟩,hsc⟩
   | skip
  replace hOy:=hOy hb0 (by assumption) (by assumption) (by assumption);clear hOn;generalize hnf:(fun s=>(kf a (p++[s])).A4)=A4 at *
  have hs1:Sat σ (.own e4.vs 1 (iL e4.k.AK)::Hx L pre post e4 []):=by
   have h2:=SI (X:=[]) (L:=L) (pre:=pre) (post:=post) (e:=e4) (s:=[]) (by simpa using hsc);simpa using h2
  refine Cn e4.k.AK.length (fun k (x:(Nat×Nat)×List DO)=>[(47,eI (BJ k)),(7,eU x.1.1),(8,eU x.1.2)]) (fun k x=> .own e4.vs 1 (iL e4.k.AK)::Hx L pre post e4 x.2) (fun k x=>(x.1.1<18446744073709551616∧x.1.2<18446744073709551616)∧(EN kf (pre++e4::(post++x.2))∧ ∀y∈x.2,y.k=k0)∧It w A4 can e4.k.AK (e4.k.CL,e4.k.Gu)=It w A4 can (e4.k.AK.drop k) x.1) ((e4.k.CL,e4.k.Gu),[]) rfl ⟨⟨hok.1,hok.2.1⟩,⟨by simpa using got.inv,by simp⟩,rfl⟩ hs1 ?_;clear hs hs1 hsc;rintro k ⟨⟨m,no⟩,new⟩ σ hk ⟨⟨hm,hno⟩,⟨hinv,hnew⟩,hF⟩ hs;simp only at hm hno hinv hnew hF hs;have hck:BJ k=k:=AP (by have:=hok.2.2.2;omega);rcases Bo e4.k.AK hk with⟨s,hsk,hlt⟩|hke
  ·have hsm:=DM hsk
   have hp2:p.length<2:=by
    rcases Nat.lt_or_ge p.length 2 with h'|h'
    ·exact h'
    ·rw[hsh h']at hsm;cases hsm
   obtain⟨hs0,hs1⟩:=hsw s hsm;rw[drop_cons hsk,It]at hF
   conv=>whnf
   repeat'((first|apply st|(apply sq;intro K U)|(apply si;intro A B Y Z)|(apply Y;clear Z B Y A)|(apply U;clear U K)|apply dr|refine⟨rfl,?_⟩|refine⟨nb,?_⟩|refine ld ?_|refine HZ fun σ hs=>?_|refine oi ?_|refine ol fun x hx=>?_|(refine D0 (fun hc=>?_)<;>(try rw[hc])<;>clear hc)|refine Pure.use (OO a p _ hp2) ?_|(intro nn hnn;generalize hg:BE _ nn _=σ;refine E3 hg fun hs=>?_;clear hg)|fail)<;>conv=>whnf)
   obtain rfl:x=s:=by rw[hck,LG,hsk]at hx;exact(Option.some.inj hx).symm
   generalize nn=n7 at *;have hs2:Sat σ ([.box n7 (LH a (p++[x]))]++CQ L (pre++e4::(post++new))):=mG (X:=[.box n7 (LH a (p++[x]))]) (hs.perm (.swap _ _ _));clear hs;obtain⟨o,ho⟩: ∃o,w.owner[x.toNat]? =some o:=⟨_,FD (by omega)⟩
   have hoI:EK w x=o:=by simp only[EK,FM,ho];rfl
   obtain⟨ho1,ho2⟩:=hw.2.2 o (DM ho);have hwp:=hw.1.1;have hcx:=hcan x hsm L;cases hnx:A4 x<;>cases hcy:can x
   all_goals
    rw[hcy]at hcx;rw[XR,hnx,hcy,hoI]at hF;refine(LW w us hinv (a:=a) (p:=p++[x]) (by simp;omega)).use (rest:=[.box n7 (LH a (p++[x]))]) (hs2.perm TZ) ?_;clear hs2;rintro r post' σ ⟨es5,e5,got5,rfl,rfl⟩ hs;have hek5:e5.k.A4=A4 x:=by rw[got5.k,←hnf]
    rw[hnx]at hek5;obtain⟨newA,heA,hnA⟩:=got5.ext;obtain⟨pre5,post5,he5⟩:=List.append_of_mem got5.mem;rw[he5]at hs;replace hs:=Hi (X:=[.box n7 (LH a (p++[x]))]) (hs.perm TZ);rw[hek5]at hs
    conv=>whnf
    repeat'((first|apply dr|refine rk ?_ ?_|exact fun s e=>by cases e;rfl|refine⟨nb,?_⟩|refine ld ?_|fail)<;>conv=>whnf)
    have hs2:Sat σ ([.box n7 (LH a (p++[x]))]++CQ L (pre5++e5::post5)):=Ej (X:=[.box n7 (LH a (p++[x]))]) (e:=e5) (e':=e5) rfl rfl rfl (by rw[←hek5]at hs;exact hs);clear hs;refine(hcx es5 got5.inv).use (rest:=[.box n7 (LH a (p++[x]))]) (by rw[he5];exact hs2.perm TZ) ?_;clear hs2;rintro r post' σ ⟨rfl,es6,⟨new6,he6,hn6⟩,hi6,rfl⟩ hs;have he7:es6=pre5++e5::(post5++new6):=by rw[he6,he5];simp
    rw[he7]at hs;replace hs:=Hi (X:=[.box n7 (LH a (p++[x]))]) (hs.perm TZ);rw[hek5]at hs
    conv=>whnf
    repeat'((first|apply st|(apply sq;intro K U)|(apply si;intro A B Y Z)|(apply Y;clear Z B Y A)|(apply U;clear U K)|apply dr|refine rk ?_ ?_|exact fun s e=>by cases e;rfl|refine⟨rfl,?_⟩|refine Tb ?_|refine ld ?_|refine IE ?_|refine GH ?_|refine Pure.use (Hm m o hm (by omega) (by omega)) ?_|refine Pure.use (Hm no o hno (by omega) (by omega)) ?_|clear U K)<;>conv=>whnf)
    simp only[Bool.not_false,Bool.not_true,Bool.and_true,Bool.and_false,NN,if_false,if_true,Option.bind_some,Option.bind_none]at hF;have e7:es6=pre++e4::(post++(new++newA++new6)):=by rw[he6,heA];simp
    have hs2:Sat σ ([.box n7 (LH a (p++[x]))]++CQ L (pre5++e5::(post5++new6))):=Ej (X:=[.box n7 (LH a (p++[x]))]) (e:=e5) (e':=e5) rfl rfl rfl (by rw[←hek5]at hs;exact hs)
    have hs3:Sat σ (CQ L (pre++e4::(post++(new++newA++new6)))):=by
     rw[←he7,e7]at hs2;exact hs2.less (List.sublist_append_right _ _)
    have hi7:EN kf (pre++e4::(post++(new++newA++new6))):=by rw[←e7];exact hi6
    have hn7: ∀y∈new++newA++new6,y.k=k0:=fun y hy=>by
     rcases F8.1 hy with hy|hy
     ·rcases F8.1 hy with hy|hy
      ·exact hnew y hy
      ·exact hnA y hy
     ·exact hn6 y hy
    have hob:2 ^ o.toNat<18446744073709551616:=Kj (by omega)
   ·exact⟨hlt,((m,no|||2 ^ o.toNat),new++newA++new6),rfl,⟨⟨hm,LO hno hob⟩,⟨hi7,hn7⟩,hF⟩,SI (X:=[]) hs3⟩
   ·exact⟨hlt,((m,no),new++newA++new6),rfl,⟨⟨hm,hno⟩,⟨hi7,hn7⟩,hF⟩,SI (X:=[]) hs3⟩
   ·rw[hF]at hOy
    exact AQ ⟨_,⟨by rw[hOy];rfl,_,got.ext.trans ⟨_,by simp,hn7⟩,hi7,rfl⟩,hs3⟩
   ·exact⟨hlt,((m|||2 ^ o.toNat,no),new++newA++new6),rfl,⟨⟨LO hm hob,hno⟩,⟨hi7,hn7⟩,hF⟩,SI (X:=[]) hs3⟩
  ·rw [As hke,It]at hF
   rw[hF]at hOy;simp only at hOy
   conv=>whnf
   repeat'((first|apply st|(apply sq;intro K U)|(apply si;intro A B Y Z)|(apply Y;clear Z B Y A)|(apply U;clear U K)|refine⟨rfl,?_⟩|(refine Fh (fun hc=>?_)<;>(try rw[hc])<;>clear hc)|clear U K)<;>conv=>whnf)
   have hu:zC us:=by rw[←hus];exact Lr _ _ (by have:=hw.1.1;omega)
   have hul:us.length=3+w.parents.length:=by rw[←hus];exact GN _ _
   have hwp:=hw.1.1;have hwl:IntKind.i64.wrap (3+((Ev w.parents).length:Nat))=3+(w.parents.length:Int):=by rw[Bz,wrap64 (by omega) (by omega)]
   refine Cn w.parents.length (fun k (x:Nat)=>[(14,eI (LM 3 k)),(7,eU x)]) (fun _ _=> .own e4.vs 1 (iL e4.k.AK)::Hx L pre post e4 new) (fun k x=>x<18446744073709551616∧x=Dx us k m) m rfl ⟨hm,rfl⟩ hs ?_;clear hs;clear hke hck hk k;rintro k x σ hk ⟨hx64,hxe⟩ hs;have hc3:LM 3 k=3+k:=OV (by omega) (by omega);by_cases hlt:k<w.parents.length
   ·have hbt:Dx us (k+1) m=if x.testBit (LM 3 k).toNat then x|||us.getD (3+k) 0 else x:=by
     rw[Dx,←hxe,hc3,show(3+(k:Int)).toNat=3+k by omega]
    have hup:(List.drop ((LM 3 k).toNat*1) (List.drop 2 (wC w us)))[0]? =some (eU (us.getD (3+k) 0)):=by
     rw[y0,y0,←mj w us (i:=3+k) (by omega)];congr 1;omega
    conv=>whnf
    repeat'((first|apply st|(apply sq;intro K U)|(apply si;intro A B Y Z)|(apply Y;clear Z B Y A)|(apply U;clear U K)|refine⟨rfl,?_⟩|refine iar ?_|(rw[hup])|refine Pure.use (iH x (LM 3 k) hx64 (by omega) (by omega)) ?_|(constructor<;>intro hc<;>(try rw[hc])<;>(replace hc:=bp hc)<;>(try simp(disch:=omega) only[Bz,wrap64,AP]at hc)<;>try(exfalso;omega))|clear U K)<;>conv=>whnf)
    ·refine⟨hlt,x|||us.getD (3+k) 0,?_,⟨LO hx64 (SJ hu _),by rw[hbt,if_pos (by assumption)]⟩,hs⟩
     rw[Lo hx64 (SJ hu _)];rfl
    ·exact⟨hlt,x,rfl,⟨hx64,by rw[hbt,if_neg (by rw[‹x.testBit _=false›];decide)]⟩,hs⟩
   ·have hke:k=w.parents.length:=by omega
    rw[hus,←hke,←hxe]at hOy
    have Y:bits .andNot .u64 (x:Int) 1=((Hd x:Nat):Int):=by
     have:=Rg (a:=x) (b:=1);rw[ei hx64]at this;exact this
    have hcl:Hd x<18446744073709551616:=by unfold Hd;omega
    have Z:bits .and .u64 ((Hd x:Nat):Int) (no:Int)=((Hd x&&&no:Nat):Int):=L5 hcl hno
    conv=>whnf
    repeat'((first|apply st|(apply sq;intro K U)|(apply si;intro A B Y Z)|(apply Y;clear Z B Y A)|(apply U;clear U K)|refine⟨rfl,?_⟩|(constructor<;>intro hc<;>(try rw[hc])<;>(replace hc:=bp hc)<;>(try simp(disch:=omega) only[Bz,wrap64,AP]at hc)<;>try(exfalso;omega))|clear U K)<;>conv=>whnf)
    rw[Y,Z];refine AQ ⟨_,⟨?_,_,got.ext.trans ⟨new,by simp,hnew⟩,hinv,rfl⟩,tQ hs⟩;rw[hOy]
    have hz:(((Hd x&&&no:Nat):Int)==0)=(Hd x&&&no==0):=by
     rw[KZ,FL,FL];omega
    rw[←hz]
theorem yl (w:AM) (hw:Fs w) {kf:Int→List Int→Kn} (hr:JQ w kf) (a:Int): ∀(d:Nat) (p:List Int),p.length+d=2→ ∀(L:Nat) (es:List DO),EN kf es→
 B9 Tryz.prog 260 [Ta w (E5 w.parents) L,Er a p] (CQ L es) fun r post=>r= .ret (.b (N3 w kf a d p))∧Ow kf L es post:=by
 intro d
 induction d with
 | zero=>
   intro p hp L es h σ hs;have hint:=P0 w (E5 w.parents) hr h (L:=L) (a:=a) (p:=p) (by omega);have hnone:=fun es h=>X1 w (E5 w.parents) hr (es:=es) h (L:=L) (a:=a) (p:=p) (by omega)
   have hobj:=fun es h=>Q9 w hw hr (a:=a) (p:=p) (by omega) (fun _=>false) (by rw[hr.short a p (by omega)];intro s hs;cases hs) (L:=L) (es:=es) h
   rw[N3];cases hI:R9 kf a p<;>cases hN:LP kf a p<;>rw[hI]at hint<;>rw[hN]at hnone
   all_goals
    refine cK nb ?_
    conv=>whnf
    repeat'((first|apply st|(apply sq;intro K U)|(apply si;intro A B Y Z)|(apply Y;clear Z B Y A)|(apply U;clear U K)|refine⟨nb,?_⟩|fail)<;>conv=>whnf)
    refine hint.use (rest:=[]) (by simpa using hs) ?_;clear hs;rintro r post σ ⟨rfl,es2,hx2,hi2,rfl⟩ hs;rw[J9]at hs
    conv=>whnf
    repeat'((first|apply st|(apply sq;intro K U)|(apply si;intro A B Y Z)|(apply Y;clear Z B Y A)|(apply U;clear U K)|refine⟨nb,?_⟩|clear U K)<;>conv=>whnf)
   rotate_left 2
   ·exact AQ ⟨_,⟨rfl,es2,hx2,hi2,rfl⟩,hs⟩
   ·exact AQ ⟨_,⟨rfl,es2,hx2,hi2,rfl⟩,hs⟩
   all_goals
    refine(hnone es2 hi2).use (rest:=[]) (by simpa using hs) ?_;clear hs;rintro r post σ ⟨rfl,es3,hx3,hi3,rfl⟩ hs;rw[J9]at hs
    conv=>whnf
    repeat'((first|apply st|(apply sq;intro K U)|(apply si;intro A B Y Z)|(apply Y;clear Z B Y A)|(apply U;clear U K)|refine⟨nb,?_⟩|refine IE ?_|refine GH ?_|clear U K)<;>conv=>whnf)
   rotate_left 1
   ·exact AQ ⟨_,⟨rfl,es3,hx2.trans hx3,hi3,rfl⟩,hs⟩
   ·refine(hobj es3 hi3).use (rest:=[]) (by simpa using hs) ?_
    clear hs;rintro r post σ ⟨rfl,es4,hx4,hi4,rfl⟩ hs;rw[J9]at hs
    conv=>whnf
    repeat'((first|apply st|(apply sq;intro K U)|(apply si;intro A B Y Z)|(apply Y;clear Z B Y A)|(apply U;clear U K)|fail)<;>conv=>whnf)
    exact AQ ⟨_,⟨rfl,es4,(hx2.trans hx3).trans hx4,hi4,rfl⟩,hs⟩
 | succ d ih=>
   intro p hp L es h σ hs;have hint:=P0 w (E5 w.parents) hr h (L:=L) (a:=a) (p:=p) (by omega);have hnone:=fun es h=>X1 w (E5 w.parents) hr (es:=es) h (L:=L) (a:=a) (p:=p) (by omega)
   have hobj:=fun es h=>Q9 w hw hr (a:=a) (p:=p) (by omega) (fun s=>N3 w kf a d (p++[s])) (fun s hs L es h=>ih (p++[s]) (by simp;omega) L es h) (L:=L) (es:=es) h
   rw[N3];cases hI:R9 kf a p<;>cases hN:LP kf a p<;>rw[hI]at hint<;>rw[hN]at hnone
   all_goals
    refine cK nb ?_
    conv=>whnf
    repeat'((first|apply st|(apply sq;intro K U)|(apply si;intro A B Y Z)|(apply Y;clear Z B Y A)|(apply U;clear U K)|refine⟨nb,?_⟩|fail)<;>conv=>whnf)
    refine hint.use (rest:=[]) (by simpa using hs) ?_;clear hs;rintro r post σ ⟨rfl,es2,hx2,hi2,rfl⟩ hs;rw[J9]at hs
    conv=>whnf
    repeat'((first|apply st|(apply sq;intro K U)|(apply si;intro A B Y Z)|(apply Y;clear Z B Y A)|(apply U;clear U K)|refine⟨nb,?_⟩|clear U K)<;>conv=>whnf)
   rotate_left 2
   ·exact AQ ⟨_,⟨rfl,es2,hx2,hi2,rfl⟩,hs⟩
   ·exact AQ ⟨_,⟨rfl,es2,hx2,hi2,rfl⟩,hs⟩
   all_goals
    refine(hnone es2 hi2).use (rest:=[]) (by simpa using hs) ?_;clear hs;rintro r post σ ⟨rfl,es3,hx3,hi3,rfl⟩ hs;rw[J9]at hs
    conv=>whnf
    repeat'((first|apply st|(apply sq;intro K U)|(apply si;intro A B Y Z)|(apply Y;clear Z B Y A)|(apply U;clear U K)|refine⟨nb,?_⟩|refine IE ?_|refine GH ?_|clear U K)<;>conv=>whnf)
   rotate_left 1
   ·exact AQ ⟨_,⟨rfl,es3,hx2.trans hx3,hi3,rfl⟩,hs⟩
   ·refine(hobj es3 hi3).use (rest:=[]) (by simpa using hs) ?_
    clear hs;rintro r post σ ⟨rfl,es4,hx4,hi4,rfl⟩ hs;rw[J9]at hs
    conv=>whnf
    repeat'((first|apply st|(apply sq;intro K U)|(apply si;intro A B Y Z)|(apply Y;clear Z B Y A)|(apply U;clear U K)|fail)<;>conv=>whnf)
    exact AQ ⟨_,⟨rfl,es4,(hx2.trans hx3).trans hx4,hi4,rfl⟩,hs⟩
abbrev qv:V:= .FE 257 (.a [])
theorem dC (w:AM) (hw:Fs w) {kf:Int→List Int→Kn} (hr:JQ w kf) {L:Nat} {es:List DO} (h:EN kf es) :
 B9 Tryz.prog 231 [Ta w (E5 w.parents) L] (CQ L es) fun r post=>r=(if aW w kf then .ret (.t [])else .By qv)∧post= []:=by
 intro σ hs;refine xG nb ?_
 conv=>whnf
 repeat'((first|apply st|(apply sq;intro K U)|(apply si;intro A B Y Z)|(apply Y;clear Z B Y A)|(apply U;clear U K)|fail)<;>conv=>whnf)
 refine Cn 3 (fun k (x:List DO)=>[(3,eI (BJ k))]) (fun k x=>CQ L x) (fun k x=>EN kf x∧aW w kf=((C8 3).drop k).all fun a=>N3 w kf a 2 []) es rfl ⟨h,rfl⟩ hs ?_;clear hs h;rintro k es σ hk ⟨h,hn⟩ hs;have hck:BJ k=k:=AP (by simp only[Ai];omega);have hl3:(C8 3).length=3:=rfl;rcases Bo (C8 3) hk with⟨a,ha,hlt⟩|hke
 ·rw[drop_cons ha,OA]at hn
  have hak:a=BJ k:=by
   rw[hck];simp only[C8,Qf,List.getElem?_range (show k<3 from hlt),aR]at ha;exact(Option.some.inj ha).symm
  subst hak;have hcan:=yl w hw hr (BJ k) 2 [] rfl L es h;cases hC:N3 w kf (BJ k) 2 []<;>rw[hC]at hcan hn
  all_goals
   conv=>whnf
   repeat'((first|apply st|(apply sq;intro K U)|(apply si;intro A B Y Z)|(apply Y;clear Z B Y A)|(apply U;clear U K)|refine⟨rfl,?_⟩|(constructor<;>intro hc<;>(try rw[hc])<;>(replace hc:=bp hc)<;>(try simp(disch:=omega) only[Bz,wrap64,AP]at hc)<;>try(exfalso;omega))|fail)<;>conv=>whnf)
   refine hcan.use (rest:=[]) (by simpa using hs) ?_;clear hs;rintro r post σ ⟨rfl,es2,hx2,hi2,rfl⟩ hs;rw[J9]at hs
   conv=>whnf
   repeat'((first|apply st|(apply si;intro A B Y Z)|(apply Y;clear Z B Y A)|(refine Z _ _ _ ?_;clear Z B Y A)|(apply U;clear U K)|refine⟨rfl,?_⟩|refine IE ?_|refine GH ?_|clear U K)<;>conv=>whnf)
  ·exact Da ⟨_,⟨by rw[hn];rfl,rfl⟩,hs.less (QN _)⟩
  ·exact⟨by omega,es2,rfl,⟨hi2,by simpa using hn⟩,hs⟩
 ·rw[As hke]at hn
  conv=>whnf
  repeat'((first|apply st|(apply sq;intro K U)|(apply si;intro A B Y Z)|(apply Y;clear Z B Y A)|(apply U;clear U K)|refine⟨rfl,?_⟩|(constructor<;>intro hc<;>(try rw[hc])<;>(replace hc:=bp hc)<;>(try simp(disch:=omega) only[Bz,wrap64,AP]at hc)<;>try(exfalso;omega))|clear U K)<;>conv=>whnf)
  exact AQ ⟨_,⟨by rw[hn];rfl,rfl⟩,hs.less (QN _)⟩
theorem Yd {w:AM} {ls:List Fact} (hw:w.parents.length≤60) (h: ∀x∈ls,JD w x):WO ls:=by
 intro l hl;obtain⟨-,hc,hsm,hsh⟩:=Lz h;obtain⟨-,hn,hlf⟩:=JW (h l hl);exact⟨G5 hlf,hsh l hl,fun ho=>by have:=hc l hl ho;omega,hsm l hl⟩
theorem uj {ls:List Fact} (h:Kh ls) (a:Int) (p:List Int): -1000000000≤(kn ls a p).low∧(kn ls a p).low≤1000000000:=by
 have key: ∀(ls:List Fact) (k:Kn),Kh ls→(-1000000000≤k.low∧k.low≤1000000000)→ -1000000000≤(ls.foldl (DT a p) k).low∧(ls.foldl (DT a p) k).low≤1000000000:=by
  intro ls
  induction ls with
  | nil=>intro k _ h;exact h
  | cons l r ih=>
    intro k hs hk;refine ih _ (fun x hx=>hs x (.tail _ hx)) ?_;have hn:=hs l (.head _);unfold DT C5 D7 ew
    repeat' split
    all_goals first
     | exact hk
     | exact hn
     | (simp only;exact hk)
     | (simp only;exact hn)
 exact key ls k0 h ⟨by decide,by decide⟩
theorem Xt {w:AM} {ls:List Fact} (h: ∀x∈ls,JD w x):IL w.owner.length ls:=by
 intro l hl s hs;obtain⟨-,hn,-⟩:=JW (h l hl);rw[Di,Bj]at hn;have:=hn.1;simp only[Dd,Fl,Bj,I0,JK,D4]at this;exact this.2.2.2.2.1.1 s hs
theorem gR {w:AM} (hw:Fs w) {ls:List Fact} (h: ∀x∈ls,JD w x) (hlen:ls.length<900):JQ w (kn ls):=by
 have hadd:=Yd (by have:=hw.1.1;omega) h;obtain⟨-,-,hsm,hsh⟩:=Lz h;have hp:=Xt h;refine⟨fun a p=>?_,uj hsm,fun a p hpl=>?_,fun a p s hs=>?_⟩
 ·obtain⟨h1,h2,h3,h4⟩:=b7 hadd a p
  exact⟨h1,h2,by omega,by omega⟩
 ·rw[L0 hp]
  exact Qw hsh hpl
 ·rw[L0 hp]at hs
  exact Mu hs
theorem tg {w:AM} (hw:Fs w) {ls:List Fact} (h: ∀x∈ls,JD w x):aW w (kn ls)=IG w ls:=by
 obtain⟨-,hc,-,-⟩:=Lz h;refine th ?_ (fun s h0 h1=>?_) (by have:=hw.1.1;omega) (fun l hl ho=>by have:=hc l hl ho;omega) (Xt h)
 ·exact Jw hw.1
 ·obtain⟨o,ho⟩: ∃o,w.owner[s.toNat]? =some o:=⟨_,FD (by omega)⟩
  have hoI:EK w s=o:=by simp only[EK,FM,ho];rfl
  rw[hoI];exact hw.2.2 o (DM ho)
theorem mA {σ:AH} {n:Nat} {x:V} {rest:List At} (hs:Sat σ (.box n [x]::rest)) {Q:AH→Prop} (hq: ∀σ',Sat σ' (.box n [.b false]::rest)→Q σ'):He Tryz.prog 229 [.p n 0] (some qv) σ Q:=by
 refine YQ nb ?_
 conv=>whnf
 repeat'((first|apply st|(apply sq;intro K U)|(apply si;intro A B Y Z)|(apply Y;clear Z B Y A)|(apply U;clear U K)|refine IB fun σ hs=>?_|refine HZ fun σ hs=>?_|refine tJ rfl ?_|(intro nn hnn;generalize hg:BE _ nn _=σ;refine E3 hg fun hs=>?_;clear hg)|fail)<;>conv=>whnf)
 exact hq _ (hs.less (Oa _ _))
theorem mB {σ:AH} {n:Nat} {x:V} {rest:List At} (hs:Sat σ (.box n [x]::rest)) {Q:AH→Prop} (hq: ∀σ',Sat σ' (.box n [x]::rest)→Q σ'):He Tryz.prog 229 [.p n 0] none σ Q:=by
 refine YQ nb ?_
 conv=>whnf
 repeat'((first|apply st|(apply sq;intro K U)|(apply si;intro A B Y Z)|(apply Y;clear Z B Y A)|(apply U;clear U K)|refine⟨rfl,?_⟩|refine HZ fun σ hs=>?_|(intro nn hnn;generalize hg:BE _ nn _=σ;refine E3 hg fun hs=>?_;clear hg)|fail)<;>conv=>whnf)
 exact hq _ (hs.less (Oa _ _))
attribute [local irreducible] He
theorem VD (w:AM) (hw:Fs w) (ls:List Fact) (b:Bool) (hl: ∀x∈ls,JD w x) (hlen:ls.length<900):Pure Tryz.prog 183 [.rp (wC w (E5 w.parents)),.l (FH ls) b] (.b (IG w ls)):=by
 refine Pure.of ?_;refine xh nb ?_;have hs:=Sn
 conv=>whnf
 repeat'((first|(apply sq;intro K U)|(apply si;intro A B Y Z)|(apply Y;clear Z B Y A)|(apply U;clear U K)|(intro nn hnn;generalize hg:BE _ nn _=σ;refine E3 hg fun hs=>?_;clear hg)|fail)<;>conv=>whnf)
 refine(dJ w (E5 w.parents) ls b (Yd (by have:=hw.1.1;omega) hl) hlen).use (rest:=[.box nn [.b false]]) (by simpa using hs) ?_;clear hs;rintro r post σ ⟨L,es,rfl,hinv,rfl⟩ hs;have hwh:=dC w hw (gR hw hl hlen) hinv (L:=L);rw[tg hw hl]at hwh;cases ht:IG w ls<;>rw[ht]at hwh
 all_goals
  conv=>whnf
  refine hwh.use (rest:=[.box nn [.b false]]) hs ?_;clear hs;rintro r post σ ⟨rfl,rfl⟩ hs
  conv=>whnf
  repeat'((first|apply st|(apply sq;intro K U)|(apply si;intro A B Y Z)|(apply Y;clear Z B Y A)|(refine Z _ _ _ ?_;clear Z B Y A)|(apply U;clear U K)|refine IB fun σ hs=>?_|clear U K)<;>conv=>whnf)
 ·refine mA (rest:=[]) hs fun σ hs=>?_
  conv=>whnf
  repeat'((first|refine ld ?_|fail)<;>conv=>whnf)
  exact AQ (by rw[ht];rfl)
 ·refine mB (rest:=[]) (x:= .b true) hs fun σ hs=>?_
  conv=>whnf
  repeat'((first|refine ld ?_|fail)<;>conv=>whnf)
  exact AQ (by rw[ht];rfl)
end Go.Gl
