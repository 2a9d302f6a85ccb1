import Derived.Test.YtijbpgdmpejgoaaGreatProg
import Derived.KernelRfl
import Derived.Test.YtijbpgdmpejgoaaGreatV5
import Derived.Test.YtijbpgdmpejgoaaGreatV14
set_option linter.all false
noncomputable section
namespace Go.Gl
def IV (no:List Int):Nat→Int→Int
 | 0,n=>n
 | k+1,n=>if no.contains n then IV no k (n+1)else n
def from_ (no:List Int) (n:Int):Nat:=(no.filter fun x=>decide (n≤x)).length
theorem Rx {no:List Int} {n:Int} (h:n∈no):from_ no (n+1)<from_ no n:=by
 induction no with
 | nil=>cases h
 | cons x r ih=>
   simp only[from_,List.filter_cons]at ih ⊢;by_cases hx:x=n
   ·subst hx
    have hle:(r.filter fun y=>decide (x+1≤y)).length≤(r.filter fun y=>decide (x≤y)).length:=by
     refine List.Sublist.length_le ?_
     have e:(r.filter fun y=>decide (x+1≤y))=(r.filter fun y=>decide (x≤y)).filter fun y=>decide (x+1≤y):=by
      rw[List.filter_filter];refine List.filter_congr fun y _=>?_
      rw[Lb,BZ,CX,CX];omega
     rw[e];exact List.filter_sublist
    rw[if_neg (by simp<;>omega),if_pos (by simp),LX];omega
   ·have h':n∈r:=by
     rcases GB.1 h with e|e
     ·exact absurd e.symm hx
     ·exact e
    have:=ih h';by_cases h1:n≤x
    ·rw[if_pos (by rw[CX];omega),if_pos (by rw[CX];omega),LX,LX]
     omega
    ·rw[if_neg (by rw[CX];omega),if_neg (by rw[CX];omega)]
     omega
theorem W6 (no:List Int) (n:Int):from_ no n≤no.length:=LV _ _
theorem LH {no:List Int}: ∀(k:Nat) (n:Int),from_ no n≤k→n≤IV no k n∧IV no k n∉no∧ ∀j,n≤j→j<IV no k n→j∈no
 | 0,n,h=>by
   refine⟨Int.le_refl _,fun hm=>?_,fun j h1 h2=>by simp only[IV]at h2;omega⟩;have:=Rx hm;simp only[IV]at this;omega
 | k + 1,n,h=>by
   rw[IV];split
   ·rename_i hc
    rw[List.contains_iff_mem]at hc;have hlt:=Rx hc;obtain⟨h1,h2,h3⟩:=LH (no:=no) k (n+1) (by omega);refine⟨by omega,h2,fun j hj1 hj2=>?_⟩;by_cases e:j=n
    ·subst e;exact hc
    ·exact h3 j (by omega) hj2
   ·rename_i hc
    exact⟨Int.le_refl _,fun hm=>hc (List.contains_iff_mem.2 hm),fun j h1 h2=>by omega⟩
theorem oZ {no:List Int} {k:Nat} {n:Int} (h:n∈no):IV no (k+1) n=IV no k (n+1):=by rw[IV,if_pos (List.contains_iff_mem.2 h)]
theorem gA {no:List Int} {k:Nat} {n:Int} (h:n∉no):IV no k n=n:=by
 cases k with
 | zero=>rfl
 | succ k=>rw[IV,if_neg (fun hc=>h (List.contains_iff_mem.1 hc))]
theorem XS {no:List Int} {k k':Nat} {n:Int} (h:from_ no n≤k) (h':from_ no n≤k'):IV no k n=IV no k' n:=by
 obtain⟨a1,a2,a3⟩:=LH k n h;obtain⟨b1,b2,b3⟩:=LH k' n h';rcases Int.lt_trichotomy (IV no k n) (IV no k' n)with hl|he|hg
 ·exact absurd (b3 _ a1 hl) a2
 ·exact he
 ·exact absurd (a3 _ b1 hg) b2
def Jy (k:Kn):Int:=IV k.no k.no.length k.low
def Ns (kf:Int→List Int→Kn) (a:Int) (p:List Int):Bool:=(kf a p).AT.all fun s=> !(kf a (p++[s])).BA
def Hm (kf:Int→List Int→Kn) (a:Int) (p:List Int) (c:Nat):Bool:=PY (kf a p).CD (1|||2 ^ c)&&((kf a p).GY&&&(1|||2 ^ c)==0&&Ns kf a p)
def RF (kf:Int→List Int→Kn) (a:Int) (p:List Int):Bool:=decide (Jy (kf a p)≤(kf a p).high)&&Hm kf a p 1
def Ka (kf:Int→List Int→Kn) (a:Int) (p:List Int):Bool:= !(kf a p).whole&&Hm kf a p 2
def Mz (w:AK) (kf:Int→List Int→Kn) (a:Int):Nat→List Int→Bool
 | 0,p=>RF kf a p||(Ka kf a p||(Mw w (kf a p) (fun s=>(kf a (p++[s])).BA) (fun _=>false)).2)
 | d+1,p=>RF kf a p||(Ka kf a p||(Mw w (kf a p) (fun s=>(kf a (p++[s])).BA) (fun s=>Mz w kf a d (p++[s]))).2)
def ZG (w:AK) (kf:Int→List Int→Kn):Bool:=(Bu 3).all fun a=>Mz w kf a 2 []
theorem XD {n:Nat} {ls:List Fact} (h:Hn n ls) (a:Int) (p:List Int):Ns (kn ls) a p=FI n ls a p:=by
 rw[Ns,FI,K3 h];congr 1;funext s;rw[ME,Bool.not_not]
theorem Z1 {n m:Nat} {ls:List Fact} (hn:n≤64) (hc:Il n ls) (h:Hn m ls) (a:Int) (p:List Int):RF (kn ls) a p=((Ic ls a p).isSome&&FI m ls a p):=by
 have hcore:=NO ls a p;have hc2:Il n (ls.filter (Gp a p)):=fun l hl=>hc l (JZ.1 hl).1
 simp only[FJ,Prod.mk.injEq]at hcore;obtain⟨c1,c2,c3,c4,c5,-⟩:=hcore;rw[RF,Hm,XD h,c4,c5,←Bool.and_assoc (PY _ _),X7 hn hc2,←Bool.and_assoc];congr 1;have hf:=Qk (ls.filter (Gp a p)) k0;rw[Ic,show t0=(k0.low,k0.high,k0.no) from rfl,hf,Jy,c2,c3,c1];obtain⟨h1,h2,h3⟩:=LH (no:=(Ez (ls.filter (Gp a p)) k0).no) _ (Ez (ls.filter (Gp a p)) k0).low (W6 _ _);have hs:=bI (high:=(Ez (ls.filter (Gp a p)) k0).high) h1 h2 h3;cases(ls.filter (Gp a p)).all fun l=>iK (A1 l)with
 | false=>simp
 | true=>rw[if_pos rfl,Option.bind_some,hs,Bool.and_true]
theorem Wj {n m:Nat} {ls:List Fact} (hn:n≤64) (hc:Il n ls) (h:Hn m ls) (a:Int) (p:List Int):Ka (kn ls) a p=HI m ls a p:=by
 have hcore:=NO ls a p;have hc2:Il n (ls.filter (Gp a p)):=fun l hl=>hc l (JZ.1 hl).1
 simp only[FJ,Prod.mk.injEq]at hcore;obtain⟨-,-,-,c4,c5,c6⟩:=hcore;rw[Ka,Hm,XD h,c4,c5,c6,HI,←VJ hn hc2];simp only[Bool.and_assoc]
theorem aN {w:AK} {ls:List Fact} (ho:ordered w.parents) (how: ∀s:Int,0≤s→s<w.owner.length→3≤CV w s∧CV w s<3+w.parents.length) (hn:3+w.parents.length≤64) (hc:Il (3+w.parents.length) ls) (hp:Hn w.owner.length ls) (a:Int): ∀(d:Nat) (p:List Int),Mz w (kn ls) a d p=KY w ls a d p
 | 0,p=>by
   rw[Mz,KY,Z1 hn hc hp,Wj hn hc hp,gW ho how hc hp fun s=>ME ls a (p++[s])]
 | d+1,p=>by
   rw[Mz,KY,Z1 hn hc hp,Wj hn hc hp,gW ho how hc hp fun s=>ME ls a (p++[s])];have e:(fun s=>Mz w (kn ls) a d (p++[s]))=fun s=>KY w ls a d (p++[s]):=funext fun s=>aN ho how hn hc hp a d (p++[s])
   rw[e]
theorem iz {w:AK} {ls:List Fact} (ho:ordered w.parents) (how: ∀s:Int,0≤s→s<w.owner.length→3≤CV w s∧CV w s<3+w.parents.length) (hn:3+w.parents.length≤64) (hc:Il (3+w.parents.length) ls) (hp:Hn w.owner.length ls):ZG w (kn ls)=Gs w ls:=by
 rw[ZG,Gs];congr 1;funext a;exact aN ho how hn hc hp a 2 []
end Go.Gl
namespace Go.Gl
open Go.Proofs
attribute [local irreducible] BL A4 Aj AW AM Ai AV AX AN Ah AS AU A8 BJ Sat Ac BF Ak W
section
variable {S:Type} (g:FuncId) (fi ca:List V) (H:S→List At) (f:Int→Bool) (J:S→Prop) (D:Int→Prop)
theorem Po {v:V} {xs:List Int} (hst:Mc Tryz.prog (.f (.func g) fi ca) eI (fun s=> .own v 1 (iL xs)::H s) f J D) (hD: ∀x∈xs,D x) (hxl:xs.length≤Ad) (s0:S) (hj0:J s0) :
 Bh Tryz.prog 103 [v,.f (.func g) fi ca] (.own v 1 (iL xs)::H s0) fun r post=>r= .ret (eI (MZ f xs 0))∧ ∃s',J s'∧post= .own v 1 (iL xs)::H s':=by
 intro σ hs;have hM:=Mx;refine aL nb ?_
 conv=>whnf
 repeat'((first|apply st|(apply sq;intro K U)|(apply si;intro A B Y Z)|(apply Y;clear Z B Y A)|(apply U;clear U K)|refine lo ?_|fail)<;>conv=>whnf)
 refine B4 xs.length (fun k (_:S)=>[(8,eI (A6 k))]) (fun _ s=> .own v 1 (iL xs)::H s) (fun k s=>J s∧MZ f xs 0=MZ f (xs.drop k) k) s0 rfl ⟨hj0,rfl⟩ hs ?_;clear hs hj0;rintro k s σ hk ⟨hj,hn⟩ hs;have hck:A6 k=k:=AL (by omega);rcases BH xs hk with⟨y,hy,hlt⟩|hke
 ·rw[drop_cons hy]at hn
  have hDy:=hD y (B2 hy);rw[MZ]at hn
  conv=>whnf
  repeat'((first|apply st|(apply sq;intro K U)|(apply si;intro A B Y Z)|(apply Y;clear Z B Y A)|(apply U;clear U K)|refine⟨rfl,?_⟩|refine oi ?_|refine ol fun x hx=>?_|(refine CS (fun hc=>?_)<;>(try rw[hc])<;>clear hc)|fail)<;>conv=>whnf)
  obtain rfl:x=y:=by rw[hck,Ih,hy]at hx;exact(Option.some.inj hx).symm
  refine hst.use hDy hj hs ?_;clear hs hj;intro s σ hj hs;cases hyes:f x
  ·rw[hyes,if_neg (by decide)]at hn
   conv=>whnf
   repeat'((first|apply st|(apply si;intro A B Y Z)|(apply Y;clear Z B Y A)|(apply U;clear U K)|refine⟨rfl,?_⟩|clear U K)<;>conv=>whnf)
   exact⟨hlt,_,rfl,⟨hj,hn⟩,hs⟩
  ·rw[hyes,if_pos rfl]at hn
   conv=>whnf
   repeat'((first|apply st|(apply sq;intro K U)|(apply si;intro A B Y Z)|(apply Y;clear Z B Y A)|(apply U;clear U K)|clear U K)<;>conv=>whnf)
   rw[hn];exact AO ⟨_,⟨by rw[hck],s,hj,rfl⟩,hs⟩
 ·rw[Al hke,MZ]at hn
  conv=>whnf
  repeat'((first|apply st|(apply sq;intro K U)|(apply si;intro A B Y Z)|(apply Y;clear Z B Y A)|(apply U;clear U K)|refine⟨rfl,?_⟩|(refine Dh (fun hc=>?_)<;>(try rw[hc])<;>clear hc)|clear U K)<;>conv=>whnf)
  rw[hn];exact AO ⟨_,⟨rfl,s,hj,rfl⟩,hs⟩
theorem M8 {v:V} {xs:List Int} (hst:Mc Tryz.prog (.f (.func g) fi ca) eI (fun s=> .own v 1 (iL xs)::H s) f J D) (hD: ∀x∈xs,D x) (hxl:xs.length≤Ad) (s0:S) (hj0:J s0) :
 Bh Tryz.prog 72 [v,.f (.func g) fi ca] (.own v 1 (iL xs)::H s0) fun r post=>r= .ret (.b (xs.any f))∧ ∃s',J s'∧post= .own v 1 (iL xs)::H s':=by
 intro σ hs;refine gm nb ?_
 conv=>whnf
 repeat'((first|(apply sq;intro K U)|(apply si;intro A B Y Z)|(apply Y;clear Z B Y A)|(apply U;clear U K)|fail)<;>conv=>whnf)
 refine(Po g fi ca H f J D hst hD hxl s0 hj0).use (rest:=[]) (by simpa using hs) ?_;rintro r post σ ⟨rfl,s',hj,rfl⟩ hs
 conv=>whnf
 repeat'((first|apply st|(apply Y;clear Z B Y A)|(apply U;clear U K)|refine⟨rfl,?_⟩|fail)<;>conv=>whnf)
 exact AO ⟨_,⟨by rw[←TZ f xs 0],s',hj,rfl⟩,by simpa using hs⟩
theorem eg {v:V} {xs:List Int} (hst:Mc Tryz.prog (.f (.func g) fi ca) eI (fun s=> .own v 1 (iL xs)::H s) f J D):Mc Tryz.prog (.f (.func 217) [] [.rp [.f (.func g) fi ca]]) eI (fun s=> .own v 1 (iL xs)::H s) (fun y=> !f y) J D:=by
 intro y s hd hj σ hs;refine Bp ?_;show BL Tryz.prog 217 ([]++[eI y]++[.rp [.f (.func g) fi ca]]) σ _;refine aB nb ?_
 conv=>whnf
 repeat'((first|apply st|(apply sq;intro K U)|(apply si;intro A B Y Z)|(apply Y;clear Z B Y A)|(apply U;clear U K)|fail)<;>conv=>whnf)
 refine hst.use hd hj hs ?_;clear hs;intro s' σ hj' hs
 conv=>whnf
 repeat'((first|apply st|(apply Y;clear Z B Y A)|(apply U;clear U K)|fail)<;>conv=>whnf)
 exact AO ⟨rfl,s',hj',hs⟩
theorem XQ {v:V} {xs:List Int} (hst:Mc Tryz.prog (.f (.func g) fi ca) eI (fun s=> .own v 1 (iL xs)::H s) f J D) (hD: ∀x∈xs,D x) (hxl:xs.length≤Ad) (s0:S) (hj0:J s0) :
 Bh Tryz.prog 177 [v,.f (.func g) fi ca] (.own v 1 (iL xs)::H s0) fun r post=>r= .ret (.b (xs.all f))∧ ∃s',J s'∧post= .own v 1 (iL xs)::H s':=by
 intro σ hs;refine aG nb ?_
 conv=>whnf
 repeat'((first|(apply sq;intro K U)|(apply si;intro A B Y Z)|(apply Y;clear Z B Y A)|(apply U;clear U K)|fail)<;>conv=>whnf)
 refine(M8 217 [] [.rp [.f (.func g) fi ca]] H _ J D (eg g fi ca H f J D hst) hD hxl s0 hj0).use (rest:=[]) (by simpa using hs) ?_;rintro r post σ ⟨rfl,s',hj,rfl⟩ hs
 conv=>whnf
 repeat'((first|apply st|(apply Y;clear Z B Y A)|(apply U;clear U K)|fail)<;>conv=>whnf)
 refine AO ⟨_,⟨?_,s',hj,rfl⟩,by simpa using hs⟩;rw[List.all_eq_not_any_not]
end
abbrev Jr (l:Fact):List V:=xF (A1 l).1++[.b (A1 l).2]
abbrev FF (ls:List Fact):List (List V):=ls.map Jr
theorem eF (xs ys:List Int) (f g:Bool):Pure Tryz.prog 273 [.l (iL xs) f,.l (iL ys) g] (.b (xs==ys)):=by
 refine Pure.fit (by kernel_rfl) fun hf=>?_
 have hx:=Jf hf.1;have hy:=Jf hf.2.1;have hM:=Mx;refine kU nb ?_;have hs:=Sn
 conv=>whnf
 repeat'((first|apply st|(apply sq;intro K U)|(apply si;intro A B Y Z)|(apply Y;clear Z B Y A)|(apply U;clear U K)|refine⟨rfl,?_⟩|(constructor<;>intro hc<;>(try rw[hc])<;>(replace hc:=bp hc)<;>(try simp(disch:=omega) only[BE,wrap64,AL]at hc))|clear U K)<;>conv=>whnf)
 ·exact AI (by(have:(xs==ys)=false:=by(simp;intro e;subst e;simp at hc));rw[this])
 have hl:xs.length=ys.length:=by omega
 refine B4 xs.length (fun k (_:Unit)=>[(13,eI (A6 k))]) (fun _ _=>[]) (fun k _=>(xs==ys)=(xs.drop k==ys.drop k)) () rfl rfl Sat.nil ?_;clear hs;rintro k - σ hk hn hs;rcases BH xs hk with⟨x,hxk,hlt⟩|hke
 ·obtain⟨y,hyk⟩: ∃y,ys[k]? =some y:=⟨_,Cu (by omega)⟩
  rw[drop_cons hxk,drop_cons hyk]at hn
  conv=>whnf
  repeat'((first|apply st|(apply sq;intro K U)|(apply si;intro A B Y Z)|(apply Y;clear Z B Y A)|(apply U;clear U K)|apply dr|refine⟨rfl,?_⟩|refine ix ?_|(refine CS (fun hc=>?_)<;>(try rw[hc])<;>clear hc)|(constructor<;>intro hc<;>(try rw[hc])<;>(replace hc:=bp hc))|clear U K)<;>conv=>whnf)
  ·exact AI (by rw[hn];simp[*])
  ·exact⟨hlt,(),rfl,by rw[hn];simp[*],hs⟩
 ·conv=>whnf
  repeat'((first|apply st|(apply sq;intro K U)|(apply si;intro A B Y Z)|(apply Y;clear Z B Y A)|(apply U;clear U K)|refine⟨rfl,?_⟩|(refine Dh (fun hc=>?_)<;>(try rw[hc])<;>clear hc)|clear U K)<;>conv=>whnf)
  exact AI (by rw[hn,Al hke,Al (by omega)];rfl)
theorem fA (a b:Bool) (u:V):Pure Tryz.prog 274 [.l [] a,.l [] b,u] (.b true):=by
 refine kT nb ?_;have hs:=Sn;have hM:=Mx
 conv=>whnf
 repeat'((first|apply st|(apply sq;intro K U)|(apply si;intro A B Y Z)|(apply Y;clear Z B Y A)|(apply U;clear U K)|refine⟨rfl,?_⟩|(constructor<;>intro hc<;>(try rw[hc])<;>(replace hc:=bp hc)<;>(try simp(disch:=omega) only[BE,wrap64,AL]at hc)<;>try(exfalso;omega))|fail)<;>conv=>whnf)
 refine B4 0 (fun k (_:Unit)=>[(17,eI (A6 k))]) (fun _ _=>[]) (fun _ _=>True) () rfl trivial Sat.nil ?_;clear hs;rintro k - σ hk - hs;obtain rfl:k=0:=by omega
 conv=>whnf
 repeat'((first|apply st|(apply sq;intro K U)|(apply si;intro A B Y Z)|(apply Y;clear Z B Y A)|(apply U;clear U K)|refine⟨rfl,?_⟩|(constructor<;>intro hc<;>(try rw[hc])<;>(replace hc:=bp hc)<;>(try simp(disch:=omega) only[BE,wrap64,AL]at hc))|clear U K)<;>conv=>whnf)
 ·exfalso
  simp at hc
 ·exact AI rfl
set_option maxHeartbeats 1000000 in
theorem eG (f g:Fact) (hf:f.kids= []) (hg:g.kids= []):Pure Tryz.prog 258 [.a (xF f),.a (xF g)] (.b (Fa f g)):=by
 have e:Fa f g=(f.op==g.op&&(f.arg==g.arg&&(f.cls==g.cls&&(f.n==g.n&&f.path==g.path)))):=by
  rw[Kv,hf,hg];simp[Pe]
 obtain⟨o,a,p,c,n,k⟩:=f;obtain⟨o',a',p',c',n',k'⟩:=g;simp only[Fact.kids]at hf hg;subst hf;subst hg;refine kx nb ?_;have hs:=Sn;rw[e]
 conv=>whnf
 repeat'((first|apply st|(apply sq;intro K U)|(apply si;intro A B Y Z)|(apply Y;clear Z B Y A)|(apply U;clear U K)|refine⟨rfl,?_⟩|refine Pure.use (eF _ _ _ _) ?_|refine Pure.use (fA _ _ _) ?_|(constructor<;>intro hc<;>(try rw[hc])<;>(replace hc:=bp hc))|fail)<;>conv=>whnf)
 all_goals simp only[Fact.op,Fact.arg,Fact.cls,Fact.n,Fact.path]at *
 all_goals exact AI (by simp[*])
theorem Ur:EP Jr 7:=fun l=>by
 refine⟨rfl,fun v hv=>?_⟩;rcases Fk.1 hv with hv|hv
 ·exact(J0 (A1 l).1).2 v (by show v∈Fv (A1 l).1;rw[Bd];exact hv)
 ·simp at hv;subst hv;rfl
def Px (x y:Fact):Bool:=(A1 x).2==(A1 y).2&&Fa (A1 x).1 (A1 y).1
abbrev WB (l:Fact):Prop:=(A1 l).1.kids= []
abbrev iR (f:Fact→Bool):Fact→Unit→Bool×Unit:=fun y _=>(f y,())
theorem eH (x:Fact) (hx1:WB x) (n:Nat):DD Tryz.prog (.f (.func 257) [] [.p n 0]) (fun y=> .a (Jr y)) (fun _:Unit=>[.box n (Jr x)]) (iR (Px x)) (fun y _=>WB y):=by
 intro y s hy1 σ hs;refine Bp ?_;show BL Tryz.prog 257 ([]++[.a (Jr y)]++[.p n 0]) σ _;refine ky nb ?_;unfold Px
 conv=>whnf
 repeat'((first|apply st|(apply sq;intro K U)|(apply si;intro A B Y Z)|(apply Y;clear Z B Y A)|(apply U;clear U K)|refine⟨nb,?_⟩|refine ld ?_|refine Pure.use (eG _ _ hx1 hy1) ?_|(constructor<;>intro hc<;>(try rw[hc])<;>(replace hc:=bp hc))|fail)<;>conv=>whnf)
 all_goals exact AO ⟨by simp[iR, *],hs⟩
section
variable {S:Type} (g:FuncId) (fi ca:List V) (H:S→List At)
theorem Pn (stp:Fact→S→Bool×S) (D:Fact→S→Prop) {v:V} {xs:List Fact} (hst:DD Tryz.prog (.f (.func g) fi ca) (fun y=> .a (Jr y)) (fun s=> .own v 7 (FF xs)::H s) stp D) (hxl:xs.length≤Ad) (s0:S) (hd:UX stp D xs s0) :
 Bh Tryz.prog 272 [v,.f (.func g) fi ca] (.own v 7 (FF xs)::H s0) fun r post=>r= .ret (eI (Bn stp xs 0 s0).1)∧post= .own v 7 (FF xs)::H (Bn stp xs 0 s0).2:=by
 intro σ hs;have hM:=Mx;refine kV nb ?_
 conv=>whnf
 repeat'((first|apply st|(apply sq;intro K U)|(apply si;intro A B Y Z)|(apply Y;clear Z B Y A)|(apply U;clear U K)|refine lo ?_|fail)<;>conv=>whnf)
 refine B4 xs.length (fun k (_:S)=>[(8,eI (A6 k))]) (fun _ s=> .own v 7 (FF xs)::H s) (fun k s=>UX stp D (xs.drop k) s∧Bn stp xs 0 s0=Bn stp (xs.drop k) k s) s0 rfl ⟨hd,rfl⟩ hs ?_;clear hs;rintro k s σ hk ⟨hd,hn⟩ hs;have hck:A6 k=k:=AL (by omega);rcases BH xs hk with⟨y,hy,hlt⟩|hke
 ·rw[drop_cons hy]at hn hd
  obtain⟨hd1,hd2⟩:=hd;rw[Bn]at hn
  conv=>whnf
  repeat'((first|apply st|(apply sq;intro K U)|(apply si;intro A B Y Z)|(apply Y;clear Z B Y A)|(apply U;clear U K)|refine⟨rfl,?_⟩|refine⟨nb,?_⟩|refine oi ?_|refine ol fun x hx=>?_|(refine CS (fun hc=>?_)<;>(try rw[hc])<;>clear hc)|fail)<;>conv=>whnf)
  obtain rfl:x=y:=by rw[hck,Ih,hy]at hx;exact(Option.some.inj hx).symm
  refine hst.use hd1 hs ?_;clear hs;intro σ hs;cases hyes:(stp x s).1
  ·rw[hyes,if_neg (by decide)]at hn
   conv=>whnf
   repeat'((first|apply st|(apply si;intro A B Y Z)|(apply Y;clear Z B Y A)|(apply U;clear U K)|refine⟨rfl,?_⟩|clear U K)<;>conv=>whnf)
   exact⟨hlt,_,rfl,⟨hd2,hn⟩,hs⟩
  ·rw[hyes,if_pos rfl]at hn
   conv=>whnf
   repeat'((first|apply st|(apply sq;intro K U)|(apply si;intro A B Y Z)|(apply Y;clear Z B Y A)|(apply U;clear U K)|clear U K)<;>conv=>whnf)
   rw[hn];exact AO ⟨_,⟨by rw[hck],rfl⟩,hs⟩
 ·rw[Al hke,Bn]at hn
  conv=>whnf
  repeat'((first|apply st|(apply sq;intro K U)|(apply si;intro A B Y Z)|(apply Y;clear Z B Y A)|(apply U;clear U K)|refine⟨rfl,?_⟩|(refine Dh (fun hc=>?_)<;>(try rw[hc])<;>clear hc)|clear U K)<;>conv=>whnf)
  rw[hn];exact AO ⟨_,⟨rfl,rfl⟩,hs⟩
theorem MQ (stp:Fact→S→Bool×S) (D:Fact→S→Prop) {v:V} {xs:List Fact} (hst:DD Tryz.prog (.f (.func g) fi ca) (fun y=> .a (Jr y)) (fun s=> .own v 7 (FF xs)::H s) stp D) (hxl:xs.length≤Ad) (s0:S) (hd:UX stp D xs s0) :
 Bh Tryz.prog 256 [v,.f (.func g) fi ca] (.own v 7 (FF xs)::H s0) fun r post=>r= .ret (.b (decide ((Bn stp xs 0 s0).1≥0)))∧post= .own v 7 (FF xs)::H (Bn stp xs 0 s0).2:=by
 intro σ hs;refine kz nb ?_
 conv=>whnf
 repeat'((first|(apply sq;intro K U)|(apply si;intro A B Y Z)|(apply Y;clear Z B Y A)|(apply U;clear U K)|fail)<;>conv=>whnf)
 refine(Pn g fi ca H stp D hst hxl s0 hd).use (rest:=[]) (by simpa using hs) ?_;rintro r post σ ⟨rfl,rfl⟩ hs
 conv=>whnf
 repeat'((first|apply st|(apply Y;clear Z B Y A)|(apply U;clear U K)|refine⟨rfl,?_⟩|fail)<;>conv=>whnf)
 exact AO ⟨_,⟨rfl,rfl⟩,by simpa using hs⟩
end
theorem cX (a:List Fact) (f:Bool) (hl:a.length≤1000000):Bh Tryz.prog 255 [.l (FF a) f] [] fun r post=> ∃v,r= .ret v∧post= [.own v 7 (FF a)]:=by
 intro σ hs;have hM:=Mx;refine k7 nb ?_
 conv=>whnf
 repeat'((first|(apply sq;intro K U)|(apply si;intro A B Y Z)|(apply Y;clear Z B Y A)|(apply U;clear U K)|fail)<;>conv=>whnf)
 refine⟨fun e t=>?_,fun _=>?_⟩
 ·have hxe:a= []:=List.map_eq_nil_iff.1 e
  subst hxe
  conv=>whnf
  repeat'((first|apply st|(apply sq;intro K U)|(apply si;intro A B Y Z)|(apply Y;clear Z B Y A)|(apply U;clear U K)|(constructor<;>intro hc<;>(try rw[hc])<;>(replace hc:=bp hc))|clear U K)<;>conv=>whnf)
  ·exact AO ⟨_,⟨_,rfl,rfl⟩,Cv hs 7⟩
  ·replace hs:=Cv hs 7
   refine HL hs 0 (xs:=[]) (ys:=[]) rfl (by simp) Ur fun v σ hs=>?_
   conv=>whnf
   repeat'((first|apply st|(apply Y;clear Z B Y A)|(apply U;clear U K)|fail)<;>conv=>whnf)
   exact AO ⟨_,⟨_,rfl,rfl⟩,hs⟩
 ·conv=>whnf
  repeat'((first|apply st|(apply sq;intro K U)|(apply si;intro A B Y Z)|(apply Y;clear Z B Y A)|(apply U;clear U K)|fail)<;>conv=>whnf)
  replace hs:=Cv hs 7;refine HL hs 0 (xs:=[]) (ys:=a) rfl (by simp;omega) Ur fun v σ hs=>?_
  conv=>whnf
  repeat'((first|apply st|(apply Y;clear Z B Y A)|(apply U;clear U K)|fail)<;>conv=>whnf)
  exact AO ⟨_,⟨_,rfl,rfl⟩,hs⟩
theorem TA {w:AK} {x:Fact} (h:Ib w x):x=if(A1 x).2 then FZ (A1 x).1 else(A1 x).1:=by
 obtain⟨g,hn,hl,rfl|rfl⟩:=h
 ·have:=Fz hl
  have h5: ¬x.op=5:=by omega
  simp only[A1,if_neg h5];rfl
 ·rfl
theorem WS {w:AK} {x y:Fact} (hx1:Ib w x) (hy1:Ib w y):Px x y=Fa x y:=by
 rw[Lb,L7];simp only[Px,BZ,D1,L7];constructor
 ·rintro⟨h1,h2⟩
  rw[TA hx1,TA hy1,h1,h2]
 ·rintro rfl
  exact⟨rfl,rfl⟩
theorem QT {w:AK} {x:Fact} (h:Ib w x):WB x:=by
 obtain⟨-,hn,hl⟩:=HT h;have hlo:=Fz hl;have har:=C1 _ hn;rw[LD,BZ,D1]at har
 have h0:CF (A1 x).1.op=0:=by
  have h5: ¬(A1 x).1.op=5:=by omega
  have h6: ¬((A1 x).1.op=6∨(A1 x).1.op=7):=by omega
  simp[CF,h5,h6]
  try omega
 rw[h0]at har;exact dD.1 har.1
theorem YP {w:AK} (a b:List Fact) (f g:Bool) (hla: ∀x∈a,Ib w x) (hlb: ∀x∈b,Ib w x) (hl:a.length+b.length<1000000):Pure Tryz.prog 228 [.l (FF a) f,.l (FF b) g] (.l (FF (CW a b)) false):=by
 have hM:=Mx;refine Pure.of ?_;refine lP nb ?_;have hs:=Sn
 conv=>whnf
 repeat'((first|(apply sq;intro K U)|(apply si;intro A B Y Z)|(apply Y;clear Z B Y A)|(apply U;clear U K)|fail)<;>conv=>whnf)
 refine(cX a f (by omega)).use (rest:=[]) (by simpa using hs) ?_;clear hs;rintro r post σ ⟨v,rfl,rfl⟩ hs
 conv=>whnf
 repeat'((first|apply st|(apply sq;intro K U)|(apply si;intro A B Y Z)|(apply Y;clear Z B Y A)|(apply U;clear U K)|fail)<;>conv=>whnf)
 refine B4 b.length (fun k v=>[(5,v),(12,eI (A6 k))]) (fun k v=>[.own v 7 (FF (CW a (b.take k)))]) (fun _ _=>True) v rfl trivial hs ?_;clear hs;rintro k v σ hk - hs;have hml:=MF a (b.take k);rw[LW]at hml;rcases BH b hk with⟨x,hxk,hlt⟩|hke
 ·have hsn:=O7 a (b.take k) x
  rw[←AR hxk]at hsn;have hxg:=hlb x (B2 hxk)
  have hmem: ∀y∈CW a (b.take k),Ib w y:=fun y hy=>by
   rcases QZ _ _ _ hy with h|h
   ·exact hla y h
   ·exact hlb y (List.mem_of_mem_take h)
  generalize CW a (b.take k)=m at *
  have hany:m.any (Px x)=m.any (Fa x):=by
   rw[Lb,JY,JY];exact⟨fun⟨y,hy,h⟩=>⟨y,hy,by rw[←WS hxg (hmem y hy)];exact h⟩,fun⟨y,hy,h⟩=>⟨y,hy,by rw[WS hxg (hmem y hy)];exact h⟩⟩
  conv=>whnf
  repeat'((first|apply st|(apply sq;intro K U)|(apply si;intro A B Y Z)|(apply Y;clear Z B Y A)|(apply U;clear U K)|refine⟨rfl,?_⟩|refine⟨nb,?_⟩|refine ix ?_|refine Dm fun σ hs=>?_|(refine CS (fun hc=>?_)<;>(try rw[hc])<;>clear hc)|(intro nn hnn;generalize hg:BC _ nn _=σ;refine Cm hg fun hs=>?_;clear hg)|fail)<;>conv=>whnf)
  generalize nn=n7 at *;have hs2:Sat σ [.own v 7 (FF m),.box n7 (Jr x)]:=hs.perm (.swap _ _ _);clear hs hnn;refine(MQ 257 [] [.p n7 0] (fun _:Unit=>[.box n7 (Jr x)]) (iR (Px x)) (fun y _=>WB y) ((eH x (QT hxg) n7).more [_]) (by omega) () (Gz fun y hy _=>QT (hmem y hy))).use (rest:=[]) hs2 ?_;clear hs2;rintro r post σ ⟨rfl,rfl⟩ hs;rw[K8,hany];cases hy:m.any (Fa x)
  ·rw[hy,if_neg Bool.false_ne_true]at hsn
   conv=>whnf
   repeat'((first|apply st|(apply si;intro A B Y Z)|(apply Y;clear Z B Y A)|(apply U;clear U K)|refine⟨nb,?_⟩|refine ld ?_|refine E0 ?_|fail)<;>conv=>whnf)
   refine GO (Ft (x:=x) (xs:=m) (enc:=Jr) hs 0 rfl (by omega) Ur fun v σ hs hsl=>?_)
   conv=>whnf
   repeat'((first|(apply si;intro A B Y Z)|(apply Y;clear Z B Y A)|(apply U;clear U K)|refine⟨rfl,?_⟩|clear U K)<;>conv=>whnf)
   exact⟨hlt,v,rfl,trivial,by rw[hsn];exact hs.less (.cons₂ _ (MR _))⟩
  ·rw[hy,if_pos rfl]at hsn
   conv=>whnf
   repeat'((first|apply st|(apply si;intro A B Y Z)|(apply Y;clear Z B Y A)|(apply U;clear U K)|refine⟨rfl,?_⟩|refine D2 ?_|clear U K)<;>conv=>whnf)
   exact⟨hlt,v,rfl,trivial,by rw[hsn];exact hs.less (.cons₂ _ (MR _))⟩
 ·conv=>whnf
  repeat'((first|apply st|(apply sq;intro K U)|(apply si;intro A B Y Z)|(apply Y;clear Z B Y A)|(apply U;clear U K)|refine⟨rfl,?_⟩|(refine Dh (fun hc=>?_)<;>(try rw[hc])<;>clear hc)|clear U K)<;>conv=>whnf)
  exact Y6 (EX hs 0 rfl (vf:= .l (FF (CW a b)) false) (by rw[Ar hke])) fun r σ h=>h.1
end Go.Gl
namespace Go.Gl
open Go.Proofs
abbrev ai:AJ:=(.seq [0,3] (.Av [⟨(some 3),.Sd (.t 1),none⟩,
 ⟨(some 4),.mv (.c .pn),none⟩])
 (.seq [0,3,5,6] (.BX [0,3,5,6] [⟨0,⟨(some 8),.mv (.t 0),none⟩,[],[]⟩,
  ⟨1,⟨(some 9),.Fb (.t 8),none⟩,[],[]⟩,
  ⟨2,⟨(some 10),.Jg 1 (.t 9),none⟩,[],[]⟩,
  ⟨3,⟨(some 11),.load none (.t 10),none⟩,[],[]⟩,
  ⟨4,⟨(some 12),.load (some 4) (.t 3),none⟩,[],[]⟩,
  ⟨5,⟨(some 13),.lookup (.a [.i64,.i64,.i64,.i64]) .pn true (.t 11) (.t 12),none⟩,[],[]⟩,
  ⟨6,⟨(some 7),.mv (.t 13),none⟩,[],[]⟩,
  ⟨7,⟨(some 14),.extract 0 (.t 7),none⟩,[],[]⟩,
  ⟨8,⟨(some 15),.extract 1 (.t 7),none⟩,[],[]⟩,
  ⟨9,⟨(some 5),.mv (.t 14),none⟩,[],[]⟩,
  ⟨10,⟨(some 6),.mv (.t 15),none⟩,[],[]⟩])
 (.seq [5] (.seq [0,3,5,17] (.Av [⟨(some 16),.mv (.t 6),none⟩,
  ⟨(some 17),.not (.t 16),none⟩])
 (.cond (.t 17)
 (.seq [0,3,5] (.Av [⟨(some 18),.build [(.i .i64 0),(.i .i64 0),(.l [] true)] [(0,1,(.c (.i .i64 (-1000000000)))),(1,1,(.c (.i .i64 1000000000)))],none⟩,
  ⟨(some 19),.build [(.i .i64 0),(.i .i64 0),(.l [] true),(.i .u64 0),(.i .u64 0),(.b false),(.b false),(.l [] true)] [(0,3,(.t 18))],none⟩,
  ⟨(some 20),.box (.t 19),none⟩,
  ⟨(some 5),.mv (.t 20),none⟩])
 (.BX [5] [⟨0,⟨(some 21),.mv (.t 0),none⟩,[],[]⟩,
  ⟨1,⟨(some 22),.Fb (.t 21),none⟩,[],[]⟩,
  ⟨2,⟨(some 23),.Jg 1 (.t 22),none⟩,[],[]⟩,
  ⟨3,⟨(some 24),.load none (.t 23),none⟩,[],[]⟩,
  ⟨4,⟨(some 25),.load (some 4) (.t 3),none⟩,[],[]⟩,
  ⟨5,⟨(some 26),.mv (.t 5),none⟩,[],[]⟩,
  ⟨6,⟨none,.EI (.a [.i64,.i64,.i64,.i64]) (.t 24) (.t 25) (.t 26),none⟩,[],[]⟩]))
 .skip))
 (.seq [4] (.Av [⟨(some 27),.mv (.t 5),none⟩,
  ⟨(some 4),.mv (.t 27),none⟩])
 .ret))))
theorem eK:Tryz.f275.body.bind (res Tryz.prog Tryz.f275.ntmps [] [3])=some (erase ai):=by kernel_rfl
theorem ff {args:List V} (hn:args.length≤28) {σ:AH} {Q:R→AH→Prop} (h:W Tryz.prog ai (di [4] Q) (C6 0 args) σ):BL Tryz.prog 275 args σ Q:=
 PI Tryz.func275 (by kernel_rfl) eK rfl hn (iO h)
end Go.Gl
namespace Go.Gl
open Go.Proofs
attribute [local irreducible] BL A4 Aj AW AM Ai AV AX AN Ah AS AU A8 BJ Sat Ac BF Ak W
abbrev SU (w:AK) (us:List Nat) (L:Nat):V:= .rp [.rp (wC w us),.m L]
def Pc (es es':List C9):Prop:= ∃new:List C9,es'=es++new∧ ∀x∈new,x.k=k0
theorem Pc.refl (es:List C9):Pc es es:=⟨[],by simp,by simp⟩
theorem Pc.trans {a b c:List C9} (h1:Pc a b) (h2:Pc b c):Pc a c:=by
 obtain⟨x,rfl,hx⟩:=h1;obtain⟨y,rfl,hy⟩:=h2;refine⟨x++y,by simp,fun z hz=>?_⟩;rcases Fk.1 hz with h|h
 ·exact hx z h
 ·exact hy z h
theorem Pc.mem {a b:List C9} (h:Pc a b) {e:C9} (he:e∈a):e∈b:=by
 obtain⟨x,rfl,_⟩:=h;exact PU _ he
structure ir (kf:Int→List Int→Kn) (es es':List C9) (a:Int) (p:List Int) (e:C9):Prop where
 inv:D4 kf es'
 ext:Pc es es'
 mem:e∈es'
 is:e.is a p=true
theorem ir.k {kf:Int→List Int→Kn} {es es':List C9} {a:Int} {p:List Int} {e:C9} (h:ir kf es es' a p e):e.k=kf a p:=by
 have:=h.inv.val e h.mem;obtain⟨h1,h2⟩:=Jz.1 h.is;rw[this,h1,h2]
theorem Lt {σ:AH} {l:List At} (h:Sat σ l) (i:Nat) {n:Nat} {kvs:List (V×V)} {ks:KS} {z vk:V} {ok:Bool} {o:Option V} (hi:l[i]? =some (.map n kvs)) (hk:Bv ks vk=true) (hks: ∀kv∈kvs,Bv ks kv.1=true) (hf:DH vk kvs=o) {K:V→Prop} (h':K (found z ok o)) :
 AS σ ks z ok (.m n) vk K:=JF h i hi hk hks (hf ▸ h')
theorem Kf (w:AK) (us:List Nat) {kf:Int→List Int→Kn} {L:Nat} {es:List C9} (h:D4 kf es) {a:Int} {p:List Int} (hp:p.length≤2) :
 Bh Tryz.prog 275 [SU w us L,Eo a p] (CI L es) fun r post=> ∃es' e,ir kf es es' a p e∧r= .ret (.p e.b 0)∧post=CI L es':=by
 intro σ hs;refine ff nb ?_;unfold CI at hs;rcases gR a p es with hn|⟨pre,e,post,rfl,he,hpre⟩
 ·have hf:=TQ hp h.len hn
  conv=>whnf
  repeat'((first|apply st|(apply sq;intro K U)|(apply si;intro A B Y Z)|(apply Y;clear Z B Y A)|(apply U;clear U K)|apply dr|refine⟨nb,?_⟩|refine E0 ?_|refine Lt hs 0 rfl rfl (OH _) hf ?_|refine Hu hs 1 rfl rfl (OH _) fun σ hs=>?_|(intro nn hnn;generalize hg:BC _ nn _=σ;refine Cm hg fun hs=>?_;clear hg)|fail)<;>conv=>whnf)
  simp only[List.set_cons_succ,List.set_cons_zero]at hs;change Sat σ (_:: .map L (EO (Eo a p) (.p nn 0) (UQ es))::_)at hs;rw[Zy hp nn (.l [] true) (.l [] true) k0 h.len hn]at hs;have hs2:=Cv (Cv hs 1) 1;refine AO ⟨_,⟨es++[⟨a,p,nn,.l [] true,.l [] true,k0⟩],⟨a,p,nn,.l [] true,.l [] true,k0⟩,⟨h.add hp hn _ _ _,⟨_,rfl,by simp⟩,by simp,by simp[C9.is]⟩,rfl,rfl⟩,?_⟩;unfold CI;rw[List.flatMap_append,List.flatMap_cons,List.flatMap_nil,Hj];refine hs2.perm ((List.perm_middle (l₁:=[_,_,_])).trans (.cons _ (Pq.trans (List.Perm.append_left _ (List.reverse_perm _).symm))))
 ·have hf:=TP hp he h.len hpre
  conv=>whnf
  repeat'((first|apply st|(apply sq;intro K U)|(apply si;intro A B Y Z)|(apply Y;clear Z B Y A)|(apply U;clear U K)|apply dr|refine⟨nb,?_⟩|refine D2 ?_|refine Lt hs 0 rfl rfl (OH _) hf ?_|fail)<;>conv=>whnf)
  exact AO ⟨_,⟨_,e,⟨h,.refl _,by simp,he⟩,rfl,rfl⟩,hs⟩
theorem NM (a:Int) (p:List Int) (s:Int) (hp:p.length<2):Pure Tryz.prog 276 [Eo a p,eI s] (Eo a (p++[s])):=by
 refine kS nb ?_;have hs:=Sn
 match p,hp with
 | [],_=>
   conv=>whnf
   repeat'((first|apply st|(apply sq;intro K U)|(apply si;intro A B Y Z)|(apply Y;clear Z B Y A)|(apply U;clear U K)|refine⟨rfl,?_⟩|refine⟨nb,?_⟩|refine UR ?_|refine ld ?_|refine FB fun σ hs=>?_|refine Dm fun σ hs=>?_|(intro nn hnn;generalize hg:BC _ nn _=σ;refine Cm hg fun hs=>?_;clear hg)|fail)<;>conv=>whnf)
   all_goals exact AI rfl
 | [x],_=>
   conv=>whnf
   repeat'((first|apply st|(apply sq;intro K U)|(apply si;intro A B Y Z)|(apply Y;clear Z B Y A)|(apply U;clear U K)|refine⟨rfl,?_⟩|refine⟨nb,?_⟩|refine UR ?_|refine ld ?_|refine FB fun σ hs=>?_|refine Dm fun σ hs=>?_|(intro nn hnn;generalize hg:BC _ nn _=σ;refine Cm hg fun hs=>?_;clear hg)|fail)<;>conv=>whnf)
   all_goals exact AI rfl
set_option maxHeartbeats 1000000 in
theorem oT {b:Nat} {vn vs:V} {k:Kn} (f:Fact) (c:Bool) (hl:f.op=2∨f.op=3∨f.op=4) (hc:f.op=2→0≤f.cls∧f.cls<64) (hm:k.CD<18446744073709551616) (hn:k.GY<18446744073709551616) (hno:k.no.length<1000000) (hN: -1000000000≤f.n∧f.n≤1000000000) :
 Bh Tryz.prog 277 [.p b 0,.a (xF f++[.b c])] (ij b vn vs k) fun r post=>r= .ret (.t [])∧ ∃vn',post=ij b vn' vs (Ct k f c):=by
 intro σ hs;have hM:=Mx;refine kR nb ?_;rw[show xF f++[V.b c]= [eI f.op,eI f.arg,.l (iL f.path) false,eI f.cls,eI f.n,.l (f.kids.map Fv) false,.b c] from rfl];have hw:IntKind.i64.wrap (f.n - 1)=f.n - 1:=wrap64 (by omega) (by omega);cases c<;>rcases hl with h2|h3|h4
 ·have hE:Ct k f false= {k with CD:=k.CD|||2 ^ f.cls.toNat}:=by rw[Ct,if_pos h2,if_neg Bool.false_ne_true]
  rw[hE]
  conv=>whnf
  repeat'((first|apply st|(apply sq;intro K U)|(apply si;intro A B Y Z)|(apply Y;clear Z B Y A)|(apply U;clear U K)|apply dr|refine⟨rfl,?_⟩|refine ld ?_|refine FB fun σ hs=>?_|refine D2 ?_|refine Pure.use (HO _ _ hm (by omega) (by omega)) ?_|(constructor<;>intro hc<;>(try rw[hc])<;>(replace hc:=bp hc)<;>try(exfalso;omega))|fail)<;>conv=>whnf)
  exact AO ⟨_,⟨rfl,vn,rfl⟩,hs⟩
 ·have hE:Ct k f false= {k with high:=if f.n - 1<k.high then f.n - 1 else k.high,whole:=true}:=by rw[Ct,if_neg (by omega),if_pos h3,if_neg Bool.false_ne_true]
  rw[hE]
  conv=>whnf
  repeat'((first|apply st|(apply sq;intro K U)|(apply si;intro A B Y Z)|(apply Y;clear Z B Y A)|(apply U;clear U K)|apply dr|refine⟨rfl,?_⟩|refine ld ?_|refine FB fun σ hs=>?_|refine D2 ?_|(constructor<;>intro hc<;>(try rw[hc])<;>(replace hc:=bp hc)<;>try(exfalso;omega))|fail)<;>conv=>whnf)
  rw[hw]at hs;exact AO ⟨_,⟨rfl,vn,rfl⟩,hs⟩
 ·have hE:Ct k f false= {k with low:=if f.n > k.low then f.n else k.low,high:=if f.n<k.high then f.n else k.high,whole:=true}:=by rw[Ct,if_neg (by omega),if_neg (by omega),if_neg Bool.false_ne_true]
  rw[hE]
  conv=>whnf
  repeat'((first|apply st|(apply sq;intro K U)|(apply si;intro A B Y Z)|(apply Y;clear Z B Y A)|(apply U;clear U K)|apply dr|refine rk ?_ ?_|exact fun s e=>by cases e;rfl|refine⟨rfl,?_⟩|refine ld ?_|refine FB fun σ hs=>?_|(constructor<;>intro hc<;>(try rw[hc])<;>(replace hc:=bp hc)<;>try(exfalso;omega))|fail)<;>conv=>whnf)
  exact AO ⟨_,⟨rfl,vn,rfl⟩,hs⟩
 ·have hE:Ct k f true= {k with GY:=k.GY|||2 ^ f.cls.toNat}:=by rw[Ct,if_pos h2,if_pos rfl]
  rw[hE]
  conv=>whnf
  repeat'((first|apply st|(apply sq;intro K U)|(apply si;intro A B Y Z)|(apply Y;clear Z B Y A)|(apply U;clear U K)|apply dr|refine⟨rfl,?_⟩|refine ld ?_|refine FB fun σ hs=>?_|refine E0 ?_|refine Pure.use (HO _ _ hn (by omega) (by omega)) ?_|(constructor<;>intro hc<;>(try rw[hc])<;>(replace hc:=bp hc)<;>try(exfalso;omega))|fail)<;>conv=>whnf)
  exact AO ⟨_,⟨rfl,vn,rfl⟩,hs⟩
 ·have hE:Ct k f true= {k with low:=if f.n > k.low then f.n else k.low}:=by rw[Ct,if_neg (by omega),if_pos h3,if_pos rfl]
  rw[hE]
  conv=>whnf
  repeat'((first|apply st|(apply sq;intro K U)|(apply si;intro A B Y Z)|(apply Y;clear Z B Y A)|(apply U;clear U K)|apply dr|refine⟨rfl,?_⟩|refine ld ?_|refine FB fun σ hs=>?_|refine E0 ?_|(constructor<;>intro hc<;>(try rw[hc])<;>(replace hc:=bp hc)<;>try(exfalso;omega))|fail)<;>conv=>whnf)
  exact AO ⟨_,⟨rfl,vn,rfl⟩,hs⟩
 ·have hE:Ct k f true= {k with no:=k.no++[f.n]}:=by rw[Ct,if_neg (by omega),if_neg (by omega),if_pos rfl]
  rw[hE]
  conv=>whnf
  repeat'((first|apply st|(apply sq;intro K U)|(apply si;intro A B Y Z)|(apply Y;clear Z B Y A)|(apply U;clear U K)|apply dr|refine⟨rfl,?_⟩|refine ld ?_|refine FB fun σ hs=>?_|refine aq fun v σ hs hsl=>?_|(constructor<;>intro hc<;>(try rw[hc])<;>(replace hc:=bp hc)<;>try(exfalso;omega))|fail)<;>conv=>whnf)
  exact AO ⟨_,⟨rfl,_,rfl⟩,hs⟩
theorem HH {σ:AH} {X:List At} {L:Nat} {pre post:List C9} {e:C9} (h:Sat σ (X++CI L (pre++e::post))):Sat σ (.box e.b [eI e.k.low,eI e.k.high,e.vn,eU e.k.CD,eU e.k.GY,.b e.k.whole,.b e.k.BA,e.vs]:: .own e.vn 1 (iL e.k.no):: .own e.vs 1 (iL e.k.AT)::(X++HG L (pre++e::post) pre post)):=by
 have h2:Sat σ (St e++(X++HG L (pre++e::post) pre post)):=h.perm ((List.Perm.append_left X (TV L pre post e)).trans (by rw[←SS,←SS];exact Pq.append_right _));exact h2
theorem Ec {σ:AH} {X:List At} {L:Nat} {pre post:List C9} {e e':C9} (h1:e'.a=e.a) (h2:e'.p=e.p) (h3:e'.b=e.b) (h:Sat σ (St e'++(X++HG L (pre++e::post) pre post))):Sat σ (X++CI L (pre++e'::post)):=by
 rw[←R8 h1 h2 h3]at h;exact h.perm ((List.Perm.append_left X (TV L pre post e')).trans (by rw[←SS,←SS];exact Pq.append_right _)).symm
theorem II {α:Type} (a b c:α) (l:List α):(a::b::c::l).Perm (b::c::a::l):=(List.Perm.swap _ _ _).trans (.cons _ (.swap _ _ _))
theorem MD {α:Type} (a:α) (l:List α):(a::l).Perm (l++[a]):=(List.perm_append_singleton a l).symm
def gF (m:Nat) (k:Kn):Prop:=k.CD<18446744073709551616∧k.GY<18446744073709551616∧k.no.length≤m∧k.AT.length≤m
theorem ez (f:Fact) (c:Bool) (j:Nat) (a:Int) (p:List Int) (k:Kn):(Di f c j a p k).CD=k.CD:=by unfold Di;(repeat' split)<;>rfl
theorem jr (f:Fact) (c:Bool) (j:Nat) (a:Int) (p:List Int) (k:Kn):(Di f c j a p k).GY=k.GY:=by unfold Di;(repeat' split)<;>rfl
theorem pg (f:Fact) (c:Bool) (j:Nat) (a:Int) (p:List Int) (k:Kn):(Di f c j a p k).no=k.no:=by unfold Di;(repeat' split)<;>rfl
theorem bz (f:Fact) (c:Bool) (j:Nat) (a:Int) (p:List Int) (k:Kn):(Di f c j a p k).AT.length≤k.AT.length+1:=by
 unfold Di
 repeat' split
 ·exact Q1 _ _
 all_goals simp[Ds]
theorem pf {m:Nat} {k:Kn} (h:gF m k) (f:Fact) (c:Bool) (j:Nat) (a:Int) (p:List Int):gF (m+1) (Di f c j a p k):=by
 obtain⟨h1,h2,h3,h4⟩:=h;refine⟨by rw[ez];exact h1,by rw[jr];exact h2,by rw[pg];omega,?_⟩;have:=bz f c j a p k;omega
theorem QR {k:Kn} (c:Bool) (h:k.BA=true):Ds k c= {k with BA:=true}:=by simp[Ds,h]
theorem Oz {k:Kn} (c:Bool) (h:k.BA=false):Ds k c= {k with BA:= !c}:=by simp[Ds,h]
abbrev KO (a:Int) (p:List Int):List V:=[eI a,eI (p.length:Int),eI (p.getD 0 0),eI (p.getD 1 0)]
structure Zh (f:Fact):Prop where
 op:f.op=2∨f.op=3∨f.op=4
 path:f.path.length≤2
 cls:f.op=2→0≤f.cls∧f.cls<64
 n: -1000000000≤f.n∧f.n≤1000000000
set_option maxHeartbeats 2000000 in
theorem gB (w : AK) (us:List Nat) {kf:Int→List Int→Kn} {L:Nat} {es:List C9} (h:D4 kf es) (f:Fact) (c:Bool) (hl:Zh f) {m:Nat} (hm:m<1000) (hb: ∀a p,gF m (kf a p)) :
 Bh Tryz.prog 259 [SU w us L,.a (xF f++[.b c])] (CI L es) fun r post=>r= .ret (.t [])∧ ∃es',D4 (fun a p=>if a=f.arg∧p=f.path then Ct (Di f c f.path.length a p (kf a p)) f c else Di f c f.path.length a p (kf a p)) es'∧post=CI L es':=by
 intro σ hs;have hM:=Mx;obtain⟨l1,l2,l3,l4⟩:=hl;refine ku nb ?_;rw[show xF f++[V.b c]= [eI f.op,eI f.arg,.l (iL f.path) false,eI f.cls,eI f.n,.l (f.kids.map Fv) false,.b c] from rfl]
 conv=>whnf
 repeat'((first|apply st|(apply sq;intro K U)|(apply si;intro A B Y Z)|(apply Y;clear Z B Y A)|(apply U;clear U K)|refine⟨nb,?_⟩|refine ld ?_|refine Dm fun σ hs=>?_|(intro nn hnn;generalize hg:BC _ nn _=σ;refine Cm hg fun hs=>?_;clear hg)|fail)<;>conv=>whnf)
 generalize nn=nx at *;refine(Kf w us h (a:=f.arg) (p:=[]) (by simp)).use (rest:=[.box nx (KO f.arg [])]) (hs.perm (MD _ _)) ?_;clear hs hnn;rintro r post σ ⟨es1,e1,got,rfl,rfl⟩ hs;have hek:=got.k;obtain⟨hea,hep⟩:=Jz.1 got.is;obtain⟨pre,post,rfl⟩:=List.append_of_mem got.mem;replace hs:=HH (X:=[.box nx (KO f.arg [])]) (hs.perm Pq);cases hnd:e1.k.BA<;>rw[hnd]at hs
 all_goals
  conv=>whnf
  repeat'((first|apply st|(apply sq;intro K U)|(apply si;intro A B Y Z)|(apply Y;clear Z B Y A)|(apply U;clear U K)|refine ld ?_|refine FB fun σ hs=>?_|fail)<;>conv=>whnf)
  obtain⟨e2,es2,Y,Z,hC⟩: ∃(e2:C9) (es2:List C9),(D4 (fun a p=>Di f c 0 a p (kf a p)) es2∧e2∈es2∧e2.is f.arg (f.path.take 0)=true)∧e2.b=e1.b∧Sat σ (.box nx (KO f.arg (f.path.take 0))::CI L es2):=by
   refine⟨⟨e1.a,e1.p,e1.b,e1.vn,e1.vs,Ds e1.k c⟩,_,⟨(got.inv.change e1.b e1.vn e1.vs (Ds e1.k c)).congr fun a p=>?_,PX _ (.head _),got.is⟩,rfl,?_⟩
   ·rw[er,SX,hea,hep,hek]
    by_cases ha:a=f.arg∧p= []
    ·rw[if_pos ha,if_pos ha,ha.1,ha.2]
    ·rw[if_neg ha,if_neg ha]
   ·refine Ec (X:=[.box nx (KO f.arg [])]) (e:=e1) rfl rfl rfl ?_
    first
     | (rw[QR c hnd];exact hs)
     | (rw[Oz c hnd];exact hs)
  rw[←Z];clear hs hnd got hek hea hep;refine B4 f.path.length (fun j (x:List C9×C9)=>[(31,eI (A6 j)),(5,.p x.2.b 0)]) (fun j x=> .box nx (KO f.arg (f.path.take j))::CI L x.1) (fun j x=>D4 (fun a p=>Di f c j a p (kf a p)) x.1∧x.2∈x.1∧x.2.is f.arg (f.path.take j)=true) (es2,e2) rfl Y hC ?_;clear Y hC;generalize e2.b=b0 at *;clear Z e2 es2;rintro j ⟨es2,e2⟩ σ hj ⟨hinv,hmem,his⟩ hs;simp only at hinv hmem his hs
  have hek:e2.k=Di f c j f.arg (f.path.take j) (kf f.arg (f.path.take j)):=by
   have:=hinv.val e2 hmem;obtain⟨h1,h2⟩:=Jz.1 his;rw[this,h1,h2]
  have hok:gF (m+1) e2.k:=by rw[hek];exact pf (hb _ _) f c j _ _
  obtain⟨hea,hep⟩:=Jz.1 his;obtain⟨pre2,post2,rfl⟩:=List.append_of_mem hmem;replace hs:=HH (X:=[.box nx (KO f.arg (f.path.take j))]) hs;have hck:A6 j=j:=AL (by omega);rcases BH f.path hj with⟨s,hsj,hjlt⟩|hje
  ·have hct:=fun b=>Dz e2.k.AT b s
   have hk4:=hok.2.2.2;have hsl0:dI e2.k s= {e2.k with AT:=Iw e2.k.AT s}:=rfl
   have hne:f.path.take j++[s]≠f.path.take j:=by
    intro e;have:=congrArg List.length e;simp at this
   have hgd:f.path.getD j 0=s:=by rw[DL,hsj];rfl
   have htk:f.path.take (j+1)=f.path.take j++[s]:=AR hsj;cases hcB:e2.k.AT.contains s
   all_goals
    rw[hcB]at hct
    conv=>whnf
    repeat'((first|apply st|(apply sq;intro K U)|(apply si;intro A B Y Z)|(apply Y;clear Z B Y A)|(apply U;clear U K)|refine⟨rfl,?_⟩|refine⟨nb,?_⟩|refine ix ?_|refine ld ?_|refine FB fun σ hs=>?_|refine Dm fun σ hs=>?_|refine aq fun v σ hs hsl=>?_|refine E0 ?_|refine D2 ?_|(refine CS (fun hc=>?_)<;>(try rw[hc])<;>clear hc)|refine Pure.Xf (hct false) (.cons (hs.NC 2 rfl) (.cons (.refl _) .nil)) rfl ?_|refine Pure.use (NM f.arg (f.path.take j) s (by rw[LW];omega)) ?_|fail)<;>conv=>whnf)
   refine(ZS (.inl hsl)).use (rest:=_) (hs.front (j:=2) rfl) ?_;clear hs;rintro r post σ ⟨rfl,rfl⟩ hs;replace hs:Sat σ (.box e2.b [eI e2.k.low,eI e2.k.high,e2.vn,eU e2.k.CD,eU e2.k.GY,.b e2.k.whole,.b e2.k.BA,v]:: .own e2.vn 1 (iL e2.k.no):: .own v 1 (iL ((e2.k.AT++[s]).mergeSort G5))::([.box nx (KO f.arg (f.path.take j))]++HG L (pre2++e2::post2) pre2 post2)):=hs.perm (II _ _ _ _)
   conv=>whnf
   repeat'((first|(apply sq;intro K U)|(apply si;intro A B Y Z)|(apply Y;clear Z B Y A)|(apply U;clear U K)|refine⟨nb,?_⟩|refine ld ?_|refine Dm fun σ hs=>?_|refine Pure.use (NM f.arg (f.path.take j) s (by rw[LW];omega)) ?_|fail)<;>conv=>whnf)
   have hs3: ∃vs3,Sat σ (.box nx (KO f.arg (f.path.take j++[s]))::CI L (pre2++⟨e2.a,e2.p,e2.b,e2.vn,vs3,dI e2.k s⟩::post2)):=⟨v,Ec (X:=[_]) (e:=e2) rfl rfl rfl (by rw[hsl0,Iw,if_neg (by rw[hcB];decide)];exact hs)⟩
   rotate_left
   have hs3: ∃vs3,Sat σ (.box nx (KO f.arg (f.path.take j++[s]))::CI L (pre2++⟨e2.a,e2.p,e2.b,e2.vn,vs3,dI e2.k s⟩::post2)):=⟨e2.vs,Ec (X:=[_]) (e:=e2) rfl rfl rfl (by rw[hsl0,Iw,if_pos hcB];exact hs)⟩
   all_goals
    clear hs;obtain⟨vs3,hs⟩:=hs3;have hinv3:=hinv.change e2.b e2.vn vs3 (dI e2.k s);refine(Kf w us hinv3 (a:=f.arg) (p:=f.path.take j++[s]) (by rw[PT,LW];simp;omega)).use (rest:=[.box nx (KO f.arg (f.path.take j++[s]))]) (hs.perm (MD _ _)) ?_;clear hs;rintro r post σ ⟨es4,e4,got,rfl,rfl⟩ hs;have hek4:=got.k;obtain⟨hea4,hep4⟩:=Jz.1 got.is;obtain⟨pre4,post4,rfl⟩:=List.append_of_mem got.mem;replace hs:=HH (X:=[.box nx (KO f.arg (f.path.take j++[s]))]) (hs.perm Pq);cases hnd:e4.k.BA<;>rw[hnd]at hs
    all_goals
     conv=>whnf
     repeat'((first|apply st|(apply si;intro A B Y Z)|(apply Y;clear Z B Y A)|(apply U;clear U K)|refine⟨rfl,?_⟩|refine ld ?_|refine FB fun σ hs=>?_|clear U K)<;>conv=>whnf)
     refine⟨hjlt,(pre4++⟨e4.a,e4.p,e4.b,e4.vn,e4.vs,Ds e4.k c⟩::post4,⟨e4.a,e4.p,e4.b,e4.vn,e4.vs,Ds e4.k c⟩),rfl,⟨(got.inv.change e4.b e4.vn e4.vs (Ds e4.k c)).congr fun a p=>?_,PX _ (.head _),by rw[htk];exact got.is⟩,?_⟩
     ·rw[ew f c hjlt,SX,hea4,hep4,htk,hgd]
      by_cases h1:a=f.arg∧p=f.path.take j++[s]
      ·rw[if_pos h1,if_pos h1,hek4,SX,hea,hep,if_neg (fun h=>hne h.2),h1.1,h1.2]
      ·rw[if_neg h1,if_neg h1,SX,hea,hep]
       by_cases h2:a=f.arg∧p=f.path.take j
       ·rw[if_pos h2,if_pos h2,hek,h2.1,h2.2]
       ·rw[if_neg h2,if_neg h2]
     ·rw[htk]
      refine Ec (X:=[.box nx (KO f.arg (f.path.take j++[s]))]) (e:=e4) rfl rfl rfl ?_
      first
       | (rw[QR c hnd];exact hs)
       | (rw[Oz c hnd];exact hs)
  ·have etk:f.path.take j=f.path:=Ar hje
   rw[etk]at his hs hek hep
   conv=>whnf
   repeat'((first|apply st|(apply sq;intro K U)|(apply si;intro A B Y Z)|(apply Y;clear Z B Y A)|(apply U;clear U K)|refine⟨rfl,?_⟩|refine⟨nb,?_⟩|(refine Dh (fun hc=>?_)<;>(try rw[hc])<;>clear hc)|clear U K)<;>conv=>whnf)
   refine(oT f c l1 l3 hok.1 hok.2.1 (by have:=hok.2.2.1;omega) l4).use (rest:=[.box nx (KO f.arg f.path)]++HG L (pre2++e2::post2) pre2 post2) hs ?_;rintro r post σ ⟨rfl,vn',rfl⟩ hs
   conv=>whnf
   repeat'((first|(apply Y;clear Z B Y A)|fail)<;>conv=>whnf)
   refine AO ⟨_,⟨rfl,_,(hinv.change e2.b vn' e2.vs (Ct e2.k f c)).congr fun a p=>?_,rfl⟩,(Ec (X:=[.box nx (KO f.arg f.path)]) (e:=e2) (e':=⟨e2.a,e2.p,e2.b,vn',e2.vs,Ct e2.k f c⟩) rfl rfl rfl hs).less (Jn _ _)⟩;rw[SX,hea,hep,hek,←hje];by_cases h1:a=f.arg∧p=f.path
   ·rw[if_pos h1,if_pos h1,h1.1,h1.2]
   ·rw[if_neg h1,if_neg h1]
theorem oa (w:AK) (us:List Nat) {kf:Int→List Int→Kn} {L:Nat} {es:List C9} (h:D4 kf es) (l:Fact) (hl:Zh (A1 l).1) {m:Nat} (hm:m<1000) (hb: ∀a p,gF m (kf a p)) :
 Bh Tryz.prog 259 [SU w us L,.a (Jr l)] (CI L es) fun r post=>r= .ret (.t [])∧ ∃es',D4 (fun a p=>DK a p (kf a p) l) es'∧post=CI L es':=fun σ hs=>
 BL.mono (gB w us h (A1 l).1 (A1 l).2 hl hm hb σ hs) fun r σ' ⟨post,⟨h1,es',h2,h3⟩,h4⟩=>⟨post,⟨h1,es',h2.congr fun a p=>(js a p (kf a p) l).symm,h3⟩,h4⟩
def Uz (ls:List Fact):Prop:= ∀l∈ls,Zh (A1 l).1
theorem Zz {ls:List Fact} (h:Uz ls) (a:Int) (p:List Int):gF ls.length (kn ls a p):=by
 have hc:Il 64 ls:=fun l hl ho=>(h l hl).cls ho
 obtain⟨h1,h2⟩:=e9 hc a p;obtain⟨h3,h4⟩:=Z0 a p ls k0;exact⟨by simpa using h1,by simpa using h2,by simpa[kn,k0]using h3,by simpa[kn,k0]using h4⟩
theorem vQ:D4 (kn []) []:=⟨fun x hx=>(by cases hx),fun a p _=>rfl,.nil,fun x hx=>(by cases hx)⟩
set_option maxHeartbeats 1000000 in
theorem bH (w:AK) (us:List Nat) (ls:List Fact) (b:Bool) (h:Uz ls) (hlen:ls.length<900) :
 Bh Tryz.prog 230 [.rp (wC w us),.l (FF ls) b] [] fun r post=> ∃L es,r= .ret (SU w us L)∧D4 (kn ls) es∧post=CI L es:=by
 intro σ hs;have hM:=Mx;refine lO nb ?_
 conv=>whnf
 repeat'((first|apply st|(apply sq;intro K U)|(apply si;intro A B Y Z)|(apply Y;clear Z B Y A)|(apply U;clear U K)|(intro nn hnn;generalize hg:BC _ nn _=σ;refine Cm hg fun hs=>?_;clear hg)|fail)<;>conv=>whnf)
 generalize nn=L at *;refine B4 ls.length (fun k (x:List C9)=>[(14,eI (A6 k))]) (fun k x=>CI L x) (fun k x=>D4 (kn (ls.take k)) x) [] rfl vQ hs ?_;clear hs hnn;rintro k es σ hk hinv hs;rcases BH ls hk with⟨l,hlk,hlt⟩|hke
 ·have hlm:l∈ls:=B2 hlk
  have htk:ls.take (k+1)=ls.take k++[l]:=AR hlk;have hbk: ∀a p,gF (ls.take k).length (kn (ls.take k) a p):=Zz fun x hx=>h x (List.mem_of_mem_take hx)
  conv=>whnf
  repeat'((first|apply st|(apply sq;intro K U)|(apply si;intro A B Y Z)|(apply Y;clear Z B Y A)|(apply U;clear U K)|refine⟨rfl,?_⟩|refine⟨nb,?_⟩|refine ix ?_|refine ld ?_|refine Dm fun σ hs=>?_|(refine CS (fun hc=>?_)<;>(try rw[hc])<;>clear hc)|(intro nn hnn;generalize hg:BC _ nn _=σ;refine Cm hg fun hs=>?_;clear hg)|fail)<;>conv=>whnf)
  rename_i nb hnb _ hs;generalize nn=n7 at *;refine(oa w us hinv l (h l hlm) (m:=(ls.take k).length) (by rw[LW];omega) hbk).use (rest:=[.box n7 (Jr l)]) (hs.perm (MD _ _)) ?_;clear hs;rintro r post σ ⟨rfl,es',hinv',rfl⟩ hs
  conv=>whnf
  repeat'((first|(apply si;intro A B Y Z)|(apply Y;clear Z B Y A)|(apply U;clear U K)|refine⟨rfl,?_⟩|clear U K)<;>conv=>whnf)
  refine⟨hlt,es',rfl,?_,hs.less (List.sublist_append_left _ _)⟩;rw[htk];exact hinv'.congr fun a p=>(e8 _ _ _ _).symm
 ·have etk:ls.take k=ls:=Ar hke
  rw[etk]at hinv
  conv=>whnf
  repeat'((first|apply st|(apply sq;intro K U)|(apply si;intro A B Y Z)|(apply Y;clear Z B Y A)|(apply U;clear U K)|refine⟨rfl,?_⟩|(refine Dh (fun hc=>?_)<;>(try rw[hc])<;>clear hc)|clear U K)<;>conv=>whnf)
  exact AO ⟨_,⟨L,es,rfl,hinv,rfl⟩,hs⟩
structure Ix (w:AK) (kf:Int→List Int→Kn):Prop where
 ok: ∀a p,gF 1000 (kf a p)
 low: ∀a p,-1000000000≤(kf a p).low∧(kf a p).low≤1000000000
 short: ∀a p,2≤p.length→(kf a p).AT= []
 AT: ∀a p,∀s∈(kf a p).AT,0≤s∧s<w.owner.length
abbrev Hx (L:Nat) (pre post:List C9) (e:C9) (s:List C9):List At:=
 .box e.b [eI e.k.low,eI e.k.high,e.vn,eU e.k.CD,eU e.k.GY,.b e.k.whole,.b e.k.BA,e.vs]:: .own e.vn 1 (iL e.k.no)::HG L (pre++e::(post++s)) pre (post++s)
theorem o7 {σ:AH} {L:Nat} {pre post:List C9} {e:C9} {s:List C9} (h:Sat σ (CI L (pre++e::(post++s)))):Sat σ (.own e.vs 1 (iL e.k.AT)::Hx L pre post e s):=
 (HH (X:=[]) h).perm ((II _ _ _ _).symm)
theorem iY {σ:AH} {L:Nat} {pre post:List C9} {e:C9} {s:List C9} (h:Sat σ (.own e.vs 1 (iL e.k.AT)::Hx L pre post e s)):Sat σ (CI L (pre++e::(post++s))):=
 Ec (X:=[]) (e:=e) (e':=e) rfl rfl rfl (h.perm (II _ _ _ _))
def Nq (kf:Int→List Int→Kn) (L:Nat) (es:List C9) (post:List At):Prop:= ∃es',Pc es es'∧D4 kf es'∧post=CI L es'
theorem fU (w:AK) (us:List Nat) {kf:Int→List Int→Kn} {L:Nat} {pre post:List C9} {e:C9} {a:Int} {p:List Int} (hp:p.length<2) :
 Mc Tryz.prog (.f (.func 290) [] [.rp [SU w us L],.rp (KO a p)]) eI (fun s=> .own e.vs 1 (iL e.k.AT)::Hx L pre post e s) (fun y=> !(kf a (p++[y])).BA) (fun s=>D4 kf (pre++e::(post++s))∧ ∀x∈s,x.k=k0) (fun _=>True):=by
 rintro y s - ⟨hj,hj0⟩ σ hs;refine Bp ?_;show BL Tryz.prog 290 ([]++[eI y]++[.rp [SU w us L],.rp (KO a p)]) σ _;refine kE nb ?_
 conv=>whnf
 repeat'((first|apply st|(apply sq;intro K U)|(apply si;intro A B Y Z)|(apply Y;clear Z B Y A)|(apply U;clear U K)|apply dr|refine rk ?_ ?_|exact fun s e=>by cases e;rfl|refine⟨nb,?_⟩|refine Pure.use (NM a p y hp) ?_|fail)<;>conv=>whnf)
 refine(Kf w us hj (a:=a) (p:=p++[y]) (by simp;omega)).use (rest:=[]) (by simpa using iY hs) ?_;clear hs;rintro r post' σ ⟨es4,e4,got,rfl,rfl⟩ hs;have hek4:=got.k;obtain⟨new,he4,hnew⟩:=got.ext;have hinv:=got.inv;obtain⟨pre4,post4,he5⟩:=List.append_of_mem got.mem;rw[Hj,he5]at hs;replace hs:=HH (X:=[]) hs
 conv=>whnf
 repeat'((first|apply st|(apply Y;clear Z B Y A)|(apply U;clear U K)|apply dr|refine ld ?_|fail)<;>conv=>whnf)
 refine AO ⟨by rw[hek4],s++new,⟨?_,fun x hx=>?_⟩,?_⟩
 ·rw[he4]at hinv
  simpa using hinv
 ·rcases Fk.1 hx with hx|hx
  ·exact hj0 x hx
  ·exact hnew x hx
 ·have h2:=Ec (X:=[]) (e:=e4) (e':=e4) rfl rfl rfl hs
  rw[←he5,he4]at h2;refine o7 ?_;simpa using h2
theorem fV (w:AK) (us:List Nat) {kf:Int→List Int→Kn} (hr:Ix w kf) {L:Nat} {es:List C9} (h:D4 kf es) {a:Int} {p:List Int} (hp:p.length≤2) :
 Bh Tryz.prog 288 [SU w us L,Eo a p] (CI L es) fun r post=>r= .ret (.b (Ns kf a p))∧Nq kf L es post:=by
 intro σ hs;have hM:=Mx;refine kG nb ?_
 conv=>whnf
 repeat'((first|apply st|(apply sq;intro K U)|(apply si;intro A B Y Z)|(apply Y;clear Z B Y A)|(apply U;clear U K)|refine⟨nb,?_⟩|fail)<;>conv=>whnf)
 refine(Kf w us h (a:=a) (p:=p) hp).use (rest:=[]) (by simpa using hs) ?_;clear hs;rintro r post σ ⟨es4,e4,got,rfl,rfl⟩ hs;have hek:=got.k;obtain⟨pre,post,rfl⟩:=List.append_of_mem got.mem;rw[Hj]at hs;replace hs:=HH (X:=[]) hs;have hsl:=(hr.ok a p).2.2.2;have hsh:=hr.short a p;rw[←hek]at hsl hsh
 have hst:p.length<2∨e4.k.AT= []:=by
  rcases Nat.lt_or_ge p.length 2 with h'|h'
  ·exact .inl h'
  ·exact .inr (hsh h')
 have hE:Ns kf a p=e4.k.AT.all fun y=> !(kf a (p++[y])).BA:=by rw[Ns,hek]
 conv=>whnf
 repeat'((first|refine ld ?_|fail)<;>conv=>whnf)
 have hall:Bh Tryz.prog 177 [e4.vs,.f (.func 290) [] [.rp [SU w us L],.rp (KO a p)]] (.own e4.vs 1 (iL e4.k.AT)::Hx L pre post e4 []) fun r post'=>r= .ret (.b (e4.k.AT.all fun y=> !(kf a (p++[y])).BA))∧ ∃s',(D4 kf (pre++e4::(post++s'))∧ ∀x∈s',x.k=k0)∧post'= .own e4.vs 1 (iL e4.k.AT)::Hx L pre post e4 s':=by
  rcases hst with h'|h'
  ·exact XQ 290 [] [.rp [SU w us L],.rp (KO a p)] (Hx L pre post e4) _ _ _ (fU w us h') (fun _ _=>trivial) (by omega) [] ⟨by simpa using got.inv,by simp⟩
  ·exact XQ 290 [] [.rp [SU w us L],.rp (KO a p)] (Hx L pre post e4) _ _ (fun _=>False) (fun y s hf=>hf.elim) (fun x hx=>by rw[h']at hx;cases hx) (by omega) [] ⟨by simpa using got.inv,by simp⟩
 refine hall.use (rest:=[]) (by
  have h2:=o7 (L:=L) (pre:=pre) (post:=post) (e:=e4) (s:=[]) (by simpa using Ec (X:=[]) (e:=e4) (e':=e4) rfl rfl rfl hs)
  simpa using h2) ?_
 clear hs;rintro r post' σ ⟨rfl,s',⟨hi,hn⟩,rfl⟩ hs
 conv=>whnf
 repeat'((first|apply st|(apply Y;clear Z B Y A)|(apply U;clear U K)|fail)<;>conv=>whnf)
 refine AO ⟨_,⟨by rw[hE],pre++e4::(post++s'),got.ext.trans ⟨s',by simp,hn⟩,hi,rfl⟩,iY (by simpa using hs)⟩
theorem cz {m u:Nat} (hm:m<18446744073709551616):(Nj m u=0)↔PY m u=true:=by
 rw[N9 (by simpa using hm)];constructor
 ·intro h b hb
  have hlt:b<64:=by
   rcases Nat.lt_or_ge b 64 with h'|h'
   ·exact h'
   ·rw[Nat.testBit_lt_two_pow (Nat.lt_of_lt_of_le hm (by simpa using Nat.pow_le_pow_right (n:=2) (by decide) h'))]at hb;cases hb
  have:=OW (a:=m) (b:=u) hlt;rw[h,Nat.zero_testBit,hb]at this;simpa using this
 ·intro h
  refine Nat.eq_of_testBit_eq fun i=>?_
  rw[Nat.zero_testBit];rcases Nat.lt_or_ge i 64 with hlt|hge
  ·rw[OW hlt]
   cases hb:m.testBit i with
   | false=>rfl
   | true=>rw[h i hb];rfl
  ·exact Nat.testBit_lt_two_pow (Nat.lt_of_lt_of_le (R2 _ _) (by simpa using Nat.pow_le_pow_right (n:=2) (by decide) hge))
theorem TK (w:AK) (us:List Nat) {kf:Int→List Int→Kn} (hr:Ix w kf) {L:Nat} {es:List C9} (h:D4 kf es) {a:Int} {p:List Int} (hp:p.length≤2) (c:Nat) (hc:c<64) :
 Bh Tryz.prog 284 [SU w us L,Eo a p,eI c] (CI L es) fun r post=>r= .ret (.b (Hm kf a p c))∧Nq kf L es post:=by
 intro σ hs;refine kJ nb ?_
 conv=>whnf
 repeat'((first|apply st|(apply sq;intro K U)|(apply si;intro A B Y Z)|(apply Y;clear Z B Y A)|(apply U;clear U K)|refine⟨nb,?_⟩|fail)<;>conv=>whnf)
 refine(Kf w us h (a:=a) (p:=p) hp).use (rest:=[]) (by simpa using hs) ?_;clear hs;rintro r post σ ⟨es4,e4,got,rfl,rfl⟩ hs;have hek:=got.k;obtain⟨pre,post,rfl⟩:=List.append_of_mem got.mem;rw[Hj]at hs;replace hs:=HH (X:=[]) hs;have hok:=hr.ok a p;rw[←hek]at hok;have hu:1|||2 ^ c<18446744073709551616:=KZ (by decide) (Jv hc)
 have hb1:bits .andNot .u64 (e4.k.CD:Int) ((1|||2 ^ c:Nat):Int)=((Nj e4.k.CD (1|||2 ^ c):Nat):Int):=Qs;have hb2:bits .and .u64 (e4.k.GY:Int) ((1|||2 ^ c:Nat):Int)=((e4.k.GY&&&(1|||2 ^ c):Nat):Int):=K9 hok.2.1 hu;have hb3:=cz (u:=1|||2 ^ c) hok.1;have F:Hm kf a p c=(PY e4.k.CD (1|||2 ^ c)&&(e4.k.GY&&&(1|||2 ^ c)==0&&Ns kf a p)):=by rw[Hm,hek]
 conv=>whnf
 repeat'((first|apply st|(apply sq;intro K U)|(apply si;intro A B Y Z)|(apply Y;clear Z B Y A)|(apply U;clear U K)|refine⟨rfl,?_⟩|refine⟨nb,?_⟩|refine ld ?_|refine Pure.use (WL 1 c (by decide) hc) ?_|(constructor<;>intro hc<;>(try rw[hc])<;>(replace hc:=bp hc))|fail)<;>conv=>whnf)
 ·have h1:PY e4.k.CD (1|||2 ^ c)=true:=hb3.1 (by omega)
  have h2:(e4.k.GY&&&(1|||2 ^ c)==0)=true:=by rw[D1];omega
  refine(fV w us hr got.inv hp).use (rest:=[]) (by simpa using Ec (X:=[]) (e:=e4) (e':=e4) rfl rfl rfl hs) ?_;clear hs;rintro r post' σ ⟨rfl,es5,hx,hi,rfl⟩ hs
  conv=>whnf
  repeat'((first|apply st|(apply Y;clear Z B Y A)|(apply U;clear U K)|fail)<;>conv=>whnf)
  exact AO ⟨_,⟨by rw[F,h1,h2];rfl,es5,got.ext.trans hx,hi,rfl⟩,by simpa using hs⟩
 ·have h2:(e4.k.GY&&&(1|||2 ^ c)==0)=false:=by rw[beq_eq_false_iff_ne];omega
  exact AO ⟨_,⟨by rw[F,h2];simp,_,got.ext,got.inv,rfl⟩,by simpa using Ec (X:=[]) (e:=e4) (e':=e4) rfl rfl rfl hs⟩
 ·have h1:PY e4.k.CD (1|||2 ^ c)=false:=by
   rw[←Bool.not_eq_true,←hb3];omega
  exact AO ⟨_,⟨by rw[F,h1];simp,_,got.ext,got.inv,rfl⟩,by simpa using Ec (X:=[]) (e:=e4) (e':=e4) rfl rfl rfl hs⟩
theorem O8 (w:AK) (us:List Nat) {kf:Int→List Int→Kn} (hr:Ix w kf) {L:Nat} {es:List C9} (h:D4 kf es) {a:Int} {p:List Int} (hp:p.length≤2) :
 Bh Tryz.prog 278 [SU w us L,Eo a p] (CI L es) fun r post=>r= .ret (.t [eI (Jy (kf a p)),.b (RF kf a p)])∧Nq kf L es post:=by
 intro σ hs;have hM:=Mx;refine kQ nb ?_
 conv=>whnf
 repeat'((first|apply st|(apply sq;intro K U)|(apply si;intro A B Y Z)|(apply Y;clear Z B Y A)|(apply U;clear U K)|refine⟨nb,?_⟩|fail)<;>conv=>whnf)
 refine(Kf w us h (a:=a) (p:=p) hp).use (rest:=[]) (by simpa using hs) ?_;clear hs;rintro r post σ ⟨es4,e4,got,rfl,rfl⟩ hs;have hek:=got.k;obtain⟨pre,post,rfl⟩:=List.append_of_mem got.mem;rw[Hj]at hs;replace hs:=HH (X:=[]) hs;have hok:=hr.ok a p;have hlo:=hr.low a p;rw[←hek]at hok hlo;have hno:=hok.2.2.1;have hle:=W6 e4.k.no e4.k.low;have hL:Jy (kf a p)=IV e4.k.no (from_ e4.k.no e4.k.low) e4.k.low:=by rw[Jy,←hek];exact XS hle (JU _)
 conv=>whnf
 repeat'((first|apply st|(apply sq;intro K U)|(apply si;intro A B Y Z)|(apply Y;clear Z B Y A)|(apply U;clear U K)|refine ld ?_|fail)<;>conv=>whnf)
 refine EF (fun n:Int=>from_ e4.k.no n) (fun n=>[(7,eI n)]) (fun _=> .box e4.b [eI e4.k.low,eI e4.k.high,e4.vn,eU e4.k.CD,eU e4.k.GY,.b e4.k.whole,.b e4.k.BA,e4.vs]:: .own e4.vn 1 (iL e4.k.no):: .own e4.vs 1 (iL e4.k.AT)::([]++HG L (pre++e4::post) pre post)) (fun n=> -1000000000≤n∧n+from_ e4.k.no n≤1000001000∧Jy (kf a p)=IV e4.k.no (from_ e4.k.no n) n) e4.k.low rfl ⟨by omega,by omega,hL⟩ hs ?_;clear hs hL hle;rintro n σ ⟨hn0,hn1,hL⟩ hs;have hct2:=fun b=>Dz e4.k.no b n
 cases hcB:e4.k.no.contains n<;>rw[hcB]at hct2
 ·have hout:n∉e4.k.no:=by simpa using hcB
  rw[gA hout]at hL;have hI:RF kf a p=(decide (n≤e4.k.high)&&Hm kf a p 1):=by rw[RF,hL,hek]
  conv=>whnf
  repeat'((first|apply st|(apply sq;intro K U)|(apply si;intro A B Y Z)|(apply Y;clear Z B Y A)|(apply U;clear U K)|refine⟨rfl,?_⟩|refine⟨nb,?_⟩|refine ld ?_|refine Pure.Xf (hct2 false) (.cons (hs.NC 1 rfl) (.cons (.refl _) .nil)) rfl ?_|(constructor<;>intro hc<;>(try rw[hc])<;>(replace hc:=bp hc))|clear U K)<;>conv=>whnf)
  all_goals
   have hsc:Sat σ (CI L (pre++e4::post)):=by simpa using Ec (X:=[]) (e:=e4) (e':=e4) rfl rfl rfl hs
  ·refine(TK w us hr got.inv hp 1 (by decide)).use (rest:=[]) (by simpa using hsc) ?_
   clear hs hsc;rintro r post' σ ⟨rfl,es5,hx,hi,rfl⟩ hs
   conv=>whnf
   repeat'((first|apply st|(apply Y;clear Z B Y A)|(apply U;clear U K)|fail)<;>conv=>whnf)
   exact AO ⟨_,⟨by rw[hL,hI,decide_eq_true (by assumption)];rfl,es5,got.ext.trans hx,hi,rfl⟩,by simpa using hs⟩
  ·exact AO ⟨_,⟨by rw[hL,hI,decide_eq_false (by omega)];rfl,_,got.ext,got.inv,rfl⟩,hsc⟩
 ·have hin:n∈e4.k.no:=by simpa using hcB
  have hlt:=Rx hin;have hwr:IntKind.i64.wrap (n+1)=n+1:=wrap64 (by omega) (by omega);obtain⟨m,hm⟩: ∃m,from_ e4.k.no n=m+1:=⟨from_ e4.k.no n - 1,by omega⟩
  have hL2:Jy (kf a p)=IV e4.k.no (from_ e4.k.no (n+1)) (n+1):=by rw[hL,hm,oZ hin];exact XS (by omega) (JU _)
  conv=>whnf
  repeat'((first|apply st|(apply sq;intro K U)|(apply si;intro A B Y Z)|(apply Y;clear Z B Y A)|(apply U;clear U K)|refine⟨rfl,?_⟩|refine ld ?_|refine Pure.Xf (hct2 false) (.cons (hs.NC 1 rfl) (.cons (.refl _) .nil)) rfl ?_|clear U K)<;>conv=>whnf)
  exact⟨n+1,hlt,by rw[hwr];rfl,⟨by omega,by omega,hL2⟩,hs⟩
theorem Wk (w:AK) (us:List Nat) {kf:Int→List Int→Kn} (hr:Ix w kf) {L:Nat} {es:List C9} (h:D4 kf es) {a:Int} {p:List Int} (hp:p.length≤2) :
 Bh Tryz.prog 279 [SU w us L,Eo a p] (CI L es) fun r post=>r= .ret (.b (Ka kf a p))∧Nq kf L es post:=by
 intro σ hs;refine kP nb ?_
 conv=>whnf
 repeat'((first|apply st|(apply sq;intro K U)|(apply si;intro A B Y Z)|(apply Y;clear Z B Y A)|(apply U;clear U K)|refine⟨nb,?_⟩|fail)<;>conv=>whnf)
 refine(Kf w us h (a:=a) (p:=p) hp).use (rest:=[]) (by simpa using hs) ?_;clear hs;rintro r post σ ⟨es4,e4,got,rfl,rfl⟩ hs;have hek:=got.k;obtain⟨pre,post,rfl⟩:=List.append_of_mem got.mem;rw[Hj]at hs;have hsc:=hs;replace hs:=HH (X:=[]) hs;have hN:Ka kf a p=(!e4.k.whole&&Hm kf a p 2):=by rw[Ka,hek]
 cases hw:e4.k.whole<;>rw[hw]at hs hN
 ·conv=>whnf
  repeat'((first|apply st|refine⟨nb,?_⟩|refine ld ?_|refine E0 ?_|fail)<;>conv=>whnf)
  refine(TK w us hr got.inv hp 2 (by decide)).use (rest:=[]) (by simpa using hsc) ?_;clear hs hsc;rintro r post' σ ⟨rfl,es5,hx,hi,rfl⟩ hs
  conv=>whnf
  repeat'((first|apply st|(apply Y;clear Z B Y A)|(apply U;clear U K)|fail)<;>conv=>whnf)
  exact AO ⟨_,⟨by rw[hN];rfl,es5,got.ext.trans hx,hi,rfl⟩,by simpa using hs⟩
 ·conv=>whnf
  repeat'((first|apply st|(apply Y;clear Z B Y A)|(apply U;clear U K)|refine ld ?_|refine D2 ?_|fail)<;>conv=>whnf)
  exact AO ⟨_,⟨by rw[hN];rfl,_,got.ext,got.inv,rfl⟩,hsc⟩
theorem RQ {σ:AH} {X:List At} {L:Nat} {pre post:List C9} {e:C9} {s:List C9} (h:Sat σ (X++CI L (pre++e::(post++s)))):Sat σ (.own e.vs 1 (iL e.k.AT)::(X++Hx L pre post e s)):=by
 have h2:=HH h;refine h2.perm ((II _ _ _ _).symm.trans (.cons _ ?_));exact(List.perm_middle.trans (.cons _ List.perm_middle)).symm
theorem fh {σ:AH} {X:List At} {L:Nat} {pre post:List C9} {e:C9} {s:List C9} (h:Sat σ (.own e.vs 1 (iL e.k.AT)::(X++Hx L pre post e s))):Sat σ (X++CI L (pre++e::(post++s))):=by
 refine Ec (X:=X) (e:=e) (e':=e) rfl rfl rfl ?_;refine h.perm ?_;refine List.Perm.trans (.cons _ (List.perm_middle.trans (.cons _ List.perm_middle))) ?_;exact II _ _ _ _
theorem Wx (s:Nat) (c:Int) (hs0:s<18446744073709551616) (h0:0≤c) (hc:c<64):Pure Tryz.prog 152 [eU s,eI c] (.b (s.testBit c.toNat)):=by
 have:=N0 s c.toNat hs0 (by omega);rw[Int.toNat_of_nonneg h0]at this;exact this
theorem c0 {m:Nat} (hm:m<18446744073709551616):Nj m 1=HB m:=by
 refine Nat.eq_of_testBit_eq fun i=>?_
 rw[Td];rcases Nat.lt_or_ge i 64 with hlt|hge
 ·rw[OW hlt,show(1:Nat)=2 ^ 0 from rfl,Nat.testBit_two_pow]
  congr 2;rw[Lb,CX,D1];omega
 ·have h64:18446744073709551616≤2 ^ i:=by simpa using Nat.pow_le_pow_right (n:=2) (by decide) hge
  rw[Nat.testBit_lt_two_pow (Nat.lt_of_lt_of_le (R2 _ _) h64),Nat.testBit_lt_two_pow (Nat.lt_of_lt_of_le hm h64)];rfl
set_option maxHeartbeats 4000000 in
theorem QO (w:AK) (hw:CR w) {kf:Int→List Int→Kn} (hr:Ix w kf) {a:Int} {p:List Int} (hp:p.length≤2) (can:Int→Bool)
 (hcan: ∀s∈(kf a p).AT,∀L es,D4 kf es→Bh Tryz.prog 260 [SU w (CE w.parents) L,Eo a (p++[s])] (CI L es) fun r post=>r= .ret (.b (can s))∧Nq kf L es post) {L:Nat} {es:List C9} (h:D4 kf es) :
 Bh Tryz.prog 280 [SU w (CE w.parents) L,Eo a p] (CI L es) fun r post=>r= .ret (.t [eU (Mw w (kf a p) (fun s=>(kf a (p++[s])).BA) can).1,.b (Mw w (kf a p) (fun s=>(kf a (p++[s])).BA) can).2])∧Nq kf L es post:=by
 intro σ hs;have hM:=Mx;generalize hus:CE w.parents=us at *;refine kO nb ?_
 conv=>whnf
 repeat'((first|apply st|(apply sq;intro K U)|(apply si;intro A B Y Z)|(apply Y;clear Z B Y A)|(apply U;clear U K)|refine⟨nb,?_⟩|fail)<;>conv=>whnf)
 refine(Kf w us h (a:=a) (p:=p) hp).use (rest:=[]) (by simpa using hs) ?_;clear hs;rintro r post σ ⟨es4,e4,got,rfl,rfl⟩ hs;have hek:=got.k;obtain⟨pre,post,rfl⟩:=List.append_of_mem got.mem;rw[Hj]at hs;have hsc:=hs;replace hs:=HH (X:=[]) hs;have hok:=hr.ok a p;have hsl:=(hr.ok a p).2.2.2;have hsh:=hr.short a p;have hsw:=hr.AT a p;rw[←hek]at hok hsl hsh hsw hcan;have hO:Mw w (kf a p) (fun s=>(kf a (p++[s])).BA) can=Mw w e4.k (fun s=>(kf a (p++[s])).BA) can:=by rw[hek]
 have hOn:(e4.k.whole=true∨e4.k.CD.testBit 1=true∨e4.k.CD.testBit 2=true∨e4.k.GY.testBit 0=true)→Mw w (kf a p) (fun s=>(kf a (p++[s])).BA) can=(0,false):=fun h=>by
  rw[hO,Mw,if_pos];rcases h with h|h|h|h<;>rw[h]<;>simp
 have hOy:e4.k.whole=false→e4.k.CD.testBit 1=false→e4.k.CD.testBit 2=false→e4.k.GY.testBit 0=false→Mw w (kf a p) (fun s=>(kf a (p++[s])).BA) can=match IL w (fun s=>(kf a (p++[s])).BA) can e4.k.AT (e4.k.CD,e4.k.GY)with
  | none=>(0,false)
  | some u=>(HB (Dg (CE w.parents) w.parents.length u.1),HB (Dg (CE w.parents) w.parents.length u.1)&&&u.2==0):=fun h1 h2 h3 h4=>by
  rw[hO,Mw,h1,h2,h3,h4];rfl
 clear hO;cases hb0:e4.k.whole<;>rw[hb0]at hs
 rotate_left
 ·conv=>whnf
  repeat'((first|apply st|(apply sq;intro K U)|(apply si;intro A B Y Z)|(apply Y;clear Z B Y A)|(apply U;clear U K)|apply dr|refine ld ?_|clear U K)<;>conv=>whnf)
  exact AO ⟨_,⟨by rw[hOn (.inl hb0)];rfl,_,got.ext,got.inv,rfl⟩,hsc⟩
 ·conv => whnf
  repeat'((first|apply st|(apply sq;intro K U)|(apply si;intro A B Y Z)|(apply Y;clear Z B Y A)|(apply U;clear U K)|apply dr|refine lo ?_|refine ld ?_|refine Pure.use (N0 e4.k.CD 1 hok.1 (by decide)) ?_|refine Pure.use (N0 e4.k.CD 2 hok.1 (by decide)) ?_|refine Pure.use (N0 e4.k.GY 0 hok.2.1 (by decide)) ?_|(constructor<;>intro hc<;>(try rw[hc])<;>(replace hc:=bp hc))|clear U K)<;>conv=>whnf)
  all_goals first
   | exact AO ⟨_,⟨by rw[hOn (by first|exact .inl (by assumption)|exact .inr (.inl (by assumption))|exact .inr (.inr (.inl (by assumption)))|exact .inr (.inr (.inr (by assumption))))];rfl,_,got.ext,got.inv,rfl⟩,hsc⟩
   | skip
  replace hOy:=hOy hb0 (by assumption) (by assumption) (by assumption);clear hOn;generalize hnf:(fun s=>(kf a (p++[s])).BA)=BA at *
  have hs1:Sat σ (.own e4.vs 1 (iL e4.k.AT)::Hx L pre post e4 []):=by
   have h2:=RQ (X:=[]) (L:=L) (pre:=pre) (post:=post) (e:=e4) (s:=[]) (by simpa using hsc);simpa using h2
  refine B4 e4.k.AT.length (fun k (x:(Nat×Nat)×List C9)=>[(47,eI (A6 k)),(7,eU x.1.1),(8,eU x.1.2)]) (fun k x=> .own e4.vs 1 (iL e4.k.AT)::Hx L pre post e4 x.2) (fun k x=>(x.1.1<18446744073709551616∧x.1.2<18446744073709551616)∧(D4 kf (pre++e4::(post++x.2))∧ ∀y∈x.2,y.k=k0)∧IL w BA can e4.k.AT (e4.k.CD,e4.k.GY)=IL w BA can (e4.k.AT.drop k) x.1) ((e4.k.CD,e4.k.GY),[]) rfl ⟨⟨hok.1,hok.2.1⟩,⟨by simpa using got.inv,by simp⟩,rfl⟩ hs1 ?_;clear hs hs1 hsc;rintro k ⟨⟨m,no⟩,new⟩ σ hk ⟨⟨hm,hno⟩,⟨hinv,hnew⟩,hF⟩ hs;simp only at hm hno hinv hnew hF hs;have hck:A6 k=k:=AL (by have:=hok.2.2.2;omega);rcases BH e4.k.AT hk with⟨s,hsk,hlt⟩|hke
  ·have hsm:=B2 hsk
   have hp2:p.length<2:=by
    rcases Nat.lt_or_ge p.length 2 with h'|h'
    ·exact h'
    ·rw[hsh h']at hsm;cases hsm
   obtain⟨hs0,hs1⟩:=hsw s hsm;rw[drop_cons hsk,IL]at hF
   conv=>whnf
   repeat'((first|apply st|(apply sq;intro K U)|(apply si;intro A B Y Z)|(apply Y;clear Z B Y A)|(apply U;clear U K)|apply dr|refine⟨rfl,?_⟩|refine⟨nb,?_⟩|refine ld ?_|refine Dm fun σ hs=>?_|refine oi ?_|refine ol fun x hx=>?_|(refine CS (fun hc=>?_)<;>(try rw[hc])<;>clear hc)|refine Pure.use (NM a p _ hp2) ?_|(intro nn hnn;generalize hg:BC _ nn _=σ;refine Cm hg fun hs=>?_;clear hg)|fail)<;>conv=>whnf)
   obtain rfl:x=s:=by rw[hck,Ih,hsk]at hx;exact(Option.some.inj hx).symm
   generalize nn=n7 at *;have hs2:Sat σ ([.box n7 (KO a (p++[x]))]++CI L (pre++e4::(post++new))):=fh (X:=[.box n7 (KO a (p++[x]))]) (hs.perm (.swap _ _ _));clear hs;obtain⟨o,ho⟩: ∃o,w.owner[x.toNat]? =some o:=⟨_,Cu (by omega)⟩
   have hoI:CV w x=o:=by simp only[CV,DL,ho];rfl
   obtain⟨ho1,ho2⟩:=hw.2.2 o (B2 ho);have hwp:=hw.1.1;have hcx:=hcan x hsm L;cases hnx:BA x<;>cases hcy:can x
   all_goals
    rw[hcy]at hcx;rw[V8,hnx,hcy,hoI]at hF;refine(Kf w us hinv (a:=a) (p:=p++[x]) (by simp;omega)).use (rest:=[.box n7 (KO a (p++[x]))]) (hs2.perm Pq) ?_;clear hs2;rintro r post' σ ⟨es5,e5,got5,rfl,rfl⟩ hs;have hek5:e5.k.BA=BA x:=by rw[got5.k,←hnf]
    rw[hnx]at hek5;obtain⟨newA,heA,hnA⟩:=got5.ext;obtain⟨pre5,post5,he5⟩:=List.append_of_mem got5.mem;rw[he5]at hs;replace hs:=HH (X:=[.box n7 (KO a (p++[x]))]) (hs.perm Pq);rw[hek5]at hs
    conv=>whnf
    repeat'((first|apply dr|refine rk ?_ ?_|exact fun s e=>by cases e;rfl|refine⟨nb,?_⟩|refine ld ?_|fail)<;>conv=>whnf)
    have hs2:Sat σ ([.box n7 (KO a (p++[x]))]++CI L (pre5++e5::post5)):=Ec (X:=[.box n7 (KO a (p++[x]))]) (e:=e5) (e':=e5) rfl rfl rfl (by rw[←hek5]at hs;exact hs);clear hs;refine(hcx es5 got5.inv).use (rest:=[.box n7 (KO a (p++[x]))]) (by rw[he5];exact hs2.perm Pq) ?_;clear hs2;rintro r post' σ ⟨rfl,es6,⟨new6,he6,hn6⟩,hi6,rfl⟩ hs;have he7:es6=pre5++e5::(post5++new6):=by rw[he6,he5];simp
    rw[he7]at hs;replace hs:=HH (X:=[.box n7 (KO a (p++[x]))]) (hs.perm Pq);rw[hek5]at hs
    conv=>whnf
    repeat'((first|apply st|(apply sq;intro K U)|(apply si;intro A B Y Z)|(apply Y;clear Z B Y A)|(apply U;clear U K)|apply dr|refine rk ?_ ?_|exact fun s e=>by cases e;rfl|refine⟨rfl,?_⟩|refine F6 ?_|refine ld ?_|refine E0 ?_|refine D2 ?_|refine Pure.use (HO m o hm (by omega) (by omega)) ?_|refine Pure.use (HO no o hno (by omega) (by omega)) ?_|clear U K)<;>conv=>whnf)
    simp only[Bool.not_false,Bool.not_true,Bool.and_true,Bool.and_false,LY,if_false,if_true,Option.bind_some,Option.bind_none]at hF;have e7:es6=pre++e4::(post++(new++newA++new6)):=by rw[he6,heA];simp
    have hs2:Sat σ ([.box n7 (KO a (p++[x]))]++CI L (pre5++e5::(post5++new6))):=Ec (X:=[.box n7 (KO a (p++[x]))]) (e:=e5) (e':=e5) rfl rfl rfl (by rw[←hek5]at hs;exact hs)
    have hs3:Sat σ (CI L (pre++e4::(post++(new++newA++new6)))):=by
     rw[←he7,e7]at hs2;exact hs2.less (List.sublist_append_right _ _)
    have hi7:D4 kf (pre++e4::(post++(new++newA++new6))):=by rw[←e7];exact hi6
    have hn7: ∀y∈new++newA++new6,y.k=k0:=fun y hy=>by
     rcases Fk.1 hy with hy|hy
     ·rcases Fk.1 hy with hy|hy
      ·exact hnew y hy
      ·exact hnA y hy
     ·exact hn6 y hy
    have hob:2 ^ o.toNat<18446744073709551616:=Jv (by omega)
   ·exact⟨hlt,((m,no|||2 ^ o.toNat),new++newA++new6),rfl,⟨⟨hm,KZ hno hob⟩,⟨hi7,hn7⟩,hF⟩,RQ (X:=[]) hs3⟩
   ·exact⟨hlt,((m,no),new++newA++new6),rfl,⟨⟨hm,hno⟩,⟨hi7,hn7⟩,hF⟩,RQ (X:=[]) hs3⟩
   ·rw[hF]at hOy
    exact AO ⟨_,⟨by rw[hOy];rfl,_,got.ext.trans ⟨_,by simp,hn7⟩,hi7,rfl⟩,hs3⟩
   ·exact⟨hlt,((m|||2 ^ o.toNat,no),new++newA++new6),rfl,⟨⟨KZ hm hob,hno⟩,⟨hi7,hn7⟩,hF⟩,RQ (X:=[]) hs3⟩
  ·rw [Al hke,IL]at hF
   rw[hF]at hOy;simp only at hOy
   conv=>whnf
   repeat'((first|apply st|(apply sq;intro K U)|(apply si;intro A B Y Z)|(apply Y;clear Z B Y A)|(apply U;clear U K)|refine⟨rfl,?_⟩|(refine Dh (fun hc=>?_)<;>(try rw[hc])<;>clear hc)|clear U K)<;>conv=>whnf)
   have hu:ot us:=by rw[←hus];exact HP _ _ (by have:=hw.1.1;omega)
   have hul:us.length=3+w.parents.length:=by rw[←hus];exact Er _ _
   have hwp:=hw.1.1;have hwl:IntKind.i64.wrap (3+((En w.parents).length:Nat))=3+(w.parents.length:Int):=by rw[BE,wrap64 (by omega) (by omega)]
   refine B4 w.parents.length (fun k (x:Nat)=>[(14,eI (KX 3 k)),(7,eU x)]) (fun _ _=> .own e4.vs 1 (iL e4.k.AT)::Hx L pre post e4 new) (fun k x=>x<18446744073709551616∧x=Dg us k m) m rfl ⟨hm,rfl⟩ hs ?_;clear hs;clear hke hck hk k;rintro k x σ hk ⟨hx64,hxe⟩ hs;have hc3:KX 3 k=3+k:=NV (by omega) (by omega);by_cases hlt:k<w.parents.length
   ·have hbt:Dg us (k+1) m=if x.testBit (KX 3 k).toNat then x|||us.getD (3+k) 0 else x:=by
     rw[Dg,←hxe,hc3,show(3+(k:Int)).toNat=3+k by omega]
    have hup:(List.drop ((KX 3 k).toNat*1) (List.drop 2 (wC w us)))[0]? =some (eU (us.getD (3+k) 0)):=by
     rw[dE,dE,←V6 w us (i:=3+k) (by omega)];congr 1;omega
    conv=>whnf
    repeat'((first|apply st|(apply sq;intro K U)|(apply si;intro A B Y Z)|(apply Y;clear Z B Y A)|(apply U;clear U K)|refine⟨rfl,?_⟩|refine o0 ?_|(rw[hup])|refine Pure.use (Wx x (KX 3 k) hx64 (by omega) (by omega)) ?_|(constructor<;>intro hc<;>(try rw[hc])<;>(replace hc:=bp hc)<;>(try simp(disch:=omega) only[BE,wrap64,AL]at hc)<;>try(exfalso;omega))|clear U K)<;>conv=>whnf)
    ·refine⟨hlt,x|||us.getD (3+k) 0,?_,⟨KZ hx64 (Lp hu _),by rw[hbt,if_pos (by assumption)]⟩,hs⟩
     rw[Kp hx64 (Lp hu _)];rfl
    ·exact⟨hlt,x,rfl,⟨hx64,by rw[hbt,if_neg (by rw[‹x.testBit _=false›];decide)]⟩,hs⟩
   ·have hke:k=w.parents.length:=by omega
    rw[hus,←hke,←hxe]at hOy
    have Y:bits .andNot .u64 (x:Int) 1=((HB x:Nat):Int):=by
     have:=Qs (a:=x) (b:=1);rw[c0 hx64]at this;exact this
    have hcl:HB x<18446744073709551616:=by unfold HB;omega
    have Z:bits .and .u64 ((HB x:Nat):Int) (no:Int)=((HB x&&&no:Nat):Int):=K9 hcl hno
    conv=>whnf
    repeat'((first|apply st|(apply sq;intro K U)|(apply si;intro A B Y Z)|(apply Y;clear Z B Y A)|(apply U;clear U K)|refine⟨rfl,?_⟩|(constructor<;>intro hc<;>(try rw[hc])<;>(replace hc:=bp hc)<;>(try simp(disch:=omega) only[BE,wrap64,AL]at hc)<;>try(exfalso;omega))|clear U K)<;>conv=>whnf)
    rw[Y,Z];refine AO ⟨_,⟨?_,_,got.ext.trans ⟨new,by simp,hnew⟩,hinv,rfl⟩,iY hs⟩;rw[hOy]
    have hz:(((HB x&&&no:Nat):Int)==0)=(HB x&&&no==0):=by
     rw[Lb,D1,D1];omega
    rw[←hz]
theorem oD (w:AK) (hw:CR w) {kf:Int→List Int→Kn} (hr:Ix w kf) (a:Int): ∀(d:Nat) (p:List Int),p.length+d=2→ ∀(L:Nat) (es:List C9),D4 kf es→
 Bh Tryz.prog 260 [SU w (CE w.parents) L,Eo a p] (CI L es) fun r post=>r= .ret (.b (Mz w kf a d p))∧Nq kf L es post:=by
 intro d
 induction d with
 | zero=>
   intro p hp L es h σ hs;have hint:=O8 w (CE w.parents) hr h (L:=L) (a:=a) (p:=p) (by omega);have hnone:=fun es h=>Wk w (CE w.parents) hr (es:=es) h (L:=L) (a:=a) (p:=p) (by omega)
   have hobj:=fun es h=>QO w hw hr (a:=a) (p:=p) (by omega) (fun _=>false) (by rw[hr.short a p (by omega)];intro s hs;cases hs) (L:=L) (es:=es) h
   rw[Mz];cases hI:RF kf a p<;>cases hN:Ka kf a p<;>rw[hI]at hint<;>rw[hN]at hnone
   all_goals
    refine Z9 nb ?_
    conv=>whnf
    repeat'((first|apply st|(apply sq;intro K U)|(apply si;intro A B Y Z)|(apply Y;clear Z B Y A)|(apply U;clear U K)|refine⟨nb,?_⟩|fail)<;>conv=>whnf)
    refine hint.use (rest:=[]) (by simpa using hs) ?_;clear hs;rintro r post σ ⟨rfl,es2,hx2,hi2,rfl⟩ hs;rw[Hj]at hs
    conv=>whnf
    repeat'((first|apply st|(apply sq;intro K U)|(apply si;intro A B Y Z)|(apply Y;clear Z B Y A)|(apply U;clear U K)|refine⟨nb,?_⟩|clear U K)<;>conv=>whnf)
   rotate_left 2
   ·exact AO ⟨_,⟨rfl,es2,hx2,hi2,rfl⟩,hs⟩
   ·exact AO ⟨_,⟨rfl,es2,hx2,hi2,rfl⟩,hs⟩
   all_goals
    refine(hnone es2 hi2).use (rest:=[]) (by simpa using hs) ?_;clear hs;rintro r post σ ⟨rfl,es3,hx3,hi3,rfl⟩ hs;rw[Hj]at hs
    conv=>whnf
    repeat'((first|apply st|(apply sq;intro K U)|(apply si;intro A B Y Z)|(apply Y;clear Z B Y A)|(apply U;clear U K)|refine⟨nb,?_⟩|refine E0 ?_|refine D2 ?_|clear U K)<;>conv=>whnf)
   rotate_left 1
   ·exact AO ⟨_,⟨rfl,es3,hx2.trans hx3,hi3,rfl⟩,hs⟩
   ·refine(hobj es3 hi3).use (rest:=[]) (by simpa using hs) ?_
    clear hs;rintro r post σ ⟨rfl,es4,hx4,hi4,rfl⟩ hs;rw[Hj]at hs
    conv=>whnf
    repeat'((first|apply st|(apply sq;intro K U)|(apply si;intro A B Y Z)|(apply Y;clear Z B Y A)|(apply U;clear U K)|fail)<;>conv=>whnf)
    exact AO ⟨_,⟨rfl,es4,(hx2.trans hx3).trans hx4,hi4,rfl⟩,hs⟩
 | succ d ih=>
   intro p hp L es h σ hs;have hint:=O8 w (CE w.parents) hr h (L:=L) (a:=a) (p:=p) (by omega);have hnone:=fun es h=>Wk w (CE w.parents) hr (es:=es) h (L:=L) (a:=a) (p:=p) (by omega)
   have hobj:=fun es h=>QO w hw hr (a:=a) (p:=p) (by omega) (fun s=>Mz w kf a d (p++[s])) (fun s hs L es h=>ih (p++[s]) (by simp;omega) L es h) (L:=L) (es:=es) h
   rw[Mz];cases hI:RF kf a p<;>cases hN:Ka kf a p<;>rw[hI]at hint<;>rw[hN]at hnone
   all_goals
    refine Z9 nb ?_
    conv=>whnf
    repeat'((first|apply st|(apply sq;intro K U)|(apply si;intro A B Y Z)|(apply Y;clear Z B Y A)|(apply U;clear U K)|refine⟨nb,?_⟩|fail)<;>conv=>whnf)
    refine hint.use (rest:=[]) (by simpa using hs) ?_;clear hs;rintro r post σ ⟨rfl,es2,hx2,hi2,rfl⟩ hs;rw[Hj]at hs
    conv=>whnf
    repeat'((first|apply st|(apply sq;intro K U)|(apply si;intro A B Y Z)|(apply Y;clear Z B Y A)|(apply U;clear U K)|refine⟨nb,?_⟩|clear U K)<;>conv=>whnf)
   rotate_left 2
   ·exact AO ⟨_,⟨rfl,es2,hx2,hi2,rfl⟩,hs⟩
   ·exact AO ⟨_,⟨rfl,es2,hx2,hi2,rfl⟩,hs⟩
   all_goals
    refine(hnone es2 hi2).use (rest:=[]) (by simpa using hs) ?_;clear hs;rintro r post σ ⟨rfl,es3,hx3,hi3,rfl⟩ hs;rw[Hj]at hs
    conv=>whnf
    repeat'((first|apply st|(apply sq;intro K U)|(apply si;intro A B Y Z)|(apply Y;clear Z B Y A)|(apply U;clear U K)|refine⟨nb,?_⟩|refine E0 ?_|refine D2 ?_|clear U K)<;>conv=>whnf)
   rotate_left 1
   ·exact AO ⟨_,⟨rfl,es3,hx2.trans hx3,hi3,rfl⟩,hs⟩
   ·refine(hobj es3 hi3).use (rest:=[]) (by simpa using hs) ?_
    clear hs;rintro r post σ ⟨rfl,es4,hx4,hi4,rfl⟩ hs;rw[Hj]at hs
    conv=>whnf
    repeat'((first|apply st|(apply sq;intro K U)|(apply si;intro A B Y Z)|(apply Y;clear Z B Y A)|(apply U;clear U K)|fail)<;>conv=>whnf)
    exact AO ⟨_,⟨rfl,es4,(hx2.trans hx3).trans hx4,hi4,rfl⟩,hs⟩
abbrev gz:V:= .KT 257 (.a [])
theorem bB (w:AK) (hw:CR w) {kf:Int→List Int→Kn} (hr:Ix w kf) {L:Nat} {es:List C9} (h:D4 kf es) :
 Bh Tryz.prog 231 [SU w (CE w.parents) L] (CI L es) fun r post=>r=(if ZG w kf then .ret (.t [])else .C8 gz)∧post= []:=by
 intro σ hs;refine lN nb ?_
 conv=>whnf
 repeat'((first|apply st|(apply sq;intro K U)|(apply si;intro A B Y Z)|(apply Y;clear Z B Y A)|(apply U;clear U K)|fail)<;>conv=>whnf)
 refine B4 3 (fun k (x:List C9)=>[(3,eI (A6 k))]) (fun k x=>CI L x) (fun k x=>D4 kf x∧ZG w kf=((Bu 3).drop k).all fun a=>Mz w kf a 2 []) es rfl ⟨h,rfl⟩ hs ?_;clear hs h;rintro k es σ hk ⟨h,hn⟩ hs;have hck:A6 k=k:=AL (by simp only[Ad];omega);have hl3:(Bu 3).length=3:=rfl;rcases BH (Bu 3) hk with⟨a,ha,hlt⟩|hke
 ·rw[drop_cons ha,NA]at hn
  have hak:a=A6 k:=by
   rw[hck];simp only[Bu,LZ,List.getElem?_range (show k<3 from hlt),UW]at ha;exact(Option.some.inj ha).symm
  subst hak;have hcan:=oD w hw hr (A6 k) 2 [] rfl L es h;cases hC:Mz w kf (A6 k) 2 []<;>rw[hC]at hcan hn
  all_goals
   conv=>whnf
   repeat'((first|apply st|(apply sq;intro K U)|(apply si;intro A B Y Z)|(apply Y;clear Z B Y A)|(apply U;clear U K)|refine⟨rfl,?_⟩|(constructor<;>intro hc<;>(try rw[hc])<;>(replace hc:=bp hc)<;>(try simp(disch:=omega) only[BE,wrap64,AL]at hc)<;>try(exfalso;omega))|fail)<;>conv=>whnf)
   refine hcan.use (rest:=[]) (by simpa using hs) ?_;clear hs;rintro r post σ ⟨rfl,es2,hx2,hi2,rfl⟩ hs;rw[Hj]at hs
   conv=>whnf
   repeat'((first|apply st|(apply si;intro A B Y Z)|(apply Y;clear Z B Y A)|(refine Z _ _ _ ?_;clear Z B Y A)|(apply U;clear U K)|refine⟨rfl,?_⟩|refine E0 ?_|refine D2 ?_|clear U K)<;>conv=>whnf)
  ·exact DR ⟨_,⟨by rw[hn];rfl,rfl⟩,hs.less (MR _)⟩
  ·exact⟨by omega,es2,rfl,⟨hi2,by simpa using hn⟩,hs⟩
 ·rw[Al hke]at hn
  conv=>whnf
  repeat'((first|apply st|(apply sq;intro K U)|(apply si;intro A B Y Z)|(apply Y;clear Z B Y A)|(apply U;clear U K)|refine⟨rfl,?_⟩|(constructor<;>intro hc<;>(try rw[hc])<;>(replace hc:=bp hc)<;>(try simp(disch:=omega) only[BE,wrap64,AL]at hc)<;>try(exfalso;omega))|clear U K)<;>conv=>whnf)
  exact AO ⟨_,⟨by rw[hn];rfl,rfl⟩,hs.less (MR _)⟩
theorem XT {w:AK} {ls:List Fact} (hw:w.parents.length≤60) (h: ∀x∈ls,Ib w x):Uz ls:=by
 intro l hl;obtain⟨-,hc,hsm,hsh⟩:=I2 h;obtain⟨-,hn,hlf⟩:=HT (h l hl);exact⟨Fz hlf,hsh l hl,fun ho=>by have:=hc l hl ho;omega,hsm l hl⟩
theorem jt {ls:List Fact} (h:Ju ls) (a:Int) (p:List Int): -1000000000≤(kn ls a p).low∧(kn ls a p).low≤1000000000:=by
 have key: ∀(ls:List Fact) (k:Kn),Ju ls→(-1000000000≤k.low∧k.low≤1000000000)→ -1000000000≤(ls.foldl (DK a p) k).low∧(ls.foldl (DK a p) k).low≤1000000000:=by
  intro ls
  induction ls with
  | nil=>intro k _ h;exact h
  | cons l r ih=>
    intro k hs hk;refine ih _ (fun x hx=>hs x (.tail _ hx)) ?_;have hn:=hs l (.head _);unfold DK Ct Ds dI
    repeat' split
    all_goals first
     | exact hk
     | exact hn
     | (simp only;exact hk)
     | (simp only;exact hn)
 exact key ls k0 h ⟨by decide,by decide⟩
theorem Wb {w:AK} {ls:List Fact} (h: ∀x∈ls,Ib w x):Hn w.owner.length ls:=by
 intro l hl s hs;obtain⟨-,hn,-⟩:=HT (h l hl);rw[Cg,BZ]at hn;have:=hn.1;simp only[DC,E3,BZ,Em,HF,CX]at this;exact this.2.2.2.2.1.1 s hs
theorem eL {w:AK} (hw:CR w) {ls:List Fact} (h: ∀x∈ls,Ib w x) (hlen:ls.length<900):Ix w (kn ls):=by
 have hadd:=XT (by have:=hw.1.1;omega) h;obtain⟨-,-,hsm,hsh⟩:=I2 h;have hp:=Wb h;refine⟨fun a p=>?_,jt hsm,fun a p hpl=>?_,fun a p s hs=>?_⟩
 ·obtain⟨h1,h2,h3,h4⟩:=Zz hadd a p
  exact⟨h1,h2,by omega,by omega⟩
 ·rw[K3 hp]
  exact L6 hsh hpl
 ·rw[K3 hp]at hs
  exact JM hs
theorem iy {w:AK} (hw:CR w) {ls:List Fact} (h: ∀x∈ls,Ib w x):ZG w (kn ls)=Gs w ls:=by
 obtain⟨-,hc,-,-⟩:=I2 h;refine iz ?_ (fun s h0 h1=>?_) (by have:=hw.1.1;omega) (fun l hl ho=>by have:=hc l hl ho;omega) (Wb h)
 ·exact JP hw.1
 ·obtain⟨o,ho⟩: ∃o,w.owner[s.toNat]? =some o:=⟨_,Cu (by omega)⟩
  have hoI:CV w s=o:=by simp only[CV,DL,ho];rfl
  rw[hoI];exact hw.2.2 o (B2 ho)
theorem fY {σ:AH} {n:Nat} {x:V} {rest:List At} (hs:Sat σ (.box n [x]::rest)) {Q:AH→Prop} (hq: ∀σ',Sat σ' (.box n [.b false]::rest)→Q σ'):M5 Tryz.prog 229 [.p n 0] (some gz) σ Q:=by
 refine XG nb ?_
 conv=>whnf
 repeat'((first|apply st|(apply sq;intro K U)|(apply si;intro A B Y Z)|(apply Y;clear Z B Y A)|(apply U;clear U K)|refine FB fun σ hs=>?_|refine Dm fun σ hs=>?_|refine iQ rfl ?_|(intro nn hnn;generalize hg:BC _ nn _=σ;refine Cm hg fun hs=>?_;clear hg)|fail)<;>conv=>whnf)
 exact hq _ (hs.less (Jn _ _))
theorem fZ {σ:AH} {n:Nat} {x:V} {rest:List At} (hs:Sat σ (.box n [x]::rest)) {Q:AH→Prop} (hq: ∀σ',Sat σ' (.box n [x]::rest)→Q σ'):M5 Tryz.prog 229 [.p n 0] none σ Q:=by
 refine XG nb ?_
 conv=>whnf
 repeat'((first|apply st|(apply sq;intro K U)|(apply si;intro A B Y Z)|(apply Y;clear Z B Y A)|(apply U;clear U K)|refine⟨rfl,?_⟩|refine Dm fun σ hs=>?_|(intro nn hnn;generalize hg:BC _ nn _=σ;refine Cm hg fun hs=>?_;clear hg)|fail)<;>conv=>whnf)
 exact hq _ (hs.less (Jn _ _))
attribute [local irreducible] M5
theorem Tp (w:AK) (hw:CR w) (ls:List Fact) (b:Bool) (hl: ∀x∈ls,Ib w x) (hlen:ls.length<900):Pure Tryz.prog 183 [.rp (wC w (CE w.parents)),.l (FF ls) b] (.b (Gs w ls)):=by
 refine Pure.of ?_;refine mG nb ?_;have hs:=Sn
 conv=>whnf
 repeat'((first|(apply sq;intro K U)|(apply si;intro A B Y Z)|(apply Y;clear Z B Y A)|(apply U;clear U K)|(intro nn hnn;generalize hg:BC _ nn _=σ;refine Cm hg fun hs=>?_;clear hg)|fail)<;>conv=>whnf)
 refine(bH w (CE w.parents) ls b (XT (by have:=hw.1.1;omega) hl) hlen).use (rest:=[.box nn [.b false]]) (by simpa using hs) ?_;clear hs;rintro r post σ ⟨L,es,rfl,hinv,rfl⟩ hs;have hwh:=bB w hw (eL hw hl hlen) hinv (L:=L);rw[iy hw hl]at hwh;cases ht:Gs w ls<;>rw[ht]at hwh
 all_goals
  conv=>whnf
  refine hwh.use (rest:=[.box nn [.b false]]) hs ?_;clear hs;rintro r post σ ⟨rfl,rfl⟩ hs
  conv=>whnf
  repeat'((first|apply st|(apply sq;intro K U)|(apply si;intro A B Y Z)|(apply Y;clear Z B Y A)|(refine Z _ _ _ ?_;clear Z B Y A)|(apply U;clear U K)|refine FB fun σ hs=>?_|clear U K)<;>conv=>whnf)
 ·refine fY (rest:=[]) hs fun σ hs=>?_
  conv=>whnf
  repeat'((first|refine ld ?_|fail)<;>conv=>whnf)
  exact AO (by rw[ht];rfl)
 ·refine fZ (rest:=[]) (x:= .b true) hs fun σ hs=>?_
  conv=>whnf
  repeat'((first|refine ld ?_|fail)<;>conv=>whnf)
  exact AO (by rw[ht];rfl)
end Go.Gl
