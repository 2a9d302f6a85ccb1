import Derived.Test.YtegbmnmnaijioaaGreatProg
import Derived.KernelRfl
import Derived.Test.YtegbmnmnaijioaaGreatL6
import Derived.Test.YtegbmnmnaijioaaGreatL7
import Derived.Test.YtegbmnmnaijioaaGreatL10
import Derived.Test.YtegbmnmnaijioaaGreatL11
import Derived.Test.YtegbmnmnaijioaaGreatL12
import Derived.Test.YtegbmnmnaijioaaGreatL13
set_option linter.all false
set_option linter.defProp false
noncomputable section
namespace Go.Gl
open Go.Proofs
def DR (f:Fact) (c:Bool) (j:Nat) (a:Int) (p:List Int) (k:Kn):Kn:=
 if f.arg=a/\Be f.path p=true then(if p.length<j then jU (Bv k c) (f.path.getD p.length 0)else if p.length=j then Bv k c else k)else k
def lk (f:Fact) (c:Bool) (a:Int) (p:List Int) (k:Kn):DR f c 0 a p k=if a=f.arg/\p= []then Bv k c else k:=by
 unfold DR;by_cases h:f.arg=a/\Be f.path p=true
 .rw[if_pos h,if_neg (by omega)]
  by_cases hp:p.length=0
  .rw[if_pos hp,if_pos ⟨h.1.symm,Zm.1 hp⟩]
  .rw[if_neg hp,if_neg (fun h'=>hp (by rw[h'.2];rfl))]
 .rw[if_neg h,if_neg]
  rintro⟨rfl,rfl⟩;exact h ⟨rfl,Bw.2 ⟨f.path,by simp⟩⟩
def ln (f:Fact) (c:Bool) {j:Nat} (hj:j<f.path.length) (a:Int) (p:List Int) (k:Kn):DR f c (j+1) a p k=if a=f.arg/\p=f.path.take (j+1)then Bv (DR f c j a p k) c else if a=f.arg/\p=f.path.take j then jU (DR f c j a p k) (f.path.getD j 0)else DR f c j a p k:=by
 unfold DR;by_cases h:f.arg=a/\Be f.path p=true
 .rw [if_pos h,if_pos h]
  obtain⟨h1,h2⟩:=h;rw[Gb]at h2;obtain⟨h2,h3⟩:=h2;have l1:p=f.path.take (j+1)↔p.length=j+1:=⟨fun e=>by rw[e,NT];omega,fun e=>by rw[e]at h3;exact h3⟩
  have l2:p=f.path.take j↔p.length=j:=⟨fun e=>by rw[e,NT];omega,fun e=>by rw[e]at h3;exact h3⟩
  have n1:p.length≠j+1-> ¬(a=f.arg/\p=f.path.take (j+1)):=fun h h'=>h (l1.1 h'.2)
  have n2:p.length≠j-> ¬(a=f.arg/\p=f.path.take j):=fun h h'=>h (l2.1 h'.2)
  by_cases q1:p.length<j
  .rw[if_pos (show p.length<j+1 by omega),if_neg (n1 (by omega)),if_neg (n2 (by omega)),if_pos q1]
  .by_cases q2:p.length=j
   .rw[if_pos (show p.length<j+1 by omega),if_neg (n1 (by omega)),if_pos (show a=f.arg/\p=f.path.take j from⟨h1.symm,l2.2 q2⟩),if_neg q1,if_pos q2,q2]
   .by_cases q3:p.length=j+1
    .rw[if_neg (show¬p.length<j+1 by omega),if_pos q3,if_pos (show a=f.arg/\p=f.path.take (j+1) from⟨h1.symm,l1.2 q3⟩),if_neg q1,if_neg q2]
    .rw[if_neg (show¬p.length<j+1 by omega),if_neg q3,if_neg (n1 q3),if_neg (n2 q2),if_neg q1,if_neg q2]
 .rw[if_neg h,if_neg h,if_neg,if_neg]
  .rintro⟨rfl,rfl⟩
   exact h ⟨rfl,Bw.2 ⟨f.path.drop j,by rw[List.take_append_drop]⟩⟩
  .rintro⟨rfl,rfl⟩
   exact h ⟨rfl,Bw.2 ⟨f.path.drop (j+1),by rw[List.take_append_drop]⟩⟩
def qs (a : Int) (p:List Int) (k:Kn) (l:Fact):HC a p k l=if a=(Ai l).1.arg/\p=(Ai l).1.path then Bt (DR (Ai l).1 (Ai l).2 (Ai l).1.path.length a p k) (Ai l).1 (Ai l).2 else DR (Ai l).1 (Ai l).2 (Ai l).1.path.length a p k:=by
 unfold HC DR;by_cases h:(Ai l).1.arg=a/\Be (Ai l).1.path p=true
 .rw [if_pos h,if_pos h]
  obtain⟨h1,h2⟩:=h;rw[Gb]at h2;obtain⟨h2,h3⟩:=h2;by_cases hp:(Ai l).1.path=p
  .rw[if_pos hp,if_pos ⟨h1.symm,hp.symm⟩,if_neg (by rw[hp];omega),if_pos (by rw[hp])]
  .have hne:p.length<(Ai l).1.path.length:=by
    rcases Nat.lt_or_ge p.length (Ai l).1.path.length with h'|h'
    .exact h'
    .rw[List.take_of_length_le h']at h3
     exact absurd h3.symm hp
   rw[if_neg hp,if_neg (fun h=>hp h.2.symm),if_pos hne]
 .rw[if_neg h,if_neg h,if_neg]
  rintro⟨rfl,rfl⟩;exact h ⟨rfl,Ix _⟩
def lZ (ls:List Fact) (l:Fact) (a:Int) (p:List Int):kg (ls++[l]) a p=HC a p (kg ls a p) l:=by
 rw[kg,List.foldl_append];rfl
def Vn (l:List Int) (s:Int):(SL l s).length<=l.length+1:=by
 unfold SL;split
 .omega
 .simp
def ez (a:Int) (p:List Int): ∀(ls:List Fact) (k:Kn),(ls.foldl (HC a p) k).no.length<=k.no.length+ls.length/\(ls.foldl (HC a p) k).AI.length<=k.AI.length+ls.length
 | [],k=>⟨IN _,IN _⟩
 | l ::r,k=>by
   obtain⟨h1,h2⟩:=ez a p r (HC a p k l)
   have h3:(HC a p k l).no.length<=k.no.length+1/\(HC a p k l).AI.length<=k.AI.length+1:=by
    unfold HC
    repeat' split
    .have:=P2 (Bv k (Ai l).2) (Ai l).1 (Ai l).2
     rw[Hc];simp only[Bv]at this ⊢;omega
    .have:=Vn k.AI ((Ai l).1.path.getD p.length 0)
     simp only[jU,Bv]at this ⊢;omega
    .omega
   rw[List.foldl_cons,Lz];omega
def la {n:Nat} {ls:List Fact} (h:GK n ls) (a:Int) (p:List Int):(kg ls a p).BJ<2 ^ n/\(kg ls a p).DU<2 ^ n:=by
 obtain⟨-,-,-,c4,c5,-⟩:=JA (TD ls a p);have hc2:GK n (ls.filter (Jd a p)):=fun l hl=>h l (Jc.1 hl).1
 rw[c4,c5];exact⟨K1 hc2,ed hc2⟩
abbrev ft:AX:=(.seq [2,3] (.Cs [⟨(some 2),.Nd (.t 0),none⟩,
 ⟨(some 3),.Nd (.t 1),none⟩,
 ⟨(some 4),.mv (.c .pn),none⟩])
 (.seq [2,3,5,6] (.Cs [⟨(some 8),.Fc 1 (.t 2),none⟩,
  ⟨(some 9),.load none (.t 8),none⟩,
  ⟨(some 10),.load (some 4) (.t 3),none⟩,
  ⟨(some 11),.lookup (.a [.i64,.i64,.i64,.i64]) .pn true (.t 9) (.t 10),none⟩,
  ⟨(some 7),.mv (.t 11),none⟩,
  ⟨(some 12),.extract 0 (.t 7),none⟩,
  ⟨(some 13),.extract 1 (.t 7),none⟩,
  ⟨(some 5),.mv (.t 12),none⟩,
  ⟨(some 6),.mv (.t 13),none⟩])
 (.seq [5] (.seq [2,3,5,15] (.Cs [⟨(some 14),.mv (.t 6),none⟩,
  ⟨(some 15),.not (.t 14),none⟩])
 (.cond (.t 15)
 (.seq [2,3,5] (.Cs [⟨(some 16),.build [(.i .u64 0),(.i .u64 0),(.i .i64 0),(.i .i64 0),(.l [] true),(.b false),(.b false),(.l [] true)] [(2,1,(.c (.i .i64 (-1000000000)))),(3,1,(.c (.i .i64 1000000000)))],none⟩,
  ⟨(some 17),.box (.t 16),none⟩,
  ⟨(some 5),.mv (.t 17),none⟩])
 (.Cs [⟨(some 18),.Fc 1 (.t 2),none⟩,
  ⟨(some 19),.load none (.t 18),none⟩,
  ⟨(some 20),.load (some 4) (.t 3),none⟩,
  ⟨(some 21),.mv (.t 5),none⟩,
  ⟨none,.D8 (.a [.i64,.i64,.i64,.i64]) (.t 19) (.t 20) (.t 21),none⟩]))
 .skip))
 (.seq [4] (.Cs [⟨(some 22),.mv (.t 5),none⟩,
  ⟨(some 4),.mv (.t 22),none⟩])
 .ret))))
def kV:Tryz.f213.body.bind (res Tryz.prog Tryz.f213.ntmps [] [2,3])=some (erase ft):=by kernel_rfl
def ma {args:List V} (hn:args.length<=23) {σ:AH} {Q:R->AH->Prop} (h:W Tryz.prog ft (dR [4] Q) (A3 0 args) σ):As Tryz.prog 213 args σ Q:=
 KT Tryz.func213 (by kernel_rfl) kV rfl hn (jc h)
end Go.Gl
namespace Go.Gl
open Go.Proofs
attribute [local irreducible] As Am Ac AQ AM Ab AP AR AL Aa AN AO Ao Ax Sat AW Au Ad W
def nR (s c:Nat) (hs0:s<18446744073709551616) (hc:c<64):Pure Tryz.prog 212 [eU s,eI c] (eU (s|||2 ^ c)):=by
 refine sx kZ ?_;have hs:=Sn
 conv=>whnf
 repeat'((first|(apply sq;intro K U)|(apply si;intro A B Y Z)|(apply Y;clear Z B Y A)|(apply U;clear U K)|fail)<;>conv=>whnf)
 refine⟨Int.natCast_nonneg _,?_⟩
 conv=>whnf
 repeat'((first|apply st|(apply Y;clear Z B Y A)|(apply U;clear U K)|refine⟨rfl,?_⟩|fail)<;>conv=>whnf)
 exact AS (by rw[Hd,Sy hc,GX hs0 (F1 hc)])
def pD (s c:Nat) (hs0:s<18446744073709551616) (hc:c<64):Pure Tryz.prog 159 [eU s,eI c] (.b (s.testBit c)):=by
 refine tU kZ ?_;have hs:=Sn
 conv=>whnf
 repeat'((first|(apply sq;intro K U)|(apply si;intro A B Y Z)|(apply Y;clear Z B Y A)|(apply U;clear U K)|fail)<;>conv=>whnf)
 refine⟨Int.natCast_nonneg _,?_⟩
 conv=>whnf
 repeat'((first|apply st|(apply Y;clear Z B Y A)|(apply U;clear U K)|refine⟨rfl,?_⟩|fail)<;>conv=>whnf)
 refine AS ?_;rw[Hd,Sx hc];have h1:s >>> c<18446744073709551616:=by rw[Nat.shiftRight_eq_div_pow];exact Nat.lt_of_le_of_lt (Nat.div_le_self _ _) hs0
 have h2:bits .and .u64 ((s >>> c:Nat):Int) 1=((s >>> c&&&1:Nat):Int):=FN h1 (show 1<_ by decide);rw[h2];simp only[Nat.testBit,Nat.and_comm 1];congr 1;rcases Nat.mod_two_eq_zero_or_one (s >>> c)with h|h<;>simp[Nat.and_one_is_mod,h]
def MA (s:Nat) (c:Int) (hs0:s<18446744073709551616) (h0:0<=c) (hc:c<64):Pure Tryz.prog 212 [eU s,eI c] (eU (s|||2 ^ c.toNat)):=by
 have:=nR s c.toNat hs0 (by omega);rw[Int.toNat_of_nonneg h0]at this;exact this
def YT (s:Nat) (c:Int) (hs0:s<18446744073709551616) (h0:0<=c) (hc:c<64):Pure Tryz.prog 159 [eU s,eI c] (.b (s.testBit c.toNat)):=by
 have:=pD s c.toNat hs0 (by omega);rw[Int.toNat_of_nonneg h0]at this;exact this
abbrev gW (w:AJ) (us:List Nat):List V:=[.l (JY w.parents) false,.l (iL w.owner) false,.l (us.map fun u=>[eU u]) false]
abbrev gv (w:AJ) (us:List Nat) (L:Nat):List V:=[.rp (gW w us),.m L]
abbrev dj (b:Nat) (vn vs:V) (k:Kn):List At:=[.box b [eU k.BJ,eU k.DU,eI k.low,eI k.high,vn,.b k.whole,.b k.Af,vs],.own vn 1 (iL k.no),.own vs 1 (iL k.AI)]
abbrev UX (e:Bx):List At:=dj e.b e.vn e.vs e.k
def Bk (L:Nat) (es:List Bx):List At:= .map L (R3 es)::es.flatMap UX
def H4 (L:Nat) (es pre post:List Bx):List At:= .map L (R3 es)::(pre++post).flatMap UX
def VK (L:Nat) (pre post:List Bx) (e:Bx):(Bk L (pre++e::post)).Perm (UX e++H4 L (pre++e::post) pre post):=by
 unfold Bk H4;rw[List.flatMap_append,List.flatMap_cons,List.flatMap_append];refine List.Perm.trans ?_ (List.perm_middle.symm);refine List.Perm.cons _ ?_;rw[<-P7,<-P7];exact List.Perm.append_right _ Np
def TU {L:Nat} {pre post:List Bx} {e e':Bx} (h1:e'.a=e.a) (h2:e'.p=e.p) (h3:e'.b=e.b):H4 L (pre++e'::post) pre post=H4 L (pre++e::post) pre post:=by
 rw[H4,H4,Pj h1 h2 h3]
def IZ {σ:AH} {X:List At} {L:Nat} {pre post:List Bx} {e:Bx} (h:Sat σ (X++Bk L (pre++e::post))):Sat σ (.box e.b [eU e.k.BJ,eU e.k.DU,eI e.k.low,eI e.k.high,e.vn,.b e.k.whole,.b e.k.Af,e.vs]:: .own e.vn 1 (iL e.k.no):: .own e.vs 1 (iL e.k.AI)::(X++H4 L (pre++e::post) pre post)):=by
 have h2:Sat σ (UX e++(X++H4 L (pre++e::post) pre post)):=h.perm ((List.Perm.append_left X (VK L pre post e)).trans (by rw[<-P7,<-P7];exact Np.append_right _));exact h2
def DO {σ:AH} {X:List At} {L:Nat} {pre post:List Bx} {e e':Bx} (h1:e'.a=e.a) (h2:e'.p=e.p) (h3:e'.b=e.b) (h:Sat σ (UX e'++(X++H4 L (pre++e::post) pre post))):Sat σ (X++Bk L (pre++e'::post)):=by
 rw[<-TU h1 h2 h3]at h;exact h.perm ((List.Perm.append_left X (VK L pre post e')).trans (by rw[<-P7,<-P7];exact Np.append_right _)).symm
def jR (w:AJ) (us:List Nat) {kf:Int->List Int->Kn} {L:Nat} {es:List Bx} (h:Br kf es) {a:Int} {p:List Int} (hp:p.length<=2) :
    BK Tryz.prog 213 [.a (gv w us L),B6 a p] (Bk L es) fun r post=> ∃es' e,jv kf es es' a p e/\r= .ret (.p e.b 0)/\post=Bk L es':=by
 intro σ hs;refine ma kZ ?_;unfold Bk at hs;rcases dY a p es with hn|⟨pre,e,post,rfl,he,hpre⟩
 .have hf:=O4 hp h.len hn
  conv=>whnf
  repeat'((first|apply st|(apply sq;intro K U)|(apply si;intro A B Y Z)|(apply Y;clear Z B Y A)|(apply U;clear U K)|refine⟨kZ,?_⟩|refine FX ?_|refine MI hs 0 rfl rfl (HO _) hf ?_|refine Hp hs 1 rfl rfl (HO _) fun σ hs=>?_|(intro nn hnn;generalize hg:A6 _ nn _=σ;refine Ci hg fun hs=>?_;clear hg)|fail)<;>conv=>whnf)
  simp only[List.set_cons_succ,List.set_cons_zero]at hs;change Sat σ (_:: .map L (DA (B6 a p) (.p nn 0) (R3 es))::_)at hs;rw[W7 hp nn (.l [] true) (.l [] true) k0 h.len hn]at hs;have hs2:=DQ (DQ hs 1) 1;refine AK ⟨_,⟨es++[⟨a,p,nn,.l [] true,.l [] true,k0⟩],⟨a,p,nn,.l [] true,.l [] true,k0⟩,⟨h.add hp hn _ _ _,⟨_,rfl,by simp⟩,by simp,by simp[Bx.is]⟩,rfl,rfl⟩,?_⟩;unfold Bk;rw[List.flatMap_append,List.flatMap_cons,List.flatMap_nil,Ep];refine hs2.perm ((List.perm_middle (l₁:=[_,_,_])).trans (.cons _ (Np.trans (List.Perm.append_left _ (List.reverse_perm _).symm))))
 .have hf:=O3 hp he h.len hpre
  conv=>whnf
  repeat'((first|apply st|(apply sq;intro K U)|(apply si;intro A B Y Z)|(apply Y;clear Z B Y A)|(apply U;clear U K)|refine⟨kZ,?_⟩|refine Es ?_|refine MI hs 0 rfl rfl (HO _) hf ?_|fail)<;>conv=>whnf)
  exact AK ⟨_,⟨_,e,⟨h,.refl _,by simp,he⟩,rfl,rfl⟩,hs⟩
def LB (a:Int) (p:List Int) (s:Int) (hp:p.length<2):Pure Tryz.prog 214 [B6 a p,eI s] (B6 a (p++[s])):=by
 refine Pure.of ?_;refine sw kZ ?_;have hs:=Sn
 match p,hp with
 | [],_=>
   conv=>whnf
   repeat'((first|apply st|(apply sq;intro K U)|(apply si;intro A B Y Z)|(apply Y;clear Z B Y A)|(apply U;clear U K)|refine⟨rfl,?_⟩|refine⟨kZ,?_⟩|refine ld ?_|refine EK fun σ hs=>?_|refine Di fun σ hs=>?_|(constructor<;>intro hc<;>(try rw[hc])<;>(replace hc:=bp hc))|(intro nn hnn;generalize hg:A6 _ nn _=σ;refine Ci hg fun hs=>?_;clear hg)|fail)<;>conv=>whnf)
   all_goals first
    | exact AK rfl
    | (exfalso;simp at hc;done)
 | [x],_=>
   conv=>whnf
   repeat'((first|apply st|(apply sq;intro K U)|(apply si;intro A B Y Z)|(apply Y;clear Z B Y A)|(apply U;clear U K)|refine⟨rfl,?_⟩|refine⟨kZ,?_⟩|refine ld ?_|refine EK fun σ hs=>?_|refine Di fun σ hs=>?_|(constructor<;>intro hc<;>(try rw[hc])<;>(replace hc:=bp hc))|(intro nn hnn;generalize hg:A6 _ nn _=σ;refine Ci hg fun hs=>?_;clear hg)|fail)<;>conv=>whnf)
   all_goals first
    | exact AK rfl
    | (exfalso;simp at hc;done)
set_option maxHeartbeats 1000000 in
def vI {b:Nat} {vn vs:V} {k:Kn} (f:Fact) (c:Bool) (hl:f.op=2\/f.op=3\/f.op=4) (hc:f.op=2->0<=f.cls/\f.cls<64) (hm:k.BJ<18446744073709551616) (hn:k.DU<18446744073709551616) (hno:k.no.length<1000000) (hN: -1000000000<=f.n/\f.n<=1000000000) :
    BK Tryz.prog 215 [.p b 0,.a (xF f++[.b c])] (dj b vn vs k) fun r post=>r= .ret (.t [])/\ ∃vn',post=dj b vn' vs (Bt k f c):=by
 intro σ hs;have hM:=Mx;refine su kZ ?_;rw[show xF f++[V.b c]= [eI f.op,eI f.arg,.l (iL f.path) false,eI f.cls,eI f.n,.l (f.kids.map F0) false,.b c] from rfl];have hw:IntKind.i64.wrap (f.n - 1)=f.n - 1:=wrap64 (by omega) (by omega);cases c<;>rcases hl with h2|h3|h4
 .have hE:Bt k f false= {k with BJ:=k.BJ|||2 ^ f.cls.toNat}:=by rw[Bt,if_pos h2,if_neg Bool.false_ne_true]
  rw[hE]
  conv=>whnf
  repeat'((first|apply st|(apply sq;intro K U)|(apply si;intro A B Y Z)|(apply Y;clear Z B Y A)|(apply U;clear U K)|apply dr|refine⟨rfl,?_⟩|refine ld ?_|refine EK fun σ hs=>?_|refine Es ?_|refine Pure.use (MA _ _ hm (by omega) (by omega)) ?_|(constructor<;>intro hc<;>(try rw[hc])<;>(replace hc:=bp hc)<;>try(exfalso;omega))|fail)<;>conv=>whnf)
  exact AK ⟨_,⟨rfl,vn,rfl⟩,hs⟩
 .have hE:Bt k f false= {k with high:=if f.n - 1<k.high then f.n - 1 else k.high,whole:=true}:=by rw[Bt,if_neg (by omega),if_pos h3,if_neg Bool.false_ne_true]
  rw[hE]
  conv=>whnf
  repeat'((first|apply st|(apply sq;intro K U)|(apply si;intro A B Y Z)|(apply Y;clear Z B Y A)|(apply U;clear U K)|refine⟨rfl,?_⟩|refine ld ?_|refine EK fun σ hs=>?_|(constructor<;>intro hc<;>(try rw[hc])<;>(replace hc:=bp hc)<;>try(exfalso;omega))|fail)<;>conv=>whnf)
  rw[hw]at hs;exact AK ⟨_,⟨rfl,vn,rfl⟩,hs⟩
 .have hE:Bt k f false= {k with low:=if f.n > k.low then f.n else k.low,high:=if f.n<k.high then f.n else k.high,whole:=true}:=by rw[Bt,if_neg (by omega),if_neg (by omega),if_neg Bool.false_ne_true]
  rw[hE]
  conv=>whnf
  repeat'((first|apply st|(apply sq;intro K U)|(apply si;intro A B Y Z)|(apply Y;clear Z B Y A)|(apply U;clear U K)|apply dr|refine⟨rfl,?_⟩|refine ld ?_|refine EK fun σ hs=>?_|refine Es ?_|(constructor<;>intro hc<;>(try rw[hc])<;>(replace hc:=bp hc)<;>try(exfalso;omega))|fail)<;>conv=>whnf)
  exact AK ⟨_,⟨rfl,vn,rfl⟩,hs⟩
 .have hE:Bt k f true= {k with DU:=k.DU|||2 ^ f.cls.toNat}:=by rw[Bt,if_pos h2,if_pos rfl]
  rw[hE]
  conv=>whnf
  repeat'((first|apply st|(apply sq;intro K U)|(apply si;intro A B Y Z)|(apply Y;clear Z B Y A)|(apply U;clear U K)|apply dr|refine⟨rfl,?_⟩|refine ld ?_|refine EK fun σ hs=>?_|refine FX ?_|refine Pure.use (MA _ _ hn (by omega) (by omega)) ?_|(constructor<;>intro hc<;>(try rw[hc])<;>(replace hc:=bp hc)<;>try(exfalso;omega))|fail)<;>conv=>whnf)
  exact AK ⟨_,⟨rfl,vn,rfl⟩,hs⟩
 .have hE:Bt k f true= {k with low:=if f.n > k.low then f.n else k.low}:=by rw[Bt,if_neg (by omega),if_pos h3,if_pos rfl]
  rw[hE]
  conv=>whnf
  repeat'((first|apply st|(apply sq;intro K U)|(apply si;intro A B Y Z)|(apply Y;clear Z B Y A)|(apply U;clear U K)|refine⟨rfl,?_⟩|refine ld ?_|refine EK fun σ hs=>?_|(constructor<;>intro hc<;>(try rw[hc])<;>(replace hc:=bp hc)<;>try(exfalso;omega))|fail)<;>conv=>whnf)
  exact AK ⟨_,⟨rfl,vn,rfl⟩,hs⟩
 .have hE:Bt k f true= {k with no:=k.no++[f.n]}:=by rw[Bt,if_neg (by omega),if_neg (by omega),if_pos rfl]
  rw[hE]
  conv=>whnf
  repeat'((first|apply st|(apply sq;intro K U)|(apply si;intro A B Y Z)|(apply Y;clear Z B Y A)|(apply U;clear U K)|refine⟨rfl,?_⟩|refine ld ?_|refine EK fun σ hs=>?_|refine aq fun v σ hs hsl=>?_|refine FX ?_|(constructor<;>intro hc<;>(try rw[hc])<;>(replace hc:=bp hc)<;>try(exfalso;omega))|fail)<;>conv=>whnf)
  exact AK ⟨_,⟨rfl,_,rfl⟩,hs⟩
end Go.Gl
namespace Go.Gl
open Go.Proofs
def Sat.flip {σ:AH} {X AA:List At} (h:Sat σ (X++AA)):Sat σ (AA++X):=h.perm Np
def lq (f:Fact) (c:Bool) (j:Nat) (a:Int) (p:List Int) (k:Kn):(DR f c j a p k).BJ=k.BJ:=by unfold DR;(repeat' split)<;>rfl
def qq (f:Fact) (c:Bool) (j:Nat) (a:Int) (p:List Int) (k:Kn):(DR f c j a p k).DU=k.DU:=by unfold DR;(repeat' split)<;>rfl
def v7 (f:Fact) (c:Bool) (j:Nat) (a:Int) (p:List Int) (k:Kn):(DR f c j a p k).no=k.no:=by unfold DR;(repeat' split)<;>rfl
def iO (f:Fact) (c:Bool) (j:Nat) (a:Int) (p:List Int) (k:Kn):(DR f c j a p k).AI.length<=k.AI.length+1:=by
 unfold DR
 repeat' split
 .exact Vn _ _
 all_goals simp[Bv]
def vw {m:Nat} {k:Kn} (h:Zq m k) (f:Fact) (c:Bool) (j:Nat) (a:Int) (p:List Int):Zq (m+1) (DR f c j a p k):=by
 obtain⟨h1,h2,h3,h4⟩:=h;refine⟨by rw[lq];exact h1,by rw[qq];exact h2,by rw[v7];omega,?_⟩;have:=iO f c j a p k;omega
def ew {ls:List Fact} (h:MS ls) (a:Int) (p:List Int):Zq ls.length (kg ls a p):=by
 have hc:GK 64 ls:=fun l hl ho=>(h l hl).cls ho
 obtain⟨h1,h2⟩:=la hc a p;obtain⟨h3,h4⟩:=ez a p ls k0;exact⟨by simpa using h1,by simpa using h2,by simpa[kg,k0]using h3,by simpa[kg,k0]using h4⟩
def ve:Br (kg []) []:=⟨fun x hx=>(by cases hx),fun a p _=>rfl,.nil,fun x hx=>(by cases hx)⟩
attribute [local irreducible] As Am Ac AQ AM Ab AP AR AL Aa AN AO Ao Ax Sat AW Au Ad W
abbrev IT (y:Fact×Bool):List V:=[eI y.1.op,eI y.1.arg,.l (iL y.1.path) false,eI y.1.cls,eI y.1.n,.l (y.1.kids.map F0) false,.b y.2]
set_option maxHeartbeats 4000000 in
def vY (w : AJ) (us:List Nat) (ls:List Fact) (ps:List (Fact×Bool)) (hps:ps=ls.map Ai) (b:Bool) (h:MS ls) (hlen:ls.length<900) :
    BK Tryz.prog 142 [.rp (gW w us),.l (ps.map IT) b] [] fun r post=> ∃L es,r= .ret (.a (gv w us L))/\Br (kg ls) es/\post=Bk L es:=by
 intro σ hs;have hM:=Mx;have hpl:ps.length=ls.length:=by rw[hps,Bu]
 refine ta kZ ?_
 conv=>whnf
 repeat'((first|apply st|(apply sq;intro K U)|(apply si;intro A B Y Z)|(apply Y;clear Z B Y A)|(apply U;clear U K)|refine Di fun σ hs=>?_|(intro nn hnn;generalize hg:A6 _ nn _=σ;refine Ci hg fun hs=>?_;clear hg)|fail)<;>conv=>whnf)
 rename_i n4 _ _ _ L _ _ _ _ _;generalize nn=n5 at *;refine D3 ps.length (fun k (x:List Bx)=>[(17,eI (Bq k))]) (fun k x=> .box n5 (gv w us L):: .box n4 [.pn,.mn]::Bk L x) (fun k x=>Br (kg (ls.take k)) x) [] rfl ve (hs.perm (.cons _ (.swap _ _ _))) ?_;clear hs hnn;rintro k es σ hk hinv hs;rcases BM ps hk with⟨y,hy,hlt⟩|hke
 .obtain ⟨l,hlk⟩: ∃l,ls[k]? =some l:=⟨_,ES (by omega)⟩
  have hyl:y=Ai l:=by
   rw[hps,P8,hlk]at hy;exact(Option.some.inj hy).symm
  have hlm:l∈ls:=Dm hlk;have htk:ls.take (k+1)=ls.take k++[l]:=Ar hlk;have hbk: ∀a p,Zq (ls.take k).length (kg (ls.take k) a p):=ew fun x hx=>h x (List.mem_of_mem_take hx)
  obtain⟨l1,l2,l3,l4⟩:=h l hlm;have hkl:(ls.take k).length<900:=by rw[NT];omega
  have hend: ∀a p,kg (ls.take (k+1)) a p=if a=(Ai l).1.arg/\p=(Ai l).1.path then Bt (DR (Ai l).1 (Ai l).2 (Ai l).1.path.length a p (kg (ls.take k) a p)) (Ai l).1 (Ai l).2 else DR (Ai l).1 (Ai l).2 (Ai l).1.path.length a p (kg (ls.take k) a p):=fun a p=>by
   rw[htk,lZ];exact qs a p (kg (ls.take k) a p) l
  generalize kg (ls.take k)=kf at *;rw[<-hyl]at l1 l2 l3 l4 hend;clear hyl;obtain⟨f,c⟩:=y;dsimp only at l1 l2 l3 l4 hend;generalize (ls.take k).length=m at *
  conv=>whnf
  repeat'((first|apply st|(apply sq;intro K U)|(apply si;intro A B Y Z)|(apply Y;clear Z B Y A)|(apply U;clear U K)|refine⟨rfl,?_⟩|refine⟨kZ,?_⟩|refine ix ?_|refine ld ?_|refine Di fun σ hs=>?_|(refine DV (fun hc=>?_)<;>(try rw[hc])<;>clear hc)|(intro nn hnn;generalize hg:A6 _ nn _=σ;refine Ci hg fun hs=>?_;clear hg)|fail)<;>conv=>whnf)
  rename_i n7 _ _ _ _ _ _ _;generalize nn=n8 at *;replace hs:Sat σ ([.box n8 (FQ f.arg []),.box n7 (IT (f,c)),.box n5 (gv w us L),.box n4 [.pn,.mn]]++Bk L es):=hs;refine(jR w us hinv (a:=f.arg) (p:=[]) (by simp)).use (rest:=[.box n8 (FQ f.arg []),.box n7 (IT (f,c)),.box n5 (gv w us L),.box n4 [.pn,.mn]]) hs.flip ?_;clear hs;rintro r post σ ⟨es1,e1,got,rfl,rfl⟩ hs;have hek:=got.k;obtain⟨hea,hep⟩:=F5.1 got.is;obtain⟨pre,post,rfl⟩:=List.append_of_mem got.mem;replace hs:=IZ (X:=[.box n8 (FQ f.arg []),.box n7 (IT (f,c)),.box n5 (gv w us L),.box n4 [.pn,.mn]]) hs.flip;cases hnd:e1.k.Af<;>rw[hnd]at hs
  all_goals
   conv=>whnf
   repeat'((first|apply st|(apply sq;intro K U)|(apply si;intro A B Y Z)|(apply Y;clear Z B Y A)|(apply U;clear U K)|refine ld ?_|refine EK fun σ hs=>?_|fail)<;>conv=>whnf)
   obtain⟨e2,es2,F,hQ,G⟩: ∃(e2:Bx) (es2:List Bx),(Br (fun a p=>DR f c 0 a p (kf a p)) es2/\e2∈es2/\e2.is f.arg (f.path.take 0)=true)/\e2.b=e1.b/\Sat σ ([.box n8 (FQ f.arg (f.path.take 0)),.box n7 (IT (f,c)),.box n5 (gv w us L),.box n4 [.pn,.mn]]++Bk L es2):=by
    refine⟨⟨e1.a,e1.p,e1.b,e1.vn,e1.vs,Bv e1.k c⟩,_,⟨(got.inv.change e1.b e1.vn e1.vs (Bv e1.k c)).congr fun a p=>?_,M0 _ (.head _),got.is⟩,rfl,?_⟩
    .rw[lk,L3,hea,hep,hek]
     by_cases ha:a=f.arg/\p= []
     .rw[if_pos ha,if_pos ha,ha.1,ha.2]
     .rw[if_neg ha,if_neg ha]
    .refine DO (X:=[.box n8 (FQ f.arg []),.box n7 (IT (f,c)),.box n5 (gv w us L),.box n4 [.pn,.mn]]) (e:=e1) rfl rfl rfl ?_
     first
      | (rw[JK c hnd];exact hs)
      | (rw[Hs c hnd];exact hs)
   rw[<-hQ];clear hs hnd got hek hea hep;refine D3 f.path.length (fun j (x:List Bx×Bx)=>[(44,eI (Bq j)),(9,.p x.2.b 0)]) (fun j x=>[.box n8 (FQ f.arg (f.path.take j)),.box n7 (IT (f,c)),.box n5 (gv w us L),.box n4 [.pn,.mn]]++Bk L x.1) (fun j x=>Br (fun a p=>DR f c j a p (kf a p)) x.1/\x.2∈x.1/\x.2.is f.arg (f.path.take j)=true) (es2,e2) rfl F G ?_;clear F G;generalize e2.b=b0 at *;clear hQ e2 es2;rintro j ⟨es2,e2⟩ σ hj ⟨hinv2,hmem,his⟩ hs;simp only at hinv2 hmem his hs
   have hek:e2.k=DR f c j f.arg (f.path.take j) (kf f.arg (f.path.take j)):=by
    have:=hinv2.val e2 hmem;obtain⟨h1,h2⟩:=F5.1 his;rw[this,h1,h2]
   have hok:Zq (m+1) e2.k:=by rw[hek];exact vw (hbk _ _) f c j _ _
   obtain⟨hea,hep⟩:=F5.1 his;obtain⟨pre2,post2,rfl⟩:=List.append_of_mem hmem;replace hs:=IZ (X:=[.box n8 (FQ f.arg (f.path.take j)),.box n7 (IT (f,c)),.box n5 (gv w us L),.box n4 [.pn,.mn]]) hs;have hck:Bq j=j:=AV (by omega);rcases BM f.path hj with⟨s,hsj,hjlt⟩|hje
   .have hct:=fun b=>Ck e2.k.AI b s
    have hk4:=hok.2.2.2;have hsl0:jU e2.k s= {e2.k with AI:=SL e2.k.AI s}:=rfl
    have hne:f.path.take j++[s]≠f.path.take j:=by
     intro e;have:=congrArg List.length e;simp at this
    have hgd:f.path.getD j 0=s:=by rw[Ds,hsj];rfl
    have htk2:f.path.take (j+1)=f.path.take j++[s]:=Ar hsj;cases hcB:e2.k.AI.contains s
    all_goals
     rw[hcB]at hct
     conv=>whnf
     repeat'((first|apply st|(apply sq;intro K U)|(apply si;intro A B Y Z)|(apply Y;clear Z B Y A)|(apply U;clear U K)|refine⟨rfl,?_⟩|refine⟨kZ,?_⟩|refine ix ?_|refine ld ?_|refine EK fun σ hs=>?_|refine Di fun σ hs=>?_|refine aq fun v σ hs hsl=>?_|refine FX ?_|refine Es ?_|(refine DV (fun hc=>?_)<;>(try rw[hc])<;>clear hc)|refine Pure.use (LB f.arg (f.path.take j) s (by rw[NT];omega)) ?_|refine Pure.T3 (hct false) (.cons (hs.IJ 2 rfl) (.cons (.refl _) .nil)) rfl ?_|fail)<;>conv=>whnf)
    have hs3: ∃vs3,Sat σ ([.box n8 (FQ f.arg (f.path.take j++[s])),.box n7 (IT (f,c)),.box n5 (gv w us L),.box n4 [.pn,.mn]]++Bk L (pre2++⟨e2.a,e2.p,e2.b,e2.vn,vs3,jU e2.k s⟩::post2)):=⟨_,DO (X:=[.box n8 (FQ f.arg (f.path.take j++[s])),.box n7 (IT (f,c)),.box n5 (gv w us L),.box n4 [.pn,.mn]]) (e:=e2) rfl rfl rfl (by rw[hsl0,SL,if_neg (by rw[hcB];decide)];exact hs)⟩
    rotate_left
    have hs3: ∃vs3,Sat σ ([.box n8 (FQ f.arg (f.path.take j++[s])),.box n7 (IT (f,c)),.box n5 (gv w us L),.box n4 [.pn,.mn]]++Bk L (pre2++⟨e2.a,e2.p,e2.b,e2.vn,vs3,jU e2.k s⟩::post2)):=⟨e2.vs,DO (X:=[.box n8 (FQ f.arg (f.path.take j++[s])),.box n7 (IT (f,c)),.box n5 (gv w us L),.box n4 [.pn,.mn]]) (e:=e2) rfl rfl rfl (by rw[hsl0,SL,if_pos hcB];exact hs)⟩
    all_goals
     clear hs;obtain⟨vs3,hs⟩:=hs3;have hinv3:=hinv2.change e2.b e2.vn vs3 (jU e2.k s);refine(jR w us hinv3 (a:=f.arg) (p:=f.path.take j++[s]) (by rw[R0,NT];simp;omega)).use (rest:=[.box n8 (FQ f.arg (f.path.take j++[s])),.box n7 (IT (f,c)),.box n5 (gv w us L),.box n4 [.pn,.mn]]) hs.flip ?_;clear hs;rintro r post σ ⟨es4,e4,got,rfl,rfl⟩ hs;have hek4:=got.k;obtain⟨hea4,hep4⟩:=F5.1 got.is;obtain⟨pre4,post4,rfl⟩:=List.append_of_mem got.mem;replace hs:=IZ (X:=[.box n8 (FQ f.arg (f.path.take j++[s])),.box n7 (IT (f,c)),.box n5 (gv w us L),.box n4 [.pn,.mn]]) hs.flip;cases hnd:e4.k.Af<;>rw[hnd]at hs
     all_goals
      conv=>whnf
      repeat'((first|apply st|(apply si;intro A B Y Z)|(apply Y;clear Z B Y A)|(apply U;clear U K)|refine⟨rfl,?_⟩|refine ld ?_|refine EK fun σ hs=>?_|clear U K)<;>conv=>whnf)
      refine⟨hjlt,(pre4++⟨e4.a,e4.p,e4.b,e4.vn,e4.vs,Bv e4.k c⟩::post4,⟨e4.a,e4.p,e4.b,e4.vn,e4.vs,Bv e4.k c⟩),rfl,⟨(got.inv.change e4.b e4.vn e4.vs (Bv e4.k c)).congr fun a p=>?_,M0 _ (.head _),by rw[htk2];exact got.is⟩,?_⟩
      .rw[ln f c hjlt,L3,hea4,hep4,htk2,hgd]
       by_cases h1:a=f.arg/\p=f.path.take j++[s]
       .rw[if_pos h1,if_pos h1,hek4,L3,hea,hep,if_neg (fun h=>hne h.2),h1.1,h1.2]
       .rw[if_neg h1,if_neg h1,L3,hea,hep]
        by_cases h2:a=f.arg/\p=f.path.take j
        .rw[if_pos h2,if_pos h2,hek,h2.1,h2.2]
        .rw[if_neg h2,if_neg h2]
      .rw[htk2]
       refine DO (X:=[.box n8 (FQ f.arg (f.path.take j++[s])),.box n7 (IT (f,c)),.box n5 (gv w us L),.box n4 [.pn,.mn]]) (e:=e4) rfl rfl rfl ?_
       first
        | (rw[JK c hnd];exact hs)
        | (rw[Hs c hnd];exact hs)
   .have etk:f.path.take j=f.path:=CJ hje
    rw[etk]at his hs hek hep
    conv=>whnf
    repeat'((first|apply st|(apply sq;intro K U)|(apply si;intro A B Y Z)|(apply Y;clear Z B Y A)|(apply U;clear U K)|refine⟨rfl,?_⟩|refine⟨kZ,?_⟩|refine ld ?_|(refine EZ (fun hc=>?_)<;>(try rw[hc])<;>clear hc)|clear U K)<;>conv=>whnf)
    refine(vI f c l1 l3 hok.1 hok.2.1 (by have:=hok.2.2.1;omega) l4).use (rest:=[.box n8 (FQ f.arg f.path),.box n7 (IT (f,c)),.box n5 (gv w us L),.box n4 [.pn,.mn]]++H4 L (pre2++e2::post2) pre2 post2) hs ?_;clear hs;rintro r post σ ⟨rfl,vn',rfl⟩ hs;have hs2:=DO (X:=[.box n8 (FQ f.arg f.path),.box n7 (IT (f,c)),.box n5 (gv w us L),.box n4 [.pn,.mn]]) (e:=e2) (e':=⟨e2.a,e2.p,e2.b,vn',e2.vs,Bt e2.k f c⟩) rfl rfl rfl hs;clear hs;have hs:=hs2;clear hs2
    conv=>whnf
    repeat'((first|(apply si;intro A B Y Z)|(apply Y;clear Z B Y A)|(apply U;clear U K)|refine⟨rfl,?_⟩|clear U K)<;>conv=>whnf)
    refine⟨hlt,_,rfl,(hinv2.change e2.b vn' e2.vs (Bt e2.k f c)).congr fun a p=>?_,hs.less ((Mz _ _).trans (Mz _ _))⟩;rw[hend,L3,hea,hep,hek,<-hje];by_cases h1:a=f.arg/\p=f.path
    .rw[if_pos h1,if_pos h1,h1.1,h1.2]
    .rw[if_neg h1,if_neg h1]
 .have etk:ls.take k=ls:=CJ (by omega)
  rw[etk]at hinv
  conv=>whnf
  repeat'((first|apply st|(apply sq;intro K U)|(apply si;intro A B Y Z)|(apply Y;clear Z B Y A)|(apply U;clear U K)|refine⟨rfl,?_⟩|refine⟨kZ,?_⟩|refine ld ?_|refine Di fun σ hs=>?_|(refine EZ (fun hc=>?_)<;>(try rw[hc])<;>clear hc)|clear U K)<;>conv=>whnf)
  exact AK ⟨Bk L es,⟨L,es,rfl,hinv,rfl⟩,hs.less ((Mz _ _).trans (Mz _ _))⟩
end Go.Gl
namespace Go.Gl
open Go.Proofs
def Vr (w:AJ) (us:List Nat) (ls:List Fact) (b:Bool) (h:MS ls) (hlen:ls.length<900) :
    BK Tryz.prog 142 [.rp (gW w us),.l (DY ls) b] [] fun r post=> ∃L es,r= .ret (.a (gv w us L))/\Br (kg ls) es/\post=Bk L es:=by
 have:=vY w us ls (ls.map Ai) rfl b h hlen;rw[uN]at this;exact this
abbrev cj (L:Nat) (pre post:List Bx) (e:Bx) (s:List Bx):List At:=
 .box e.b [eU e.k.BJ,eU e.k.DU,eI e.k.low,eI e.k.high,e.vn,.b e.k.whole,.b e.k.Af,e.vs]:: .own e.vn 1 (iL e.k.no)::H4 L (pre++e::(post++s)) pre (post++s)
def Gj {σ:AH} {X:List At} {L:Nat} {pre post:List Bx} {e:Bx} {s:List Bx} (h:Sat σ (X++Bk L (pre++e::(post++s)))):Sat σ (.own e.vs 1 (iL e.k.AI)::(X++cj L pre post e s)):=by
 have h2:=IZ h;refine h2.perm ((IX _ _ _ _).symm.trans (.cons _ ?_));exact(List.perm_middle.trans (.cons _ List.perm_middle)).symm
def GW {σ:AH} {X:List At} {L:Nat} {pre post:List Bx} {e:Bx} {s:List Bx} (h:Sat σ (.own e.vs 1 (iL e.k.AI)::(X++cj L pre post e s))):Sat σ (X++Bk L (pre++e::(post++s))):=by
 refine DO (X:=X) (e:=e) (e':=e) rfl rfl rfl ?_;refine h.perm ?_;refine List.Perm.trans (.cons _ (List.perm_middle.trans (.cons _ List.perm_middle))) ?_;exact IX _ _ _ _
def GO (kf:Int->List Int->Kn) (L:Nat) (es:List Bx) (post:List At):Prop:= ∃es',Jb es es'/\Br kf es'/\post=Bk L es'
def dz (g:List (List Int)):(BQ g)[0]? =some 1/\(BQ g)[1]? =some 3/\(BQ g)[2]? =some 5:=by
 have key: ∀k,(Bj g k)[0]? =some 1/\(Bj g k)[1]? =some 3/\(Bj g k)[2]? =some 5:=fun k=>by
  induction k with
  | zero=>exact⟨rfl,rfl,rfl⟩
  | succ k ih=>
    have hl:=DJ g k;rw[Bj,jO (by omega),jO (by omega),jO (by omega)];exact ih
 exact key g.length
attribute [local irreducible] As Am Ac AQ AM Ab AP AR AL Aa AN AO Ao Ax Sat AW Au Ad W
set_option maxHeartbeats 4000000 in
def nk (w : AJ) {kf:Int->List Int->Kn} (hr:Dp w kf) {L:Nat} {es:List Bx} (h:Br kf es) {a:Int} {p:List Int} (hp:p.length<=2) :
    BK Tryz.prog 216 [.a (gv w (BQ w.parents) L),B6 a p,eI 2] (Bk L es) fun r post=>r= .ret (.b (C9 kf a p))/\GO kf L es post:=by
 intro σ hs;have hM:=Mx;obtain⟨-,hu1,hu2⟩:=dz w.parents;generalize BQ w.parents=us at *;refine fS kZ ?_
 conv=>whnf
 repeat'((first|apply st|(apply sq;intro K U)|(apply si;intro A B Y Z)|(apply Y;clear Z B Y A)|(apply U;clear U K)|refine⟨kZ,?_⟩|fail)<;>conv=>whnf)
 refine(jR w us h (a:=a) (p:=p) hp).use (rest:=[]) (by simpa using hs) ?_;clear hs;rintro r post σ ⟨es4,e4,got,rfl,rfl⟩ hs;have hek:=got.k;obtain⟨pre,post,rfl⟩:=List.append_of_mem got.mem;rw[Ep]at hs;replace hs:=IZ (X:=[]) hs;have hok:=hr.ok a p;have hsl:=(hr.ok a p).2.2.2;have hsh:=hr.short a p;rw[<-hek]at hok hsl hsh;have hb1:bits .andNot .u64 (e4.k.BJ:Int) ((5:Nat):Int)=((Km e4.k.BJ 5:Nat):Int):=Hb;have hb2:bits .and .u64 (e4.k.DU:Int) ((5:Nat):Int)=((e4.k.DU&&&5:Nat):Int):=FN hok.2.1 (by decide);have hb3:=Lf (u:=5) hok.1
 have F:C9 kf a p=(!e4.k.whole&&(Gz e4.k.BJ 5&&(e4.k.DU&&&5==0&&e4.k.AI.all fun s=> !(kf a (p++[s])).Af))):=by
  rw[C9,D5,HD,hek];rfl
 generalize C9 kf a p=R at *
 conv=>whnf
 repeat'((first|apply st|(apply sq;intro K U)|(apply si;intro A B Y Z)|(apply Y;clear Z B Y A)|(apply U;clear U K)|apply dr|refine⟨rfl,?_⟩|refine Kf ?_|refine lo ?_|refine ld ?_|(constructor<;>intro hc<;>(try rw[hc])<;>(replace hc:=bp hc))|clear U K)<;>conv=>whnf)
 .have h2:(e4.k.DU&&&5==0)=false:=by rw[beq_eq_false_iff_ne];omega
  exact AK ⟨_,⟨by rw[F,h2];simp,_,got.ext,got.inv,rfl⟩,by simpa using DO (X:=[]) (e:=e4) (e':=e4) rfl rfl rfl hs⟩
 .have h1:Gz e4.k.BJ 5=true:=hb3.1 (by omega)
  have h2:(e4.k.DU&&&5==0)=true:=by rw[Cr];omega
  rw[h1,h2,D2,D2]at F
  have hs1:Sat σ (.own e4.vs 1 (iL e4.k.AI)::cj L pre post e4 []):=by
   have h2:=Gj (X:=[]) (L:=L) (pre:=pre) (post:=post) (e:=e4) (s:=[]) (by simpa using DO (X:=[]) (e:=e4) (e':=e4) rfl rfl rfl hs);simpa using h2
  refine D3 e4.k.AI.length (fun k (x:List Bx)=>[(49,eI (Bq k))]) (fun k x=> .own e4.vs 1 (iL e4.k.AI)::cj L pre post e4 x) (fun k x=>(Br kf (pre++e4::(post++x))/\ ∀y∈x,y.k=k0)/\R=(!e4.k.whole&&(e4.k.AI.drop k).all fun s=> !(kf a (p++[s])).Af)) [] rfl ⟨⟨by simpa using got.inv,by simp⟩,F⟩ hs1 ?_;clear hs hs1 F;rintro k new σ hk ⟨⟨hinv,hnew⟩,hF⟩ hs;have hck:Bq k=k:=AV (by omega);rcases BM e4.k.AI hk with⟨s,hsk,hlt⟩|hke
  .have hsm:=Dm hsk
   have hp2:p.length<2:=by
    rcases Nat.lt_or_ge p.length 2 with h'|h'
    .exact h'
    .rw[hsh h']at hsm;cases hsm
   rw[drop_cons hsk,WX]at hF
   conv=>whnf
   repeat'((first|apply st|(apply sq;intro K U)|(apply si;intro A B Y Z)|(apply Y;clear Z B Y A)|(apply U;clear U K)|apply dr|refine rk ?_ ?_|exact fun s e=>by cases e;rfl|refine⟨rfl,?_⟩|refine⟨kZ,?_⟩|refine oi ?_|refine ol fun x hx=>?_|(refine DV (fun hc=>?_)<;>(try rw[hc])<;>clear hc)|refine Pure.use (LB a p _ hp2) ?_|fail)<;>conv=>whnf)
   obtain rfl:x=s:=by rw[hck,Hd,hsk]at hx;exact(Option.some.inj hx).symm
   refine(jR w us hinv (a:=a) (p:=p++[x]) (by simp;omega)).use (rest:=[]) (by simpa using GW (X:=[]) (by simpa using hs)) ?_;clear hs;rintro r post' σ ⟨es5,e5,got5,rfl,rfl⟩ hs;have hek5:=congrArg Kn.Af got5.k;obtain⟨newA,heA,hnA⟩:=got5.ext;obtain⟨pre5,post5,he5⟩:=List.append_of_mem got5.mem;have e7:es5=pre++e4::(post++(new++newA)):=by rw[heA];simp
   have hi7:=got5.inv;rw[e7]at hi7;have hn7: ∀y∈new++newA,y.k=k0:=fun y hy=>(Dr.1 hy).elim (hnew y) (hnA y)
   rw[Ep,he5]at hs;replace hs:=IZ (X:=[]) hs;cases hnx:(kf a (p++[x])).Af<;>rw[hnx]at hek5 hF<;>rw[hek5]at hs
   all_goals
    conv=>whnf
    repeat'((first|apply st|(apply sq;intro K U)|(apply si;intro A B Y Z)|(apply Y;clear Z B Y A)|(apply U;clear U K)|apply dr|refine⟨rfl,?_⟩|refine ld ?_|clear U K)<;>conv=>whnf)
    have hs3:Sat σ (Bk L (pre++e4::(post++(new++newA)))):=by
     rw[<-hek5]at hs;have h3:=DO (X:=[]) (e:=e5) (e':=e5) rfl rfl rfl hs;rw[<-he5,e7]at h3;exact h3
   .exact⟨hlt,new++newA,rfl,⟨⟨hi7,hn7⟩,by rw[hF];rfl⟩,Gj (X:=[]) hs3⟩
   .exact AK ⟨_,⟨by rw[hF];simp,_,got.ext.trans ⟨_,by simp,hn7⟩,hi7,rfl⟩,hs3⟩
  .rw[BX hke,List.all_nil,Bool.and_true]at hF
   conv=>whnf
   repeat'((first|apply st|(apply sq;intro K U)|(apply si;intro A B Y Z)|(apply Y;clear Z B Y A)|(apply U;clear U K)|refine⟨rfl,?_⟩|refine ld ?_|(refine EZ (fun hc=>?_)<;>(try rw[hc])<;>clear hc)|(constructor<;>intro hc<;>(try rw[hc])<;>(replace hc:=bp hc)<;>(try simp(disch:=omega) only[Bu,wrap64,AV]at hc)<;>try(exfalso;omega))|clear U K)<;>conv=>whnf)
   exact AK ⟨_,⟨by rw[hF],_,got.ext.trans ⟨_,by simp,hnew⟩,hinv,rfl⟩,GW (X:=[]) hs⟩
 .have h1:Gz e4.k.BJ 5=false:=by
   rw[<-Bool.not_eq_true,<-hb3];omega
  exact AK ⟨_,⟨by rw[F,h1];simp,_,got.ext,got.inv,rfl⟩,by simpa using DO (X:=[]) (e:=e4) (e':=e4) rfl rfl rfl hs⟩
set_option maxHeartbeats 4000000 in
def ux (w : AJ) {kf:Int->List Int->Kn} (hr:Dp w kf) {L:Nat} {es:List Bx} (h:Br kf es) {a:Int} {p:List Int} (hp:p.length<=2) :
    BK Tryz.prog 216 [.a (gv w (BQ w.parents) L),B6 a p,eI 1] (Bk L es) fun r post=>r= .ret (.b (FT kf a p))/\GO kf L es post:=by
 intro σ hs;have hM:=Mx;obtain⟨-,hu1,hu2⟩:=dz w.parents;generalize BQ w.parents=us at *;refine fS kZ ?_
 conv=>whnf
 repeat'((first|apply st|(apply sq;intro K U)|(apply si;intro A B Y Z)|(apply Y;clear Z B Y A)|(apply U;clear U K)|refine⟨kZ,?_⟩|fail)<;>conv=>whnf)
 refine(jR w us h (a:=a) (p:=p) hp).use (rest:=[]) (by simpa using hs) ?_;clear hs;rintro r post σ ⟨es4,e4,got,rfl,rfl⟩ hs;have hek:=got.k;obtain⟨pre,post,rfl⟩:=List.append_of_mem got.mem;rw[Ep]at hs;replace hs:=IZ (X:=[]) hs;have hok:=hr.ok a p;have hsl:=(hr.ok a p).2.2.2;have hsh:=hr.short a p;rw[<-hek]at hok hsl hsh;have hb1:bits .andNot .u64 (e4.k.BJ:Int) ((3:Nat):Int)=((Km e4.k.BJ 3:Nat):Int):=Hb;have hb2:bits .and .u64 (e4.k.DU:Int) ((3:Nat):Int)=((e4.k.DU&&&3:Nat):Int):=FN hok.2.1 (by decide);have hb3:=Lf (u:=3) hok.1
 have F:FT kf a p=(decide (EA (kf a p)<=e4.k.high)&&(Gz e4.k.BJ 3&&(e4.k.DU&&&3==0&&e4.k.AI.all fun s=> !(kf a (p++[s])).Af))):=by
  rw[FT,D5,HD,hek];rfl
 generalize FT kf a p=R at *
 conv=>whnf
 repeat'((first|apply st|(apply sq;intro K U)|(apply si;intro A B Y Z)|(apply Y;clear Z B Y A)|(apply U;clear U K)|apply dr|refine⟨rfl,?_⟩|refine Kf ?_|refine lo ?_|refine ld ?_|(constructor<;>intro hc<;>(try rw[hc])<;>(replace hc:=bp hc))|clear U K)<;>conv=>whnf)
 .have h2:(e4.k.DU&&&3==0)=false:=by rw[beq_eq_false_iff_ne];omega
  exact AK ⟨_,⟨by rw[F,h2];simp,_,got.ext,got.inv,rfl⟩,by simpa using DO (X:=[]) (e:=e4) (e':=e4) rfl rfl rfl hs⟩
 .have h1:Gz e4.k.BJ 3=true:=hb3.1 (by omega)
  have h2:(e4.k.DU&&&3==0)=true:=by rw[Cr];omega
  rw[h1,h2,D2,D2]at F
  have hs1:Sat σ (.own e4.vs 1 (iL e4.k.AI)::cj L pre post e4 []):=by
   have h2:=Gj (X:=[]) (L:=L) (pre:=pre) (post:=post) (e:=e4) (s:=[]) (by simpa using DO (X:=[]) (e:=e4) (e':=e4) rfl rfl rfl hs);simpa using h2
  refine D3 e4.k.AI.length (fun k (x:List Bx)=>[(49,eI (Bq k))]) (fun k x=> .own e4.vs 1 (iL e4.k.AI)::cj L pre post e4 x) (fun k x=>(Br kf (pre++e4::(post++x))/\ ∀y∈x,y.k=k0)/\R=(decide (EA (kf a p)<=e4.k.high)&&(e4.k.AI.drop k).all fun s=> !(kf a (p++[s])).Af)) [] rfl ⟨⟨by simpa using got.inv,by simp⟩,F⟩ hs1 ?_;clear hs hs1 F;rintro k new σ hk ⟨⟨hinv,hnew⟩,hF⟩ hs;have hck:Bq k=k:=AV (by omega);rcases BM e4.k.AI hk with⟨s,hsk,hlt⟩|hke
  .have hsm:=Dm hsk
   have hp2:p.length<2:=by
    rcases Nat.lt_or_ge p.length 2 with h'|h'
    .exact h'
    .rw[hsh h']at hsm;cases hsm
   rw[drop_cons hsk,WX]at hF
   conv=>whnf
   repeat'((first|apply st|(apply sq;intro K U)|(apply si;intro A B Y Z)|(apply Y;clear Z B Y A)|(apply U;clear U K)|apply dr|refine rk ?_ ?_|exact fun s e=>by cases e;rfl|refine⟨rfl,?_⟩|refine⟨kZ,?_⟩|refine oi ?_|refine ol fun x hx=>?_|(refine DV (fun hc=>?_)<;>(try rw[hc])<;>clear hc)|refine Pure.use (LB a p _ hp2) ?_|fail)<;>conv=>whnf)
   obtain rfl:x=s:=by rw[hck,Hd,hsk]at hx;exact(Option.some.inj hx).symm
   refine(jR w us hinv (a:=a) (p:=p++[x]) (by simp;omega)).use (rest:=[]) (by simpa using GW (X:=[]) (by simpa using hs)) ?_;clear hs;rintro r post' σ ⟨es5,e5,got5,rfl,rfl⟩ hs;have hek5:=congrArg Kn.Af got5.k;obtain⟨newA,heA,hnA⟩:=got5.ext;obtain⟨pre5,post5,he5⟩:=List.append_of_mem got5.mem;have e7:es5=pre++e4::(post++(new++newA)):=by rw[heA];simp
   have hi7:=got5.inv;rw[e7]at hi7;have hn7: ∀y∈new++newA,y.k=k0:=fun y hy=>(Dr.1 hy).elim (hnew y) (hnA y)
   rw[Ep,he5]at hs;replace hs:=IZ (X:=[]) hs;cases hnx:(kf a (p++[x])).Af<;>rw[hnx]at hek5 hF<;>rw[hek5]at hs
   all_goals
    conv=>whnf
    repeat'((first|apply st|(apply sq;intro K U)|(apply si;intro A B Y Z)|(apply Y;clear Z B Y A)|(apply U;clear U K)|apply dr|refine⟨rfl,?_⟩|refine ld ?_|clear U K)<;>conv=>whnf)
    have hs3:Sat σ (Bk L (pre++e4::(post++(new++newA)))):=by
     rw[<-hek5]at hs;have h3:=DO (X:=[]) (e:=e5) (e':=e5) rfl rfl rfl hs;rw[<-he5,e7]at h3;exact h3
   .exact⟨hlt,new++newA,rfl,⟨⟨hi7,hn7⟩,by rw[hF];rfl⟩,Gj (X:=[]) hs3⟩
   .exact AK ⟨_,⟨by rw[hF];simp,_,got.ext.trans ⟨_,by simp,hn7⟩,hi7,rfl⟩,hs3⟩
  .rw[BX hke,List.all_nil,Bool.and_true]at hF
   have hlo:=hr.low a p;rw[<-hek]at hlo;have hno:=hok.2.2.1;have hle:=TJ e4.k.no e4.k.low;have hL:EA (kf a p)=GJ e4.k.no (from_ e4.k.no e4.k.low) e4.k.low:=by rw[EA,<-hek];exact N8 hle (IN _)
   conv=>whnf
   repeat'((first|apply st|(apply sq;intro K U)|(apply si;intro A B Y Z)|(apply Y;clear Z B Y A)|(apply U;clear U K)|refine⟨rfl,?_⟩|refine ld ?_|(refine EZ (fun hc=>?_)<;>(try rw[hc])<;>clear hc)|(constructor<;>intro hc<;>(try rw[hc])<;>(replace hc:=bp hc)<;>try(exfalso;omega))|clear U K)<;>conv=>whnf)
   refine Gf (fun n:Int=>from_ e4.k.no n) (fun n=>[(10,eI n)]) (fun _=> .own e4.vs 1 (iL e4.k.AI)::cj L pre post e4 new) (fun n=> -1000000000<=n/\n+from_ e4.k.no n<=1000001000/\EA (kf a p)=GJ e4.k.no (from_ e4.k.no n) n) e4.k.low rfl ⟨by omega,by omega,hL⟩ hs ?_;clear hs hL hle;rintro n σ ⟨hn0,hn1,hL⟩ hs;have hct2:=fun b=>Ck e4.k.no b n
   cases hcB:e4.k.no.contains n<;>rw[hcB]at hct2
   .have hout:n∉e4.k.no:=by simpa using hcB
    rw[Za hout]at hL;rw[hL]at hF
    conv=>whnf
    repeat'((first|apply st|(apply sq;intro K U)|(apply si;intro A B Y Z)|(apply Y;clear Z B Y A)|(apply U;clear U K)|refine⟨rfl,?_⟩|refine ld ?_|refine Pure.T3 (hct2 false) (.cons (hs.IJ 2 rfl) (.cons (.refl _) .nil)) rfl ?_|clear U K)<;>conv=>whnf)
    all_goals exact AK ⟨_,⟨by rw[hF],_,got.ext.trans ⟨_,by simp,hnew⟩,hinv,rfl⟩,GW (X:=[]) hs⟩
   .have hin:n∈e4.k.no:=by simpa using hcB
    have hlt:=N4 hin;have hwr:IntKind.i64.wrap (n+1)=n+1:=wrap64 (by omega) (by omega);obtain⟨m,hm⟩: ∃m,from_ e4.k.no n=m+1:=⟨from_ e4.k.no n - 1,by omega⟩
    have hL2:EA (kf a p)=GJ e4.k.no (from_ e4.k.no (n+1)) (n+1):=by rw[hL,hm,fj hin];exact N8 (by omega) (IN _)
    conv=>whnf
    repeat'((first|apply st|(apply sq;intro K U)|(apply si;intro A B Y Z)|(apply Y;clear Z B Y A)|(apply U;clear U K)|refine⟨rfl,?_⟩|refine ld ?_|refine Pure.T3 (hct2 false) (.cons (hs.IJ 2 rfl) (.cons (.refl _) .nil)) rfl ?_|clear U K)<;>conv=>whnf)
    exact⟨n+1,hlt,by rw[hwr];rfl,⟨by omega,by omega,hL2⟩,hs⟩
 .have h1:Gz e4.k.BJ 3=false:=by
   rw[<-Bool.not_eq_true,<-hb3];omega
  exact AK ⟨_,⟨by rw[F,h1];simp,_,got.ext,got.inv,rfl⟩,by simpa using DO (X:=[]) (e:=e4) (e':=e4) rfl rfl rfl hs⟩
end Go.Gl
namespace Go.Gl
open Go.Proofs
attribute [local irreducible] As Am Ac AQ AM Ab AP AR AL Aa AN AO Ao Ax Sat AW Au Ad W
set_option maxHeartbeats 4000000 in
def Y1 (w : AJ) (hw:CY w) (us:List Nat) {kf:Int->List Int->Kn} (hr:Dp w kf) {a:Int} {p:List Int} (hp:p.length<=2) (up:Nat) (hup:up<18446744073709551616) (g:FuncId) (fi ca:List V) (can:Int->Bool) {L:Nat}
    (hcan: ∀s∈(kf a p).AI,∀es,Br kf es->BK Tryz.prog g (fi++[B6 a (p++[s])]++ca) (Bk L es) fun r post=>r= .ret (.b (can s))/\GO kf L es post) {es:List Bx} (h:Br kf es) :
    BK Tryz.prog 217 [.a (gv w us L),B6 a p,eU up,.f (.func g) fi ca] (Bk L es) fun r post=>r= .ret (.b (QF w kf a p up can))/\GO kf L es post:=by
 intro σ hs;have hM:=Mx;refine ss kZ ?_
 conv=>whnf
 repeat'((first|apply st|(apply sq;intro K U)|(apply si;intro A B Y Z)|(apply Y;clear Z B Y A)|(apply U;clear U K)|refine⟨kZ,?_⟩|fail)<;>conv=>whnf)
 refine(jR w us h (a:=a) (p:=p) hp).use (rest:=[]) (by simpa using hs) ?_;clear hs;rintro r post σ ⟨es4,e4,got,rfl,rfl⟩ hs;have hek:=got.k;obtain⟨pre,post,rfl⟩:=List.append_of_mem got.mem;rw[Ep]at hs;replace hs:=IZ (X:=[]) hs;have hok:=hr.ok a p;have hsl:=(hr.ok a p).2.2.2;have hsh:=hr.short a p;have hsw:=hr.AI a p;rw[<-hek]at hok hsl hsh hsw hcan;have hb1:bits .andNot .u64 (e4.k.BJ:Int) (up:Int)=((Km e4.k.BJ up:Nat):Int):=Hb;have hb2:bits .and .u64 (e4.k.DU:Int) (up:Int)=((e4.k.DU&&&up:Nat):Int):=FN hok.2.1 hup;have hb3:=Lf (u:=up) hok.1
 have F:QF w kf a p up can=(!e4.k.whole&&(Gz e4.k.BJ up&&(e4.k.DU&&&up==0&&e4.k.AI.all fun s=>if up.testBit (Bh w s).toNat then can s else !(kf a (p++[s])).Af))):=by
  rw[QF,hek]
 generalize QF w kf a p up can=R at *;cases hwh:e4.k.whole<;>rw[hwh]at F hs
 rotate_left
 .conv=>whnf
  repeat'((first|apply st|(apply sq;intro K U)|(apply si;intro A B Y Z)|(apply Y;clear Z B Y A)|(apply U;clear U K)|refine ld ?_|clear U K)<;>conv=>whnf)
  exact AK ⟨_,⟨by rw[F];rfl,_,got.ext,got.inv,rfl⟩,by rw[<-hwh]at hs;simpa using DO (X:=[]) (e:=e4) (e':=e4) rfl rfl rfl hs⟩
 have hcl: ∀ {σ:AH},Sat σ (.box e4.b [eU e4.k.BJ,eU e4.k.DU,eI e4.k.low,eI e4.k.high,e4.vn,.b false,.b e4.k.Af,e4.vs]:: .own e4.vn 1 (iL e4.k.no):: .own e4.vs 1 (iL e4.k.AI)::([]++H4 L (pre++e4::post) pre post))->Sat σ (Bk L (pre++e4::post)):=fun h=>by
  rw[<-hwh]at h;simpa using DO (X:=[]) (e:=e4) (e':=e4) rfl rfl rfl h
 conv=>whnf
 repeat'((first|apply st|(apply sq;intro K U)|(apply si;intro A B Y Z)|(apply Y;clear Z B Y A)|(apply U;clear U K)|refine⟨rfl,?_⟩|refine lo ?_|refine ld ?_|(constructor<;>intro hc<;>(try rw[hc])<;>(replace hc:=bp hc))|clear U K)<;>conv=>whnf)
 .have h2:(e4.k.DU&&&up==0)=false:=by rw[beq_eq_false_iff_ne];omega
  exact AK ⟨_,⟨by rw[F,h2];simp,_,got.ext,got.inv,rfl⟩,hcl hs⟩
 .have h1 : Gz e4.k.BJ up=true:=hb3.1 (by omega)
  have h2:(e4.k.DU&&&up==0)=true:=by rw[Cr];omega
  rw[h1,h2,Bool.not_false,D2,D2,D2]at F
  have hs1:Sat σ (.own e4.vs 1 (iL e4.k.AI)::cj L pre post e4 []):=by
   have h2:=Gj (X:=[]) (L:=L) (pre:=pre) (post:=post) (e:=e4) (s:=[]) (by simpa using hcl hs);simpa using h2
  clear hb1 hb2 hb3 h1 h2;refine D3 e4.k.AI.length (fun k (x:List Bx)=>[(44,eI (Bq k))]) (fun k x=> .own e4.vs 1 (iL e4.k.AI)::cj L pre post e4 x) (fun k x=>(Br kf (pre++e4::(post++x))/\ ∀y∈x,y.k=k0)/\R=(e4.k.AI.drop k).all fun s=>if up.testBit (Bh w s).toNat then can s else !(kf a (p++[s])).Af) [] rfl ⟨⟨by simpa using got.inv,by simp⟩,F⟩ hs1 ?_;clear hs hs1 F hcl;rintro k new σ hk ⟨⟨hinv,hnew⟩,hF⟩ hs;have hck:Bq k=k:=AV (by omega);rcases BM e4.k.AI hk with⟨s,hsk,hlt⟩|hke
  .have hsm:=Dm hsk
   have hp2:p.length<2:=by
    rcases Nat.lt_or_ge p.length 2 with h'|h'
    .exact h'
    .rw[hsh h']at hsm;cases hsm
   obtain⟨hs0,hs1⟩:=hsw s hsm;obtain⟨o,ho⟩: ∃o,w.owner[s.toNat]? =some o:=⟨_,ES (by omega)⟩
   have hoI:Bh w s=o:=by simp only[Bh,Ds,ho];rfl
   obtain⟨ho1,ho2⟩:=hw.2.2 o (Dm ho);have hwp:=hw.1.1;rw[drop_cons hsk,WX,hoI]at hF;have hcx:=hcan s hsm
   conv=>whnf
   repeat'((first|apply st|(apply sq;intro K U)|(apply si;intro A B Y Z)|(apply Y;clear Z B Y A)|(apply U;clear U K)|refine⟨rfl,?_⟩|refine⟨kZ,?_⟩|refine Di fun σ hs=>?_|refine oi ?_|refine ol fun x hx=>?_|(refine DV (fun hc=>?_)<;>(try rw[hc])<;>clear hc)|refine Pure.use (LB a p _ hp2) ?_|(intro nn hnn;generalize hg:A6 _ nn _=σ;refine Ci hg fun hs=>?_;clear hg)|fail)<;>conv=>whnf)
   obtain rfl:x=s:=by rw[hck,Hd,hsk]at hx;exact(Option.some.inj hx).symm
   generalize nn=n7 at *;have hs2:Sat σ ([.box n7 (FQ a (p++[x]))]++Bk L (pre++e4::(post++new))):=GW (X:=[.box n7 (FQ a (p++[x]))]) (hs.perm (.swap _ _ _));clear hs;have hs:=hs2;clear hs2;have c2:=YT up o hup (by omega) (by omega);cases hbo:up.testBit o.toNat<;>rw[hbo]at hF c2
   .rw [if_neg (by decide)]at hF
    conv=>whnf
    repeat'((first|apply st|(apply sq;intro K U)|(apply si;intro A B Y Z)|(apply Y;clear Z B Y A)|(apply U;clear U K)|refine⟨kZ,?_⟩|refine Kf ?_|refine ld ?_|refine FX ?_|refine c2.use ?_|fail)<;>conv=>whnf)
    refine(jR w us hinv (a:=a) (p:=p++[x]) (by simp;omega)).use (rest:=[.box n7 (FQ a (p++[x]))]) hs.flip ?_;clear hs;rintro r post' σ ⟨es5,e5,got5,rfl,rfl⟩ hs;have hek5:=congrArg Kn.Af got5.k;obtain⟨newA,heA,hnA⟩:=got5.ext;obtain⟨pre5,post5,he5⟩:=List.append_of_mem got5.mem;have e7:es5=pre++e4::(post++(new++newA)):=by rw[heA];simp
    have hi7:=got5.inv;rw[e7]at hi7;have hn7: ∀y∈new++newA,y.k=k0:=fun y hy=>(Dr.1 hy).elim (hnew y) (hnA y)
    rw[he5]at hs;replace hs:=IZ (X:=[.box n7 (FQ a (p++[x]))]) hs.flip;cases hnx:(kf a (p++[x])).Af<;>rw[hnx]at hek5 hF<;>rw[hek5]at hs
    all_goals
     conv=>whnf
     repeat'((first|apply st|(apply sq;intro K U)|(apply si;intro A B Y Z)|(apply Y;clear Z B Y A)|(apply U;clear U K)|refine⟨rfl,?_⟩|refine ld ?_|refine FX ?_|refine Es ?_|clear U K)<;>conv=>whnf)
     have hs3:Sat σ (Bk L (pre++e4::(post++(new++newA)))):=by
      rw[<-hek5]at hs;have h3:=DO (X:=[.box n7 (FQ a (p++[x]))]) (e:=e5) (e':=e5) rfl rfl rfl hs;rw[<-he5,e7]at h3;exact h3.less (List.sublist_append_right _ _)
    .exact⟨hlt,new++newA,rfl,⟨⟨hi7,hn7⟩,by rw[hF];rfl⟩,Gj (X:=[]) hs3⟩
    .exact AK ⟨_,⟨by rw[hF];rfl,_,got.ext.trans ⟨_,by simp,hn7⟩,hi7,rfl⟩,hs3⟩
   .rw[if_pos rfl]at hF
    cases hcy:can x<;>rw[hcy]at hF hcx
    all_goals
     conv=>whnf
     repeat'((first|apply st|(apply sq;intro K U)|(apply si;intro A B Y Z)|(apply Y;clear Z B Y A)|(apply U;clear U K)|refine⟨kZ,?_⟩|refine Kf ?_|refine ld ?_|refine c2.use ?_|fail)<;>conv=>whnf)
     refine BD ((hcx _ hinv).use (rest:=[.box n7 (FQ a (p++[x]))]) hs.flip ?_);clear hs;rintro r post' σ ⟨rfl,es6,⟨new6,he6,hn6⟩,hi6,rfl⟩ hs;have e7:es6=pre++e4::(post++(new++new6)):=by rw[he6];simp
     rw[e7]at hi6 hs;have hn7: ∀y∈new++new6,y.k=k0:=fun y hy=>(Dr.1 hy).elim (hnew y) (hn6 y)
     have hs3:Sat σ (Bk L (pre++e4::(post++(new++new6)))):=hs.less (List.sublist_append_left _ _);clear hs;have hs:=hs3
     conv=>whnf
     repeat'((first|apply st|(apply sq;intro K U)|(apply si;intro A B Y Z)|(apply Y;clear Z B Y A)|(apply U;clear U K)|refine⟨rfl,?_⟩|refine Es ?_|refine Wr ?_|refine Ws ?_|clear U K)<;>conv=>whnf)
    .exact AK ⟨_,⟨by rw[hF];rfl,_,got.ext.trans ⟨_,by simp,hn7⟩,hi6,rfl⟩,hs3⟩
    .exact⟨hlt,new++new6,rfl,⟨⟨hi6,hn7⟩,by rw[hF];rfl⟩,Gj (X:=[]) hs3⟩
  .rw[BX hke,List.all_nil]at hF
   conv=>whnf
   repeat'((first|apply st|(apply sq;intro K U)|(apply si;intro A B Y Z)|(apply Y;clear Z B Y A)|(apply U;clear U K)|refine⟨rfl,?_⟩|(refine EZ (fun hc=>?_)<;>(try rw[hc])<;>clear hc)|clear U K)<;>conv=>whnf)
   exact AK ⟨_,⟨by rw[hF],_,got.ext.trans ⟨_,by simp,hnew⟩,hinv,rfl⟩,GW (X:=[]) hs⟩
 .have h1:Gz e4.k.BJ up=false:=by
   rw[<-Bool.not_eq_true,<-hb3];omega
  exact AK ⟨_,⟨by rw[F,h1];simp,_,got.ext,got.inv,rfl⟩,hcl hs⟩
end Go.Gl
namespace Go.Gl
open Go.Proofs
def Jb.len {es es':List Bx} (h:Jb es es'):es.length<=es'.length:=by
 obtain⟨n,rfl,_⟩:=h;simp
attribute [local irreducible] As Am Ac AQ AM Ab AP AR AL Aa AN AO Ao Ax Sat AW Au Ad W
set_option maxHeartbeats 8000000 in
def Rm (w : AJ) (hw:CY w) {kf:Int->List Int->Kn} (hr:Dp w kf) {a:Int} {p:List Int} (hp:p.length<=2) (can:Int->Bool) {L:Nat}
    (hcan: ∀s∈(kf a p).AI,∀es,Br kf es->BK Tryz.prog 143 [.a (gv w (BQ w.parents) L),B6 a (p++[s])] (Bk L es) fun r post=>r= .ret (.b (can s))/\GO kf L es post) {es:List Bx} (h:Br kf es) :
    BK Tryz.prog 143 [.a (gv w (BQ w.parents) L),B6 a p] (Bk L es) fun r post=>r= .ret (.b (FT kf a p||(C9 kf a p||Tx w kf a p can)))/\GO kf L es post:=by
 intro σ hs;have hM:=Mx;have c1:=ux w hr h (L:=L) (a:=a) hp;have c2:=fun {es} (h:Br kf es)=>nk w hr h (L:=L) (a:=a) hp
 have hu:oY (BQ w.parents):=F6 _ _ (by have:=hw.1.1;omega);have hul:(BQ w.parents).length=3+w.parents.length:=DJ _ _;have hwp:=hw.1.1;have F:Tx w kf a p can=(!(DX w kf a p).testBit 1&&(!(DX w kf a p).testBit 2&&QF w kf a p (Bi (BQ w.parents) w.parents.length (DX w kf a p)) can)):=rfl;have hMu:DX w kf a p=(kf a p).AI.foldl (fun m s=>if(kf a (p++[s])).Af then m|||2 ^ (Bh w s).toNat else m) ((kf a p).BJ|||2 ^ 0):=rfl;have hobj:=fun up hup es (hi:Br kf es)=>Y1 w hw (BQ w.parents) hr hp up hup 143 [.a (gv w (BQ w.parents) L)] [] can (L:=L) hcan (es:=es) hi
 generalize BQ w.parents=us at *;generalize Tx w kf a p can=R at *;generalize DX w kf a p=MU at *;cases hI:FT kf a p<;>rw[hI]at c1
 rotate_left
 .refine XI kZ ?_
  conv=>whnf
  repeat'((first|apply st|(apply sq;intro K U)|(apply si;intro A B Y Z)|(apply Y;clear Z B Y A)|(apply U;clear U K)|refine⟨kZ,?_⟩|fail)<;>conv=>whnf)
  refine c1.use (rest:=[]) (by simpa using hs) ?_;clear hs;rintro r post σ ⟨rfl,es2,hx2,hi2,rfl⟩ hs;rw[Ep]at hs
  conv=>whnf
  repeat'((first|apply st|(apply sq;intro K U)|(apply si;intro A B Y Z)|(apply Y;clear Z B Y A)|(apply U;clear U K)|clear U K)<;>conv=>whnf)
  exact AK ⟨_,⟨rfl,es2,hx2,hi2,rfl⟩,hs⟩
 cases hN:C9 kf a p<;>rw[hN]at c2
 rotate_left
 .refine XI kZ ?_
  conv=>whnf
  repeat'((first|apply st|(apply sq;intro K U)|(apply si;intro A B Y Z)|(apply Y;clear Z B Y A)|(apply U;clear U K)|refine⟨kZ,?_⟩|fail)<;>conv=>whnf)
  refine c1.use (rest:=[]) (by simpa using hs) ?_;clear hs;rintro r post σ ⟨rfl,es2,hx2,hi2,rfl⟩ hs;rw[Ep]at hs
  conv=>whnf
  repeat'((first|apply st|refine⟨kZ,?_⟩|fail)<;>conv=>whnf)
  refine(c2 hi2).use (rest:=[]) (by simpa using hs) ?_;clear hs;rintro r post σ ⟨rfl,es3,hx3,hi3,rfl⟩ hs;rw[Ep]at hs
  conv=>whnf
  repeat'((first|apply st|(apply sq;intro K U)|(apply si;intro A B Y Z)|(apply Y;clear Z B Y A)|(apply U;clear U K)|refine FX ?_|clear U K)<;>conv=>whnf)
  exact AK ⟨_,⟨rfl,es3,hx2.trans hx3,hi3,rfl⟩,hs⟩
 rw[Bool.false_or,Bool.false_or];refine XI kZ ?_
 conv=>whnf
 repeat'((first|apply st|(apply sq;intro K U)|(apply si;intro A B Y Z)|(apply Y;clear Z B Y A)|(apply U;clear U K)|refine⟨kZ,?_⟩|fail)<;>conv=>whnf)
 refine c1.use (rest:=[]) (by simpa using hs) ?_;clear hs;rintro r post σ ⟨rfl,es2,hx2,hi2,rfl⟩ hs;rw[Ep]at hs
 conv=>whnf
 repeat'((first|apply st|refine⟨kZ,?_⟩|fail)<;>conv=>whnf)
 refine(c2 hi2).use (rest:=[]) (by simpa using hs) ?_;clear hs;rintro r post σ ⟨rfl,es3,hx3,hi3,rfl⟩ hs;rw[Ep]at hs;clear c1 c2
 conv=>whnf
 repeat'((first|apply st|(apply sq;intro K U)|(apply si;intro A B Y Z)|(apply Y;clear Z B Y A)|(apply U;clear U K)|refine⟨kZ,?_⟩|refine Es ?_|fail)<;>conv=>whnf)
 refine(jR w us hi3 (a:=a) (p:=p) hp).use (rest:=[]) (by simpa using hs) ?_;clear hs;rintro r post σ ⟨es4,e4,got,rfl,rfl⟩ hs;have hx4:=(hx2.trans hx3).trans got.ext;have hek:=got.k;obtain⟨pre,post,rfl⟩:=List.append_of_mem got.mem;rw[Ep]at hs;replace hs:=Gj (X:=[]) (L:=L) (pre:=pre) (post:=post) (e:=e4) (s:=[]) (by simpa using hs);have hok:=hr.ok a p;have hsl:=(hr.ok a p).2.2.2;have hsh:=hr.short a p;have hsw:=hr.AI a p;rw[<-hek]at hok hsl hsh hsw hcan hMu;have hi4:=got.inv;clear got;have c3:=nR e4.k.BJ 0 hok.1 (by decide);have hm0:e4.k.BJ|||2 ^ 0<18446744073709551616:=G8 hok.1 (F1 (by decide))
 conv=>whnf
 repeat'((first|apply st|(apply sq;intro K U)|(apply si;intro A B Y Z)|(apply Y;clear Z B Y A)|(apply U;clear U K)|refine lo ?_|refine ld ?_|refine c3.use ?_|fail)<;>conv=>whnf)
 refine D3 e4.k.AI.length (fun k (x:Nat×List Bx)=>[(34,eI (Bq k)),(6,eU x.1)]) (fun k x=> .own e4.vs 1 (iL e4.k.AI)::cj L pre post e4 x.2) (fun k x=>x.1<18446744073709551616/\(Br kf (pre++e4::(post++x.2))/\ ∀y∈x.2,y.k=k0)/\MU=(e4.k.AI.drop k).foldl (fun m s=>if(kf a (p++[s])).Af then m|||2 ^ (Bh w s).toNat else m) x.1) (e4.k.BJ|||2 ^ 0,[]) rfl ⟨hm0,⟨by simpa using hi4,by simp⟩,hMu⟩ hs ?_;clear hs hMu hm0 c3 hi4;rintro k ⟨m,new⟩ σ hk ⟨hm,⟨hinv,hnew⟩,hF⟩ hs;dsimp only at hm hinv hnew hF hs;have hck:Bq k=k:=AV (by omega);rcases BM e4.k.AI hk with⟨s,hsk,hlt⟩|hke
 .have hsm:=Dm hsk
  have hp2:p.length<2:=by
   rcases Nat.lt_or_ge p.length 2 with h'|h'
   .exact h'
   .rw[hsh h']at hsm;cases hsm
  obtain⟨hs0,hs1⟩:=hsw s hsm;obtain⟨o,ho⟩: ∃o,w.owner[s.toNat]? =some o:=⟨_,ES (by omega)⟩
  have hoI:Bh w s=o:=by simp only[Bh,Ds,ho];rfl
  obtain⟨ho1,ho2⟩:=hw.2.2 o (Dm ho);rw[drop_cons hsk,List.foldl_cons,hoI]at hF;have c3:=MA m o hm (by omega) (by omega)
  conv=>whnf
  repeat'((first|apply st|(apply sq;intro K U)|(apply si;intro A B Y Z)|(apply Y;clear Z B Y A)|(apply U;clear U K)|apply dr|refine rk ?_ ?_|exact fun s e=>by cases e;rfl|refine⟨rfl,?_⟩|refine⟨kZ,?_⟩|refine oi ?_|refine ol fun x hx=>?_|(refine DV (fun hc=>?_)<;>(try rw[hc])<;>clear hc)|refine Pure.use (LB a p _ hp2) ?_|fail)<;>conv=>whnf)
  obtain rfl:x=s:=by rw[hck,Hd,hsk]at hx;exact(Option.some.inj hx).symm
  refine(jR w us hinv (a:=a) (p:=p++[x]) (by simp;omega)).use (rest:=[]) (by simpa using GW (X:=[]) (by simpa using hs)) ?_;clear hs;rintro r post' σ ⟨es5,e5,got5,rfl,rfl⟩ hs;have hek5:=congrArg Kn.Af got5.k;obtain⟨newA,heA,hnA⟩:=got5.ext;obtain⟨pre5,post5,he5⟩:=List.append_of_mem got5.mem;have e7:es5=pre++e4::(post++(new++newA)):=by rw[heA];simp
  have hi7:=got5.inv;rw[e7]at hi7;have hn7: ∀y∈new++newA,y.k=k0:=fun y hy=>(Dr.1 hy).elim (hnew y) (hnA y)
  rw[Ep,he5]at hs;replace hs:=IZ (X:=[]) hs;have hob:2 ^ o.toNat<18446744073709551616:=F1 (by omega);cases hnx:(kf a (p++[x])).Af<;>rw[hnx]at hek5 hF<;>rw[hek5]at hs
  all_goals
   conv=>whnf
   repeat'((first|apply st|(apply si;intro A B Y Z)|(apply Y;clear Z B Y A)|(apply U;clear U K)|apply dr|refine⟨rfl,?_⟩|refine Kf ?_|refine ld ?_|refine c3.use ?_|clear U K)<;>conv=>whnf)
   have hs3:Sat σ (Bk L (pre++e4::(post++(new++newA)))):=by
    rw[<-hek5]at hs;have h3:=DO (X:=[]) (e:=e5) (e':=e5) rfl rfl rfl hs;rw[<-he5,e7]at h3;exact h3
  .exact⟨hlt,(m,new++newA),rfl,⟨hm,⟨hi7,hn7⟩,by rw[hF];rfl⟩,Gj (X:=[]) hs3⟩
  .exact⟨hlt,(m|||2 ^ o.toNat,new++newA),rfl,⟨G8 hm hob,⟨hi7,hn7⟩,by rw[hF];rfl⟩,Gj (X:=[]) hs3⟩
 .rw [BX hke,List.foldl_nil]at hF
  subst hF;have d1:=pD MU 1 hm (by decide);have d2:=pD MU 2 hm (by decide);have hsc: ∀ {σ:AH},Sat σ (.own e4.vs 1 (iL e4.k.AI)::cj L pre post e4 new)->Sat σ (Bk L (pre++e4::(post++new))):=fun h=>GW (X:=[]) h
  have hx5:Jb es (pre++e4::(post++new)):=hx4.trans ⟨new,by simp,hnew⟩;cases hb1:MU.testBit 1<;>rw[hb1]at d1 F
  rotate_left
  .conv=>whnf
   repeat'((first|apply st|(apply sq;intro K U)|(apply si;intro A B Y Z)|(apply Y;clear Z B Y A)|(apply U;clear U K)|refine⟨rfl,?_⟩|(refine EZ (fun hc=>?_)<;>(try rw[hc])<;>clear hc)|refine d1.use ?_|clear U K)<;>conv=>whnf)
   all_goals try(exfalso;omega)
   exact AK ⟨_,⟨by rw[F];rfl,_,hx5,hinv,rfl⟩,hsc hs⟩
  cases hb2:MU.testBit 2<;>rw[hb2]at d2 F
  rotate_left
  .conv=>whnf
   repeat'((first|apply st|(apply sq;intro K U)|(apply si;intro A B Y Z)|(apply Y;clear Z B Y A)|(apply U;clear U K)|refine⟨rfl,?_⟩|refine FX ?_|(refine EZ (fun hc=>?_)<;>(try rw[hc])<;>clear hc)|refine d1.use ?_|refine d2.use ?_|clear U K)<;>conv=>whnf)
   all_goals try(exfalso;omega)
   exact AK ⟨_,⟨by rw[F];rfl,_,hx5,hinv,rfl⟩,hsc hs⟩
  conv=>whnf
  repeat'((first|apply st|(apply sq;intro K U)|(apply si;intro A B Y Z)|(apply Y;clear Z B Y A)|(apply U;clear U K)|refine⟨rfl,?_⟩|refine Es ?_|(refine EZ (fun hc=>?_)<;>(try rw[hc])<;>clear hc)|refine d1.use ?_|refine d2.use ?_|clear U K)<;>conv=>whnf)
  all_goals try(exfalso;omega)
  clear hke hck hk d1 d2 k;rw[Bool.not_false,D2,D2]at F;have eul:((us.map fun u=>[eU u]).length:Int)=us.length:=by simp
  refine D3 us.length (fun k (x:Nat)=>[(73,eI (Bq k)),(6,eU x)]) (fun _ _=> .own e4.vs 1 (iL e4.k.AI)::cj L pre post e4 new) (fun k x=>x<18446744073709551616/\x=Bi us (k - 3) MU) MU rfl ⟨hm,rfl⟩ hs ?_;clear hs;rintro k x σ hk ⟨hx64,hxe⟩ hs;have hck:Bq k=k:=AV (by omega);rcases BM us hk with⟨u,huk,hlt⟩|hke
  .have hbt:Bi us (k+1 - 3) MU=if 3<=k/\x.testBit k then x|||u else x:=by
    rcases Nat.lt_or_ge k 3 with h3|h3
    .rw[if_neg (fun h=>by omega),hxe,show k+1 - 3=k - 3 by omega]
    .obtain⟨j,rfl⟩: ∃j,k=3+j:=⟨k - 3,by omega⟩
     have eu:us.getD (3+j) 0=u:=by rw[Ds,huk];rfl
     rw[show 3+j+1 - 3=j+1 by omega,Bi,show 3+j - 3=j by omega]at *;rw[<-hxe,eu];by_cases hb:x.testBit (3+j)=true
     .rw[if_pos hb,if_pos ⟨by omega,hb⟩]
     .rw[if_neg hb,if_neg (fun h=>hb h.2)]
   have hu64:u<18446744073709551616:=hu u (Dm huk);have huc:us[(Bq k).toNat]? =some u:=by rw[hck,Hd];exact huk
   have d1:=YT x (Bq k) hx64 (by omega) (by omega);have ekk:(Bq k).toNat=k:=by rw[hck,Hd]
   rw[ekk]at d1;cases hbk:x.testBit k<;>rw[hbk]at d1 hbt
   .rw[if_neg (fun h=>by cases h.2)]at hbt
    conv=>whnf
    repeat'((first|apply st|(apply sq;intro K U)|(apply si;intro A B Y Z)|(apply Y;clear Z B Y A)|(apply U;clear U K)|refine⟨rfl,?_⟩|refine Es ?_|(refine DV (fun hc=>?_)<;>(try rw[hc])<;>clear hc)|refine d1.use ?_|(constructor<;>intro hc<;>(try rw[hc])<;>(replace hc:=bp hc)<;>(try simp(disch:=omega) only[Bu,wrap64,AV]at hc))|clear U K)<;>conv=>whnf)
    all_goals exact⟨hlt,x,rfl,⟨hx64,hbt.symm⟩,hs⟩
   .by_cases h3:3<=k
    .rw[if_pos ⟨h3,rfl⟩]at hbt
     conv=>whnf
     repeat'((first|apply st|(apply sq;intro K U)|(apply si;intro A B Y Z)|(apply Y;clear Z B Y A)|(apply U;clear U K)|refine⟨rfl,?_⟩|refine ix ?_|refine FX ?_|(refine DV (fun hc=>?_)<;>(try rw[hc])<;>clear hc)|refine d1.use ?_|(constructor<;>intro hc<;>(try rw[hc])<;>(replace hc:=bp hc)<;>(try simp(disch:=omega) only[Bu,wrap64,AV]at hc)<;>try(exfalso;omega))|clear U K)<;>conv=>whnf)
     all_goals try(exfalso;omega)
     all_goals exact⟨hlt,x|||u,by rw[GX hx64 hu64];rfl,⟨G8 hx64 hu64,hbt.symm⟩,hs⟩
    .rw[if_neg (fun h=>h3 h.1)]at hbt
     conv=>whnf
     repeat'((first|apply st|(apply sq;intro K U)|(apply si;intro A B Y Z)|(apply Y;clear Z B Y A)|(apply U;clear U K)|refine⟨rfl,?_⟩|(refine DV (fun hc=>?_)<;>(try rw[hc])<;>clear hc)|(constructor<;>intro hc<;>(try rw[hc])<;>(replace hc:=bp hc)<;>(try simp(disch:=omega) only[Bu,wrap64,AV]at hc)<;>try(exfalso;omega))|clear U K)<;>conv=>whnf)
     all_goals try(exfalso;omega)
     all_goals exact⟨hlt,x,rfl,⟨hx64,hbt.symm⟩,hs⟩
  .have hke3:k - 3=w.parents.length:=by omega
   rw[hke3]at hxe;rw[<-hxe]at F
   conv=>whnf
   repeat'((first|apply st|(apply sq;intro K U)|(apply si;intro A B Y Z)|(apply Y;clear Z B Y A)|(apply U;clear U K)|refine⟨rfl,?_⟩|refine⟨kZ,?_⟩|(refine EZ (fun hc=>?_)<;>(try rw[hc])<;>clear hc)|clear U K)<;>conv=>whnf)
   refine(hobj x hx64 _ hinv).use (rest:=[]) (by simpa using hsc hs) ?_;clear hs;rintro r post' σ ⟨rfl,es6,hx6,hi6,rfl⟩ hs;rw[Ep]at hs
   conv=>whnf
   repeat'((first|apply st|(apply Y;clear Z B Y A)|(apply U;clear U K)|fail)<;>conv=>whnf)
   exact AK ⟨_,⟨by rw[F],es6,hx5.trans hx6,hi6,rfl⟩,hs⟩
def ml (w:AJ) (hw:CY w) {kf:Int->List Int->Kn} (hr:Dp w kf) (a:Int) {L:Nat}: ∀(d:Nat) (p:List Int),p.length+d=2-> ∀es,Br kf es->
    BK Tryz.prog 143 [.a (gv w (BQ w.parents) L),B6 a p] (Bk L es) fun r post=>r= .ret (.b (QH w kf a d p))/\GO kf L es post:=by
 intro d
 induction d with
 | zero=>
   intro p hp es h;rw[QH];exact Rm w hw hr (by omega) _ (fun s hs=>by rw[hr.short a p (by omega)]at hs;cases hs) h
 | succ d ih=>
   intro p hp es h;rw[QH];exact Rm w hw hr (by omega) _ (fun s _ es h=>ih (p++[s]) (by simp;omega) es h) h
end Go.Gl
namespace Go.Gl
open Go.Proofs
abbrev Tu (p:Prog) (gen:Int) (ms:List Int):List V:=Ba p++[eI gen,.l (iL ms) false]
structure T8 (p:Prog) (ms:List Int):Prop where
 ok:Ed p
 Kp: ∀m∈ms,Bc p m=true
 wc:ms.length<=8
def CG (s n:Nat):List Bool:=(List.range n).map s.testBit
def Rp (s n:Nat):(CG s n).length=n:=by simp[CG]
def Vi {s n i:Nat} (h:i<n):(CG s n)[i]? =some (s.testBit i):=by
 rw[CG,P8,List.getElem?_range h];rfl
abbrev G1 (p:Prog) (ms:List Int):List Fact:=ms.map fun m=>(B1 p m).fact
def QL (g:FuncId) (fi ca:List V) (w:AJ) (tog:List Fact->Bool):Prop:= ∀l b,(∀x∈l,C1 w x)->l.length<900->Pure Tryz.prog g (fi++[Jx l b]++ca) (.b (tog l))
abbrev da (g:FuncId) (fi ca:List V) (p:Prog) (gen:Int) (ms:List Int) (s many nN:Nat):V:= .f (.func 208) [] [.rp [.f (.func g) fi ca],.rp [eI many],.rp (Tu p gen ms),.rp [eU s],.p nN 0]
section
variable {g:FuncId} {fi ca:List V} {p:Prog} {gen:Int} {ms:List Int} {tog:List Fact->Bool}
def UO (p:Prog) (ms:List Int) (s many i:Nat):List (List (List Fact)):=(Z8 ((G1 p ms).zip (CG s many))).drop i
def aY {s many i:Nat} (h:many<=i):UO p ms s many i= []:=List.drop_of_length_le (by simp[Z8,Rp];omega)
def gd {s many i:Nat} {m:Int} (h:i<many) (hm:ms[i]? =some m):UO p ms s many i=CH (B1 p m).fact (!s.testBit i)::UO p ms s many (i+1):=by
 refine drop_cons ?_;have hz:((G1 p ms).zip (CG s many))[i]? =some ((B1 p m).fact,s.testBit i):=List.getElem?_zip_eq_some.2 ⟨by rw[P8,hm];rfl,Vi h⟩;rw[Z8,P8,hz];rfl
attribute [local irreducible] As Am Ac AQ AM Ab AP AR AL Aa AN AO Ao Ax Sat AW Au Ad W
set_option maxHeartbeats 2000000 in
def lG (h:T8 p ms) (hcan:QL g fi ca (AT p) tog) {s many nN:Nat} (hs64:s<18446744073709551616) (hmn:many<=ms.length): ∀(d i:Nat) (l:List Fact) (b:Bool),i+d=many->(∀x∈l,C1 (AT p) x)->l.length<=12*i-> ∀σ,Sat σ [.box nN [da g fi ca p gen ms s many nN]]->
    As Tryz.prog 208 [eI i,Jx l b,.rp [.f (.func g) fi ca],.rp [eI many],.rp (Tu p gen ms),.rp [eU s],.p nN 0] σ fun r σ'=>r= .ret (.b (NX tog (UO p ms s many i) l))/\Sat σ' [.box nN [da g fi ca p gen ms s many nN]]:=by
 have hM:=Mx;have hfew:=h.wc;intro d
 induction d with
 | zero=>
   intro i l b hid hl hln σ hs;have c1:=hcan l b hl (by omega);rw[aY (by omega),NX];cases ht:tog l<;>rw[ht]at c1
   all_goals
    refine XG kZ ?_
    conv=>whnf
    repeat'((first|apply st|(apply sq;intro K U)|(apply si;intro A B Y Z)|(apply Y;clear Z B Y A)|(apply U;clear U K)|apply dr|refine rk ?_ ?_|exact fun s e=>by cases e;rfl|refine⟨rfl,?_⟩|refine FX ?_|refine Es ?_|refine BD (c1.use ?_)|(constructor<;>intro hc<;>(try rw[hc])<;>(replace hc:=bp hc)<;>try(exfalso;omega))|clear U K)<;>conv=>whnf)
    all_goals try(exfalso;simp at hc;omega)
    all_goals exact AK ⟨rfl,hs⟩
 | succ d ih=>
   intro i l b hid hl hln σ hs;have c1:=hcan l b hl (by omega);obtain⟨m,hm⟩: ∃m,ms[i]? =some m:=⟨_,ES (by omega)⟩
   have hmm:=h.Kp m (Dm hm);have hmP:=C0 hmm;have hfa:=h.ok.facts _ (Dm hmP);rw[gd (by omega) hm,NX];cases ht:tog l<;>rw[ht]at c1
   .refine XG kZ ?_
    conv=>whnf
    repeat'((first|apply st|(apply sq;intro K U)|(apply si;intro A B Y Z)|(apply Y;clear Z B Y A)|(apply U;clear U K)|refine FX ?_|refine BD (c1.use ?_)|clear U K)<;>conv=>whnf)
    all_goals exact AK ⟨rfl,hs⟩
   rw[D2];have c2:=YT s (i:Int) hs64 (by omega) (by omega);have hlits:=NR _ hfa.1;have hcl:=Pw _ (By _ hfa.1);have hcas:=ir (B1 p m).fact hfa.1 (by have:=hfa.2;omega);have hlv:=hfa.2;simp only[Bc,A8,Cm]at hmm;have hm2:ms[((i:Nat):Int).toNat]? =some m:=by rw[Hd];exact hm
   rw[Hd]at c2;clear hfa;generalize B1 p m=x at *
   have hT:YZ 210 [] [.p nN 0,.rp [eI i]] [.box nN [da g fi ca p gen ms s many nN]] (NX tog (UO p ms s many (i+1))) (fun y=>(∀z∈y,C1 (AT p) z)/\y.length<=12*(i+1)):=by
    rintro y b' ⟨hy1,hy2⟩ σ hs;have hi:=ih (i+1) y b' (by omega) hy1 hy2;have hwi:IntKind.i64.wrap ((i:Int)+1)=((i+1:Nat):Int):=by rw[wrap64 (by omega) (by omega)];omega
    show As Tryz.prog 210 [Jx y b',.p nN 0,.rp [eI i]] σ _;refine sy kZ ?_
    conv=>whnf
    repeat'((first|apply st|(apply sq;intro K U)|(apply si;intro A B Y Z)|(apply Y;clear Z B Y A)|(apply U;clear U K)|refine⟨rfl,?_⟩|refine ld ?_|fail)<;>conv=>whnf)
    rw[hwi];refine BD (As.mono (hi σ hs) ?_);clear hs;rintro r σ ⟨rfl,hs⟩
    conv=>whnf
    repeat'((first|apply st|(apply Y;clear Z B Y A)|(apply U;clear U K)|fail)<;>conv=>whnf)
    exact AK ⟨rfl,hs⟩
   refine XG kZ ?_
   conv=>whnf
   repeat'((first|apply st|(apply sq;intro K U)|(apply si;intro A B Y Z)|(apply Y;clear Z B Y A)|(apply U;clear U K)|apply dr|refine rk ?_ ?_|exact fun s e=>by cases e;rfl|refine⟨rfl,?_⟩|refine⟨kZ,?_⟩|refine Kf ?_|refine Es ?_|refine BD (c1.use ?_)|refine c2.use ?_|(constructor<;>intro hc<;>(try rw[hc])<;>(replace hc:=bp hc)<;>try(exfalso;omega))|fail)<;>conv=>whnf)
   all_goals try(exfalso;simp at hc;omega)
   refine As.mono (hcas (!s.testBit i) 210 [] [.p nN 0,.rp [eI i]] _ _ _ l b hT (fun c hc=>⟨fun z hz=>(Dr.1 hz).elim (hl z) (hlits _ c hc z),?_⟩) (by omega) σ hs) ?_
   .have:=hcl _ c hc
    rw[R0];omega
   clear hs;rintro r σ ⟨rfl,hs⟩
   conv=>whnf
   repeat'((first|apply st|(apply Y;clear Z B Y A)|(apply U;clear U K)|apply dr|fail)<;>conv=>whnf)
   all_goals exact AK ⟨rfl,hs⟩
def nV (h:T8 p ms) (hcan:QL g fi ca (AT p) tog) {s many:Nat} (hs64:s<18446744073709551616) (hmn:many<=ms.length):Pure Tryz.prog 207 [eU s,eI many,.rp [.f (.func g) fi ca],.rp (Tu p gen ms)] (.b (Eb tog (G1 p ms) (CG s many))):=by
 refine Pure.of ?_;refine s6 kZ ?_;have hs:=Sn
 conv=>whnf
 repeat'((first|(apply sq;intro K U)|(apply si;intro A B Y Z)|(apply Y;clear Z B Y A)|(apply U;clear U K)|refine ld ?_|refine EK fun σ hs=>?_|(intro nn hnn;generalize hg:A6 _ nn _=σ;refine Ci hg fun hs=>?_;clear hg)|fail)<;>conv=>whnf)
 refine BD (As.mono (lG h hcan hs64 hmn many 0 [] true (by omega) (fun x hx=>by cases hx) (by simp) _ hs) ?_);clear hs;rintro r σ ⟨rfl,hs⟩
 conv=>whnf
 repeat'((first|apply st|(apply Y;clear Z B Y A)|(apply U;clear U K)|fail)<;>conv=>whnf)
 exact AK rfl
end
end Go.Gl
namespace Go.Gl
open Go.Proofs
def U5 {w:AJ} (hw:CY w) {ls:List Fact} (h: ∀x∈ls,C1 w x) (hlen:ls.length<900):Dp w (kg ls):=by
 have hadd:=LC (by have:=hw.1.1;omega) h;have hr:=Yp hw h hlen;have hW: ∀x∈ls,DL w x:=fun x hx=>E6 (h x hx)
 refine⟨fun a p=>?_,fun a p=>?_,fun a p hpl=>?_,fun a p s hs=>dd hW hs⟩
 .obtain⟨h1,h2,h3,h4⟩:=ew hadd a p
  exact⟨h1,h2,by omega,by omega⟩
 .rw[(JA (F4 ls a p).core).1]
  exact hr.low a p
 .have h0:=hr.short a p hpl
  refine List.eq_nil_iff_forall_not_mem.2 fun s hs=>?_
  have:=((F4 ls a p).AI s).1 hs;rw[h0]at this;cases this
attribute [local irreducible] As Am Ac AQ AM Ab AP AR AL Aa AN AO Ao Ax Sat AW Au Ad W
set_option maxHeartbeats 2000000 in
def Um {kf:Int->List Int->Kn} {L:Nat} (g:FuncId) (fi ca:List V) (can:Int->Bool) (hcan: ∀a:Int,0<=a->a<3-> ∀es,Br kf es->BK Tryz.prog g (fi++[B6 a []]++ca) (Bk L es) fun r post=>r= .ret (.b (can a))/\GO kf L es post) {es:List Bx} (h:Br kf es) :
    BK Tryz.prog 141 [.f (.func g) fi ca] (Bk L es) fun r post=>r= .ret (.b ((Bd 3).all can))/\GO kf L es post:=by
 intro σ hs;have hM:=Mx;have hT:(Bd 3).all can=(Bd 3).all can:=rfl;generalize G:(Bd 3).all can=R at hT ⊢;refine tb kZ ?_
 conv=>whnf
 repeat'((first|apply st|(apply sq;intro K U)|(apply si;intro A B Y Z)|(apply Y;clear Z B Y A)|(apply U;clear U K)|fail)<;>conv=>whnf)
 refine D3 3 (fun k (_:List Bx)=>[(4,eI (Bq k))]) (fun _ x=>Bk L x) (fun k x=>(Br kf x/\Jb es x)/\R=((Bd 3).drop k).all can) es rfl ⟨⟨h,.refl _⟩,G.symm⟩ hs ?_;clear hs G hT;rintro k x σ hk ⟨⟨hi,hx⟩,hn⟩ hs;have hck:Bq k=k:=AV (by omega);rcases Nat.lt_or_ge k 3 with hlt|hge
 .rw[drop_cons (gh hlt),WX]at hn
  have hc1:=hcan (Bq k) (by omega) (by omega) x hi;have e:can (Bq k)=can (k:Int):=by rw[hck]
  rw[e]at hc1;cases Z:can (k:Int)<;>rw[Z]at hn hc1
  all_goals
   conv=>whnf
   repeat'((first|apply st|(apply sq;intro K U)|(apply si;intro A B Y Z)|(apply Y;clear Z B Y A)|(apply U;clear U K)|refine⟨rfl,?_⟩|(constructor<;>intro hc<;>(try rw[hc])<;>(replace hc:=bp hc)<;>(try simp(disch:=omega) only[Bu,wrap64,AV]at hc)<;>try(exfalso;omega))|fail)<;>conv=>whnf)
   refine BD (hc1.use (rest:=[]) (by simpa using hs) ?_);clear hs;rintro r post σ ⟨rfl,es2,hx2,hi2,rfl⟩ hs;rw[Ep]at hs
   conv=>whnf
   repeat'((first|apply st|(apply sq;intro K U)|(apply si;intro A B Y Z)|(apply Y;clear Z B Y A)|(apply U;clear U K)|refine⟨rfl,?_⟩|refine FX ?_|refine Es ?_|clear U K)<;>conv=>whnf)
  .exact AK ⟨_,⟨by rw[hn];rfl,es2,hx.trans hx2,hi2,rfl⟩,hs⟩
  .exact⟨hlt,es2,rfl,⟨⟨hi2,hx.trans hx2⟩,by rw[hn];rfl⟩,hs⟩
 .rw[List.drop_of_length_le (by rw[PX];omega)]at hn
  conv=>whnf
  repeat'((first|apply st|(apply sq;intro K U)|(apply si;intro A B Y Z)|(apply Y;clear Z B Y A)|(apply U;clear U K)|refine⟨rfl,?_⟩|(constructor<;>intro hc<;>(try rw[hc])<;>(replace hc:=bp hc)<;>(try simp(disch:=omega) only[Bu,wrap64,AV]at hc)<;>try(exfalso;omega))|clear U K)<;>conv=>whnf)
  all_goals try(exfalso;omega)
  all_goals exact AK ⟨_,⟨by rw[hn];rfl,x,hx,hi,rfl⟩,hs⟩
def Q4 (w:AJ) (hw:CY w):QL 140 [] [.rp [.rp (gW w (BQ w.parents))]] w (jf w):=by
 intro l b hl hlen;refine Pure.of ?_;show As Tryz.prog 140 [Jx l b,.rp [.rp (gW w (BQ w.parents))]] _ _;have hr:=U5 hw hl hlen;have hlk:=Vr w (BQ w.parents) l b (LC (by have:=hw.1.1;omega) hl) hlen;have hT:jf w l=(Bd 3).all fun a=>QH w (kg l) a 2 []:=rfl
 rw[hT];refine tc kZ ?_;have hs:=Sn
 conv=>whnf
 repeat'((first|apply st|(apply sq;intro K U)|(apply si;intro A B Y Z)|(apply Y;clear Z B Y A)|(apply U;clear U K)|fail)<;>conv=>whnf)
 refine hlk.use (rest:=[]) (by simpa using hs) ?_;clear hs;rintro r post σ ⟨L,es,rfl,hinv,rfl⟩ hs;rw[Ep]at hs
 conv=>whnf
 refine(Um 143 [.a (gv w (BQ w.parents) L)] [] (fun a=>QH w (kg l) a 2 []) (fun a _ _ es hi=>ml w hw hr a 2 [] rfl es hi) hinv).use (rest:=[]) (by simpa using hs) ?_;clear hs;rintro r post σ ⟨rfl,es2,hx2,hi2,rfl⟩ hs
 conv=>whnf
 repeat'((first|apply st|(apply Y;clear Z B Y A)|(apply U;clear U K)|fail)<;>conv=>whnf)
 exact AK rfl
end Go.Gl
