import Derived.Test.YtijbpgdmpejgoaaGreatProg
import Derived.KernelRfl
import Derived.Test.YtijbpgdmpejgoaaGreatX5
import Derived.Test.YtijbpgdmpejgoaaGreatX14
set_option linter.all false
set_option linter.defProp false
noncomputable section
namespace Go.Gl
open Go.Proofs
attribute [local irreducible] BL A5 Aj AW AN Ai AV AX AO Ah AS AU BA BK Sat Ad BH Al W
abbrev Js (l:Fact):List V:=xF (A2 l).1++[.b (A2 l).2]
abbrev FG (ls:List Fact):List (List V):=ls.map Js
def dt (xs ys:List Int) (f g:Bool):Pure Tryz.prog 273 [.l (iL xs) f,.l (iL ys) g] (.b (xs==ys)):=by
 refine Pure.fit (by kernel_rfl) fun hf=>?_
 have hx:=Iu hf.1;have hy:=Iu hf.2.1;have hM:=Mx;refine kR kZ ?_;have hs:=Sn
 conv=>whnf
 repeat'((first|apply st|(apply sq;intro K U)|(apply si;intro A B Y Z)|(apply Y;clear Z B Y A)|(apply U;clear U K)|refine⟨rfl,?_⟩|(constructor<;>intro hc<;>(try rw[hc])<;>(replace hc:=bp hc)<;>(try simp(disch:=omega) only[BD,wrap64,AL]at hc))|clear U K)<;>conv=>whnf)
 ·exact AI (by(have:(xs==ys)=false:=by(simp;intro e;subst e;simp at hc));rw[this])
 have hl:xs.length=ys.length:=by omega
 refine B4 xs.length (fun k (_:Unit)=>[(13,eI (A3 k))]) (fun _ _=>[]) (fun k _=>(xs==ys)=(xs.drop k==ys.drop k)) () rfl rfl Sat.nil ?_;clear hs;rintro k - σ hk hn hs;rcases BE xs hk with⟨x,hxk,hlt⟩|hke
 ·obtain⟨y,hyk⟩: ∃y,ys[k]? =some y:=⟨_,Ct (by omega)⟩
  rw[drop_cons hxk,drop_cons hyk]at hn
  conv=>whnf
  repeat'((first|apply st|(apply sq;intro K U)|(apply si;intro A B Y Z)|(apply Y;clear Z B Y A)|(apply U;clear U K)|apply dr|refine⟨rfl,?_⟩|refine ix ?_|(refine CA (fun hc=>?_)<;>(try rw[hc])<;>clear hc)|(constructor<;>intro hc<;>(try rw[hc])<;>(replace hc:=bp hc))|clear U K)<;>conv=>whnf)
  ·exact AI (by rw[hn];simp[*])
  ·exact⟨hlt,(),rfl,by rw[hn];simp[*],hs⟩
 ·conv=>whnf
  repeat'((first|apply st|(apply sq;intro K U)|(apply si;intro A B Y Z)|(apply Y;clear Z B Y A)|(apply U;clear U K)|refine⟨rfl,?_⟩|(refine DU (fun hc=>?_)<;>(try rw[hc])<;>clear hc)|clear U K)<;>conv=>whnf)
  exact AI (by rw[hn,Ag hke,Ag (by omega)];rfl)
def eo (a b:Bool) (u:V):Pure Tryz.prog 274 [.l [] a,.l [] b,u] (.b true):=by
 refine kQ kZ ?_;have hs:=Sn;have hM:=Mx
 conv=>whnf
 repeat'((first|apply st|(apply sq;intro K U)|(apply si;intro A B Y Z)|(apply Y;clear Z B Y A)|(apply U;clear U K)|refine⟨rfl,?_⟩|(constructor<;>intro hc<;>(try rw[hc])<;>(replace hc:=bp hc)<;>(try simp(disch:=omega) only[BD,wrap64,AL]at hc)<;>try(exfalso;omega))|fail)<;>conv=>whnf)
 refine B4 0 (fun k (_:Unit)=>[(17,eI (A3 k))]) (fun _ _=>[]) (fun _ _=>True) () rfl trivial Sat.nil ?_;clear hs;rintro k - σ hk - hs;obtain rfl:k=0:=by omega
 conv=>whnf
 repeat'((first|apply st|(apply sq;intro K U)|(apply si;intro A B Y Z)|(apply Y;clear Z B Y A)|(apply U;clear U K)|refine⟨rfl,?_⟩|(constructor<;>intro hc<;>(try rw[hc])<;>(replace hc:=bp hc)<;>(try simp(disch:=omega) only[BD,wrap64,AL]at hc))|clear U K)<;>conv=>whnf)
 ·exfalso
  simp at hc
 ·exact AI rfl
set_option maxHeartbeats 1000000 in
def du (f g:Fact) (hf:f.kids= []) (hg:g.kids= []):Pure Tryz.prog 258 [.a (xF f),.a (xF g)] (.b (Fc f g)):=by
 have e:Fc f g=(f.op==g.op&&(f.arg==g.arg&&(f.cls==g.cls&&(f.n==g.n&&f.path==g.path)))):=by
  rw[Ky,hf,hg];simp[Pc]
 obtain⟨o,a,p,c,n,k⟩:=f;obtain⟨o',a',p',c',n',k'⟩:=g;simp only[Fact.kids]at hf hg;subst hf;subst hg;refine kr kZ ?_;have hs:=Sn;rw[e]
 conv=>whnf
 repeat'((first|apply st|(apply sq;intro K U)|(apply si;intro A B Y Z)|(apply Y;clear Z B Y A)|(apply U;clear U K)|refine⟨rfl,?_⟩|refine Pure.use (dt _ _ _ _) ?_|refine Pure.use (eo _ _ _) ?_|(constructor<;>intro hc<;>(try rw[hc])<;>(replace hc:=bp hc))|fail)<;>conv=>whnf)
 all_goals simp only[Fact.op,Fact.arg,Fact.cls,Fact.n,Fact.path]at *
 all_goals exact AI (by simp[*])
def Uo:EO Js 7:=fun l=>by
 refine⟨rfl,fun v hv=>?_⟩;rcases Fo.1 hv with hv|hv
 ·exact(J0 (A2 l).1).2 v (by show v∈Fx (A2 l).1;rw[Be];exact hv)
 ·simp at hv;subst hv;rfl
def Px (x y:Fact):Bool:=(A2 x).2==(A2 y).2&&Fc (A2 x).1 (A2 y).1
abbrev WC (l:Fact):Prop:=(A2 l).1.kids= []
abbrev iK (f:Fact→Bool):Fact→Unit→Bool×Unit:=fun y _=>(f y,())
def dv (x:Fact) (hx1:WC x) (n:Nat):DD Tryz.prog (.f (.func 257) [] [.p n 0]) (fun y=> .a (Js y)) (fun _:Unit=>[.box n (Js x)]) (iK (Px x)) (fun y _=>WC y):=by
 intro y s hy1 σ hs;refine Bp ?_;show BL Tryz.prog 257 ([]++[.a (Js y)]++[.p n 0]) σ _;refine ku kZ ?_;unfold Px
 conv=>whnf
 repeat'((first|apply st|(apply sq;intro K U)|(apply si;intro A B Y Z)|(apply Y;clear Z B Y A)|(apply U;clear U K)|refine⟨kZ,?_⟩|refine ld ?_|refine Pure.use (du _ _ hx1 hy1) ?_|(constructor<;>intro hc<;>(try rw[hc])<;>(replace hc:=bp hc))|fail)<;>conv=>whnf)
 all_goals exact AR ⟨by simp[iK, *],hs⟩
section
variable {S:Type} (g:FuncId) (fi ca:List V) (H:S→List At)
def Pk (stp:Fact→S→Bool×S) (D:Fact→S→Prop) {v:V} {xs:List Fact} (hst:DD Tryz.prog (.f (.func g) fi ca) (fun y=> .a (Js y)) (fun s=> .own v 7 (FG xs)::H s) stp D) (hxl:xs.length≤Ac) (s0:S) (hd:UZ stp D xs s0) :
    Bj Tryz.prog 272 [v,.f (.func g) fi ca] (.own v 7 (FG xs)::H s0) fun r post=>r= .ret (eI (Bo stp xs 0 s0).1)∧post= .own v 7 (FG xs)::H (Bo stp xs 0 s0).2:=by
 intro σ hs;have hM:=Mx;refine kS kZ ?_
 conv=>whnf
 repeat'((first|apply st|(apply sq;intro K U)|(apply si;intro A B Y Z)|(apply Y;clear Z B Y A)|(apply U;clear U K)|refine lo ?_|fail)<;>conv=>whnf)
 refine B4 xs.length (fun k (_:S)=>[(8,eI (A3 k))]) (fun _ s=> .own v 7 (FG xs)::H s) (fun k s=>UZ stp D (xs.drop k) s∧Bo stp xs 0 s0=Bo stp (xs.drop k) k s) s0 rfl ⟨hd,rfl⟩ hs ?_;clear hs;rintro k s σ hk ⟨hd,hn⟩ hs;have hck:A3 k=k:=AL (by omega);rcases BE xs hk with⟨y,hy,hlt⟩|hke
 ·rw[drop_cons hy]at hn hd
  obtain⟨hd1,hd2⟩:=hd;rw[Bo]at hn
  conv=>whnf
  repeat'((first|apply st|(apply sq;intro K U)|(apply si;intro A B Y Z)|(apply Y;clear Z B Y A)|(apply U;clear U K)|refine⟨rfl,?_⟩|refine⟨kZ,?_⟩|refine oi ?_|refine ol fun x hx=>?_|(refine CA (fun hc=>?_)<;>(try rw[hc])<;>clear hc)|fail)<;>conv=>whnf)
  obtain rfl:x=y:=by rw[hck,IT,hy]at hx;exact(Option.some.inj hx).symm
  refine hst.use hd1 hs ?_;clear hs;intro σ hs;cases hyes:(stp x s).1
  ·rw[hyes,if_neg (by decide)]at hn
   conv=>whnf
   repeat'((first|apply st|(apply si;intro A B Y Z)|(apply Y;clear Z B Y A)|(apply U;clear U K)|refine⟨rfl,?_⟩|clear U K)<;>conv=>whnf)
   exact⟨hlt,_,rfl,⟨hd2,hn⟩,hs⟩
  ·rw[hyes,if_pos rfl]at hn
   conv=>whnf
   repeat'((first|apply st|(apply sq;intro K U)|(apply si;intro A B Y Z)|(apply Y;clear Z B Y A)|(apply U;clear U K)|clear U K)<;>conv=>whnf)
   rw[hn];exact AR ⟨_,⟨by rw[hck],rfl⟩,hs⟩
 ·rw[Ag hke,Bo]at hn
  conv=>whnf
  repeat'((first|apply st|(apply sq;intro K U)|(apply si;intro A B Y Z)|(apply Y;clear Z B Y A)|(apply U;clear U K)|refine⟨rfl,?_⟩|(refine DU (fun hc=>?_)<;>(try rw[hc])<;>clear hc)|clear U K)<;>conv=>whnf)
  rw[hn];exact AR ⟨_,⟨rfl,rfl⟩,hs⟩
def MT (stp:Fact→S→Bool×S) (D:Fact→S→Prop) {v:V} {xs:List Fact} (hst:DD Tryz.prog (.f (.func g) fi ca) (fun y=> .a (Js y)) (fun s=> .own v 7 (FG xs)::H s) stp D) (hxl:xs.length≤Ac) (s0:S) (hd:UZ stp D xs s0) :
    Bj Tryz.prog 256 [v,.f (.func g) fi ca] (.own v 7 (FG xs)::H s0) fun r post=>r= .ret (.b (decide ((Bo stp xs 0 s0).1≥0)))∧post= .own v 7 (FG xs)::H (Bo stp xs 0 s0).2:=by
 intro σ hs;refine kx kZ ?_
 conv=>whnf
 repeat'((first|(apply sq;intro K U)|(apply si;intro A B Y Z)|(apply Y;clear Z B Y A)|(apply U;clear U K)|fail)<;>conv=>whnf)
 refine(Pk g fi ca H stp D hst hxl s0 hd).use (rest:=[]) (by simpa using hs) ?_;rintro r post σ ⟨rfl,rfl⟩ hs
 conv=>whnf
 repeat'((first|apply st|(apply Y;clear Z B Y A)|(apply U;clear U K)|refine⟨rfl,?_⟩|fail)<;>conv=>whnf)
 exact AR ⟨_,⟨rfl,rfl⟩,by simpa using hs⟩
end
def cM (a:List Fact) (f:Bool) (hl:a.length≤1000000):Bj Tryz.prog 255 [.l (FG a) f] [] fun r post=> ∃v,r= .ret v∧post= [.own v 7 (FG a)]:=by
 intro σ hs;have hM:=Mx;refine ky kZ ?_
 conv=>whnf
 repeat'((first|(apply sq;intro K U)|(apply si;intro A B Y Z)|(apply Y;clear Z B Y A)|(apply U;clear U K)|fail)<;>conv=>whnf)
 refine⟨fun e t=>?_,fun _=>?_⟩
 ·have hxe:a= []:=List.map_eq_nil_iff.1 e
  subst hxe
  conv=>whnf
  repeat'((first|apply st|(apply sq;intro K U)|(apply si;intro A B Y Z)|(apply Y;clear Z B Y A)|(apply U;clear U K)|(constructor<;>intro hc<;>(try rw[hc])<;>(replace hc:=bp hc))|clear U K)<;>conv=>whnf)
  ·exact AR ⟨_,⟨_,rfl,rfl⟩,Cx hs 7⟩
  ·replace hs:=Cx hs 7
   refine HN hs 0 (xs:=[]) (ys:=[]) rfl (by simp) Uo fun v σ hs=>?_
   conv=>whnf
   repeat'((first|apply st|(apply Y;clear Z B Y A)|(apply U;clear U K)|fail)<;>conv=>whnf)
   exact AR ⟨_,⟨_,rfl,rfl⟩,hs⟩
 ·conv=>whnf
  repeat'((first|apply st|(apply sq;intro K U)|(apply si;intro A B Y Z)|(apply Y;clear Z B Y A)|(apply U;clear U K)|fail)<;>conv=>whnf)
  replace hs:=Cx hs 7;refine HN hs 0 (xs:=[]) (ys:=a) rfl (by simp;omega) Uo fun v σ hs=>?_
  conv=>whnf
  repeat'((first|apply st|(apply Y;clear Z B Y A)|(apply U;clear U K)|fail)<;>conv=>whnf)
  exact AR ⟨_,⟨_,rfl,rfl⟩,hs⟩
def TB {w:AK} {x:Fact} (h:Ic w x):x=if(A2 x).2 then Fb (A2 x).1 else(A2 x).1:=by
 obtain⟨g,hn,hl,rfl|rfl⟩:=h
 ·have:=F0 hl
  have h5: ¬x.op=5:=by omega
  simp only[A2,if_neg h5];rfl
 ·rfl
def WU {w:AK} {x y:Fact} (hx1:Ic w x) (hy1:Ic w y):Px x y=Fc x y:=by
 rw[Le,MB];simp only[Px,BZ,Dn,MB];constructor
 ·rintro⟨h1,h2⟩
  rw[TB hx1,TB hy1,h1,h2]
 ·rintro rfl
  exact⟨rfl,rfl⟩
def QV {w:AK} {x:Fact} (h:Ic w x):WC x:=by
 obtain⟨-,hn,hl⟩:=HW h;have hlo:=F0 hl;have har:=C3 _ hn;rw[LG,BZ,Dn]at har
 have h0:CH (A2 x).1.op=0:=by
  have h5: ¬(A2 x).1.op=5:=by omega
  have h6: ¬((A2 x).1.op=6∨(A2 x).1.op=7):=by omega
  simp[CH,h5,h6]
  try omega
 rw[h0]at har;exact cz.1 har.1
def YN {w:AK} (a b:List Fact) (f g:Bool) (hla: ∀x∈a,Ic w x) (hlb: ∀x∈b,Ic w x) (hl:a.length+b.length<1000000):Pure Tryz.prog 228 [.l (FG a) f,.l (FG b) g] (.l (FG (CX a b)) false):=by
 have hM:=Mx;refine Pure.of ?_;refine lN kZ ?_;have hs:=Sn
 conv=>whnf
 repeat'((first|(apply sq;intro K U)|(apply si;intro A B Y Z)|(apply Y;clear Z B Y A)|(apply U;clear U K)|fail)<;>conv=>whnf)
 refine(cM a f (by omega)).use (rest:=[]) (by simpa using hs) ?_;clear hs;rintro r post σ ⟨v,rfl,rfl⟩ hs
 conv=>whnf
 repeat'((first|apply st|(apply sq;intro K U)|(apply si;intro A B Y Z)|(apply Y;clear Z B Y A)|(apply U;clear U K)|fail)<;>conv=>whnf)
 refine B4 b.length (fun k v=>[(5,v),(12,eI (A3 k))]) (fun k v=>[.own v 7 (FG (CX a (b.take k)))]) (fun _ _=>True) v rfl trivial hs ?_;clear hs;rintro k v σ hk - hs;have hml:=MJ a (b.take k);rw[LZ]at hml;rcases BE b hk with⟨x,hxk,hlt⟩|hke
 ·have hsn:=O4 a (b.take k) x
  rw[←AQ hxk]at hsn;have hxg:=hlb x (B1 hxk)
  have hmem: ∀y∈CX a (b.take k),Ic w y:=fun y hy=>by
   rcases QZ _ _ _ hy with h|h
   ·exact hla y h
   ·exact hlb y (List.mem_of_mem_take h)
  generalize CX a (b.take k)=m at *
  have hany:m.any (Px x)=m.any (Fc x):=by
   rw[Le,JY,JY];exact⟨fun⟨y,hy,h⟩=>⟨y,hy,by rw[←WU hxg (hmem y hy)];exact h⟩,fun⟨y,hy,h⟩=>⟨y,hy,by rw[WU hxg (hmem y hy)];exact h⟩⟩
  conv=>whnf
  repeat'((first|apply st|(apply sq;intro K U)|(apply si;intro A B Y Z)|(apply Y;clear Z B Y A)|(apply U;clear U K)|refine⟨rfl,?_⟩|refine⟨kZ,?_⟩|refine ix ?_|refine DB fun σ hs=>?_|(refine CA (fun hc=>?_)<;>(try rw[hc])<;>clear hc)|(intro nn hnn;generalize hg:A6 _ nn _=σ;refine CW hg fun hs=>?_;clear hg)|fail)<;>conv=>whnf)
  generalize nn=n7 at *;have hs2:Sat σ [.own v 7 (FG m),.box n7 (Js x)]:=hs.perm (.swap _ _ _);clear hs hnn;refine(MT 257 [] [.p n7 0] (fun _:Unit=>[.box n7 (Js x)]) (iK (Px x)) (fun y _=>WC y) ((dv x (QV hxg) n7).more [_]) (by omega) () (G3 fun y hy _=>QV (hmem y hy))).use (rest:=[]) hs2 ?_;clear hs2;rintro r post σ ⟨rfl,rfl⟩ hs;rw[LC,hany];cases hy:m.any (Fc x)
  ·rw[hy,if_neg Bool.false_ne_true]at hsn
   conv=>whnf
   repeat'((first|apply st|(apply si;intro A B Y Z)|(apply Y;clear Z B Y A)|(apply U;clear U K)|refine⟨kZ,?_⟩|refine ld ?_|refine E2 ?_|fail)<;>conv=>whnf)
   refine GQ (Fv (x:=x) (xs:=m) (enc:=Js) hs 0 rfl (by omega) Uo fun v σ hs hsl=>?_)
   conv=>whnf
   repeat'((first|(apply si;intro A B Y Z)|(apply Y;clear Z B Y A)|(apply U;clear U K)|refine⟨rfl,?_⟩|clear U K)<;>conv=>whnf)
   exact⟨hlt,v,rfl,trivial,by rw[hsn];exact hs.less (.cons₂ _ (LY _))⟩
  ·rw[hy,if_pos rfl]at hsn
   conv=>whnf
   repeat'((first|apply st|(apply si;intro A B Y Z)|(apply Y;clear Z B Y A)|(apply U;clear U K)|refine⟨rfl,?_⟩|refine D2 ?_|clear U K)<;>conv=>whnf)
   exact⟨hlt,v,rfl,trivial,by rw[hsn];exact hs.less (.cons₂ _ (LY _))⟩
 ·conv=>whnf
  repeat'((first|apply st|(apply sq;intro K U)|(apply si;intro A B Y Z)|(apply Y;clear Z B Y A)|(apply U;clear U K)|refine⟨rfl,?_⟩|(refine DU (fun hc=>?_)<;>(try rw[hc])<;>clear hc)|clear U K)<;>conv=>whnf)
  exact Y2 (EW hs 0 rfl (vf:= .l (FG (CX a b)) false) (by rw[Au hke])) fun r σ h=>h.1
end Go.Gl
namespace Go.Gl
open Go.Proofs
abbrev aV:AJ:=(.seq [0,3] (.Av [⟨(some 3),.Sd (.t 1),none⟩,
 ⟨(some 4),.mv (.c .pn),none⟩])
 (.seq [0,3,5,6] (.BR [0,3,5,6] [⟨0,⟨(some 8),.mv (.t 0),none⟩,[],[]⟩,
  ⟨1,⟨(some 9),.Ff (.t 8),none⟩,[],[]⟩,
  ⟨2,⟨(some 10),.Jh 1 (.t 9),none⟩,[],[]⟩,
  ⟨3,⟨(some 11),.load none (.t 10),none⟩,[],[]⟩,
  ⟨4,⟨(some 12),.load (some 4) (.t 3),none⟩,[],[]⟩,
  ⟨5,⟨(some 13),.lookup (.a [.i64,.i64,.i64,.i64]) .pn true (.t 11) (.t 12),none⟩,[],[]⟩,
  ⟨6,⟨(some 7),.mv (.t 13),none⟩,[],[]⟩,
  ⟨7,⟨(some 14),.extract 0 (.t 7),none⟩,[],[]⟩,
  ⟨8,⟨(some 15),.extract 1 (.t 7),none⟩,[],[]⟩,
  ⟨9,⟨(some 5),.mv (.t 14),none⟩,[],[]⟩,
  ⟨10,⟨(some 6),.mv (.t 15),none⟩,[],[]⟩])
 (.seq [5] (.seq [0,3,5,17] (.Av [⟨(some 16),.mv (.t 6),none⟩,
  ⟨(some 17),.not (.t 16),none⟩])
 (.cond (.t 17)
 (.seq [0,3,5] (.Av [⟨(some 18),.build [(.i .i64 0),(.i .i64 0),(.l [] true)] [(0,1,(.c (.i .i64 (-1000000000)))),(1,1,(.c (.i .i64 1000000000)))],none⟩,
  ⟨(some 19),.build [(.i .i64 0),(.i .i64 0),(.l [] true),(.i .u64 0),(.i .u64 0),(.b false),(.b false),(.l [] true)] [(0,3,(.t 18))],none⟩,
  ⟨(some 20),.box (.t 19),none⟩,
  ⟨(some 5),.mv (.t 20),none⟩])
 (.BR [5] [⟨0,⟨(some 21),.mv (.t 0),none⟩,[],[]⟩,
  ⟨1,⟨(some 22),.Ff (.t 21),none⟩,[],[]⟩,
  ⟨2,⟨(some 23),.Jh 1 (.t 22),none⟩,[],[]⟩,
  ⟨3,⟨(some 24),.load none (.t 23),none⟩,[],[]⟩,
  ⟨4,⟨(some 25),.load (some 4) (.t 3),none⟩,[],[]⟩,
  ⟨5,⟨(some 26),.mv (.t 5),none⟩,[],[]⟩,
  ⟨6,⟨none,.EG (.a [.i64,.i64,.i64,.i64]) (.t 24) (.t 25) (.t 26),none⟩,[],[]⟩]))
 .skip))
 (.seq [4] (.Av [⟨(some 27),.mv (.t 5),none⟩,
  ⟨(some 4),.mv (.t 27),none⟩])
 .ret))))
def dx:Tryz.f275.body.bind (res Tryz.prog Tryz.f275.ntmps [] [3])=some (erase aV):=by kernel_rfl
def fV {args:List V} (hn:args.length≤28) {σ:AH} {Q:R→AH→Prop} (h:W Tryz.prog aV (dZ [4] Q) (C7 0 args) σ):BL Tryz.prog 275 args σ Q:=
 PF Tryz.func275 (by kernel_rfl) dx rfl hn (iH h)
end Go.Gl
namespace Go.Gl
open Go.Proofs
attribute [local irreducible] BL A5 Aj AW AN Ai AV AX AO Ah AS AU BA BK Sat Ad BH Al W
abbrev SU (w:AK) (us:List Nat) (L:Nat):V:= .rp [.rp (wC w us),.m L]
def PZ (es es':List DA):Prop:= ∃new:List DA,es'=es++new∧ ∀x∈new,x.k=k0
def PZ.refl (es:List DA):PZ es es:=⟨[],by simp,by simp⟩
def PZ.trans {a b c:List DA} (h1:PZ a b) (h2:PZ b c):PZ a c:=by
 obtain⟨x,rfl,hx⟩:=h1;obtain⟨y,rfl,hy⟩:=h2;refine⟨x++y,by simp,fun z hz=>?_⟩;rcases Fo.1 hz with h|h
 ·exact hx z h
 ·exact hy z h
def PZ.mem {a b:List DA} (h:PZ a b) {e:DA} (he:e∈a):e∈b:=by
 obtain⟨x,rfl,_⟩:=h;exact PU _ he
structure ic (kf:Int→List Int→Kn) (es es':List DA) (a:Int) (p:List Int) (e:DA):Prop where
 inv:D5 kf es'
 ext:PZ es es'
 mem:e∈es'
 is:e.is a p=true
def ic.k {kf:Int→List Int→Kn} {es es':List DA} {a:Int} {p:List Int} {e:DA} (h:ic kf es es' a p e):e.k=kf a p:=by
 have:=h.inv.val e h.mem;obtain⟨h1,h2⟩:=Jz.1 h.is;rw[this,h1,h2]
def Lz {σ:AH} {l:List At} (h:Sat σ l) (i:Nat) {n:Nat} {kvs:List (V×V)} {ks:KS} {z vk:V} {ok:Bool} {o:Option V} (hi:l[i]? =some (.map n kvs)) (hk:Bt ks vk=true) (hks: ∀kv∈kvs,Bt ks kv.1=true) (hf:DH vk kvs=o) {K:V→Prop} (h':K (found z ok o)) :
    AS σ ks z ok (.m n) vk K:=JG h i hi hk hks (hf ▸ h')
def Kf (w:AK) (us:List Nat) {kf:Int→List Int→Kn} {L:Nat} {es:List DA} (h:D5 kf es) {a:Int} {p:List Int} (hp:p.length≤2) :
    Bj Tryz.prog 275 [SU w us L,Ek a p] (CJ L es) fun r post=> ∃es' e,ic kf es es' a p e∧r= .ret (.p e.b 0)∧post=CJ L es':=by
 intro σ hs;refine fV kZ ?_;unfold CJ at hs;rcases gM a p es with hn|⟨pre,e,post,rfl,he,hpre⟩
 ·have hf:=TS hp h.len hn
  conv=>whnf
  repeat'((first|apply st|(apply sq;intro K U)|(apply si;intro A B Y Z)|(apply Y;clear Z B Y A)|(apply U;clear U K)|apply dr|refine⟨kZ,?_⟩|refine E2 ?_|refine Lz hs 0 rfl rfl (OF _) hf ?_|refine Hv hs 1 rfl rfl (OF _) fun σ hs=>?_|(intro nn hnn;generalize hg:A6 _ nn _=σ;refine CW hg fun hs=>?_;clear hg)|fail)<;>conv=>whnf)
  simp only[List.set_cons_succ,List.set_cons_zero]at hs;change Sat σ (_:: .map L (EN (Ek a p) (.p nn 0) (US es))::_)at hs;rw[Zt hp nn (.l [] true) (.l [] true) k0 h.len hn]at hs;have hs2:=Cx (Cx hs 1) 1;refine AR ⟨_,⟨es++[⟨a,p,nn,.l [] true,.l [] true,k0⟩],⟨a,p,nn,.l [] true,.l [] true,k0⟩,⟨h.add hp hn _ _ _,⟨_,rfl,by simp⟩,by simp,by simp[DA.is]⟩,rfl,rfl⟩,?_⟩;unfold CJ;rw[List.flatMap_append,List.flatMap_cons,List.flatMap_nil,Hj];refine hs2.perm ((List.perm_middle (l₁:=[_,_,_])).trans (.cons _ (Po.trans (List.Perm.append_left _ (List.reverse_perm _).symm))))
 ·have hf:=TR hp he h.len hpre
  conv=>whnf
  repeat'((first|apply st|(apply sq;intro K U)|(apply si;intro A B Y Z)|(apply Y;clear Z B Y A)|(apply U;clear U K)|apply dr|refine⟨kZ,?_⟩|refine D2 ?_|refine Lz hs 0 rfl rfl (OF _) hf ?_|fail)<;>conv=>whnf)
  exact AR ⟨_,⟨_,e,⟨h,.refl _,by simp,he⟩,rfl,rfl⟩,hs⟩
def NL (a:Int) (p:List Int) (s:Int) (hp:p.length<2):Pure Tryz.prog 276 [Ek a p,eI s] (Ek a (p++[s])):=by
 refine kP kZ ?_;have hs:=Sn
 match p,hp with
 | [],_=>
   conv=>whnf
   repeat'((first|apply st|(apply sq;intro K U)|(apply si;intro A B Y Z)|(apply Y;clear Z B Y A)|(apply U;clear U K)|refine⟨rfl,?_⟩|refine⟨kZ,?_⟩|refine UT ?_|refine ld ?_|refine FB fun σ hs=>?_|refine DB fun σ hs=>?_|(intro nn hnn;generalize hg:A6 _ nn _=σ;refine CW hg fun hs=>?_;clear hg)|fail)<;>conv=>whnf)
   all_goals exact AI rfl
 | [x],_=>
   conv=>whnf
   repeat'((first|apply st|(apply sq;intro K U)|(apply si;intro A B Y Z)|(apply Y;clear Z B Y A)|(apply U;clear U K)|refine⟨rfl,?_⟩|refine⟨kZ,?_⟩|refine UT ?_|refine ld ?_|refine FB fun σ hs=>?_|refine DB fun σ hs=>?_|(intro nn hnn;generalize hg:A6 _ nn _=σ;refine CW hg fun hs=>?_;clear hg)|fail)<;>conv=>whnf)
   all_goals exact AI rfl
set_option maxHeartbeats 1000000 in
def oT {b:Nat} {vn vs:V} {k:Kn} (f:Fact) (c:Bool) (hl:f.op=2∨f.op=3∨f.op=4) (hc:f.op=2→0≤f.cls∧f.cls<64) (hm:k.CE<18446744073709551616) (hn:k.Ga<18446744073709551616) (hno:k.no.length<1000000) (hN: -1000000000≤f.n∧f.n≤1000000000) :
    Bj Tryz.prog 277 [.p b 0,.a (xF f++[.b c])] (iZ b vn vs k) fun r post=>r= .ret (.t [])∧ ∃vn',post=iZ b vn' vs (Cu k f c):=by
 intro σ hs;have hM:=Mx;refine kO kZ ?_;rw[show xF f++[V.b c]= [eI f.op,eI f.arg,.l (iL f.path) false,eI f.cls,eI f.n,.l (f.kids.map Fx) false,.b c] from rfl];have hw:IntKind.i64.wrap (f.n - 1)=f.n - 1:=wrap64 (by omega) (by omega);cases c<;>rcases hl with h2|h3|h4
 ·have hE:Cu k f false= {k with CE:=k.CE|||2 ^ f.cls.toNat}:=by rw[Cu,if_pos h2,if_neg Bool.false_ne_true]
  rw[hE]
  conv=>whnf
  repeat'((first|apply st|(apply sq;intro K U)|(apply si;intro A B Y Z)|(apply Y;clear Z B Y A)|(apply U;clear U K)|apply dr|refine⟨rfl,?_⟩|refine ld ?_|refine FB fun σ hs=>?_|refine D2 ?_|refine Pure.use (HR _ _ hm (by omega) (by omega)) ?_|(constructor<;>intro hc<;>(try rw[hc])<;>(replace hc:=bp hc)<;>try(exfalso;omega))|fail)<;>conv=>whnf)
  exact AR ⟨_,⟨rfl,vn,rfl⟩,hs⟩
 ·have hE:Cu k f false= {k with high:=if f.n - 1<k.high then f.n - 1 else k.high,whole:=true}:=by rw[Cu,if_neg (by omega),if_pos h3,if_neg Bool.false_ne_true]
  rw[hE]
  conv=>whnf
  repeat'((first|apply st|(apply sq;intro K U)|(apply si;intro A B Y Z)|(apply Y;clear Z B Y A)|(apply U;clear U K)|apply dr|refine⟨rfl,?_⟩|refine ld ?_|refine FB fun σ hs=>?_|refine D2 ?_|(constructor<;>intro hc<;>(try rw[hc])<;>(replace hc:=bp hc)<;>try(exfalso;omega))|fail)<;>conv=>whnf)
  rw[hw]at hs;exact AR ⟨_,⟨rfl,vn,rfl⟩,hs⟩
 ·have hE:Cu k f false= {k with low:=if f.n > k.low then f.n else k.low,high:=if f.n<k.high then f.n else k.high,whole:=true}:=by rw[Cu,if_neg (by omega),if_neg (by omega),if_neg Bool.false_ne_true]
  rw[hE]
  conv=>whnf
  repeat'((first|apply st|(apply sq;intro K U)|(apply si;intro A B Y Z)|(apply Y;clear Z B Y A)|(apply U;clear U K)|apply dr|refine rk ?_ ?_|exact fun s e=>by cases e;rfl|refine⟨rfl,?_⟩|refine ld ?_|refine FB fun σ hs=>?_|(constructor<;>intro hc<;>(try rw[hc])<;>(replace hc:=bp hc)<;>try(exfalso;omega))|fail)<;>conv=>whnf)
  exact AR ⟨_,⟨rfl,vn,rfl⟩,hs⟩
 ·have hE:Cu k f true= {k with Ga:=k.Ga|||2 ^ f.cls.toNat}:=by rw[Cu,if_pos h2,if_pos rfl]
  rw[hE]
  conv=>whnf
  repeat'((first|apply st|(apply sq;intro K U)|(apply si;intro A B Y Z)|(apply Y;clear Z B Y A)|(apply U;clear U K)|apply dr|refine⟨rfl,?_⟩|refine ld ?_|refine FB fun σ hs=>?_|refine E2 ?_|refine Pure.use (HR _ _ hn (by omega) (by omega)) ?_|(constructor<;>intro hc<;>(try rw[hc])<;>(replace hc:=bp hc)<;>try(exfalso;omega))|fail)<;>conv=>whnf)
  exact AR ⟨_,⟨rfl,vn,rfl⟩,hs⟩
 ·have hE:Cu k f true= {k with low:=if f.n > k.low then f.n else k.low}:=by rw[Cu,if_neg (by omega),if_pos h3,if_pos rfl]
  rw[hE]
  conv=>whnf
  repeat'((first|apply st|(apply sq;intro K U)|(apply si;intro A B Y Z)|(apply Y;clear Z B Y A)|(apply U;clear U K)|apply dr|refine⟨rfl,?_⟩|refine ld ?_|refine FB fun σ hs=>?_|refine E2 ?_|(constructor<;>intro hc<;>(try rw[hc])<;>(replace hc:=bp hc)<;>try(exfalso;omega))|fail)<;>conv=>whnf)
  exact AR ⟨_,⟨rfl,vn,rfl⟩,hs⟩
 ·have hE:Cu k f true= {k with no:=k.no++[f.n]}:=by rw[Cu,if_neg (by omega),if_neg (by omega),if_pos rfl]
  rw[hE]
  conv=>whnf
  repeat'((first|apply st|(apply sq;intro K U)|(apply si;intro A B Y Z)|(apply Y;clear Z B Y A)|(apply U;clear U K)|apply dr|refine⟨rfl,?_⟩|refine ld ?_|refine FB fun σ hs=>?_|refine aq fun v σ hs hsl=>?_|(constructor<;>intro hc<;>(try rw[hc])<;>(replace hc:=bp hc)<;>try(exfalso;omega))|fail)<;>conv=>whnf)
  exact AR ⟨_,⟨rfl,_,rfl⟩,hs⟩
def HK {σ:AH} {X:List At} {L:Nat} {pre post:List DA} {e:DA} (h:Sat σ (X++CJ L (pre++e::post))):Sat σ (.box e.b [eI e.k.low,eI e.k.high,e.vn,eU e.k.CE,eU e.k.Ga,.b e.k.whole,.b e.k.BC,e.vs]:: .own e.vn 1 (iL e.k.no):: .own e.vs 1 (iL e.k.AT)::(X++HI L (pre++e::post) pre post)):=by
 have h2:Sat σ (Su e++(X++HI L (pre++e::post) pre post)):=h.perm ((List.Perm.append_left X (TY L pre post e)).trans (by rw[←SS,←SS];exact Po.append_right _));exact h2
def Eb {σ:AH} {X:List At} {L:Nat} {pre post:List DA} {e e':DA} (h1:e'.a=e.a) (h2:e'.p=e.p) (h3:e'.b=e.b) (h:Sat σ (Su e'++(X++HI L (pre++e::post) pre post))):Sat σ (X++CJ L (pre++e'::post)):=by
 rw[←R8 h1 h2 h3]at h;exact h.perm ((List.Perm.append_left X (TY L pre post e')).trans (by rw[←SS,←SS];exact Po.append_right _)).symm
def IK {α:Type} (a b c:α) (l:List α):(a::b::c::l).Perm (b::c::a::l):=(List.Perm.swap _ _ _).trans (.cons _ (.swap _ _ _))
def MH {α:Type} (a:α) (l:List α):(a::l).Perm (l++[a]):=(List.perm_append_singleton a l).symm
def gC (m:Nat) (k:Kn):Prop:=k.CE<18446744073709551616∧k.Ga<18446744073709551616∧k.no.length≤m∧k.AT.length≤m
def ed (f:Fact) (c:Bool) (j:Nat) (a:Int) (p:List Int) (k:Kn):(Dj f c j a p k).CE=k.CE:=by unfold Dj;(repeat' split)<;>rfl
def jo (f:Fact) (c:Bool) (j:Nat) (a:Int) (p:List Int) (k:Kn):(Dj f c j a p k).Ga=k.Ga:=by unfold Dj;(repeat' split)<;>rfl
def pj (f:Fact) (c:Bool) (j:Nat) (a:Int) (p:List Int) (k:Kn):(Dj f c j a p k).no=k.no:=by unfold Dj;(repeat' split)<;>rfl
def bk (f:Fact) (c:Bool) (j:Nat) (a:Int) (p:List Int) (k:Kn):(Dj f c j a p k).AT.length≤k.AT.length+1:=by
 unfold Dj
 repeat' split
 ·exact Q2 _ _
 all_goals simp[Ds]
def ph {m:Nat} {k:Kn} (h:gC m k) (f:Fact) (c:Bool) (j:Nat) (a:Int) (p:List Int):gC (m+1) (Dj f c j a p k):=by
 obtain⟨h1,h2,h3,h4⟩:=h;refine⟨by rw[ed];exact h1,by rw[jo];exact h2,by rw[pj];omega,?_⟩;have:=bk f c j a p k;omega
def QT {k:Kn} (c:Bool) (h:k.BC=true):Ds k c= {k with BC:=true}:=by simp[Ds,h]
def Ow {k:Kn} (c:Bool) (h:k.BC=false):Ds k c= {k with BC:= !c}:=by simp[Ds,h]
abbrev KO (a:Int) (p:List Int):List V:=[eI a,eI (p.length:Int),eI (p.getD 0 0),eI (p.getD 1 0)]
structure Zc (f:Fact):Prop where
 op:f.op=2∨f.op=3∨f.op=4
 path:f.path.length≤2
 cls:f.op=2→0≤f.cls∧f.cls<64
 n: -1000000000≤f.n∧f.n≤1000000000
set_option maxHeartbeats 2000000 in
def fu (w : AK) (us:List Nat) {kf:Int→List Int→Kn} {L:Nat} {es:List DA} (h:D5 kf es) (f:Fact) (c:Bool) (hl:Zc f) {m:Nat} (hm:m<1000) (hb: ∀a p,gC m (kf a p)) :
    Bj Tryz.prog 259 [SU w us L,.a (xF f++[.b c])] (CJ L es) fun r post=>r= .ret (.t [])∧ ∃es',D5 (fun a p=>if a=f.arg∧p=f.path then Cu (Dj f c f.path.length a p (kf a p)) f c else Dj f c f.path.length a p (kf a p)) es'∧post=CJ L es':=by
 intro σ hs;have hM:=Mx;obtain⟨l1,l2,l3,l4⟩:=hl;refine kq kZ ?_;rw[show xF f++[V.b c]= [eI f.op,eI f.arg,.l (iL f.path) false,eI f.cls,eI f.n,.l (f.kids.map Fx) false,.b c] from rfl]
 conv=>whnf
 repeat'((first|apply st|(apply sq;intro K U)|(apply si;intro A B Y Z)|(apply Y;clear Z B Y A)|(apply U;clear U K)|refine⟨kZ,?_⟩|refine ld ?_|refine DB fun σ hs=>?_|(intro nn hnn;generalize hg:A6 _ nn _=σ;refine CW hg fun hs=>?_;clear hg)|fail)<;>conv=>whnf)
 generalize nn=nx at *;refine(Kf w us h (a:=f.arg) (p:=[]) (by simp)).use (rest:=[.box nx (KO f.arg [])]) (hs.perm (MH _ _)) ?_;clear hs hnn;rintro r post σ ⟨es1,e1,got,rfl,rfl⟩ hs;have hek:=got.k;obtain⟨hea,hep⟩:=Jz.1 got.is;obtain⟨pre,post,rfl⟩:=List.append_of_mem got.mem;replace hs:=HK (X:=[.box nx (KO f.arg [])]) (hs.perm Po);cases hnd:e1.k.BC<;>rw[hnd]at hs
 all_goals
  conv=>whnf
  repeat'((first|apply st|(apply sq;intro K U)|(apply si;intro A B Y Z)|(apply Y;clear Z B Y A)|(apply U;clear U K)|refine ld ?_|refine FB fun σ hs=>?_|fail)<;>conv=>whnf)
  obtain⟨e2,es2,Y,Z,hC⟩: ∃(e2:DA) (es2:List DA),(D5 (fun a p=>Dj f c 0 a p (kf a p)) es2∧e2∈es2∧e2.is f.arg (f.path.take 0)=true)∧e2.b=e1.b∧Sat σ (.box nx (KO f.arg (f.path.take 0))::CJ L es2):=by
   refine⟨⟨e1.a,e1.p,e1.b,e1.vn,e1.vs,Ds e1.k c⟩,_,⟨(got.inv.change e1.b e1.vn e1.vs (Ds e1.k c)).congr fun a p=>?_,NW _ (.head _),got.is⟩,rfl,?_⟩
   ·rw[eZ,SX,hea,hep,hek]
    by_cases ha:a=f.arg∧p= []
    ·rw[if_pos ha,if_pos ha,ha.1,ha.2]
    ·rw[if_neg ha,if_neg ha]
   ·refine Eb (X:=[.box nx (KO f.arg [])]) (e:=e1) rfl rfl rfl ?_
    first
     | (rw[QT c hnd];exact hs)
     | (rw[Ow c hnd];exact hs)
  rw[←Z];clear hs hnd got hek hea hep;refine B4 f.path.length (fun j (x:List DA×DA)=>[(31,eI (A3 j)),(5,.p x.2.b 0)]) (fun j x=> .box nx (KO f.arg (f.path.take j))::CJ L x.1) (fun j x=>D5 (fun a p=>Dj f c j a p (kf a p)) x.1∧x.2∈x.1∧x.2.is f.arg (f.path.take j)=true) (es2,e2) rfl Y hC ?_;clear Y hC;generalize e2.b=b0 at *;clear Z e2 es2;rintro j ⟨es2,e2⟩ σ hj ⟨hinv,hmem,his⟩ hs;simp only at hinv hmem his hs
  have hek:e2.k=Dj f c j f.arg (f.path.take j) (kf f.arg (f.path.take j)):=by
   have:=hinv.val e2 hmem;obtain⟨h1,h2⟩:=Jz.1 his;rw[this,h1,h2]
  have hok:gC (m+1) e2.k:=by rw[hek];exact ph (hb _ _) f c j _ _
  obtain⟨hea,hep⟩:=Jz.1 his;obtain⟨pre2,post2,rfl⟩:=List.append_of_mem hmem;replace hs:=HK (X:=[.box nx (KO f.arg (f.path.take j))]) hs;have hck:A3 j=j:=AL (by omega);rcases BE f.path hj with⟨s,hsj,hjlt⟩|hje
  ·have hct:=fun b=>D0 e2.k.AT b s
   have hk4:=hok.2.2.2;have hsl0:dA e2.k s= {e2.k with AT:=Iy e2.k.AT s}:=rfl
   have hne:f.path.take j++[s]≠f.path.take j:=by
    intro e;have:=congrArg List.length e;simp at this
   have hgd:f.path.getD j 0=s:=by rw[DK,hsj];rfl
   have htk:f.path.take (j+1)=f.path.take j++[s]:=AQ hsj;cases hcB:e2.k.AT.contains s
   all_goals
    rw[hcB]at hct
    conv=>whnf
    repeat'((first|apply st|(apply sq;intro K U)|(apply si;intro A B Y Z)|(apply Y;clear Z B Y A)|(apply U;clear U K)|refine⟨rfl,?_⟩|refine⟨kZ,?_⟩|refine ix ?_|refine ld ?_|refine FB fun σ hs=>?_|refine DB fun σ hs=>?_|refine aq fun v σ hs hsl=>?_|refine E2 ?_|refine D2 ?_|(refine CA (fun hc=>?_)<;>(try rw[hc])<;>clear hc)|refine Pure.Xa (hct false) (.cons (hs.MV 2 rfl) (.cons (.refl _) .nil)) rfl ?_|refine Pure.use (NL f.arg (f.path.take j) s (by rw[LZ];omega)) ?_|fail)<;>conv=>whnf)
   refine(ZO (.inl hsl)).use (rest:=_) (hs.front (j:=2) rfl) ?_;clear hs;rintro r post σ ⟨rfl,rfl⟩ hs;replace hs:Sat σ (.box e2.b [eI e2.k.low,eI e2.k.high,e2.vn,eU e2.k.CE,eU e2.k.Ga,.b e2.k.whole,.b e2.k.BC,v]:: .own e2.vn 1 (iL e2.k.no):: .own v 1 (iL ((e2.k.AT++[s]).mergeSort G9))::([.box nx (KO f.arg (f.path.take j))]++HI L (pre2++e2::post2) pre2 post2)):=hs.perm (IK _ _ _ _)
   conv=>whnf
   repeat'((first|(apply sq;intro K U)|(apply si;intro A B Y Z)|(apply Y;clear Z B Y A)|(apply U;clear U K)|refine⟨kZ,?_⟩|refine ld ?_|refine DB fun σ hs=>?_|refine Pure.use (NL f.arg (f.path.take j) s (by rw[LZ];omega)) ?_|fail)<;>conv=>whnf)
   have hs3: ∃vs3,Sat σ (.box nx (KO f.arg (f.path.take j++[s]))::CJ L (pre2++⟨e2.a,e2.p,e2.b,e2.vn,vs3,dA e2.k s⟩::post2)):=⟨v,Eb (X:=[_]) (e:=e2) rfl rfl rfl (by rw[hsl0,Iy,if_neg (by rw[hcB];decide)];exact hs)⟩
   rotate_left
   have hs3: ∃vs3,Sat σ (.box nx (KO f.arg (f.path.take j++[s]))::CJ L (pre2++⟨e2.a,e2.p,e2.b,e2.vn,vs3,dA e2.k s⟩::post2)):=⟨e2.vs,Eb (X:=[_]) (e:=e2) rfl rfl rfl (by rw[hsl0,Iy,if_pos hcB];exact hs)⟩
   all_goals
    clear hs;obtain⟨vs3,hs⟩:=hs3;have hinv3:=hinv.change e2.b e2.vn vs3 (dA e2.k s);refine(Kf w us hinv3 (a:=f.arg) (p:=f.path.take j++[s]) (by rw[PR,LZ];simp;omega)).use (rest:=[.box nx (KO f.arg (f.path.take j++[s]))]) (hs.perm (MH _ _)) ?_;clear hs;rintro r post σ ⟨es4,e4,got,rfl,rfl⟩ hs;have hek4:=got.k;obtain⟨hea4,hep4⟩:=Jz.1 got.is;obtain⟨pre4,post4,rfl⟩:=List.append_of_mem got.mem;replace hs:=HK (X:=[.box nx (KO f.arg (f.path.take j++[s]))]) (hs.perm Po);cases hnd:e4.k.BC<;>rw[hnd]at hs
    all_goals
     conv=>whnf
     repeat'((first|apply st|(apply si;intro A B Y Z)|(apply Y;clear Z B Y A)|(apply U;clear U K)|refine⟨rfl,?_⟩|refine ld ?_|refine FB fun σ hs=>?_|clear U K)<;>conv=>whnf)
     refine⟨hjlt,(pre4++⟨e4.a,e4.p,e4.b,e4.vn,e4.vs,Ds e4.k c⟩::post4,⟨e4.a,e4.p,e4.b,e4.vn,e4.vs,Ds e4.k c⟩),rfl,⟨(got.inv.change e4.b e4.vn e4.vs (Ds e4.k c)).congr fun a p=>?_,NW _ (.head _),by rw[htk];exact got.is⟩,?_⟩
     ·rw[ec f c hjlt,SX,hea4,hep4,htk,hgd]
      by_cases h1:a=f.arg∧p=f.path.take j++[s]
      ·rw[if_pos h1,if_pos h1,hek4,SX,hea,hep,if_neg (fun h=>hne h.2),h1.1,h1.2]
      ·rw[if_neg h1,if_neg h1,SX,hea,hep]
       by_cases h2:a=f.arg∧p=f.path.take j
       ·rw[if_pos h2,if_pos h2,hek,h2.1,h2.2]
       ·rw[if_neg h2,if_neg h2]
     ·rw[htk]
      refine Eb (X:=[.box nx (KO f.arg (f.path.take j++[s]))]) (e:=e4) rfl rfl rfl ?_
      first
       | (rw[QT c hnd];exact hs)
       | (rw[Ow c hnd];exact hs)
  ·have etk:f.path.take j=f.path:=Au hje
   rw[etk]at his hs hek hep
   conv=>whnf
   repeat'((first|apply st|(apply sq;intro K U)|(apply si;intro A B Y Z)|(apply Y;clear Z B Y A)|(apply U;clear U K)|refine⟨rfl,?_⟩|refine⟨kZ,?_⟩|(refine DU (fun hc=>?_)<;>(try rw[hc])<;>clear hc)|clear U K)<;>conv=>whnf)
   refine(oT f c l1 l3 hok.1 hok.2.1 (by have:=hok.2.2.1;omega) l4).use (rest:=[.box nx (KO f.arg f.path)]++HI L (pre2++e2::post2) pre2 post2) hs ?_;rintro r post σ ⟨rfl,vn',rfl⟩ hs
   conv=>whnf
   repeat'((first|(apply Y;clear Z B Y A)|fail)<;>conv=>whnf)
   refine AR ⟨_,⟨rfl,_,(hinv.change e2.b vn' e2.vs (Cu e2.k f c)).congr fun a p=>?_,rfl⟩,(Eb (X:=[.box nx (KO f.arg f.path)]) (e:=e2) (e':=⟨e2.a,e2.p,e2.b,vn',e2.vs,Cu e2.k f c⟩) rfl rfl rfl hs).less (Jp _ _)⟩;rw[SX,hea,hep,hek,←hje];by_cases h1:a=f.arg∧p=f.path
   ·rw[if_pos h1,if_pos h1,h1.1,h1.2]
   ·rw[if_neg h1,if_neg h1]
def oa (w:AK) (us:List Nat) {kf:Int→List Int→Kn} {L:Nat} {es:List DA} (h:D5 kf es) (l:Fact) (hl:Zc (A2 l).1) {m:Nat} (hm:m<1000) (hb: ∀a p,gC m (kf a p)) :
    Bj Tryz.prog 259 [SU w us L,.a (Js l)] (CJ L es) fun r post=>r= .ret (.t [])∧ ∃es',D5 (fun a p=>DL a p (kf a p) l) es'∧post=CJ L es':=fun σ hs=>
 BL.mono (fu w us h (A2 l).1 (A2 l).2 hl hm hb σ hs) fun r σ' ⟨post,⟨h1,es',h2,h3⟩,h4⟩=>⟨post,⟨h1,es',h2.congr fun a p=>(jq a p (kf a p) l).symm,h3⟩,h4⟩
def Uy (ls:List Fact):Prop:= ∀l∈ls,Zc (A2 l).1
def Zu {ls:List Fact} (h:Uy ls) (a:Int) (p:List Int):gC ls.length (kn ls a p):=by
 have hc:Ik 64 ls:=fun l hl ho=>(h l hl).cls ho
 obtain⟨h1,h2⟩:=ei hc a p;obtain⟨h3,h4⟩:=Zv a p ls k0;exact⟨by simpa using h1,by simpa using h2,by simpa[kn,k0]using h3,by simpa[kn,k0]using h4⟩
def vd:D5 (kn []) []:=⟨fun x hx=>(by cases hx),fun a p _=>rfl,.nil,fun x hx=>(by cases hx)⟩
set_option maxHeartbeats 1000000 in
def a8 (w:AK) (us:List Nat) (ls:List Fact) (b:Bool) (h:Uy ls) (hlen:ls.length<900) :
    Bj Tryz.prog 230 [.rp (wC w us),.l (FG ls) b] [] fun r post=> ∃L es,r= .ret (SU w us L)∧D5 (kn ls) es∧post=CJ L es:=by
 intro σ hs;have hM:=Mx;refine lM kZ ?_
 conv=>whnf
 repeat'((first|apply st|(apply sq;intro K U)|(apply si;intro A B Y Z)|(apply Y;clear Z B Y A)|(apply U;clear U K)|(intro nn hnn;generalize hg:A6 _ nn _=σ;refine CW hg fun hs=>?_;clear hg)|fail)<;>conv=>whnf)
 generalize nn=L at *;refine B4 ls.length (fun k (x:List DA)=>[(14,eI (A3 k))]) (fun k x=>CJ L x) (fun k x=>D5 (kn (ls.take k)) x) [] rfl vd hs ?_;clear hs hnn;rintro k es σ hk hinv hs;rcases BE ls hk with⟨l,hlk,hlt⟩|hke
 ·have hlm:l∈ls:=B1 hlk
  have htk:ls.take (k+1)=ls.take k++[l]:=AQ hlk;have hbk: ∀a p,gC (ls.take k).length (kn (ls.take k) a p):=Zu fun x hx=>h x (List.mem_of_mem_take hx)
  conv=>whnf
  repeat'((first|apply st|(apply sq;intro K U)|(apply si;intro A B Y Z)|(apply Y;clear Z B Y A)|(apply U;clear U K)|refine⟨rfl,?_⟩|refine⟨kZ,?_⟩|refine ix ?_|refine ld ?_|refine DB fun σ hs=>?_|(refine CA (fun hc=>?_)<;>(try rw[hc])<;>clear hc)|(intro nn hnn;generalize hg:A6 _ nn _=σ;refine CW hg fun hs=>?_;clear hg)|fail)<;>conv=>whnf)
  rename_i nb hnb _ hs;generalize nn=n7 at *;refine(oa w us hinv l (h l hlm) (m:=(ls.take k).length) (by rw[LZ];omega) hbk).use (rest:=[.box n7 (Js l)]) (hs.perm (MH _ _)) ?_;clear hs;rintro r post σ ⟨rfl,es',hinv',rfl⟩ hs
  conv=>whnf
  repeat'((first|(apply si;intro A B Y Z)|(apply Y;clear Z B Y A)|(apply U;clear U K)|refine⟨rfl,?_⟩|clear U K)<;>conv=>whnf)
  refine⟨hlt,es',rfl,?_,hs.less (List.sublist_append_left _ _)⟩;rw[htk];exact hinv'.congr fun a p=>(eg _ _ _ _).symm
 ·have etk:ls.take k=ls:=Au hke
  rw[etk]at hinv
  conv=>whnf
  repeat'((first|apply st|(apply sq;intro K U)|(apply si;intro A B Y Z)|(apply Y;clear Z B Y A)|(apply U;clear U K)|refine⟨rfl,?_⟩|(refine DU (fun hc=>?_)<;>(try rw[hc])<;>clear hc)|clear U K)<;>conv=>whnf)
  exact AR ⟨_,⟨L,es,rfl,hinv,rfl⟩,hs⟩
structure Iz (w:AK) (kf:Int→List Int→Kn):Prop where
 ok: ∀a p,gC 1000 (kf a p)
 low: ∀a p,-1000000000≤(kf a p).low∧(kf a p).low≤1000000000
 short: ∀a p,2≤p.length→(kf a p).AT= []
 AT: ∀a p,∀s∈(kf a p).AT,0≤s∧s<w.owner.length
abbrev Hx (L:Nat) (pre post:List DA) (e:DA) (s:List DA):List At:=
 .box e.b [eI e.k.low,eI e.k.high,e.vn,eU e.k.CE,eU e.k.Ga,.b e.k.whole,.b e.k.BC,e.vs]:: .own e.vn 1 (iL e.k.no)::HI L (pre++e::(post++s)) pre (post++s)
def o6 {σ:AH} {L:Nat} {pre post:List DA} {e:DA} {s:List DA} (h:Sat σ (CJ L (pre++e::(post++s)))):Sat σ (.own e.vs 1 (iL e.k.AT)::Hx L pre post e s):=
 (HK (X:=[]) h).perm ((IK _ _ _ _).symm)
def iR {σ:AH} {L:Nat} {pre post:List DA} {e:DA} {s:List DA} (h:Sat σ (.own e.vs 1 (iL e.k.AT)::Hx L pre post e s)):Sat σ (CJ L (pre++e::(post++s))):=
 Eb (X:=[]) (e:=e) (e':=e) rfl rfl rfl (h.perm (IK _ _ _ _))
def Nn (kf:Int→List Int→Kn) (L:Nat) (es:List DA) (post:List At):Prop:= ∃es',PZ es es'∧D5 kf es'∧post=CJ L es'
def fM (w:AK) (us:List Nat) {kf:Int→List Int→Kn} {L:Nat} {pre post:List DA} {e:DA} {a:Int} {p:List Int} (hp:p.length<2) :
    Me Tryz.prog (.f (.func 290) [] [.rp [SU w us L],.rp (KO a p)]) eI (fun s=> .own e.vs 1 (iL e.k.AT)::Hx L pre post e s) (fun y=> !(kf a (p++[y])).BC) (fun s=>D5 kf (pre++e::(post++s))∧ ∀x∈s,x.k=k0) (fun _=>True):=by
 rintro y s - ⟨hj,hj0⟩ σ hs;refine Bp ?_;show BL Tryz.prog 290 ([]++[eI y]++[.rp [SU w us L],.rp (KO a p)]) σ _;refine kB kZ ?_
 conv=>whnf
 repeat'((first|apply st|(apply sq;intro K U)|(apply si;intro A B Y Z)|(apply Y;clear Z B Y A)|(apply U;clear U K)|apply dr|refine rk ?_ ?_|exact fun s e=>by cases e;rfl|refine⟨kZ,?_⟩|refine Pure.use (NL a p y hp) ?_|fail)<;>conv=>whnf)
 refine(Kf w us hj (a:=a) (p:=p++[y]) (by simp;omega)).use (rest:=[]) (by simpa using iR hs) ?_;clear hs;rintro r post' σ ⟨es4,e4,got,rfl,rfl⟩ hs;have hek4:=got.k;obtain⟨new,he4,hnew⟩:=got.ext;have hinv:=got.inv;obtain⟨pre4,post4,he5⟩:=List.append_of_mem got.mem;rw[Hj,he5]at hs;replace hs:=HK (X:=[]) hs
 conv=>whnf
 repeat'((first|apply st|(apply Y;clear Z B Y A)|(apply U;clear U K)|apply dr|refine ld ?_|fail)<;>conv=>whnf)
 refine AR ⟨by rw[hek4],s++new,⟨?_,fun x hx=>?_⟩,?_⟩
 ·rw[he4]at hinv
  simpa using hinv
 ·rcases Fo.1 hx with hx|hx
  ·exact hj0 x hx
  ·exact hnew x hx
 ·have h2:=Eb (X:=[]) (e:=e4) (e':=e4) rfl rfl rfl hs
  rw[←he5,he4]at h2;refine o6 ?_;simpa using h2
def fN (w:AK) (us:List Nat) {kf:Int→List Int→Kn} (hr:Iz w kf) {L:Nat} {es:List DA} (h:D5 kf es) {a:Int} {p:List Int} (hp:p.length≤2) :
    Bj Tryz.prog 288 [SU w us L,Ek a p] (CJ L es) fun r post=>r= .ret (.b (Nq kf a p))∧Nn kf L es post:=by
 intro σ hs;have hM:=Mx;refine kD kZ ?_
 conv=>whnf
 repeat'((first|apply st|(apply sq;intro K U)|(apply si;intro A B Y Z)|(apply Y;clear Z B Y A)|(apply U;clear U K)|refine⟨kZ,?_⟩|fail)<;>conv=>whnf)
 refine(Kf w us h (a:=a) (p:=p) hp).use (rest:=[]) (by simpa using hs) ?_;clear hs;rintro r post σ ⟨es4,e4,got,rfl,rfl⟩ hs;have hek:=got.k;obtain⟨pre,post,rfl⟩:=List.append_of_mem got.mem;rw[Hj]at hs;replace hs:=HK (X:=[]) hs;have hsl:=(hr.ok a p).2.2.2;have hsh:=hr.short a p;rw[←hek]at hsl hsh
 have hst:p.length<2∨e4.k.AT= []:=by
  rcases Nat.lt_or_ge p.length 2 with h'|h'
  ·exact .inl h'
  ·exact .inr (hsh h')
 have hE:Nq kf a p=e4.k.AT.all fun y=> !(kf a (p++[y])).BC:=by rw[Nq,hek]
 conv=>whnf
 repeat'((first|refine ld ?_|fail)<;>conv=>whnf)
 have hall:Bj Tryz.prog 177 [e4.vs,.f (.func 290) [] [.rp [SU w us L],.rp (KO a p)]] (.own e4.vs 1 (iL e4.k.AT)::Hx L pre post e4 []) fun r post'=>r= .ret (.b (e4.k.AT.all fun y=> !(kf a (p++[y])).BC))∧ ∃s',(D5 kf (pre++e4::(post++s'))∧ ∀x∈s',x.k=k0)∧post'= .own e4.vs 1 (iL e4.k.AT)::Hx L pre post e4 s':=by
  rcases hst with h'|h'
  ·exact XN 290 [] [.rp [SU w us L],.rp (KO a p)] (Hx L pre post e4) _ _ _ (fM w us h') (fun _ _=>trivial) (by omega) [] ⟨by simpa using got.inv,by simp⟩
  ·exact XN 290 [] [.rp [SU w us L],.rp (KO a p)] (Hx L pre post e4) _ _ (fun _=>False) (fun y s hf=>hf.elim) (fun x hx=>by rw[h']at hx;cases hx) (by omega) [] ⟨by simpa using got.inv,by simp⟩
 refine hall.use (rest:=[]) (by
  have h2:=o6 (L:=L) (pre:=pre) (post:=post) (e:=e4) (s:=[]) (by simpa using Eb (X:=[]) (e:=e4) (e':=e4) rfl rfl rfl hs)
  simpa using h2) ?_
 clear hs;rintro r post' σ ⟨rfl,s',⟨hi,hn⟩,rfl⟩ hs
 conv=>whnf
 repeat'((first|apply st|(apply Y;clear Z B Y A)|(apply U;clear U K)|fail)<;>conv=>whnf)
 refine AR ⟨_,⟨by rw[hE],pre++e4::(post++s'),got.ext.trans ⟨s',by simp,hn⟩,hi,rfl⟩,iR (by simpa using hs)⟩
def cf {m u:Nat} (hm:m<18446744073709551616):(Nh m u=0)↔PV m u=true:=by
 rw[N7 (by simpa using hm)];constructor
 ·intro h b hb
  have hlt:b<64:=by
   rcases Nat.lt_or_ge b 64 with h'|h'
   ·exact h'
   ·rw[Nat.testBit_lt_two_pow (Nat.lt_of_lt_of_le hm (by simpa using Nat.pow_le_pow_right (n:=2) (by decide) h'))]at hb;cases hb
  have:=OT (a:=m) (b:=u) hlt;rw[h,Nat.zero_testBit,hb]at this;simpa using this
 ·intro h
  refine Nat.eq_of_testBit_eq fun i=>?_
  rw[Nat.zero_testBit];rcases Nat.lt_or_ge i 64 with hlt|hge
  ·rw[OT hlt]
   cases hb:m.testBit i with
   | false=>rfl
   | true=>rw[h i hb];rfl
  ·exact Nat.testBit_lt_two_pow (Nat.lt_of_lt_of_le (R2 _ _) (by simpa using Nat.pow_le_pow_right (n:=2) (by decide) hge))
def TL (w:AK) (us:List Nat) {kf:Int→List Int→Kn} (hr:Iz w kf) {L:Nat} {es:List DA} (h:D5 kf es) {a:Int} {p:List Int} (hp:p.length≤2) (c:Nat) (hc:c<64) :
    Bj Tryz.prog 284 [SU w us L,Ek a p,eI c] (CJ L es) fun r post=>r= .ret (.b (Hn kf a p c))∧Nn kf L es post:=by
 intro σ hs;refine kG kZ ?_
 conv=>whnf
 repeat'((first|apply st|(apply sq;intro K U)|(apply si;intro A B Y Z)|(apply Y;clear Z B Y A)|(apply U;clear U K)|refine⟨kZ,?_⟩|fail)<;>conv=>whnf)
 refine(Kf w us h (a:=a) (p:=p) hp).use (rest:=[]) (by simpa using hs) ?_;clear hs;rintro r post σ ⟨es4,e4,got,rfl,rfl⟩ hs;have hek:=got.k;obtain⟨pre,post,rfl⟩:=List.append_of_mem got.mem;rw[Hj]at hs;replace hs:=HK (X:=[]) hs;have hok:=hr.ok a p;rw[←hek]at hok;have hu:1|||2 ^ c<18446744073709551616:=KZ (by decide) (Jx hc)
 have hb1:bits .andNot .u64 (e4.k.CE:Int) ((1|||2 ^ c:Nat):Int)=((Nh e4.k.CE (1|||2 ^ c):Nat):Int):=Qs;have hb2:bits .and .u64 (e4.k.Ga:Int) ((1|||2 ^ c:Nat):Int)=((e4.k.Ga&&&(1|||2 ^ c):Nat):Int):=LD hok.2.1 hu;have hb3:=cf (u:=1|||2 ^ c) hok.1;have F:Hn kf a p c=(PV e4.k.CE (1|||2 ^ c)&&(e4.k.Ga&&&(1|||2 ^ c)==0&&Nq kf a p)):=by rw[Hn,hek]
 conv=>whnf
 repeat'((first|apply st|(apply sq;intro K U)|(apply si;intro A B Y Z)|(apply Y;clear Z B Y A)|(apply U;clear U K)|refine⟨rfl,?_⟩|refine⟨kZ,?_⟩|refine ld ?_|refine Pure.use (WL 1 c (by decide) hc) ?_|(constructor<;>intro hc<;>(try rw[hc])<;>(replace hc:=bp hc))|fail)<;>conv=>whnf)
 ·have h1:PV e4.k.CE (1|||2 ^ c)=true:=hb3.1 (by omega)
  have h2:(e4.k.Ga&&&(1|||2 ^ c)==0)=true:=by rw[Dn];omega
  refine(fN w us hr got.inv hp).use (rest:=[]) (by simpa using Eb (X:=[]) (e:=e4) (e':=e4) rfl rfl rfl hs) ?_;clear hs;rintro r post' σ ⟨rfl,es5,hx,hi,rfl⟩ hs
  conv=>whnf
  repeat'((first|apply st|(apply Y;clear Z B Y A)|(apply U;clear U K)|fail)<;>conv=>whnf)
  exact AR ⟨_,⟨by rw[F,h1,h2];rfl,es5,got.ext.trans hx,hi,rfl⟩,by simpa using hs⟩
 ·have h2:(e4.k.Ga&&&(1|||2 ^ c)==0)=false:=by rw[beq_eq_false_iff_ne];omega
  exact AR ⟨_,⟨by rw[F,h2];simp,_,got.ext,got.inv,rfl⟩,by simpa using Eb (X:=[]) (e:=e4) (e':=e4) rfl rfl rfl hs⟩
 ·have h1:PV e4.k.CE (1|||2 ^ c)=false:=by
   rw[←Bool.not_eq_true,←hb3];omega
  exact AR ⟨_,⟨by rw[F,h1];simp,_,got.ext,got.inv,rfl⟩,by simpa using Eb (X:=[]) (e:=e4) (e':=e4) rfl rfl rfl hs⟩
def O5 (w:AK) (us:List Nat) {kf:Int→List Int→Kn} (hr:Iz w kf) {L:Nat} {es:List DA} (h:D5 kf es) {a:Int} {p:List Int} (hp:p.length≤2) :
    Bj Tryz.prog 278 [SU w us L,Ek a p] (CJ L es) fun r post=>r= .ret (.t [eI (Jy (kf a p)),.b (RI kf a p)])∧Nn kf L es post:=by
 intro σ hs;have hM:=Mx;refine kN kZ ?_
 conv=>whnf
 repeat'((first|apply st|(apply sq;intro K U)|(apply si;intro A B Y Z)|(apply Y;clear Z B Y A)|(apply U;clear U K)|refine⟨kZ,?_⟩|fail)<;>conv=>whnf)
 refine(Kf w us h (a:=a) (p:=p) hp).use (rest:=[]) (by simpa using hs) ?_;clear hs;rintro r post σ ⟨es4,e4,got,rfl,rfl⟩ hs;have hek:=got.k;obtain⟨pre,post,rfl⟩:=List.append_of_mem got.mem;rw[Hj]at hs;replace hs:=HK (X:=[]) hs;have hok:=hr.ok a p;have hlo:=hr.low a p;rw[←hek]at hok hlo;have hno:=hok.2.2.1;have hle:=W4 e4.k.no e4.k.low;have hL:Jy (kf a p)=IW e4.k.no (from_ e4.k.no e4.k.low) e4.k.low:=by rw[Jy,←hek];exact XO hle (JU _)
 conv=>whnf
 repeat'((first|apply st|(apply sq;intro K U)|(apply si;intro A B Y Z)|(apply Y;clear Z B Y A)|(apply U;clear U K)|refine ld ?_|fail)<;>conv=>whnf)
 refine ED (fun n:Int=>from_ e4.k.no n) (fun n=>[(7,eI n)]) (fun _=> .box e4.b [eI e4.k.low,eI e4.k.high,e4.vn,eU e4.k.CE,eU e4.k.Ga,.b e4.k.whole,.b e4.k.BC,e4.vs]:: .own e4.vn 1 (iL e4.k.no):: .own e4.vs 1 (iL e4.k.AT)::([]++HI L (pre++e4::post) pre post)) (fun n=> -1000000000≤n∧n+from_ e4.k.no n≤1000001000∧Jy (kf a p)=IW e4.k.no (from_ e4.k.no n) n) e4.k.low rfl ⟨by omega,by omega,hL⟩ hs ?_;clear hs hL hle;rintro n σ ⟨hn0,hn1,hL⟩ hs;have hct2:=fun b=>D0 e4.k.no b n
 cases hcB:e4.k.no.contains n<;>rw[hcB]at hct2
 ·have hout:n∉e4.k.no:=by simpa using hcB
  rw[ft hout]at hL;have hI:RI kf a p=(decide (n≤e4.k.high)&&Hn kf a p 1):=by rw[RI,hL,hek]
  conv=>whnf
  repeat'((first|apply st|(apply sq;intro K U)|(apply si;intro A B Y Z)|(apply Y;clear Z B Y A)|(apply U;clear U K)|refine⟨rfl,?_⟩|refine⟨kZ,?_⟩|refine ld ?_|refine Pure.Xa (hct2 false) (.cons (hs.MV 1 rfl) (.cons (.refl _) .nil)) rfl ?_|(constructor<;>intro hc<;>(try rw[hc])<;>(replace hc:=bp hc))|clear U K)<;>conv=>whnf)
  all_goals
   have hsc:Sat σ (CJ L (pre++e4::post)):=by simpa using Eb (X:=[]) (e:=e4) (e':=e4) rfl rfl rfl hs
  ·refine(TL w us hr got.inv hp 1 (by decide)).use (rest:=[]) (by simpa using hsc) ?_
   clear hs hsc;rintro r post' σ ⟨rfl,es5,hx,hi,rfl⟩ hs
   conv=>whnf
   repeat'((first|apply st|(apply Y;clear Z B Y A)|(apply U;clear U K)|fail)<;>conv=>whnf)
   exact AR ⟨_,⟨by rw[hL,hI,decide_eq_true (by assumption)];rfl,es5,got.ext.trans hx,hi,rfl⟩,by simpa using hs⟩
  ·exact AR ⟨_,⟨by rw[hL,hI,decide_eq_false (by omega)];rfl,_,got.ext,got.inv,rfl⟩,hsc⟩
 ·have hin:n∈e4.k.no:=by simpa using hcB
  have hlt:=Rx hin;have hwr:IntKind.i64.wrap (n+1)=n+1:=wrap64 (by omega) (by omega);obtain⟨m,hm⟩: ∃m,from_ e4.k.no n=m+1:=⟨from_ e4.k.no n - 1,by omega⟩
  have hL2:Jy (kf a p)=IW e4.k.no (from_ e4.k.no (n+1)) (n+1):=by rw[hL,hm,oZ hin];exact XO (by omega) (JU _)
  conv=>whnf
  repeat'((first|apply st|(apply sq;intro K U)|(apply si;intro A B Y Z)|(apply Y;clear Z B Y A)|(apply U;clear U K)|refine⟨rfl,?_⟩|refine ld ?_|refine Pure.Xa (hct2 false) (.cons (hs.MV 1 rfl) (.cons (.refl _) .nil)) rfl ?_|clear U K)<;>conv=>whnf)
  exact⟨n+1,hlt,by rw[hwr];rfl,⟨by omega,by omega,hL2⟩,hs⟩
def Wl (w:AK) (us:List Nat) {kf:Int→List Int→Kn} (hr:Iz w kf) {L:Nat} {es:List DA} (h:D5 kf es) {a:Int} {p:List Int} (hp:p.length≤2) :
    Bj Tryz.prog 279 [SU w us L,Ek a p] (CJ L es) fun r post=>r= .ret (.b (Ka kf a p))∧Nn kf L es post:=by
 intro σ hs;refine kL kZ ?_
 conv=>whnf
 repeat'((first|apply st|(apply sq;intro K U)|(apply si;intro A B Y Z)|(apply Y;clear Z B Y A)|(apply U;clear U K)|refine⟨kZ,?_⟩|fail)<;>conv=>whnf)
 refine(Kf w us h (a:=a) (p:=p) hp).use (rest:=[]) (by simpa using hs) ?_;clear hs;rintro r post σ ⟨es4,e4,got,rfl,rfl⟩ hs;have hek:=got.k;obtain⟨pre,post,rfl⟩:=List.append_of_mem got.mem;rw[Hj]at hs;have hsc:=hs;replace hs:=HK (X:=[]) hs;have hN:Ka kf a p=(!e4.k.whole&&Hn kf a p 2):=by rw[Ka,hek]
 cases hw:e4.k.whole<;>rw[hw]at hs hN
 ·conv=>whnf
  repeat'((first|apply st|refine⟨kZ,?_⟩|refine ld ?_|refine E2 ?_|fail)<;>conv=>whnf)
  refine(TL w us hr got.inv hp 2 (by decide)).use (rest:=[]) (by simpa using hsc) ?_;clear hs hsc;rintro r post' σ ⟨rfl,es5,hx,hi,rfl⟩ hs
  conv=>whnf
  repeat'((first|apply st|(apply Y;clear Z B Y A)|(apply U;clear U K)|fail)<;>conv=>whnf)
  exact AR ⟨_,⟨by rw[hN];rfl,es5,got.ext.trans hx,hi,rfl⟩,by simpa using hs⟩
 ·conv=>whnf
  repeat'((first|apply st|(apply Y;clear Z B Y A)|(apply U;clear U K)|refine ld ?_|refine D2 ?_|fail)<;>conv=>whnf)
  exact AR ⟨_,⟨by rw[hN];rfl,_,got.ext,got.inv,rfl⟩,hsc⟩
def RQ {σ:AH} {X:List At} {L:Nat} {pre post:List DA} {e:DA} {s:List DA} (h:Sat σ (X++CJ L (pre++e::(post++s)))):Sat σ (.own e.vs 1 (iL e.k.AT)::(X++Hx L pre post e s)):=by
 have h2:=HK h;refine h2.perm ((IK _ _ _ _).symm.trans (.cons _ ?_));exact(List.perm_middle.trans (.cons _ List.perm_middle)).symm
def fX {σ:AH} {X:List At} {L:Nat} {pre post:List DA} {e:DA} {s:List DA} (h:Sat σ (.own e.vs 1 (iL e.k.AT)::(X++Hx L pre post e s))):Sat σ (X++CJ L (pre++e::(post++s))):=by
 refine Eb (X:=X) (e:=e) (e':=e) rfl rfl rfl ?_;refine h.perm ?_;refine List.Perm.trans (.cons _ (List.perm_middle.trans (.cons _ List.perm_middle))) ?_;exact IK _ _ _ _
def Wv (s:Nat) (c:Int) (hs0:s<18446744073709551616) (h0:0≤c) (hc:c<64):Pure Tryz.prog 152 [eU s,eI c] (.b (s.testBit c.toNat)):=by
 have:=Nz s c.toNat hs0 (by omega);rw[Int.toNat_of_nonneg h0]at this;exact this
def cg {m:Nat} (hm:m<18446744073709551616):Nh m 1=HD m:=by
 refine Nat.eq_of_testBit_eq fun i=>?_
 rw[Tg];rcases Nat.lt_or_ge i 64 with hlt|hge
 ·rw[OT hlt,show(1:Nat)=2 ^ 0 from rfl,Nat.testBit_two_pow]
  congr 2;rw[Le,CY,Dn];omega
 ·have h64:18446744073709551616≤2 ^ i:=by simpa using Nat.pow_le_pow_right (n:=2) (by decide) hge
  rw[Nat.testBit_lt_two_pow (Nat.lt_of_lt_of_le (R2 _ _) h64),Nat.testBit_lt_two_pow (Nat.lt_of_lt_of_le hm h64)];rfl
set_option maxHeartbeats 4000000 in
def QR (w : AK) (hw:CS w) {kf:Int→List Int→Kn} (hr:Iz w kf) {a:Int} {p:List Int} (hp:p.length≤2) (can:Int→Bool)
    (hcan: ∀s∈(kf a p).AT,∀L es,D5 kf es→Bj Tryz.prog 260 [SU w (CG w.parents) L,Ek a (p++[s])] (CJ L es) fun r post=>r= .ret (.b (can s))∧Nn kf L es post) {L:Nat} {es:List DA} (h:D5 kf es) :
    Bj Tryz.prog 280 [SU w (CG w.parents) L,Ek a p] (CJ L es) fun r post=>r= .ret (.t [eU (Mz w (kf a p) (fun s=>(kf a (p++[s])).BC) can).1,.b (Mz w (kf a p) (fun s=>(kf a (p++[s])).BC) can).2])∧Nn kf L es post:=by
 intro σ hs;have hM:=Mx;generalize hus:CG w.parents=us at *;refine kK kZ ?_
 conv=>whnf
 repeat'((first|apply st|(apply sq;intro K U)|(apply si;intro A B Y Z)|(apply Y;clear Z B Y A)|(apply U;clear U K)|refine⟨kZ,?_⟩|fail)<;>conv=>whnf)
 refine(Kf w us h (a:=a) (p:=p) hp).use (rest:=[]) (by simpa using hs) ?_;clear hs;rintro r post σ ⟨es4,e4,got,rfl,rfl⟩ hs;have hek:=got.k;obtain⟨pre,post,rfl⟩:=List.append_of_mem got.mem;rw[Hj]at hs;have hsc:=hs;replace hs:=HK (X:=[]) hs;have hok:=hr.ok a p;have hsl:=(hr.ok a p).2.2.2;have hsh:=hr.short a p;have hsw:=hr.AT a p;rw[←hek]at hok hsl hsh hsw hcan;have hO:Mz w (kf a p) (fun s=>(kf a (p++[s])).BC) can=Mz w e4.k (fun s=>(kf a (p++[s])).BC) can:=by rw[hek]
 have hOn:(e4.k.whole=true∨e4.k.CE.testBit 1=true∨e4.k.CE.testBit 2=true∨e4.k.Ga.testBit 0=true)→Mz w (kf a p) (fun s=>(kf a (p++[s])).BC) can=(0,false):=fun h=>by
  rw[hO,Mz,if_pos];rcases h with h|h|h|h<;>rw[h]<;>simp
 have hOy:e4.k.whole=false→e4.k.CE.testBit 1=false→e4.k.CE.testBit 2=false→e4.k.Ga.testBit 0=false→Mz w (kf a p) (fun s=>(kf a (p++[s])).BC) can=match IM w (fun s=>(kf a (p++[s])).BC) can e4.k.AT (e4.k.CE,e4.k.Ga)with
  | none=>(0,false)
  | some u=>(HD (Di (CG w.parents) w.parents.length u.1),HD (Di (CG w.parents) w.parents.length u.1)&&&u.2==0):=fun h1 h2 h3 h4=>by
  rw[hO,Mz,h1,h2,h3,h4];rfl
 clear hO;cases hb0:e4.k.whole<;>rw[hb0]at hs
 rotate_left
 ·conv=>whnf
  repeat'((first|apply st|(apply sq;intro K U)|(apply si;intro A B Y Z)|(apply Y;clear Z B Y A)|(apply U;clear U K)|apply dr|refine ld ?_|clear U K)<;>conv=>whnf)
  exact AR ⟨_,⟨by rw[hOn (.inl hb0)];rfl,_,got.ext,got.inv,rfl⟩,hsc⟩
 ·conv => whnf
  repeat'((first|apply st|(apply sq;intro K U)|(apply si;intro A B Y Z)|(apply Y;clear Z B Y A)|(apply U;clear U K)|apply dr|refine lo ?_|refine ld ?_|refine Pure.use (Nz e4.k.CE 1 hok.1 (by decide)) ?_|refine Pure.use (Nz e4.k.CE 2 hok.1 (by decide)) ?_|refine Pure.use (Nz e4.k.Ga 0 hok.2.1 (by decide)) ?_|(constructor<;>intro hc<;>(try rw[hc])<;>(replace hc:=bp hc))|clear U K)<;>conv=>whnf)
  all_goals first
   | exact AR ⟨_,⟨by rw[hOn (by first|exact .inl (by assumption)|exact .inr (.inl (by assumption))|exact .inr (.inr (.inl (by assumption)))|exact .inr (.inr (.inr (by assumption))))];rfl,_,got.ext,got.inv,rfl⟩,hsc⟩
   | skip
  replace hOy:=hOy hb0 (by assumption) (by assumption) (by assumption);clear hOn;generalize hnf:(fun s=>(kf a (p++[s])).BC)=BC at *
  have hs1:Sat σ (.own e4.vs 1 (iL e4.k.AT)::Hx L pre post e4 []):=by
   have h2:=RQ (X:=[]) (L:=L) (pre:=pre) (post:=post) (e:=e4) (s:=[]) (by simpa using hsc);simpa using h2
  refine B4 e4.k.AT.length (fun k (x:(Nat×Nat)×List DA)=>[(47,eI (A3 k)),(7,eU x.1.1),(8,eU x.1.2)]) (fun k x=> .own e4.vs 1 (iL e4.k.AT)::Hx L pre post e4 x.2) (fun k x=>(x.1.1<18446744073709551616∧x.1.2<18446744073709551616)∧(D5 kf (pre++e4::(post++x.2))∧ ∀y∈x.2,y.k=k0)∧IM w BC can e4.k.AT (e4.k.CE,e4.k.Ga)=IM w BC can (e4.k.AT.drop k) x.1) ((e4.k.CE,e4.k.Ga),[]) rfl ⟨⟨hok.1,hok.2.1⟩,⟨by simpa using got.inv,by simp⟩,rfl⟩ hs1 ?_;clear hs hs1 hsc;rintro k ⟨⟨m,no⟩,new⟩ σ hk ⟨⟨hm,hno⟩,⟨hinv,hnew⟩,hF⟩ hs;simp only at hm hno hinv hnew hF hs;have hck:A3 k=k:=AL (by have:=hok.2.2.2;omega);rcases BE e4.k.AT hk with⟨s,hsk,hlt⟩|hke
  ·have hsm:=B1 hsk
   have hp2:p.length<2:=by
    rcases Nat.lt_or_ge p.length 2 with h'|h'
    ·exact h'
    ·rw[hsh h']at hsm;cases hsm
   obtain⟨hs0,hs1⟩:=hsw s hsm;rw[drop_cons hsk,IM]at hF
   conv=>whnf
   repeat'((first|apply st|(apply sq;intro K U)|(apply si;intro A B Y Z)|(apply Y;clear Z B Y A)|(apply U;clear U K)|apply dr|refine⟨rfl,?_⟩|refine⟨kZ,?_⟩|refine ld ?_|refine DB fun σ hs=>?_|refine oi ?_|refine ol fun x hx=>?_|(refine CA (fun hc=>?_)<;>(try rw[hc])<;>clear hc)|refine Pure.use (NL a p _ hp2) ?_|(intro nn hnn;generalize hg:A6 _ nn _=σ;refine CW hg fun hs=>?_;clear hg)|fail)<;>conv=>whnf)
   obtain rfl:x=s:=by rw[hck,IT,hsk]at hx;exact(Option.some.inj hx).symm
   generalize nn=n7 at *;have hs2:Sat σ ([.box n7 (KO a (p++[x]))]++CJ L (pre++e4::(post++new))):=fX (X:=[.box n7 (KO a (p++[x]))]) (hs.perm (.swap _ _ _));clear hs;obtain⟨o,ho⟩: ∃o,w.owner[x.toNat]? =some o:=⟨_,Ct (by omega)⟩
   have hoI:CV w x=o:=by simp only[CV,DK,ho];rfl
   obtain⟨ho1,ho2⟩:=hw.2.2 o (B1 ho);have hwp:=hw.1.1;have hcx:=hcan x hsm L;cases hnx:BC x<;>cases hcy:can x
   all_goals
    rw[hcy]at hcx;rw[V9,hnx,hcy,hoI]at hF;refine(Kf w us hinv (a:=a) (p:=p++[x]) (by simp;omega)).use (rest:=[.box n7 (KO a (p++[x]))]) (hs2.perm Po) ?_;clear hs2;rintro r post' σ ⟨es5,e5,got5,rfl,rfl⟩ hs;have hek5:e5.k.BC=BC x:=by rw[got5.k,←hnf]
    rw[hnx]at hek5;obtain⟨newA,heA,hnA⟩:=got5.ext;obtain⟨pre5,post5,he5⟩:=List.append_of_mem got5.mem;rw[he5]at hs;replace hs:=HK (X:=[.box n7 (KO a (p++[x]))]) (hs.perm Po);rw[hek5]at hs
    conv=>whnf
    repeat'((first|apply dr|refine rk ?_ ?_|exact fun s e=>by cases e;rfl|refine⟨kZ,?_⟩|refine ld ?_|fail)<;>conv=>whnf)
    have hs2:Sat σ ([.box n7 (KO a (p++[x]))]++CJ L (pre5++e5::post5)):=Eb (X:=[.box n7 (KO a (p++[x]))]) (e:=e5) (e':=e5) rfl rfl rfl (by rw[←hek5]at hs;exact hs);clear hs;refine(hcx es5 got5.inv).use (rest:=[.box n7 (KO a (p++[x]))]) (by rw[he5];exact hs2.perm Po) ?_;clear hs2;rintro r post' σ ⟨rfl,es6,⟨new6,he6,hn6⟩,hi6,rfl⟩ hs;have he7:es6=pre5++e5::(post5++new6):=by rw[he6,he5];simp
    rw[he7]at hs;replace hs:=HK (X:=[.box n7 (KO a (p++[x]))]) (hs.perm Po);rw[hek5]at hs
    conv=>whnf
    repeat'((first|apply st|(apply sq;intro K U)|(apply si;intro A B Y Z)|(apply Y;clear Z B Y A)|(apply U;clear U K)|apply dr|refine rk ?_ ?_|exact fun s e=>by cases e;rfl|refine⟨rfl,?_⟩|refine FE ?_|refine ld ?_|refine E2 ?_|refine D2 ?_|refine Pure.use (HR m o hm (by omega) (by omega)) ?_|refine Pure.use (HR no o hno (by omega) (by omega)) ?_|clear U K)<;>conv=>whnf)
    simp only[Bool.not_false,Bool.not_true,Bool.and_true,Bool.and_false,Lb,if_false,if_true,Option.bind_some,Option.bind_none]at hF;have e7:es6=pre++e4::(post++(new++newA++new6)):=by rw[he6,heA];simp
    have hs2:Sat σ ([.box n7 (KO a (p++[x]))]++CJ L (pre5++e5::(post5++new6))):=Eb (X:=[.box n7 (KO a (p++[x]))]) (e:=e5) (e':=e5) rfl rfl rfl (by rw[←hek5]at hs;exact hs)
    have hs3:Sat σ (CJ L (pre++e4::(post++(new++newA++new6)))):=by
     rw[←he7,e7]at hs2;exact hs2.less (List.sublist_append_right _ _)
    have hi7:D5 kf (pre++e4::(post++(new++newA++new6))):=by rw[←e7];exact hi6
    have hn7: ∀y∈new++newA++new6,y.k=k0:=fun y hy=>by
     rcases Fo.1 hy with hy|hy
     ·rcases Fo.1 hy with hy|hy
      ·exact hnew y hy
      ·exact hnA y hy
     ·exact hn6 y hy
    have hob:2 ^ o.toNat<18446744073709551616:=Jx (by omega)
   ·exact⟨hlt,((m,no|||2 ^ o.toNat),new++newA++new6),rfl,⟨⟨hm,KZ hno hob⟩,⟨hi7,hn7⟩,hF⟩,RQ (X:=[]) hs3⟩
   ·exact⟨hlt,((m,no),new++newA++new6),rfl,⟨⟨hm,hno⟩,⟨hi7,hn7⟩,hF⟩,RQ (X:=[]) hs3⟩
   ·rw[hF]at hOy
    exact AR ⟨_,⟨by rw[hOy];rfl,_,got.ext.trans ⟨_,by simp,hn7⟩,hi7,rfl⟩,hs3⟩
   ·exact⟨hlt,((m|||2 ^ o.toNat,no),new++newA++new6),rfl,⟨⟨KZ hm hob,hno⟩,⟨hi7,hn7⟩,hF⟩,RQ (X:=[]) hs3⟩
  ·rw [Ag hke,IM]at hF
   rw[hF]at hOy;simp only at hOy
   conv=>whnf
   repeat'((first|apply st|(apply sq;intro K U)|(apply si;intro A B Y Z)|(apply Y;clear Z B Y A)|(apply U;clear U K)|refine⟨rfl,?_⟩|(refine DU (fun hc=>?_)<;>(try rw[hc])<;>clear hc)|clear U K)<;>conv=>whnf)
   have hu:ot us:=by rw[←hus];exact HS _ _ (by have:=hw.1.1;omega)
   have hul:us.length=3+w.parents.length:=by rw[←hus];exact En _ _
   have hwp:=hw.1.1;have hwl:IntKind.i64.wrap (3+((Ej w.parents).length:Nat))=3+(w.parents.length:Int):=by rw[BD,wrap64 (by omega) (by omega)]
   refine B4 w.parents.length (fun k (x:Nat)=>[(14,eI (KX 3 k)),(7,eU x)]) (fun _ _=> .own e4.vs 1 (iL e4.k.AT)::Hx L pre post e4 new) (fun k x=>x<18446744073709551616∧x=Di us k m) m rfl ⟨hm,rfl⟩ hs ?_;clear hs;clear hke hck hk k;rintro k x σ hk ⟨hx64,hxe⟩ hs;have hc3:KX 3 k=3+k:=NU (by omega) (by omega);by_cases hlt:k<w.parents.length
   ·have hbt:Di us (k+1) m=if x.testBit (KX 3 k).toNat then x|||us.getD (3+k) 0 else x:=by
     rw[Di,←hxe,hc3,show(3+(k:Int)).toNat=3+k by omega]
    have hup:(List.drop ((KX 3 k).toNat*1) (List.drop 2 (wC w us)))[0]? =some (eU (us.getD (3+k) 0)):=by
     rw[c0,c0,←V7 w us (i:=3+k) (by omega)];congr 1;omega
    conv=>whnf
    repeat'((first|apply st|(apply sq;intro K U)|(apply si;intro A B Y Z)|(apply Y;clear Z B Y A)|(apply U;clear U K)|refine⟨rfl,?_⟩|refine oz ?_|(rw[hup])|refine Pure.use (Wv x (KX 3 k) hx64 (by omega) (by omega)) ?_|(constructor<;>intro hc<;>(try rw[hc])<;>(replace hc:=bp hc)<;>(try simp(disch:=omega) only[BD,wrap64,AL]at hc)<;>try(exfalso;omega))|clear U K)<;>conv=>whnf)
    ·refine⟨hlt,x|||us.getD (3+k) 0,?_,⟨KZ hx64 (Lv hu _),by rw[hbt,if_pos (by assumption)]⟩,hs⟩
     rw[Kr hx64 (Lv hu _)];rfl
    ·exact⟨hlt,x,rfl,⟨hx64,by rw[hbt,if_neg (by rw[‹x.testBit _=false›];decide)]⟩,hs⟩
   ·have hke:k=w.parents.length:=by omega
    rw[hus,←hke,←hxe]at hOy
    have Y:bits .andNot .u64 (x:Int) 1=((HD x:Nat):Int):=by
     have:=Qs (a:=x) (b:=1);rw[cg hx64]at this;exact this
    have hcl:HD x<18446744073709551616:=by unfold HD;omega
    have Z:bits .and .u64 ((HD x:Nat):Int) (no:Int)=((HD x&&&no:Nat):Int):=LD hcl hno
    conv=>whnf
    repeat'((first|apply st|(apply sq;intro K U)|(apply si;intro A B Y Z)|(apply Y;clear Z B Y A)|(apply U;clear U K)|refine⟨rfl,?_⟩|(constructor<;>intro hc<;>(try rw[hc])<;>(replace hc:=bp hc)<;>(try simp(disch:=omega) only[BD,wrap64,AL]at hc)<;>try(exfalso;omega))|clear U K)<;>conv=>whnf)
    rw[Y,Z];refine AR ⟨_,⟨?_,_,got.ext.trans ⟨new,by simp,hnew⟩,hinv,rfl⟩,iR hs⟩;rw[hOy]
    have hz:(((HD x&&&no:Nat):Int)==0)=(HD x&&&no==0):=by
     rw[Le,Dn,Dn];omega
    rw[←hz]
def oD (w:AK) (hw:CS w) {kf:Int→List Int→Kn} (hr:Iz w kf) (a:Int): ∀(d:Nat) (p:List Int),p.length+d=2→ ∀(L:Nat) (es:List DA),D5 kf es→
    Bj Tryz.prog 260 [SU w (CG w.parents) L,Ek a p] (CJ L es) fun r post=>r= .ret (.b (M4 w kf a d p))∧Nn kf L es post:=by
 intro d
 induction d with
 | zero=>
   intro p hp L es h σ hs;have hint:=O5 w (CG w.parents) hr h (L:=L) (a:=a) (p:=p) (by omega);have hnone:=fun es h=>Wl w (CG w.parents) hr (es:=es) h (L:=L) (a:=a) (p:=p) (by omega)
   have hobj:=fun es h=>QR w hw hr (a:=a) (p:=p) (by omega) (fun _=>false) (by rw[hr.short a p (by omega)];intro s hs;cases hs) (L:=L) (es:=es) h
   rw[M4];cases hI:RI kf a p<;>cases hN:Ka kf a p<;>rw[hI]at hint<;>rw[hN]at hnone
   all_goals
    refine Z4 kZ ?_
    conv=>whnf
    repeat'((first|apply st|(apply sq;intro K U)|(apply si;intro A B Y Z)|(apply Y;clear Z B Y A)|(apply U;clear U K)|refine⟨kZ,?_⟩|fail)<;>conv=>whnf)
    refine hint.use (rest:=[]) (by simpa using hs) ?_;clear hs;rintro r post σ ⟨rfl,es2,hx2,hi2,rfl⟩ hs;rw[Hj]at hs
    conv=>whnf
    repeat'((first|apply st|(apply sq;intro K U)|(apply si;intro A B Y Z)|(apply Y;clear Z B Y A)|(apply U;clear U K)|refine⟨kZ,?_⟩|clear U K)<;>conv=>whnf)
   rotate_left 2
   ·exact AR ⟨_,⟨rfl,es2,hx2,hi2,rfl⟩,hs⟩
   ·exact AR ⟨_,⟨rfl,es2,hx2,hi2,rfl⟩,hs⟩
   all_goals
    refine(hnone es2 hi2).use (rest:=[]) (by simpa using hs) ?_;clear hs;rintro r post σ ⟨rfl,es3,hx3,hi3,rfl⟩ hs;rw[Hj]at hs
    conv=>whnf
    repeat'((first|apply st|(apply sq;intro K U)|(apply si;intro A B Y Z)|(apply Y;clear Z B Y A)|(apply U;clear U K)|refine⟨kZ,?_⟩|refine E2 ?_|refine D2 ?_|clear U K)<;>conv=>whnf)
   rotate_left 1
   ·exact AR ⟨_,⟨rfl,es3,hx2.trans hx3,hi3,rfl⟩,hs⟩
   ·refine(hobj es3 hi3).use (rest:=[]) (by simpa using hs) ?_
    clear hs;rintro r post σ ⟨rfl,es4,hx4,hi4,rfl⟩ hs;rw[Hj]at hs
    conv=>whnf
    repeat'((first|apply st|(apply sq;intro K U)|(apply si;intro A B Y Z)|(apply Y;clear Z B Y A)|(apply U;clear U K)|fail)<;>conv=>whnf)
    exact AR ⟨_,⟨rfl,es4,(hx2.trans hx3).trans hx4,hi4,rfl⟩,hs⟩
 | succ d ih=>
   intro p hp L es h σ hs;have hint:=O5 w (CG w.parents) hr h (L:=L) (a:=a) (p:=p) (by omega);have hnone:=fun es h=>Wl w (CG w.parents) hr (es:=es) h (L:=L) (a:=a) (p:=p) (by omega)
   have hobj:=fun es h=>QR w hw hr (a:=a) (p:=p) (by omega) (fun s=>M4 w kf a d (p++[s])) (fun s hs L es h=>ih (p++[s]) (by simp;omega) L es h) (L:=L) (es:=es) h
   rw[M4];cases hI:RI kf a p<;>cases hN:Ka kf a p<;>rw[hI]at hint<;>rw[hN]at hnone
   all_goals
    refine Z4 kZ ?_
    conv=>whnf
    repeat'((first|apply st|(apply sq;intro K U)|(apply si;intro A B Y Z)|(apply Y;clear Z B Y A)|(apply U;clear U K)|refine⟨kZ,?_⟩|fail)<;>conv=>whnf)
    refine hint.use (rest:=[]) (by simpa using hs) ?_;clear hs;rintro r post σ ⟨rfl,es2,hx2,hi2,rfl⟩ hs;rw[Hj]at hs
    conv=>whnf
    repeat'((first|apply st|(apply sq;intro K U)|(apply si;intro A B Y Z)|(apply Y;clear Z B Y A)|(apply U;clear U K)|refine⟨kZ,?_⟩|clear U K)<;>conv=>whnf)
   rotate_left 2
   ·exact AR ⟨_,⟨rfl,es2,hx2,hi2,rfl⟩,hs⟩
   ·exact AR ⟨_,⟨rfl,es2,hx2,hi2,rfl⟩,hs⟩
   all_goals
    refine(hnone es2 hi2).use (rest:=[]) (by simpa using hs) ?_;clear hs;rintro r post σ ⟨rfl,es3,hx3,hi3,rfl⟩ hs;rw[Hj]at hs
    conv=>whnf
    repeat'((first|apply st|(apply sq;intro K U)|(apply si;intro A B Y Z)|(apply Y;clear Z B Y A)|(apply U;clear U K)|refine⟨kZ,?_⟩|refine E2 ?_|refine D2 ?_|clear U K)<;>conv=>whnf)
   rotate_left 1
   ·exact AR ⟨_,⟨rfl,es3,hx2.trans hx3,hi3,rfl⟩,hs⟩
   ·refine(hobj es3 hi3).use (rest:=[]) (by simpa using hs) ?_
    clear hs;rintro r post σ ⟨rfl,es4,hx4,hi4,rfl⟩ hs;rw[Hj]at hs
    conv=>whnf
    repeat'((first|apply st|(apply sq;intro K U)|(apply si;intro A B Y Z)|(apply Y;clear Z B Y A)|(apply U;clear U K)|fail)<;>conv=>whnf)
    exact AR ⟨_,⟨rfl,es4,(hx2.trans hx3).trans hx4,hi4,rfl⟩,hs⟩
abbrev gr:V:= .KT 257 (.a [])
def ak (w:AK) (hw:CS w) {kf:Int→List Int→Kn} (hr:Iz w kf) {L:Nat} {es:List DA} (h:D5 kf es) :
    Bj Tryz.prog 231 [SU w (CG w.parents) L] (CJ L es) fun r post=>r=(if ZC w kf then .ret (.t [])else .C9 gr)∧post= []:=by
 intro σ hs;refine lL kZ ?_
 conv=>whnf
 repeat'((first|apply st|(apply sq;intro K U)|(apply si;intro A B Y Z)|(apply Y;clear Z B Y A)|(apply U;clear U K)|fail)<;>conv=>whnf)
 refine B4 3 (fun k (x:List DA)=>[(3,eI (A3 k))]) (fun k x=>CJ L x) (fun k x=>D5 kf x∧ZC w kf=((Bg 3).drop k).all fun a=>M4 w kf a 2 []) es rfl ⟨h,rfl⟩ hs ?_;clear hs h;rintro k es σ hk ⟨h,hn⟩ hs;have hck:A3 k=k:=AL (by simp only[Ac];omega);have hl3:(Bg 3).length=3:=rfl;rcases BE (Bg 3) hk with⟨a,ha,hlt⟩|hke
 ·rw[drop_cons ha,MU]at hn
  have hak:a=A3 k:=by
   rw[hck];simp only[Bg,Lc,List.getElem?_range (show k<3 from hlt),UY]at ha;exact(Option.some.inj ha).symm
  subst hak;have hcan:=oD w hw hr (A3 k) 2 [] rfl L es h;cases hC:M4 w kf (A3 k) 2 []<;>rw[hC]at hcan hn
  all_goals
   conv=>whnf
   repeat'((first|apply st|(apply sq;intro K U)|(apply si;intro A B Y Z)|(apply Y;clear Z B Y A)|(apply U;clear U K)|refine⟨rfl,?_⟩|(constructor<;>intro hc<;>(try rw[hc])<;>(replace hc:=bp hc)<;>(try simp(disch:=omega) only[BD,wrap64,AL]at hc)<;>try(exfalso;omega))|fail)<;>conv=>whnf)
   refine hcan.use (rest:=[]) (by simpa using hs) ?_;clear hs;rintro r post σ ⟨rfl,es2,hx2,hi2,rfl⟩ hs;rw[Hj]at hs
   conv=>whnf
   repeat'((first|apply st|(apply si;intro A B Y Z)|(apply Y;clear Z B Y A)|(refine Z _ _ _ ?_;clear Z B Y A)|(apply U;clear U K)|refine⟨rfl,?_⟩|refine E2 ?_|refine D2 ?_|clear U K)<;>conv=>whnf)
  ·exact DS ⟨_,⟨by rw[hn];rfl,rfl⟩,hs.less (LY _)⟩
  ·exact⟨by omega,es2,rfl,⟨hi2,by simpa using hn⟩,hs⟩
 ·rw[Ag hke]at hn
  conv=>whnf
  repeat'((first|apply st|(apply sq;intro K U)|(apply si;intro A B Y Z)|(apply Y;clear Z B Y A)|(apply U;clear U K)|refine⟨rfl,?_⟩|(constructor<;>intro hc<;>(try rw[hc])<;>(replace hc:=bp hc)<;>(try simp(disch:=omega) only[BD,wrap64,AL]at hc)<;>try(exfalso;omega))|clear U K)<;>conv=>whnf)
  exact AR ⟨_,⟨by rw[hn];rfl,rfl⟩,hs.less (LY _)⟩
def XP {w:AK} {ls:List Fact} (hw:w.parents.length≤60) (h: ∀x∈ls,Ic w x):Uy ls:=by
 intro l hl;obtain⟨-,hc,hsm,hsh⟩:=I4 h;obtain⟨-,hn,hlf⟩:=HW (h l hl);exact⟨F0 hlf,hsh l hl,fun ho=>by have:=hc l hl ho;omega,hsm l hl⟩
def jr {ls:List Fact} (h:Jw ls) (a:Int) (p:List Int): -1000000000≤(kn ls a p).low∧(kn ls a p).low≤1000000000:=by
 have key: ∀(ls:List Fact) (k:Kn),Jw ls→(-1000000000≤k.low∧k.low≤1000000000)→ -1000000000≤(ls.foldl (DL a p) k).low∧(ls.foldl (DL a p) k).low≤1000000000:=by
  intro ls
  induction ls with
  | nil=>intro k _ h;exact h
  | cons l r ih=>
    intro k hs hk;refine ih _ (fun x hx=>hs x (.tail _ hx)) ?_;have hn:=hs l (.head _);unfold DL Cu Ds dA
    repeat' split
    all_goals first
     | exact hk
     | exact hn
     | (simp only;exact hk)
     | (simp only;exact hn)
 exact key ls k0 h ⟨by decide,by decide⟩
def Wc {w:AK} {ls:List Fact} (h: ∀x∈ls,Ic w x):Ho w.owner.length ls:=by
 intro l hl s hs;obtain⟨-,hn,-⟩:=HW (h l hl);rw[Ci,BZ]at hn;have:=hn.1;simp only[DC,E3,BZ,E0,HH,CY]at this;exact this.2.2.2.2.1.1 s hs
def dy {w:AK} (hw:CS w) {ls:List Fact} (h: ∀x∈ls,Ic w x) (hlen:ls.length<900):Iz w (kn ls):=by
 have hadd:=XP (by have:=hw.1.1;omega) h;obtain⟨-,-,hsm,hsh⟩:=I4 h;have hp:=Wc h;refine⟨fun a p=>?_,jr hsm,fun a p hpl=>?_,fun a p s hs=>?_⟩
 ·obtain⟨h1,h2,h3,h4⟩:=Zu hadd a p
  exact⟨h1,h2,by omega,by omega⟩
 ·rw[K5 hp]
  exact MA hsh hpl
 ·rw[K5 hp]at hs
  exact JM hs
def ik {w:AK} (hw:CS w) {ls:List Fact} (h: ∀x∈ls,Ic w x):ZC w (kn ls)=Gv w ls:=by
 obtain⟨-,hc,-,-⟩:=I4 h;refine il ?_ (fun s h0 h1=>?_) (by have:=hw.1.1;omega) (fun l hl ho=>by have:=hc l hl ho;omega) (Wc h)
 ·exact JP hw.1
 ·obtain⟨o,ho⟩: ∃o,w.owner[s.toNat]? =some o:=⟨_,Ct (by omega)⟩
  have hoI:CV w s=o:=by simp only[CV,DK,ho];rfl
  rw[hoI];exact hw.2.2 o (B1 ho)
def fQ {σ:AH} {n:Nat} {x:V} {rest:List At} (hs:Sat σ (.box n [x]::rest)) {Q:AH→Prop} (hq: ∀σ',Sat σ' (.box n [.b false]::rest)→Q σ'):M8 Tryz.prog 229 [.p n 0] (some gr) σ Q:=by
 refine XE kZ ?_
 conv=>whnf
 repeat'((first|apply st|(apply sq;intro K U)|(apply si;intro A B Y Z)|(apply Y;clear Z B Y A)|(apply U;clear U K)|refine FB fun σ hs=>?_|refine DB fun σ hs=>?_|refine iJ rfl ?_|(intro nn hnn;generalize hg:A6 _ nn _=σ;refine CW hg fun hs=>?_;clear hg)|fail)<;>conv=>whnf)
 exact hq _ (hs.less (Jp _ _))
def fS {σ:AH} {n:Nat} {x:V} {rest:List At} (hs:Sat σ (.box n [x]::rest)) {Q:AH→Prop} (hq: ∀σ',Sat σ' (.box n [x]::rest)→Q σ'):M8 Tryz.prog 229 [.p n 0] none σ Q:=by
 refine XE kZ ?_
 conv=>whnf
 repeat'((first|apply st|(apply sq;intro K U)|(apply si;intro A B Y Z)|(apply Y;clear Z B Y A)|(apply U;clear U K)|refine⟨rfl,?_⟩|refine DB fun σ hs=>?_|(intro nn hnn;generalize hg:A6 _ nn _=σ;refine CW hg fun hs=>?_;clear hg)|fail)<;>conv=>whnf)
 exact hq _ (hs.less (Jp _ _))
attribute [local irreducible] M8
def Tt (w:AK) (hw:CS w) (ls:List Fact) (b:Bool) (hl: ∀x∈ls,Ic w x) (hlen:ls.length<900):Pure Tryz.prog 183 [.rp (wC w (CG w.parents)),.l (FG ls) b] (.b (Gv w ls)):=by
 refine Pure.of ?_;refine mE kZ ?_;have hs:=Sn
 conv=>whnf
 repeat'((first|(apply sq;intro K U)|(apply si;intro A B Y Z)|(apply Y;clear Z B Y A)|(apply U;clear U K)|(intro nn hnn;generalize hg:A6 _ nn _=σ;refine CW hg fun hs=>?_;clear hg)|fail)<;>conv=>whnf)
 refine(a8 w (CG w.parents) ls b (XP (by have:=hw.1.1;omega) hl) hlen).use (rest:=[.box nn [.b false]]) (by simpa using hs) ?_;clear hs;rintro r post σ ⟨L,es,rfl,hinv,rfl⟩ hs;have hwh:=ak w hw (dy hw hl hlen) hinv (L:=L);rw[ik hw hl]at hwh;cases ht:Gv w ls<;>rw[ht]at hwh
 all_goals
  conv=>whnf
  refine hwh.use (rest:=[.box nn [.b false]]) hs ?_;clear hs;rintro r post σ ⟨rfl,rfl⟩ hs
  conv=>whnf
  repeat'((first|apply st|(apply sq;intro K U)|(apply si;intro A B Y Z)|(apply Y;clear Z B Y A)|(refine Z _ _ _ ?_;clear Z B Y A)|(apply U;clear U K)|refine FB fun σ hs=>?_|clear U K)<;>conv=>whnf)
 ·refine fQ (rest:=[]) hs fun σ hs=>?_
  conv=>whnf
  repeat'((first|refine ld ?_|fail)<;>conv=>whnf)
  exact AR (by rw[ht];rfl)
 ·refine fS (rest:=[]) (x:= .b true) hs fun σ hs=>?_
  conv=>whnf
  repeat'((first|refine ld ?_|fail)<;>conv=>whnf)
  exact AR (by rw[ht];rfl)
end Go.Gl
