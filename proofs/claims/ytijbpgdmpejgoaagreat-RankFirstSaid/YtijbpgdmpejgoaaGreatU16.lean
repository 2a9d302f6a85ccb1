import Derived.Test.YtijbpgdmpejgoaaGreatRows
import Derived.HandedShaped
import Derived.Test.YtijbpgdmpejgoaaGreatU6
import Derived.Test.YtijbpgdmpejgoaaGreatU15
set_option linter.all false
set_option linter.defProp false
noncomputable section
namespace Go.Gl
open Go.Proofs
attribute [local irreducible] BJ A2 Ak AW AM Aj AV AX AN Ai AR AU A5 BF Sat Ad BD Al W
def SC {α S:Type} (stp:α→S→Bool×S) (D:α→S→Prop):List α→S→Prop
 | [],_=>True
 | y::r,s=>D y s∧((stp y s).1=true→SC stp D r (stp y s).2)
section
variable {α β S:Type} {stp:α→S→Bool×S} {D:α→S→Prop}
def OM: ∀(A B:List α) (s:S),Cm stp (A++B) s=if(Cm stp A s).1 then Cm stp B (Cm stp A s).2 else(false,(Cm stp A s).2)
 | [],B,s=>by simp[Cm]
 | y::r,B,s=>by
   rw[List.cons_append,Cm,Cm];cases(stp y s).1
   ·rfl
   ·simpa using OM r B (stp y s).2
def TV (l:α) (s:S):Cm stp [l] s=stp l s:=by
 rw[Cm,Cm];rcases stp l s with⟨b,s'⟩;cases b<;>rfl
def RY: ∀ {A B:List α} {s:S},SC stp D (A++B) s→SC stp D A s∧((Cm stp A s).1=true→SC stp D B (Cm stp A s).2)
 | [],B,s,h=>⟨trivial,fun _=>h⟩
 | y ::r,B,s,h=>by
   obtain⟨h1,h2⟩:=h;rw[SC,Cm];cases hy:(stp y s).1
   ·exact⟨⟨h1,fun h=>(by cases h)⟩,fun h=>(by simp at h)⟩
   ·obtain⟨h3,h4⟩:=RY (h2 hy)
    exact⟨⟨h1,fun _=>h3⟩,by simpa using h4⟩
def M9 {A:List α}: ∀ {B:List α} {s:S},(∀y∈B,y∈A)→SC stp D B s→SC stp (fun y s=>y∈A∧D y s) B s
 | [],_,_,_=>trivial
 | y::r,_,hm,h=>⟨⟨hm y (.head _),h.1⟩,fun hy=>M9 (fun z hz=>hm z (.tail _ hz)) (h.2 hy)⟩
def WJ {g:β→α}: ∀ {B:List β} {s:S},SC stp D (B.map g) s→SC (fun b s=>stp (g b) s) (fun b s=>D (g b) s) B s
 | [],_,_=>trivial
 | y::r,_,h=>⟨h.1,fun hy=>WJ (h.2 hy)⟩
end
section
variable {S:Type} {stp:List Fact→S→Bool×S} {D:List Fact→S→Prop}
def Qp (B:List (List Fact)): ∀(A:List (List Fact)) (s:S),Cm stp (Dl A B) s=Cm (fun x s=>Cm (fun y s=>stp (CW x y) s) B s) A s
 | [],s=>rfl
 | x::r,s=>by
   have ih:=Qp B r;rw[Dl,List.flatMap_cons,OM,LC,Cm];simp only[Dl]at ih;rw[ih]
def TC (B:List (List Fact)): ∀ {A:List (List Fact)} {s:S},SC stp D (Dl A B) s→SC (fun x s=>Cm (fun y s=>stp (CW x y) s) B s) (fun x s=>SC (fun y s=>stp (CW x y) s) (fun y s=>D (CW x y) s) B s) A s
 | [],_,_=>trivial
 | x::r,s,h=>by
   rw[Dl,List.flatMap_cons]at h;obtain⟨h1,h2⟩:=RY h;refine⟨WJ h1,fun hy=>?_⟩;rw[LC]at h2;exact TC B (h2 hy)
end
abbrev UO (l:List Fact) (b:Bool):V:= .l (FD l) b
def Pw {S:Type} (x:V) (H:S→List At) (stp:List Fact→S→Bool×S) (D:List Fact→S→Prop):Prop:= ∀b,DC Tryz.prog x (fun l=>UO l b) H stp D
abbrev SU (n:Nat):V:= .f (.func 225) [] [.p n 0]
def Xy {f:Fact} (hl:Bq f=true) (c:Bool):Jk (if c then FX f else f)=xF f++[.b c]:=by
 have:=F2 hl;cases c with
 | true=>rfl
 | false=>
   have h5: ¬f.op=5:=by omega
   simp only[Jk,LS,if_false,A0,if_neg h5]
def WalkC (f:Fact):Prop:= ∀(c:Bool) (S:Type) (fn:Fn) (fi ca:List V) (H:S→List At) (stp:List Fact→S→Bool×S) (D:List Fact→S→Prop) (nW:Nat) (s:S),
 Pw (.f fn fi ca) (fun s=> .box nW [SU nW]::H s) stp D→SC stp D (BS f c) s→ ∀σ,Sat σ (.box nW [SU nW]::H s)→
  A5 Tryz.prog (SU nW) [.a (xF f),.b c,.f fn fi ca] σ fun r σ'=>r= .ret (.b (Cm stp (BS f c) s).1)∧Sat σ' (.box nW [SU nW]::H (Cm stp (BS f c) s).2)
def bz {w:AK} {S:Type} {fn:Fn} {fi ca:List V} {H:S→List At} {stp:List Fact→S→Bool×S} {D:List Fact→S→Prop} (hT:Pw (.f fn fi ca) H stp D) {k0 k1:Fact} {c:Bool} (hn0:Bj w k0=true) (hn1:Bj w k1=true) (hv0:lv k0≤100) (hv1:lv k1≤100) {a:List Fact} (ha:a∈BS k0 c) (fa:Bool) :
    Pw (.f (.func 227) [] [.rp [.f fn fi ca],.rp [UO a fa]]) H (fun y s=>stp (CW a y) s) (fun y s=>y∈BS k1 c∧D (CW a y) s):=by
 rintro b y s ⟨hy,hd⟩ σ hs;refine Bp ?_;show BJ Tryz.prog 227 ([]++[UO y b]++[.rp [.f fn fi ca],.rp [UO a fa]]) σ _;have hla:=(Ea k0 (C0 _ hn0) c).2 a ha;have hly:=(Ea k1 (C0 _ hn1) c).2 y hy;have hM:=Mx;refine kk kZ ?_
 conv=>whnf
 repeat'((first|apply st|(apply sq;intro K U)|(apply si;intro A B Y Z)|(apply Y;clear Z B Y A)|(apply U;clear U K)|apply dr|refine rk ?_ ?_|exact fun s e=>by cases e;rfl|refine Pure.use (X5 (w:=w) a y fa b (Em k0 hn0 c a ha) (Em k1 hn1 c y hy) (by omega)) ?_|fail)<;>conv=>whnf)
 refine(hT false).use hd hs ?_;clear hs;intro σ hs
 conv=>whnf
 repeat'((first|apply st|(apply Y;clear Z B Y A)|(apply U;clear U K)|apply dr|fail)<;>conv=>whnf)
 exact AQ ⟨rfl,hs⟩
def b6 {w:AK} {S:Type} {fn:Fn} {fi ca:List V} {H:S→List At} {stp:List Fact→S→Bool×S} {D:List Fact→S→Prop} {nW:Nat} (hT:Pw (.f fn fi ca) (fun s=> .box nW [SU nW]::H s) stp D) {f k0 k1:Fact} (hk:f.kids= [k0,k1]) {c:Bool} (hn0:Bj w k0=true) (hn1:Bj w k1=true) (hv0:lv k0≤100) (hv1:lv k1≤100) (hw1:WalkC k1) :
    Pw (.f (.func 226) [] [.p nW 0,.rp (xF f),.rp [.b c],.rp [.f fn fi ca]]) (fun s=> .box nW [SU nW]::H s) (fun a s=>Cm (fun y s=>stp (CW a y) s) (BS k1 c) s) (fun a s=>a∈BS k0 c∧SC (fun y s=>stp (CW a y) s) (fun y s=>D (CW a y) s) (BS k1 c) s):=by
 rintro fa a s ⟨ha,hd⟩ σ hs;refine Bp ?_;show BJ Tryz.prog 226 ([]++[UO a fa]++[.p nW 0,.rp (xF f),.rp [.b c],.rp [.f fn fi ca]]) σ _;have h1:f.kids[(1:Int).toNat]? =some k1:=by rw[hk];rfl
 refine ko kZ ?_
 conv=>whnf
 repeat'((first|apply st|(apply sq;intro K U)|(apply si;intro A B Y Z)|(apply Y;clear Z B Y A)|(apply U;clear U K)|apply dr|refine⟨kZ,?_⟩|refine NR ?_|refine ld ?_|fail)<;>conv=>whnf)
 refine(hw1 c S _ _ _ H _ _ nW s (bz hT hn0 hn1 hv0 hv1 ha fa) (M9 (fun y hy=>hy) hd) σ hs).mono ?_;clear hs;rintro r σ ⟨rfl,hs⟩
 conv=>whnf
 repeat'((first|apply st|(apply Y;clear Z B Y A)|(apply U;clear U K)|apply dr|fail)<;>conv=>whnf)
 exact AQ ⟨rfl,hs⟩
set_option maxHeartbeats 2000000 in
def dE {w : AK} (f:Fact):Bj w f=true→lv f≤100→WalkC f:=by
 induction f using Fact.ind with
 | h f ih=>
   intro hn hv c S fn fi ca H stp D nW s hT hd σ hs;have har:=C0 _ hn
   have hnk: ∀k∈f.kids,Bj w k=true:=by
    rw[Ch,BY,EN]at hn;exact hn.2
   have hop:f.op=1∨f.op=5∨Bq f=true∨f.op=6∨f.op=7:=by
    rw[Ch,BY]at hn;have h1:=hn.1;simp only[DB,SG,BY]at h1;rw[N4];simp only[BY,Ce];have h2:=h1.1;split at h2
    ·omega
    ·split at h2
     ·omega
     ·simp only[Fq,Dx]at h2
      omega
   refine Bp ?_;show BJ Tryz.prog 225 ([]++[.a (xF f),.b c,.f fn fi ca]++[.p nW 0]) σ _;refine kq kZ ?_;rw[F8,FN]at hd;have hcs:=F8 f c;rw[FN]at hcs;rcases hop with h1|h5|hl|h67
   ·rw[if_pos h1]at hd hcs
    rw[hcs];cases c
    ·rw[if_neg (by decide)]at hd ⊢
     rw[TV]
     conv=>whnf
     repeat'((first|apply st|(apply sq;intro K U)|(apply si;intro A B Y Z)|(apply Y;clear Z B Y A)|(apply U;clear U K)|refine⟨rfl,?_⟩|(constructor<;>intro hc<;>(try rw[hc])<;>(replace hc:=bp hc)<;>try(exfalso;omega))|fail)<;>conv=>whnf)
     refine(hT true).use (y:=[]) hd.1 hs ?_;clear hs;intro σ hs
     conv=>whnf
     repeat'((first|apply st|(apply Y;clear Z B Y A)|(apply U;clear U K)|clear U K)<;>conv=>whnf)
     exact AQ ⟨rfl,hs⟩
    ·rw[if_pos rfl]at hd ⊢
     conv=>whnf
     repeat'((first|apply st|(apply sq;intro K U)|(apply si;intro A B Y Z)|(apply Y;clear Z B Y A)|(apply U;clear U K)|refine⟨rfl,?_⟩|(constructor<;>intro hc<;>(try rw[hc])<;>(replace hc:=bp hc)<;>try(exfalso;omega))|clear U K)<;>conv=>whnf)
     exact AQ ⟨rfl,hs⟩
   ·obtain⟨k,hk,-⟩:=H2 har h5
    have hkm:k∈f.kids:=by rw[hk];exact .head _
    have hvk:lv k≤100:=by
     rw[ML,Yo,if_pos h5,hk]at hv;exact hv
    rw[if_neg (by omega),if_pos h5,hk]at hd hcs;have hcs2:BS f c=BS k (!c):=hcs;have h0:f.kids[(0:Int).toNat]? =some k:=by rw[hk];rfl
    rw[hcs2]
    conv=>whnf
    repeat'((first|apply st|(apply sq;intro K U)|(apply si;intro A B Y Z)|(apply Y;clear Z B Y A)|(apply U;clear U K)|apply dr|refine⟨rfl,?_⟩|refine⟨kZ,?_⟩|refine NR ?_|refine ld ?_|(constructor<;>intro hc<;>(try rw[hc])<;>(replace hc:=bp hc)<;>try(exfalso;omega))|fail)<;>conv=>whnf)
    refine(ih k hkm (hnk k hkm) hvk (!c) S _ _ _ H stp D nW s hT hd σ hs).mono ?_;clear hs;rintro r σ ⟨rfl,hs⟩
    conv=>whnf
    repeat'((first|apply st|(apply Y;clear Z B Y A)|(apply U;clear U K)|apply dr|clear U K)<;>conv=>whnf)
    exact AQ ⟨rfl,hs⟩
   ·have hlo:=F2 hl
    have hlB:=NC f;rw[hl]at hlB;rw[if_neg (by omega),if_neg (by omega),if_neg (by omega)]at hd hcs;have hcs2:BS f c= [[if c then FX f else f]]:=by rw[hcs];cases c<;>rfl
    rw[←hcs,hcs2]at hd;rw[hcs2,TV]
    have e:UO [if c then FX f else f] true= .l [xF f++[.b c]] true:=by
     show V.l [Jk (if c then FX f else f)] true=_;rw[Xy hl]
    have hst:=(hT true) [if c then FX f else f] s hd.1;simp only[e]at hst
    conv=>whnf
    repeat'((first|apply st|(apply sq;intro K U)|(apply si;intro A B Y Z)|(apply Y;clear Z B Y A)|(apply U;clear U K)|refine⟨rfl,?_⟩|refine⟨kZ,?_⟩|refine hlB.use ?_|(constructor<;>intro hc<;>(try rw[hc])<;>(replace hc:=bp hc)<;>try(exfalso;omega))|fail)<;>conv=>whnf)
    refine(hst σ hs).mono ?_;clear hs;rintro r σ ⟨rfl,hs⟩
    conv=>whnf
    repeat'((first|apply st|(apply Y;clear Z B Y A)|(apply U;clear U K)|clear U K)<;>conv=>whnf)
    exact AQ ⟨rfl,hs⟩
   ·obtain⟨k0,k1,hk,-,-⟩:=H0 har h67
    have hkm0:k0∈f.kids:=by rw[hk];exact .head _
    have hkm1:k1∈f.kids:=by rw[hk];exact .tail _ (.head _)
    have hlf:Bq f=false:=by rw[N4,decide_eq_false (show¬f.op≤4 by omega),Bool.and_false]
    have hlB:=NC f;rw[hlf]at hlB
    have hvk:lv k0+lv k1≤100:=by
     rw[ML,Yo,if_neg (by omega),if_pos h67,hk]at hv;exact hv
    rw[if_neg (by omega),if_neg (by omega),if_pos h67,hk]at hd hcs;have h0:f.kids[(0:Int).toNat]? =some k0:=by rw[hk];rfl
    have h1:f.kids[(1:Int).toNat]? =some k1:=by rw[hk];rfl
    have i0:=ih k0 hkm0 (hnk k0 hkm0) (by omega);have i1:=ih k1 hkm1 (hnk k1 hkm1) (by omega);by_cases hap:(c != (f.op==7))=true
    ·rw [if_pos hap]at hd hcs
     have hcs2:BS f c=BS k0 c++BS k1 c:=hcs;have hd2:SC stp D (BS k0 c++BS k1 c) s:=hd;obtain⟨hd3,hd4⟩:=RY hd2;rw[hcs2,OM];clear hcs hcs2 hd hd2;rcases h67 with h6|h7
     ·have h6b:(f.op==6)=true:=by rw[h6];rfl
      have hct:c=true:=by rw[h6]at hap;cases c<;>simp_all
      subst hct
      conv=>whnf
      repeat'((first|apply st|(apply sq;intro K U)|(apply si;intro A B Y Z)|(apply Y;clear Z B Y A)|(apply U;clear U K)|apply dr|refine⟨rfl,?_⟩|refine⟨kZ,?_⟩|refine NR ?_|refine ld ?_|refine Er ?_|refine hlB.use ?_|(rw[h6b])|(constructor<;>intro hc<;>(try rw[hc])<;>(replace hc:=bp hc)<;>try(exfalso;omega))|fail)<;>conv=>whnf)
      refine(i0 true S _ _ _ H stp D nW s hT hd3 σ hs).mono ?_;clear hs;rintro r σ ⟨rfl,hs⟩;generalize Cm stp (BS k0 true) s=x at *;obtain⟨b1,s1⟩:=x;cases b1
      ·conv=>whnf
       repeat'((first|apply st|(apply Y;clear Z B Y A)|(apply U;clear U K)|apply dr|clear U K)<;>conv=>whnf)
       exact AQ ⟨rfl,hs⟩
      ·conv=>whnf
       repeat'((first|apply st|apply dr|refine⟨kZ,?_⟩|refine NR ?_|refine ld ?_|fail)<;>conv=>whnf)
       refine(i1 true S _ _ _ H stp D nW s1 hT (hd4 rfl) σ hs).mono ?_;clear hs;rintro r σ ⟨rfl,hs⟩
       conv=>whnf
       repeat'((first|apply st|(apply Y;clear Z B Y A)|(apply U;clear U K)|apply dr|clear U K)<;>conv=>whnf)
       exact AQ ⟨rfl,hs⟩
     ·have h6b:(f.op==6)=false:=by rw[h7];rfl
      have hct:c=false:=by rw[h7]at hap;cases c<;>simp_all
      subst hct
      conv=>whnf
      repeat'((first|apply st|(apply sq;intro K U)|(apply si;intro A B Y Z)|(apply Y;clear Z B Y A)|(apply U;clear U K)|apply dr|refine⟨rfl,?_⟩|refine⟨kZ,?_⟩|refine NR ?_|refine ld ?_|refine Er ?_|refine hlB.use ?_|(rw[h6b])|(constructor<;>intro hc<;>(try rw[hc])<;>(replace hc:=bp hc)<;>try(exfalso;omega))|fail)<;>conv=>whnf)
      refine(i0 false S _ _ _ H stp D nW s hT hd3 σ hs).mono ?_;clear hs;rintro r σ ⟨rfl,hs⟩;generalize Cm stp (BS k0 false) s=x at *;obtain⟨b1,s1⟩:=x;cases b1
      ·conv=>whnf
       repeat'((first|apply st|(apply Y;clear Z B Y A)|(apply U;clear U K)|apply dr|clear U K)<;>conv=>whnf)
       exact AQ ⟨rfl,hs⟩
      ·conv=>whnf
       repeat'((first|apply st|apply dr|refine⟨kZ,?_⟩|refine NR ?_|refine ld ?_|fail)<;>conv=>whnf)
       refine(i1 false S _ _ _ H stp D nW s1 hT (hd4 rfl) σ hs).mono ?_;clear hs;rintro r σ ⟨rfl,hs⟩
       conv=>whnf
       repeat'((first|apply st|(apply Y;clear Z B Y A)|(apply U;clear U K)|apply dr|clear U K)<;>conv=>whnf)
       exact AQ ⟨rfl,hs⟩
    ·rw[if_neg hap]at hd hcs
     have hcs2:BS f c=Dl (BS k0 c) (BS k1 c):=hcs;have hd2:SC stp D (Dl (BS k0 c) (BS k1 c)) s:=hd;have hd3:=TC _ hd2;have hT2:=b6 hT hk (c:=c) (hnk k0 hkm0) (hnk k1 hkm1) (by omega) (by omega) i1;rw[hcs2,Qp];clear hcs hcs2 hd hd2;rcases h67 with h6|h7
     ·have h6b:(f.op==6)=true:=by rw[h6];rfl
      have hct:c=false:=by rw[h6]at hap;cases c<;>simp_all
      subst hct
      conv=>whnf
      repeat'((first|apply st|(apply sq;intro K U)|(apply si;intro A B Y Z)|(apply Y;clear Z B Y A)|(apply U;clear U K)|apply dr|refine⟨rfl,?_⟩|refine⟨kZ,?_⟩|refine NR ?_|refine ld ?_|refine De ?_|refine hlB.use ?_|(rw[h6b])|(constructor<;>intro hc<;>(try rw[hc])<;>(replace hc:=bp hc)<;>try(exfalso;omega))|fail)<;>conv=>whnf)
      refine(i0 false S _ _ _ H _ _ nW s hT2 (M9 (fun y hy=>hy) hd3) σ hs).mono ?_;clear hs;rintro r σ ⟨rfl,hs⟩
      conv=>whnf
      repeat'((first|apply st|(apply Y;clear Z B Y A)|(apply U;clear U K)|apply dr|fail)<;>conv=>whnf)
      exact AQ ⟨rfl,hs⟩
     ·have h6b:(f.op==6)=false:=by rw[h7];rfl
      have hct:c=true:=by rw[h7]at hap;cases c<;>simp_all
      subst hct
      conv=>whnf
      repeat'((first|apply st|(apply sq;intro K U)|(apply si;intro A B Y Z)|(apply Y;clear Z B Y A)|(apply U;clear U K)|apply dr|refine⟨rfl,?_⟩|refine⟨kZ,?_⟩|refine NR ?_|refine ld ?_|refine De ?_|refine hlB.use ?_|(rw[h6b])|(constructor<;>intro hc<;>(try rw[hc])<;>(replace hc:=bp hc)<;>try(exfalso;omega))|fail)<;>conv=>whnf)
      refine(i0 true S _ _ _ H _ _ nW s hT2 (M9 (fun y hy=>hy) hd3) σ hs).mono ?_;clear hs;rintro r σ ⟨rfl,hs⟩
      conv=>whnf
      repeat'((first|apply st|(apply Y;clear Z B Y A)|(apply U;clear U K)|apply dr|fail)<;>conv=>whnf)
      exact AQ ⟨rfl,hs⟩
def ja {w:AK} (f:Fact) (hn:Bj w f=true) (hv:lv f≤100) (c:Bool) {S:Type} {fn:Fn} {fi ca:List V} {H:S→List At} {stp:List Fact→S→Bool×S} {D:List Fact→S→Prop} {s:S} (hT: ∀nW,Pw (.f fn fi ca) (fun s=> .box nW [SU nW]::H s) stp D) (hd:SC stp D (BS f c) s) (σ:AH) (hs:Sat σ (H s)) :
    BJ Tryz.prog 224 [.f fn fi ca,.rp (xF f),.rp [.b c]] σ fun r σ'=>r= .ret (.t [])∧Sat σ' (H (Cm stp (BS f c) s).2):=by
 refine kr kZ ?_
 conv=>whnf
 repeat'((first|apply st|(apply sq;intro K U)|(apply si;intro A B Y Z)|(apply Y;clear Z B Y A)|(apply U;clear U K)|refine⟨kZ,?_⟩|refine ld ?_|refine FB fun σ hs=>?_|(intro nn hnn;generalize hg:BA _ nn _=σ;refine Ct hg fun hs=>?_;clear hg)|fail)<;>conv=>whnf)
 refine(dE f hn hv c S fn fi ca H stp D nn s (hT nn) hd σ hs).mono ?_;clear hs;rintro r σ ⟨rfl,hs⟩
 conv=>whnf
 repeat'((first|(apply Y;clear Z B Y A)|fail)<;>conv=>whnf)
 exact AQ ⟨rfl,hs.less (Ji _ _)⟩
def b7 (f:Fact) (c:Bool):Pure Tryz.prog 182 [.a (xF f),.b c] (.f (.func 224) [] [.rp (xF f),.rp [.b c]]):=by
 refine lU kZ ?_;have hs:=Sn
 conv=>whnf
 repeat'((first|apply st|(apply sq;intro K U)|(apply si;intro A B Y Z)|(apply Y;clear Z B Y A)|(apply U;clear U K)|fail)<;>conv=>whnf)
 all_goals exact AI rfl
abbrev NO (w:AK) (l:List Fact) (s:Bool):Bool×Bool:=if Gs w l then(false,true)else(true,s)
def TW {w:AK}: ∀(cs:List (List Fact)),Cm (NO w) cs false=(!cs.any (Gs w),cs.any (Gs w))
 | []=>rfl
 | l::r=>by
   rw[Cm,Qw];simp only[NO];cases h:Gs w l
   ·simpa using TW r
   ·rfl
def WK {w:AK} {AD:List Fact→Prop}: ∀ {cs:List (List Fact)},(∀l∈cs,AD l)→SC (NO w) (fun l s=>s=false∧AD l) cs false
 | [],_=>trivial
 | l ::r,h=>⟨⟨rfl,h l (.head _)⟩,fun hy=>by
     cases ht:Gs w l
     ·have e:(NO w l false).2=false:=by simp[NO,ht]
      rw[e];exact WK fun x hx=>h x (.tail _ hx)
     ·simp[NO,ht]at hy⟩
abbrev nY (w:AK) (L:Nat) (E:Env) (ok:FuncId→Array Tmp→Code→Code→Nat→Prop) (nF:Nat):Prop:=
 Lp Tryz.prog L E ok (fun(x:List Fact×Bool)=>[UO x.1 x.2]) (fun s:Bool=>[.box nF [.b s]]) (fun _=>True) (fun x s=>if Gs w x.1 then .stop (.exit 0) true else .go s) (fun x s=>s=false∧(∀y∈x.1,Ib w y)∧x.1.length<900)
def eV {w:AK} (f:Fact) (hn:Bj w f=true) (hv:lv f≤100) {L:Nat} {E:Env} {ok:FuncId→Array Tmp→Code→Code→Nat→Prop} {nF:Nat} (hY:nY w L E ok nF) (σ:AH) (hs:Sat σ [.obj L (.loop .ready E ok),.box nF [.b false]]) :
    BJ Tryz.prog 224 [.f (.yield L) [] [],.rp (xF f),.rp [.b false]] σ fun r σ'=>r= .ret (.t [])∧Sat σ' [.obj L (.loop (if PO w f then .exit 0 else .ready) E ok),.box nF [.b (PO w f)]]:=by
 have hg:=ja f hn hv false (fn:= .yield L) (fi:=[]) (ca:=[]) (H:=fun s:Bool=>[.obj L (.loop (if s then .exit 0 else .ready) E ok),.box nF [.b s]]) (stp:=NO w) (D:=fun l s=>s=false∧(∀y∈l,Ib w y)∧l.length<900) (s:=false) (by
  rintro nW b l s ⟨rfl,hl,hlen⟩ σ hs;refine hY.use (y:=(l,b)) (s:=false) ⟨rfl,hl,hlen⟩ (rest:=[.box nW [SU nW]]) (hs.perm (IL _ _ _ _)) ?_;intro r σ' hq;cases ht:Gs w l
  ·simp only[ht,LS,if_false]at hq
   obtain⟨rfl,hs'⟩:=hq;have e:NO w l false=(true,false):=by simp[NO,ht]
   rw[e];exact⟨rfl,hs'.perm (IL _ _ _ _).symm⟩
  ·simp only[ht,if_true]at hq
   obtain⟨rfl,hs'⟩:=hq;have e:NO w l false=(false,true):=by simp[NO,ht]
   rw[e]
   exact⟨rfl,hs'.perm (IL _ _ _ _).symm⟩) (WK fun l hl=>⟨Em f hn false l hl,by have:=(Ea f (C0 _ hn) false).2 l hl;omega⟩) σ hs
 rw[TW]at hg;exact hg
def nI (w:AK) (hw:CQ w) (f:Fact) (hn:Bj w f=true) (hv:lv f≤100):Pure Tryz.prog 141 [.rp (wC w (CE w.parents)),.a (xF f)] (.b (PO w f)):=by
 refine Pure.of ?_;refine mQ kZ ?_;have hs:=Sn
 conv=>whnf
 repeat'((first|apply st|(apply sq;intro K U)|(apply si;intro A B Y Z)|(apply Y;clear Z B Y A)|(apply U;clear U K)|refine⟨kZ,?_⟩|refine FB fun σ hs=>?_|refine Pure.use (b7 _ _) ?_|(intro nn hnn;generalize hg:BA _ nn _=σ;refine Ct hg fun hs=>?_;clear hg)|fail)<;>conv=>whnf)
 rename_i _ nF hnF _ _ _ _;refine BJ.mono (eV (w:=w) f hn hv (L:=nn) (nF:=nF) ?_ σ hs) ?_
 ·refine MW (fun y=>rfl) ?_
  clear hs hnn hnF;rintro⟨l,b⟩ s ⟨rfl,hl,hlen⟩ rest σ hs;dsimp only at hl hlen;have htg:=Td w hw l b hl hlen;dsimp only;cases ht:Gs w l<;>rw[ht]at htg
  ·conv=>whnf
   repeat'((first|apply st|(apply sq;intro K U)|(apply si;intro A B Y Z)|(apply Y;clear Z B Y A)|(apply U;clear U K)|refine htg.use ?_|clear U K)<;>conv=>whnf)
   intro hn;exact S7 (H:=fun s:Bool=>[.box nF [.b s]]) (J:=fun _=>True) (s:=false) rfl hs hn
  ·conv=>whnf
   repeat'((first|apply st|(apply sq;intro K U)|(apply si;intro A B Y Z)|(apply Y;clear Z B Y A)|(apply U;clear U K)|refine FB fun σ hs=>?_|refine htg.use ?_|clear U K)<;>conv=>whnf)
   intro hn;exact Ut (H:=fun s:Bool=>[.box nF [.b s]]) (J:=fun _=>True) (s:=true) (st:= .exit 0) rfl hs hn
 ·clear hs hnn hnF
  cases hp:PO w f
  ·rintro r σ ⟨rfl,hs⟩
   refine Fi hs fun σ hs=>?_
   conv=>whnf
   repeat'((first|apply st|(apply sq;intro K U)|(apply si;intro A B Y Z)|(apply Y;clear Z B Y A)|(apply U;clear U K)|refine ld ?_|fail)<;>conv=>whnf)
   exact AQ (by rw[hp])
  ·rintro r σ ⟨rfl,hs⟩
   refine Uw hs fun σ hs=>?_
   conv=>whnf
   repeat'((first|apply st|(apply sq;intro K U)|(apply si;intro A B Y Z)|(apply Y;clear Z B Y A)|(apply U;clear U K)|refine ld ?_|fail)<;>conv=>whnf)
   exact AQ (by rw[hp])
def ie (f:Fact):Pure Tryz.prog 143 [.a (xF f)] (.a (xF (FX f))):=by
 refine mO kZ ?_;have hs:=Sn
 conv=>whnf
 repeat'((first|apply st|(apply sq;intro K U)|(apply si;intro A B Y Z)|(apply Y;clear Z B Y A)|(apply U;clear U K)|refine⟨kZ,?_⟩|refine ld ?_|refine sn fun σ hs=>?_|(intro nn hnn;generalize hg:BA _ nn _=σ;refine al hg fun hs=>?_;clear hg)|fail)<;>conv=>whnf)
 refine Bh (.a (.cons (.refl _) (.cons (.refl _) (.cons CG (.cons (.refl _) (.cons (.refl _) (.cons ?_ .nil)))))));refine .l (fun h=>by cases h) ?_;simp only[FX,Fact.kids,List.map,Bd];exact Ej _
def nN (f g:Fact):Pure Tryz.prog 142 [.a (xF f),.a (xF g)] (.a (xF (Mq f g))):=by
 refine mP kZ ?_;have hs:=Sn
 conv=>whnf
 repeat'((first|apply st|(apply sq;intro K U)|(apply si;intro A B Y Z)|(apply Y;clear Z B Y A)|(apply U;clear U K)|refine⟨kZ,?_⟩|refine ld ?_|refine sn fun σ hs=>?_|(intro nn hnn;generalize hg:BA _ nn _=σ;refine al hg fun hs=>?_;clear hg)|fail)<;>conv=>whnf)
 refine Bh (.a (.cons (.refl _) (.cons (.refl _) (.cons CG (.cons (.refl _) (.cons (.refl _) (.cons ?_ .nil)))))));refine .l (fun h=>by cases h) ?_;simp only[Mq,Fact.kids,List.map,Bd];exact Ej _
def VA (w:AK) (hw:CQ w) (a b:Fact) (ha:Bj w a=true) (hb:Bj w b=true) (hl:lv a+lv b≤100):Pure Tryz.prog 110 [.rp (wC w (CE w.parents)),.a (xF a),.a (xF b)] (.b (Q7 w a b)):=by
 have hcan:=nI w hw (Mq a (FX b)) (N2 ha hb) (by rw[Za];exact hl);refine m4 kZ ?_;have hs:=Sn
 conv=>whnf
 repeat'((first|apply st|(apply sq;intro K U)|(apply si;intro A B Y Z)|(apply Y;clear Z B Y A)|(apply U;clear U K)|apply dr|refine rk ?_ ?_|exact fun s e=>by cases e;rfl|refine⟨kZ,?_⟩|refine Pure.use (ie _) ?_|refine Pure.use (nN _ _) ?_|refine hcan.use ?_|fail)<;>conv=>whnf)
 all_goals exact AI rfl
def Qu (w:AK) (hw:CQ w) (a b:Fact) (ha:Cf w a=true) (hb:Cf w b=true) (hna:Bj w a=true) (hnb:Bj w b=true) (hl:lv a+lv b≤100):Pure Tryz.prog 76 [.a (BE w),.a (xF a),.a (xF b)] (.t [.b (Q7 w a b),eI 0]):=by
 have hrd: ∀f,Pure Tryz.prog 109 [.a (BE w),.l [xF a,xF b] f] (.t [.rp (wC w (CE w.parents)),.b true]):=fun f=>by
  have:=M6 w hw [a,b] f (by simp);rw[show([a,b].all (KX w))=true by simp[NI,ha,hb]]at this;simpa[Bd]using this
 have hip:=VA w hw a b hna hnb hl;refine pv kZ ?_;have hs:=Sn
 conv=>whnf
 repeat'((first|apply st|(apply sq;intro K U)|(apply si;intro A B Y Z)|(apply Y;clear Z B Y A)|(apply U;clear U K)|refine⟨kZ,?_⟩|refine De ?_|refine Pure.use (hrd _) ?_|refine hip.use ?_|fail)<;>conv=>whnf)
 all_goals exact AI rfl
attribute [local irreducible] Ms
def uT (p:Prog) (nO:Nat) (r:R) (post:List At):Prop:=
 match BV p with
 | some s=>r= .ret (.t [])∧ ∃v,post= [.box nO [v],.own v 1 (iL s)]
 | none=>r= .C2 Dr∧ ∃v s,post= [.box nO [v],.own v 1 (iL s)]
def Xd (p:Prog) (nO:Nat):Bk Tryz.prog 162 [.rp (BR p),.p nO 0] [.box nO [.l [] true]] (uT p nO):=fun σ hs=>
 BJ.mono (ah p nO σ hs) fun r σ' hq=>by
  unfold nf at hq;unfold uT;cases h:BV p with
  | some s=>
    rw[h]at hq;obtain⟨h1,v,h2⟩:=hq;exact⟨_,⟨h1,v,rfl⟩,h2⟩
  | none=>
    rw[h]at hq;obtain⟨h1,v,s,h2⟩:=hq;exact⟨_,⟨h1,v,s,rfl⟩,h2⟩
def ew {σ:AH} {n:Nat} {x:V} {rest:List At} (hs:Sat σ (.box n [x]::rest)) {Q:AH→Prop} (hq: ∀σ',Sat σ' (.box n [.b false]::rest)→Q σ'):Ms Tryz.prog 207 [.p n 0] (some Dr) σ Q:=by
 refine Ws kZ ?_
 conv=>whnf
 repeat'((first|apply st|(apply sq;intro K U)|(apply si;intro A B Y Z)|(apply Y;clear Z B Y A)|(apply U;clear U K)|refine FB fun σ hs=>?_|refine Dy fun σ hs=>?_|refine De ?_|refine gi rfl ?_|(intro nn hnn;generalize hg:BA _ nn _=σ;refine Ct hg fun hs=>?_;clear hg)|fail)<;>conv=>whnf)
 exact hq _ (hs.less (Ji _ _))
def ez {σ:AH} {n:Nat} {x:V} {rest:List At} (hs:Sat σ (.box n [x]::rest)) {Q:AH→Prop} (hq: ∀σ',Sat σ' (.box n [x]::rest)→Q σ'):Ms Tryz.prog 207 [.p n 0] none σ Q:=by
 refine Ws kZ ?_
 conv=>whnf
 repeat'((first|apply st|(apply sq;intro K U)|(apply si;intro A B Y Z)|(apply Y;clear Z B Y A)|(apply U;clear U K)|refine De ?_|fail)<;>conv=>whnf)
 exact hq _ hs
def YH (p:Prog) (nO:Nat):Bk Tryz.prog 161 [.f (.func 162) [] [.rp (BR p),.p nO 0]] [.box nO [.l [] true]] fun r post=>r= .ret (.b (BV p).isSome)∧ ∃v s,post= [.box nO [v],.own v 1 (iL s)]∧(BV p=none∨BV p=some s):=by
 intro σ hs;refine l7 kZ ?_
 conv=>whnf
 repeat'((first|(apply sq;intro K U)|(apply si;intro A B Y Z)|(apply Y;clear Z B Y A)|(apply U;clear U K)|(intro nn hnn;generalize hg:BA _ nn _=σ;refine Ct hg fun hs=>?_;clear hg)|fail)<;>conv=>whnf)
 refine Bp ?_;refine(Xd p nO).use (rest:=[.box nn [.b false]]) (hs.perm (.swap _ _ _)) ?_;clear hs hnn;rintro r post σ hq hs;unfold uT at hq;cases h:BV p with
 | none=>
   rw[h]at hq;obtain⟨rfl,v,s,rfl⟩:=hq
   conv=>whnf
   repeat'((first|(refine Z _ _ _ ?_;clear Z B Y A)|clear U K)<;>conv=>whnf)
   refine ew (rest:=[.box nO [v],.own v 1 (iL s)]) (hs.perm SE) fun σ hs=>?_
   conv=>whnf
   repeat'((first|refine ld ?_|fail)<;>conv=>whnf)
   exact AQ ⟨_,⟨by rw[h];rfl,v,s,rfl,.inl h⟩,hs.less (Ji _ _)⟩
 | some s=>
   rw[h]at hq;obtain⟨rfl,v,rfl⟩:=hq
   conv=>whnf
   repeat'((first|apply st|(apply sq;intro K U)|(apply si;intro A B Y Z)|(apply Y;clear Z B Y A)|(apply U;clear U K)|refine FB fun σ hs=>?_|fail)<;>conv=>whnf)
   replace hs:Sat σ ([.box nO [v],.own v 1 (iL s)]++[.box nn [.b true]]):=hs;refine ez (x:= .b true) (rest:=[.box nO [v],.own v 1 (iL s)]) (hs.perm SE) fun σ hs=>?_
   conv=>whnf
   repeat'((first|refine ld ?_|fail)<;>conv=>whnf)
   exact AQ ⟨_,⟨by rw[h];rfl,v,s,rfl,.inr h⟩,hs.less (Ji _ _)⟩
def ai (p:Prog):Bk Tryz.prog 137 [.a (BR p)] [] fun r post=> ∃v s,r= .ret (.t [v,.b (BV p).isSome])∧post= [.own v 1 (iL s)]∧(BV p=none∨BV p=some s):=by
 intro σ hs;refine mV kZ ?_
 conv=>whnf
 repeat'((first|(apply sq;intro K U)|(apply si;intro A B Y Z)|(apply Y;clear Z B Y A)|(apply U;clear U K)|(intro nn hnn;generalize hg:BA _ nn _=σ;refine Ct hg fun hs=>?_;clear hg)|fail)<;>conv=>whnf)
 refine(YH p nn).use (rest:=[]) (by simpa using hs) ?_;clear hs;rintro r post σ ⟨rfl,v,s,rfl,hl⟩ hs
 conv=>whnf
 repeat'((first|apply st|(apply sq;intro K U)|(apply si;intro A B Y Z)|(apply Y;clear Z B Y A)|(apply U;clear U K)|refine ld ?_|fail)<;>conv=>whnf)
 exact AQ ⟨_,⟨v,s,rfl,rfl,hl⟩,hs.less (.cons _ (.cons₂ _ (LR _)))⟩
def cN (p:Prog):Pure Tryz.prog 107 [.a (BR p)] (eI (if(BV p).isSome then 0 else 2)):=by
 refine Pure.of ?_;have hz:=ai p;cases h:(BV p).isSome<;>rw[h]at hz
 all_goals
  refine m7 kZ ?_;have hs:=Sn
  conv=>whnf
  repeat'((first|apply st|(apply sq;intro K U)|(apply si;intro A B Y Z)|(apply Y;clear Z B Y A)|(apply U;clear U K)|refine⟨kZ,?_⟩|fail)<;>conv=>whnf)
  refine hz.use (rest:=[]) (by simpa using hs) ?_;clear hs;rintro r post σ ⟨v,s,rfl,rfl,-⟩ hs
  conv=>whnf
  repeat'((first|apply st|(apply sq;intro K U)|(apply si;intro A B Y Z)|(apply Y;clear Z B Y A)|(apply U;clear U K)|refine Er ?_|refine De ?_|clear U K)<;>conv=>whnf)
  exact AQ rfl
def o5 {p:Prog} (h:(BV p).isSome=true):Bu p.AP≤40:=by
 obtain⟨hh,-⟩:=Ei h;simp only[Cy,BY,Ce]at hh;exact(K3 hh.1).2.1
def nK {p:Prog} (h:(BV p).isSome=true):p.AP.length≤10:=by
 obtain⟨hh,-⟩:=Ei h;simp only[Cy,BY,Ce]at hh;exact(K3 hh.1).2.2
def Nd {p:Prog} (h:(BV p).isSome=true):CQ (AS p):=by
 obtain⟨hh,-⟩:=Ei h;simp only[Cy,BY,Ce]at hh;exact(K3 hh.1).1
def fT (p:Prog):Pure Tryz.prog 71 [.a (BR p)] (if(BV p).isSome then .t [.a (BE (AS p)),eI 0]else .t [.a [.l [] true,.l [] true],eI 2]):=by
 have hz:=cN p;have hM:=Mx;cases h:(BV p).isSome<;>rw[h]at hz
 ·simp only[LS,if_false]at hz ⊢
  refine gG kZ ?_;have hs:=Sn
  conv=>whnf
  repeat'((first|apply st|(apply sq;intro K U)|(apply si;intro A B Y Z)|(apply Y;clear Z B Y A)|(apply U;clear U K)|refine⟨rfl,?_⟩|refine⟨kZ,?_⟩|refine ld ?_|refine Dy fun σ hs=>?_|refine hz.use ?_|(constructor<;>intro hc<;>(try rw[hc])<;>(replace hc:=bp hc)<;>try(exfalso;omega))|(intro nn hnn;generalize hg:BA _ nn _=σ;refine Ct hg fun hs=>?_;clear hg)|clear U K)<;>conv=>whnf)
  all_goals exact AI rfl
 ·simp only[if_true]at hz ⊢
  have hm:=o5 h;have hc10:=nK h;refine gG kZ ?_;have hs:=Sn
  conv=>whnf
  repeat'((first|apply st|(apply sq;intro K U)|(apply si;intro A B Y Z)|(apply Y;clear Z B Y A)|(apply U;clear U K)|refine⟨rfl,?_⟩|refine⟨kZ,?_⟩|refine ld ?_|refine Dy fun σ hs=>?_|refine hz.use ?_|refine Pure.use (Sk p (by omega) (by omega)) ?_|(constructor<;>intro hc<;>(try rw[hc])<;>(replace hc:=bp hc)<;>(try simp(disch:=omega) only[BQ,wrap64,AL]at hc)<;>try(exfalso;omega))|(intro nn hnn;generalize hg:BA _ nn _=σ;refine Ct hg fun hs=>?_;clear hg)|fail)<;>conv=>whnf)
  all_goals exact AI rfl
end Go.Gl
namespace Go.Gl
open Go.Proofs
attribute [local irreducible] BJ A2 Ak AW AM Aj AV AX AN Ai AR AU A5 BF Sat Ad BD Al W
abbrev wy (p:Prog) (L:Nat):List V:=BR p++(BE (AS p)++[.m L])
abbrev Ft (p:Prog) (L:Nat):V:= .rp (wy p L)
abbrev kM (x:Int×Int):V:= .a [eI x.1,eI x.2]
def FI (p:Prog) (M:List (Int×Int)):List (V×V):=M.map fun x=>(kM x,.b (EP p x.1 x.2))
def HY (p:Prog) (M:List (Int×Int)): ∀kv∈FI p M,Bt (.a [.i64,.i64]) kv.1=true:=by
 intro kv h;obtain⟨e,_,rfl⟩:=Mk.1 h;rfl
def fu (x y:Int×Int):EG (kM x) (kM y)=(x==y):=by
 obtain⟨a,b⟩:=x;obtain⟨c,d⟩:=y;have e:EG (kM (a,b)) (kM (c,d))=(a==c&&b==d):=by simp[EG,CN,kM]
 rw[e];rfl
def N5 (p:Prog) (x:Int×Int): ∀(M:List (Int×Int)),DG (kM x) (FI p M)=if M.contains x then some (.b (EP p x.1 x.2))else none
 | []=>rfl
 | y ::r=>by
   rw[FI,E8,DG,fu,List.contains_cons];cases h:x==y
   ·rw[cond_false,Bool.false_or]
    exact N5 p x r
   ·rw[cond_true,Bool.true_or,if_pos rfl]
    have:x=y:=by simpa using h
    rw[this]
def Rg (p:Prog) (x:Int×Int): ∀(M:List (Int×Int)),M.contains x=false→EF (kM x) (.b (EP p x.1 x.2)) (FI p M)=FI p (M++[x])
 | [],_=>rfl
 | y::r,h=>by
   rw[List.contains_cons,Bool.or_eq_false_iff]at h;have ih:=Rg p x r h.2;simp only[FI]at ih;rw[FI,E8,EF,fu,h.1,cond_false,ih];rfl
def HV (p:Prog):Bk Tryz.prog 42 [.a (BR p)] [] fun r post=>if(BV p).isSome then∃L,r= .ret (Ft p L)∧post= [.map L []]else r= .ret .pn∧post= []:=by
 intro σ hs;have hw:=fT p;cases h:(BV p).isSome<;>rw[h]at hw
 ·simp only[LS,if_false]at hw ⊢
  refine gN kZ ?_
  conv=>whnf
  repeat'((first|apply st|(apply sq;intro K U)|(apply si;intro A B Y Z)|(apply Y;clear Z B Y A)|(apply U;clear U K)|refine⟨rfl,?_⟩|refine⟨kZ,?_⟩|refine Dy fun σ hs=>?_|refine hw.use ?_|(constructor<;>intro hc<;>(try rw[hc])<;>(replace hc:=bp hc)<;>try(exfalso;omega))|(intro nn hnn;generalize hg:BA _ nn _=σ;refine Ct hg fun hs=>?_;clear hg)|clear U K)<;>conv=>whnf)
  exact AQ ⟨_,⟨rfl,rfl⟩,hs.less (LR _)⟩
 ·simp only[if_true]at hw ⊢
  refine gN kZ ?_
  conv=>whnf
  repeat'((first|apply st|(apply sq;intro K U)|(apply si;intro A B Y Z)|(apply Y;clear Z B Y A)|(apply U;clear U K)|refine⟨rfl,?_⟩|refine⟨kZ,?_⟩|refine ld ?_|refine Dy fun σ hs=>?_|refine hw.use ?_|(constructor<;>intro hc<;>(try rw[hc])<;>(replace hc:=bp hc)<;>(try simp(disch:=omega) only[BQ,wrap64,AL]at hc)<;>try(exfalso;omega))|(intro nn hnn;generalize hg:BA _ nn _=σ;refine Ct hg fun hs=>?_;clear hg)|fail)<;>conv=>whnf)
  exact AQ ⟨_,⟨nn,rfl,rfl⟩,hs.less (.cons₂ _ (LR _))⟩
def pC (p:Prog) (L:Nat) (m:Int):Pure Tryz.prog 73 [eI m,.rp [Ft p L]] (.b (!A1 p m)):=by
 refine py kZ ?_;have hs:=Sn
 conv=>whnf
 repeat'((first|apply st|(apply sq;intro K U)|(apply si;intro A B Y Z)|(apply Y;clear Z B Y A)|(apply U;clear U K)|refine⟨rfl,?_⟩|(constructor<;>intro hc<;>(try rw[hc])<;>(replace hc:=bp hc))|fail)<;>conv=>whnf)
 ·refine AI ?_
  have e1:decide (0≤m)=true:=decide_eq_true hc;rw[A1,e1,E7,BQ];show V.b (decide (m≥(p.methods.length:Int)))=_;by_cases hl:m<(p.methods.length:Int)
  ·rw[decide_eq_true hl,decide_eq_false (by omega)];rfl
  ·rw[decide_eq_false hl,decide_eq_true (by omega)];rfl
 ·refine AI ?_
  rw[A1,decide_eq_false (by omega)];rfl
def Mu {g:FuncId} {fi ca:List V} {f:Int→Bool} {xs:List Int} (b:Bool) (h: ∀y∈xs,Pure Tryz.prog g (fi++[eI y]++ca) (.b (f y))):Pure Tryz.prog 72 [.l (iL xs) b,.f (.func g) fi ca] (.b (xs.any f)):=by
 have:=GU g fi ca (fun _=>[]) (fun y (_:Unit)=>(f y,())) (fun y _=>y∈xs) (OV fun y hy=>h y hy) xs b () (Gy fun y hy _=>hy);rw[K4]at this;exact Pure.of (BJ.mono (this emp Sat.nil) fun r σ' ⟨post,⟨h1,h2⟩,h3⟩=>h1)
def fw (p:Prog) (L:Nat) (l:List Int) (b:Bool):Pure Tryz.prog 43 [Ft p L,.l (iL l) b] (.b (l.all (A1 p))):=by
 have hc:=fun b=>Mu (g:=73) (fi:=[]) (ca:=[.rp [Ft p L]]) (f:=fun m=> !A1 p m) (xs:=l) b fun y _=>pC p L y
 refine gM kZ ?_;have hs:=Sn
 conv=>whnf
 repeat'((first|apply st|(apply sq;intro K U)|(apply si;intro A B Y Z)|(apply Y;clear Z B Y A)|(apply U;clear U K)|refine Pure.use (hc _) ?_|fail)<;>conv=>whnf)
 all_goals exact AI (by rw[List.all_eq_not_any_not];rfl)
def Zg (l:List Int) (b:Bool):Pure Tryz.prog 43 [.pn,.l (iL l) b] (.b false):=by
 refine gM kZ ?_;have hs:=Sn
 conv=>whnf
 repeat'((first|apply st|(apply sq;intro K U)|(apply si;intro A B Y Z)|(apply Y;clear Z B Y A)|(apply U;clear U K)|refine De ?_|fail)<;>conv=>whnf)
 all_goals exact AI rfl
def NM (p:Prog) (L:Nat) (m n:Int) (hm:A1 p m=true) (hn:A1 p n=true):Pure Tryz.prog 44 [Ft p L,eI m,eI n] (.b (CR p m n)):=by
 refine Pure.fit (by kernel_rfl) fun hf=>?_
 have hxm:=Br hm;have hxn:=Br hn;simp only[A1,BY,Ce]at hm hn;refine qI kZ ?_;have hs:=Sn
 conv=>whnf
 repeat'((first|apply st|(apply sq;intro K U)|(apply si;intro A B Y Z)|(apply Y;clear Z B Y A)|(apply U;clear U K)|apply dr|refine rk ?_ ?_|exact fun s e=>by cases e;rfl|refine⟨rfl,?_⟩|refine⟨kZ,?_⟩|refine GX ?_|refine ld ?_|refine Dy fun σ hs=>?_|(constructor<;>intro hc<;>(try rw[hc])<;>(replace hc:=bp hc))|(intro nn hnn;generalize hg:BA _ nn _=σ;refine Ct hg fun hs=>?_;clear hg)|fail)<;>conv=>whnf)
 all_goals exact AI (by simp[CR, *])
set_option maxHeartbeats 1000000 in
def QO (p:Prog) (L:Nat) (m n:Int) (hk:Db p) (hgw:CQ (AS p)) (hfm: ∀x∈p.methods,Cf (AS p) x.fact=true) (hm:A1 p m=true) (hn:A1 p n=true) (M:List (Int×Int)) :
    Bk Tryz.prog 54 [Ft p L,eI m,eI n] [.map L (FI p M)] fun r post=>r= .ret (.b (EP p m n))∧ ∃M',post= [.map L (FI p M')]:=by
 intro σ hs;have hxm:=Br hm;have hxn:=Br hn;have hmm:=B5 hxm;have hmn:=B5 hxn;have hip:=Qu (AS p) hgw (BN p m).fact (BN p n).fact (hfm _ hmm) (hfm _ hmn) (hk.facts _ hmm).1 (hk.facts _ hmn).1 (by have:=(hk.facts _ hmm).2;have:=(hk.facts _ hmn).2;omega);simp only[A1,BY,Ce]at hm hn;have hfd:=N5 p (m,n) M;refine gJ kZ ?_;cases hc:M.contains (m,n)
 ·rw[hc,if_neg (by decide)]at hfd
  conv=>whnf
  repeat'((first|apply st|(apply sq;intro K U)|(apply si;intro A B Y Z)|(apply Y;clear Z B Y A)|(apply U;clear U K)|apply dr|refine⟨kZ,?_⟩|refine GX ?_|refine ld ?_|refine Dy fun σ hs=>?_|refine Er ?_|refine Lm hs 1 rfl rfl (HY _ _) hfd ?_|refine Hy hs 1 rfl rfl (HY _ _) fun σ hs=>?_|refine hip.use ?_|(intro nn hnn;generalize hg:BA _ nn _=σ;refine Ct hg fun hs=>?_;clear hg)|fail)<;>conv=>whnf)
  replace hs:Sat σ [.box nn [eI m,eI n],.map L (EF (kM (m,n)) (.b (EP p m n)) (FI p M))]:=hs;rw[Rg p (m,n) M hc]at hs;exact AQ ⟨_,⟨rfl,_,rfl⟩,hs.less (Ji _ _)⟩
 ·rw[hc,if_pos rfl]at hfd
  conv=>whnf
  repeat'((first|apply st|(apply sq;intro K U)|(apply si;intro A B Y Z)|(apply Y;clear Z B Y A)|(apply U;clear U K)|apply dr|refine⟨kZ,?_⟩|refine ld ?_|refine Dy fun σ hs=>?_|refine De ?_|refine Lm hs 1 rfl rfl (HY _ _) hfd ?_|(intro nn hnn;generalize hg:BA _ nn _=σ;refine Ct hg fun hs=>?_;clear hg)|fail)<;>conv=>whnf)
  exact AQ ⟨_,⟨rfl,M,rfl⟩,hs.less (Ji _ _)⟩
def fO (p:Prog) (L:Nat) (m n:Int) (hk:Db p) (hgw:CQ (AS p)) (hfm: ∀x∈p.methods,Cf (AS p) x.fact=true) (hm:A1 p m=true) (hn:A1 p n=true) (M:List (Int×Int)) :
    Bk Tryz.prog 45 [Ft p L,eI m,eI n] [.map L (FI p M)] fun r post=>r= .ret (.b (AY p m n))∧ ∃M',post= [.map L (FI p M')]:=by
 intro σ hs;have h1:=fun M=>QO p L m n hk hgw hfm hm hn M
 have h2:=fun M=>QO p L n m hk hgw hfm hn hm M
 unfold AY;cases hb1:EP p m n<;>cases hb2:EP p n m<;>rw[hb1]at h1<;>rw[hb2]at h2
 all_goals
  refine gL kZ ?_
  conv=>whnf
  repeat'((first|(apply sq;intro K U)|(apply si;intro A B Y Z)|(apply Y;clear Z B Y A)|(apply U;clear U K)|fail)<;>conv=>whnf)
  refine(h1 M).use (rest:=[]) (by simpa using hs) ?_;clear hs;rintro r post σ ⟨rfl,M',rfl⟩ hs
  conv=>whnf
  repeat'((first|apply st|(apply Y;clear Z B Y A)|(apply U;clear U K)|fail)<;>conv=>whnf)
 ·exact AQ ⟨_,⟨rfl,M',rfl⟩,hs⟩
 ·exact AQ ⟨_,⟨rfl,M',rfl⟩,hs⟩
 all_goals
  refine(h2 M').use (rest:=[]) (by simpa using hs) ?_;clear hs;rintro r post σ ⟨rfl,M2,rfl⟩ hs
  conv=>whnf
  repeat'((first|apply st|(apply Y;clear Z B Y A)|(apply U;clear U K)|fail)<;>conv=>whnf)
  exact AQ ⟨_,⟨rfl,M2,rfl⟩,hs⟩
def Kj {p:Prog} (h:(BV p).isSome=true): ∀x∈p.methods,Cf (AS p) x.fact=true:=fun x hx=>by
 have:=(Ei h).2 x hx;simp only[NN,BY]at this;exact this.2.2.2.2.1
def Ru (p:Prog) (m n:Int):Pure Tryz.prog 12 [.a (BR p),eI m,eI n] (.t [.b (Hs p m n).1,eI (Hs p m n).2]):=by
 refine Pure.of ?_;have hr:=HV p;refine qZ kZ ?_;have hs:=Sn
 conv=>whnf
 repeat'((first|apply st|(apply sq;intro K U)|(apply si;intro A B Y Z)|(apply Y;clear Z B Y A)|(apply U;clear U K)|refine⟨kZ,?_⟩|fail)<;>conv=>whnf)
 refine hr.use (rest:=[]) (by simpa using hs) ?_;clear hs;cases h:(BV p).isSome
 ·have hh:=fun b=>Zg [m,n] b
  rintro r post σ ⟨rfl,rfl⟩ hs
  conv=>whnf
  repeat'((first|apply st|(apply sq;intro K U)|(apply si;intro A B Y Z)|(apply Y;clear Z B Y A)|(apply U;clear U K)|refine Er ?_|refine Pure.use (hh _) ?_|clear U K)<;>conv=>whnf)
  exact AQ (by simp[Hs,h])
 ·rintro r post σ ⟨L,rfl,rfl⟩ hs
  have hh:=fun b=>fw p L [m,n] b
  have hall: [m,n].all (A1 p)=(A1 p m&&A1 p n):=by simp
  rw[hall]at hh;cases hmn:A1 p m&&A1 p n<;>rw[hmn]at hh
  ·conv=>whnf
   repeat'((first|apply st|(apply sq;intro K U)|(apply si;intro A B Y Z)|(apply Y;clear Z B Y A)|(apply U;clear U K)|refine Er ?_|refine Pure.use (hh _) ?_|clear U K)<;>conv=>whnf)
   exact AQ (by simp only[Hs,h,hmn];rfl)
  ·obtain⟨hm,hn⟩:=Bool.and_eq_true_iff.1 hmn
   have ha:=NM p L m n hm hn;cases hal:CR p m n<;>rw[hal]at ha
   ·conv=>whnf
    repeat'((first|apply st|(apply sq;intro K U)|(apply si;intro A B Y Z)|(apply Y;clear Z B Y A)|(apply U;clear U K)|refine Er ?_|refine De ?_|refine Pure.use (hh _) ?_|refine ha.use ?_|clear U K)<;>conv=>whnf)
    exact AQ (by simp only[Hs,h,hmn,hal];rfl)
   ·conv=>whnf
    repeat'((first|apply st|(apply sq;intro K U)|(apply si;intro A B Y Z)|(apply Y;clear Z B Y A)|(apply U;clear U K)|refine De ?_|refine Pure.use (hh _) ?_|refine ha.use ?_|fail)<;>conv=>whnf)
    refine(fO p L m n (look_ok h) (Nd h) (Kj h) hm hn []).use (rest:=[]) hs ?_;clear hs;rintro r post σ ⟨rfl,M,rfl⟩ hs
    conv=>whnf
    repeat'((first|apply st|(apply Y;clear Z B Y A)|(apply U;clear U K)|fail)<;>conv=>whnf)
    exact AQ (by simp only[Hs,h,hmn,hal];rfl)
end Go.Gl
namespace Go.Gl
open Go.Proofs
def Y6 {σ:AH} {α:Type} {enc:α→List V} {xs:List α} {f:Bool} {sz:Nat} {ki:IntKind} {j:Int} {K:V→AH→Prop} (h:K (.l ((xs.drop j.toNat).map enc) f) σ) (h0:0≤j) (h1:j≤xs.length) (hs: ∀x,(enc x).length=sz) :
    AV σ sz (.l (xs.map enc) f) (some (.i ki j)) none none K:=by
 unfold AV;refine⟨fun e he=>?_,?_⟩
 ·obtain⟨x,_,rfl⟩:=Mk.1 he
  exact hs x
 ·simp only[M0,BQ]
  refine⟨by omega,by omega,by omega,?_⟩;rw[List.take_of_length_le (by simp)];simpa[List.map_drop]using h
attribute [local irreducible] BJ A2 Ak AW AM Aj AV AX AN Ai AR AU A5 BF Sat Ad BD Al W
structure XD (T:List (List Bool)) (l:List Int):Prop where
 len:T.length≤16
 sq: ∀r∈T,r.length=T.length
 ins: ∀x∈l,0≤x∧x<(T.length:Int)
 many:l.length≤16
def KK (A:Int→Int→Bool) (l:List Int) (i k:Nat):Bool:=(List.range k).all fun j=>j==i||A (l.getD i 0) (l.getD j 0)
def G1 (A:Int→Int→Bool) (l:List Int):Option Nat:=(List.range l.length).find? fun i=>KK A l i l.length
def XT (A:Int→Int→Bool) (l:List Int) (i k:Nat):KK A l i (k+1)=(KK A l i k&&(k==i||A (l.getD i 0) (l.getD k 0))):=by
 rw[KK,List.range_succ,List.all_append,KK];simp
def C9 {l:List Int} {k:Nat} {x:Int} (h:l[k]? =some x):l.getD k 0=x:=by rw[DY,h];rfl
def Qa {A:Int→Int→Bool} {l:List Int} {i:Nat} (h:G1 A l=some i):i<l.length:=by
 have:=List.mem_of_find?_eq_some h;simpa using this
def Bf (A:Int→Int→Bool):Nat→List Int→List Int×Bool
 | 0,_=>([],false)
 | k+1,l=>match G1 A l with
   | none=>([],!l.isEmpty)
   | some i=>(l.getD i 0::(Bf A k (l.eraseIdx i)).1,(Bf A k (l.eraseIdx i)).2)
def XD.less {T:List (List Bool)} {l:List Int} (h:XD T l) (i:Nat):XD T (l.eraseIdx i):=
 ⟨h.len,h.sq,fun x hx=>h.ins x (List.mem_of_mem_eraseIdx hx),Nat.le_trans (List.length_eraseIdx_le _ _) h.many⟩
end Go.Gl
namespace Go.Gl
open Go.Proofs
def jY {b:Nat} {σ:AH} {l:List At} (h:Sat σ l) (i j:Nat) {v:V} {n len cap off ln sz:Nat} {es ys:List (List V)} {K:V→AH→Prop} (hi:l[i]? =some (.own v sz es)) (hj:l[j]? =some (.own (.sl n len cap) sz ys)) (hle:off+ln≤ys.length) (hl:es.length+ln≤Af∧(es.length+ln)*b≤140737488355328) (hys: ∀e∈ys,e.length=sz) (ho: ∀e∈ys,∀v∈e,DZ v=true)
    (hk: ∀v' σ',Sat σ' (l.set i (.own v' sz (es++(ys.drop off).take ln)))→K v' σ'):AM b σ sz v (.sv n sz off ln) K:=by
 have hlen:((ys.drop off).take ln).length=ln:=by rw[KG,nZ];omega
 have hm: ∀e∈(ys.drop off).take ln,e∈ys:=fun e he=>List.mem_of_mem_drop (List.mem_of_mem_take he)
 have Y:AM b σ sz v (.l ((ys.drop off).take ln) true) K:=hAppend h i hi (by rw[hlen];exact hl) (fun e he=>hys e (hm e he)) (fun e he=>ho e (hm e he)) hk;rcases h.get hj with⟨e1,hel⟩|⟨n',cap',e1,hn⟩
 ·cases e1
 ·cases e1
  unfold AM at Y ⊢;simp only[rowsOf]at Y ⊢;rw[hn];refine⟨?_,?_,hle,Y.2⟩<;>first|trivial|rfl
def NG {b:Nat} {σ:AH} {l:List At} (h:Sat σ l) (i j:Nat) {α:Type} {enc:α→List V} {xs ys:List α} {v:V} {n len cap off ln sz:Nat} {K:V→AH→Prop} (hi:l[i]? =some (.own v sz (xs.map enc))) (hj:l[j]? =some (.own (.sl n len cap) sz (ys.map enc))) (hle:off+ln≤ys.length) (hl:xs.length+ln≤Af∧(xs.length+ln)*b≤140737488355328) (hg:Eg enc sz)
    (hk: ∀v' σ',Sat σ' (l.set i (.own v' sz ((xs++(ys.drop off).take ln).map enc)))→K v' σ'):AM b σ sz v (.sv n sz off ln) K:=
 jY h i j hi hj (by simpa using hle) (by simpa using hl) (Ck hg ys).1 (Ck hg ys).2 fun v' σ' hs=>hk v' σ' (by simpa[List.map_take,List.map_drop]using hs)
def IF {b sz:Nat} {σ:AH} {v y:V} {K:V→AH→Prop} (hv:(B7 v).isSome=true) (h:AM b σ sz v y fun v' σ'=>(B7 v').isSome=true→K v' σ'):AM b σ sz v y K:=by
 obtain⟨n,l,c,rfl⟩:=Y7 hv;unfold AM at h ⊢;refine Ek h fun ys h=>⟨h.1,?_⟩
 have h2:=h.2;dsimp only at h2 ⊢;cases hn:σ n with
 | none=>rw[hn]at h2;exact h2
 | some o=>
   rw[hn]at h2;cases o with
   | arr s es c'=>exact⟨h2.1,h2.2.1,h2.2.2.1,h2.2.2.2.1,fun n' cap' h3 h4=>h2.2.2.2.2 n' cap' h3 h4 rfl⟩
   | _=>exact h2
def ia {σ:AH} {l:List At} (h:Sat σ l) {i:Nat} {v:V} {sz:Nat} {es:List (List V)} (hi:l[i]? =some (.own v sz es)) (hv:(B7 v).isSome=true): ∃n cp,v= .sl n es.length cp:=by
 rcases h.get hi with⟨e,_⟩|⟨n,cp,e,_⟩
 ·rw[e]at hv;cases hv
 ·exact⟨n,cp,e⟩
attribute [local irreducible] BJ A2 Ak AW AM Aj AV AX AN Ai AR AU A5 BF Sat Ad BD Al W
def Gv (x:Int) (out:List Int):List Int:=out.takeWhile (fun y=>decide (y<x))++x::out.dropWhile (fun y=>decide (y<x))
def Cn (l:List Int):List Int:=l.foldl (fun out x=>Gv x out) []
def K0 (x:Int) (out:List Int):(Gv x out).length=out.length+1:=by
 have:=congrArg List.length (List.takeWhile_append_dropWhile (p:=fun y=>decide (y<x)) (l:=out));rw[PK]at this;rw[Gv,PK,KH];omega
def Rj {x:Int} {out:List Int} {k:Nat} (h1:out.takeWhile (fun y=>decide (y<x))=out.take k++(out.drop k).takeWhile (fun y=>decide (y<x))) (h2:(out.drop k).takeWhile (fun y=>decide (y<x))= []) (hk:k≤out.length):Gv x out=out.take k++x::out.drop k:=by
 rw[h2,Ig]at h1;have:=List.takeWhile_append_dropWhile (p:=fun y=>decide (y<x)) (l:=out);rw[h1]at this
 have e:out.dropWhile (fun y=>decide (y<x))=out.drop k:=by
  have h3:out.take k++out.dropWhile (fun y=>decide (y<x))=out.take k++out.drop k:=by rw[this,List.take_append_drop]
  exact List.append_cancel_left h3
 rw[Gv,h1,e]
set_option maxHeartbeats 4000000 in
def ZR (l : List Int) (f:Bool) (hl:l.length≤16):Pure Tryz.prog 38 [.l (iL l) f] (.l (iL (Cn l)) false):=by
 have hM:=Mx;refine qK kZ ?_;have hs:=Sn
 conv=>whnf
 repeat'((first|apply st|(apply sq;intro K U)|(apply si;intro A B Y Z)|(apply Y;clear Z B Y A)|(apply U;clear U K)|fail)<;>conv=>whnf)
 refine B2 l.length (fun i (x:V×List Int)=>[(3,x.1),(4,eI (A4 i))]) (fun _ x=>[.own x.1 1 (iL x.2)]) (fun i x=>x.2=Cn (l.take i)∧x.2.length=i∧(i=0→x.1= .l [] true)∧(1≤i→(B7 x.1).isSome=true)) (.l [] true,[]) rfl ⟨rfl,rfl,fun _=>rfl,fun h=>by omega⟩ (E9 hs 1) ?_;clear hs;rintro i ⟨v,out⟩ σ hi ⟨ho,hol,h0,h1⟩ hs;dsimp only at ho hol h0 h1 hs;dsimp only;rcases BC l hi with⟨z,hz,hlt⟩|hie
 ·have hsr:Cn (l.take (i+1))=Gv z out:=by rw[AO hz,Cn,List.foldl_append,ho];rfl
  conv=>whnf
  repeat'((first|apply st|(apply sq;intro K U)|(apply si;intro A B Y Z)|(apply Y;clear Z B Y A)|(apply U;clear U K)|refine⟨rfl,?_⟩|(refine CK (fun hc=>?_)<;>(try rw[hc])<;>clear hc)|fail)<;>conv=>whnf)
  refine Fo (fun k:Nat=>out.length - k) (fun k=>[(5,eI (A4 k))]) (fun _=>[.own v 1 (iL out)]) (fun k=>k≤out.length∧out.takeWhile (fun y=>decide (y<z))=out.take k++(out.drop k).takeWhile (fun y=>decide (y<z))) 0 rfl ⟨Nat.zero_le _,rfl⟩ hs ?_;clear hs;rintro k σ ⟨hk,htw⟩ hs;have hck:A4 k=k:=AL (by omega);by_cases hi0:i=0
  ·obtain rfl:=h0 hi0
   have hins:=Rj htw (by rw[Ah (by omega)];rfl) hk
   conv=>whnf
   repeat'((first|apply st|(apply sq;intro K U)|(apply si;intro A B Y Z)|(apply Y;clear Z B Y A)|(apply U;clear U K)|apply dr|refine⟨rfl,?_⟩|refine ix ?_|refine wc (xs:=([]:List Int)) (enc:=fun x:Int=>[eI x]) ?_ (by omega) (by simp;omega) (fun _=>rfl)|refine Y6 (xs:=([]:List Int)) (enc:=fun x:Int=>[eI x]) ?_ (by omega) (by simp;omega) (fun _=>rfl)|(constructor<;>intro hc<;>(try rw[hc])<;>(replace hc:=bp hc)<;>(try simp(disch:=omega) only[BQ,wrap64,AL]at hc))|clear U K)<;>conv=>whnf)
   ·exfalso
    simp at hc;omega
   replace hs:=C7 hs 1;refine Is hs 0 (xs:=[]) (ys:=List.take (A4 k).toNat []) rfl (by simp) B0 fun v1 σ hs=>?_
   conv=>whnf
   repeat'((first|apply dr|refine rk ?_ ?_|exact fun s e=>by cases e;rfl|refine aq fun v σ hs hsl=>?_|refine Y6 (xs:=([]:List Int)) (enc:=fun x:Int=>[eI x]) ?_ (by omega) (by simp;omega) (fun _=>rfl)|fail)<;>conv=>whnf)
   refine IF (by assumption) (Is hs 0 (xs:=([]++List.take (A4 k).toNat [])++[z]) (ys:=List.drop (A4 k).toNat []) rfl (by simp[Af]) B0 fun v1 σ hs hsl=>?_)
   conv=>whnf
   repeat'((first|(apply si;intro A B Y Z)|(apply Y;clear Z B Y A)|(apply U;clear U K)|apply dr|refine⟨rfl,?_⟩|clear U K)<;>conv=>whnf)
   refine⟨hlt,(v1,Gv z out),rfl,⟨hsr.symm,by rw[K0];omega,fun h=>by omega,fun _=>hsl⟩,?_⟩;have ho0:out= []:=Yq.1 (by omega);rw[hins,ho0];simp at hs ⊢;exact hs.less (.cons₂ _ (LR _))
  ·obtain⟨n,cp,rfl⟩:=ia hs (i:=0) rfl (h1 (by omega))
   have hlen:(iL out).length=out.length:=BQ _;rcases BC out hk with⟨y,hy,hklt⟩|hke
   ·conv=>whnf
    repeat'((first|apply st|(apply sq;intro K U)|(apply si;intro A B Y Z)|(apply Y;clear Z B Y A)|(apply U;clear U K)|apply dr|refine⟨rfl,?_⟩|refine ix ?_|refine lo ?_|refine oi ?_|refine ol fun x hx=>?_|(refine CK (fun hc=>?_)<;>(try rw[hc])<;>clear hc)|refine gl ?_|refine Yw ?_|(constructor<;>intro hc<;>(try rw[hc])<;>(replace hc:=bp hc))|clear U K)<;>conv=>whnf)
    all_goals
     rw[hck,KF,hy]at hx;obtain rfl:=Option.some.inj hx
    ·refine⟨k+1,by omega,rfl,⟨by omega,?_⟩,hs⟩
     rw[htw,drop_cons hy,List.takeWhile_cons,if_pos (by simpa using hc),AO hy];simp
    have hins:=Rj htw (by rw[drop_cons hy,List.takeWhile_cons,if_neg (by simpa using hc)]) hk;replace hs:=C7 hs 1;refine NG hs 0 1 (xs:=[]) (ys:=out) rfl rfl (by omega) (by simp;omega) B0 fun v1 σ hs=>?_
    conv=>whnf
    repeat'((first|apply dr|refine rk ?_ ?_|exact fun s e=>by cases e;rfl|refine aq fun v σ hs hsl=>?_|refine Yw ?_|fail)<;>conv=>whnf)
    refine IF (by assumption) (NG hs 0 1 (xs:=([]++(out.drop 0).take (A4 k).toNat)++[z]) (ys:=out) rfl rfl (by omega) (by simp;omega) B0 fun v1 σ hs hsl=>?_)
    conv=>whnf
    repeat'((first|(apply si;intro A B Y Z)|(apply Y;clear Z B Y A)|(apply U;clear U K)|apply dr|refine⟨rfl,?_⟩|clear U K)<;>conv=>whnf)
    refine⟨hlt,(v1,Gv z out),rfl,⟨hsr.symm,by rw[K0];omega,fun h=>by omega,fun _=>hsl⟩,?_⟩;rw[hins]
    have e:([]++(out.drop 0).take (A4 k).toNat)++[z]++(out.drop (A4 k).toNat).take (((iL out).length:Int) - A4 k).toNat=out.take k++z::out.drop k:=by
     have e1:(out.drop k).take (((iL out).length:Int) - A4 k).toNat=out.drop k:=List.take_of_length_le (by rw[nZ];omega);rw[show(A4 k).toNat=k by omega,e1];simp
    rw[e]at hs;exact hs.less (.cons₂ _ (LR _))
   ·have hins:=Rj htw (by rw[Ah hke];rfl) hk
    conv=>whnf
    repeat'((first|apply st|(apply sq;intro K U)|(apply si;intro A B Y Z)|(apply Y;clear Z B Y A)|(apply U;clear U K)|apply dr|refine⟨rfl,?_⟩|refine ix ?_|refine lo ?_|(refine DR (fun hc=>?_)<;>(try rw[hc])<;>clear hc)|refine gl ?_|refine Yw ?_|clear U K)<;>conv=>whnf)
    replace hs:=C7 hs 1;refine NG hs 0 1 (xs:=[]) (ys:=out) rfl rfl (by omega) (by simp;omega) B0 fun v1 σ hs=>?_
    conv=>whnf
    repeat'((first|apply dr|refine rk ?_ ?_|exact fun s e=>by cases e;rfl|refine aq fun v σ hs hsl=>?_|refine Yw ?_|fail)<;>conv=>whnf)
    refine IF (by assumption) (NG hs 0 1 (xs:=([]++(out.drop 0).take (A4 k).toNat)++[z]) (ys:=out) rfl rfl (by omega) (by simp;omega) B0 fun v1 σ hs hsl=>?_)
    conv=>whnf
    repeat'((first|(apply si;intro A B Y Z)|(apply Y;clear Z B Y A)|(apply U;clear U K)|apply dr|refine⟨rfl,?_⟩|clear U K)<;>conv=>whnf)
    refine⟨hlt,(v1,Gv z out),rfl,⟨hsr.symm,by rw[K0];omega,fun h=>by omega,fun _=>hsl⟩,?_⟩;rw[hins]
    have e:([]++(out.drop 0).take (A4 k).toNat)++[z]++(out.drop (A4 k).toNat).take (((iL out).length:Int) - A4 k).toNat=out.take k++z::out.drop k:=by
     have e1:(out.drop k).take (((iL out).length:Int) - A4 k).toNat=out.drop k:=List.take_of_length_le (by rw[nZ];omega);rw[show(A4 k).toNat=k by omega,e1];simp
    rw[e]at hs;exact hs.less (.cons₂ _ (LR _))
 ·conv=>whnf
  repeat'((first|apply st|(apply sq;intro K U)|(apply si;intro A B Y Z)|(apply Y;clear Z B Y A)|(apply U;clear U K)|refine⟨rfl,?_⟩|(refine DR (fun hc=>?_)<;>(try rw[hc])<;>clear hc)|clear U K)<;>conv=>whnf)
  rw[hie,List.take_length]at ho;rw[←ho];exact Bh (hs.Pm 0 rfl)
end Go.Gl
namespace Go.Gl
open Go.Proofs
attribute [local irreducible] BJ A2 Ak AW AM Aj AV AX AN Ai AR AU A5 BF Sat Ad BD Al W
def UN (A:Int→Int→Bool) (l:List Int) (i k:Nat):Bool:=(List.range k).all fun j=> !A (l.getD j 0) (l.getD i 0)
def PQ (A:Int→Int→Bool) (l:List Int):Option Nat:=(List.range l.length).find? fun i=>UN A l i l.length
def Dj (A:Int→Int→Bool):Nat→List Int→List Int
 | 0,_=>[]
 | k+1,l=>l.getD ((PQ A l).getD 0) 0::Dj A k (l.eraseIdx ((PQ A l).getD 0))
abbrev RW:=Nat×List Bool
def QU {l:List Int} {k:Nat} (h:k<l.length):l.getD k 0∈l:=by
 rw[DY,DJ h];exact List.getElem_mem h
structure gm (n:Nat) (R:List RW):Prop where
 len:R.length=n
 row: ∀r∈R,r.2.length=n
def gm.put {n:Nat} {R:List RW} {r:RW} (h:gm n R) {j k:Nat} {b:Bool} (hr:R[j]? =some r):gm n (R.set j (r.1,r.2.set k b)):=by
 refine⟨by rw[List.length_set];exact h.len,fun q hq=>?_⟩;rcases List.mem_or_eq_of_mem_set hq with hq|rfl
 ·exact h.row q hq
 ·rw[List.length_set];exact h.row r (B5 hr)
def find_congr {f g:Nat→Bool}: ∀ {l:List Nat},(∀x∈l,f x=g x)→l.find? f=l.find? g
 | [],_=>rfl
 | x::r,h=>by
   rw[List.find?_cons,List.find?_cons,h x (.head _),find_congr fun y hy=>h y (.tail _ hy)]
def N7 {x y:Int} {out:List Int}:y∈Gv x out↔y=x∨y∈out:=by
 have h:=List.takeWhile_append_dropWhile (p:=fun y=>decide (y<x)) (l:=out);rw[Gv];constructor
 ·intro hy
  rcases Fs.1 hy with hy|hy
  ·right;rw[←h];exact PL _ hy
  ·rcases GB.1 hy with rfl|hy
   ·exact .inl rfl
   ·right;rw[←h];exact PH _ hy
 ·rintro(rfl|hy)
  ·exact PH _ (.head _)
  ·rw[←h]at hy
   rcases Fs.1 hy with hy|hy
   ·exact PL _ hy
   ·exact PH _ (.tail _ hy)
def O1: ∀(l out:List Int) (y:Int),y∈l.foldl (fun out x=>Gv x out) out↔y∈l∨y∈out
 | [],out,y=>by simp
 | x ::r,out,y=>by
   rw[List.foldl_cons,O1 r,N7,GB];constructor
   ·rintro(h|h|h)
    ·exact .inl (.inr h)
    ·exact .inl (.inl h)
    ·exact .inr h
   ·rintro((h|h)|h)
    ·exact .inr (.inl h)
    ·exact .inl h
    ·exact .inr (.inr h)
def Lw {l:List Int} {y:Int}:y∈Cn l↔y∈l:=by rw[Cn,O1];simp
def O2: ∀(l out:List Int),(l.foldl (fun out x=>Gv x out) out).length=l.length+out.length
 | [],out=>by simp
 | x::r,out=>by rw[List.foldl_cons,O2 r,K0,KH];omega
def JI (l:List Int):(Cn l).length=l.length:=by rw[Cn,O2];simp
structure Gz (p:Prog) (l:List Int):Prop where
 Fb: ∀x∈l,A1 p x=true
 alike: ∀x∈l,∀y∈l,CR p x y=true
 many:l.length≤16
def UJ (p:Prog) (l:List Int) (kd:Bool) (x:Int):Bool:=A1 p x&&((BN p x).gen==(BN p (l.getD 0 0)).gen&&(!kd||CR p x (l.getD 0 0)))
def Ef (p:Prog) (l:List Int) (kd:Bool):Bool:=l.all (UJ p l kd)&&decide l.Nodup
def QJ {p:Prog} {l:List Int} {kd:Bool} {i:Nat} {x:Int} (hx:l[i]? =some x) (h:UJ p l kd x=false):Ef p l kd=false:=by
 rw[Ef,Bool.and_eq_false_iff];left;rw[←Bool.not_eq_true,EN];intro h2;rw[h2 x (B5 hx)]at h;cases h
def QI {p:Prog} {l:List Int} {kd:Bool} {i k:Nat} {x:Int} (hx:l[i]? =some x) (hk:l[k]? =some x) (h:k<i):Ef p l kd=false:=by
 rw[Ef,Bool.and_eq_false_iff];right;rw[decide_eq_false_iff_not];intro h2;have hi:=(G7.1 hx)
 have hj:=(G7.1 hk)
 have:=(List.nodup_iff_pairwise_ne.1 h2)
 rw[List.pairwise_iff_getElem]at this;exact this k i hj.1 hi.1 h (by rw[hj.2,hi.2])
def Oe {l:List Int} {i:Nat} {x:Int} (hx:l[i]? =some x) (h:(l.take i).Nodup) (hn: ∀k y,k<i→l[k]? =some y→y≠x):(l.take (i+1)).Nodup:=by
 rw[AO hx,List.nodup_append];refine⟨h,by simp,fun a ha b hb=>?_⟩;rw[LV.1 hb];obtain⟨k,hk⟩:=List.getElem?_of_mem ha;rw[List.getElem?_take]at hk;split at hk
 ·exact hn k a (by assumption) hk
 ·cases hk
set_option maxHeartbeats 2000000 in
def jK (p : Prog) (l:List Int) (f:Bool) (kd:Bool) (hl:l.length≤1000):Pure Tryz.prog 35 [.a (BR p),.l (iL l) f,.b kd] (.b (Ef p l kd)):=by
 refine Pure.fit (by kernel_rfl) fun hf=>?_
 have⟨p1,p2,p3,p4⟩:=Ff hf.1;have hM:=Mx;refine qN kZ ?_;have hs:=Sn
 conv=>whnf
 repeat'((first|apply st|(apply sq;intro K U)|(apply si;intro A B Y Z)|(apply Y;clear Z B Y A)|(apply U;clear U K)|fail)<;>conv=>whnf)
 refine B2 l.length (fun i (_:Unit)=>[(7,eI (A4 i))]) (fun _ _=>[]) (fun i _=>(∀k y,k<i→l[k]? =some y→UJ p l kd y=true)∧(l.take i).Nodup) () rfl ⟨fun k y h=>by omega,by simp⟩ hs ?_;clear hs;rintro i - σ hi ⟨ho,hn⟩ hs;rcases BC l hi with⟨x,hx,hlt⟩|hie
 ·have hci:A4 i=i:=AL (by omega)
  obtain⟨z,hz⟩: ∃z,l[0]? =some z:=⟨_,DJ (by omega)⟩
  have hz0:=C9 hz;have c1:=bF p x;have hbad:=fun h=>QJ (p:=p) (kd:=kd) hx h
  rw[UJ,hz0]at hbad;cases hmx:A1 p x<;>rw[hmx]at c1
  ·conv=>whnf
   repeat'((first|apply st|(apply sq;intro K U)|(apply si;intro A B Y Z)|(apply Y;clear Z B Y A)|(apply U;clear U K)|apply dr|refine⟨rfl,?_⟩|refine⟨kZ,?_⟩|refine ix ?_|refine UR ?_|(refine CK (fun hc=>?_)<;>(try rw[hc])<;>clear hc)|refine c1.use ?_|clear U K)<;>conv=>whnf)
   all_goals exact AI (by rw[hbad (by rw[hmx];rfl)])
  have hmz:A1 p z=true:=by
   rcases Nat.eq_zero_or_pos i with h0|h0
   ·rw[h0,hz]at hx
    rw[Option.some.inj hx];exact hmx
   ·have:=ho 0 z h0 hz
    simp only[UJ,BY]at this;exact this.1
  have hxP:=Br hmx;have hzP:=Br hmz;have c2:=fN p x z hmx hmz;have hxr:=hmx;have hzr:=hmz;simp only[A1,BY,Ce]at hxr hzr;by_cases hg:(BN p x).gen=(BN p z).gen
  ·have hoxF:(!kd||CR p x z)=true→UJ p l kd x=true:=fun h=>by rw[UJ,hz0,hmx,hg,h];simp
   cases hal:CR p x z<;>rw[hal]at c2 hoxF<;>cases kd
   all_goals
    conv=>whnf
    repeat'((first|apply st|(apply sq;intro K U)|(apply si;intro A B Y Z)|(apply Y;clear Z B Y A)|(apply U;clear U K)|apply dr|refine⟨rfl,?_⟩|refine⟨kZ,?_⟩|refine ix ?_|refine GX ?_|refine Er ?_|refine De ?_|refine JS ?_|(refine CK (fun hc=>?_)<;>(try rw[hc])<;>clear hc)|refine c1.use ?_|refine c2.use ?_|(constructor<;>intro hc<;>(try rw[hc])<;>(replace hc:=bp hc))|clear U K)<;>conv=>whnf)
   all_goals try(exfalso;simp[hg]at hc;done)
   all_goals try exact AI (by rw[hbad (by simp[hal,hg])])
   all_goals
    have hox:=hoxF rfl;refine B2 i (fun k (_:Unit)=>[(8,eI (A4 k))]) (fun _ _=>[]) (fun k _=> ∀k' y,k'<k→l[k']? =some y→y≠x) () rfl (fun k' y h=>by omega) hs ?_;clear hs;rintro k - σ hk hne hs;rcases Nat.lt_or_ge k i with hki|hki
    ·obtain⟨y,hy⟩: ∃y,l[k]? =some y:=⟨_,DJ (by omega)⟩
     have hck:A4 k=k:=AL (by omega);by_cases hyx:y=x
     ·conv=>whnf
      repeat'((first|apply st|(apply sq;intro K U)|(apply si;intro A B Y Z)|(apply Y;clear Z B Y A)|(apply U;clear U K)|apply dr|refine⟨rfl,?_⟩|refine ix ?_|(constructor<;>intro hc<;>(try rw[hc])<;>(replace hc:=bp hc)<;>(try simp(disch:=omega) only[BQ,wrap64,AL]at hc)<;>try(exfalso;omega))|clear U K)<;>conv=>whnf)
      exact AI (by rw[QI hx (hyx ▸ hy) hki])
     ·conv=>whnf
      repeat'((first|apply st|(apply sq;intro K U)|(apply si;intro A B Y Z)|(apply Y;clear Z B Y A)|(apply U;clear U K)|apply dr|refine⟨rfl,?_⟩|refine ix ?_|(constructor<;>intro hc<;>(try rw[hc])<;>(replace hc:=bp hc)<;>(try simp(disch:=omega) only[BQ,wrap64,AL]at hc)<;>try(exfalso;omega))|clear U K)<;>conv=>whnf)
      refine⟨hki,(),rfl,fun k' y' h h2=>?_,hs⟩;rcases Nat.lt_or_ge k' k with h'|h'
      ·exact hne k' y' h' h2
      ·rw[show k'=k by omega,hy]at h2
       rw[←Option.some.inj h2];exact hyx
    ·have hck:A4 k=k:=AL (by omega)
     conv=>whnf
     repeat'((first|apply st|(apply sq;intro K U)|(apply si;intro A B Y Z)|(apply Y;clear Z B Y A)|(apply U;clear U K)|refine⟨rfl,?_⟩|(constructor<;>intro hc<;>(try rw[hc])<;>(replace hc:=bp hc)<;>(try simp(disch:=omega) only[BQ,wrap64,AL]at hc)<;>try(exfalso;omega))|clear U K)<;>conv=>whnf)
     refine⟨hlt,(),rfl,⟨fun k' y' h h2=>?_,Oe hx hn fun k' y' h h2=>hne k' y' (by omega) h2⟩,hs⟩;rcases Nat.lt_or_ge k' i with h'|h'
     ·exact ho k' y' h' h2
     ·rw[show k'=i by omega,hx]at h2
      rw[←Option.some.inj h2];exact hox
  ·conv=>whnf
   repeat'((first|apply st|(apply sq;intro K U)|(apply si;intro A B Y Z)|(apply Y;clear Z B Y A)|(apply U;clear U K)|apply dr|refine⟨rfl,?_⟩|refine⟨kZ,?_⟩|refine ix ?_|refine GX ?_|refine De ?_|refine JS ?_|(refine CK (fun hc=>?_)<;>(try rw[hc])<;>clear hc)|refine c1.use ?_|refine c2.use ?_|(constructor<;>intro hc<;>(try rw[hc])<;>(replace hc:=bp hc))|clear U K)<;>conv=>whnf)
   all_goals try(exfalso;have q:(bif !true then true else(BN p x).gen != (BN p z).gen)=false:=(by assumption);simp[hg]at q;done)
   all_goals exact AI (by rw[hbad (by simp[hg])])
 ·conv=>whnf
  repeat'((first|apply st|(apply sq;intro K U)|(apply si;intro A B Y Z)|(apply Y;clear Z B Y A)|(apply U;clear U K)|refine⟨rfl,?_⟩|(refine DR (fun hc=>?_)<;>(try rw[hc])<;>clear hc)|clear U K)<;>conv=>whnf)
  have hall:Ef p l kd=true:=by
   rw[Ef,BY,EN];refine⟨fun y hy=>?_,decide_eq_true (by rw[hie,List.take_length]at hn;exact hn)⟩;obtain⟨k,hk⟩:=List.getElem?_of_mem hy;exact ho k y (by rw[hie];exact(G7.1 hk).1) hk
  exact AI (by rw[hall])
def TD: ∀(n:Nat) (l:List Int),l.Nodup→(∀x∈l,0≤x∧x<(n:Int))→l.length≤n
 | 0,l,_,h=>by
   cases l with
   | nil=>simp
   | cons x r=>have:=h x (.head _);omega
 | n + 1,l,hn,h=>by
   have h1:=TD n (l.erase (n:Int)) (hn.erase _) fun x hx=>by
    have hm:=(List.Nodup.mem_erase_iff hn).1 hx;have:=h x hm.2;have:=hm.1;omega
   have h2:=List.length_erase (a:=(n:Int)) (l:=l);split at h2<;>omega
def bK {p:Prog} {l:List Int} (hok:Db p) (h:Ef p l true=true):Gz p l∧l.Nodup:=by
 rw[Ef,BY,EN,Ce]at h;obtain⟨h1,h2⟩:=h
 have hm: ∀x∈l,A1 p x=true∧CR p x (l.getD 0 0)=true:=fun x hx=>by
  have:=h1 x hx;simp only[UJ,BY,Bool.not_true,Bool.false_or]at this;exact⟨this.1,this.2.2⟩
 refine⟨⟨fun x hx=>(hm x hx).1,fun x hx y hy=>?_,Nat.le_trans (TD p.methods.length l h2 fun x hx=>?_) hok.many⟩,h2⟩
 ·have a:=(hm x hx).2
  have b:=(hm y hy).2;simp only[CR,BY,Dx]at a b ⊢;exact⟨a.1.trans b.1.symm,a.2.trans b.2.symm⟩
 ·have:=(hm x hx).1
  simp only[A1,BY,Ce]at this;omega
def Gm (p:Prog) (l:List Int):(List Int×Bool)×Int:=if(BV p).isSome&&Ef p l true then(Bf (AY p) l.length l,0)else(([],false),2)
abbrev pI (p:Int×Int):List V:=[eI p.1,eI p.2]
abbrev pP (l:List (Int×Int)):List (List V):=l.map pI
def Ns:Eg pI 2:=fun x=>⟨rfl,fun v hv=>by
 simp only[pI,GB,List.not_mem_nil,or_false]at hv
 rcases hv with rfl|rfl<;>rfl⟩
def Jl (p:Prog) (g:Int):Bool:=decide (0≤g)&&decide (g<(p.Cx.length:Int))
def Sc (k:Int):Bool:=decide (1≤k)&&decide (k≤4)
def KN (n:Nat) (f:Nat→Nat→Bool) (i:Nat):List (Int×Int):=((List.range n).filter (f i)).map fun(j:Nat)=>((i:Int),(j:Int))
def RE (n:Nat) (f:Nat→Nat→Bool):List (Int×Int):=(List.range n).flatMap (KN n f)
def IZ (p:Prog) (gen kind:Int) (i j:Nat):Bool:=(BN p i).gen==gen&&((BN p i).kind==kind&&(CR p i j&&AY p i j))
def Gk (p:Prog) (gen kind:Int):List (Int×Int)×Int:=if(BV p).isSome&&(Jl p gen&&Sc kind)then(RE p.methods.length (IZ p gen kind),0)else([],2)
def pH (p:Prog) (g:Int):Pure Tryz.prog 52 [.a (BR p),eI g] (.b (Jl p g)):=by
 refine Pure.fit (by kernel_rfl) fun hf=>?_
 have⟨p1,p2,p3,p4⟩:=Ff hf.1;refine qC kZ ?_;have hs:=Sn
 conv=>whnf
 repeat'((first|apply st|(apply sq;intro K U)|(apply si;intro A B Y Z)|(apply Y;clear Z B Y A)|(apply U;clear U K)|refine⟨rfl,?_⟩|(constructor<;>intro hc<;>(try rw[hc])<;>(replace hc:=bp hc))|fail)<;>conv=>whnf)
 all_goals exact AI (by simp[Jl, *]<;>omega)
def Hi (n:Nat) (f:Nat→Nat→Bool) (k:Nat):(List.range (k+1)).flatMap (KN n f)=(List.range k).flatMap (KN n f)++KN n f k:=by
 rw[List.range_succ,List.flatMap_append];simp
def LX (f:Nat→Nat→Bool) (i k:Nat):List (Int×Int):=((List.range k).filter (f i)).map fun(j:Nat)=>((i:Int),(j:Int))
def JL (f:Nat→Nat→Bool) (i k:Nat):LX f i (k+1)=LX f i k++(if f i k then [((i:Int),(k:Int))]else []):=by
 rw[LX,List.range_succ,List.filter_append,R9,LX];cases h:f i k<;>simp[h]
def RX (f:Nat→Nat→Bool) (i k:Nat):(LX f i k).length≤k:=by
 rw[LX,BQ];exact Nat.le_trans (KD _ _) (by simp)
def NJ (n:Nat) (f:Nat→Nat→Bool) (k:Nat):((List.range k).flatMap (KN n f)).length≤k*n:=by
 induction k with
 | zero=>simp
 | succ k ih=>
   rw[Hi,PK,Nat.succ_mul];have:=RX f k n;have e:KN n f k=LX f k n:=rfl;rw[e];omega
def SB (p:Prog) (gen:Int) (i j:Nat):Bool:=decide (i<j)&&((BN p i).gen==gen&&(CR p i j&&(EP p i j&&EP p j i)))
def Lh (p:Prog) (gen:Int):List (Int×Int)×Int:=if(BV p).isSome&&Jl p gen then(RE p.methods.length (SB p gen),0)else([],2)
def Tf (xs ys:List (Int×Int)) (f g:Bool) (hl:xs.length≤1000) (hm:ys.length≤1000):Pure Tryz.prog 19 [.l (pP xs) f,.l (pP ys) g] (.b (xs==ys)):=by
 have hM:=Mx;refine qV kZ ?_;have hs:=Sn;by_cases hlen:xs.length=ys.length
 ·conv=>whnf
  repeat'((first|apply st|(apply sq;intro K U)|(apply si;intro A B Y Z)|(apply Y;clear Z B Y A)|(apply U;clear U K)|refine⟨rfl,?_⟩|(constructor<;>intro hc<;>(try rw[hc])<;>(replace hc:=bp hc)<;>(try simp(disch:=omega) only[BQ,wrap64,AL]at hc)<;>try(exfalso;omega))|fail)<;>conv=>whnf)
  refine B2 xs.length (fun k (_:Unit)=>[(5,eI (A4 k))]) (fun _ _=>[]) (fun k _=>(xs==ys)=(xs.drop k==ys.drop k)) () rfl rfl Sat.nil ?_;clear hs;rintro k - σ hk hn hs;rcases BC xs hk with⟨x,hx,hlt⟩|hke
  ·obtain⟨y,hy⟩: ∃y,ys[k]? =some y:=⟨_,DJ (by omega)⟩
   rw[drop_cons hx,drop_cons hy]at hn
   conv=>whnf
   repeat'((first|apply st|(apply sq;intro K U)|(apply si;intro A B Y Z)|(apply Y;clear Z B Y A)|(apply U;clear U K)|apply dr|refine⟨rfl,?_⟩|refine⟨kZ,?_⟩|refine ix ?_|(refine CK (fun hc=>?_)<;>(try rw[hc])<;>clear hc)|(constructor<;>intro hc<;>(try rw[hc])<;>(replace hc:=bp hc)<;>(try simp(disch:=omega) only[BQ,wrap64,AL]at hc))|clear U K)<;>conv=>whnf)
   ·refine AI ?_
    rw[hn];congr 1;rw[Bool.and_true]at hc;rw[List.cons_beq_cons,show(x==y)=(x.1==y.1&&x.2==y.2) from rfl,hc];rfl
   ·refine⟨hlt,(),rfl,?_,hs⟩
    rw[Bool.and_true]at hc;rw[hn,List.cons_beq_cons,show(x==y)=(x.1==y.1&&x.2==y.2) from rfl,hc,E7]
  ·conv=>whnf
   repeat'((first|apply st|(apply sq;intro K U)|(apply si;intro A B Y Z)|(apply Y;clear Z B Y A)|(apply U;clear U K)|refine⟨rfl,?_⟩|(refine DR (fun hc=>?_)<;>(try rw[hc])<;>clear hc)|clear U K)<;>conv=>whnf)
   exact AI (by rw[hn,Ah hke,Ah (by omega)];rfl)
 ·conv=>whnf
  repeat'((first|apply st|(apply sq;intro K U)|(apply si;intro A B Y Z)|(apply Y;clear Z B Y A)|(apply U;clear U K)|refine⟨rfl,?_⟩|(constructor<;>intro hc<;>(try rw[hc])<;>(replace hc:=bp hc)<;>(try simp(disch:=omega) only[BQ,wrap64,AL]at hc)<;>try(exfalso;omega))|clear U K)<;>conv=>whnf)
  exact AI (by(have:(xs==ys)=false:=by(simp;intro e;subst e;exact hlen rfl));rw[this])
def ZE (p:Prog) (L:Nat) (g:Int):Pure Tryz.prog 49 [Ft p L,eI g] (.b (Jl p g)):=by
 refine Pure.fit (by kernel_rfl) fun hf=>?_
 have hM:=Mx;refine gK kZ ?_;have hs:=Sn
 conv=>whnf
 repeat'((first|apply st|(apply sq;intro K U)|(apply si;intro A B Y Z)|(apply Y;clear Z B Y A)|(apply U;clear U K)|refine⟨rfl,?_⟩|(constructor<;>intro hc<;>(try rw[hc])<;>(replace hc:=bp hc))|fail)<;>conv=>whnf)
 all_goals exact AI (by simp[Jl, *]<;>omega)
def Ua (g:Int):Pure Tryz.prog 49 [.pn,eI g] (.b false):=by
 refine gK kZ ?_;have hs:=Sn
 conv=>whnf
 repeat'((first|apply st|(apply sq;intro K U)|(apply si;intro A B Y Z)|(apply Y;clear Z B Y A)|(apply U;clear U K)|refine De ?_|fail)<;>conv=>whnf)
 all_goals exact AI rfl
def XG (p:Prog) (L:Nat) (g:Int):Pure Tryz.prog 50 [Ft p L,eI g] (.f (.func 75) [] [.rp [Ft p L],.rp [eI g]]):=by
 refine qE kZ ?_;have hs:=Sn
 conv=>whnf
 repeat'((first|apply st|(apply sq;intro K U)|(apply si;intro A B Y Z)|(apply Y;clear Z B Y A)|(apply U;clear U K)|fail)<;>conv=>whnf)
 all_goals exact AI rfl
def Zz (xs:List (Int×Int)) (v:V) (hl:xs.length≤Af):Bk Tryz.prog 51 [v] [.own v 2 (pP xs)] fun r post=>r= .ret (.l (pP xs) true)∧post= []:=by
 intro σ hs;have hg:=Ck Ns xs;refine qD kZ ?_
 conv=>whnf
 repeat'((first|(apply sq;intro K U)|(apply si;intro A B Y Z)|(apply Y;clear Z B Y A)|(apply U;clear U K)|refine lo ?_|fail)<;>conv=>whnf)
 refine Vw (i:=0) hs rfl hg.1 (by simpa using hl) fun σ hs=>?_
 conv=>whnf
 repeat'((first|apply st|(apply Y;clear Z B Y A)|(apply U;clear U K)|fail)<;>conv=>whnf)
 exact Ap hs (List.Sublist.refl _) (.refl _) fun σ' hs'=>⟨_,⟨rfl,rfl⟩,hs'⟩
def B6 (oH:Int) (v:Int×Int):Bool:=
 if v.1=1 then decide (-1000000000≤v.2)&&decide (v.2≤1000000000)else if v.1=2 then v.2==0 else if v.1=3 then decide (0≤v.2)&&decide (v.2<oH)else false
def dG (v:Int×Int) (n:Int):Pure Tryz.prog 80 [.a (pI v),eI n] (.b (B6 n v)):=by
 obtain⟨k,x⟩:=v;refine pj kZ ?_;have hs:=Sn
 conv=>whnf
 repeat'((first|apply st|(apply sq;intro K U)|(apply si;intro A B Y Z)|(apply Y;clear Z B Y A)|(apply U;clear U K)|refine⟨rfl,?_⟩|(constructor<;>intro hc<;>(try rw[hc])<;>(replace hc:=bp hc)<;>(try simp(disch:=omega) only[BQ,wrap64,AL]at hc))|clear U K)<;>conv=>whnf)
 all_goals exact AI (by simp[B6, *]<;>omega)
def oa (v:Int×Int) (n:Int):Pure Tryz.prog 92 [.a (pI v),eI n] (.b (B6 n v)):=by
 obtain⟨k,x⟩:=v;refine pZ kZ ?_;have hs:=Sn
 conv=>whnf
 repeat'((first|apply st|(apply sq;intro K U)|(apply si;intro A B Y Z)|(apply Y;clear Z B Y A)|(apply U;clear U K)|refine⟨rfl,?_⟩|(constructor<;>intro hc<;>(try rw[hc])<;>(replace hc:=bp hc)<;>(try simp(disch:=omega) only[BQ,wrap64,AL]at hc))|clear U K)<;>conv=>whnf)
 all_goals exact AI (by simp[B6, *]<;>omega)
def ZN (l:List (Int×Int)) (f:Bool) (n:Int):Pure Tryz.prog 63 [.l (pP l) f,eI n] (.b (l.all (B6 n))):=by
 refine Pure.fit (by kernel_rfl) fun hf=>?_
 have hl:l.length≤Af:=by
  have:=hf.1;simp only[Ev,BQ]at this;exact this.1
 have hM:=Mx;refine p6 kZ ?_;have hs:=Sn
 conv=>whnf
 repeat'((first|apply st|(apply sq;intro K U)|(apply si;intro A B Y Z)|(apply Y;clear Z B Y A)|(apply U;clear U K)|fail)<;>conv=>whnf)
 refine B2 l.length (fun k (_:Unit)=>[(9,eI (A4 k))]) (fun _ _=>[]) (fun k _=>l.all (B6 n)=(l.drop k).all (B6 n)) () rfl rfl hs ?_;clear hs;rintro k - σ hk hn hs;rcases BC l hk with⟨x,hx,hlt⟩|hke
 ·have c1:=oa x n
  rw[drop_cons hx,My]at hn;cases hv:B6 n x<;>rw[hv]at c1 hn
  ·conv=>whnf
   repeat'((first|apply st|(apply sq;intro K U)|(apply si;intro A B Y Z)|(apply Y;clear Z B Y A)|(apply U;clear U K)|refine⟨rfl,?_⟩|refine⟨kZ,?_⟩|refine ix ?_|refine ld ?_|refine Dy fun σ hs=>?_|refine Er ?_|(refine CK (fun hc=>?_)<;>(try rw[hc])<;>clear hc)|refine c1.use ?_|(intro nn hnn;generalize hg:BA _ nn _=σ;refine Ct hg fun hs=>?_;clear hg)|clear U K)<;>conv=>whnf)
   exact AI (by rw[hn];rfl)
  ·conv=>whnf
   repeat'((first|apply st|(apply sq;intro K U)|(apply si;intro A B Y Z)|(apply Y;clear Z B Y A)|(apply U;clear U K)|refine⟨rfl,?_⟩|refine⟨kZ,?_⟩|refine ix ?_|refine ld ?_|refine Dy fun σ hs=>?_|refine De ?_|(refine CK (fun hc=>?_)<;>(try rw[hc])<;>clear hc)|refine c1.use ?_|(intro nn hnn;generalize hg:BA _ nn _=σ;refine Ct hg fun hs=>?_;clear hg)|clear U K)<;>conv=>whnf)
   exact⟨hlt,(),rfl,hn,hs.less (LR _)⟩
 ·conv=>whnf
  repeat'((first|apply st|(apply sq;intro K U)|(apply si;intro A B Y Z)|(apply Y;clear Z B Y A)|(apply U;clear U K)|refine⟨rfl,?_⟩|(refine DR (fun hc=>?_)<;>(try rw[hc])<;>clear hc)|clear U K)<;>conv=>whnf)
  exact AI (by rw[hn,Ah hke];rfl)
def Q2 (w:AK) (c:Int):Bool:=decide (3≤c)&&decide (c<3+(w.parents.length:Int))
def Cv (w:AK) (c:Int):List Int:=(Bi w.owner.length).filter (hasB w c)
abbrev Ob:=Int×List (Int×Int)
abbrev F0 (o:Ob):List V:=[eI o.1,.l (pP o.2) false]
def La (w:AK) (n:Int) (o:Ob):Bool:=Q2 w o.1&&(o.2.length==(Cv w o.1).length&&o.2.all (B6 n))
def FZ (w:AK) (os:List Ob):Bool:=decide (os.length≤40)&&os.all (La w os.length)
def ou (w:AK) (c:Int) (hw:KE w):Pure Tryz.prog 89 [.a (BE w),eI c] (.b (Q2 w c)):=by
 have hl:=hw.len;have hw3:IntKind.i64.wrap (3+(w.parents.length:Int))=3+w.parents.length:=wrap64 (by omega) (by omega);refine pd kZ ?_;have hs:=Sn
 conv=>whnf
 repeat'((first|apply st|(apply sq;intro K U)|(apply si;intro A B Y Z)|(apply Y;clear Z B Y A)|(apply U;clear U K)|refine⟨rfl,?_⟩|(constructor<;>intro hc<;>(try rw[hc])<;>(replace hc:=bp hc))|fail)<;>conv=>whnf)
 all_goals try rw[hw3]at hc
 all_goals exact AI (by simp only[hw3,Q2];simp[*]<;>omega)
def dR (w:AK) (c:Int) (hw:KE w) (hc0:0≤c) (hc1:c<3+w.parents.length):Pure Tryz.prog 90 [.a (BE w),eI c] (.l (iL (Cv w c)) false):=by
 have hM:=Mx;have hol:=hw.cz;refine pc kZ ?_;have hs:=Sn
 conv=>whnf
 repeat'((first|apply st|(apply sq;intro K U)|(apply si;intro A B Y Z)|(apply Y;clear Z B Y A)|(apply U;clear U K)|fail)<;>conv=>whnf)
 refine B2 w.owner.length (fun k v=>[(5,v),(10,eI (A4 k))]) (fun k v=>[.own v 1 (iL ((Bi k).filter (hasB w c)))]) (fun _ _=>True) (.l [] true) rfl trivial (E9 Sat.nil 1) ?_;clear hs;rintro k v σ hk - hs;have hfl:=KD (hasB w c) (Bi k);rw[Dt]at hfl;rcases BC w.owner hk with⟨s,hso,hlt⟩|hke
 ·have hck:A4 k=k:=AL (by omega)
  have c1:Pure Tryz.prog 122 [.a (BE w),eI c,eI (A4 k)] (.b (hasB w c k)):=by rw[hck];exact Zj w c k hw hc0 hc1 (by omega) (by omega)
  have hst:(Bi (k+1)).filter (hasB w c)=if hasB w c k then(Bi k).filter (hasB w c)++[(k:Int)]else(Bi k).filter (hasB w c):=by
   rw[Fl,List.filter_append];cases hp:hasB w c k<;>simp[hp]
  generalize (Bi k).filter (hasB w c)=zs at *;have hll:zs.length<Af∧(zs.length+1)*8≤140737488355328:=by omega
  cases hh:hasB w c k<;>rw[hh]at c1 hst
  ·conv=>whnf
   repeat'((first|apply st|(apply sq;intro K U)|(apply si;intro A B Y Z)|(apply Y;clear Z B Y A)|(apply U;clear U K)|refine⟨rfl,?_⟩|refine⟨kZ,?_⟩|(refine CK (fun hc=>?_)<;>(try rw[hc])<;>clear hc)|refine c1.use ?_|clear U K)<;>conv=>whnf)
   exact⟨hlt,_,rfl,trivial,by rw[hst];exact hs⟩
  ·conv=>whnf
   repeat'((first|apply st|(apply sq;intro K U)|(apply si;intro A B Y Z)|(apply Y;clear Z B Y A)|(apply U;clear U K)|refine⟨rfl,?_⟩|refine⟨kZ,?_⟩|refine aq fun v σ hs hsl=>?_|(refine CK (fun hc=>?_)<;>(try rw[hc])<;>clear hc)|refine c1.use ?_|clear U K)<;>conv=>whnf)
   exact⟨hlt,_,rfl,trivial,by rw[hst,←hck];exact hs⟩
 ·rw[hke]at hs
  conv=>whnf
  repeat'((first|apply st|(apply sq;intro K U)|(apply si;intro A B Y Z)|(apply Y;clear Z B Y A)|(apply U;clear U K)|refine⟨rfl,?_⟩|(refine DR (fun hc=>?_)<;>(try rw[hc])<;>clear hc)|clear U K)<;>conv=>whnf)
  exact Bh (hs.Pm 0 rfl)
set_option maxHeartbeats 1000000 in
def ic (w : AK) (os:List Ob) (f:Bool) (hw:KE w):Pure Tryz.prog 61 [.a (BE w),.l (os.map F0) f] (.b (FZ w os)):=by
 refine Pure.fit (by kernel_rfl) fun hf=>?_
 have hM:=Mx
 have hol:os.length≤Af:=by
  have:=hf.2.1;simp only[Ev,BQ]at this;exact this.1
 refine p8 kZ ?_;have hs:=Sn;by_cases h40:os.length≤40
 ·have e0 : FZ w os=os.all (La w os.length):=by rw[FZ,decide_eq_true h40,E7]
  rw[e0]
  conv=>whnf
  repeat'((first|apply st|(apply sq;intro K U)|(apply si;intro A B Y Z)|(apply Y;clear Z B Y A)|(apply U;clear U K)|refine⟨rfl,?_⟩|(constructor<;>intro hc<;>(try rw[hc])<;>(replace hc:=bp hc)<;>(try simp(disch:=omega) only[BQ,wrap64,AL]at hc)<;>try(exfalso;omega))|fail)<;>conv=>whnf)
  refine B2 os.length (fun k (_:Unit)=>[(12,eI (A4 k))]) (fun _ _=>[]) (fun k _=>os.all (La w os.length)=(os.drop k).all (La w os.length)) () rfl rfl hs ?_;clear hs;rintro k - σ hk hn hs;rcases BC os hk with⟨x,hx,hlt⟩|hke
  ·rw [drop_cons hx,My]at hn
   have c1:=ou w x.1 hw;cases ho:Q2 w x.1<;>rw[ho]at c1
   ·conv=>whnf
    repeat'((first|apply st|(apply sq;intro K U)|(apply si;intro A B Y Z)|(apply Y;clear Z B Y A)|(apply U;clear U K)|apply dr|refine rk ?_ ?_|exact fun s e=>by cases e;rfl|refine⟨rfl,?_⟩|refine⟨kZ,?_⟩|refine ix ?_|refine ld ?_|refine Dy fun σ hs=>?_|refine UR ?_|(refine CK (fun hc=>?_)<;>(try rw[hc])<;>clear hc)|refine c1.use ?_|(intro nn hnn;generalize hg:BA _ nn _=σ;refine Ct hg fun hs=>?_;clear hg)|clear U K)<;>conv=>whnf)
    all_goals exact AI (by rw[hn,La,ho];rfl)
   ·have ho':=ho
    simp only[Q2,BY,Ce]at ho';have c2:=dR w x.1 hw (by omega) (by omega);have e3:((os.map F0).length:Int)=os.length:=by simp
    have c3:Pure Tryz.prog 63 [.l (pP x.2) false,eI ((os.map F0).length:Int)] (.b (x.2.all (B6 os.length))):=by rw[e3];exact ZN x.2 false os.length
    have hob:La w os.length x=(x.2.length==(Cv w x.1).length&&x.2.all (B6 os.length)):=by rw[La,ho,E7]
    rw[hob]at hn;by_cases he:x.2.length=(Cv w x.1).length
    ·rw [Dx.2 he,E7]at hn
     cases hv:x.2.all (B6 os.length)<;>rw[hv]at c3 hn
     ·conv=>whnf
      repeat'((first|apply st|(apply sq;intro K U)|(apply si;intro A B Y Z)|(apply Y;clear Z B Y A)|(apply U;clear U K)|apply dr|refine rk ?_ ?_|exact fun s e=>by cases e;rfl|refine⟨rfl,?_⟩|refine⟨kZ,?_⟩|refine ix ?_|refine ld ?_|refine Dy fun σ hs=>?_|refine Er ?_|refine JS ?_|(refine CK (fun hc=>?_)<;>(try rw[hc])<;>clear hc)|refine c1.use ?_|refine c2.use ?_|refine c3.use ?_|(constructor<;>intro hc<;>(try rw[hc])<;>(replace hc:=bp hc)<;>(try simp(disch:=omega) only[BQ,wrap64,AL]at hc))|(intro nn hnn;generalize hg:BA _ nn _=σ;refine Ct hg fun hs=>?_;clear hg)|clear U K)<;>conv=>whnf)
      all_goals first
       | exact AI (by rw[hn];rfl)
       | (exfalso;simp[he]at hc;done)
     ·conv=>whnf
      repeat'((first|apply st|(apply sq;intro K U)|(apply si;intro A B Y Z)|(apply Y;clear Z B Y A)|(apply U;clear U K)|apply dr|refine rk ?_ ?_|exact fun s e=>by cases e;rfl|refine⟨rfl,?_⟩|refine⟨kZ,?_⟩|refine ix ?_|refine ld ?_|refine Dy fun σ hs=>?_|refine De ?_|refine JS ?_|(refine CK (fun hc=>?_)<;>(try rw[hc])<;>clear hc)|refine c1.use ?_|refine c2.use ?_|refine c3.use ?_|(constructor<;>intro hc<;>(try rw[hc])<;>(replace hc:=bp hc)<;>(try simp(disch:=omega) only[BQ,wrap64,AL]at hc))|(intro nn hnn;generalize hg:BA _ nn _=σ;refine Ct hg fun hs=>?_;clear hg)|clear U K)<;>conv=>whnf)
      all_goals first
       | exact⟨hlt,(),rfl,hn,hs.less (LR _)⟩
       | (exfalso;simp[he]at hc;done)
    ·rw[beq_eq_false_iff_ne.2 he,Bool.false_and,Bool.false_and]at hn
     cases hv:x.2.all (B6 os.length)<;>rw[hv]at c3
     all_goals
      conv=>whnf
      repeat'((first|apply st|(apply sq;intro K U)|(apply si;intro A B Y Z)|(apply Y;clear Z B Y A)|(apply U;clear U K)|apply dr|refine rk ?_ ?_|exact fun s e=>by cases e;rfl|refine⟨rfl,?_⟩|refine⟨kZ,?_⟩|refine ix ?_|refine ld ?_|refine Dy fun σ hs=>?_|refine Er ?_|refine De ?_|refine JS ?_|(refine CK (fun hc=>?_)<;>(try rw[hc])<;>clear hc)|refine c1.use ?_|refine c2.use ?_|refine c3.use ?_|(constructor<;>intro hc<;>(try rw[hc])<;>(replace hc:=bp hc)<;>(try simp(disch:=omega) only[BQ,wrap64,AL]at hc))|(intro nn hnn;generalize hg:BA _ nn _=σ;refine Ct hg fun hs=>?_;clear hg)|clear U K)<;>conv=>whnf)
     all_goals first
      | exact AI (by rw[hn])
      | (exfalso;have q:(bif !true then true else(x.2.length:Int) != ((Cv w x.1).length:Int))=false:=(by assumption);simp at q;omega)
      | (exfalso;simp at hc;omega)
  ·conv=>whnf
   repeat'((first|apply st|(apply sq;intro K U)|(apply si;intro A B Y Z)|(apply Y;clear Z B Y A)|(apply U;clear U K)|refine⟨rfl,?_⟩|(refine DR (fun hc=>?_)<;>(try rw[hc])<;>clear hc)|clear U K)<;>conv=>whnf)
   exact AI (by rw[hn,Ah hke];rfl)
 ·conv=>whnf
  repeat'((first|apply st|(apply sq;intro K U)|(apply si;intro A B Y Z)|(apply Y;clear Z B Y A)|(apply U;clear U K)|refine⟨rfl,?_⟩|(constructor<;>intro hc<;>(try rw[hc])<;>(replace hc:=bp hc)<;>(try simp(disch:=omega) only[BQ,wrap64,AL]at hc)<;>try(exfalso;omega))|clear U K)<;>conv=>whnf)
  exact AI (by rw[FZ,decide_eq_false h40];rfl)
end Go.Gl
namespace Go.Gl
open Go.Proofs
section
variable {H:Type} {enc:TypeId×Value→H} {W:World}
def oh:Pn enc Tryz.prog W 79 pI:=fun n=>
 Gi (FP Tryz.underlying79
  (fun n=>Ba (c:=1) rfl (by kernel_rfl) (fun _=>rfl) (Np Tryz.underlying77 n) (Ba (c:=1) rfl (by kernel_rfl) (fun _=>rfl) (LY n) Gj)) (fun _=>(show _=2 from rfl).trans (by kernel_rfl)) n) (fun x=>(x.1,x.2.1)) fun _=>rfl
def ZT:Pn enc Tryz.prog W 42 fun l:List (Int×Int)=>[V.l (pP l) false]:=GK (sz:=2) Tryz.underlying42 (by kernel_rfl) (by decide) (b8 (by kernel_rfl)) (fun _=>rfl) oh
def uo:Pn enc Tryz.prog W 81 F0:=fun n=>
 Gi (FP Tryz.underlying81
  (fun n=>Ba (c:=1) rfl (by kernel_rfl) (fun _=>rfl) (LY n) (Ba (c:=1) rfl (by kernel_rfl) (fun _=>rfl) (ZT n) Gj)) (fun _=>(show _=2 from rfl).trans (by kernel_rfl)) n) (fun x=>(x.1,x.2.1)) fun _=>rfl
def oj:Pn enc Tryz.prog W 41 fun l:List Ob=>[V.l (l.map F0) false]:=GK (sz:=2) Tryz.underlying41 (by kernel_rfl) (by decide) (b8 (by kernel_rfl)) (fun _=>rfl) uo
end
end Go.Gl
namespace Go.Proofs.YtijbpgdmpejgoaaGreat
open Go.Gl Go.ChangeShapes Go.WideShapes Go.ChangeAt Go.RowKit
theorem own:ownKnob Tryz.prog.godebug=none:=by kernel_rfl
def laidOut:laidOutB Tryz.prog=true:=by kernel_rfl
def En {a b:Bool} (h1:a=true) (h2:b=true):(a&&b)=true:=by rw[h1,h2];rfl
abbrev HE (w:World):=Hh (fun _=>False) emp w
def uf {w:World} {n:Int} (h:(Lit.int .i64 n).wf=true):Ae (HE w) (eI n) (.int .i64 n):=by
 simp only[Lit.wf,BY,Ce]at h;simp only[Ae];exact⟨trivial,h⟩
def od {w:World} {cs:Array Value} {p:Prog} (hp:cs.toList.length=(BR p).length∧Be (HE w) (fun i=>cs.toList[i]?) 0 (BR p)):Ae (HE w) (.a (BR p)) (.agg cs):=by
 simp only[Ae];exact⟨cs,rfl,by simpa using hp.1,by simpa using hp.2⟩
end Go.Proofs.YtijbpgdmpejgoaaGreat
