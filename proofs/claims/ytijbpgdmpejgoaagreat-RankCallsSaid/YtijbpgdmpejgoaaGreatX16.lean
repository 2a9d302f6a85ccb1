import Derived.Test.YtijbpgdmpejgoaaGreatX15
set_option linter.all false
set_option linter.defProp false
noncomputable section
namespace Go.Gl
open Go.Proofs
attribute [local irreducible] BL A5 Aj AW AN Ai AV AX AO Ah AS AU BA BK Sat Ad BH Al W
def SQ {α S:Type} (stp:α→S→Bool×S) (D:α→S→Prop):List α→S→Prop
 | [],_=>True
 | y::r,s=>D y s∧((stp y s).1=true→SQ stp D r (stp y s).2)
section
variable {α β S:Type} {stp:α→S→Bool×S} {D:α→S→Prop}
def OU: ∀(A B:List α) (s:S),Co stp (A++B) s=if(Co stp A s).1 then Co stp B (Co stp A s).2 else(false,(Co stp A s).2)
 | [],B,s=>by simp[Co]
 | y::r,B,s=>by
   rw[List.cons_append,Co,Co];cases(stp y s).1
   ·rfl
   ·simpa using OU r B (stp y s).2
def Tl (l:α) (s:S):Co stp [l] s=stp l s:=by
 rw[Co,Co];rcases stp l s with⟨b,s'⟩;cases b<;>rfl
def Rj: ∀ {A B:List α} {s:S},SQ stp D (A++B) s→SQ stp D A s∧((Co stp A s).1=true→SQ stp D B (Co stp A s).2)
 | [],B,s,h=>⟨trivial,fun _=>h⟩
 | y ::r,B,s,h=>by
   obtain⟨h1,h2⟩:=h;rw[SQ,Co];cases hy:(stp y s).1
   ·exact⟨⟨h1,fun h=>(by cases h)⟩,fun h=>(by simp at h)⟩
   ·obtain⟨h3,h4⟩:=Rj (h2 hy)
    exact⟨⟨h1,fun _=>h3⟩,by simpa using h4⟩
def NK {A:List α}: ∀ {B:List α} {s:S},(∀y∈B,y∈A)→SQ stp D B s→SQ stp (fun y s=>y∈A∧D y s) B s
 | [],_,_,_=>trivial
 | y::r,_,hm,h=>⟨⟨hm y (.head _),h.1⟩,fun hy=>NK (fun z hz=>hm z (.tail _ hz)) (h.2 hy)⟩
def Wf {g:β→α}: ∀ {B:List β} {s:S},SQ stp D (B.map g) s→SQ (fun b s=>stp (g b) s) (fun b s=>D (g b) s) B s
 | [],_,_=>trivial
 | y::r,_,h=>⟨h.1,fun hy=>Wf (h.2 hy)⟩
end
section
variable {S:Type} {stp:List Fact→S→Bool×S} {D:List Fact→S→Prop}
def Qz (B:List (List Fact)): ∀(A:List (List Fact)) (s:S),Co stp (Dr A B) s=Co (fun x s=>Co (fun y s=>stp (CX x y) s) B s) A s
 | [],s=>rfl
 | x::r,s=>by
   have ih:=Qz B r;rw[Dr,List.flatMap_cons,OU,LI,Co];simp only[Dr]at ih;rw[ih]
def TN (B:List (List Fact)): ∀ {A:List (List Fact)} {s:S},SQ stp D (Dr A B) s→SQ (fun x s=>Co (fun y s=>stp (CX x y) s) B s) (fun x s=>SQ (fun y s=>stp (CX x y) s) (fun y s=>D (CX x y) s) B s) A s
 | [],_,_=>trivial
 | x::r,s,h=>by
   rw[Dr,List.flatMap_cons]at h;obtain⟨h1,h2⟩:=Rj h;refine⟨Wf h1,fun hy=>?_⟩;rw[LI]at h2;exact TN B (h2 hy)
end
abbrev Uc (l:List Fact) (b:Bool):V:= .l (FG l) b
def P5 {S:Type} (x:V) (H:S→List At) (stp:List Fact→S→Bool×S) (D:List Fact→S→Prop):Prop:= ∀b,DD Tryz.prog x (fun l=>Uc l b) H stp D
abbrev Sg (n:Nat):V:= .f (.func 225) [] [.p n 0]
def YF {f:Fact} (hl:Br f=true) (c:Bool):Js (if c then Fb f else f)=xF f++[.b c]:=by
 have:=F0 hl;cases c with
 | true=>rfl
 | false=>
   have h5: ¬f.op=5:=by omega
   simp only[Js,Lb,if_false,A2,if_neg h5]
def WalkC (f:Fact):Prop:= ∀(c:Bool) (S:Type) (fn:Fn) (fi ca:List V) (H:S→List At) (stp:List Fact→S→Bool×S) (D:List Fact→S→Prop) (nW:Nat) (s:S),
 P5 (.f fn fi ca) (fun s=> .box nW [Sg nW]::H s) stp D→SQ stp D (BS f c) s→ ∀σ,Sat σ (.box nW [Sg nW]::H s)→
  BA Tryz.prog (Sg nW) [.a (xF f),.b c,.f fn fi ca] σ fun r σ'=>r= .ret (.b (Co stp (BS f c) s).1)∧Sat σ' (.box nW [Sg nW]::H (Co stp (BS f c) s).2)
def cR {w:AK} {S:Type} {fn:Fn} {fi ca:List V} {H:S→List At} {stp:List Fact→S→Bool×S} {D:List Fact→S→Prop} (hT:P5 (.f fn fi ca) H stp D) {k0 k1:Fact} {c:Bool} (hn0:Bi w k0=true) (hn1:Bi w k1=true) (hv0:lv k0≤100) (hv1:lv k1≤100) {a:List Fact} (ha:a∈BS k0 c) (fa:Bool) :
    P5 (.f (.func 227) [] [.rp [.f fn fi ca],.rp [Uc a fa]]) H (fun y s=>stp (CX a y) s) (fun y s=>y∈BS k1 c∧D (CX a y) s):=by
 rintro b y s ⟨hy,hd⟩ σ hs;refine Bp ?_;show BL Tryz.prog 227 ([]++[Uc y b]++[.rp [.f fn fi ca],.rp [Uc a fa]]) σ _;have hla:=(Ei k0 (C3 _ hn0) c).2 a ha;have hly:=(Ei k1 (C3 _ hn1) c).2 y hy;have hM:=Mx;refine lO kZ ?_
 conv=>whnf
 repeat'((first|apply st|(apply sq;intro K U)|(apply si;intro A B Y Z)|(apply Y;clear Z B Y A)|(apply U;clear U K)|apply dr|refine rk ?_ ?_|exact fun s e=>by cases e;rfl|refine Pure.use (YN (w:=w) a y fa b (Eu k0 hn0 c a ha) (Eu k1 hn1 c y hy) (by omega)) ?_|fail)<;>conv=>whnf)
 refine(hT false).use hd hs ?_;clear hs;intro σ hs
 conv=>whnf
 repeat'((first|apply st|(apply Y;clear Z B Y A)|(apply U;clear U K)|apply dr|fail)<;>conv=>whnf)
 exact AR ⟨rfl,hs⟩
def cS {w:AK} {S:Type} {fn:Fn} {fi ca:List V} {H:S→List At} {stp:List Fact→S→Bool×S} {D:List Fact→S→Prop} {nW:Nat} (hT:P5 (.f fn fi ca) (fun s=> .box nW [Sg nW]::H s) stp D) {f k0 k1:Fact} (hk:f.kids= [k0,k1]) {c:Bool} (hn0:Bi w k0=true) (hn1:Bi w k1=true) (hv0:lv k0≤100) (hv1:lv k1≤100) (hw1:WalkC k1) :
    P5 (.f (.func 226) [] [.p nW 0,.rp (xF f),.rp [.b c],.rp [.f fn fi ca]]) (fun s=> .box nW [Sg nW]::H s) (fun a s=>Co (fun y s=>stp (CX a y) s) (BS k1 c) s) (fun a s=>a∈BS k0 c∧SQ (fun y s=>stp (CX a y) s) (fun y s=>D (CX a y) s) (BS k1 c) s):=by
 rintro fa a s ⟨ha,hd⟩ σ hs;refine Bp ?_;show BL Tryz.prog 226 ([]++[Uc a fa]++[.p nW 0,.rp (xF f),.rp [.b c],.rp [.f fn fi ca]]) σ _;have h1:f.kids[(1:Int).toNat]? =some k1:=by rw[hk];rfl
 refine lP kZ ?_
 conv=>whnf
 repeat'((first|apply st|(apply sq;intro K U)|(apply si;intro A B Y Z)|(apply Y;clear Z B Y A)|(apply U;clear U K)|apply dr|refine⟨kZ,?_⟩|refine Lo ?_|refine ld ?_|fail)<;>conv=>whnf)
 refine(hw1 c S _ _ _ H _ _ nW s (cR hT hn0 hn1 hv0 hv1 ha fa) (NK (fun y hy=>hy) hd) σ hs).mono ?_;clear hs;rintro r σ ⟨rfl,hs⟩
 conv=>whnf
 repeat'((first|apply st|(apply Y;clear Z B Y A)|(apply U;clear U K)|apply dr|fail)<;>conv=>whnf)
 exact AR ⟨rfl,hs⟩
set_option maxHeartbeats 2000000 in
def dc {w : AK} (f:Fact):Bi w f=true→lv f≤100→WalkC f:=by
 induction f using Fact.ind with
 | h f ih=>
   intro hn hv c S fn fi ca H stp D nW s hT hd σ hs;have har:=C3 _ hn
   have hnk: ∀k∈f.kids,Bi w k=true:=by
    rw[Ci,BZ,E0]at hn;exact hn.2
   have hop:f.op=1∨f.op=5∨Br f=true∨f.op=6∨f.op=7:=by
    rw[Ci,BZ]at hn;have h1:=hn.1;simp only[DC,SV,BZ]at h1;rw[OD];simp only[BZ,CY];have h2:=h1.1;split at h2
    ·omega
    ·split at h2
     ·omega
     ·simp only[Fz,Dn]at h2
      omega
   refine Bp ?_;show BL Tryz.prog 225 ([]++[.a (xF f),.b c,.f fn fi ca]++[.p nW 0]) σ _;refine lQ kZ ?_;rw[F8,FO]at hd;have hcs:=F8 f c;rw[FO]at hcs;rcases hop with h1|h5|hl|h67
   ·rw[if_pos h1]at hd hcs
    rw[hcs];cases c
    ·rw[if_neg (by decide)]at hd ⊢
     rw[Tl]
     conv=>whnf
     repeat'((first|apply st|(apply sq;intro K U)|(apply si;intro A B Y Z)|(apply Y;clear Z B Y A)|(apply U;clear U K)|refine⟨rfl,?_⟩|(constructor<;>intro hc<;>(try rw[hc])<;>(replace hc:=bp hc)<;>try(exfalso;omega))|fail)<;>conv=>whnf)
     refine(hT true).use (y:=[]) hd.1 hs ?_;clear hs;intro σ hs
     conv=>whnf
     repeat'((first|apply st|(apply Y;clear Z B Y A)|(apply U;clear U K)|clear U K)<;>conv=>whnf)
     exact AR ⟨rfl,hs⟩
    ·rw[if_pos rfl]at hd ⊢
     conv=>whnf
     repeat'((first|apply st|(apply sq;intro K U)|(apply si;intro A B Y Z)|(apply Y;clear Z B Y A)|(apply U;clear U K)|refine⟨rfl,?_⟩|(constructor<;>intro hc<;>(try rw[hc])<;>(replace hc:=bp hc)<;>try(exfalso;omega))|clear U K)<;>conv=>whnf)
     exact AR ⟨rfl,hs⟩
   ·obtain⟨k,hk,-⟩:=H0 har h5
    have hkm:k∈f.kids:=by rw[hk];exact .head _
    have hvk:lv k≤100:=by
     rw[MY,Y7,if_pos h5,hk]at hv;exact hv
    rw[if_neg (by omega),if_pos h5,hk]at hd hcs;have hcs2:BS f c=BS k (!c):=hcs;have h0:f.kids[(0:Int).toNat]? =some k:=by rw[hk];rfl
    rw[hcs2]
    conv=>whnf
    repeat'((first|apply st|(apply sq;intro K U)|(apply si;intro A B Y Z)|(apply Y;clear Z B Y A)|(apply U;clear U K)|apply dr|refine⟨rfl,?_⟩|refine⟨kZ,?_⟩|refine Lo ?_|refine ld ?_|(constructor<;>intro hc<;>(try rw[hc])<;>(replace hc:=bp hc)<;>try(exfalso;omega))|fail)<;>conv=>whnf)
    refine(ih k hkm (hnk k hkm) hvk (!c) S _ _ _ H stp D nW s hT hd σ hs).mono ?_;clear hs;rintro r σ ⟨rfl,hs⟩
    conv=>whnf
    repeat'((first|apply st|(apply Y;clear Z B Y A)|(apply U;clear U K)|apply dr|clear U K)<;>conv=>whnf)
    exact AR ⟨rfl,hs⟩
   ·have hlo:=F0 hl
    have hlB:=NM f;rw[hl]at hlB;rw[if_neg (by omega),if_neg (by omega),if_neg (by omega)]at hd hcs;have hcs2:BS f c= [[if c then Fb f else f]]:=by rw[hcs];cases c<;>rfl
    rw[←hcs,hcs2]at hd;rw[hcs2,Tl]
    have e:Uc [if c then Fb f else f] true= .l [xF f++[.b c]] true:=by
     show V.l [Js (if c then Fb f else f)] true=_;rw[YF hl]
    have hst:=(hT true) [if c then Fb f else f] s hd.1;simp only[e]at hst
    conv=>whnf
    repeat'((first|apply st|(apply sq;intro K U)|(apply si;intro A B Y Z)|(apply Y;clear Z B Y A)|(apply U;clear U K)|refine⟨rfl,?_⟩|refine⟨kZ,?_⟩|refine hlB.use ?_|(constructor<;>intro hc<;>(try rw[hc])<;>(replace hc:=bp hc)<;>try(exfalso;omega))|fail)<;>conv=>whnf)
    refine(hst σ hs).mono ?_;clear hs;rintro r σ ⟨rfl,hs⟩
    conv=>whnf
    repeat'((first|apply st|(apply Y;clear Z B Y A)|(apply U;clear U K)|clear U K)<;>conv=>whnf)
    exact AR ⟨rfl,hs⟩
   ·obtain⟨k0,k1,hk,-,-⟩:=Hz har h67
    have hkm0:k0∈f.kids:=by rw[hk];exact .head _
    have hkm1:k1∈f.kids:=by rw[hk];exact .tail _ (.head _)
    have hlf:Br f=false:=by rw[OD,decide_eq_false (show¬f.op≤4 by omega),Bool.and_false]
    have hlB:=NM f;rw[hlf]at hlB
    have hvk:lv k0+lv k1≤100:=by
     rw[MY,Y7,if_neg (by omega),if_pos h67,hk]at hv;exact hv
    rw[if_neg (by omega),if_neg (by omega),if_pos h67,hk]at hd hcs;have h0:f.kids[(0:Int).toNat]? =some k0:=by rw[hk];rfl
    have h1:f.kids[(1:Int).toNat]? =some k1:=by rw[hk];rfl
    have i0:=ih k0 hkm0 (hnk k0 hkm0) (by omega);have i1:=ih k1 hkm1 (hnk k1 hkm1) (by omega);by_cases hap:(c != (f.op==7))=true
    ·rw [if_pos hap]at hd hcs
     have hcs2:BS f c=BS k0 c++BS k1 c:=hcs;have hd2:SQ stp D (BS k0 c++BS k1 c) s:=hd;obtain⟨hd3,hd4⟩:=Rj hd2;rw[hcs2,OU];clear hcs hcs2 hd hd2;rcases h67 with h6|h7
     ·have h6b:(f.op==6)=true:=by rw[h6];rfl
      have hct:c=true:=by rw[h6]at hap;cases c<;>simp_all
      subst hct
      conv=>whnf
      repeat'((first|apply st|(apply sq;intro K U)|(apply si;intro A B Y Z)|(apply Y;clear Z B Y A)|(apply U;clear U K)|apply dr|refine⟨rfl,?_⟩|refine⟨kZ,?_⟩|refine Lo ?_|refine ld ?_|refine E2 ?_|refine hlB.use ?_|(rw[h6b])|(constructor<;>intro hc<;>(try rw[hc])<;>(replace hc:=bp hc)<;>try(exfalso;omega))|fail)<;>conv=>whnf)
      refine(i0 true S _ _ _ H stp D nW s hT hd3 σ hs).mono ?_;clear hs;rintro r σ ⟨rfl,hs⟩;generalize Co stp (BS k0 true) s=x at *;obtain⟨b1,s1⟩:=x;cases b1
      ·conv=>whnf
       repeat'((first|apply st|(apply Y;clear Z B Y A)|(apply U;clear U K)|apply dr|clear U K)<;>conv=>whnf)
       exact AR ⟨rfl,hs⟩
      ·conv=>whnf
       repeat'((first|apply st|apply dr|refine⟨kZ,?_⟩|refine Lo ?_|refine ld ?_|fail)<;>conv=>whnf)
       refine(i1 true S _ _ _ H stp D nW s1 hT (hd4 rfl) σ hs).mono ?_;clear hs;rintro r σ ⟨rfl,hs⟩
       conv=>whnf
       repeat'((first|apply st|(apply Y;clear Z B Y A)|(apply U;clear U K)|apply dr|clear U K)<;>conv=>whnf)
       exact AR ⟨rfl,hs⟩
     ·have h6b:(f.op==6)=false:=by rw[h7];rfl
      have hct:c=false:=by rw[h7]at hap;cases c<;>simp_all
      subst hct
      conv=>whnf
      repeat'((first|apply st|(apply sq;intro K U)|(apply si;intro A B Y Z)|(apply Y;clear Z B Y A)|(apply U;clear U K)|apply dr|refine⟨rfl,?_⟩|refine⟨kZ,?_⟩|refine Lo ?_|refine ld ?_|refine E2 ?_|refine hlB.use ?_|(rw[h6b])|(constructor<;>intro hc<;>(try rw[hc])<;>(replace hc:=bp hc)<;>try(exfalso;omega))|fail)<;>conv=>whnf)
      refine(i0 false S _ _ _ H stp D nW s hT hd3 σ hs).mono ?_;clear hs;rintro r σ ⟨rfl,hs⟩;generalize Co stp (BS k0 false) s=x at *;obtain⟨b1,s1⟩:=x;cases b1
      ·conv=>whnf
       repeat'((first|apply st|(apply Y;clear Z B Y A)|(apply U;clear U K)|apply dr|clear U K)<;>conv=>whnf)
       exact AR ⟨rfl,hs⟩
      ·conv=>whnf
       repeat'((first|apply st|apply dr|refine⟨kZ,?_⟩|refine Lo ?_|refine ld ?_|fail)<;>conv=>whnf)
       refine(i1 false S _ _ _ H stp D nW s1 hT (hd4 rfl) σ hs).mono ?_;clear hs;rintro r σ ⟨rfl,hs⟩
       conv=>whnf
       repeat'((first|apply st|(apply Y;clear Z B Y A)|(apply U;clear U K)|apply dr|clear U K)<;>conv=>whnf)
       exact AR ⟨rfl,hs⟩
    ·rw[if_neg hap]at hd hcs
     have hcs2:BS f c=Dr (BS k0 c) (BS k1 c):=hcs;have hd2:SQ stp D (Dr (BS k0 c) (BS k1 c)) s:=hd;have hd3:=TN _ hd2;have hT2:=cS hT hk (c:=c) (hnk k0 hkm0) (hnk k1 hkm1) (by omega) (by omega) i1;rw[hcs2,Qz];clear hcs hcs2 hd hd2;rcases h67 with h6|h7
     ·have h6b:(f.op==6)=true:=by rw[h6];rfl
      have hct:c=false:=by rw[h6]at hap;cases c<;>simp_all
      subst hct
      conv=>whnf
      repeat'((first|apply st|(apply sq;intro K U)|(apply si;intro A B Y Z)|(apply Y;clear Z B Y A)|(apply U;clear U K)|apply dr|refine⟨rfl,?_⟩|refine⟨kZ,?_⟩|refine Lo ?_|refine ld ?_|refine D2 ?_|refine hlB.use ?_|(rw[h6b])|(constructor<;>intro hc<;>(try rw[hc])<;>(replace hc:=bp hc)<;>try(exfalso;omega))|fail)<;>conv=>whnf)
      refine(i0 false S _ _ _ H _ _ nW s hT2 (NK (fun y hy=>hy) hd3) σ hs).mono ?_;clear hs;rintro r σ ⟨rfl,hs⟩
      conv=>whnf
      repeat'((first|apply st|(apply Y;clear Z B Y A)|(apply U;clear U K)|apply dr|fail)<;>conv=>whnf)
      exact AR ⟨rfl,hs⟩
     ·have h6b:(f.op==6)=false:=by rw[h7];rfl
      have hct:c=true:=by rw[h7]at hap;cases c<;>simp_all
      subst hct
      conv=>whnf
      repeat'((first|apply st|(apply sq;intro K U)|(apply si;intro A B Y Z)|(apply Y;clear Z B Y A)|(apply U;clear U K)|apply dr|refine⟨rfl,?_⟩|refine⟨kZ,?_⟩|refine Lo ?_|refine ld ?_|refine D2 ?_|refine hlB.use ?_|(rw[h6b])|(constructor<;>intro hc<;>(try rw[hc])<;>(replace hc:=bp hc)<;>try(exfalso;omega))|fail)<;>conv=>whnf)
      refine(i0 true S _ _ _ H _ _ nW s hT2 (NK (fun y hy=>hy) hd3) σ hs).mono ?_;clear hs;rintro r σ ⟨rfl,hs⟩
      conv=>whnf
      repeat'((first|apply st|(apply Y;clear Z B Y A)|(apply U;clear U K)|apply dr|fail)<;>conv=>whnf)
      exact AR ⟨rfl,hs⟩
def jz {w:AK} (f:Fact) (hn:Bi w f=true) (hv:lv f≤100) (c:Bool) {S:Type} {fn:Fn} {fi ca:List V} {H:S→List At} {stp:List Fact→S→Bool×S} {D:List Fact→S→Prop} {s:S} (hT: ∀nW,P5 (.f fn fi ca) (fun s=> .box nW [Sg nW]::H s) stp D) (hd:SQ stp D (BS f c) s) (σ:AH) (hs:Sat σ (H s)) :
    BL Tryz.prog 224 [.f fn fi ca,.rp (xF f),.rp [.b c]] σ fun r σ'=>r= .ret (.t [])∧Sat σ' (H (Co stp (BS f c) s).2):=by
 refine lR kZ ?_
 conv=>whnf
 repeat'((first|apply st|(apply sq;intro K U)|(apply si;intro A B Y Z)|(apply Y;clear Z B Y A)|(apply U;clear U K)|refine⟨kZ,?_⟩|refine ld ?_|refine FB fun σ hs=>?_|(intro nn hnn;generalize hg:A6 _ nn _=σ;refine CW hg fun hs=>?_;clear hg)|fail)<;>conv=>whnf)
 refine(dc f hn hv c S fn fi ca H stp D nn s (hT nn) hd σ hs).mono ?_;clear hs;rintro r σ ⟨rfl,hs⟩
 conv=>whnf
 repeat'((first|(apply Y;clear Z B Y A)|fail)<;>conv=>whnf)
 exact AR ⟨rfl,hs.less (Jp _ _)⟩
def cV (f:Fact) (c:Bool):Pure Tryz.prog 182 [.a (xF f),.b c] (.f (.func 224) [] [.rp (xF f),.rp [.b c]]):=by
 refine mF kZ ?_;have hs:=Sn
 conv=>whnf
 repeat'((first|apply st|(apply sq;intro K U)|(apply si;intro A B Y Z)|(apply Y;clear Z B Y A)|(apply U;clear U K)|fail)<;>conv=>whnf)
 all_goals exact AI rfl
abbrev NZ (w:AK) (l:List Fact) (s:Bool):Bool×Bool:=if Gv w l then(false,true)else(true,s)
def Tm {w:AK}: ∀(cs:List (List Fact)),Co (NZ w) cs false=(!cs.any (Gv w),cs.any (Gv w))
 | []=>rfl
 | l::r=>by
   rw[Co,Q7];simp only[NZ];cases h:Gv w l
   ·simpa using Tm r
   ·rfl
def Wg {w:AK} {AD:List Fact→Prop}: ∀ {cs:List (List Fact)},(∀l∈cs,AD l)→SQ (NZ w) (fun l s=>s=false∧AD l) cs false
 | [],_=>trivial
 | l ::r,h=>⟨⟨rfl,h l (.head _)⟩,fun hy=>by
     cases ht:Gv w l
     ·have e:(NZ w l false).2=false:=by simp[NZ,ht]
      rw[e];exact Wg fun x hx=>h x (.tail _ hx)
     ·simp[NZ,ht]at hy⟩
abbrev od (w:AK) (L:Nat) (E:Env) (ok:FuncId→Array Tmp→Code→Code→Nat→Prop) (nF:Nat):Prop:=
 L4 Tryz.prog L E ok (fun(x:List Fact×Bool)=>[Uc x.1 x.2]) (fun s:Bool=>[.box nF [.b s]]) (fun _=>True) (fun x s=>if Gv w x.1 then .stop (.exit 0) true else .go s) (fun x s=>s=false∧(∀y∈x.1,Ic w y)∧x.1.length<900)
def fD {w:AK} (f:Fact) (hn:Bi w f=true) (hv:lv f≤100) {L:Nat} {E:Env} {ok:FuncId→Array Tmp→Code→Code→Nat→Prop} {nF:Nat} (hY:od w L E ok nF) (σ:AH) (hs:Sat σ [.obj L (.loop .ready E ok),.box nF [.b false]]) :
    BL Tryz.prog 224 [.f (.yield L) [] [],.rp (xF f),.rp [.b false]] σ fun r σ'=>r= .ret (.t [])∧Sat σ' [.obj L (.loop (if PY w f then .exit 0 else .ready) E ok),.box nF [.b (PY w f)]]:=by
 have hg:=jz f hn hv false (fn:= .yield L) (fi:=[]) (ca:=[]) (H:=fun s:Bool=>[.obj L (.loop (if s then .exit 0 else .ready) E ok),.box nF [.b s]]) (stp:=NZ w) (D:=fun l s=>s=false∧(∀y∈l,Ic w y)∧l.length<900) (s:=false) (by
  rintro nW b l s ⟨rfl,hl,hlen⟩ σ hs;refine hY.use (y:=(l,b)) (s:=false) ⟨rfl,hl,hlen⟩ (rest:=[.box nW [Sg nW]]) (hs.perm (IK _ _ _ _)) ?_;intro r σ' hq;cases ht:Gv w l
  ·simp only[ht,Lb,if_false]at hq
   obtain⟨rfl,hs'⟩:=hq;have e:NZ w l false=(true,false):=by simp[NZ,ht]
   rw[e];exact⟨rfl,hs'.perm (IK _ _ _ _).symm⟩
  ·simp only[ht,if_true]at hq
   obtain⟨rfl,hs'⟩:=hq;have e:NZ w l false=(false,true):=by simp[NZ,ht]
   rw[e]
   exact⟨rfl,hs'.perm (IK _ _ _ _).symm⟩) (Wg fun l hl=>⟨Eu f hn false l hl,by have:=(Ei f (C3 _ hn) false).2 l hl;omega⟩) σ hs
 rw[Tm]at hg;exact hg
def oJ (w:AK) (hw:CS w) (f:Fact) (hn:Bi w f=true) (hv:lv f≤100):Pure Tryz.prog 141 [.rp (wC w (CG w.parents)),.a (xF f)] (.b (PY w f)):=by
 refine Pure.of ?_;refine m6 kZ ?_;have hs:=Sn
 conv=>whnf
 repeat'((first|apply st|(apply sq;intro K U)|(apply si;intro A B Y Z)|(apply Y;clear Z B Y A)|(apply U;clear U K)|refine⟨kZ,?_⟩|refine FB fun σ hs=>?_|refine Pure.use (cV _ _) ?_|(intro nn hnn;generalize hg:A6 _ nn _=σ;refine CW hg fun hs=>?_;clear hg)|fail)<;>conv=>whnf)
 rename_i _ nF hnF _ _ _ _;refine BL.mono (fD (w:=w) f hn hv (L:=nn) (nF:=nF) ?_ σ hs) ?_
 ·refine Mj (fun y=>rfl) ?_
  clear hs hnn hnF;rintro⟨l,b⟩ s ⟨rfl,hl,hlen⟩ rest σ hs;dsimp only at hl hlen;have htg:=Tt w hw l b hl hlen;dsimp only;cases ht:Gv w l<;>rw[ht]at htg
  ·conv=>whnf
   repeat'((first|apply st|(apply sq;intro K U)|(apply si;intro A B Y Z)|(apply Y;clear Z B Y A)|(apply U;clear U K)|refine htg.use ?_|clear U K)<;>conv=>whnf)
   intro hn;exact TI (H:=fun s:Bool=>[.box nF [.b s]]) (J:=fun _=>True) (s:=false) rfl hs hn
  ·conv=>whnf
   repeat'((first|apply st|(apply sq;intro K U)|(apply si;intro A B Y Z)|(apply Y;clear Z B Y A)|(apply U;clear U K)|refine FB fun σ hs=>?_|refine htg.use ?_|clear U K)<;>conv=>whnf)
   intro hn;exact U9 (H:=fun s:Bool=>[.box nF [.b s]]) (J:=fun _=>True) (s:=true) (st:= .exit 0) rfl hs hn
 ·clear hs hnn hnF
  cases hp:PY w f
  ·rintro r σ ⟨rfl,hs⟩
   refine Fk hs fun σ hs=>?_
   conv=>whnf
   repeat'((first|apply st|(apply sq;intro K U)|(apply si;intro A B Y Z)|(apply Y;clear Z B Y A)|(apply U;clear U K)|refine ld ?_|fail)<;>conv=>whnf)
   exact AR (by rw[hp])
  ·rintro r σ ⟨rfl,hs⟩
   refine VD hs fun σ hs=>?_
   conv=>whnf
   repeat'((first|apply st|(apply sq;intro K U)|(apply si;intro A B Y Z)|(apply Y;clear Z B Y A)|(apply U;clear U K)|refine ld ?_|fail)<;>conv=>whnf)
   exact AR (by rw[hp])
def jN (f:Fact):Pure Tryz.prog 143 [.a (xF f)] (.a (xF (Fb f))):=by
 refine m4 kZ ?_;have hs:=Sn
 conv=>whnf
 repeat'((first|apply st|(apply sq;intro K U)|(apply si;intro A B Y Z)|(apply Y;clear Z B Y A)|(apply U;clear U K)|refine⟨kZ,?_⟩|refine ld ?_|refine sn fun σ hs=>?_|(intro nn hnn;generalize hg:A6 _ nn _=σ;refine al hg fun hs=>?_;clear hg)|fail)<;>conv=>whnf)
 refine BO (.a (.cons (.refl _) (.cons (.refl _) (.cons CI (.cons (.refl _) (.cons (.refl _) (.cons ?_ .nil)))))));refine .l (fun h=>by cases h) ?_;simp only[Fb,Fact.kids,List.map,Be];exact Ep _
def oU (f g:Fact):Pure Tryz.prog 142 [.a (xF f),.a (xF g)] (.a (xF (M6 f g))):=by
 refine m5 kZ ?_;have hs:=Sn
 conv=>whnf
 repeat'((first|apply st|(apply sq;intro K U)|(apply si;intro A B Y Z)|(apply Y;clear Z B Y A)|(apply U;clear U K)|refine⟨kZ,?_⟩|refine ld ?_|refine sn fun σ hs=>?_|(intro nn hnn;generalize hg:A6 _ nn _=σ;refine al hg fun hs=>?_;clear hg)|fail)<;>conv=>whnf)
 refine BO (.a (.cons (.refl _) (.cons (.refl _) (.cons CI (.cons (.refl _) (.cons (.refl _) (.cons ?_ .nil)))))));refine .l (fun h=>by cases h) ?_;simp only[M6,Fact.kids,List.map,Be];exact Ep _
def VR (w:AK) (hw:CS w) (a b:Fact) (ha:Bi w a=true) (hb:Bi w b=true) (hl:lv a+lv b≤100):Pure Tryz.prog 110 [.rp (wC w (CG w.parents)),.a (xF a),.a (xF b)] (.b (RJ w a b)):=by
 have hcan:=oJ w hw (M6 a (Fb b)) (OB ha hb) (by rw[Zr];exact hl);refine nh kZ ?_;have hs:=Sn
 conv=>whnf
 repeat'((first|apply st|(apply sq;intro K U)|(apply si;intro A B Y Z)|(apply Y;clear Z B Y A)|(apply U;clear U K)|apply dr|refine rk ?_ ?_|exact fun s e=>by cases e;rfl|refine⟨kZ,?_⟩|refine Pure.use (jN _) ?_|refine Pure.use (oU _ _) ?_|refine hcan.use ?_|fail)<;>conv=>whnf)
 all_goals exact AI rfl
def Q5 (w:AK) (hw:CS w) (a b:Fact) (ha:Cg w a=true) (hb:Cg w b=true) (hna:Bi w a=true) (hnb:Bi w b=true) (hl:lv a+lv b≤100):Pure Tryz.prog 76 [.a (Aq w),.a (xF a),.a (xF b)] (.t [.b (RJ w a b),eI 0]):=by
 have hrd: ∀f,Pure Tryz.prog 109 [.a (Aq w),.l [xF a,xF b] f] (.t [.rp (wC w (CG w.parents)),.b true]):=fun f=>by
  have:=NH w hw [a,b] f (by simp);rw[show([a,b].all (Kb w))=true by simp[NR,ha,hb]]at this;simpa[Be]using this
 have hip:=VR w hw a b hna hnb hl;refine qT kZ ?_;have hs:=Sn
 conv=>whnf
 repeat'((first|apply st|(apply sq;intro K U)|(apply si;intro A B Y Z)|(apply Y;clear Z B Y A)|(apply U;clear U K)|refine⟨kZ,?_⟩|refine D2 ?_|refine Pure.use (hrd _) ?_|refine hip.use ?_|fail)<;>conv=>whnf)
 all_goals exact AI rfl
attribute [local irreducible] M8
def vE (p:Prog) (nO:Nat) (r:R) (post:List At):Prop:=
 match BX p with
 | some s=>r= .ret (.t [])∧ ∃v,post= [.box nO [v],.own v 1 (iL s)]
 | none=>r= .C9 Dx∧ ∃v s,post= [.box nO [v],.own v 1 (iL s)]
def Xt (p:Prog) (nO:Nat):Bj Tryz.prog 162 [.rp (BV p),.p nO 0] [.box nO [.l [] true]] (vE p nO):=fun σ hs=>
 BL.mono (bE p nO σ hs) fun r σ' hq=>by
  unfold oj at hq;unfold vE;cases h:BX p with
  | some s=>
    rw[h]at hq;obtain⟨h1,v,h2⟩:=hq;exact⟨_,⟨h1,v,rfl⟩,h2⟩
  | none=>
    rw[h]at hq;obtain⟨h1,v,s,h2⟩:=hq;exact⟨_,⟨h1,v,s,rfl⟩,h2⟩
def fT {σ:AH} {n:Nat} {x:V} {rest:List At} (hs:Sat σ (.box n [x]::rest)) {Q:AH→Prop} (hq: ∀σ',Sat σ' (.box n [.b false]::rest)→Q σ'):M8 Tryz.prog 207 [.p n 0] (some Dx) σ Q:=by
 refine XF kZ ?_
 conv=>whnf
 repeat'((first|apply st|(apply sq;intro K U)|(apply si;intro A B Y Z)|(apply Y;clear Z B Y A)|(apply U;clear U K)|refine FB fun σ hs=>?_|refine DB fun σ hs=>?_|refine D2 ?_|refine iJ rfl ?_|(intro nn hnn;generalize hg:A6 _ nn _=σ;refine CW hg fun hs=>?_;clear hg)|fail)<;>conv=>whnf)
 exact hq _ (hs.less (Jp _ _))
def fU {σ:AH} {n:Nat} {x:V} {rest:List At} (hs:Sat σ (.box n [x]::rest)) {Q:AH→Prop} (hq: ∀σ',Sat σ' (.box n [x]::rest)→Q σ'):M8 Tryz.prog 207 [.p n 0] none σ Q:=by
 refine XF kZ ?_
 conv=>whnf
 repeat'((first|apply st|(apply sq;intro K U)|(apply si;intro A B Y Z)|(apply Y;clear Z B Y A)|(apply U;clear U K)|refine D2 ?_|fail)<;>conv=>whnf)
 exact hq _ hs
def YZ (p:Prog) (nO:Nat):Bj Tryz.prog 161 [.f (.func 162) [] [.rp (BV p),.p nO 0]] [.box nO [.l [] true]] fun r post=>r= .ret (.b (BX p).isSome)∧ ∃v s,post= [.box nO [v],.own v 1 (iL s)]∧(BX p=none∨BX p=some s):=by
 intro σ hs;refine mX kZ ?_
 conv=>whnf
 repeat'((first|(apply sq;intro K U)|(apply si;intro A B Y Z)|(apply Y;clear Z B Y A)|(apply U;clear U K)|(intro nn hnn;generalize hg:A6 _ nn _=σ;refine CW hg fun hs=>?_;clear hg)|fail)<;>conv=>whnf)
 refine Bp ?_;refine(Xt p nO).use (rest:=[.box nn [.b false]]) (hs.perm (.swap _ _ _)) ?_;clear hs hnn;rintro r post σ hq hs;unfold vE at hq;cases h:BX p with
 | none=>
   rw[h]at hq;obtain⟨rfl,v,s,rfl⟩:=hq
   conv=>whnf
   repeat'((first|(refine Z _ _ _ ?_;clear Z B Y A)|clear U K)<;>conv=>whnf)
   refine fT (rest:=[.box nO [v],.own v 1 (iL s)]) (hs.perm Po) fun σ hs=>?_
   conv=>whnf
   repeat'((first|refine ld ?_|fail)<;>conv=>whnf)
   exact AR ⟨_,⟨by rw[h];rfl,v,s,rfl,.inl h⟩,hs.less (Jp _ _)⟩
 | some s=>
   rw[h]at hq;obtain⟨rfl,v,rfl⟩:=hq
   conv=>whnf
   repeat'((first|apply st|(apply sq;intro K U)|(apply si;intro A B Y Z)|(apply Y;clear Z B Y A)|(apply U;clear U K)|refine FB fun σ hs=>?_|fail)<;>conv=>whnf)
   replace hs:Sat σ ([.box nO [v],.own v 1 (iL s)]++[.box nn [.b true]]):=hs;refine fU (x:= .b true) (rest:=[.box nO [v],.own v 1 (iL s)]) (hs.perm Po) fun σ hs=>?_
   conv=>whnf
   repeat'((first|refine ld ?_|fail)<;>conv=>whnf)
   exact AR ⟨_,⟨by rw[h];rfl,v,s,rfl,.inr h⟩,hs.less (Jp _ _)⟩
def bF (p:Prog):Bj Tryz.prog 137 [.a (BV p)] [] fun r post=> ∃v s,r= .ret (.t [v,.b (BX p).isSome])∧post= [.own v 1 (iL s)]∧(BX p=none∨BX p=some s):=by
 intro σ hs;refine nA kZ ?_
 conv=>whnf
 repeat'((first|(apply sq;intro K U)|(apply si;intro A B Y Z)|(apply Y;clear Z B Y A)|(apply U;clear U K)|(intro nn hnn;generalize hg:A6 _ nn _=σ;refine CW hg fun hs=>?_;clear hg)|fail)<;>conv=>whnf)
 refine(YZ p nn).use (rest:=[]) (by simpa using hs) ?_;clear hs;rintro r post σ ⟨rfl,v,s,rfl,hl⟩ hs
 conv=>whnf
 repeat'((first|apply st|(apply sq;intro K U)|(apply si;intro A B Y Z)|(apply Y;clear Z B Y A)|(apply U;clear U K)|refine ld ?_|fail)<;>conv=>whnf)
 exact AR ⟨_,⟨v,s,rfl,rfl,hl⟩,hs.less (.cons _ (.cons₂ _ (LY _)))⟩
def cw (p:Prog):Pure Tryz.prog 107 [.a (BV p)] (eI (if(BX p).isSome then 0 else 2)):=by
 refine Pure.of ?_;have hz:=bF p;cases h:(BX p).isSome<;>rw[h]at hz
 all_goals
  refine nk kZ ?_;have hs:=Sn
  conv=>whnf
  repeat'((first|apply st|(apply sq;intro K U)|(apply si;intro A B Y Z)|(apply Y;clear Z B Y A)|(apply U;clear U K)|refine⟨kZ,?_⟩|fail)<;>conv=>whnf)
  refine hz.use (rest:=[]) (by simpa using hs) ?_;clear hs;rintro r post σ ⟨v,s,rfl,rfl,-⟩ hs
  conv=>whnf
  repeat'((first|apply st|(apply sq;intro K U)|(apply si;intro A B Y Z)|(apply Y;clear Z B Y A)|(apply U;clear U K)|refine E2 ?_|refine D2 ?_|clear U K)<;>conv=>whnf)
  exact AR rfl
def pc {p:Prog} (h:(BX p).isSome=true):Bu p.AP≤40:=by
 obtain⟨hh,-⟩:=Eo h;simp only[C0,BZ,CY]at hh;exact(K9 hh.1).2.1
def oR {p:Prog} (h:(BX p).isSome=true):p.AP.length≤10:=by
 obtain⟨hh,-⟩:=Eo h;simp only[C0,BZ,CY]at hh;exact(K9 hh.1).2.2
def No {p:Prog} (h:(BX p).isSome=true):CS (AM p):=by
 obtain⟨hh,-⟩:=Eo h;simp only[C0,BZ,CY]at hh;exact(K9 hh.1).1
def fv (p:Prog):Pure Tryz.prog 71 [.a (BV p)] (if(BX p).isSome then .t [.a (Aq (AM p)),eI 0]else .t [.a [.l [] true,.l [] true],eI 2]):=by
 have hz:=cw p;have hM:=Mx;cases h:(BX p).isSome<;>rw[h]at hz
 ·simp only[Lb,if_false]at hz ⊢
  refine gh kZ ?_;have hs:=Sn
  conv=>whnf
  repeat'((first|apply st|(apply sq;intro K U)|(apply si;intro A B Y Z)|(apply Y;clear Z B Y A)|(apply U;clear U K)|refine⟨rfl,?_⟩|refine⟨kZ,?_⟩|refine ld ?_|refine DB fun σ hs=>?_|refine hz.use ?_|(constructor<;>intro hc<;>(try rw[hc])<;>(replace hc:=bp hc)<;>try(exfalso;omega))|(intro nn hnn;generalize hg:A6 _ nn _=σ;refine CW hg fun hs=>?_;clear hg)|clear U K)<;>conv=>whnf)
  all_goals exact AI rfl
 ·simp only[if_true]at hz ⊢
  have hm:=pc h;have hc10:=oR h;refine gh kZ ?_;have hs:=Sn
  conv=>whnf
  repeat'((first|apply st|(apply sq;intro K U)|(apply si;intro A B Y Z)|(apply Y;clear Z B Y A)|(apply U;clear U K)|refine⟨rfl,?_⟩|refine⟨kZ,?_⟩|refine ld ?_|refine DB fun σ hs=>?_|refine hz.use ?_|refine Pure.use (Sy p (by omega) (by omega)) ?_|(constructor<;>intro hc<;>(try rw[hc])<;>(replace hc:=bp hc)<;>(try simp(disch:=omega) only[BD,wrap64,AL]at hc)<;>try(exfalso;omega))|(intro nn hnn;generalize hg:A6 _ nn _=σ;refine CW hg fun hs=>?_;clear hg)|fail)<;>conv=>whnf)
  all_goals exact AI rfl
end Go.Gl
namespace Go.Gl
open Go.Proofs
attribute [local irreducible] BL A5 Aj AW AN Ai AV AX AO Ah AS AU BA BK Sat Ad BH Al W
abbrev xl (p:Prog) (L:Nat):List V:=BV p++(Aq (AM p)++[.m L])
abbrev Fu (p:Prog) (L:Nat):V:= .rp (xl p L)
abbrev kM (x:Int×Int):V:= .a [eI x.1,eI x.2]
def FL (p:Prog) (M:List (Int×Int)):List (V×V):=M.map fun x=>(kM x,.b (Df p x.1 x.2))
def HX (p:Prog) (M:List (Int×Int)): ∀kv∈FL p M,Bt (.a [.i64,.i64]) kv.1=true:=by
 intro kv h;obtain⟨e,_,rfl⟩:=Lf.1 h;rfl
def gU (x y:Int×Int):EP (kM x) (kM y)=(x==y):=by
 obtain⟨a,b⟩:=x;obtain⟨c,d⟩:=y;have e:EP (kM (a,b)) (kM (c,d))=(a==c&&b==d):=by simp[EP,CQ,kM]
 rw[e];rfl
def OE (p:Prog) (x:Int×Int): ∀(M:List (Int×Int)),DH (kM x) (FL p M)=if M.contains x then some (.b (Df p x.1 x.2))else none
 | []=>rfl
 | y ::r=>by
   rw[FL,FC,DH,gU,List.contains_cons];cases h:x==y
   ·rw[cond_false,Bool.false_or]
    exact OE p x r
   ·rw[cond_true,Bool.true_or,if_pos rfl]
    have:x=y:=by simpa using h
    rw[this]
def Rr (p:Prog) (x:Int×Int): ∀(M:List (Int×Int)),M.contains x=false→EN (kM x) (.b (Df p x.1 x.2)) (FL p M)=FL p (M++[x])
 | [],_=>rfl
 | y::r,h=>by
   rw[List.contains_cons,Bool.or_eq_false_iff]at h;have ih:=Rr p x r h.2;simp only[FL]at ih;rw[FL,FC,EN,gU,h.1,cond_false,ih];rfl
def I3 (p:Prog):Bj Tryz.prog 42 [.a (BV p)] [] fun r post=>if(BX p).isSome then∃L,r= .ret (Fu p L)∧post= [.map L []]else r= .ret .pn∧post= []:=by
 intro σ hs;have hw:=fv p;cases h:(BX p).isSome<;>rw[h]at hw
 ·simp only[Lb,if_false]at hw ⊢
  refine gp kZ ?_
  conv=>whnf
  repeat'((first|apply st|(apply sq;intro K U)|(apply si;intro A B Y Z)|(apply Y;clear Z B Y A)|(apply U;clear U K)|refine⟨rfl,?_⟩|refine⟨kZ,?_⟩|refine DB fun σ hs=>?_|refine hw.use ?_|(constructor<;>intro hc<;>(try rw[hc])<;>(replace hc:=bp hc)<;>try(exfalso;omega))|(intro nn hnn;generalize hg:A6 _ nn _=σ;refine CW hg fun hs=>?_;clear hg)|clear U K)<;>conv=>whnf)
  exact AR ⟨_,⟨rfl,rfl⟩,hs.less (LY _)⟩
 ·simp only[if_true]at hw ⊢
  refine gp kZ ?_
  conv=>whnf
  repeat'((first|apply st|(apply sq;intro K U)|(apply si;intro A B Y Z)|(apply Y;clear Z B Y A)|(apply U;clear U K)|refine⟨rfl,?_⟩|refine⟨kZ,?_⟩|refine ld ?_|refine DB fun σ hs=>?_|refine hw.use ?_|(constructor<;>intro hc<;>(try rw[hc])<;>(replace hc:=bp hc)<;>(try simp(disch:=omega) only[BD,wrap64,AL]at hc)<;>try(exfalso;omega))|(intro nn hnn;generalize hg:A6 _ nn _=σ;refine CW hg fun hs=>?_;clear hg)|fail)<;>conv=>whnf)
  exact AR ⟨_,⟨nn,rfl,rfl⟩,hs.less (.cons₂ _ (LY _))⟩
def pq (p:Prog) (L:Nat) (m:Int):Pure Tryz.prog 73 [eI m,.rp [Fu p L]] (.b (!A7 p m)):=by
 refine qW kZ ?_;have hs:=Sn
 conv=>whnf
 repeat'((first|apply st|(apply sq;intro K U)|(apply si;intro A B Y Z)|(apply Y;clear Z B Y A)|(apply U;clear U K)|refine⟨rfl,?_⟩|(constructor<;>intro hc<;>(try rw[hc])<;>(replace hc:=bp hc))|fail)<;>conv=>whnf)
 ·refine AI ?_
  have e1:decide (0≤m)=true:=decide_eq_true hc;rw[A7,e1,Ey,BD];show V.b (decide (m≥(p.methods.length:Int)))=_;by_cases hl:m<(p.methods.length:Int)
  ·rw[decide_eq_true hl,decide_eq_false (by omega)];rfl
  ·rw[decide_eq_false hl,decide_eq_true (by omega)];rfl
 ·refine AI ?_
  rw[A7,decide_eq_false (by omega)];rfl
def NA {g:FuncId} {fi ca:List V} {f:Int→Bool} {xs:List Int} (b:Bool) (h: ∀y∈xs,Pure Tryz.prog g (fi++[eI y]++ca) (.b (f y))):Pure Tryz.prog 72 [.l (iL xs) b,.f (.func g) fi ca] (.b (xs.any f)):=by
 have:=GW g fi ca (fun _=>[]) (fun y (_:Unit)=>(f y,())) (fun y _=>y∈xs) (Of fun y hy=>h y hy) xs b () (G3 fun y hy _=>hy);rw[LC]at this;exact Pure.of (BL.mono (this emp Sat.nil) fun r σ' ⟨post,⟨h1,h2⟩,h3⟩=>h1)
def gW (p:Prog) (L:Nat) (l:List Int) (b:Bool):Pure Tryz.prog 43 [Fu p L,.l (iL l) b] (.b (l.all (A7 p))):=by
 have hc:=fun b=>NA (g:=73) (fi:=[]) (ca:=[.rp [Fu p L]]) (f:=fun m=> !A7 p m) (xs:=l) b fun y _=>pq p L y
 refine gm kZ ?_;have hs:=Sn
 conv=>whnf
 repeat'((first|apply st|(apply sq;intro K U)|(apply si;intro A B Y Z)|(apply Y;clear Z B Y A)|(apply U;clear U K)|refine Pure.use (hc _) ?_|fail)<;>conv=>whnf)
 all_goals exact AI (by rw[List.all_eq_not_any_not];rfl)
def Zx (l:List Int) (b:Bool):Pure Tryz.prog 43 [.pn,.l (iL l) b] (.b false):=by
 refine gm kZ ?_;have hs:=Sn
 conv=>whnf
 repeat'((first|apply st|(apply sq;intro K U)|(apply si;intro A B Y Z)|(apply Y;clear Z B Y A)|(apply U;clear U K)|refine D2 ?_|fail)<;>conv=>whnf)
 all_goals exact AI rfl
def NV (p:Prog) (L:Nat) (m n:Int) (hm:A7 p m=true) (hn:A7 p n=true):Pure Tryz.prog 44 [Fu p L,eI m,eI n] (.b (B3 p m n)):=by
 refine Pure.fit (by kernel_rfl) fun hf=>?_
 have hxm:=B0 hm;have hxn:=B0 hn;simp only[A7,BZ,CY]at hm hn;refine qm kZ ?_;have hs:=Sn
 conv=>whnf
 repeat'((first|apply st|(apply sq;intro K U)|(apply si;intro A B Y Z)|(apply Y;clear Z B Y A)|(apply U;clear U K)|apply dr|refine rk ?_ ?_|exact fun s e=>by cases e;rfl|refine⟨rfl,?_⟩|refine⟨kZ,?_⟩|refine FE ?_|refine ld ?_|refine DB fun σ hs=>?_|(constructor<;>intro hc<;>(try rw[hc])<;>(replace hc:=bp hc))|(intro nn hnn;generalize hg:A6 _ nn _=σ;refine CW hg fun hs=>?_;clear hg)|fail)<;>conv=>whnf)
 all_goals exact AI (by simp[B3, *])
set_option maxHeartbeats 1000000 in
def Qa (p:Prog) (L:Nat) (m n:Int) (hk:Dv p) (hgw:CS (AM p)) (hfm: ∀x∈p.methods,Cg (AM p) x.fact=true) (hm:A7 p m=true) (hn:A7 p n=true) (M:List (Int×Int)) :
    Bj Tryz.prog 54 [Fu p L,eI m,eI n] [.map L (FL p M)] fun r post=>r= .ret (.b (Df p m n))∧ ∃M',post= [.map L (FL p M')]:=by
 intro σ hs;have hxm:=B0 hm;have hxn:=B0 hn;have hmm:=B1 hxm;have hmn:=B1 hxn;have hip:=Q5 (AM p) hgw (BJ p m).fact (BJ p n).fact (hfm _ hmm) (hfm _ hmn) (hk.facts _ hmm).1 (hk.facts _ hmn).1 (by have:=(hk.facts _ hmm).2;have:=(hk.facts _ hmn).2;omega);simp only[A7,BZ,CY]at hm hn;have hfd:=OE p (m,n) M;refine gj kZ ?_;cases hc:M.contains (m,n)
 ·rw[hc,if_neg (by decide)]at hfd
  conv=>whnf
  repeat'((first|apply st|(apply sq;intro K U)|(apply si;intro A B Y Z)|(apply Y;clear Z B Y A)|(apply U;clear U K)|apply dr|refine⟨kZ,?_⟩|refine FE ?_|refine ld ?_|refine DB fun σ hs=>?_|refine E2 ?_|refine Lz hs 1 rfl rfl (HX _ _) hfd ?_|refine Hv hs 1 rfl rfl (HX _ _) fun σ hs=>?_|refine hip.use ?_|(intro nn hnn;generalize hg:A6 _ nn _=σ;refine CW hg fun hs=>?_;clear hg)|fail)<;>conv=>whnf)
  replace hs:Sat σ [.box nn [eI m,eI n],.map L (EN (kM (m,n)) (.b (Df p m n)) (FL p M))]:=hs;rw[Rr p (m,n) M hc]at hs;exact AR ⟨_,⟨rfl,_,rfl⟩,hs.less (Jp _ _)⟩
 ·rw[hc,if_pos rfl]at hfd
  conv=>whnf
  repeat'((first|apply st|(apply sq;intro K U)|(apply si;intro A B Y Z)|(apply Y;clear Z B Y A)|(apply U;clear U K)|apply dr|refine⟨kZ,?_⟩|refine ld ?_|refine DB fun σ hs=>?_|refine D2 ?_|refine Lz hs 1 rfl rfl (HX _ _) hfd ?_|(intro nn hnn;generalize hg:A6 _ nn _=σ;refine CW hg fun hs=>?_;clear hg)|fail)<;>conv=>whnf)
  exact AR ⟨_,⟨rfl,M,rfl⟩,hs.less (Jp _ _)⟩
def fq (p:Prog) (L:Nat) (m n:Int) (hk:Dv p) (hgw:CS (AM p)) (hfm: ∀x∈p.methods,Cg (AM p) x.fact=true) (hm:A7 p m=true) (hn:A7 p n=true) (M:List (Int×Int)) :
    Bj Tryz.prog 45 [Fu p L,eI m,eI n] [.map L (FL p M)] fun r post=>r= .ret (.b (Am p m n))∧ ∃M',post= [.map L (FL p M')]:=by
 intro σ hs;have h1:=fun M=>Qa p L m n hk hgw hfm hm hn M
 have h2:=fun M=>Qa p L n m hk hgw hfm hn hm M
 unfold Am;cases hb1:Df p m n<;>cases hb2:Df p n m<;>rw[hb1]at h1<;>rw[hb2]at h2
 all_goals
  refine gl kZ ?_
  conv=>whnf
  repeat'((first|(apply sq;intro K U)|(apply si;intro A B Y Z)|(apply Y;clear Z B Y A)|(apply U;clear U K)|fail)<;>conv=>whnf)
  refine(h1 M).use (rest:=[]) (by simpa using hs) ?_;clear hs;rintro r post σ ⟨rfl,M',rfl⟩ hs
  conv=>whnf
  repeat'((first|apply st|(apply Y;clear Z B Y A)|(apply U;clear U K)|fail)<;>conv=>whnf)
 ·exact AR ⟨_,⟨rfl,M',rfl⟩,hs⟩
 ·exact AR ⟨_,⟨rfl,M',rfl⟩,hs⟩
 all_goals
  refine(h2 M').use (rest:=[]) (by simpa using hs) ?_;clear hs;rintro r post σ ⟨rfl,M2,rfl⟩ hs
  conv=>whnf
  repeat'((first|apply st|(apply Y;clear Z B Y A)|(apply U;clear U K)|fail)<;>conv=>whnf)
  exact AR ⟨_,⟨rfl,M2,rfl⟩,hs⟩
def Kp {p:Prog} (h:(BX p).isSome=true): ∀x∈p.methods,Cg (AM p) x.fact=true:=fun x hx=>by
 have:=(Eo h).2 x hx;simp only[NY,BZ]at this;exact this.2.2.2.2.1
def R5 (p:Prog) (m n:Int):Pure Tryz.prog 12 [.a (BV p),eI m,eI n] (.t [.b (Hr p m n).1,eI (Hr p m n).2]):=by
 refine Pure.of ?_;have hr:=I3 p;refine qz kZ ?_;have hs:=Sn
 conv=>whnf
 repeat'((first|apply st|(apply sq;intro K U)|(apply si;intro A B Y Z)|(apply Y;clear Z B Y A)|(apply U;clear U K)|refine⟨kZ,?_⟩|fail)<;>conv=>whnf)
 refine hr.use (rest:=[]) (by simpa using hs) ?_;clear hs;cases h:(BX p).isSome
 ·have hh:=fun b=>Zx [m,n] b
  rintro r post σ ⟨rfl,rfl⟩ hs
  conv=>whnf
  repeat'((first|apply st|(apply sq;intro K U)|(apply si;intro A B Y Z)|(apply Y;clear Z B Y A)|(apply U;clear U K)|refine E2 ?_|refine Pure.use (hh _) ?_|clear U K)<;>conv=>whnf)
  exact AR (by simp[Hr,h])
 ·rintro r post σ ⟨L,rfl,rfl⟩ hs
  have hh:=fun b=>gW p L [m,n] b
  have hall: [m,n].all (A7 p)=(A7 p m&&A7 p n):=by simp
  rw[hall]at hh;cases hmn:A7 p m&&A7 p n<;>rw[hmn]at hh
  ·conv=>whnf
   repeat'((first|apply st|(apply sq;intro K U)|(apply si;intro A B Y Z)|(apply Y;clear Z B Y A)|(apply U;clear U K)|refine E2 ?_|refine Pure.use (hh _) ?_|clear U K)<;>conv=>whnf)
   exact AR (by simp only[Hr,h,hmn];rfl)
  ·obtain⟨hm,hn⟩:=Bool.and_eq_true_iff.1 hmn
   have ha:=NV p L m n hm hn;cases hal:B3 p m n<;>rw[hal]at ha
   ·conv=>whnf
    repeat'((first|apply st|(apply sq;intro K U)|(apply si;intro A B Y Z)|(apply Y;clear Z B Y A)|(apply U;clear U K)|refine E2 ?_|refine D2 ?_|refine Pure.use (hh _) ?_|refine ha.use ?_|clear U K)<;>conv=>whnf)
    exact AR (by simp only[Hr,h,hmn,hal];rfl)
   ·conv=>whnf
    repeat'((first|apply st|(apply sq;intro K U)|(apply si;intro A B Y Z)|(apply Y;clear Z B Y A)|(apply U;clear U K)|refine D2 ?_|refine Pure.use (hh _) ?_|refine ha.use ?_|fail)<;>conv=>whnf)
    refine(fq p L m n (look_ok h) (No h) (Kp h) hm hn []).use (rest:=[]) hs ?_;clear hs;rintro r post σ ⟨rfl,M,rfl⟩ hs
    conv=>whnf
    repeat'((first|apply st|(apply Y;clear Z B Y A)|(apply U;clear U K)|fail)<;>conv=>whnf)
    exact AR (by simp only[Hr,h,hmn,hal];rfl)
end Go.Gl
namespace Go.Gl
open Go.Proofs
def ZP {σ:AH} {α:Type} {enc:α→List V} {xs:List α} {f:Bool} {sz:Nat} {ki:IntKind} {j:Int} {K:V→AH→Prop} (h:K (.l ((xs.drop j.toNat).map enc) f) σ) (h0:0≤j) (h1:j≤xs.length) (hs: ∀x,(enc x).length=sz) :
    AV σ sz (.l (xs.map enc) f) (some (.i ki j)) none none K:=by
 unfold AV;refine⟨fun e he=>?_,?_⟩
 ·obtain⟨x,_,rfl⟩:=Lf.1 he
  exact hs x
 ·simp only[ND,BD]
  refine⟨by omega,by omega,by omega,?_⟩;rw[List.take_of_length_le (by simp)];simpa[List.map_drop]using h
attribute [local irreducible] BL A5 Aj AW AN Ai AV AX AO Ah AS AU BA BK Sat Ad BH Al W
abbrev oh (T:List (List Bool)):V:= .l (T.map fun r=>[.l (bL r) false]) false
def Dp (T:List (List Bool)) (m n:Int):Bool:=(T.getD m.toNat []).getD n.toNat false
structure JX (T:List (List Bool)) (l:List Int):Prop where
 len:T.length≤16
 sq: ∀r∈T,r.length=T.length
 ins: ∀x∈l,0≤x∧x<(T.length:Int)
 many:l.length≤16
def gG {T:List (List Bool)} {l:List Int} (h:JX T l) {m n:Int} (hm:0≤m∧m<(T.length:Int)) (hn:0≤n∧n<(T.length:Int)): ∃r,T[m.toNat]? =some r∧r[n.toNat]? =some (Dp T m n):=by
 have h1:m.toNat<T.length:=by omega
 refine⟨T[m.toNat],Ct h1,?_⟩;have h2:=h.sq T[m.toNat] (List.getElem_mem h1);have h3:n.toNat<T[m.toNat].length:=by omega
 rw[Ct h3];simp only[Dp,DK,Ct h1,Option.getD_some,Ct h3]
def Oa (l:List Int) (f:Bool) (i:Nat) (ha:i<l.length) (hl:l.length≤16):Pure Tryz.prog 134 [.l (iL l) f,eI (i:Int)] (.l (iL (l.eraseIdx i)) false):=by
 have hM:=Mx;refine nD kZ ?_;have hs:=Sn
 conv=>whnf
 repeat'((first|(apply sq;intro K U)|(apply si;intro A B Y Z)|(apply Y;clear Z B Y A)|(apply U;clear U K)|apply dr|refine⟨rfl,?_⟩|refine vF ?_|(rw[wrap64 (by omega) (by omega)];refine ZP ?_ (by omega) (by omega) fun _=>rfl)|fail)<;>conv=>whnf)
 replace hs:=EM hs 1;refine HN hs 0 (xs:=[]) (ys:=l.take (i:Int).toNat) rfl (by simp;omega) Bq fun v σ hs=>?_
 conv=>whnf
 repeat'((first|apply dr|fail)<;>conv=>whnf)
 refine HN hs 0 (xs:=[]++l.take (i:Int).toNat) (ys:=l.drop ((i:Int)+1).toNat) rfl (by simp;omega) Bq fun v σ hs=>?_
 conv=>whnf
 repeat'((first|apply st|(apply Y;clear Z B Y A)|(apply U;clear U K)|apply dr|fail)<;>conv=>whnf)
 have e: []++l.take (i:Int).toNat++l.drop ((i:Int)+1).toNat=l.eraseIdx i:=by
  rw[List.eraseIdx_eq_take_drop_succ,List.nil_append,IT,show((i:Int)+1).toNat=i+1 by omega]
 rw[e]at hs;exact BO (hs.MV 0 rfl)
def Gu (A:Int→Int→Bool) (l:List Int) (i k:Nat):Bool:=(List.range k).all fun j=>j==i||A (l.getD i 0) (l.getD j 0)
def Ea (A:Int→Int→Bool) (l:List Int):Option Nat:=(List.range l.length).find? fun i=>Gu A l i l.length
def L0 (A:Int→Int→Bool) (l:List Int):Int:=match Ea A l with|some i=>i|none=> -1
def QA (A:Int→Int→Bool) (l:List Int) (i k:Nat):Gu A l i (k+1)=(Gu A l i k&&(k==i||A (l.getD i 0) (l.getD k 0))):=by
 rw[Gu,List.range_succ,List.all_append,Gu];simp
def CP {l:List Int} {k:Nat} {x:Int} (h:l[k]? =some x):l.getD k 0=x:=by rw[DK,h];rfl
def Yc {A:Int→Int→Bool} {l:List Int} {i:Nat} (h:Ea A l=some i):i<l.length:=by
 have:=List.mem_of_find?_eq_some h;simpa using this
def cC {A:Int→Int→Bool} {l:List Int} {i:Nat} (hi:i<l.length) (h:Gu A l i l.length=true) (hn: ∀j,j<i→Gu A l j l.length=false):L0 A l=i:=by
 have:Ea A l=some i:=by
  rw[Ea,List.find?_range_eq_some];exact⟨h,List.mem_range.2 hi,fun j hj=>by rw[hn j hj];rfl⟩
 rw[L0,this]
def Ve {A:Int→Int→Bool} {l:List Int} (hn: ∀j,j<l.length→Gu A l j l.length=false):L0 A l= -1:=by
 have:Ea A l=none:=by
  rw[Ea,List.find?_range_eq_none];exact fun j hj=>by rw[hn j hj];rfl
 rw[L0,this]
set_option maxHeartbeats 1000000 in
def cD (T : List (List Bool)) (l:List Int) (f:Bool) (h:JX T l):Pure Tryz.prog 133 [oh T,.l (iL l) f] (eI (L0 (Dp T) l)):=by
 have hM:=Mx;have hm:=h.many;have hT:=h.len;refine nE kZ ?_;have hs:=Sn
 conv=>whnf
 repeat'((first|apply st|(apply sq;intro K U)|(apply si;intro A B Y Z)|(apply Y;clear Z B Y A)|(apply U;clear U K)|fail)<;>conv=>whnf)
 refine B4 l.length (fun i (_:Unit)=>[(5,eI (A3 i))]) (fun _ _=>[]) (fun i _=> ∀j,j<i→Gu (Dp T) l j l.length=false) () rfl (fun j hj=>by omega) hs ?_;clear hs;rintro i - σ hi hn hs;rcases BE l hi with⟨x,hx,hlt⟩|hie
 ·have hxi:=h.ins x (B1 hx)
  conv=>whnf
  repeat'((first|apply st|(apply sq;intro K U)|(apply si;intro A B Y Z)|(apply Y;clear Z B Y A)|(apply U;clear U K)|refine⟨rfl,?_⟩|(refine CA (fun hc=>?_)<;>(try rw[hc])<;>clear hc)|fail)<;>conv=>whnf)
  refine B4 l.length (fun k (b:Bool)=>[(6,.b b),(7,eI (A3 k))]) (fun _ _=>[]) (fun k b=>b=Gu (Dp T) l i k) true rfl rfl hs ?_;clear hs;rintro k b σ hk hb hs;rcases BE l hk with⟨y,hy,hklt⟩|hke
  ·have hyi:=h.ins y (B1 hy)
   obtain⟨r,hr,hry⟩:=gG h hxi hyi;have hsu:=QA (Dp T) l i k;rw[CP hx,CP hy,←hb]at hsu;have hci:A3 i=i:=AL (by omega);have hck:A3 k=k:=AL (by omega);have hrl:=h.sq r (B1 hr);cases b
   ·conv=>whnf
    repeat'((first|apply st|(apply sq;intro K U)|(apply si;intro A B Y Z)|(apply Y;clear Z B Y A)|(apply U;clear U K)|apply dr|refine⟨rfl,?_⟩|(refine CA (fun hc=>?_)<;>(try rw[hc])<;>clear hc)|clear U K)<;>conv=>whnf)
    exact⟨hklt,false,rfl,(hsu.trans (by simp)).symm,hs⟩
   ·by_cases hki:k=i
    ·conv=>whnf
     repeat'((first|apply st|(apply sq;intro K U)|(apply si;intro A B Y Z)|(apply Y;clear Z B Y A)|(apply U;clear U K)|apply dr|refine⟨rfl,?_⟩|(refine CA (fun hc=>?_)<;>(try rw[hc])<;>clear hc)|(constructor<;>intro hc<;>(try rw[hc])<;>(replace hc:=bp hc)<;>(try simp(disch:=omega) only[BD,wrap64,AL]at hc)<;>try(exfalso;omega))|clear U K)<;>conv=>whnf)
     exact⟨hklt,true,rfl,(hsu.trans (by simp[hki])).symm,hs⟩
    ·conv=>whnf
     repeat'((first|apply st|(apply sq;intro K U)|(apply si;intro A B Y Z)|(apply Y;clear Z B Y A)|(apply U;clear U K)|apply dr|refine⟨rfl,?_⟩|refine ix ?_|refine FE ?_|(refine CA (fun hc=>?_)<;>(try rw[hc])<;>clear hc)|(constructor<;>intro hc<;>(try rw[hc])<;>(replace hc:=bp hc)<;>(try simp(disch:=omega) only[BD,wrap64,AL]at hc)<;>try(exfalso;omega))|clear U K)<;>conv=>whnf)
     exact⟨hklt,Dp T x y,rfl,(hsu.trans (by simp[hki])).symm,hs⟩
  ·conv=>whnf
   repeat'((first|apply st|(apply sq;intro K U)|(apply si;intro A B Y Z)|(apply Y;clear Z B Y A)|(apply U;clear U K)|refine⟨rfl,?_⟩|(refine DU (fun hc=>?_)<;>(try rw[hc])<;>clear hc)|(constructor<;>intro hc<;>(try rw[hc])<;>(replace hc:=bp hc))|clear U K)<;>conv=>whnf)
   ·exact AI (by rw[cC hlt (by rw[←hke,←hb,hc]) hn,AL (by omega)])
   ·refine⟨hlt,(),rfl,fun j hj=>?_,hs⟩
    rcases Nat.lt_or_ge j i with h'|h'
    ·exact hn j h'
    ·rw[show j=i by omega,←hke,←hb,hc]
 ·conv=>whnf
  repeat'((first|apply st|(apply sq;intro K U)|(apply si;intro A B Y Z)|(apply Y;clear Z B Y A)|(apply U;clear U K)|refine⟨rfl,?_⟩|(refine DU (fun hc=>?_)<;>(try rw[hc])<;>clear hc)|clear U K)<;>conv=>whnf)
  exact AI (by rw[Ve fun j hj=>hn j (by omega)])
def Bk (A:Int→Int→Bool):Nat→List Int→List Int×Bool
 | 0,_=>([],false)
 | k+1,l=>match Ea A l with
   | none=>([],!l.isEmpty)
   | some i=>(l.getD i 0::(Bk A k (l.eraseIdx i)).1,(Bk A k (l.eraseIdx i)).2)
def JX.less {T:List (List Bool)} {l:List Int} (h:JX T l) (i:Nat):JX T (l.eraseIdx i):=
 ⟨h.len,h.sq,fun x hx=>h.ins x (List.mem_of_mem_eraseIdx hx),Nat.le_trans (List.length_eraseIdx_le _ _) h.many⟩
set_option maxHeartbeats 1000000 in
def Ti (T:List (List Bool)) (l:List Int) (f:Bool) (h:JX T l):Pure Tryz.prog 100 [oh T,.l (iL l) f] (.t [.l (iL (Bk (Dp T) l.length l).1) false,.b (Bk (Dp T) l.length l).2]):=by
 have hM:=Mx;refine ny kZ ?_;have hs:=Sn
 conv=>whnf
 repeat'((first|apply st|(apply sq;intro K U)|(apply si;intro A B Y Z)|(apply Y;clear Z B Y A)|(apply U;clear U K)|fail)<;>conv=>whnf)
 refine ED (fun(x:List Int×Bool×V×List Int)=>x.1.length) (fun x=>[(1,.l (iL x.1) x.2.1),(6,x.2.2.1)]) (fun x=>[.own x.2.2.1 1 (iL x.2.2.2)])
  (fun x=>JX T x.1∧x.2.2.2.length+x.1.length≤16∧Bk (Dp T) l.length l=(x.2.2.2++(Bk (Dp T) x.1.length x.1).1,(Bk (Dp T) x.1.length x.1).2)) (l,f,.l [] true,[]) rfl ⟨h,by simpa using h.many,by simp⟩ (EM hs 1) ?_
 clear hs;rintro⟨l',f',v,out⟩ σ ⟨ho,hlen,hm⟩ hs;dsimp only at ho hlen hm hs;dsimp only;have c1:=cD T l' f' ho;have hll:out.length<Ac∧(out.length+1)*8≤140737488355328:=by omega
 by_cases hz:l'.length=0
 ·conv=>whnf
  repeat'((first|apply st|(apply sq;intro K U)|(apply si;intro A B Y Z)|(apply Y;clear Z B Y A)|(apply U;clear U K)|refine⟨rfl,?_⟩|(constructor<;>intro hc<;>(try rw[hc])<;>(replace hc:=bp hc)<;>(try simp(disch:=omega) only[BD,wrap64,AL]at hc)<;>try(exfalso;omega))|clear U K)<;>conv=>whnf)
  rw[hz]at hm;simp only[Bk,Hj]at hm;rw[hm];exact BO (.t (.cons (hs.MV 0 rfl) (.cons (.refl _) .nil)))
 ·rw[L0]at c1
  obtain⟨n,hn⟩: ∃n,l'.length=n+1:=⟨l'.length - 1,by omega⟩
  have hne:l'.isEmpty=false:=by cases l' with
   | nil=>simp at hz
   | cons=>rfl
  rw[hn,Bk]at hm;cases hfo:Ea (Dp T) l' with
  | none=>
    rw[hfo]at c1 hm;dsimp only at c1 hm
    conv=>whnf
    repeat'((first|apply st|(apply sq;intro K U)|(apply si;intro A B Y Z)|(apply Y;clear Z B Y A)|(apply U;clear U K)|refine⟨rfl,?_⟩|refine c1.use ?_|(constructor<;>intro hc<;>(try rw[hc])<;>(replace hc:=bp hc)<;>(try simp(disch:=omega) only[BD,wrap64,AL]at hc)<;>try(exfalso;omega))|clear U K)<;>conv=>whnf)
    rw[hm,hne,Hj];exact BO (.t (.cons (hs.MV 0 rfl) (.cons (.refl _) .nil)))
  | some i=>
    rw[hfo]at c1 hm;dsimp only at c1 hm;have hi:=Yc hfo;have c2:=Oa l' f' i hi ho.many;obtain⟨x,hx⟩: ∃x,l'[i]? =some x:=⟨_,Ct hi⟩
    have hel:=List.length_eraseIdx_of_lt hi;rw[CP hx]at hm
    conv=>whnf
    repeat'((first|apply st|(apply sq;intro K U)|(apply si;intro A B Y Z)|(apply Y;clear Z B Y A)|(apply U;clear U K)|refine⟨rfl,?_⟩|refine FE ?_|refine aq fun v σ hs hsl=>?_|refine c1.use ?_|refine c2.use ?_|(constructor<;>intro hc<;>(try rw[hc])<;>(replace hc:=bp hc)<;>(try simp(disch:=omega) only[BD,wrap64,AL]at hc)<;>try(exfalso;omega))|clear U K)<;>conv=>whnf)
    refine⟨(l'.eraseIdx i,false,v,out++[x]),by dsimp only;omega,rfl,⟨ho.less i,by simp;omega,?_⟩,hs⟩;dsimp only;rw[hm,hel,show l'.length - 1=n by omega];simp
end Go.Gl
namespace Go.Gl
open Go.Proofs
def jx {b:Nat} {σ:AH} {l:List At} (h:Sat σ l) (i j:Nat) {v:V} {n len cap off ln sz:Nat} {es ys:List (List V)} {K:V→AH→Prop} (hi:l[i]? =some (.own v sz es)) (hj:l[j]? =some (.own (.sl n len cap) sz ys)) (hle:off+ln≤ys.length) (hl:es.length+ln≤Ac∧(es.length+ln)*b≤140737488355328) (hys: ∀e∈ys,e.length=sz) (ho: ∀e∈ys,∀v∈e,De v=true)
    (hk: ∀v' σ',Sat σ' (l.set i (.own v' sz (es++(ys.drop off).take ln)))→K v' σ'):AN b σ sz v (.sv n sz off ln) K:=by
 have hlen:((ys.drop off).take ln).length=ln:=by rw[LZ,hZ];omega
 have hm: ∀e∈(ys.drop off).take ln,e∈ys:=fun e he=>List.mem_of_mem_drop (List.mem_of_mem_take he)
 have Y:AN b σ sz v (.l ((ys.drop off).take ln) true) K:=hAppend h i hi (by rw[hlen];exact hl) (fun e he=>hys e (hm e he)) (fun e he=>ho e (hm e he)) hk;rcases h.get hj with⟨e1,hel⟩|⟨n',cap',e1,hn⟩
 ·cases e1
 ·cases e1
  unfold AN at Y ⊢;simp only[rowsOf]at Y ⊢;rw[hn];refine⟨?_,?_,hle,Y.2⟩<;>first|trivial|rfl
def NP {b:Nat} {σ:AH} {l:List At} (h:Sat σ l) (i j:Nat) {α:Type} {enc:α→List V} {xs ys:List α} {v:V} {n len cap off ln sz:Nat} {K:V→AH→Prop} (hi:l[i]? =some (.own v sz (xs.map enc))) (hj:l[j]? =some (.own (.sl n len cap) sz (ys.map enc))) (hle:off+ln≤ys.length) (hl:xs.length+ln≤Ac∧(xs.length+ln)*b≤140737488355328) (hg:EO enc sz)
    (hk: ∀v' σ',Sat σ' (l.set i (.own v' sz ((xs++(ys.drop off).take ln).map enc)))→K v' σ'):AN b σ sz v (.sv n sz off ln) K:=
 jx h i j hi hj (by simpa using hle) (by simpa using hl) (Cn hg ys).1 (Cn hg ys).2 fun v' σ' hs=>hk v' σ' (by simpa[List.map_take,List.map_drop]using hs)
def IF {b sz:Nat} {σ:AH} {v y:V} {K:V→AH→Prop} (hv:(B6 v).isSome=true) (h:AN b σ sz v y fun v' σ'=>(B6 v').isSome=true→K v' σ'):AN b σ sz v y K:=by
 obtain⟨n,l,c,rfl⟩:=ZQ hv;unfold AN at h ⊢;refine Er h fun ys h=>⟨h.1,?_⟩
 have h2:=h.2;dsimp only at h2 ⊢;cases hn:σ n with
 | none=>rw[hn]at h2;exact h2
 | some o=>
   rw[hn]at h2;cases o with
   | arr s es c'=>exact⟨h2.1,h2.2.1,h2.2.2.1,h2.2.2.2.1,fun n' cap' h3 h4=>h2.2.2.2.2 n' cap' h3 h4 rfl⟩
   | _=>exact h2
def jK {σ:AH} {l:List At} (h:Sat σ l) {i:Nat} {v:V} {sz:Nat} {es:List (List V)} (hi:l[i]? =some (.own v sz es)) (hv:(B6 v).isSome=true): ∃n cp,v= .sl n es.length cp:=by
 rcases h.get hi with⟨e,_⟩|⟨n,cp,e,_⟩
 ·rw[e]at hv;cases hv
 ·exact⟨n,cp,e⟩
attribute [local irreducible] BL A5 Aj AW AN Ai AV AX AO Ah AS AU BA BK Sat Ad BH Al W
def G0 (x:Int) (out:List Int):List Int:=out.takeWhile (fun y=>decide (y<x))++x::out.dropWhile (fun y=>decide (y<x))
def Cw (l:List Int):List Int:=l.foldl (fun out x=>G0 x out) []
def K6 (x:Int) (out:List Int):(G0 x out).length=out.length+1:=by
 have:=congrArg List.length (List.takeWhile_append_dropWhile (p:=fun y=>decide (y<x)) (l:=out));rw[PR]at this;rw[G0,PR,La];omega
def Ru {x:Int} {out:List Int} {k:Nat} (h1:out.takeWhile (fun y=>decide (y<x))=out.take k++(out.drop k).takeWhile (fun y=>decide (y<x))) (h2:(out.drop k).takeWhile (fun y=>decide (y<x))= []) (hk:k≤out.length):G0 x out=out.take k++x::out.drop k:=by
 rw[h2,Hj]at h1;have:=List.takeWhile_append_dropWhile (p:=fun y=>decide (y<x)) (l:=out);rw[h1]at this
 have e:out.dropWhile (fun y=>decide (y<x))=out.drop k:=by
  have h3:out.take k++out.dropWhile (fun y=>decide (y<x))=out.take k++out.drop k:=by rw[this,List.take_append_drop]
  exact List.append_cancel_left h3
 rw[G0,h1,e]
set_option maxHeartbeats 4000000 in
def im (l : List Int) (f:Bool) (hl:l.length≤16):Pure Tryz.prog 38 [.l (iL l) f] (.l (iL (Cw l)) false):=by
 have hM:=Mx;refine qn kZ ?_;have hs:=Sn
 conv=>whnf
 repeat'((first|apply st|(apply sq;intro K U)|(apply si;intro A B Y Z)|(apply Y;clear Z B Y A)|(apply U;clear U K)|fail)<;>conv=>whnf)
 refine B4 l.length (fun i (x:V×List Int)=>[(3,x.1),(4,eI (A3 i))]) (fun _ x=>[.own x.1 1 (iL x.2)]) (fun i x=>x.2=Cw (l.take i)∧x.2.length=i∧(i=0→x.1= .l [] true)∧(1≤i→(B6 x.1).isSome=true)) (.l [] true,[]) rfl ⟨rfl,rfl,fun _=>rfl,fun h=>by omega⟩ (EM hs 1) ?_;clear hs;rintro i ⟨v,out⟩ σ hi ⟨ho,hol,h0,h1⟩ hs;dsimp only at ho hol h0 h1 hs;dsimp only;rcases BE l hi with⟨z,hz,hlt⟩|hie
 ·have hsr:Cw (l.take (i+1))=G0 z out:=by rw[AQ hz,Cw,List.foldl_append,ho];rfl
  conv=>whnf
  repeat'((first|apply st|(apply sq;intro K U)|(apply si;intro A B Y Z)|(apply Y;clear Z B Y A)|(apply U;clear U K)|refine⟨rfl,?_⟩|(refine CA (fun hc=>?_)<;>(try rw[hc])<;>clear hc)|fail)<;>conv=>whnf)
  refine ED (fun k:Nat=>out.length - k) (fun k=>[(5,eI (A3 k))]) (fun _=>[.own v 1 (iL out)]) (fun k=>k≤out.length∧out.takeWhile (fun y=>decide (y<z))=out.take k++(out.drop k).takeWhile (fun y=>decide (y<z))) 0 rfl ⟨Nat.zero_le _,rfl⟩ hs ?_;clear hs;rintro k σ ⟨hk,htw⟩ hs;have hck:A3 k=k:=AL (by omega);by_cases hi0:i=0
  ·obtain rfl:=h0 hi0
   have hins:=Ru htw (by rw[Ag (by omega)];rfl) hk
   conv=>whnf
   repeat'((first|apply st|(apply sq;intro K U)|(apply si;intro A B Y Z)|(apply Y;clear Z B Y A)|(apply U;clear U K)|apply dr|refine⟨rfl,?_⟩|refine ix ?_|refine vF (xs:=([]:List Int)) (enc:=fun x:Int=>[eI x]) ?_ (by omega) (by simp;omega) (fun _=>rfl)|refine ZP (xs:=([]:List Int)) (enc:=fun x:Int=>[eI x]) ?_ (by omega) (by simp;omega) (fun _=>rfl)|(constructor<;>intro hc<;>(try rw[hc])<;>(replace hc:=bp hc)<;>(try simp(disch:=omega) only[BD,wrap64,AL]at hc))|clear U K)<;>conv=>whnf)
   ·exfalso
    simp at hc;omega
   replace hs:=Cx hs 1;refine HN hs 0 (xs:=[]) (ys:=List.take (A3 k).toNat []) rfl (by simp) Bq fun v1 σ hs=>?_
   conv=>whnf
   repeat'((first|apply dr|refine rk ?_ ?_|exact fun s e=>by cases e;rfl|refine aq fun v σ hs hsl=>?_|refine ZP (xs:=([]:List Int)) (enc:=fun x:Int=>[eI x]) ?_ (by omega) (by simp;omega) (fun _=>rfl)|fail)<;>conv=>whnf)
   refine IF (by assumption) (HN hs 0 (xs:=([]++List.take (A3 k).toNat [])++[z]) (ys:=List.drop (A3 k).toNat []) rfl (by simp[Ac]) Bq fun v1 σ hs hsl=>?_)
   conv=>whnf
   repeat'((first|(apply si;intro A B Y Z)|(apply Y;clear Z B Y A)|(apply U;clear U K)|apply dr|refine⟨rfl,?_⟩|clear U K)<;>conv=>whnf)
   refine⟨hlt,(v1,G0 z out),rfl,⟨hsr.symm,by rw[K6];omega,fun h=>by omega,fun _=>hsl⟩,?_⟩;have ho0:out= []:=cz.1 (by omega);rw[hins,ho0];simp at hs ⊢;exact hs.less (.cons₂ _ (LY _))
  ·obtain⟨n,cp,rfl⟩:=jK hs (i:=0) rfl (h1 (by omega))
   have hlen:(iL out).length=out.length:=BD _;rcases BE out hk with⟨y,hy,hklt⟩|hke
   ·conv=>whnf
    repeat'((first|apply st|(apply sq;intro K U)|(apply si;intro A B Y Z)|(apply Y;clear Z B Y A)|(apply U;clear U K)|apply dr|refine⟨rfl,?_⟩|refine ix ?_|refine lo ?_|refine oi ?_|refine ol fun x hx=>?_|(refine CA (fun hc=>?_)<;>(try rw[hc])<;>clear hc)|refine iN ?_|refine ZE ?_|(constructor<;>intro hc<;>(try rw[hc])<;>(replace hc:=bp hc))|clear U K)<;>conv=>whnf)
    all_goals
     rw[hck,IT,hy]at hx;obtain rfl:=Option.some.inj hx
    ·refine⟨k+1,by omega,rfl,⟨by omega,?_⟩,hs⟩
     rw[htw,drop_cons hy,List.takeWhile_cons,if_pos (by simpa using hc),AQ hy];simp
    have hins:=Ru htw (by rw[drop_cons hy,List.takeWhile_cons,if_neg (by simpa using hc)]) hk;replace hs:=Cx hs 1;refine NP hs 0 1 (xs:=[]) (ys:=out) rfl rfl (by omega) (by simp;omega) Bq fun v1 σ hs=>?_
    conv=>whnf
    repeat'((first|apply dr|refine rk ?_ ?_|exact fun s e=>by cases e;rfl|refine aq fun v σ hs hsl=>?_|refine ZE ?_|fail)<;>conv=>whnf)
    refine IF (by assumption) (NP hs 0 1 (xs:=([]++(out.drop 0).take (A3 k).toNat)++[z]) (ys:=out) rfl rfl (by omega) (by simp;omega) Bq fun v1 σ hs hsl=>?_)
    conv=>whnf
    repeat'((first|(apply si;intro A B Y Z)|(apply Y;clear Z B Y A)|(apply U;clear U K)|apply dr|refine⟨rfl,?_⟩|clear U K)<;>conv=>whnf)
    refine⟨hlt,(v1,G0 z out),rfl,⟨hsr.symm,by rw[K6];omega,fun h=>by omega,fun _=>hsl⟩,?_⟩;rw[hins]
    have e:([]++(out.drop 0).take (A3 k).toNat)++[z]++(out.drop (A3 k).toNat).take (((iL out).length:Int) - A3 k).toNat=out.take k++z::out.drop k:=by
     have e1:(out.drop k).take (((iL out).length:Int) - A3 k).toNat=out.drop k:=List.take_of_length_le (by rw[hZ];omega);rw[show(A3 k).toNat=k by omega,e1];simp
    rw[e]at hs;exact hs.less (.cons₂ _ (LY _))
   ·have hins:=Ru htw (by rw[Ag hke];rfl) hk
    conv=>whnf
    repeat'((first|apply st|(apply sq;intro K U)|(apply si;intro A B Y Z)|(apply Y;clear Z B Y A)|(apply U;clear U K)|apply dr|refine⟨rfl,?_⟩|refine ix ?_|refine lo ?_|(refine DU (fun hc=>?_)<;>(try rw[hc])<;>clear hc)|refine iN ?_|refine ZE ?_|clear U K)<;>conv=>whnf)
    replace hs:=Cx hs 1;refine NP hs 0 1 (xs:=[]) (ys:=out) rfl rfl (by omega) (by simp;omega) Bq fun v1 σ hs=>?_
    conv=>whnf
    repeat'((first|apply dr|refine rk ?_ ?_|exact fun s e=>by cases e;rfl|refine aq fun v σ hs hsl=>?_|refine ZE ?_|fail)<;>conv=>whnf)
    refine IF (by assumption) (NP hs 0 1 (xs:=([]++(out.drop 0).take (A3 k).toNat)++[z]) (ys:=out) rfl rfl (by omega) (by simp;omega) Bq fun v1 σ hs hsl=>?_)
    conv=>whnf
    repeat'((first|(apply si;intro A B Y Z)|(apply Y;clear Z B Y A)|(apply U;clear U K)|apply dr|refine⟨rfl,?_⟩|clear U K)<;>conv=>whnf)
    refine⟨hlt,(v1,G0 z out),rfl,⟨hsr.symm,by rw[K6];omega,fun h=>by omega,fun _=>hsl⟩,?_⟩;rw[hins]
    have e:([]++(out.drop 0).take (A3 k).toNat)++[z]++(out.drop (A3 k).toNat).take (((iL out).length:Int) - A3 k).toNat=out.take k++z::out.drop k:=by
     have e1:(out.drop k).take (((iL out).length:Int) - A3 k).toNat=out.drop k:=List.take_of_length_le (by rw[hZ];omega);rw[show(A3 k).toNat=k by omega,e1];simp
    rw[e]at hs;exact hs.less (.cons₂ _ (LY _))
 ·conv=>whnf
  repeat'((first|apply st|(apply sq;intro K U)|(apply si;intro A B Y Z)|(apply Y;clear Z B Y A)|(apply U;clear U K)|refine⟨rfl,?_⟩|(refine DU (fun hc=>?_)<;>(try rw[hc])<;>clear hc)|clear U K)<;>conv=>whnf)
  rw[hie,List.take_length]at ho;rw[←ho];exact BO (hs.MV 0 rfl)
end Go.Gl
namespace Go.Gl
open Go.Proofs
attribute [local irreducible] BL A5 Aj AW AN Ai AV AX AO Ah AS AU BA BK Sat Ad BH Al W
def Jr (A:Int→Int→Bool) (l:List Int) (i k:Nat):Bool:=(List.range k).all fun j=> !A (l.getD j 0) (l.getD i 0)
def Ln (A:Int→Int→Bool) (l:List Int):Option Nat:=(List.range l.length).find? fun i=>Jr A l i l.length
def DM (A:Int→Int→Bool):Nat→List Int→List Int
 | 0,_=>[]
 | k+1,l=>l.getD ((Ln A l).getD 0) 0::DM A k (l.eraseIdx ((Ln A l).getD 0))
def YB (A:Int→Int→Bool) (l:List Int) (i k:Nat):Jr A l i (k+1)=(Jr A l i k&& !A (l.getD k 0) (l.getD i 0)):=by
 rw[Jr,List.range_succ,List.all_append,Jr];simp
def u1 (p:Nat→Bool) (n:Nat) (i a:Int):Prop:=(a=0∧ ∀t:Nat,i<t→t<n→p t=false)∨ ∃b:Nat,a=b∧i<b∧b<n∧p b=true∧ ∀t:Nat,i<t→t<b→p t=false
def fP {p:Nat→Bool} {n:Nat} {a:Int} (h:u1 p n (-1) a):a=(((List.range n).find? p).getD 0:Nat):=by
 rcases h with⟨h1,h2⟩|⟨b,h1,-,h3,h4,h5⟩
 ·rw[List.find?_range_eq_none.2 fun t ht=>by rw[h2 t (by omega) ht];rfl]
  exact h1
 ·rw[List.find?_range_eq_some.2 ⟨h4,List.mem_range.2 h3,fun t ht=>by rw[h5 t (by omega) ht];rfl⟩]
  exact h1
def cG {p:Nat→Bool} {n:Nat} {i:Nat} {a:Int} (h:u1 p n i a) (hi:i<n):u1 p n ((i:Int) - 1) (if p i then(i:Int)else a):=by
 cases hp:p i
 ·rw[if_neg (by decide)]
  rcases h with⟨h1,h2⟩|⟨b,h1,h2,h3,h4,h5⟩
  ·refine .inl ⟨h1,fun t ht hn=>?_⟩
   by_cases e:t=i
   ·rw[e];exact hp
   ·exact h2 t (by omega) hn
  ·refine .inr ⟨b,h1,by omega,h3,h4,fun t ht hb=>?_⟩
   by_cases e:t=i
   ·rw[e];exact hp
   ·exact h5 t (by omega) hb
 ·rw[if_pos rfl]
  exact .inr ⟨i,rfl,by omega,hi,hp,fun t h1 h2=>by omega⟩
set_option maxHeartbeats 4000000 in
def Qu (T : List (List Bool)) (l:List Int) (f:Bool) (h:JX T (Cw l)) (hl16:l.length≤16):Pure Tryz.prog 106 [oh T,.l (iL l) f] (.l (iL (DM (Dp T) (Cw l).length (Cw l))) false):=by
 have hM:=Mx;have c1:=im l f hl16;refine np kZ ?_;have hs:=Sn
 conv=>whnf
 repeat'((first|apply st|(apply sq;intro K U)|(apply si;intro A B Y Z)|(apply Y;clear Z B Y A)|(apply U;clear U K)|refine c1.use ?_|fail)<;>conv=>whnf)
 clear c1
 refine ED (fun(x:List Int×Bool×V×List Int)=>x.1.length) (fun x=>[(1,.l (iL x.1) x.2.1),(5,x.2.2.1)]) (fun x=>[.own x.2.2.1 1 (iL x.2.2.2)])
  (fun x=>JX T x.1∧x.2.2.2.length+x.1.length≤16∧DM (Dp T) (Cw l).length (Cw l)=x.2.2.2++DM (Dp T) x.1.length x.1) (Cw l,false,.l [] true,[]) rfl ⟨h,by simpa using h.many,by simp⟩ (EM hs 1) ?_
 clear hs;rintro⟨l',f',v,out⟩ σ ⟨ho,hlen,hm⟩ hs;dsimp only at ho hlen hm hs;dsimp only;have hll:out.length<Ac∧(out.length+1)*8≤140737488355328:=by omega
 by_cases hz:l'.length=0
 ·conv=>whnf
  repeat'((first|apply st|(apply sq;intro K U)|(apply si;intro A B Y Z)|(apply Y;clear Z B Y A)|(apply U;clear U K)|refine⟨rfl,?_⟩|(constructor<;>intro hc<;>(try rw[hc])<;>(replace hc:=bp hc)<;>(try simp(disch:=omega) only[BD,wrap64,AL]at hc)<;>try(exfalso;omega))|clear U K)<;>conv=>whnf)
  rw[hz]at hm;simp only[DM,Hj]at hm;rw[hm];exact BO (hs.MV 0 rfl)
 ·obtain⟨n,hn⟩: ∃n,l'.length=n+1:=⟨l'.length - 1,by omega⟩
  rw[hn,DM]at hm;have hm16:=ho.many
  conv=>whnf
  repeat'((first|apply st|(apply sq;intro K U)|(apply si;intro A B Y Z)|(apply Y;clear Z B Y A)|(apply U;clear U K)|refine⟨rfl,?_⟩|(constructor<;>intro hc<;>(try rw[hc])<;>(replace hc:=bp hc)<;>(try simp(disch:=omega) only[BD,wrap64,AL]at hc)<;>try(exfalso;omega))|fail)<;>conv=>whnf)
  refine ED (fun x:Int×Int=>(x.2+1).toNat) (fun x=>[(6,eI x.1),(7,eI x.2)]) (fun _=>[.own v 1 (iL out)]) (fun x=> -1≤x.2∧x.2<l'.length∧u1 (fun i=>Jr (Dp T) l' i l'.length) l'.length x.2 x.1) (0,IntKind.i64.wrap ((iL l').length - 1)) rfl (by
   have e:((iL l').length:Int)=l'.length:=by simp
   have e2:IntKind.i64.wrap ((iL l').length - 1)=(l'.length:Int) - 1:=by rw[e,wrap64 (by omega) (by omega)]
   dsimp only;rw[e2]
   exact⟨by omega,by omega,.inl ⟨rfl,fun t h1 h2=>by omega⟩⟩) hs ?_
  clear hs;rintro⟨a,i⟩ σ ⟨hi1,hi2,hok⟩ hs;dsimp only at hi1 hi2 hok hs;dsimp only;by_cases hneg:i<0
  ·obtain rfl:i= -1:=by omega
   have hae:=fP hok;rw[show(List.range l'.length).find? (fun i=>Jr (Dp T) l' i l'.length)=Ln (Dp T) l' from rfl]at hae
   have hj:(Ln (Dp T) l').getD 0<l'.length:=by
    cases h:Ln (Dp T) l' with
    | none=>exact Nat.pos_of_ne_zero hz
    | some j=>simpa using List.mem_of_find?_eq_some h
   generalize (Ln (Dp T) l').getD 0=j at *;subst hae;have c2:=Oa l' f' j hj ho.many;obtain⟨x,hx⟩: ∃x,l'[j]? =some x:=⟨_,Ct hj⟩
   have hel:=List.length_eraseIdx_of_lt hj;rw[CP hx]at hm
   conv=>whnf
   repeat'((first|apply st|(apply sq;intro K U)|(apply si;intro A B Y Z)|(apply Y;clear Z B Y A)|(apply U;clear U K)|refine⟨rfl,?_⟩|refine FE ?_|refine aq fun v σ hs hsl=>?_|refine c2.use ?_|(constructor<;>intro hc<;>(try rw[hc])<;>(replace hc:=bp hc)<;>try(exfalso;omega))|clear U K)<;>conv=>whnf)
   refine⟨(l'.eraseIdx j,false,v,out++[x]),by dsimp only;omega,rfl,⟨ho.less j,by simp;omega,?_⟩,hs⟩;dsimp only;rw[hm,hel,show l'.length - 1=n by omega];simp
  ·have hpos:0≤i:=by omega
   obtain⟨x,hx⟩: ∃x,l'[i.toNat]? =some x:=⟨_,Ct (by omega)⟩
   have hxi:=ho.ins x (B1 hx)
   conv=>whnf
   repeat'((first|apply st|(apply sq;intro K U)|(apply si;intro A B Y Z)|(apply Y;clear Z B Y A)|(apply U;clear U K)|refine⟨rfl,?_⟩|(constructor<;>intro hc<;>(try rw[hc])<;>(replace hc:=bp hc)<;>try(exfalso;omega))|fail)<;>conv=>whnf)
   refine B4 l'.length (fun k (b:Bool)=>[(8,.b b),(9,eI (A3 k))]) (fun _ _=>[.own v 1 (iL out)]) (fun k b=>b=Jr (Dp T) l' i.toNat k) true rfl rfl hs ?_;clear hs;rintro k b σ hk hb hs;rcases BE l' hk with⟨y,hy,hklt⟩|hke
   ·have hyi:=ho.ins y (B1 hy)
    obtain⟨r,hr,hry⟩:=gG ho hyi hxi;have hsu:=YB (Dp T) l' i.toNat k;rw[CP hx,CP hy,←hb]at hsu;have hck:A3 k=k:=AL (by omega);have hrl:=ho.sq r (B1 hr);cases b
    ·conv=>whnf
     repeat'((first|apply st|(apply sq;intro K U)|(apply si;intro A B Y Z)|(apply Y;clear Z B Y A)|(apply U;clear U K)|apply dr|refine⟨rfl,?_⟩|(refine CA (fun hc=>?_)<;>(try rw[hc])<;>clear hc)|clear U K)<;>conv=>whnf)
     exact⟨hklt,false,rfl,(hsu.trans (by simp)).symm,hs⟩
    ·conv=>whnf
     repeat'((first|apply st|(apply sq;intro K U)|(apply si;intro A B Y Z)|(apply Y;clear Z B Y A)|(apply U;clear U K)|apply dr|refine⟨rfl,?_⟩|refine ix ?_|refine FE ?_|(refine CA (fun hc=>?_)<;>(try rw[hc])<;>clear hc)|clear U K)<;>conv=>whnf)
     exact⟨hklt,!Dp T y x,rfl,(hsu.trans (by simp)).symm,hs⟩
   ·have hwi:IntKind.i64.wrap (i - 1)=i - 1:=wrap64 (by omega) (by omega)
    have hst:=cG (i:=i.toNat) (by rw[Int.toNat_of_nonneg hpos];exact hok) (by omega);rw[hke]at hb;rw[Int.toNat_of_nonneg hpos,←hb]at hst
    conv=>whnf
    repeat'((first|apply st|(apply sq;intro K U)|(apply si;intro A B Y Z)|(apply Y;clear Z B Y A)|(apply U;clear U K)|refine⟨rfl,?_⟩|(refine DU (fun hc=>?_)<;>(try rw[hc])<;>clear hc)|(constructor<;>intro hc<;>(try rw[hc])<;>(replace hc:=bp hc))|clear U K)<;>conv=>whnf)
    ·rw[hc,if_pos rfl]at hst
     exact⟨(i,IntKind.i64.wrap (i - 1)),by dsimp only;omega,rfl,by dsimp only;rw[hwi];exact⟨by omega,by omega,hst⟩,hs⟩
    ·rw[hc,if_neg (by decide)]at hst
     exact⟨(a,IntKind.i64.wrap (i - 1)),by dsimp only;omega,rfl,by dsimp only;rw[hwi];exact⟨by omega,by omega,hst⟩,hs⟩
end Go.Gl
