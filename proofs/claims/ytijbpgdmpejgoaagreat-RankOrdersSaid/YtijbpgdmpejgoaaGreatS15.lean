import Derived.Test.YtijbpgdmpejgoaaGreatS10
import Derived.Test.YtijbpgdmpejgoaaGreatS12
import Derived.Test.YtijbpgdmpejgoaaGreatS13
import Derived.Test.YtijbpgdmpejgoaaGreatS14
set_option linter.all false
noncomputable section
namespace Go.Gl
open Go.Proofs
attribute [local irreducible] Be BQ BH Ae AR BC Af Ag AT A7 AZ Ad Bk Bx Sat Au Bs BI W
def TX {α S:Type} (stp:α→S→Bool×S) (D:α→S→Prop):List α→S→Prop
 | [],_=>True
 | y::r,s=>D y s∧((stp y s).1=true→TX stp D r (stp y s).2)
section
variable {α β S:Type} {stp:α→S→Bool×S} {D:α→S→Prop}
theorem Pa: ∀(A B:List α) (s:S),Cx stp (A++B) s=if(Cx stp A s).1 then Cx stp B (Cx stp A s).2 else(false,(Cx stp A s).2)
 | [],B,s=>by simp[Cx]
 | y::r,B,s=>by
   rw[List.cons_append,Cx,Cx];cases(stp y s).1
   ·rfl
   ·simpa using Pa r B (stp y s).2
theorem U5 (l:α) (s:S):Cx stp [l] s=stp l s:=by
 rw[Cx,Cx];rcases stp l s with⟨b,s'⟩;cases b<;>rfl
theorem Sq: ∀ {A B:List α} {s:S},TX stp D (A++B) s→TX stp D A s∧((Cx stp A s).1=true→TX stp D B (Cx stp A s).2)
 | [],B,s,h=>⟨trivial,fun _=>h⟩
 | y ::r,B,s,h=>by
   obtain⟨h1,h2⟩:=h;rw[TX,Cx];cases hy:(stp y s).1
   ·exact⟨⟨h1,fun h=>(by cases h)⟩,fun h=>(by simp at h)⟩
   ·obtain⟨h3,h4⟩:=Sq (h2 hy)
    exact⟨⟨h1,fun _=>h3⟩,by simpa using h4⟩
theorem ON {A:List α}: ∀ {B:List α} {s:S},(∀y∈B,y∈A)→TX stp D B s→TX stp (fun y s=>y∈A∧D y s) B s
 | [],_,_,_=>trivial
 | y::r,_,hm,h=>⟨⟨hm y (.head _),h.1⟩,fun hy=>ON (fun z hz=>hm z (.tail _ hz)) (h.2 hy)⟩
theorem Xw {g:β→α}: ∀ {B:List β} {s:S},TX stp D (B.map g) s→TX (fun b s=>stp (g b) s) (fun b s=>D (g b) s) B s
 | [],_,_=>trivial
 | y::r,_,h=>⟨h.1,fun hy=>Xw (h.2 hy)⟩
end
section
variable {S:Type} {stp:List Fact→S→Bool×S} {D:List Fact→S→Prop}
theorem Rk (B:List (List Fact)): ∀(A:List (List Fact)) (s:S),Cx stp (EZ A B) s=Cx (fun x s=>Cx (fun y s=>stp (Cy x y) s) B s) A s
 | [],s=>rfl
 | x::r,s=>by
   have ih:=Rk B r;rw[EZ,List.flatMap_cons,Pa,L8,Cx];simp only[EZ]at ih;rw[ih]
theorem Ue (B:List (List Fact)): ∀ {A:List (List Fact)} {s:S},TX stp D (EZ A B) s→TX (fun x s=>Cx (fun y s=>stp (Cy x y) s) B s) (fun x s=>TX (fun y s=>stp (Cy x y) s) (fun y s=>D (Cy x y) s) B s) A s
 | [],_,_=>trivial
 | x::r,s,h=>by
   rw[EZ,List.flatMap_cons]at h;obtain⟨h1,h2⟩:=Sq h;refine⟨Xw h1,fun hy=>?_⟩;rw[L8]at h2;exact Ue B (h2 hy)
end
abbrev Vz (l:List Fact) (b:Bool):V:= .l (FH l) b
def Qp {S:Type} (x:V) (H:S→List At) (stp:List Fact→S→Bool×S) (D:List Fact→S→Prop):Prop:= ∀b,Df Tryz.prog x (fun l=>Vz l b) H stp D
abbrev Tv (n:Nat):V:= .f (.func 225) [] [.p n 0]
theorem ZU {f:Fact} (hl:CO f=true) (c:Bool):Kc (if c then HH f else f)=xF f++[.b c]:=by
 have:=G5 hl;cases c with
 | true=>rfl
 | false=>
   have h5: ¬f.op=5:=by omega
   simp only[Kc,NN,if_false,BV,if_neg h5]
def WalkC (f:Fact):Prop:= ∀(c:Bool) (S:Type) (fn:Fn) (fi ca:List V) (H:S→List At) (stp:List Fact→S→Bool×S) (D:List Fact→S→Prop) (nW:Nat) (s:S),
 Qp (.f fn fi ca) (fun s=> .box nW [Tv nW]::H s) stp D→TX stp D (Bb f c) s→ ∀σ,Sat σ (.box nW [Tv nW]::H s)→
  Bk Tryz.prog (Tv nW) [.a (xF f),.b c,.f fn fi ca] σ fun r σ'=>r= .ret (.b (Cx stp (Bb f c) s).1)∧Sat σ' (.box nW [Tv nW]::H (Cx stp (Bb f c) s).2)
theorem eR {w:AM} {S:Type} {fn:Fn} {fi ca:List V} {H:S→List At} {stp:List Fact→S→Bool×S} {D:List Fact→S→Prop} (hT:Qp (.f fn fi ca) H stp D) {k0 k1:Fact} {c:Bool} (hn0:CW w k0=true) (hn1:CW w k1=true) (hv0:lv k0≤100) (hv1:lv k1≤100) {a:List Fact} (ha:a∈Bb k0 c) (fa:Bool) :
 Qp (.f (.func 227) [] [.rp [.f fn fi ca],.rp [Vz a fa]]) H (fun y s=>stp (Cy a y) s) (fun y s=>y∈Bb k1 c∧D (Cy a y) s):=by
 rintro b y s ⟨hy,hd⟩ σ hs;refine C1 ?_;show Be Tryz.prog 227 ([]++[Vz y b]++[.rp [.f fn fi ca],.rp [Vz a fa]]) σ _;have hla:=(Ep k0 (DU _ hn0) c).2 a ha;have hly:=(Ep k1 (DU _ hn1) c).2 y hy;have hM:=Mx;refine xJ nb ?_
 conv=>whnf
 repeat'((first|apply st|(apply sq;intro K U)|(apply si;intro A B Y Z)|(apply Y;clear Z B Y A)|(apply U;clear U K)|apply dr|refine rk ?_ ?_|exact fun s e=>by cases e;rfl|refine Pure.use (Zb (w:=w) a y fa b (HD k0 hn0 c a ha) (HD k1 hn1 c y hy) (by omega)) ?_|fail)<;>conv=>whnf)
 refine(hT false).use hd hs ?_;clear hs;intro σ hs
 conv=>whnf
 repeat'((first|apply st|(apply Y;clear Z B Y A)|(apply U;clear U K)|apply dr|fail)<;>conv=>whnf)
 exact AQ ⟨rfl,hs⟩
theorem eS {w:AM} {S:Type} {fn:Fn} {fi ca:List V} {H:S→List At} {stp:List Fact→S→Bool×S} {D:List Fact→S→Prop} {nW:Nat} (hT:Qp (.f fn fi ca) (fun s=> .box nW [Tv nW]::H s) stp D) {f k0 k1:Fact} (hk:f.kids= [k0,k1]) {c:Bool} (hn0:CW w k0=true) (hn1:CW w k1=true) (hv0:lv k0≤100) (hv1:lv k1≤100) (hw1:WalkC k1) :
 Qp (.f (.func 226) [] [.p nW 0,.rp (xF f),.rp [.b c],.rp [.f fn fi ca]]) (fun s=> .box nW [Tv nW]::H s) (fun a s=>Cx (fun y s=>stp (Cy a y) s) (Bb k1 c) s) (fun a s=>a∈Bb k0 c∧TX (fun y s=>stp (Cy a y) s) (fun y s=>D (Cy a y) s) (Bb k1 c) s):=by
 rintro fa a s ⟨ha,hd⟩ σ hs;refine C1 ?_;show Be Tryz.prog 226 ([]++[Vz a fa]++[.p nW 0,.rp (xF f),.rp [.b c],.rp [.f fn fi ca]]) σ _;have h1:f.kids[(1:Int).toNat]? =some k1:=by rw[hk];rfl
 refine xK nb ?_
 conv=>whnf
 repeat'((first|apply st|(apply sq;intro K U)|(apply si;intro A B Y Z)|(apply Y;clear Z B Y A)|(apply U;clear U K)|apply dr|refine⟨nb,?_⟩|refine R8 ?_|refine ld ?_|fail)<;>conv=>whnf)
 refine(hw1 c S _ _ _ H _ _ nW s (eR hT hn0 hn1 hv0 hv1 ha fa) (ON (fun y hy=>hy) hd) σ hs).mono ?_;clear hs;rintro r σ ⟨rfl,hs⟩
 conv=>whnf
 repeat'((first|apply st|(apply Y;clear Z B Y A)|(apply U;clear U K)|apply dr|fail)<;>conv=>whnf)
 exact AQ ⟨rfl,hs⟩
set_option maxHeartbeats 2000000 in
theorem fp {w:AM} (f:Fact):CW w f=true→lv f≤100→WalkC f:=by
 induction f using Fact.ind with
 | h f ih=>
   intro hn hv c S fn fi ca H stp D nW s hT hd σ hs;have har:=DU _ hn
   have hnk: ∀k∈f.kids,CW w k=true:=by
    rw[Di,Bj,I0]at hn;exact hn.2
   have hop:f.op=1∨f.op=5∨CO f=true∨f.op=6∨f.op=7:=by
    rw[Di,Bj]at hn;have h1:=hn.1;simp only[Dd,Vr,Bj]at h1;rw[PL];simp only[Bj,D4];have h2:=h1.1;split at h2
    ·omega
    ·split at h2
     ·omega
     ·simp only[HW,FL]at h2
      omega
   refine C1 ?_;show Be Tryz.prog 225 ([]++[.a (xF f),.b c,.f fn fi ca]++[.p nW 0]) σ _;refine xL nb ?_;rw[IA,F6]at hd;have hcs:=IA f c;rw[F6]at hcs;rcases hop with h1|h5|hl|h67
   ·rw[if_pos h1]at hd hcs
    rw[hcs];cases c
    ·rw[if_neg (by decide)]at hd ⊢
     rw[U5]
     conv=>whnf
     repeat'((first|apply st|(apply sq;intro K U)|(apply si;intro A B Y Z)|(apply Y;clear Z B Y A)|(apply U;clear U K)|refine⟨rfl,?_⟩|(constructor<;>intro hc<;>(try rw[hc])<;>(replace hc:=bp hc)<;>try(exfalso;omega))|fail)<;>conv=>whnf)
     refine(hT true).use (y:=[]) hd.1 hs ?_;clear hs;intro σ hs
     conv=>whnf
     repeat'((first|apply st|(apply Y;clear Z B Y A)|(apply U;clear U K)|clear U K)<;>conv=>whnf)
     exact AQ ⟨rfl,hs⟩
    ·rw[if_pos rfl]at hd ⊢
     conv=>whnf
     repeat'((first|apply st|(apply sq;intro K U)|(apply si;intro A B Y Z)|(apply Y;clear Z B Y A)|(apply U;clear U K)|refine⟨rfl,?_⟩|(constructor<;>intro hc<;>(try rw[hc])<;>(replace hc:=bp hc)<;>try(exfalso;omega))|clear U K)<;>conv=>whnf)
     exact AQ ⟨rfl,hs⟩
   ·obtain⟨k,hk,-⟩:=Jn har h5
    have hkm:k∈f.kids:=by rw[hk];exact .head _
    have hvk:lv k≤100:=by
     rw[NQ,aM,if_pos h5,hk]at hv;exact hv
    rw[if_neg (by omega),if_pos h5,hk]at hd hcs;have hcs2:Bb f c=Bb k (!c):=hcs;have h0:f.kids[(0:Int).toNat]? =some k:=by rw[hk];rfl
    rw[hcs2]
    conv=>whnf
    repeat'((first|apply st|(apply sq;intro K U)|(apply si;intro A B Y Z)|(apply Y;clear Z B Y A)|(apply U;clear U K)|apply dr|refine⟨rfl,?_⟩|refine⟨nb,?_⟩|refine R8 ?_|refine ld ?_|(constructor<;>intro hc<;>(try rw[hc])<;>(replace hc:=bp hc)<;>try(exfalso;omega))|fail)<;>conv=>whnf)
    refine(ih k hkm (hnk k hkm) hvk (!c) S _ _ _ H stp D nW s hT hd σ hs).mono ?_;clear hs;rintro r σ ⟨rfl,hs⟩
    conv=>whnf
    repeat'((first|apply st|(apply Y;clear Z B Y A)|(apply U;clear U K)|apply dr|clear U K)<;>conv=>whnf)
    exact AQ ⟨rfl,hs⟩
   ·have hlo:=G5 hl
    have hlB:=Sw f;rw[hl]at hlB;rw[if_neg (by omega),if_neg (by omega),if_neg (by omega)]at hd hcs;have hcs2:Bb f c= [[if c then HH f else f]]:=by rw[hcs];cases c<;>rfl
    rw[←hcs,hcs2]at hd;rw[hcs2,U5]
    have e:Vz [if c then HH f else f] true= .l [xF f++[.b c]] true:=by
     show V.l [Kc (if c then HH f else f)] true=_;rw[ZU hl]
    have hst:=(hT true) [if c then HH f else f] s hd.1;simp only[e]at hst
    conv=>whnf
    repeat'((first|apply st|(apply sq;intro K U)|(apply si;intro A B Y Z)|(apply Y;clear Z B Y A)|(apply U;clear U K)|refine⟨rfl,?_⟩|refine⟨nb,?_⟩|refine Pure.use hlB ?_|(constructor<;>intro hc<;>(try rw[hc])<;>(replace hc:=bp hc)<;>try(exfalso;omega))|fail)<;>conv=>whnf)
    refine(hst σ hs).mono ?_;clear hs;rintro r σ ⟨rfl,hs⟩
    conv=>whnf
    repeat'((first|apply st|(apply Y;clear Z B Y A)|(apply U;clear U K)|clear U K)<;>conv=>whnf)
    exact AQ ⟨rfl,hs⟩
   ·obtain⟨k0,k1,hk,-,-⟩:=Jm har h67
    have hkm0:k0∈f.kids:=by rw[hk];exact .head _
    have hkm1:k1∈f.kids:=by rw[hk];exact .tail _ (.head _)
    have hlf:CO f=false:=by rw[PL,decide_eq_false (show¬f.op≤4 by omega),Bool.and_false]
    have hlB:=Sw f;rw[hlf]at hlB
    have hvk:lv k0+lv k1≤100:=by
     rw[NQ,aM,if_neg (by omega),if_pos h67,hk]at hv;exact hv
    rw[if_neg (by omega),if_neg (by omega),if_pos h67,hk]at hd hcs;have h0:f.kids[(0:Int).toNat]? =some k0:=by rw[hk];rfl
    have h1:f.kids[(1:Int).toNat]? =some k1:=by rw[hk];rfl
    have i0:=ih k0 hkm0 (hnk k0 hkm0) (by omega);have i1:=ih k1 hkm1 (hnk k1 hkm1) (by omega);by_cases hap:(c != (f.op==7))=true
    ·rw [if_pos hap]at hd hcs
     have hcs2:Bb f c=Bb k0 c++Bb k1 c:=hcs;have hd2:TX stp D (Bb k0 c++Bb k1 c) s:=hd;obtain⟨hd3,hd4⟩:=Sq hd2;rw[hcs2,Pa];clear hcs hcs2 hd hd2;rcases h67 with h6|h7
     ·have h6b:(f.op==6)=true:=by rw[h6];rfl
      have hct:c=true:=by rw[h6]at hap;cases c<;>simp_all
      subst hct
      conv=>whnf
      repeat'((first|apply st|(apply sq;intro K U)|(apply si;intro A B Y Z)|(apply Y;clear Z B Y A)|(apply U;clear U K)|apply dr|refine⟨rfl,?_⟩|refine⟨nb,?_⟩|refine R8 ?_|refine ld ?_|refine IE ?_|refine Pure.use hlB ?_|(rw[h6b])|(constructor<;>intro hc<;>(try rw[hc])<;>(replace hc:=bp hc)<;>try(exfalso;omega))|fail)<;>conv=>whnf)
      refine(i0 true S _ _ _ H stp D nW s hT hd3 σ hs).mono ?_;clear hs;rintro r σ ⟨rfl,hs⟩;generalize Cx stp (Bb k0 true) s=x at *;obtain⟨b1,s1⟩:=x;cases b1
      ·conv=>whnf
       repeat'((first|apply st|(apply Y;clear Z B Y A)|(apply U;clear U K)|apply dr|clear U K)<;>conv=>whnf)
       exact AQ ⟨rfl,hs⟩
      ·conv=>whnf
       repeat'((first|apply st|apply dr|refine⟨nb,?_⟩|refine R8 ?_|refine ld ?_|fail)<;>conv=>whnf)
       refine(i1 true S _ _ _ H stp D nW s1 hT (hd4 rfl) σ hs).mono ?_;clear hs;rintro r σ ⟨rfl,hs⟩
       conv=>whnf
       repeat'((first|apply st|(apply Y;clear Z B Y A)|(apply U;clear U K)|apply dr|clear U K)<;>conv=>whnf)
       exact AQ ⟨rfl,hs⟩
     ·have h6b:(f.op==6)=false:=by rw[h7];rfl
      have hct:c=false:=by rw[h7]at hap;cases c<;>simp_all
      subst hct
      conv=>whnf
      repeat'((first|apply st|(apply sq;intro K U)|(apply si;intro A B Y Z)|(apply Y;clear Z B Y A)|(apply U;clear U K)|apply dr|refine⟨rfl,?_⟩|refine⟨nb,?_⟩|refine R8 ?_|refine ld ?_|refine IE ?_|refine Pure.use hlB ?_|(rw[h6b])|(constructor<;>intro hc<;>(try rw[hc])<;>(replace hc:=bp hc)<;>try(exfalso;omega))|fail)<;>conv=>whnf)
      refine(i0 false S _ _ _ H stp D nW s hT hd3 σ hs).mono ?_;clear hs;rintro r σ ⟨rfl,hs⟩;generalize Cx stp (Bb k0 false) s=x at *;obtain⟨b1,s1⟩:=x;cases b1
      ·conv=>whnf
       repeat'((first|apply st|(apply Y;clear Z B Y A)|(apply U;clear U K)|apply dr|clear U K)<;>conv=>whnf)
       exact AQ ⟨rfl,hs⟩
      ·conv=>whnf
       repeat'((first|apply st|apply dr|refine⟨nb,?_⟩|refine R8 ?_|refine ld ?_|fail)<;>conv=>whnf)
       refine(i1 false S _ _ _ H stp D nW s1 hT (hd4 rfl) σ hs).mono ?_;clear hs;rintro r σ ⟨rfl,hs⟩
       conv=>whnf
       repeat'((first|apply st|(apply Y;clear Z B Y A)|(apply U;clear U K)|apply dr|clear U K)<;>conv=>whnf)
       exact AQ ⟨rfl,hs⟩
    ·rw[if_neg hap]at hd hcs
     have hcs2:Bb f c=EZ (Bb k0 c) (Bb k1 c):=hcs;have hd2:TX stp D (EZ (Bb k0 c) (Bb k1 c)) s:=hd;have hd3:=Ue _ hd2;have hT2:=eS hT hk (c:=c) (hnk k0 hkm0) (hnk k1 hkm1) (by omega) (by omega) i1;rw[hcs2,Rk];clear hcs hcs2 hd hd2;rcases h67 with h6|h7
     ·have h6b:(f.op==6)=true:=by rw[h6];rfl
      have hct:c=false:=by rw[h6]at hap;cases c<;>simp_all
      subst hct
      conv=>whnf
      repeat'((first|apply st|(apply sq;intro K U)|(apply si;intro A B Y Z)|(apply Y;clear Z B Y A)|(apply U;clear U K)|apply dr|refine⟨rfl,?_⟩|refine⟨nb,?_⟩|refine R8 ?_|refine ld ?_|refine GH ?_|refine Pure.use hlB ?_|(rw[h6b])|(constructor<;>intro hc<;>(try rw[hc])<;>(replace hc:=bp hc)<;>try(exfalso;omega))|fail)<;>conv=>whnf)
      refine(i0 false S _ _ _ H _ _ nW s hT2 (ON (fun y hy=>hy) hd3) σ hs).mono ?_;clear hs;rintro r σ ⟨rfl,hs⟩
      conv=>whnf
      repeat'((first|apply st|(apply Y;clear Z B Y A)|(apply U;clear U K)|apply dr|fail)<;>conv=>whnf)
      exact AQ ⟨rfl,hs⟩
     ·have h6b:(f.op==6)=false:=by rw[h7];rfl
      have hct:c=true:=by rw[h7]at hap;cases c<;>simp_all
      subst hct
      conv=>whnf
      repeat'((first|apply st|(apply sq;intro K U)|(apply si;intro A B Y Z)|(apply Y;clear Z B Y A)|(apply U;clear U K)|apply dr|refine⟨rfl,?_⟩|refine⟨nb,?_⟩|refine R8 ?_|refine ld ?_|refine GH ?_|refine Pure.use hlB ?_|(rw[h6b])|(constructor<;>intro hc<;>(try rw[hc])<;>(replace hc:=bp hc)<;>try(exfalso;omega))|fail)<;>conv=>whnf)
      refine(i0 true S _ _ _ H _ _ nW s hT2 (ON (fun y hy=>hy) hd3) σ hs).mono ?_;clear hs;rintro r σ ⟨rfl,hs⟩
      conv=>whnf
      repeat'((first|apply st|(apply Y;clear Z B Y A)|(apply U;clear U K)|apply dr|fail)<;>conv=>whnf)
      exact AQ ⟨rfl,hs⟩
theorem ux {w:AM} (f:Fact) (hn:CW w f=true) (hv:lv f≤100) (c:Bool) {S:Type} {fn:Fn} {fi ca:List V} {H:S→List At} {stp:List Fact→S→Bool×S} {D:List Fact→S→Prop} {s:S} (hT: ∀nW,Qp (.f fn fi ca) (fun s=> .box nW [Tv nW]::H s) stp D) (hd:TX stp D (Bb f c) s) (σ:AH) (hs:Sat σ (H s)) :
 Be Tryz.prog 224 [.f fn fi ca,.rp (xF f),.rp [.b c]] σ fun r σ'=>r= .ret (.t [])∧Sat σ' (H (Cx stp (Bb f c) s).2):=by
 refine xM nb ?_
 conv=>whnf
 repeat'((first|apply st|(apply sq;intro K U)|(apply si;intro A B Y Z)|(apply Y;clear Z B Y A)|(apply U;clear U K)|refine⟨nb,?_⟩|refine ld ?_|refine IB fun σ hs=>?_|(intro nn hnn;generalize hg:BE _ nn _=σ;refine E3 hg fun hs=>?_;clear hg)|fail)<;>conv=>whnf)
 refine(fp f hn hv c S fn fi ca H stp D nn s (hT nn) hd σ hs).mono ?_;clear hs;rintro r σ ⟨rfl,hs⟩
 conv=>whnf
 repeat'((first|(apply Y;clear Z B Y A)|fail)<;>conv=>whnf)
 exact AQ ⟨rfl,hs.less (Oa _ _)⟩
theorem eT (f:Fact) (c:Bool):Pure Tryz.prog 182 [.a (xF f),.b c] (.f (.func 224) [] [.rp (xF f),.rp [.b c]]):=by
 refine xi nb ?_;have hs:=Sn
 conv=>whnf
 repeat'((first|apply st|(apply sq;intro K U)|(apply si;intro A B Y Z)|(apply Y;clear Z B Y A)|(apply U;clear U K)|fail)<;>conv=>whnf)
 all_goals exact AJ rfl
abbrev Of (w:AM) (l:List Fact) (s:Bool):Bool×Bool:=if IG w l then(false,true)else(true,s)
theorem U6 {w:AM}: ∀(cs:List (List Fact)),Cx (Of w) cs false=(!cs.any (IG w),cs.any (IG w))
 | []=>rfl
 | l::r=>by
   rw[Cx,Qe];simp only[Of];cases h:IG w l
   ·simpa using U6 r
   ·rfl
theorem Xx {w:AM} {AD:List Fact→Prop}: ∀ {cs:List (List Fact)},(∀l∈cs,AD l)→TX (Of w) (fun l s=>s=false∧AD l) cs false
 | [],_=>trivial
 | l ::r,h=>⟨⟨rfl,h l (.head _)⟩,fun hy=>by
     cases ht:IG w l
     ·have e:(Of w l false).2=false:=by simp[Of,ht]
      rw[e];exact Xx fun x hx=>h x (.tail _ hx)
     ·simp[Of,ht]at hy⟩
abbrev yy (w:AM) (L:Nat) (E:Env) (ok:FuncId→Array Tmp→Code→Code→Nat→Prop) (nF:Nat):Prop:=
 Mo Tryz.prog L E ok (fun(x:List Fact×Bool)=>[Vz x.1 x.2]) (fun s:Bool=>[.box nF [.b s]]) (fun _=>True) (fun x s=>if IG w x.1 then .stop (.exit 0) true else .go s) (fun x s=>s=false∧(∀y∈x.1,JD w y)∧x.1.length<900)
theorem iN {w:AM} (f:Fact) (hn:CW w f=true) (hv:lv f≤100) {L:Nat} {E:Env} {ok:FuncId→Array Tmp→Code→Code→Nat→Prop} {nF:Nat} (hY:yy w L E ok nF) (σ:AH) (hs:Sat σ [.obj L (.loop .ready E ok),.box nF [.b false]]) :
 Be Tryz.prog 224 [.f (.yield L) [] [],.rp (xF f),.rp [.b false]] σ fun r σ'=>r= .ret (.t [])∧Sat σ' [.obj L (.loop (if Tf w f then .exit 0 else .ready) E ok),.box nF [.b (Tf w f)]]:=by
 have hg:=ux f hn hv false (fn:= .yield L) (fi:=[]) (ca:=[]) (H:=fun s:Bool=>[.obj L (.loop (if s then .exit 0 else .ready) E ok),.box nF [.b s]]) (stp:=Of w) (D:=fun l s=>s=false∧(∀y∈l,JD w y)∧l.length<900) (s:=false) (by
  rintro nW b l s ⟨rfl,hl,hlen⟩ σ hs;refine hY.use (y:=(l,b)) (s:=false) ⟨rfl,hl,hlen⟩ (rest:=[.box nW [Tv nW]]) (hs.perm (KF _ _ _ _)) ?_;intro r σ' hq;cases ht:IG w l
  ·simp only[ht,NN,if_false]at hq
   obtain⟨rfl,hs'⟩:=hq;have e:Of w l false=(true,false):=by simp[Of,ht]
   rw[e];exact⟨rfl,hs'.perm (KF _ _ _ _).symm⟩
  ·simp only[ht,if_true]at hq
   obtain⟨rfl,hs'⟩:=hq;have e:Of w l false=(false,true):=by simp[Of,ht]
   rw[e]
   exact⟨rfl,hs'.perm (KF _ _ _ _).symm⟩) (Xx fun l hl=>⟨HD f hn false l hl,by have:=(Ep f (DU _ hn) false).2 l hl;omega⟩) σ hs
 rw[U6]at hg;exact hg
theorem yn (w:AM) (hw:Fs w) (f:Fact) (hn:CW w f=true) (hv:lv f≤100):Pure Tryz.prog 141 [.rp (wC w (E5 w.parents)),.a (xF f)] (.b (Tf w f)):=by
 refine Pure.of ?_;refine yL nb ?_;have hs:=Sn
 conv=>whnf
 repeat'((first|apply st|(apply sq;intro K U)|(apply si;intro A B Y Z)|(apply Y;clear Z B Y A)|(apply U;clear U K)|refine⟨nb,?_⟩|refine IB fun σ hs=>?_|refine Pure.use (eT _ _) ?_|(intro nn hnn;generalize hg:BE _ nn _=σ;refine E3 hg fun hs=>?_;clear hg)|fail)<;>conv=>whnf)
 rename_i _ nF hnF _ _ _ _;refine Be.mono (iN (w:=w) f hn hv (L:=nn) (nF:=nF) ?_ σ hs) ?_
 ·refine Nb (fun y=>rfl) ?_
  clear hs hnn hnF;rintro⟨l,b⟩ s ⟨rfl,hl,hlen⟩ rest σ hs;dsimp only at hl hlen;have htg:=VD w hw l b hl hlen;dsimp only;cases ht:IG w l<;>rw[ht]at htg
  ·conv=>whnf
   repeat'((first|apply st|(apply sq;intro K U)|(apply si;intro A B Y Z)|(apply Y;clear Z B Y A)|(apply U;clear U K)|refine Pure.use htg ?_|clear U K)<;>conv=>whnf)
   intro hn;exact UY (H:=fun s:Bool=>[.box nF [.b s]]) (J:=fun _=>True) (s:=false) rfl hs hn
  ·conv=>whnf
   repeat'((first|apply st|(apply sq;intro K U)|(apply si;intro A B Y Z)|(apply Y;clear Z B Y A)|(apply U;clear U K)|refine IB fun σ hs=>?_|refine Pure.use htg ?_|clear U K)<;>conv=>whnf)
   intro hn;exact WY (H:=fun s:Bool=>[.box nF [.b s]]) (J:=fun _=>True) (s:=true) (st:= .exit 0) rfl hs hn
 ·clear hs hnn hnF
  cases hp:Tf w f
  ·rintro r σ ⟨rfl,hs⟩
   refine Hq hs fun σ hs=>?_
   conv=>whnf
   repeat'((first|apply st|(apply sq;intro K U)|(apply si;intro A B Y Z)|(apply Y;clear Z B Y A)|(apply U;clear U K)|refine ld ?_|fail)<;>conv=>whnf)
   exact AQ (by rw[hp])
  ·rintro r σ ⟨rfl,hs⟩
   refine Wc hs fun σ hs=>?_
   conv=>whnf
   repeat'((first|apply st|(apply sq;intro K U)|(apply si;intro A B Y Z)|(apply Y;clear Z B Y A)|(apply U;clear U K)|refine ld ?_|fail)<;>conv=>whnf)
   exact AQ (by rw[hp])
theorem uC (f:Fact):Pure Tryz.prog 143 [.a (xF f)] (.a (xF (HH f))):=by
 refine yJ nb ?_;have hs:=Sn
 conv=>whnf
 repeat'((first|apply st|(apply sq;intro K U)|(apply si;intro A B Y Z)|(apply Y;clear Z B Y A)|(apply U;clear U K)|refine⟨nb,?_⟩|refine ld ?_|refine sn fun σ hs=>?_|(intro nn hnn;generalize hg:BE _ nn _=σ;refine al hg fun hs=>?_;clear hg)|fail)<;>conv=>whnf)
 refine B0 (.a (.cons (.refl _) (.cons (.refl _) (.cons IU (.cons (.refl _) (.cons (.refl _) (.cons ?_ .nil)))))));refine .l (fun h=>by cases h) ?_;simp only[HH,Fact.kids,List.map,Bq];exact Eu _
theorem yr (f g:Fact):Pure Tryz.prog 142 [.a (xF f),.a (xF g)] (.a (xF (QT f g))):=by
 refine yK nb ?_;have hs:=Sn
 conv=>whnf
 repeat'((first|apply st|(apply sq;intro K U)|(apply si;intro A B Y Z)|(apply Y;clear Z B Y A)|(apply U;clear U K)|refine⟨nb,?_⟩|refine ld ?_|refine sn fun σ hs=>?_|(intro nn hnn;generalize hg:BE _ nn _=σ;refine al hg fun hs=>?_;clear hg)|fail)<;>conv=>whnf)
 refine B0 (.a (.cons (.refl _) (.cons (.refl _) (.cons IU (.cons (.refl _) (.cons (.refl _) (.cons ?_ .nil)))))));refine .l (fun h=>by cases h) ?_;simp only[QT,Fact.kids,List.map,Bq];exact Eu _
theorem Wq (w:AM) (hw:Fs w) (a b:Fact) (ha:CW w a=true) (hb:CW w b=true) (hl:lv a+lv b≤100):Pure Tryz.prog 110 [.rp (wC w (E5 w.parents)),.a (xF a),.a (xF b)] (.b (fT w a b)):=by
 have hcan:=yn w hw (QT a (HH b)) (Uf ha hb) (by rw[bu];exact hl);refine yf nb ?_;have hs:=Sn
 conv=>whnf
 repeat'((first|apply st|(apply sq;intro K U)|(apply si;intro A B Y Z)|(apply Y;clear Z B Y A)|(apply U;clear U K)|apply dr|refine rk ?_ ?_|exact fun s e=>by cases e;rfl|refine⟨nb,?_⟩|refine Pure.use (uC _) ?_|refine Pure.use (yr _ _) ?_|refine Pure.use hcan ?_|fail)<;>conv=>whnf)
 all_goals exact AJ rfl
theorem aG (w:AM) (hw:Fs w) (a b:Fact) (ha:E6 w a=true) (hb:E6 w b=true) (hna:CW w a=true) (hnb:CW w b=true) (hl:lv a+lv b≤100):Pure Tryz.prog 76 [.a (BR w),.a (xF a),.a (xF b)] (.t [.b (fT w a b),eI 0]):=by
 have hrd: ∀f,Pure Tryz.prog 109 [.a (BR w),.l [xF a,xF b] f] (.t [.rp (wC w (E5 w.parents)),.b true]):=fun f=>by
  have:=Xn w hw [a,b] f (by simp);rw[show([a,b].all (LS w))=true by simp[YF,ha,hb]]at this;simpa[Bq]using this
 have hip:=Wq w hw a b hna hnb hl;refine ABA nb ?_;have hs:=Sn
 conv=>whnf
 repeat'((first|apply st|(apply sq;intro K U)|(apply si;intro A B Y Z)|(apply Y;clear Z B Y A)|(apply U;clear U K)|refine⟨nb,?_⟩|refine GH ?_|refine Pure.use (hrd _) ?_|refine Pure.use hip ?_|fail)<;>conv=>whnf)
 all_goals exact AJ rfl
attribute [local irreducible] He
def szP (p:Prog) (nO:Nat) (r:R) (post:List At):Prop:=
 match Bh p with
 | some s=>r= .ret (.t [])∧ ∃v,post= [.box nO [v],.own v 1 (iL s)]
 | none=>r= .By ED∧ ∃v s,post= [.box nO [v],.own v 1 (iL s)]
theorem ZB (p:Prog) (nO:Nat):B9 Tryz.prog 162 [.rp (Bd p),.p nO 0] [.box nO [.l [] true]] (szP p nO):=fun σ hs=>
 Be.mono (dQ p nO σ hs) fun r σ' hq=>by
  unfold y1 at hq;unfold szP;cases h:Bh p with
  | some s=>
    rw[h]at hq;obtain⟨h1,v,h2⟩:=hq;exact⟨_,⟨h1,v,rfl⟩,h2⟩
  | none=>
    rw[h]at hq;obtain⟨h1,v,s,h2⟩:=hq;exact⟨_,⟨h1,v,s,rfl⟩,h2⟩
theorem mC {σ:AH} {n:Nat} {x:V} {rest:List At} (hs:Sat σ (.box n [x]::rest)) {Q:AH→Prop} (hq: ∀σ',Sat σ' (.box n [.b false]::rest)→Q σ'):He Tryz.prog 207 [.p n 0] (some ED) σ Q:=by
 refine YR nb ?_
 conv=>whnf
 repeat'((first|apply st|(apply sq;intro K U)|(apply si;intro A B Y Z)|(apply Y;clear Z B Y A)|(apply U;clear U K)|refine IB fun σ hs=>?_|refine HZ fun σ hs=>?_|refine GH ?_|refine tJ rfl ?_|(intro nn hnn;generalize hg:BE _ nn _=σ;refine E3 hg fun hs=>?_;clear hg)|fail)<;>conv=>whnf)
 exact hq _ (hs.less (Oa _ _))
theorem mD {σ:AH} {n:Nat} {x:V} {rest:List At} (hs:Sat σ (.box n [x]::rest)) {Q:AH→Prop} (hq: ∀σ',Sat σ' (.box n [x]::rest)→Q σ'):He Tryz.prog 207 [.p n 0] none σ Q:=by
 refine YR nb ?_
 conv=>whnf
 repeat'((first|apply st|(apply sq;intro K U)|(apply si;intro A B Y Z)|(apply Y;clear Z B Y A)|(apply U;clear U K)|refine GH ?_|fail)<;>conv=>whnf)
 exact hq _ hs
theorem Zn (p:Prog) (nO:Nat):B9 Tryz.prog 161 [.f (.func 162) [] [.rp (Bd p),.p nO 0]] [.box nO [.l [] true]] fun r post=>r= .ret (.b (Bh p).isSome)∧ ∃v s,post= [.box nO [v],.own v 1 (iL s)]∧(Bh p=none∨Bh p=some s):=by
 intro σ hs;refine x6 nb ?_
 conv=>whnf
 repeat'((first|(apply sq;intro K U)|(apply si;intro A B Y Z)|(apply Y;clear Z B Y A)|(apply U;clear U K)|(intro nn hnn;generalize hg:BE _ nn _=σ;refine E3 hg fun hs=>?_;clear hg)|fail)<;>conv=>whnf)
 refine C1 ?_;refine(ZB p nO).use (rest:=[.box nn [.b false]]) (hs.perm (.swap _ _ _)) ?_;clear hs hnn;rintro r post σ hq hs;unfold szP at hq;cases h:Bh p with
 | none=>
   rw[h]at hq;obtain⟨rfl,v,s,rfl⟩:=hq
   conv=>whnf
   repeat'((first|(refine Z _ _ _ ?_;clear Z B Y A)|clear U K)<;>conv=>whnf)
   refine mC (rest:=[.box nO [v],.own v 1 (iL s)]) (hs.perm TZ) fun σ hs=>?_
   conv=>whnf
   repeat'((first|refine ld ?_|fail)<;>conv=>whnf)
   exact AQ ⟨_,⟨by rw[h];rfl,v,s,rfl,.inl h⟩,hs.less (Oa _ _)⟩
 | some s=>
   rw[h]at hq;obtain⟨rfl,v,rfl⟩:=hq
   conv=>whnf
   repeat'((first|apply st|(apply sq;intro K U)|(apply si;intro A B Y Z)|(apply Y;clear Z B Y A)|(apply U;clear U K)|refine IB fun σ hs=>?_|fail)<;>conv=>whnf)
   replace hs:Sat σ ([.box nO [v],.own v 1 (iL s)]++[.box nn [.b true]]):=hs;refine mD (x:= .b true) (rest:=[.box nO [v],.own v 1 (iL s)]) (hs.perm TZ) fun σ hs=>?_
   conv=>whnf
   repeat'((first|refine ld ?_|fail)<;>conv=>whnf)
   exact AQ ⟨_,⟨by rw[h];rfl,v,s,rfl,.inr h⟩,hs.less (Oa _ _)⟩
theorem dR (p:Prog):B9 Tryz.prog 137 [.a (Bd p)] [] fun r post=> ∃v s,r= .ret (.t [v,.b (Bh p).isSome])∧post= [.own v 1 (iL s)]∧(Bh p=none∨Bh p=some s):=by
 intro σ hs;refine yP nb ?_
 conv=>whnf
 repeat'((first|(apply sq;intro K U)|(apply si;intro A B Y Z)|(apply Y;clear Z B Y A)|(apply U;clear U K)|(intro nn hnn;generalize hg:BE _ nn _=σ;refine E3 hg fun hs=>?_;clear hg)|fail)<;>conv=>whnf)
 refine(Zn p nn).use (rest:=[]) (by simpa using hs) ?_;clear hs;rintro r post σ ⟨rfl,v,s,rfl,hl⟩ hs
 conv=>whnf
 repeat'((first|apply st|(apply sq;intro K U)|(apply si;intro A B Y Z)|(apply Y;clear Z B Y A)|(apply U;clear U K)|refine ld ?_|fail)<;>conv=>whnf)
 exact AQ ⟨_,⟨v,s,rfl,rfl,hl⟩,hs.less (.cons _ (.cons₂ _ (QN _)))⟩
theorem er (p:Prog):Pure Tryz.prog 107 [.a (Bd p)] (eI (if(Bh p).isSome then 0 else 2)):=by
 refine Pure.of ?_;have hz:=dR p;cases h:(Bh p).isSome<;>rw[h]at hz
 all_goals
  refine yi nb ?_;have hs:=Sn
  conv=>whnf
  repeat'((first|apply st|(apply sq;intro K U)|(apply si;intro A B Y Z)|(apply Y;clear Z B Y A)|(apply U;clear U K)|refine⟨nb,?_⟩|fail)<;>conv=>whnf)
  refine hz.use (rest:=[]) (by simpa using hs) ?_;clear hs;rintro r post σ ⟨v,s,rfl,rfl,-⟩ hs
  conv=>whnf
  repeat'((first|apply st|(apply sq;intro K U)|(apply si;intro A B Y Z)|(apply Y;clear Z B Y A)|(apply U;clear U K)|refine IE ?_|refine GH ?_|clear U K)<;>conv=>whnf)
  exact AQ rfl
theorem AAu {p:Prog} (h:(Bh p).isSome=true):B2 p.AL≤40:=by
 obtain⟨hh,-⟩:=H3 h;simp only[DP,Bj,D4]at hh;exact(L4 hh.1).2.1
theorem yp {p:Prog} (h:(Bh p).isSome=true):p.AL.length≤10:=by
 obtain⟨hh,-⟩:=H3 h;simp only[DP,Bj,D4]at hh;exact(L4 hh.1).2.2
theorem nG {p:Prog} (h:(Bh p).isSome=true):Fs (Ab p):=by
 obtain⟨hh,-⟩:=H3 h;simp only[DP,Bj,D4]at hh;exact(L4 hh.1).1
theorem mY (p:Prog):Pure Tryz.prog 71 [.a (Bd p)] (if(Bh p).isSome then .t [.a (BR (Ab p)),eI 0]else .t [.a [.l [] true,.l [] true],eI 2]):=by
 have hz:=er p;have hM:=Mx;cases h:(Bh p).isSome<;>rw[h]at hz
 ·simp only[NN,if_false]at hz ⊢
  refine qs nb ?_;have hs:=Sn
  conv=>whnf
  repeat'((first|apply st|(apply sq;intro K U)|(apply si;intro A B Y Z)|(apply Y;clear Z B Y A)|(apply U;clear U K)|refine⟨rfl,?_⟩|refine⟨nb,?_⟩|refine ld ?_|refine HZ fun σ hs=>?_|refine Pure.use hz ?_|(constructor<;>intro hc<;>(try rw[hc])<;>(replace hc:=bp hc)<;>try(exfalso;omega))|(intro nn hnn;generalize hg:BE _ nn _=σ;refine E3 hg fun hs=>?_;clear hg)|clear U K)<;>conv=>whnf)
  all_goals exact AJ rfl
 ·simp only[if_true]at hz ⊢
  have hm:=AAu h;have hc10:=yp h;refine qs nb ?_;have hs:=Sn
  conv=>whnf
  repeat'((first|apply st|(apply sq;intro K U)|(apply si;intro A B Y Z)|(apply Y;clear Z B Y A)|(apply U;clear U K)|refine⟨rfl,?_⟩|refine⟨nb,?_⟩|refine ld ?_|refine HZ fun σ hs=>?_|refine Pure.use hz ?_|refine Pure.use (UG p (by omega) (by omega)) ?_|(constructor<;>intro hc<;>(try rw[hc])<;>(replace hc:=bp hc)<;>(try simp(disch:=omega) only[Bz,wrap64,AP]at hc)<;>try(exfalso;omega))|(intro nn hnn;generalize hg:BE _ nn _=σ;refine E3 hg fun hs=>?_;clear hg)|fail)<;>conv=>whnf)
  all_goals exact AJ rfl
end Go.Gl
namespace Go.Gl
open Go.Proofs
attribute [local irreducible] Be BQ BH Ae AR BC Af Ag AT A7 AZ Ad Bk Bx Sat Au Bs BI W
abbrev pI (p:Int×Int):List V:=[eI p.1,eI p.2]
abbrev pP (l:List (Int×Int)):List (List V):=l.map pI
theorem O8:GC pI 2:=fun x=>⟨rfl,fun v hv=>by
 simp only[pI,IC,List.not_mem_nil,or_false]at hv
 rcases hv with rfl|rfl<;>rfl⟩
def N0 (p:Prog) (g:Int):Bool:=decide (0≤g)&&decide (g<(p.D6.length:Int))
def LQ (k:Int):Bool:=decide (1≤k)&&decide (k≤4)
def Fj (n:Nat) (f:Nat→Nat→Bool) (i:Nat):List (Int×Int):=((List.range n).filter (f i)).map fun(j:Nat)=>((i:Int),(j:Int))
def JR (n:Nat) (f:Nat→Nat→Bool):List (Int×Int):=(List.range n).flatMap (Fj n f)
def Dt (p:Prog) (gen kind:Int) (i j:Nat):Bool:=(DB p i).gen==gen&&((DB p i).kind==kind&&(DS p i j&&F7 p i j))
def Cr (p:Prog) (gen kind:Int):List (Int×Int)×Int:=if(Bh p).isSome&&(N0 p gen&&LQ kind)then(JR p.methods.length (Dt p gen kind),0)else([],2)
theorem nD (p:Prog) (g:Int):Pure Tryz.prog 52 [.a (Bd p),eI g] (.b (N0 p g)):=by
 refine Pure.fit (by kernel_rfl) fun hf=>?_
 have⟨p1,p2,p3,p4⟩:=GD hf.1;refine ABH nb ?_;have hs:=Sn
 conv=>whnf
 repeat'((first|apply st|(apply sq;intro K U)|(apply si;intro A B Y Z)|(apply Y;clear Z B Y A)|(apply U;clear U K)|refine⟨rfl,?_⟩|(constructor<;>intro hc<;>(try rw[hc])<;>(replace hc:=bp hc))|fail)<;>conv=>whnf)
 all_goals exact AJ (by simp[N0, *]<;>omega)
theorem um (k:Int):Pure Tryz.prog 53 [eI k] (.b (LQ k)):=by
 refine ABG nb ?_;have hs:=Sn
 conv=>whnf
 repeat'((first|apply st|(apply sq;intro K U)|(apply si;intro A B Y Z)|(apply Y;clear Z B Y A)|(apply U;clear U K)|refine⟨rfl,?_⟩|(constructor<;>intro hc<;>(try rw[hc])<;>(replace hc:=bp hc))|fail)<;>conv=>whnf)
 all_goals exact AJ (by simp[LQ, *]<;>omega)
theorem FU (n:Nat) (f:Nat→Nat→Bool) (k:Nat):(List.range (k+1)).flatMap (Fj n f)=(List.range k).flatMap (Fj n f)++Fj n f k:=by
 rw[List.range_succ,List.flatMap_append];simp
def F4 (f:Nat→Nat→Bool) (i k:Nat):List (Int×Int):=((List.range k).filter (f i)).map fun(j:Nat)=>((i:Int),(j:Int))
theorem FT (f:Nat→Nat→Bool) (i k:Nat):F4 f i (k+1)=F4 f i k++(if f i k then [((i:Int),(k:Int))]else []):=by
 rw[F4,List.range_succ,List.filter_append,TR,F4];cases h:f i k<;>simp[h]
theorem Lc (f:Nat→Nat→Bool) (i k:Nat):(F4 f i k).length≤k:=by
 rw[F4,Bz];exact Nat.le_trans (TU _ _) (by simp)
theorem G6 (n:Nat) (f:Nat→Nat→Bool) (k:Nat):((List.range k).flatMap (Fj n f)).length≤k*n:=by
 induction k with
 | zero=>simp
 | succ k ih=>
   rw[FU,QJ,Nat.succ_mul];have:=Lc f k n;have e:Fj n f k=F4 f k n:=rfl;rw[e];omega
set_option maxHeartbeats 4000000 in
theorem gZ (p : Prog) (gen kind:Int):Pure Tryz.prog 16 [.a (Bd p),eI gen,eI kind] (.t [.l (pP (Cr p gen kind).1) (if(Bh p).isSome&&(N0 p gen&&LQ kind)then false else true),eI (Cr p gen kind).2]):=by
 refine Pure.fit (by kernel_rfl) fun hf=>?_
 have⟨p1,p2,p3,p4⟩:=GD hf.1;have hM:=Mx;refine ABT nb ?_;have hs:=Sn;have c1:=bb p;have c2:=nD p gen;have c3:=um kind;cases h1:(Bh p).isSome
 ·rw[h1]at c1
  conv=>whnf
  repeat'((first|apply st|(apply sq;intro K U)|(apply si;intro A B Y Z)|(apply Y;clear Z B Y A)|(apply U;clear U K)|refine⟨nb,?_⟩|refine a7 ?_|refine Pure.use c1 ?_|clear U K)<;>conv=>whnf)
  all_goals exact AJ (by simp[Cr,h1])
 have hok:=look_ok h1;have h16:=hok.many;rw[h1]at c1;cases h2:N0 p gen
 ·rw[h2]at c2
  conv=>whnf
  repeat'((first|apply st|(apply sq;intro K U)|(apply si;intro A B Y Z)|(apply Y;clear Z B Y A)|(apply U;clear U K)|refine⟨nb,?_⟩|refine a7 ?_|refine Ts ?_|refine Pure.use c1 ?_|refine Pure.use c2 ?_|clear U K)<;>conv=>whnf)
  all_goals exact AJ (by simp[Cr,h2])
 rw[h2]at c2;cases h3:LQ kind
 ·rw[h3]at c3
  conv=>whnf
  repeat'((first|apply st|(apply sq;intro K U)|(apply si;intro A B Y Z)|(apply Y;clear Z B Y A)|(apply U;clear U K)|refine⟨nb,?_⟩|refine IE ?_|refine Ts ?_|refine Pure.use c1 ?_|refine Pure.use c2 ?_|refine Pure.use c3 ?_|clear U K)<;>conv=>whnf)
  all_goals exact AJ (by simp[Cr,h3])
 rw[h3]at c3
 conv=>whnf
 repeat'((first|apply st|(apply sq;intro K U)|(apply si;intro A B Y Z)|(apply Y;clear Z B Y A)|(apply U;clear U K)|refine⟨nb,?_⟩|refine GH ?_|refine Ts ?_|refine Pure.use c1 ?_|refine Pure.use c2 ?_|refine Pure.use c3 ?_|fail)<;>conv=>whnf)
 refine Cn p.methods.length (fun k v=>[(8,v),(9,eI (BJ k))]) (fun k v=>[.own v 2 (pP ((List.range k).flatMap (Fj p.methods.length (Dt p gen kind))))]) (fun _ _=>True) (.l [] true) rfl trivial (HI Sat.nil 2) ?_;clear hs c1 c2 c3;rintro k v σ hk - hs;rcases Bo p.methods hk with⟨x,hx,hlt⟩|hke
 ·have hck:BJ k=k:=AP (by omega)
  have hmk:Cc p (k:Int)=true:=by simp[Cc];omega
  conv=>whnf
  repeat'((first|apply st|(apply sq;intro K U)|(apply si;intro A B Y Z)|(apply Y;clear Z B Y A)|(apply U;clear U K)|refine⟨rfl,?_⟩|(refine D0 (fun hc=>?_)<;>(try rw[hc])<;>clear hc)|fail)<;>conv=>whnf)
  refine Cn p.methods.length (fun j v=>[(8,v),(10,eI (BJ j))]) (fun j v=>[.own v 2 (pP ((List.range k).flatMap (Fj p.methods.length (Dt p gen kind))++F4 (Dt p gen kind) k j))]) (fun _ _=>True) v rfl trivial (by simpa[F4]using hs) ?_;clear hs;rintro j v σ hj - hs;rcases Bo p.methods hj with⟨y,hy,hjlt⟩|hje
  ·have hcj:BJ j=j:=AP (by omega)
   have hmj:Cc p (j:Int)=true:=by simp[Cc];omega
   have c4:Pure Tryz.prog 47 [.a (Bd p),eI (BJ k),eI (BJ j)] (.b (DS p k j)):=by rw[hck,hcj];exact Ya p k j hmk hmj
   have c5:Pure Tryz.prog 39 [.a (Bd p),eI (BJ k),eI (BJ j)] (.b (F7 p k j)):=by rw[hck,hcj];exact mU p k j hok hmk hmj
   have hfl:=G6 p.methods.length (Dt p gen kind) k;have hrl:=Lc (Dt p gen kind) k j;have hkk:k*p.methods.length≤16*16:=Nat.mul_le_mul (by omega) h16
   have hll:((List.range k).flatMap (Fj p.methods.length (Dt p gen kind))++F4 (Dt p gen kind) k j).length<Ai∧(((List.range k).flatMap (Fj p.methods.length (Dt p gen kind))++F4 (Dt p gen kind) k j).length+1)*16≤140737488355328:=by
    rw[QJ];omega
   have hxe:DB p (k:Int)=x:=by
    have:=Dj hmk;rw[LG,hx]at this;exact(Option.some.inj this).symm
   have hrs:=FT (Dt p gen kind) k j;have hoe:Dt p gen kind k j=(x.gen==gen&&(x.kind==kind&&(DS p k j&&F7 p k j))):=by rw[Dt,hxe]
   have hfin: ∀ {v':V} {σ':AH} {b:Bool},Dt p gen kind k j=b→Sat σ' [.own v' 2 (pP ((List.range k).flatMap (Fj p.methods.length (Dt p gen kind))++F4 (Dt p gen kind) k j++(if b then [((k:Int),(j:Int))]else [])))]→Sat σ' [.own v' 2 (pP ((List.range k).flatMap (Fj p.methods.length (Dt p gen kind))++F4 (Dt p gen kind) k (j+1)))]:=fun hb h=>by
    rw[hrs,←TV,hb];exact h
   by_cases hg:x.gen=gen
   ·by_cases hkd:x.kind=kind
    ·cases hal:DS p k j<;>rw[hal]at c4
     ·conv=>whnf
      repeat'((first|apply st|(apply sq;intro K U)|(apply si;intro A B Y Z)|(apply Y;clear Z B Y A)|(apply U;clear U K)|refine⟨rfl,?_⟩|refine⟨nb,?_⟩|refine ix ?_|refine GH ?_|(refine D0 (fun hc=>?_)<;>(try rw[hc])<;>clear hc)|refine Pure.use c4 ?_|(constructor<;>intro hc<;>(try rw[hc])<;>(replace hc:=bp hc)<;>try(exfalso;omega))|clear U K)<;>conv=>whnf)
      all_goals exact⟨hjlt,_,rfl,trivial,hfin (b:=false) (by rw[hoe,hal];simp) (by simpa using hs)⟩
     ·cases hah:F7 p k j<;>rw[hah]at c5
      ·conv=>whnf
       repeat'((first|apply st|(apply sq;intro K U)|(apply si;intro A B Y Z)|(apply Y;clear Z B Y A)|(apply U;clear U K)|refine⟨rfl,?_⟩|refine⟨nb,?_⟩|refine ix ?_|refine IE ?_|refine GH ?_|(refine D0 (fun hc=>?_)<;>(try rw[hc])<;>clear hc)|refine Pure.use c4 ?_|refine Pure.use c5 ?_|(constructor<;>intro hc<;>(try rw[hc])<;>(replace hc:=bp hc)<;>try(exfalso;omega))|clear U K)<;>conv=>whnf)
       all_goals exact⟨hjlt,_,rfl,trivial,hfin (b:=false) (by rw[hoe,hah];simp) (by simpa using hs)⟩
      ·conv=>whnf
       repeat'((first|apply st|(apply sq;intro K U)|(apply si;intro A B Y Z)|(apply Y;clear Z B Y A)|(apply U;clear U K)|refine⟨rfl,?_⟩|refine⟨nb,?_⟩|refine ix ?_|refine IE ?_|(refine D0 (fun hc=>?_)<;>(try rw[hc])<;>clear hc)|refine Pure.use c4 ?_|refine Pure.use c5 ?_|refine aq (enc:=pI) (x:=((_:Int),(_:Int))) (fun v σ hs hsl=>?_) (hg:=O8)|(constructor<;>intro hc<;>(try rw[hc])<;>(replace hc:=bp hc)<;>try(exfalso;omega))|clear U K)<;>conv=>whnf)
       all_goals exact⟨hjlt,_,rfl,trivial,hfin (b:=true) (by rw[hoe,hah,hal];simp[hg,hkd]) (by rw[if_pos rfl,←hck,←hcj];exact hs)⟩
    ·conv=>whnf
     repeat'((first|apply st|(apply sq;intro K U)|(apply si;intro A B Y Z)|(apply Y;clear Z B Y A)|(apply U;clear U K)|refine⟨rfl,?_⟩|refine ix ?_|(refine D0 (fun hc=>?_)<;>(try rw[hc])<;>clear hc)|(constructor<;>intro hc<;>(try rw[hc])<;>(replace hc:=bp hc)<;>try(exfalso;omega))|clear U K)<;>conv=>whnf)
     all_goals exact⟨hjlt,_,rfl,trivial,hfin (b:=false) (by rw[hoe];simp[hkd]) (by simpa using hs)⟩
   ·conv=>whnf
    repeat'((first|apply st|(apply sq;intro K U)|(apply si;intro A B Y Z)|(apply Y;clear Z B Y A)|(apply U;clear U K)|refine⟨rfl,?_⟩|refine ix ?_|(refine D0 (fun hc=>?_)<;>(try rw[hc])<;>clear hc)|(constructor<;>intro hc<;>(try rw[hc])<;>(replace hc:=bp hc)<;>try(exfalso;omega))|clear U K)<;>conv=>whnf)
    all_goals exact⟨hjlt,_,rfl,trivial,hfin (b:=false) (by rw[hoe];simp[hg]) (by simpa using hs)⟩
  ·conv=>whnf
   repeat'((first|apply st|(apply sq;intro K U)|(apply si;intro A B Y Z)|(apply Y;clear Z B Y A)|(apply U;clear U K)|refine⟨rfl,?_⟩|(refine Fh (fun hc=>?_)<;>(try rw[hc])<;>clear hc)|clear U K)<;>conv=>whnf)
   exact⟨hlt,_,rfl,trivial,by rw[FU];rw[hje]at hs;exact hs⟩
 ·conv=>whnf
  repeat'((first|apply st|(apply sq;intro K U)|(apply si;intro A B Y Z)|(apply Y;clear Z B Y A)|(apply U;clear U K)|refine⟨rfl,?_⟩|(refine Fh (fun hc=>?_)<;>(try rw[hc])<;>clear hc)|clear U K)<;>conv=>whnf)
  have e:Cr p gen kind=(JR p.methods.length (Dt p gen kind),0):=by simp[Cr,h1,h2,h3]
  rw[hke]at hs;rw[e];exact B0 (.t (.cons (hs.I6 0 rfl) (.cons (.refl _) .nil)))
def ID (p:Prog) (gen:Int) (i j:Nat):Bool:=decide (i<j)&&((DB p i).gen==gen&&(DS p i j&&(FO p i j&&FO p j i)))
def ET (p:Prog) (gen:Int):List (Int×Int)×Int:=if(Bh p).isSome&&N0 p gen then(JR p.methods.length (ID p gen),0)else([],2)
theorem bZ (p:Prog) (gen:Int) (i:Nat): ∀k,k≤i+1→F4 (ID p gen) i k= []
 | 0,_=>rfl
 | k+1,h=>by
   rw[FT,bZ p gen i k (by omega),ID,decide_eq_false (by omega)];rfl
set_option maxHeartbeats 4000000 in
theorem ft (p : Prog) (gen:Int):Pure Tryz.prog 18 [.a (Bd p),eI gen] (.t [.l (pP (ET p gen).1) (if(Bh p).isSome&&N0 p gen then false else true),eI (ET p gen).2]):=by
 refine Pure.fit (by kernel_rfl) fun hf=>?_
 have⟨p1,p2,p3,p4⟩:=GD hf.1;have hM:=Mx;refine ABR nb ?_;have hs:=Sn;have c1:=bb p;have c2:=nD p gen;cases h1:(Bh p).isSome
 ·rw[h1]at c1
  conv=>whnf
  repeat'((first|apply st|(apply sq;intro K U)|(apply si;intro A B Y Z)|(apply Y;clear Z B Y A)|(apply U;clear U K)|refine⟨nb,?_⟩|refine a7 ?_|refine Pure.use c1 ?_|clear U K)<;>conv=>whnf)
  all_goals exact AJ (by simp[ET,h1])
 have hok:=look_ok h1;have h16:=hok.many;rw[h1]at c1;cases h2:N0 p gen
 ·rw[h2]at c2
  conv=>whnf
  repeat'((first|apply st|(apply sq;intro K U)|(apply si;intro A B Y Z)|(apply Y;clear Z B Y A)|(apply U;clear U K)|refine⟨nb,?_⟩|refine IE ?_|refine Ts ?_|refine Pure.use c1 ?_|refine Pure.use c2 ?_|clear U K)<;>conv=>whnf)
  all_goals exact AJ (by simp[ET,h2])
 rw[h2]at c2
 conv=>whnf
 repeat'((first|apply st|(apply sq;intro K U)|(apply si;intro A B Y Z)|(apply Y;clear Z B Y A)|(apply U;clear U K)|refine⟨nb,?_⟩|refine GH ?_|refine Ts ?_|refine Pure.use c1 ?_|refine Pure.use c2 ?_|fail)<;>conv=>whnf)
 refine Cn p.methods.length (fun k v=>[(6,v),(7,eI (BJ k))]) (fun k v=>[.own v 2 (pP ((List.range k).flatMap (Fj p.methods.length (ID p gen))))]) (fun _ _=>True) (.l [] true) rfl trivial (HI Sat.nil 2) ?_;clear hs c1 c2;rintro k v σ hk - hs;rcases Bo p.methods hk with⟨x,hx,hlt⟩|hke
 ·have hck:BJ k=k:=AP (by omega)
  have hmk:Cc p (k:Int)=true:=by simp[Cc];omega
  have hxe:DB p (k:Int)=x:=by
   have:=Dj hmk;rw[LG,hx]at this;exact(Option.some.inj this).symm
  conv=>whnf
  repeat'((first|apply st|(apply sq;intro K U)|(apply si;intro A B Y Z)|(apply Y;clear Z B Y A)|(apply U;clear U K)|refine⟨rfl,?_⟩|(refine D0 (fun hc=>?_)<;>(try rw[hc])<;>clear hc)|fail)<;>conv=>whnf)
  refine Cn (p.methods.length - (k+1)) (fun j v=>[(6,v),(8,eI (BJ (k+1+j)))]) (fun j v=>[.own v 2 (pP ((List.range k).flatMap (Fj p.methods.length (ID p gen))++F4 (ID p gen) k (k+1+j)))]) (fun _ _=>True) v rfl trivial (by rw[bZ p gen k _ (J1 _),J9];exact hs) ?_;clear hs;rintro j v σ hj - hs;rcases Bo p.methods (k:=k+1+j) (by omega)with⟨y,hy,hjlt⟩|hje
  ·have hcj:BJ (k+1+j)=(k+1+j:Nat):=AP (by omega)
   have hmj:Cc p ((k+1+j:Nat):Int)=true:=by simp[Cc];omega
   have c4:Pure Tryz.prog 47 [.a (Bd p),eI (BJ k),eI (BJ (k+1+j))] (.b (DS p k (k+1+j:Nat))):=by rw[hck,hcj];exact Ya p k (k+1+j:Nat) hmk hmj
   have c5:Pure Tryz.prog 55 [.a (Bd p),eI (BJ k),eI (BJ (k+1+j))] (.b (FO p k (k+1+j:Nat))):=by rw[hck,hcj];exact Jv p k (k+1+j:Nat) hok hmk hmj
   have c6:Pure Tryz.prog 55 [.a (Bd p),eI (BJ (k+1+j)),eI (BJ k)] (.b (FO p (k+1+j:Nat) k)):=by rw[hck,hcj];exact Jv p (k+1+j:Nat) k hok hmj hmk
   have hfl:=G6 p.methods.length (ID p gen) k;have hrl:=Lc (ID p gen) k (k+1+j);have hkk:k*p.methods.length≤16*16:=Nat.mul_le_mul (by omega) h16
   have hll:((List.range k).flatMap (Fj p.methods.length (ID p gen))++F4 (ID p gen) k (k+1+j)).length<Ai∧(((List.range k).flatMap (Fj p.methods.length (ID p gen))++F4 (ID p gen) k (k+1+j)).length+1)*16≤140737488355328:=by
    rw[QJ];omega
   have hrs:=FT (ID p gen) k (k+1+j);have hoe:ID p gen k (k+1+j)=(x.gen==gen&&(DS p k (k+1+j:Nat)&&(FO p k (k+1+j:Nat)&&FO p (k+1+j:Nat) k))):=by rw[ID,hxe,decide_eq_true (by omega),I7]
   have hfin: ∀ {v':V} {σ':AH} {b:Bool},ID p gen k (k+1+j)=b→Sat σ' [.own v' 2 (pP ((List.range k).flatMap (Fj p.methods.length (ID p gen))++F4 (ID p gen) k (k+1+j)++(if b then [((k:Int),((k+1+j:Nat):Int))]else [])))]→Sat σ' [.own v' 2 (pP ((List.range k).flatMap (Fj p.methods.length (ID p gen))++F4 (ID p gen) k (k+1+(j+1))))]:=fun hb h=>by
    rw[show k+1+(j+1)=k+1+j+1 from rfl,hrs,←TV,hb];exact h
   by_cases hg:x.gen=gen
   ·cases hal:DS p k (k+1+j:Nat)<;>rw[hal]at c4
    ·conv=>whnf
     repeat'((first|apply st|(apply sq;intro K U)|(apply si;intro A B Y Z)|(apply Y;clear Z B Y A)|(apply U;clear U K)|refine⟨rfl,?_⟩|refine⟨nb,?_⟩|refine ix ?_|refine GH ?_|(refine D0 (fun hc=>?_)<;>(try rw[hc])<;>clear hc)|refine Pure.use c4 ?_|(constructor<;>intro hc<;>(try rw[hc])<;>(replace hc:=bp hc)<;>try(exfalso;omega))|clear U K)<;>conv=>whnf)
     all_goals exact⟨by omega,_,rfl,trivial,hfin (b:=false) (by rw[hoe,hal];simp) (by simpa using hs)⟩
    ·cases hi1:FO p k (k+1+j:Nat)<;>rw[hi1]at c5
     ·conv=>whnf
      repeat'((first|apply st|(apply sq;intro K U)|(apply si;intro A B Y Z)|(apply Y;clear Z B Y A)|(apply U;clear U K)|refine⟨rfl,?_⟩|refine⟨nb,?_⟩|refine ix ?_|refine IE ?_|refine GH ?_|(refine D0 (fun hc=>?_)<;>(try rw[hc])<;>clear hc)|refine Pure.use c4 ?_|refine Pure.use c5 ?_|(constructor<;>intro hc<;>(try rw[hc])<;>(replace hc:=bp hc)<;>try(exfalso;omega))|clear U K)<;>conv=>whnf)
      all_goals exact⟨by omega,_,rfl,trivial,hfin (b:=false) (by rw[hoe,hi1];simp) (by simpa using hs)⟩
     ·cases hi2:FO p (k+1+j:Nat) k<;>rw[hi2]at c6
      ·conv=>whnf
       repeat'((first|apply st|(apply sq;intro K U)|(apply si;intro A B Y Z)|(apply Y;clear Z B Y A)|(apply U;clear U K)|refine⟨rfl,?_⟩|refine⟨nb,?_⟩|refine ix ?_|refine IE ?_|refine GH ?_|(refine D0 (fun hc=>?_)<;>(try rw[hc])<;>clear hc)|refine Pure.use c4 ?_|refine Pure.use c5 ?_|refine Pure.use c6 ?_|(constructor<;>intro hc<;>(try rw[hc])<;>(replace hc:=bp hc)<;>try(exfalso;omega))|clear U K)<;>conv=>whnf)
       all_goals exact⟨by omega,_,rfl,trivial,hfin (b:=false) (by rw[hoe,hi2];simp) (by simpa using hs)⟩
      ·conv=>whnf
       repeat'((first|apply st|(apply sq;intro K U)|(apply si;intro A B Y Z)|(apply Y;clear Z B Y A)|(apply U;clear U K)|refine⟨rfl,?_⟩|refine⟨nb,?_⟩|refine ix ?_|refine IE ?_|(refine D0 (fun hc=>?_)<;>(try rw[hc])<;>clear hc)|refine Pure.use c4 ?_|refine Pure.use c5 ?_|refine Pure.use c6 ?_|refine aq (enc:=pI) (x:=((_:Int),(_:Int))) (fun v σ hs hsl=>?_) (hg:=O8)|(constructor<;>intro hc<;>(try rw[hc])<;>(replace hc:=bp hc)<;>try(exfalso;omega))|clear U K)<;>conv=>whnf)
       all_goals exact⟨by omega,_,rfl,trivial,hfin (b:=true) (by rw[hoe,hal,hi1,hi2];simp[hg]) (by rw[if_pos rfl,←hck,←hcj];exact hs)⟩
   ·conv=>whnf
    repeat'((first|apply st|(apply sq;intro K U)|(apply si;intro A B Y Z)|(apply Y;clear Z B Y A)|(apply U;clear U K)|refine⟨rfl,?_⟩|refine ix ?_|(refine D0 (fun hc=>?_)<;>(try rw[hc])<;>clear hc)|(constructor<;>intro hc<;>(try rw[hc])<;>(replace hc:=bp hc)<;>try(exfalso;omega))|clear U K)<;>conv=>whnf)
    all_goals exact⟨by omega,_,rfl,trivial,hfin (b:=false) (by rw[hoe];simp[hg]) (by simpa using hs)⟩
  ·conv=>whnf
   repeat'((first|apply st|(apply sq;intro K U)|(apply si;intro A B Y Z)|(apply Y;clear Z B Y A)|(apply U;clear U K)|refine⟨rfl,?_⟩|(refine Fh (fun hc=>?_)<;>(try rw[hc])<;>clear hc)|clear U K)<;>conv=>whnf)
   exact⟨hlt,_,rfl,trivial,by rw[FU];rw[hje]at hs;exact hs⟩
 ·conv=>whnf
  repeat'((first|apply st|(apply sq;intro K U)|(apply si;intro A B Y Z)|(apply Y;clear Z B Y A)|(apply U;clear U K)|refine⟨rfl,?_⟩|(refine Fh (fun hc=>?_)<;>(try rw[hc])<;>clear hc)|clear U K)<;>conv=>whnf)
  have e:ET p gen=(JR p.methods.length (ID p gen),0):=by simp[ET,h1,h2]
  rw[hke]at hs;rw[e];exact B0 (.t (.cons (hs.I6 0 rfl) (.cons (.refl _) .nil)))
abbrev rkC (p:Prog) (L:Nat):List V:=Bd p++(BR (Ab p)++[.m L])
abbrev MQ (p:Prog) (L:Nat):V:= .rp (rkC p L)
abbrev kM (x:Int×Int):V:= .a [eI x.1,eI x.2]
def Ka (p:Prog) (M:List (Int×Int)):List (V×V):=M.map fun x=>(kM x,.b (FO p x.1 x.2))
theorem PM (p:Prog) (M:List (Int×Int)): ∀kv∈Ka p M,Ba (.a [.i64,.i64]) kv.1=true:=by
 intro kv h;obtain⟨e,_,rfl⟩:=Ob.1 h;rfl
theorem nA (x y:Int×Int):EB (kM x) (kM y)=(x==y):=by
 obtain⟨a,b⟩:=x;obtain⟨c,d⟩:=y;have e:EB (kM (a,b)) (kM (c,d))=(a==c&&b==d):=by simp[EB,B6,kM]
 rw[e];rfl
theorem Uj (p:Prog) (x:Int×Int): ∀(M:List (Int×Int)),Cq (kM x) (Ka p M)=if M.contains x then some (.b (FO p x.1 x.2))else none
 | []=>rfl
 | y ::r=>by
   rw[Ka,Fa,Cq,nA,List.contains_cons];cases h:x==y
   ·rw[cond_false,Bool.false_or]
    exact Uj p x r
   ·rw[cond_true,Bool.true_or,if_pos rfl]
    have:x=y:=by simpa using h
    rw[this]
theorem X5 (p:Prog) (x:Int×Int): ∀(M:List (Int×Int)),M.contains x=false→D9 (kM x) (.b (FO p x.1 x.2)) (Ka p M)=Ka p (M++[x])
 | [],_=>rfl
 | y::r,h=>by
   rw[List.contains_cons,Bool.or_eq_false_iff]at h;have ih:=X5 p x r h.2;simp only[Ka]at ih;rw[Ka,Fa,D9,nA,h.1,cond_false,ih];rfl
theorem UZ (p:Prog):B9 Tryz.prog 42 [.a (Bd p)] [] fun r post=>if(Bh p).isSome then∃L,r= .ret (MQ p L)∧post= [.map L []]else r= .ret .pn∧post= []:=by
 intro σ hs;have hw:=mY p;cases h:(Bh p).isSome<;>rw[h]at hw
 ·simp only[NN,if_false]at hw ⊢
  refine qu nb ?_
  conv=>whnf
  repeat'((first|apply st|(apply sq;intro K U)|(apply si;intro A B Y Z)|(apply Y;clear Z B Y A)|(apply U;clear U K)|refine⟨rfl,?_⟩|refine⟨nb,?_⟩|refine HZ fun σ hs=>?_|refine Pure.use hw ?_|(constructor<;>intro hc<;>(try rw[hc])<;>(replace hc:=bp hc)<;>try(exfalso;omega))|(intro nn hnn;generalize hg:BE _ nn _=σ;refine E3 hg fun hs=>?_;clear hg)|clear U K)<;>conv=>whnf)
  exact AQ ⟨_,⟨rfl,rfl⟩,hs.less (QN _)⟩
 ·simp only[if_true]at hw ⊢
  refine qu nb ?_
  conv=>whnf
  repeat'((first|apply st|(apply sq;intro K U)|(apply si;intro A B Y Z)|(apply Y;clear Z B Y A)|(apply U;clear U K)|refine⟨rfl,?_⟩|refine⟨nb,?_⟩|refine ld ?_|refine HZ fun σ hs=>?_|refine Pure.use hw ?_|(constructor<;>intro hc<;>(try rw[hc])<;>(replace hc:=bp hc)<;>(try simp(disch:=omega) only[Bz,wrap64,AP]at hc)<;>try(exfalso;omega))|(intro nn hnn;generalize hg:BE _ nn _=σ;refine E3 hg fun hs=>?_;clear hg)|fail)<;>conv=>whnf)
  exact AQ ⟨_,⟨nn,rfl,rfl⟩,hs.less (.cons₂ _ (QN _))⟩
theorem Yb (p:Prog) (L:Nat) (m n:Int) (hm:Cc p m=true) (hn:Cc p n=true):Pure Tryz.prog 44 [MQ p L,eI m,eI n] (.b (DS p m n)):=by
 refine Pure.fit (by kernel_rfl) fun hf=>?_
 have hxm:=Dj hm;have hxn:=Dj hn;simp only[Cc,Bj,D4]at hm hn;refine ABM nb ?_;have hs:=Sn
 conv=>whnf
 repeat'((first|apply st|(apply sq;intro K U)|(apply si;intro A B Y Z)|(apply Y;clear Z B Y A)|(apply U;clear U K)|apply dr|refine rk ?_ ?_|exact fun s e=>by cases e;rfl|refine⟨rfl,?_⟩|refine⟨nb,?_⟩|refine Tb ?_|refine ld ?_|refine HZ fun σ hs=>?_|(constructor<;>intro hc<;>(try rw[hc])<;>(replace hc:=bp hc))|(intro nn hnn;generalize hg:BE _ nn _=σ;refine E3 hg fun hs=>?_;clear hg)|fail)<;>conv=>whnf)
 all_goals exact AJ (by simp[DS, *])
theorem YE {p:Prog} (h:(Bh p).isSome=true): ∀x∈p.methods,E6 (Ab p) x.fact=true:=fun x hx=>by
 have:=(H3 h).2 x hx;simp only[QK,Bj]at this;exact this.2.2.2.2.1
theorem Na (xs ys:List (Int×Int)) (f g:Bool) (hl:xs.length≤1000) (hm:ys.length≤1000):Pure Tryz.prog 19 [.l (pP xs) f,.l (pP ys) g] (.b (xs==ys)):=by
 have hM:=Mx;refine ABQ nb ?_;have hs:=Sn;by_cases hlen:xs.length=ys.length
 ·conv=>whnf
  repeat'((first|apply st|(apply sq;intro K U)|(apply si;intro A B Y Z)|(apply Y;clear Z B Y A)|(apply U;clear U K)|refine⟨rfl,?_⟩|(constructor<;>intro hc<;>(try rw[hc])<;>(replace hc:=bp hc)<;>(try simp(disch:=omega) only[Bz,wrap64,AP]at hc)<;>try(exfalso;omega))|fail)<;>conv=>whnf)
  refine Cn xs.length (fun k (_:Unit)=>[(5,eI (BJ k))]) (fun _ _=>[]) (fun k _=>(xs==ys)=(xs.drop k==ys.drop k)) () rfl rfl Sat.nil ?_;clear hs;rintro k - σ hk hn hs;rcases Bo xs hk with⟨x,hx,hlt⟩|hke
  ·obtain⟨y,hy⟩: ∃y,ys[k]? =some y:=⟨_,FD (by omega)⟩
   rw[drop_cons hx,drop_cons hy]at hn
   conv=>whnf
   repeat'((first|apply st|(apply sq;intro K U)|(apply si;intro A B Y Z)|(apply Y;clear Z B Y A)|(apply U;clear U K)|apply dr|refine⟨rfl,?_⟩|refine⟨nb,?_⟩|refine ix ?_|(refine D0 (fun hc=>?_)<;>(try rw[hc])<;>clear hc)|(constructor<;>intro hc<;>(try rw[hc])<;>(replace hc:=bp hc)<;>(try simp(disch:=omega) only[Bz,wrap64,AP]at hc))|clear U K)<;>conv=>whnf)
   ·refine AJ ?_
    rw[hn];congr 1;rw[Bool.and_true]at hc;rw[List.cons_beq_cons,show(x==y)=(x.1==y.1&&x.2==y.2) from rfl,hc];rfl
   ·refine⟨hlt,(),rfl,?_,hs⟩
    rw[Bool.and_true]at hc;rw[hn,List.cons_beq_cons,show(x==y)=(x.1==y.1&&x.2==y.2) from rfl,hc,I7]
  ·conv=>whnf
   repeat'((first|apply st|(apply sq;intro K U)|(apply si;intro A B Y Z)|(apply Y;clear Z B Y A)|(apply U;clear U K)|refine⟨rfl,?_⟩|(refine Fh (fun hc=>?_)<;>(try rw[hc])<;>clear hc)|clear U K)<;>conv=>whnf)
   exact AJ (by rw[hn,As hke,As (by omega)];rfl)
 ·conv=>whnf
  repeat'((first|apply st|(apply sq;intro K U)|(apply si;intro A B Y Z)|(apply Y;clear Z B Y A)|(apply U;clear U K)|refine⟨rfl,?_⟩|(constructor<;>intro hc<;>(try rw[hc])<;>(replace hc:=bp hc)<;>(try simp(disch:=omega) only[Bz,wrap64,AP]at hc)<;>try(exfalso;omega))|clear U K)<;>conv=>whnf)
  exact AJ (by(have:(xs==ys)=false:=by(simp;intro e;subst e;exact hlen rfl));rw[this])
theorem nE (p:Prog) (L:Nat) (g:Int):Pure Tryz.prog 49 [MQ p L,eI g] (.b (N0 p g)):=by
 refine Pure.fit (by kernel_rfl) fun hf=>?_
 have hM:=Mx;refine qt nb ?_;have hs:=Sn
 conv=>whnf
 repeat'((first|apply st|(apply sq;intro K U)|(apply si;intro A B Y Z)|(apply Y;clear Z B Y A)|(apply U;clear U K)|refine⟨rfl,?_⟩|(constructor<;>intro hc<;>(try rw[hc])<;>(replace hc:=bp hc))|fail)<;>conv=>whnf)
 all_goals exact AJ (by simp[N0, *]<;>omega)
theorem cE (g:Int):Pure Tryz.prog 49 [.pn,eI g] (.b false):=by
 refine qt nb ?_;have hs:=Sn
 conv=>whnf
 repeat'((first|apply st|(apply sq;intro K U)|(apply si;intro A B Y Z)|(apply Y;clear Z B Y A)|(apply U;clear U K)|refine GH ?_|fail)<;>conv=>whnf)
 all_goals exact AJ rfl
theorem ai (p:Prog) (L:Nat) (g:Int):Pure Tryz.prog 50 [MQ p L,eI g] (.f (.func 75) [] [.rp [MQ p L],.rp [eI g]]):=by
 refine ABJ nb ?_;have hs:=Sn
 conv=>whnf
 repeat'((first|apply st|(apply sq;intro K U)|(apply si;intro A B Y Z)|(apply Y;clear Z B Y A)|(apply U;clear U K)|fail)<;>conv=>whnf)
 all_goals exact AJ rfl
theorem cV (xs:List (Int×Int)) (v:V) (hl:xs.length≤Ai):B9 Tryz.prog 51 [v] [.own v 2 (pP xs)] fun r post=>r= .ret (.l (pP xs) true)∧post= []:=by
 intro σ hs;have hg:=ER O8 xs;refine ABI nb ?_
 conv=>whnf
 repeat'((first|(apply sq;intro K U)|(apply si;intro A B Y Z)|(apply Y;clear Z B Y A)|(apply U;clear U K)|refine lo ?_|fail)<;>conv=>whnf)
 refine bJ (i:=0) hs rfl hg.1 (by simpa using hl) fun σ hs=>?_
 conv=>whnf
 repeat'((first|apply st|(apply Y;clear Z B Y A)|(apply U;clear U K)|fail)<;>conv=>whnf)
 exact BD hs (List.Sublist.refl _) (.refl _) fun σ' hs'=>⟨_,⟨rfl,rfl⟩,hs'⟩
def MY (M:List (Int×Int)) (x:Int×Int):List (Int×Int):=if M.contains x then M else M++[x]
def V4 (p:Prog) (M:List (Int×Int)) (m n:Int):List (Int×Int):=if FO p m n then MY (MY M (m,n)) (n,m)else MY M (m,n)
theorem Ig (p:Prog) (L:Nat) (m n:Int) (hk:O4 p) (hgw:Fs (Ab p)) (hfm: ∀x∈p.methods,E6 (Ab p) x.fact=true) (hm:Cc p m=true) (hn:Cc p n=true) (M:List (Int×Int)) :
 B9 Tryz.prog 54 [MQ p L,eI m,eI n] [.map L (Ka p M)] fun r post=>r= .ret (.b (FO p m n))∧post= [.map L (Ka p (MY M (m,n)))]:=by
 intro σ hs;have hxm:=Dj hm;have hxn:=Dj hn;have hmm:=DM hxm;have hmn:=DM hxn;have hip:=aG (Ab p) hgw (DB p m).fact (DB p n).fact (hfm _ hmm) (hfm _ hmn) (hk.facts _ hmm).1 (hk.facts _ hmn).1 (by have:=(hk.facts _ hmm).2;have:=(hk.facts _ hmn).2;omega);simp only[Cc,Bj,D4]at hm hn;have hfd:=Uj p (m,n) M;refine ABF nb ?_;cases hc:M.contains (m,n)
 ·rw[hc,if_neg (by decide)]at hfd
  conv=>whnf
  repeat'((first|apply st|(apply sq;intro K U)|(apply si;intro A B Y Z)|(apply Y;clear Z B Y A)|(apply U;clear U K)|apply dr|refine⟨nb,?_⟩|refine Tb ?_|refine ld ?_|refine HZ fun σ hs=>?_|refine IE ?_|refine SQ hs 1 rfl rfl (PM _ _) hfd ?_|refine Lg hs 1 rfl rfl (PM _ _) fun σ hs=>?_|refine Pure.use hip ?_|(intro nn hnn;generalize hg:BE _ nn _=σ;refine E3 hg fun hs=>?_;clear hg)|fail)<;>conv=>whnf)
  replace hs:Sat σ [.box nn [eI m,eI n],.map L (D9 (kM (m,n)) (.b (FO p m n)) (Ka p M))]:=hs;rw[X5 p (m,n) M hc]at hs;exact AQ ⟨_,⟨rfl,rfl⟩,by rw[MY,hc];exact hs.less (Oa _ _)⟩
 ·rw[hc,if_pos rfl]at hfd
  conv=>whnf
  repeat'((first|apply st|(apply sq;intro K U)|(apply si;intro A B Y Z)|(apply Y;clear Z B Y A)|(apply U;clear U K)|apply dr|refine⟨nb,?_⟩|refine ld ?_|refine HZ fun σ hs=>?_|refine GH ?_|refine SQ hs 1 rfl rfl (PM _ _) hfd ?_|(intro nn hnn;generalize hg:BE _ nn _=σ;refine E3 hg fun hs=>?_;clear hg)|fail)<;>conv=>whnf)
  exact AQ ⟨_,⟨rfl,rfl⟩,by rw[MY,hc];exact hs.less (Oa _ _)⟩
theorem eo (p:Prog) (L:Nat) (m n:Int) (hk:O4 p) (hgw:Fs (Ab p)) (hfm: ∀x∈p.methods,E6 (Ab p) x.fact=true) (hm:Cc p m=true) (hn:Cc p n=true) (M:List (Int×Int)) :
 B9 Tryz.prog 45 [MQ p L,eI m,eI n] [.map L (Ka p M)] fun r post=>r= .ret (.b (F7 p m n))∧post= [.map L (Ka p (V4 p M m n))]:=by
 intro σ hs;have h1:=fun M=>Ig p L m n hk hgw hfm hm hn M
 have h2:=fun M=>Ig p L n m hk hgw hfm hn hm M
 unfold F7 V4;cases hb1:FO p m n<;>cases hb2:FO p n m<;>rw[hb1]at h1<;>rw[hb2]at h2
 all_goals
  refine ABL nb ?_
  conv=>whnf
  repeat'((first|(apply sq;intro K U)|(apply si;intro A B Y Z)|(apply Y;clear Z B Y A)|(apply U;clear U K)|fail)<;>conv=>whnf)
  refine(h1 M).use (rest:=[]) (by simpa using hs) ?_;clear hs;rintro r post σ ⟨rfl,rfl⟩ hs
  conv=>whnf
  repeat'((first|apply st|(apply Y;clear Z B Y A)|(apply U;clear U K)|fail)<;>conv=>whnf)
 ·exact AQ ⟨_,⟨rfl,rfl⟩,hs⟩
 ·exact AQ ⟨_,⟨rfl,rfl⟩,hs⟩
 all_goals
  refine(h2 _).use (rest:=[]) (by simpa using hs) ?_;clear hs;rintro r post σ ⟨rfl,rfl⟩ hs
  conv=>whnf
  repeat'((first|apply st|(apply Y;clear Z B Y A)|(apply U;clear U K)|fail)<;>conv=>whnf)
  exact AQ ⟨_,⟨rfl,rfl⟩,hs⟩
end Go.Gl
namespace Go.Gl
variable {P:Program} {σ:AH}
theorem yz {L:Nat} {args:List V} {Q:R→AH→Prop} (h:N6 P L args σ Q):Bk P (.f (.yield L) [] []) args σ Q:=h
theorem HB {L:Nat} {E:Env} {ps:List Nat} {a b:AI} {args:List V} {l:List At} (hl:args.length=ps.length) (hs:Sat σ (.obj L (.loop .ready E (CI P ps a b))::l)) {Q:R→AH→Prop}
 (h: ∀σ,Sat σ l→W P a (DE (W P b fun ex env' σ'=>σ' L=none→Sf L E (CI P ps a b) Q ex env' σ')) (E7 ps args E) σ):N6 P L args σ Q:=
 P8 (hs.get (i:=0) rfl) hl (h _ hs.del)
end Go.Gl
namespace Go.Gl
open Go.Proofs
attribute [local irreducible] Be BQ BH Ae AR BC Af Ag AT A7 AZ Ad Bk Bx Sat Au Bs BI W
theorem AAk (p:Prog) (L:Nat) (g:Int) (h16:p.methods.length≤16) {S:Type} {fn:Fn} {fi ca:List V} {H:S→List At} (Inv:Nat→S→Prop) {s:S} (h0:Inv 0 s)
 (hsk: ∀k s,k<p.methods.length→(DB p (k:Nat)).gen≠g→Inv k s→Inv (k+1) s)
 (hT: ∀(k:Nat) s,k<p.methods.length→(DB p (k:Nat)).gen=g→Inv k s→ ∀(rest:List At) (σ:AH),Sat σ (H s++rest)→Bk Tryz.prog (.f fn fi ca) [eI (k:Int)] σ fun r σ'=> ∃s',r= .ret (.b true)∧Inv (k+1) s'∧Sat σ' (H s'++rest)) (σ:AH) (hs:Sat σ (H s)) :
 Be Tryz.prog 75 [.f fn fi ca,.rp [MQ p L],.rp [eI g]] σ fun r σ'=> ∃s',r= .ret (.t [])∧Inv p.methods.length s'∧Sat σ' (H s'):=by
 have hM:=Mx;refine ABB nb ?_
 conv=>whnf
 repeat'((first|apply st|(apply sq;intro K U)|(apply si;intro A B Y Z)|(apply Y;clear Z B Y A)|(apply U;clear U K)|fail)<;>conv=>whnf)
 refine Cn p.methods.length (fun k (_:S)=>[(12,eI (BJ k))]) (fun _ s'=>H s') (fun k s'=>Inv k s') s rfl h0 hs ?_;clear hs;rintro k s' σ hk ho hs;rcases Bo p.methods hk with⟨x,hx,hlt⟩|hke
 ·have hck:BJ k=k:=AP (by omega)
  have hxe:DB p (k:Int)=x:=by
   have:=Dj (p:=p) (m:=k) (by simp[Cc];omega);rw[LG,hx]at this;exact(Option.some.inj this).symm
  have hsk':=hsk k s' hlt;have hT':=hT k s' hlt;rw[hxe]at hsk' hT';rw[←hck]at hT';by_cases hg:x.gen=g
  ·conv=>whnf
   repeat'((first|apply st|(apply sq;intro K U)|(apply si;intro A B Y Z)|(apply Y;clear Z B Y A)|(apply U;clear U K)|refine⟨rfl,?_⟩|refine⟨nb,?_⟩|refine ix ?_|refine ld ?_|refine HZ fun σ hs=>?_|(refine D0 (fun hc=>?_)<;>(try rw[hc])<;>clear hc)|(constructor<;>intro hc<;>(try rw[hc])<;>(replace hc:=bp hc)<;>try(exfalso;omega))|(intro nn hnn;generalize hg:BE _ nn _=σ;refine E3 hg fun hs=>?_;clear hg)|fail)<;>conv=>whnf)
   refine(hT' hg ho [_] σ (Sat.perm hs (List.perm_append_singleton _ _).symm)).mono ?_;rintro r σ ⟨s2,rfl,hi2,hs⟩
   conv=>whnf
   repeat'((first|apply st|(apply si;intro A B Y Z)|(apply Y;clear Z B Y A)|(apply U;clear U K)|refine⟨rfl,?_⟩|refine GH ?_|fail)<;>conv=>whnf)
   exact⟨hlt,_,rfl,hi2,hs.less (List.sublist_append_left _ _)⟩
  ·conv=>whnf
   repeat'((first|apply st|(apply sq;intro K U)|(apply si;intro A B Y Z)|(apply Y;clear Z B Y A)|(apply U;clear U K)|refine⟨rfl,?_⟩|refine⟨nb,?_⟩|refine ix ?_|refine ld ?_|refine HZ fun σ hs=>?_|(refine D0 (fun hc=>?_)<;>(try rw[hc])<;>clear hc)|(constructor<;>intro hc<;>(try rw[hc])<;>(replace hc:=bp hc)<;>try(exfalso;omega))|(intro nn hnn;generalize hg:BE _ nn _=σ;refine E3 hg fun hs=>?_;clear hg)|fail)<;>conv=>whnf)
   exact⟨hlt,_,rfl,hsk' hg ho,hs.less (Oa _ _)⟩
 ·rw[hke]at ho
  conv=>whnf
  repeat'((first|apply st|(apply sq;intro K U)|(apply si;intro A B Y Z)|(apply Y;clear Z B Y A)|(apply U;clear U K)|refine⟨rfl,?_⟩|(refine Fh (fun hc=>?_)<;>(try rw[hc])<;>clear hc)|clear U K)<;>conv=>whnf)
  exact AQ ⟨_,rfl,ho,hs⟩
theorem XS (p:Prog) (L:Nat) (g:Int) (h16:p.methods.length≤16) {nn:Nat} {E:Env} {ok:FuncId→Array Tmp→Code→Code→Nat→Prop} {S:Type} (H:S→List At) (Inv:Nat→S→Prop) (s:S) {σ:AH} (h0:Inv 0 s) (hs:Sat σ (.obj nn (.loop .ready E ok)::H s))
 (hsk: ∀k s,k<p.methods.length→(DB p (k:Nat)).gen≠g→Inv k s→Inv (k+1) s)
 (hT: ∀(k:Nat) s,k<p.methods.length→(DB p (k:Nat)).gen=g→Inv k s→ ∀(rest:List At) (σ:AH),Sat σ (.obj nn (.loop .ready E ok)::(H s++rest))→N6 Tryz.prog nn [eI (k:Int)] σ fun r σ'=> ∃s',r= .ret (.b true)∧Inv (k+1) s'∧Sat σ' (.obj nn (.loop .ready E ok)::(H s'++rest)))
 {Q:R→AH→Prop} (hq: ∀s' σ',Inv p.methods.length s'→Sat σ' (.obj nn (.loop .ready E ok)::H s')→Q (.ret (.t [])) σ') :
 Be Tryz.prog 75 [.f (.yield nn) [] [],.rp [MQ p L],.rp [eI g]] σ Q:=
 Be.mono (AAk p L g h16 (fn:= .yield nn) (fi:=[]) (ca:=[]) (H:=fun s=> .obj nn (.loop .ready E ok)::H s) Inv h0 hsk (fun k s hk hg hi rest σ hs=>yz (hT k s hk hg hi rest σ hs)) σ hs) fun r σ' ⟨s',e,hi,h⟩=>e ▸ hq s' σ' hi h
end Go.Gl
namespace Go.Gl
open Go.Proofs
def LeO (t t':BB):Prop:=t.1.length=t'.1.length∧t.2.length=t'.2.length∧(∀c,t.1.getD c false=true→t'.1.getD c false=true)∧ ∀c,t.2.getD c false=true→t'.2.getD c false=true
theorem LeO.trans {t u v:BB} (h:LeO t u) (k:LeO u v):LeO t v:=⟨h.1.trans k.1,h.2.1.trans k.2.1,fun c hc=>k.2.2.1 c (h.2.2.1 c hc),fun c hc=>k.2.2.2 c (h.2.2.2 c hc)⟩
theorem dV {p:Prog} {gen kind:Int} {i j:Nat}:Dt p gen kind i j=true↔((DB p i).gen=gen∧(DB p i).kind=kind)∧((DB p j).gen=gen∧(DB p j).kind=kind)∧F7 p i j=true:=by
 simp only[Dt,DS,Bj,FL];constructor
 ·rintro⟨h1,h2,⟨h3,h4⟩,h5⟩
  exact⟨⟨h1,h2⟩,⟨by rw[←h3,h1],by rw[←h4,h2]⟩,h5⟩
 ·rintro⟨⟨h1,h2⟩,⟨h3,h4⟩,h5⟩
  exact⟨h1,h2,⟨by rw[h1,h3],by rw[h2,h4]⟩,h5⟩
theorem fv {p:Prog} {gen:Int} {i j:Nat} (h:ID p gen i j=true):((DB p i).gen=gen∧(DB p j).gen=gen)∧(DB p i).kind=(DB p j).kind∧FO p i j=true∧FO p j i=true:=by
 simp only[ID,DS,Bj,FL]at h;obtain⟨-,h1,⟨h2,h3⟩,h4,h5⟩:=h;exact⟨⟨h1,by rw[←h2,h1]⟩,h3,h4,h5⟩
end Go.Gl
namespace Go.Gl
open Go.Proofs
attribute [local irreducible] Be BQ BH Ae AR BC Af Ag AT A7 AZ Ad Bk Bx Sat Au Bs BI W
theorem UX {n:Nat} {f:Nat→Nat→Bool} {i:Nat} (h: ∀j,f i j=false):Fj n f i= []:=by
 rw[Fj,List.filter_eq_nil_iff.2 fun j _=>by rw[h j];decide];rfl
set_option maxHeartbeats 4000000 in
theorem ga (p : Prog) (gen kind:Int):Pure Tryz.prog 15 [.a (Bd p),eI gen,eI kind] (.t [.l (pP (Cr p gen kind).1) true,eI (Cr p gen kind).2]):=by
 refine Pure.of ?_;have hM:=Mx;have hr:=UZ p;refine ABU nb ?_;have hs:=Sn
 conv=>whnf
 repeat'((first|apply st|(apply sq;intro K U)|(apply si;intro A B Y Z)|(apply Y;clear Z B Y A)|(apply U;clear U K)|refine⟨nb,?_⟩|fail)<;>conv=>whnf)
 refine hr.use (rest:=[]) (by simpa using hs) ?_;clear hs;cases h:(Bh p).isSome
 ·have hg:=cE gen
  rintro r post σ ⟨rfl,rfl⟩ hs
  conv=>whnf
  repeat'((first|apply st|(apply sq;intro K U)|(apply si;intro A B Y Z)|(apply Y;clear Z B Y A)|(apply U;clear U K)|refine ld ?_|refine IB fun σ hs=>?_|refine a7 ?_|refine Pure.use hg ?_|(intro nn hnn;generalize hg:BE _ nn _=σ;refine E3 hg fun hs=>?_;clear hg)|clear U K)<;>conv=>whnf)
  exact AQ (by simp[Cr,h])
 ·rintro r post σ ⟨L,rfl,rfl⟩ hs
  have hg:=nE p L gen;have hok:=look_ok h;have h16:=hok.many;have hgw:=nG h;have hfm:=YE h;cases h2:N0 p gen
  ·rw[h2]at hg
   conv=>whnf
   repeat'((first|apply st|(apply sq;intro K U)|(apply si;intro A B Y Z)|(apply Y;clear Z B Y A)|(apply U;clear U K)|refine ld ?_|refine IB fun σ hs=>?_|refine a7 ?_|refine Pure.use hg ?_|(intro nn hnn;generalize hg:BE _ nn _=σ;refine E3 hg fun hs=>?_;clear hg)|clear U K)<;>conv=>whnf)
   exact AQ (by simp[Cr,h,h2])
  rw[h2]at hg;by_cases h3:LQ kind=true
  ·have hk :=h3
   simp only[LQ,Bj,D4]at hk
   conv=>whnf
   repeat'((first|apply st|(apply sq;intro K U)|(apply si;intro A B Y Z)|(apply Y;clear Z B Y A)|(apply U;clear U K)|refine⟨rfl,?_⟩|refine ld ?_|refine IB fun σ hs=>?_|refine Ts ?_|refine Pure.use hg ?_|refine Pure.use (ai _ _ _) ?_|(constructor<;>intro hc<;>(try rw[hc])<;>(replace hc:=bp hc)<;>try(exfalso;omega))|(intro nn hnn;generalize hg:BE _ nn _=σ;refine E3 hg fun hs=>?_;clear hg)|clear U K)<;>conv=>whnf)
   ·rename_i nr _ _ _ _ _ _ nO _ _ _
    refine XS p L gen h16 (nn:=nn) (fun s:List (Int×Int)×List (Int×Int)×V=>[.box nO [s.2.2],.own s.2.2 2 (pP s.2.1),.box nr [MQ p L],.map L (Ka p s.1)]) (fun k s=>s.2.1=(List.range k).flatMap (Fj p.methods.length (Dt p gen kind))) ([],[],.l [] true) rfl ((GA hs 2).perm (KF _ _ _ _)) ?_ ?_ ?_
    ·intro k s hlt hne hi
     rw[FU,←hi,UX (fun j=>by simp[Dt,hne]),J9]
    ·clear hs hnn
     intro k s hlt hgk hi rest σ hs;have hck:BJ k=k:=AP (by omega);have hmk:Cc p (k:Int)=true:=by simp[Cc];omega
     rw[←hck];refine HB (l:=[.box nO [s.2.2],.own s.2.2 2 (pP s.2.1),.box nr [MQ p L],.map L (Ka p s.1)]++rest) rfl hs ?_;clear hs;intro σ hs
     conv=>whnf
     repeat'((first|apply st|(apply sq;intro K U)|(apply si;intro A B Y Z)|(apply Y;clear Z B Y A)|(apply U;clear U K)|refine ld ?_|refine IB fun σ hs=>?_|refine Pure.use (ai _ _ _) ?_|(intro nn hnn;generalize hg:BE _ nn _=σ;refine E3 hg fun hs=>?_;clear hg)|clear U K)<;>conv=>whnf)
     rename_i nm _ _ _ _ _;clear hnn;refine XS p L gen h16 (nn:=nn) (fun s':List (Int×Int)×List (Int×Int)×V=> .box nm [eI (BJ k)]::([.box nO [s'.2.2],.own s'.2.2 2 (pP s'.2.1),.box nr [MQ p L],.map L (Ka p s'.1)]++rest)) (fun j s'=>s'.2.1=(List.range k).flatMap (Fj p.methods.length (Dt p gen kind))++F4 (Dt p gen kind) k j) s (by simp[F4,hi]) hs ?_ ?_ ?_
     ·intro j s' hjlt hne hi'
      have:Dt p gen kind k j=false:=by
       rw[←Bool.not_eq_true,dV];exact fun e=>hne e.2.1.1
      rw[FT,this,hi'];simp
     ·clear hs hi
      intro j s' hjlt hgj hi' rest2 σ hs;have hcj:BJ j=j:=AP (by omega);have hmj:Cc p (j:Int)=true:=by simp[Cc];omega
      obtain⟨x,hx⟩: ∃x,p.methods[k]? =some x:=⟨_,FD hlt⟩
      have hxe:DB p (k:Int)=x:=by
       have:=Dj hmk;rw[LG,hx]at this;exact(Option.some.inj this).symm
      have c4:Pure Tryz.prog 44 [MQ p L,eI (BJ k),eI (BJ j)] (.b (DS p k j)):=by rw[hck,hcj];exact Yb p L k j hmk hmj
      have c5:B9 Tryz.prog 45 [MQ p L,eI (BJ k),eI (BJ j)] [.map L (Ka p s'.1)] fun r post=>r= .ret (.b (F7 p k j))∧post= [.map L (Ka p (V4 p s'.1 k j))]:=by rw[hck,hcj];exact eo p L k j hok hgw hfm hmk hmj s'.1
      have hoe:Dt p gen kind k j=(x.kind==kind&&(DS p k j&&F7 p k j)):=by rw[Dt,hxe,←hxe,hgk,hxe];simp
      have hrs:=FT (Dt p gen kind) k j;have hfl:=G6 p.methods.length (Dt p gen kind) k;have hrl:=Lc (Dt p gen kind) k j;have hkk:k*p.methods.length≤16*16:=Nat.mul_le_mul (by omega) h16;have hll:s'.2.1.length<Ai∧(s'.2.1.length+1)*16≤140737488355328:=by rw[hi',QJ];omega
      have hno:Dt p gen kind k j=false→s'.2.1=(List.range k).flatMap (Fj p.methods.length (Dt p gen kind))++F4 (Dt p gen kind) k (j+1):=fun e=>by rw[hrs,e,hi'];simp
      rw[←hcj];refine HB (l:= .box nm [eI (BJ k)]::([.box nO [s'.2.2],.own s'.2.2 2 (pP s'.2.1),.box nr [MQ p L],.map L (Ka p s'.1)]++rest)++rest2) rfl hs ?_;clear hs;intro σ hs;by_cases hkd:x.kind=kind
      ·cases hal:DS p k j<;>rw[hal]at c4
       ·conv=>whnf
        repeat'((first|apply st|(apply sq;intro K U)|(apply si;intro A B Y Z)|(apply Y;clear Z B Y A)|(apply U;clear U K)|apply dr|refine⟨rfl,?_⟩|refine ix ?_|refine ld ?_|refine GH ?_|refine Pure.use c4 ?_|(constructor<;>intro hc<;>(try rw[hc])<;>(replace hc:=bp hc)<;>try(exfalso;omega))|fail)<;>conv=>whnf)
        intro hn;exact⟨s',rfl,hno (by rw[hoe,hal];simp),hs.MZ hn⟩
       ·cases hah:F7 p k j<;>rw[hah]at c5
        all_goals
         conv=>whnf
         repeat'((first|apply st|(apply sq;intro K U)|(apply si;intro A B Y Z)|(apply Y;clear Z B Y A)|apply dr|refine⟨rfl,?_⟩|refine ix ?_|refine ld ?_|refine IE ?_|refine Pure.use c4 ?_|(constructor<;>intro hc<;>(try rw[hc])<;>(replace hc:=bp hc)<;>try(exfalso;omega))|fail)<;>conv=>whnf)
         refine c5.use (rest:=_) (hs.front (j:=4) rfl) ?_;clear hs;rintro r post σ ⟨rfl,rfl⟩ hs
         conv=>whnf
         repeat'((first|apply st|(apply si;intro A B Y Z)|(apply Y;clear Z B Y A)|(apply U;clear U K)|apply dr|refine ld ?_|refine IB fun σ hs=>?_|refine IE ?_|refine GH ?_|refine aq (enc:=pI) (x:=((_:Int),(_:Int))) (fun v σ hs hsl=>?_) (hg:=O8)|fail)<;>conv=>whnf)
        ·intro hn
         exact⟨(V4 p s'.1 k j,s'.2.1,s'.2.2),rfl,hno (by rw[hoe,hah];simp),(Sat.back (l:=(.box nm [eI (BJ k)]::([.box nO [s'.2.2],.own s'.2.2 2 (pP s'.2.1),.box nr [MQ p L],.map L (Ka p (V4 p s'.1 k j))]++rest))++rest2) (j:=4) hs rfl).MZ hn⟩
        ·intro hn
         refine⟨(V4 p s'.1 k j,s'.2.1++[((k:Int),(j:Int))],v),rfl,?_,Sat.MZ ?_ hn⟩
         ·rw[hrs,show Dt p gen kind k j=true by rw[hoe,hah,hal];simp[hkd],hi',if_pos rfl,TV]
         ·rw[show((k:Int),(j:Int))=(BJ k,BJ j) by rw[hck,hcj]]
          exact Sat.back (l:=(.box nm [eI (BJ k)]::([.box nO [v],.own v 2 (pP (s'.2.1++[(BJ k,BJ j)])),.box nr [MQ p L],.map L (Ka p (V4 p s'.1 k j))]++rest))++rest2) (j:=4) hs rfl
      ·conv=>whnf
       repeat'((first|apply st|(apply sq;intro K U)|(apply si;intro A B Y Z)|(apply Y;clear Z B Y A)|(apply U;clear U K)|apply dr|refine⟨rfl,?_⟩|refine ix ?_|refine ld ?_|(constructor<;>intro hc<;>(try rw[hc])<;>(replace hc:=bp hc)<;>try(exfalso;omega))|fail)<;>conv=>whnf)
       intro hn;exact⟨s',rfl,hno (by rw[hoe];simp[hkd]),hs.MZ hn⟩
     ·clear hs hi
      intro s' σ hi' hs;refine Hq hs fun σ hs=>?_
      conv=>whnf
      intro hn;exact⟨s',rfl,by rw[FU];exact hi',(hs.less (Oa _ _)).MZ hn⟩
    ·clear hs hnn
     intro s σ hi hs;refine Hq hs fun σ hs=>?_
     conv=>whnf
     repeat'((first|(apply sq;intro K U)|(apply si;intro A B Y Z)|(apply U;clear U K)|refine ld ?_|fail)<;>conv=>whnf)
     refine(cV s.2.1 s.2.2 (by have:=G6 p.methods.length (Dt p gen kind) p.methods.length;have:p.methods.length*p.methods.length≤16*16:=Nat.mul_le_mul h16 h16;rw[hi];omega)).use (rest:=_) (hs.front (j:=1) rfl) ?_;clear hs;rintro r post σ ⟨rfl,rfl⟩ hs
     conv=>whnf
     repeat'((first|apply st|(apply Y;clear Z B Y A)|(apply U;clear U K)|fail)<;>conv=>whnf)
     exact AQ (by simp[Cr,h,h2,h3,JR,hi])
   ·exfalso
    simp at hc;omega
  ·have hk:kind<1∨4<kind:=by simp only[LQ,Bj,D4]at h3;omega
   have h3':LQ kind=false:=by simpa using h3
   rcases hk with hk|hk
   ·conv=>whnf
    repeat'((first|apply st|(apply sq;intro K U)|(apply si;intro A B Y Z)|(apply Y;clear Z B Y A)|(apply U;clear U K)|refine⟨rfl,?_⟩|refine ld ?_|refine IB fun σ hs=>?_|refine Ts ?_|refine Pure.use hg ?_|refine Pure.use (ai _ _ _) ?_|(constructor<;>intro hc<;>(try rw[hc])<;>(replace hc:=bp hc)<;>try(exfalso;omega))|(intro nn hnn;generalize hg:BE _ nn _=σ;refine E3 hg fun hs=>?_;clear hg)|clear U K)<;>conv=>whnf)
    ·exfalso
     have q:(bif !true then true else decide (kind<1))=false:=by assumption
     simp at q;omega
    ·exact AQ (by simp[Cr,h,h2,h3'])
   ·conv=>whnf
    repeat'((first|apply st|(apply sq;intro K U)|(apply si;intro A B Y Z)|(apply Y;clear Z B Y A)|(apply U;clear U K)|refine⟨rfl,?_⟩|refine ld ?_|refine IB fun σ hs=>?_|refine Ts ?_|refine Pure.use hg ?_|(constructor<;>intro hc<;>(try rw[hc])<;>(replace hc:=bp hc)<;>try(exfalso;omega))|(intro nn hnn;generalize hg:BE _ nn _=σ;refine E3 hg fun hs=>?_;clear hg)|clear U K)<;>conv=>whnf)
    all_goals exact AQ (by simp[Cr,h,h2,h3'])
set_option maxHeartbeats 4000000 in
theorem fu (p : Prog) (gen:Int):Pure Tryz.prog 17 [.a (Bd p),eI gen] (.t [.l (pP (ET p gen).1) true,eI (ET p gen).2]):=by
 refine Pure.of ?_;have hM:=Mx;have hr:=UZ p;refine ABS nb ?_;have hs:=Sn
 conv=>whnf
 repeat'((first|apply st|(apply sq;intro K U)|(apply si;intro A B Y Z)|(apply Y;clear Z B Y A)|(apply U;clear U K)|refine⟨nb,?_⟩|fail)<;>conv=>whnf)
 refine hr.use (rest:=[]) (by simpa using hs) ?_;clear hs;cases h:(Bh p).isSome
 ·have hg:=cE gen
  rintro r post σ ⟨rfl,rfl⟩ hs
  conv=>whnf
  repeat'((first|apply st|(apply sq;intro K U)|(apply si;intro A B Y Z)|(apply Y;clear Z B Y A)|(apply U;clear U K)|refine ld ?_|refine IB fun σ hs=>?_|refine IE ?_|refine Pure.use hg ?_|(intro nn hnn;generalize hg:BE _ nn _=σ;refine E3 hg fun hs=>?_;clear hg)|clear U K)<;>conv=>whnf)
  exact AQ (by simp[ET,h])
 ·rintro r post σ ⟨L,rfl,rfl⟩ hs
  have hg:=nE p L gen;have hok:=look_ok h;have h16:=hok.many;have hgw:=nG h;have hfm:=YE h;cases h2:N0 p gen
  ·rw[h2]at hg
   conv=>whnf
   repeat'((first|apply st|(apply sq;intro K U)|(apply si;intro A B Y Z)|(apply Y;clear Z B Y A)|(apply U;clear U K)|refine ld ?_|refine IB fun σ hs=>?_|refine IE ?_|refine Pure.use hg ?_|(intro nn hnn;generalize hg:BE _ nn _=σ;refine E3 hg fun hs=>?_;clear hg)|clear U K)<;>conv=>whnf)
   exact AQ (by simp[ET,h,h2])
  rw[h2]at hg
  conv=>whnf
  repeat'((first|apply st|(apply sq;intro K U)|(apply si;intro A B Y Z)|(apply Y;clear Z B Y A)|(apply U;clear U K)|refine ld ?_|refine IB fun σ hs=>?_|refine GH ?_|refine Pure.use hg ?_|refine Pure.use (ai _ _ _) ?_|(intro nn hnn;generalize hg:BE _ nn _=σ;refine E3 hg fun hs=>?_;clear hg)|fail)<;>conv=>whnf)
  rename_i nr _ _ _ _ _ nO _ _ _;refine XS p L gen h16 (nn:=nn) (fun s:List (Int×Int)×List (Int×Int)×V=>[.box nO [s.2.2],.own s.2.2 2 (pP s.2.1),.box nr [MQ p L],.map L (Ka p s.1)]) (fun k s=>s.2.1=(List.range k).flatMap (Fj p.methods.length (ID p gen))) ([],[],.l [] true) rfl ((GA hs 2).perm (KF _ _ _ _)) ?_ ?_ ?_
  ·intro k s hlt hne hi
   rw[FU,←hi,UX (fun j=>by simp[ID,hne]),J9]
  ·clear hs hnn
   intro k s hlt hgk hi rest σ hs;have hck:BJ k=k:=AP (by omega);have hmk:Cc p (k:Int)=true:=by simp[Cc];omega
   rw[←hck];refine HB (l:=[.box nO [s.2.2],.own s.2.2 2 (pP s.2.1),.box nr [MQ p L],.map L (Ka p s.1)]++rest) rfl hs ?_;clear hs;intro σ hs
   conv=>whnf
   repeat'((first|apply st|(apply sq;intro K U)|(apply si;intro A B Y Z)|(apply Y;clear Z B Y A)|(apply U;clear U K)|refine ld ?_|refine IB fun σ hs=>?_|refine Pure.use (ai _ _ _) ?_|(intro nn hnn;generalize hg:BE _ nn _=σ;refine E3 hg fun hs=>?_;clear hg)|clear U K)<;>conv=>whnf)
   rename_i nm _ _ _ _ _;clear hnn;refine XS p L gen h16 (nn:=nn) (fun s':List (Int×Int)×List (Int×Int)×V=> .box nm [eI (BJ k)]::([.box nO [s'.2.2],.own s'.2.2 2 (pP s'.2.1),.box nr [MQ p L],.map L (Ka p s'.1)]++rest)) (fun j s'=>s'.2.1=(List.range k).flatMap (Fj p.methods.length (ID p gen))++F4 (ID p gen) k j) s (by simp[F4,hi]) hs ?_ ?_ ?_
   ·intro j s' hjlt hne hi'
    have:ID p gen k j=false:=by
     rw[←Bool.not_eq_true];exact fun e=>hne (fv e).1.2
    rw[FT,this,hi'];simp
   ·clear hs hi
    intro j s' hjlt hgj hi' rest2 σ hs;have hcj:BJ j=j:=AP (by omega);have hmj:Cc p (j:Int)=true:=by simp[Cc];omega
    have c4:Pure Tryz.prog 44 [MQ p L,eI (BJ k),eI (BJ j)] (.b (DS p k j)):=by rw[hck,hcj];exact Yb p L k j hmk hmj
    have c5:B9 Tryz.prog 54 [MQ p L,eI (BJ k),eI (BJ j)] [.map L (Ka p s'.1)] fun r post=>r= .ret (.b (FO p k j))∧post= [.map L (Ka p (MY s'.1 (k,j)))]:=by rw[hck,hcj];exact Ig p L k j hok hgw hfm hmk hmj s'.1
    have c6:B9 Tryz.prog 54 [MQ p L,eI (BJ j),eI (BJ k)] [.map L (Ka p (MY s'.1 (k,j)))] fun r post=>r= .ret (.b (FO p j k))∧post= [.map L (Ka p (MY (MY s'.1 (k,j)) (j,k)))]:=by rw[hck,hcj];exact Ig p L j k hok hgw hfm hmj hmk _
    generalize MY (MY s'.1 (k,j)) (j,k)=M2 at *;generalize MY s'.1 (k,j)=M1 at *;have hoe:ID p gen k j=(decide (k<j)&&(DS p k j&&(FO p k j&&FO p j k))):=by rw[ID,hgk];simp
    have hrs:=FT (ID p gen) k j;have hfl:=G6 p.methods.length (ID p gen) k;have hrl:=Lc (ID p gen) k j;have hkk:k*p.methods.length≤16*16:=Nat.mul_le_mul (by omega) h16;have hll:s'.2.1.length<Ai∧(s'.2.1.length+1)*16≤140737488355328:=by rw[hi',QJ];omega
    have hno:ID p gen k j=false→s'.2.1=(List.range k).flatMap (Fj p.methods.length (ID p gen))++F4 (ID p gen) k (j+1):=fun e=>by rw[hrs,e,hi'];simp
    rw[←hcj];refine HB (l:= .box nm [eI (BJ k)]::([.box nO [s'.2.2],.own s'.2.2 2 (pP s'.2.1),.box nr [MQ p L],.map L (Ka p s'.1)]++rest)++rest2) rfl hs ?_;clear hs;intro σ hs;by_cases hkj:k<j
    ·cases hal:DS p k j<;>rw[hal]at c4
     ·conv=>whnf
      repeat'((first|apply st|(apply sq;intro K U)|(apply si;intro A B Y Z)|(apply Y;clear Z B Y A)|(apply U;clear U K)|refine⟨rfl,?_⟩|refine ld ?_|refine GH ?_|refine Pure.use c4 ?_|(constructor<;>intro hc<;>(try rw[hc])<;>(replace hc:=bp hc)<;>(try simp(disch:=omega) only[Bz,wrap64,AP]at hc)<;>try(exfalso;omega))|fail)<;>conv=>whnf)
      intro hn;exact⟨s',rfl,hno (by rw[hoe,hal];simp),hs.MZ hn⟩
     ·cases hi1:FO p k j<;>rw[hi1]at c5
      all_goals
       conv=>whnf
       repeat'((first|apply st|(apply sq;intro K U)|(apply si;intro A B Y Z)|(apply Y;clear Z B Y A)|refine⟨rfl,?_⟩|refine ld ?_|refine IE ?_|refine Pure.use c4 ?_|(constructor<;>intro hc<;>(try rw[hc])<;>(replace hc:=bp hc)<;>(try simp(disch:=omega) only[Bz,wrap64,AP]at hc)<;>try(exfalso;omega))|fail)<;>conv=>whnf)
       refine c5.use (rest:=_) (hs.front (j:=4) rfl) ?_;clear hs;rintro r post σ ⟨rfl,rfl⟩ hs
       conv=>whnf
       repeat'((first|apply st|(apply Y;clear Z B Y A)|(apply U;clear U K)|refine ld ?_|refine IE ?_|refine GH ?_|fail)<;>conv=>whnf)
      ·intro hn
       exact⟨(M1,s'.2.1,s'.2.2),rfl,hno (by rw[hoe,hi1];simp),(Sat.back (l:=(.box nm [eI (BJ k)]::([.box nO [s'.2.2],.own s'.2.2 2 (pP s'.2.1),.box nr [MQ p L],.map L (Ka p M1)]++rest))++rest2) (j:=4) hs rfl).MZ hn⟩
      cases hi2:FO p j k<;>rw[hi2]at c6
      all_goals
       refine c6.use (rest:=_) hs ?_;clear hs;rintro r post σ ⟨rfl,rfl⟩ hs
       conv=>whnf
       repeat'((first|apply st|(apply si;intro A B Y Z)|(apply Y;clear Z B Y A)|(apply U;clear U K)|refine ld ?_|refine IB fun σ hs=>?_|refine IE ?_|refine GH ?_|refine aq (enc:=pI) (x:=((_:Int),(_:Int))) (fun v σ hs hsl=>?_) (hg:=O8)|fail)<;>conv=>whnf)
      ·intro hn
       exact⟨(M2,s'.2.1,s'.2.2),rfl,hno (by rw[hoe,hi2];simp),(Sat.back (l:=(.box nm [eI (BJ k)]::([.box nO [s'.2.2],.own s'.2.2 2 (pP s'.2.1),.box nr [MQ p L],.map L (Ka p M2)]++rest))++rest2) (j:=4) hs rfl).MZ hn⟩
      ·intro hn
       refine⟨(M2,s'.2.1++[((k:Int),(j:Int))],v),rfl,?_,Sat.MZ ?_ hn⟩
       ·rw[hrs,show ID p gen k j=true by rw[hoe,hi1,hi2,hal];simp[hkj],hi',if_pos rfl,TV]
       ·rw[show((k:Int),(j:Int))=(BJ k,BJ j) by rw[hck,hcj]]
        exact Sat.back (l:=(.box nm [eI (BJ k)]::([.box nO [v],.own v 2 (pP (s'.2.1++[(BJ k,BJ j)])),.box nr [MQ p L],.map L (Ka p M2)]++rest))++rest2) (j:=4) hs rfl
    ·conv=>whnf
     repeat'((first|apply st|(apply sq;intro K U)|(apply si;intro A B Y Z)|(apply Y;clear Z B Y A)|(apply U;clear U K)|refine⟨rfl,?_⟩|refine ld ?_|(constructor<;>intro hc<;>(try rw[hc])<;>(replace hc:=bp hc)<;>(try simp(disch:=omega) only[Bz,wrap64,AP]at hc)<;>try(exfalso;omega))|fail)<;>conv=>whnf)
     intro hn;exact⟨s',rfl,hno (by rw[hoe,decide_eq_false hkj];rfl),hs.MZ hn⟩
   ·clear hs hi
    intro s' σ hi' hs;refine Hq hs fun σ hs=>?_
    conv=>whnf
    intro hn;exact⟨s',rfl,by rw[FU];exact hi',(hs.less (Oa _ _)).MZ hn⟩
  ·clear hs hnn
   intro s σ hi hs;refine Hq hs fun σ hs=>?_
   conv=>whnf
   repeat'((first|(apply sq;intro K U)|(apply si;intro A B Y Z)|(apply U;clear U K)|refine ld ?_|fail)<;>conv=>whnf)
   refine(cV s.2.1 s.2.2 (by have:=G6 p.methods.length (ID p gen) p.methods.length;have:p.methods.length*p.methods.length≤16*16:=Nat.mul_le_mul h16 h16;rw[hi];omega)).use (rest:=_) (hs.front (j:=1) rfl) ?_;clear hs;rintro r post σ ⟨rfl,rfl⟩ hs
   conv=>whnf
   repeat'((first|apply st|(apply Y;clear Z B Y A)|(apply U;clear U K)|fail)<;>conv=>whnf)
   exact AQ (by simp[ET,h,h2,JR,hi])
end Go.Gl
