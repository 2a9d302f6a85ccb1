import Derived.Test.YtijbpgdmpejgoaaGreatV15
set_option linter.all false
noncomputable section
namespace Go.Gl
open Go.Proofs
attribute [local irreducible] BL A4 Aj AW AM Ai AV AX AN Ah AS AU A8 BJ Sat Ac BF Ak W
def SQ {α S:Type} (stp:α→S→Bool×S) (D:α→S→Prop):List α→S→Prop
 | [],_=>True
 | y::r,s=>D y s∧((stp y s).1=true→SQ stp D r (stp y s).2)
section
variable {α β S:Type} {stp:α→S→Bool×S} {D:α→S→Prop}
theorem OX: ∀(A B:List α) (s:S),Co stp (A++B) s=if(Co stp A s).1 then Co stp B (Co stp A s).2 else(false,(Co stp A s).2)
 | [],B,s=>by simp[Co]
 | y::r,B,s=>by
   rw[List.cons_append,Co,Co];cases(stp y s).1
   ·rfl
   ·simpa using OX r B (stp y s).2
theorem Th (l:α) (s:S):Co stp [l] s=stp l s:=by
 rw[Co,Co];rcases stp l s with⟨b,s'⟩;cases b<;>rfl
theorem Rj: ∀ {A B:List α} {s:S},SQ stp D (A++B) s→SQ stp D A s∧((Co stp A s).1=true→SQ stp D B (Co stp A s).2)
 | [],B,s,h=>⟨trivial,fun _=>h⟩
 | y ::r,B,s,h=>by
   obtain⟨h1,h2⟩:=h;rw[SQ,Co];cases hy:(stp y s).1
   ·exact⟨⟨h1,fun h=>(by cases h)⟩,fun h=>(by simp at h)⟩
   ·obtain⟨h3,h4⟩:=Rj (h2 hy)
    exact⟨⟨h1,fun _=>h3⟩,by simpa using h4⟩
theorem NK {A:List α}: ∀ {B:List α} {s:S},(∀y∈B,y∈A)→SQ stp D B s→SQ stp (fun y s=>y∈A∧D y s) B s
 | [],_,_,_=>trivial
 | y::r,_,hm,h=>⟨⟨hm y (.head _),h.1⟩,fun hy=>NK (fun z hz=>hm z (.tail _ hz)) (h.2 hy)⟩
theorem We {g:β→α}: ∀ {B:List β} {s:S},SQ stp D (B.map g) s→SQ (fun b s=>stp (g b) s) (fun b s=>D (g b) s) B s
 | [],_,_=>trivial
 | y::r,_,h=>⟨h.1,fun hy=>We (h.2 hy)⟩
end
section
variable {S:Type} {stp:List Fact→S→Bool×S} {D:List Fact→S→Prop}
theorem Qy (B:List (List Fact)): ∀(A:List (List Fact)) (s:S),Co stp (Dr A B) s=Co (fun x s=>Co (fun y s=>stp (CW x y) s) B s) A s
 | [],s=>rfl
 | x::r,s=>by
   have ih:=Qy B r;rw[Dr,List.flatMap_cons,OX,LG,Co];simp only[Dr]at ih;rw[ih]
theorem TM (B:List (List Fact)): ∀ {A:List (List Fact)} {s:S},SQ stp D (Dr A B) s→SQ (fun x s=>Co (fun y s=>stp (CW x y) s) B s) (fun x s=>SQ (fun y s=>stp (CW x y) s) (fun y s=>D (CW x y) s) B s) A s
 | [],_,_=>trivial
 | x::r,s,h=>by
   rw[Dr,List.flatMap_cons]at h;obtain⟨h1,h2⟩:=Rj h;refine⟨We h1,fun hy=>?_⟩;rw[LG]at h2;exact TM B (h2 hy)
end
abbrev Ud (l:List Fact) (b:Bool):V:= .l (FF l) b
def P5 {S:Type} (x:V) (H:S→List At) (stp:List Fact→S→Bool×S) (D:List Fact→S→Prop):Prop:= ∀b,DD Tryz.prog x (fun l=>Ud l b) H stp D
abbrev Sh (n:Nat):V:= .f (.func 225) [] [.p n 0]
theorem YJ {f:Fact} (hl:Br f=true) (c:Bool):Jr (if c then FZ f else f)=xF f++[.b c]:=by
 have:=Fz hl;cases c with
 | true=>rfl
 | false=>
   have h5: ¬f.op=5:=by omega
   simp only[Jr,LY,if_false,A1,if_neg h5]
def WalkC (f:Fact):Prop:= ∀(c:Bool) (S:Type) (fn:Fn) (fi ca:List V) (H:S→List At) (stp:List Fact→S→Bool×S) (D:List Fact→S→Prop) (nW:Nat) (s:S),
 P5 (.f fn fi ca) (fun s=> .box nW [Sh nW]::H s) stp D→SQ stp D (BS f c) s→ ∀σ,Sat σ (.box nW [Sh nW]::H s)→
  A8 Tryz.prog (Sh nW) [.a (xF f),.b c,.f fn fi ca] σ fun r σ'=>r= .ret (.b (Co stp (BS f c) s).1)∧Sat σ' (.box nW [Sh nW]::H (Co stp (BS f c) s).2)
theorem cf {w:AK} {S:Type} {fn:Fn} {fi ca:List V} {H:S→List At} {stp:List Fact→S→Bool×S} {D:List Fact→S→Prop} (hT:P5 (.f fn fi ca) H stp D) {k0 k1:Fact} {c:Bool} (hn0:Bi w k0=true) (hn1:Bi w k1=true) (hv0:lv k0≤100) (hv1:lv k1≤100) {a:List Fact} (ha:a∈BS k0 c) (fa:Bool) :
 P5 (.f (.func 227) [] [.rp [.f fn fi ca],.rp [Ud a fa]]) H (fun y s=>stp (CW a y) s) (fun y s=>y∈BS k1 c∧D (CW a y) s):=by
 rintro b y s ⟨hy,hd⟩ σ hs;refine Bp ?_;show BL Tryz.prog 227 ([]++[Ud y b]++[.rp [.f fn fi ca],.rp [Ud a fa]]) σ _;have hla:=(El k0 (C1 _ hn0) c).2 a ha;have hly:=(El k1 (C1 _ hn1) c).2 y hy;have hM:=Mx;refine lQ nb ?_
 conv=>whnf
 repeat'((first|apply st|(apply sq;intro K U)|(apply si;intro A B Y Z)|(apply Y;clear Z B Y A)|(apply U;clear U K)|apply dr|refine rk ?_ ?_|exact fun s e=>by cases e;rfl|refine Pure.use (YP (w:=w) a y fa b (Ew k0 hn0 c a ha) (Ew k1 hn1 c y hy) (by omega)) ?_|fail)<;>conv=>whnf)
 refine(hT false).use hd hs ?_;clear hs;intro σ hs
 conv=>whnf
 repeat'((first|apply st|(apply Y;clear Z B Y A)|(apply U;clear U K)|apply dr|fail)<;>conv=>whnf)
 exact AO ⟨rfl,hs⟩
theorem cg {w:AK} {S:Type} {fn:Fn} {fi ca:List V} {H:S→List At} {stp:List Fact→S→Bool×S} {D:List Fact→S→Prop} {nW:Nat} (hT:P5 (.f fn fi ca) (fun s=> .box nW [Sh nW]::H s) stp D) {f k0 k1:Fact} (hk:f.kids= [k0,k1]) {c:Bool} (hn0:Bi w k0=true) (hn1:Bi w k1=true) (hv0:lv k0≤100) (hv1:lv k1≤100) (hw1:WalkC k1) :
 P5 (.f (.func 226) [] [.p nW 0,.rp (xF f),.rp [.b c],.rp [.f fn fi ca]]) (fun s=> .box nW [Sh nW]::H s) (fun a s=>Co (fun y s=>stp (CW a y) s) (BS k1 c) s) (fun a s=>a∈BS k0 c∧SQ (fun y s=>stp (CW a y) s) (fun y s=>D (CW a y) s) (BS k1 c) s):=by
 rintro fa a s ⟨ha,hd⟩ σ hs;refine Bp ?_;show BL Tryz.prog 226 ([]++[Ud a fa]++[.p nW 0,.rp (xF f),.rp [.b c],.rp [.f fn fi ca]]) σ _;have h1:f.kids[(1:Int).toNat]? =some k1:=by rw[hk];rfl
 refine lR nb ?_
 conv=>whnf
 repeat'((first|apply st|(apply sq;intro K U)|(apply si;intro A B Y Z)|(apply Y;clear Z B Y A)|(apply U;clear U K)|apply dr|refine⟨nb,?_⟩|refine Nd ?_|refine ld ?_|fail)<;>conv=>whnf)
 refine(hw1 c S _ _ _ H _ _ nW s (cf hT hn0 hn1 hv0 hv1 ha fa) (NK (fun y hy=>hy) hd) σ hs).mono ?_;clear hs;rintro r σ ⟨rfl,hs⟩
 conv=>whnf
 repeat'((first|apply st|(apply Y;clear Z B Y A)|(apply U;clear U K)|apply dr|fail)<;>conv=>whnf)
 exact AO ⟨rfl,hs⟩
set_option maxHeartbeats 2000000 in
theorem dm {w:AK} (f:Fact):Bi w f=true→lv f≤100→WalkC f:=by
 induction f using Fact.ind with
 | h f ih=>
   intro hn hv c S fn fi ca H stp D nW s hT hd σ hs;have har:=C1 _ hn
   have hnk: ∀k∈f.kids,Bi w k=true:=by
    rw[Cg,BZ,Em]at hn;exact hn.2
   have hop:f.op=1∨f.op=5∨Br f=true∨f.op=6∨f.op=7:=by
    rw[Cg,BZ]at hn;have h1:=hn.1;simp only[DC,SV,BZ]at h1;rw[OF];simp only[BZ,CX];have h2:=h1.1;split at h2
    ·omega
    ·split at h2
     ·omega
     ·simp only[Fx,D1]at h2
      omega
   refine Bp ?_;show BL Tryz.prog 225 ([]++[.a (xF f),.b c,.f fn fi ca]++[.p nW 0]) σ _;refine lS nb ?_;rw[F8,FN]at hd;have hcs:=F8 f c;rw[FN]at hcs;rcases hop with h1|h5|hl|h67
   ·rw[if_pos h1]at hd hcs
    rw[hcs];cases c
    ·rw[if_neg (by decide)]at hd ⊢
     rw[Th]
     conv=>whnf
     repeat'((first|apply st|(apply sq;intro K U)|(apply si;intro A B Y Z)|(apply Y;clear Z B Y A)|(apply U;clear U K)|refine⟨rfl,?_⟩|(constructor<;>intro hc<;>(try rw[hc])<;>(replace hc:=bp hc)<;>try(exfalso;omega))|fail)<;>conv=>whnf)
     refine(hT true).use (y:=[]) hd.1 hs ?_;clear hs;intro σ hs
     conv=>whnf
     repeat'((first|apply st|(apply Y;clear Z B Y A)|(apply U;clear U K)|clear U K)<;>conv=>whnf)
     exact AO ⟨rfl,hs⟩
    ·rw[if_pos rfl]at hd ⊢
     conv=>whnf
     repeat'((first|apply st|(apply sq;intro K U)|(apply si;intro A B Y Z)|(apply Y;clear Z B Y A)|(apply U;clear U K)|refine⟨rfl,?_⟩|(constructor<;>intro hc<;>(try rw[hc])<;>(replace hc:=bp hc)<;>try(exfalso;omega))|clear U K)<;>conv=>whnf)
     exact AO ⟨rfl,hs⟩
   ·obtain⟨k,hk,-⟩:=Hy har h5
    have hkm:k∈f.kids:=by rw[hk];exact .head _
    have hvk:lv k≤100:=by
     rw[MT,ZB,if_pos h5,hk]at hv;exact hv
    rw[if_neg (by omega),if_pos h5,hk]at hd hcs;have hcs2:BS f c=BS k (!c):=hcs;have h0:f.kids[(0:Int).toNat]? =some k:=by rw[hk];rfl
    rw[hcs2]
    conv=>whnf
    repeat'((first|apply st|(apply sq;intro K U)|(apply si;intro A B Y Z)|(apply Y;clear Z B Y A)|(apply U;clear U K)|apply dr|refine⟨rfl,?_⟩|refine⟨nb,?_⟩|refine Nd ?_|refine ld ?_|(constructor<;>intro hc<;>(try rw[hc])<;>(replace hc:=bp hc)<;>try(exfalso;omega))|fail)<;>conv=>whnf)
    refine(ih k hkm (hnk k hkm) hvk (!c) S _ _ _ H stp D nW s hT hd σ hs).mono ?_;clear hs;rintro r σ ⟨rfl,hs⟩
    conv=>whnf
    repeat'((first|apply st|(apply Y;clear Z B Y A)|(apply U;clear U K)|apply dr|clear U K)<;>conv=>whnf)
    exact AO ⟨rfl,hs⟩
   ·have hlo:=Fz hl
    have hlB:=NN f;rw[hl]at hlB;rw[if_neg (by omega),if_neg (by omega),if_neg (by omega)]at hd hcs;have hcs2:BS f c= [[if c then FZ f else f]]:=by rw[hcs];cases c<;>rfl
    rw[←hcs,hcs2]at hd;rw[hcs2,Th]
    have e:Ud [if c then FZ f else f] true= .l [xF f++[.b c]] true:=by
     show V.l [Jr (if c then FZ f else f)] true=_;rw[YJ hl]
    have hst:=(hT true) [if c then FZ f else f] s hd.1;simp only[e]at hst
    conv=>whnf
    repeat'((first|apply st|(apply sq;intro K U)|(apply si;intro A B Y Z)|(apply Y;clear Z B Y A)|(apply U;clear U K)|refine⟨rfl,?_⟩|refine⟨nb,?_⟩|refine Pure.use hlB ?_|(constructor<;>intro hc<;>(try rw[hc])<;>(replace hc:=bp hc)<;>try(exfalso;omega))|fail)<;>conv=>whnf)
    refine(hst σ hs).mono ?_;clear hs;rintro r σ ⟨rfl,hs⟩
    conv=>whnf
    repeat'((first|apply st|(apply Y;clear Z B Y A)|(apply U;clear U K)|clear U K)<;>conv=>whnf)
    exact AO ⟨rfl,hs⟩
   ·obtain⟨k0,k1,hk,-,-⟩:=Hw har h67
    have hkm0:k0∈f.kids:=by rw[hk];exact .head _
    have hkm1:k1∈f.kids:=by rw[hk];exact .tail _ (.head _)
    have hlf:Br f=false:=by rw[OF,decide_eq_false (show¬f.op≤4 by omega),Bool.and_false]
    have hlB:=NN f;rw[hlf]at hlB
    have hvk:lv k0+lv k1≤100:=by
     rw[MT,ZB,if_neg (by omega),if_pos h67,hk]at hv;exact hv
    rw[if_neg (by omega),if_neg (by omega),if_pos h67,hk]at hd hcs;have h0:f.kids[(0:Int).toNat]? =some k0:=by rw[hk];rfl
    have h1:f.kids[(1:Int).toNat]? =some k1:=by rw[hk];rfl
    have i0:=ih k0 hkm0 (hnk k0 hkm0) (by omega);have i1:=ih k1 hkm1 (hnk k1 hkm1) (by omega);by_cases hap:(c != (f.op==7))=true
    ·rw [if_pos hap]at hd hcs
     have hcs2:BS f c=BS k0 c++BS k1 c:=hcs;have hd2:SQ stp D (BS k0 c++BS k1 c) s:=hd;obtain⟨hd3,hd4⟩:=Rj hd2;rw[hcs2,OX];clear hcs hcs2 hd hd2;rcases h67 with h6|h7
     ·have h6b:(f.op==6)=true:=by rw[h6];rfl
      have hct:c=true:=by rw[h6]at hap;cases c<;>simp_all
      subst hct
      conv=>whnf
      repeat'((first|apply st|(apply sq;intro K U)|(apply si;intro A B Y Z)|(apply Y;clear Z B Y A)|(apply U;clear U K)|apply dr|refine⟨rfl,?_⟩|refine⟨nb,?_⟩|refine Nd ?_|refine ld ?_|refine E0 ?_|refine Pure.use hlB ?_|(rw[h6b])|(constructor<;>intro hc<;>(try rw[hc])<;>(replace hc:=bp hc)<;>try(exfalso;omega))|fail)<;>conv=>whnf)
      refine(i0 true S _ _ _ H stp D nW s hT hd3 σ hs).mono ?_;clear hs;rintro r σ ⟨rfl,hs⟩;generalize Co stp (BS k0 true) s=x at *;obtain⟨b1,s1⟩:=x;cases b1
      ·conv=>whnf
       repeat'((first|apply st|(apply Y;clear Z B Y A)|(apply U;clear U K)|apply dr|clear U K)<;>conv=>whnf)
       exact AO ⟨rfl,hs⟩
      ·conv=>whnf
       repeat'((first|apply st|apply dr|refine⟨nb,?_⟩|refine Nd ?_|refine ld ?_|fail)<;>conv=>whnf)
       refine(i1 true S _ _ _ H stp D nW s1 hT (hd4 rfl) σ hs).mono ?_;clear hs;rintro r σ ⟨rfl,hs⟩
       conv=>whnf
       repeat'((first|apply st|(apply Y;clear Z B Y A)|(apply U;clear U K)|apply dr|clear U K)<;>conv=>whnf)
       exact AO ⟨rfl,hs⟩
     ·have h6b:(f.op==6)=false:=by rw[h7];rfl
      have hct:c=false:=by rw[h7]at hap;cases c<;>simp_all
      subst hct
      conv=>whnf
      repeat'((first|apply st|(apply sq;intro K U)|(apply si;intro A B Y Z)|(apply Y;clear Z B Y A)|(apply U;clear U K)|apply dr|refine⟨rfl,?_⟩|refine⟨nb,?_⟩|refine Nd ?_|refine ld ?_|refine E0 ?_|refine Pure.use hlB ?_|(rw[h6b])|(constructor<;>intro hc<;>(try rw[hc])<;>(replace hc:=bp hc)<;>try(exfalso;omega))|fail)<;>conv=>whnf)
      refine(i0 false S _ _ _ H stp D nW s hT hd3 σ hs).mono ?_;clear hs;rintro r σ ⟨rfl,hs⟩;generalize Co stp (BS k0 false) s=x at *;obtain⟨b1,s1⟩:=x;cases b1
      ·conv=>whnf
       repeat'((first|apply st|(apply Y;clear Z B Y A)|(apply U;clear U K)|apply dr|clear U K)<;>conv=>whnf)
       exact AO ⟨rfl,hs⟩
      ·conv=>whnf
       repeat'((first|apply st|apply dr|refine⟨nb,?_⟩|refine Nd ?_|refine ld ?_|fail)<;>conv=>whnf)
       refine(i1 false S _ _ _ H stp D nW s1 hT (hd4 rfl) σ hs).mono ?_;clear hs;rintro r σ ⟨rfl,hs⟩
       conv=>whnf
       repeat'((first|apply st|(apply Y;clear Z B Y A)|(apply U;clear U K)|apply dr|clear U K)<;>conv=>whnf)
       exact AO ⟨rfl,hs⟩
    ·rw[if_neg hap]at hd hcs
     have hcs2:BS f c=Dr (BS k0 c) (BS k1 c):=hcs;have hd2:SQ stp D (Dr (BS k0 c) (BS k1 c)) s:=hd;have hd3:=TM _ hd2;have hT2:=cg hT hk (c:=c) (hnk k0 hkm0) (hnk k1 hkm1) (by omega) (by omega) i1;rw[hcs2,Qy];clear hcs hcs2 hd hd2;rcases h67 with h6|h7
     ·have h6b:(f.op==6)=true:=by rw[h6];rfl
      have hct:c=false:=by rw[h6]at hap;cases c<;>simp_all
      subst hct
      conv=>whnf
      repeat'((first|apply st|(apply sq;intro K U)|(apply si;intro A B Y Z)|(apply Y;clear Z B Y A)|(apply U;clear U K)|apply dr|refine⟨rfl,?_⟩|refine⟨nb,?_⟩|refine Nd ?_|refine ld ?_|refine D2 ?_|refine Pure.use hlB ?_|(rw[h6b])|(constructor<;>intro hc<;>(try rw[hc])<;>(replace hc:=bp hc)<;>try(exfalso;omega))|fail)<;>conv=>whnf)
      refine(i0 false S _ _ _ H _ _ nW s hT2 (NK (fun y hy=>hy) hd3) σ hs).mono ?_;clear hs;rintro r σ ⟨rfl,hs⟩
      conv=>whnf
      repeat'((first|apply st|(apply Y;clear Z B Y A)|(apply U;clear U K)|apply dr|fail)<;>conv=>whnf)
      exact AO ⟨rfl,hs⟩
     ·have h6b:(f.op==6)=false:=by rw[h7];rfl
      have hct:c=true:=by rw[h7]at hap;cases c<;>simp_all
      subst hct
      conv=>whnf
      repeat'((first|apply st|(apply sq;intro K U)|(apply si;intro A B Y Z)|(apply Y;clear Z B Y A)|(apply U;clear U K)|apply dr|refine⟨rfl,?_⟩|refine⟨nb,?_⟩|refine Nd ?_|refine ld ?_|refine D2 ?_|refine Pure.use hlB ?_|(rw[h6b])|(constructor<;>intro hc<;>(try rw[hc])<;>(replace hc:=bp hc)<;>try(exfalso;omega))|fail)<;>conv=>whnf)
      refine(i0 true S _ _ _ H _ _ nW s hT2 (NK (fun y hy=>hy) hd3) σ hs).mono ?_;clear hs;rintro r σ ⟨rfl,hs⟩
      conv=>whnf
      repeat'((first|apply st|(apply Y;clear Z B Y A)|(apply U;clear U K)|apply dr|fail)<;>conv=>whnf)
      exact AO ⟨rfl,hs⟩
theorem j4 {w:AK} (f:Fact) (hn:Bi w f=true) (hv:lv f≤100) (c:Bool) {S:Type} {fn:Fn} {fi ca:List V} {H:S→List At} {stp:List Fact→S→Bool×S} {D:List Fact→S→Prop} {s:S} (hT: ∀nW,P5 (.f fn fi ca) (fun s=> .box nW [Sh nW]::H s) stp D) (hd:SQ stp D (BS f c) s) (σ:AH) (hs:Sat σ (H s)) :
 BL Tryz.prog 224 [.f fn fi ca,.rp (xF f),.rp [.b c]] σ fun r σ'=>r= .ret (.t [])∧Sat σ' (H (Co stp (BS f c) s).2):=by
 refine lT nb ?_
 conv=>whnf
 repeat'((first|apply st|(apply sq;intro K U)|(apply si;intro A B Y Z)|(apply Y;clear Z B Y A)|(apply U;clear U K)|refine⟨nb,?_⟩|refine ld ?_|refine FB fun σ hs=>?_|(intro nn hnn;generalize hg:BC _ nn _=σ;refine Cm hg fun hs=>?_;clear hg)|fail)<;>conv=>whnf)
 refine(dm f hn hv c S fn fi ca H stp D nn s (hT nn) hd σ hs).mono ?_;clear hs;rintro r σ ⟨rfl,hs⟩
 conv=>whnf
 repeat'((first|(apply Y;clear Z B Y A)|fail)<;>conv=>whnf)
 exact AO ⟨rfl,hs.less (Jn _ _)⟩
theorem cj (f:Fact) (c:Bool):Pure Tryz.prog 182 [.a (xF f),.b c] (.f (.func 224) [] [.rp (xF f),.rp [.b c]]):=by
 refine mH nb ?_;have hs:=Sn
 conv=>whnf
 repeat'((first|apply st|(apply sq;intro K U)|(apply si;intro A B Y Z)|(apply Y;clear Z B Y A)|(apply U;clear U K)|fail)<;>conv=>whnf)
 all_goals exact AI rfl
abbrev NZ (w:AK) (l:List Fact) (s:Bool):Bool×Bool:=if Gs w l then(false,true)else(true,s)
theorem Ti {w:AK}: ∀(cs:List (List Fact)),Co (NZ w) cs false=(!cs.any (Gs w),cs.any (Gs w))
 | []=>rfl
 | l::r=>by
   rw[Co,Q6];simp only[NZ];cases h:Gs w l
   ·simpa using Ti r
   ·rfl
theorem Wf {w:AK} {AD:List Fact→Prop}: ∀ {cs:List (List Fact)},(∀l∈cs,AD l)→SQ (NZ w) (fun l s=>s=false∧AD l) cs false
 | [],_=>trivial
 | l ::r,h=>⟨⟨rfl,h l (.head _)⟩,fun hy=>by
     cases ht:Gs w l
     ·have e:(NZ w l false).2=false:=by simp[NZ,ht]
      rw[e];exact Wf fun x hx=>h x (.tail _ hx)
     ·simp[NZ,ht]at hy⟩
abbrev od (w:AK) (L:Nat) (E:Env) (ok:FuncId→Array Tmp→Code→Code→Nat→Prop) (nF:Nat):Prop:=
 Ly Tryz.prog L E ok (fun(x:List Fact×Bool)=>[Ud x.1 x.2]) (fun s:Bool=>[.box nF [.b s]]) (fun _=>True) (fun x s=>if Gs w x.1 then .stop (.exit 0) true else .go s) (fun x s=>s=false∧(∀y∈x.1,Ib w y)∧x.1.length<900)
theorem fL {w:AK} (f:Fact) (hn:Bi w f=true) (hv:lv f≤100) {L:Nat} {E:Env} {ok:FuncId→Array Tmp→Code→Code→Nat→Prop} {nF:Nat} (hY:od w L E ok nF) (σ:AH) (hs:Sat σ [.obj L (.loop .ready E ok),.box nF [.b false]]) :
 BL Tryz.prog 224 [.f (.yield L) [] [],.rp (xF f),.rp [.b false]] σ fun r σ'=>r= .ret (.t [])∧Sat σ' [.obj L (.loop (if Pb w f then .exit 0 else .ready) E ok),.box nF [.b (Pb w f)]]:=by
 have hg:=j4 f hn hv false (fn:= .yield L) (fi:=[]) (ca:=[]) (H:=fun s:Bool=>[.obj L (.loop (if s then .exit 0 else .ready) E ok),.box nF [.b s]]) (stp:=NZ w) (D:=fun l s=>s=false∧(∀y∈l,Ib w y)∧l.length<900) (s:=false) (by
  rintro nW b l s ⟨rfl,hl,hlen⟩ σ hs;refine hY.use (y:=(l,b)) (s:=false) ⟨rfl,hl,hlen⟩ (rest:=[.box nW [Sh nW]]) (hs.perm (II _ _ _ _)) ?_;intro r σ' hq;cases ht:Gs w l
  ·simp only[ht,LY,if_false]at hq
   obtain⟨rfl,hs'⟩:=hq;have e:NZ w l false=(true,false):=by simp[NZ,ht]
   rw[e];exact⟨rfl,hs'.perm (II _ _ _ _).symm⟩
  ·simp only[ht,if_true]at hq
   obtain⟨rfl,hs'⟩:=hq;have e:NZ w l false=(false,true):=by simp[NZ,ht]
   rw[e]
   exact⟨rfl,hs'.perm (II _ _ _ _).symm⟩) (Wf fun l hl=>⟨Ew f hn false l hl,by have:=(El f (C1 _ hn) false).2 l hl;omega⟩) σ hs
 rw[Ti]at hg;exact hg
theorem oJ (w:AK) (hw:CR w) (f:Fact) (hn:Bi w f=true) (hv:lv f≤100):Pure Tryz.prog 141 [.rp (wC w (CE w.parents)),.a (xF f)] (.b (Pb w f)):=by
 refine Pure.of ?_;refine m8 nb ?_;have hs:=Sn
 conv=>whnf
 repeat'((first|apply st|(apply sq;intro K U)|(apply si;intro A B Y Z)|(apply Y;clear Z B Y A)|(apply U;clear U K)|refine⟨nb,?_⟩|refine FB fun σ hs=>?_|refine Pure.use (cj _ _) ?_|(intro nn hnn;generalize hg:BC _ nn _=σ;refine Cm hg fun hs=>?_;clear hg)|fail)<;>conv=>whnf)
 rename_i _ nF hnF _ _ _ _;refine BL.mono (fL (w:=w) f hn hv (L:=nn) (nF:=nF) ?_ σ hs) ?_
 ·refine Mh (fun y=>rfl) ?_
  clear hs hnn hnF;rintro⟨l,b⟩ s ⟨rfl,hl,hlen⟩ rest σ hs;dsimp only at hl hlen;have htg:=Tp w hw l b hl hlen;dsimp only;cases ht:Gs w l<;>rw[ht]at htg
  ·conv=>whnf
   repeat'((first|apply st|(apply sq;intro K U)|(apply si;intro A B Y Z)|(apply Y;clear Z B Y A)|(apply U;clear U K)|refine Pure.use htg ?_|clear U K)<;>conv=>whnf)
   intro hn;exact TH (H:=fun s:Bool=>[.box nF [.b s]]) (J:=fun _=>True) (s:=false) rfl hs hn
  ·conv=>whnf
   repeat'((first|apply st|(apply sq;intro K U)|(apply si;intro A B Y Z)|(apply Y;clear Z B Y A)|(apply U;clear U K)|refine FB fun σ hs=>?_|refine Pure.use htg ?_|clear U K)<;>conv=>whnf)
   intro hn;exact VA (H:=fun s:Bool=>[.box nF [.b s]]) (J:=fun _=>True) (s:=true) (st:= .exit 0) rfl hs hn
 ·clear hs hnn hnF
  cases hp:Pb w f
  ·rintro r σ ⟨rfl,hs⟩
   refine Fh hs fun σ hs=>?_
   conv=>whnf
   repeat'((first|apply st|(apply sq;intro K U)|(apply si;intro A B Y Z)|(apply Y;clear Z B Y A)|(apply U;clear U K)|refine ld ?_|fail)<;>conv=>whnf)
   exact AO (by rw[hp])
  ·rintro r σ ⟨rfl,hs⟩
   refine VD hs fun σ hs=>?_
   conv=>whnf
   repeat'((first|apply st|(apply sq;intro K U)|(apply si;intro A B Y Z)|(apply Y;clear Z B Y A)|(apply U;clear U K)|refine ld ?_|fail)<;>conv=>whnf)
   exact AO (by rw[hp])
theorem jQ (f:Fact):Pure Tryz.prog 143 [.a (xF f)] (.a (xF (FZ f))):=by
 refine m6 nb ?_;have hs:=Sn
 conv=>whnf
 repeat'((first|apply st|(apply sq;intro K U)|(apply si;intro A B Y Z)|(apply Y;clear Z B Y A)|(apply U;clear U K)|refine⟨nb,?_⟩|refine ld ?_|refine sn fun σ hs=>?_|(intro nn hnn;generalize hg:BC _ nn _=σ;refine al hg fun hs=>?_;clear hg)|fail)<;>conv=>whnf)
 refine BV (.a (.cons (.refl _) (.cons (.refl _) (.cons CH (.cons (.refl _) (.cons (.refl _) (.cons ?_ .nil)))))));refine .l (fun h=>by cases h) ?_;simp only[FZ,Fact.kids,List.map,Bd];exact Et _
theorem oU (f g:Fact):Pure Tryz.prog 142 [.a (xF f),.a (xF g)] (.a (xF (M3 f g))):=by
 refine m7 nb ?_;have hs:=Sn
 conv=>whnf
 repeat'((first|apply st|(apply sq;intro K U)|(apply si;intro A B Y Z)|(apply Y;clear Z B Y A)|(apply U;clear U K)|refine⟨nb,?_⟩|refine ld ?_|refine sn fun σ hs=>?_|(intro nn hnn;generalize hg:BC _ nn _=σ;refine al hg fun hs=>?_;clear hg)|fail)<;>conv=>whnf)
 refine BV (.a (.cons (.refl _) (.cons (.refl _) (.cons CH (.cons (.refl _) (.cons (.refl _) (.cons ?_ .nil)))))));refine .l (fun h=>by cases h) ?_;simp only[M3,Fact.kids,List.map,Bd];exact Et _
theorem VR (w:AK) (hw:CR w) (a b:Fact) (ha:Bi w a=true) (hb:Bi w b=true) (hl:lv a+lv b≤100):Pure Tryz.prog 110 [.rp (wC w (CE w.parents)),.a (xF a),.a (xF b)] (.b (RG w a b)):=by
 have hcan:=oJ w hw (M3 a (FZ b)) (OD ha hb) (by rw[Zw];exact hl);refine nh nb ?_;have hs:=Sn
 conv=>whnf
 repeat'((first|apply st|(apply sq;intro K U)|(apply si;intro A B Y Z)|(apply Y;clear Z B Y A)|(apply U;clear U K)|apply dr|refine rk ?_ ?_|exact fun s e=>by cases e;rfl|refine⟨nb,?_⟩|refine Pure.use (jQ _) ?_|refine Pure.use (oU _ _) ?_|refine Pure.use hcan ?_|fail)<;>conv=>whnf)
 all_goals exact AI rfl
theorem Q4 (w:AK) (hw:CR w) (a b:Fact) (ha:Ce w a=true) (hb:Ce w b=true) (hna:Bi w a=true) (hnb:Bi w b=true) (hl:lv a+lv b≤100):Pure Tryz.prog 76 [.a (A2 w),.a (xF a),.a (xF b)] (.t [.b (RG w a b),eI 0]):=by
 have hrd: ∀f,Pure Tryz.prog 109 [.a (A2 w),.l [xF a,xF b] f] (.t [.rp (wC w (CE w.parents)),.b true]):=fun f=>by
  have:=NH w hw [a,b] f (by simp);rw[show([a,b].all (Kb w))=true by simp[NS,ha,hb]]at this;simpa[Bd]using this
 have hip:=VR w hw a b hna hnb hl;refine qN nb ?_;have hs:=Sn
 conv=>whnf
 repeat'((first|apply st|(apply sq;intro K U)|(apply si;intro A B Y Z)|(apply Y;clear Z B Y A)|(apply U;clear U K)|refine⟨nb,?_⟩|refine D2 ?_|refine Pure.use (hrd _) ?_|refine Pure.use hip ?_|fail)<;>conv=>whnf)
 all_goals exact AI rfl
attribute [local irreducible] M5
def u5 (p:Prog) (nO:Nat) (r:R) (post:List At):Prop:=
 match BO p with
 | some s=>r= .ret (.t [])∧ ∃v,post= [.box nO [v],.own v 1 (iL s)]
 | none=>r= .C8 Dw∧ ∃v s,post= [.box nO [v],.own v 1 (iL s)]
theorem Xx (p:Prog) (nO:Nat):Bh Tryz.prog 162 [.rp (BK p),.p nO 0] [.box nO [.l [] true]] (u5 p nO):=fun σ hs=>
 BL.mono (bN p nO σ hs) fun r σ' hq=>by
  unfold om at hq;unfold u5;cases h:BO p with
  | some s=>
    rw[h]at hq;obtain⟨h1,v,h2⟩:=hq;exact⟨_,⟨h1,v,rfl⟩,h2⟩
  | none=>
    rw[h]at hq;obtain⟨h1,v,s,h2⟩:=hq;exact⟨_,⟨h1,v,s,rfl⟩,h2⟩
theorem fb {σ:AH} {n:Nat} {x:V} {rest:List At} (hs:Sat σ (.box n [x]::rest)) {Q:AH→Prop} (hq: ∀σ',Sat σ' (.box n [.b false]::rest)→Q σ'):M5 Tryz.prog 207 [.p n 0] (some Dw) σ Q:=by
 refine XH nb ?_
 conv=>whnf
 repeat'((first|apply st|(apply sq;intro K U)|(apply si;intro A B Y Z)|(apply Y;clear Z B Y A)|(apply U;clear U K)|refine FB fun σ hs=>?_|refine Dm fun σ hs=>?_|refine D2 ?_|refine iQ rfl ?_|(intro nn hnn;generalize hg:BC _ nn _=σ;refine Cm hg fun hs=>?_;clear hg)|fail)<;>conv=>whnf)
 exact hq _ (hs.less (Jn _ _))
theorem fe {σ:AH} {n:Nat} {x:V} {rest:List At} (hs:Sat σ (.box n [x]::rest)) {Q:AH→Prop} (hq: ∀σ',Sat σ' (.box n [x]::rest)→Q σ'):M5 Tryz.prog 207 [.p n 0] none σ Q:=by
 refine XH nb ?_
 conv=>whnf
 repeat'((first|apply st|(apply sq;intro K U)|(apply si;intro A B Y Z)|(apply Y;clear Z B Y A)|(apply U;clear U K)|refine D2 ?_|fail)<;>conv=>whnf)
 exact hq _ hs
theorem Yb (p:Prog) (nO:Nat):Bh Tryz.prog 161 [.f (.func 162) [] [.rp (BK p),.p nO 0]] [.box nO [.l [] true]] fun r post=>r= .ret (.b (BO p).isSome)∧ ∃v s,post= [.box nO [v],.own v 1 (iL s)]∧(BO p=none∨BO p=some s):=by
 intro σ hs;refine mZ nb ?_
 conv=>whnf
 repeat'((first|(apply sq;intro K U)|(apply si;intro A B Y Z)|(apply Y;clear Z B Y A)|(apply U;clear U K)|(intro nn hnn;generalize hg:BC _ nn _=σ;refine Cm hg fun hs=>?_;clear hg)|fail)<;>conv=>whnf)
 refine Bp ?_;refine(Xx p nO).use (rest:=[.box nn [.b false]]) (hs.perm (.swap _ _ _)) ?_;clear hs hnn;rintro r post σ hq hs;unfold u5 at hq;cases h:BO p with
 | none=>
   rw[h]at hq;obtain⟨rfl,v,s,rfl⟩:=hq
   conv=>whnf
   repeat'((first|(refine Z _ _ _ ?_;clear Z B Y A)|clear U K)<;>conv=>whnf)
   refine fb (rest:=[.box nO [v],.own v 1 (iL s)]) (hs.perm Pq) fun σ hs=>?_
   conv=>whnf
   repeat'((first|refine ld ?_|fail)<;>conv=>whnf)
   exact AO ⟨_,⟨by rw[h];rfl,v,s,rfl,.inl h⟩,hs.less (Jn _ _)⟩
 | some s=>
   rw[h]at hq;obtain⟨rfl,v,rfl⟩:=hq
   conv=>whnf
   repeat'((first|apply st|(apply sq;intro K U)|(apply si;intro A B Y Z)|(apply Y;clear Z B Y A)|(apply U;clear U K)|refine FB fun σ hs=>?_|fail)<;>conv=>whnf)
   replace hs:Sat σ ([.box nO [v],.own v 1 (iL s)]++[.box nn [.b true]]):=hs;refine fe (x:= .b true) (rest:=[.box nO [v],.own v 1 (iL s)]) (hs.perm Pq) fun σ hs=>?_
   conv=>whnf
   repeat'((first|refine ld ?_|fail)<;>conv=>whnf)
   exact AO ⟨_,⟨by rw[h];rfl,v,s,rfl,.inr h⟩,hs.less (Jn _ _)⟩
theorem bO (p:Prog):Bh Tryz.prog 137 [.a (BK p)] [] fun r post=> ∃v s,r= .ret (.t [v,.b (BO p).isSome])∧post= [.own v 1 (iL s)]∧(BO p=none∨BO p=some s):=by
 intro σ hs;refine nC nb ?_
 conv=>whnf
 repeat'((first|(apply sq;intro K U)|(apply si;intro A B Y Z)|(apply Y;clear Z B Y A)|(apply U;clear U K)|(intro nn hnn;generalize hg:BC _ nn _=σ;refine Cm hg fun hs=>?_;clear hg)|fail)<;>conv=>whnf)
 refine(Yb p nn).use (rest:=[]) (by simpa using hs) ?_;clear hs;rintro r post σ ⟨rfl,v,s,rfl,hl⟩ hs
 conv=>whnf
 repeat'((first|apply st|(apply sq;intro K U)|(apply si;intro A B Y Z)|(apply Y;clear Z B Y A)|(apply U;clear U K)|refine ld ?_|fail)<;>conv=>whnf)
 exact AO ⟨_,⟨v,s,rfl,rfl,hl⟩,hs.less (.cons _ (.cons₂ _ (MR _)))⟩
theorem dC (p:Prog):Pure Tryz.prog 107 [.a (BK p)] (eI (if(BO p).isSome then 0 else 2)):=by
 refine Pure.of ?_;have hz:=bO p;cases h:(BO p).isSome<;>rw[h]at hz
 all_goals
  refine nk nb ?_;have hs:=Sn
  conv=>whnf
  repeat'((first|apply st|(apply sq;intro K U)|(apply si;intro A B Y Z)|(apply Y;clear Z B Y A)|(apply U;clear U K)|refine⟨nb,?_⟩|fail)<;>conv=>whnf)
  refine hz.use (rest:=[]) (by simpa using hs) ?_;clear hs;rintro r post σ ⟨v,s,rfl,rfl,-⟩ hs
  conv=>whnf
  repeat'((first|apply st|(apply sq;intro K U)|(apply si;intro A B Y Z)|(apply Y;clear Z B Y A)|(apply U;clear U K)|refine E0 ?_|refine D2 ?_|clear U K)<;>conv=>whnf)
  exact AO rfl
theorem pZ {p:Prog} (h:(BO p).isSome=true):Bx p.AQ≤40:=by
 obtain⟨hh,-⟩:=Es h;simp only[Cw,BZ,CX]at hh;exact(K7 hh.1).2.1
theorem oR {p:Prog} (h:(BO p).isSome=true):p.AQ.length≤10:=by
 obtain⟨hh,-⟩:=Es h;simp only[Cw,BZ,CX]at hh;exact(K7 hh.1).2.2
theorem MX {p:Prog} (h:(BO p).isSome=true):CR (AP p):=by
 obtain⟨hh,-⟩:=Es h;simp only[Cw,BZ,CX]at hh;exact(K7 hh.1).1
theorem gC (p:Prog):Pure Tryz.prog 71 [.a (BK p)] (if(BO p).isSome then .t [.a (A2 (AP p)),eI 0]else .t [.a [.l [] true,.l [] true],eI 2]):=by
 have hz:=dC p;have hM:=Mx;cases h:(BO p).isSome<;>rw[h]at hz
 ·simp only[LY,if_false]at hz ⊢
  refine gp nb ?_;have hs:=Sn
  conv=>whnf
  repeat'((first|apply st|(apply sq;intro K U)|(apply si;intro A B Y Z)|(apply Y;clear Z B Y A)|(apply U;clear U K)|refine⟨rfl,?_⟩|refine⟨nb,?_⟩|refine ld ?_|refine Dm fun σ hs=>?_|refine Pure.use hz ?_|(constructor<;>intro hc<;>(try rw[hc])<;>(replace hc:=bp hc)<;>try(exfalso;omega))|(intro nn hnn;generalize hg:BC _ nn _=σ;refine Cm hg fun hs=>?_;clear hg)|clear U K)<;>conv=>whnf)
  all_goals exact AI rfl
 ·simp only[if_true]at hz ⊢
  have hm:=pZ h;have hc10:=oR h;refine gp nb ?_;have hs:=Sn
  conv=>whnf
  repeat'((first|apply st|(apply sq;intro K U)|(apply si;intro A B Y Z)|(apply Y;clear Z B Y A)|(apply U;clear U K)|refine⟨rfl,?_⟩|refine⟨nb,?_⟩|refine ld ?_|refine Dm fun σ hs=>?_|refine Pure.use hz ?_|refine Pure.use (Sw p (by omega) (by omega)) ?_|(constructor<;>intro hc<;>(try rw[hc])<;>(replace hc:=bp hc)<;>(try simp(disch:=omega) only[BE,wrap64,AL]at hc)<;>try(exfalso;omega))|(intro nn hnn;generalize hg:BC _ nn _=σ;refine Cm hg fun hs=>?_;clear hg)|fail)<;>conv=>whnf)
  all_goals exact AI rfl
end Go.Gl
namespace Go.Gl
open Go.Proofs
attribute [local irreducible] BL A4 Aj AW AM Ai AV AX AN Ah AS AU A8 BJ Sat Ac BF Ak W
abbrev xZ (p:Prog) (L:Nat):List V:=BK p++(A2 (AP p)++[.m L])
abbrev Fs (p:Prog) (L:Nat):V:= .rp (xZ p L)
abbrev kM (x:Int×Int):V:= .a [eI x.1,eI x.2]
def FK (p:Prog) (M:List (Int×Int)):List (V×V):=M.map fun x=>(kM x,.b (Dc p x.1 x.2))
theorem HU (p:Prog) (M:List (Int×Int)): ∀kv∈FK p M,Bv (.a [.i64,.i64]) kv.1=true:=by
 intro kv h;obtain⟨e,_,rfl⟩:=Lc.1 h;rfl
theorem ga (x y:Int×Int):ER (kM x) (kM y)=(x==y):=by
 obtain⟨a,b⟩:=x;obtain⟨c,d⟩:=y;have e:ER (kM (a,b)) (kM (c,d))=(a==c&&b==d):=by simp[ER,CO,kM]
 rw[e];rfl
theorem OG (p:Prog) (x:Int×Int): ∀(M:List (Int×Int)),DH (kM x) (FK p M)=if M.contains x then some (.b (Dc p x.1 x.2))else none
 | []=>rfl
 | y ::r=>by
   rw[FK,FC,DH,ga,List.contains_cons];cases h:x==y
   ·rw[cond_false,Bool.false_or]
    exact OG p x r
   ·rw[cond_true,Bool.true_or,if_pos rfl]
    have:x=y:=by simpa using h
    rw[this]
theorem Rr (p:Prog) (x:Int×Int): ∀(M:List (Int×Int)),M.contains x=false→EO (kM x) (.b (Dc p x.1 x.2)) (FK p M)=FK p (M++[x])
 | [],_=>rfl
 | y::r,h=>by
   rw[List.contains_cons,Bool.or_eq_false_iff]at h;have ih:=Rr p x r h.2;simp only[FK]at ih;rw[FK,FC,EO,ga,h.1,cond_false,ih];rfl
theorem GK (p:Prog):Bh Tryz.prog 42 [.a (BK p)] [] fun r post=>if(BO p).isSome then∃L,r= .ret (Fs p L)∧post= [.map L []]else r= .ret .pn∧post= []:=by
 intro σ hs;have hw:=gC p;cases h:(BO p).isSome<;>rw[h]at hw
 ·simp only[LY,if_false]at hw ⊢
  refine gx nb ?_
  conv=>whnf
  repeat'((first|apply st|(apply sq;intro K U)|(apply si;intro A B Y Z)|(apply Y;clear Z B Y A)|(apply U;clear U K)|refine⟨rfl,?_⟩|refine⟨nb,?_⟩|refine Dm fun σ hs=>?_|refine Pure.use hw ?_|(constructor<;>intro hc<;>(try rw[hc])<;>(replace hc:=bp hc)<;>try(exfalso;omega))|(intro nn hnn;generalize hg:BC _ nn _=σ;refine Cm hg fun hs=>?_;clear hg)|clear U K)<;>conv=>whnf)
  exact AO ⟨_,⟨rfl,rfl⟩,hs.less (MR _)⟩
 ·simp only[if_true]at hw ⊢
  refine gx nb ?_
  conv=>whnf
  repeat'((first|apply st|(apply sq;intro K U)|(apply si;intro A B Y Z)|(apply Y;clear Z B Y A)|(apply U;clear U K)|refine⟨rfl,?_⟩|refine⟨nb,?_⟩|refine ld ?_|refine Dm fun σ hs=>?_|refine Pure.use hw ?_|(constructor<;>intro hc<;>(try rw[hc])<;>(replace hc:=bp hc)<;>(try simp(disch:=omega) only[BE,wrap64,AL]at hc)<;>try(exfalso;omega))|(intro nn hnn;generalize hg:BC _ nn _=σ;refine Cm hg fun hs=>?_;clear hg)|fail)<;>conv=>whnf)
  exact AO ⟨_,⟨nn,rfl,rfl⟩,hs.less (.cons₂ _ (MR _))⟩
theorem pj (p:Prog) (L:Nat) (m:Int):Pure Tryz.prog 73 [eI m,.rp [Fs p L]] (.b (!A0 p m)):=by
 refine qQ nb ?_;have hs:=Sn
 conv=>whnf
 repeat'((first|apply st|(apply sq;intro K U)|(apply si;intro A B Y Z)|(apply Y;clear Z B Y A)|(apply U;clear U K)|refine⟨rfl,?_⟩|(constructor<;>intro hc<;>(try rw[hc])<;>(replace hc:=bp hc))|fail)<;>conv=>whnf)
 ·refine AI ?_
  have e1:decide (0≤m)=true:=decide_eq_true hc;rw[A0,e1,Fm,BE];show V.b (decide (m≥(p.methods.length:Int)))=_;by_cases hl:m<(p.methods.length:Int)
  ·rw[decide_eq_true hl,decide_eq_false (by omega)];rfl
  ·rw[decide_eq_false hl,decide_eq_true (by omega)];rfl
 ·refine AI ?_
  rw[A0,decide_eq_false (by omega)];rfl
theorem M7 {g:FuncId} {fi ca:List V} {f:Int→Bool} {xs:List Int} (b:Bool) (h: ∀y∈xs,Pure Tryz.prog g (fi++[eI y]++ca) (.b (f y))):Pure Tryz.prog 72 [.l (iL xs) b,.f (.func g) fi ca] (.b (xs.any f)):=by
 have:=GU g fi ca (fun _=>[]) (fun y (_:Unit)=>(f y,())) (fun y _=>y∈xs) (Oj fun y hy=>h y hy) xs b () (Gz fun y hy _=>hy);rw[K8]at this;exact Pure.of (BL.mono (this emp Sat.nil) fun r σ' ⟨post,⟨h1,h2⟩,h3⟩=>h1)
theorem gd (p:Prog) (L:Nat) (l:List Int) (b:Bool):Pure Tryz.prog 43 [Fs p L,.l (iL l) b] (.b (l.all (A0 p))):=by
 have hc:=fun b=>M7 (g:=73) (fi:=[]) (ca:=[.rp [Fs p L]]) (f:=fun m=> !A0 p m) (xs:=l) b fun y _=>pj p L y
 refine gw nb ?_;have hs:=Sn
 conv=>whnf
 repeat'((first|apply st|(apply sq;intro K U)|(apply si;intro A B Y Z)|(apply Y;clear Z B Y A)|(apply U;clear U K)|refine Pure.use (hc _) ?_|fail)<;>conv=>whnf)
 all_goals exact AI (by rw[List.all_eq_not_any_not];rfl)
theorem Z2 (l:List Int) (b:Bool):Pure Tryz.prog 43 [.pn,.l (iL l) b] (.b false):=by
 refine gw nb ?_;have hs:=Sn
 conv=>whnf
 repeat'((first|apply st|(apply sq;intro K U)|(apply si;intro A B Y Z)|(apply Y;clear Z B Y A)|(apply U;clear U K)|refine D2 ?_|fail)<;>conv=>whnf)
 all_goals exact AI rfl
theorem NW (p:Prog) (L:Nat) (m n:Int) (hm:A0 p m=true) (hn:A0 p n=true):Pure Tryz.prog 44 [Fs p L,eI m,eI n] (.b (Bw p m n)):=by
 refine Pure.fit (by kernel_rfl) fun hf=>?_
 have hxm:=Bs hm;have hxn:=Bs hn;simp only[A0,BZ,CX]at hm hn;refine qe nb ?_;have hs:=Sn
 conv=>whnf
 repeat'((first|apply st|(apply sq;intro K U)|(apply si;intro A B Y Z)|(apply Y;clear Z B Y A)|(apply U;clear U K)|apply dr|refine rk ?_ ?_|exact fun s e=>by cases e;rfl|refine⟨rfl,?_⟩|refine⟨nb,?_⟩|refine F6 ?_|refine ld ?_|refine Dm fun σ hs=>?_|(constructor<;>intro hc<;>(try rw[hc])<;>(replace hc:=bp hc))|(intro nn hnn;generalize hg:BC _ nn _=σ;refine Cm hg fun hs=>?_;clear hg)|fail)<;>conv=>whnf)
 all_goals exact AI (by simp[Bw, *])
set_option maxHeartbeats 1000000 in
theorem Qa (p:Prog) (L:Nat) (m n:Int) (hk:DF p) (hgw:CR (AP p)) (hfm: ∀x∈p.methods,Ce (AP p) x.fact=true) (hm:A0 p m=true) (hn:A0 p n=true) (M:List (Int×Int)) :
 Bh Tryz.prog 54 [Fs p L,eI m,eI n] [.map L (FK p M)] fun r post=>r= .ret (.b (Dc p m n))∧ ∃M',post= [.map L (FK p M')]:=by
 intro σ hs;have hxm:=Bs hm;have hxn:=Bs hn;have hmm:=B2 hxm;have hmn:=B2 hxn;have hip:=Q4 (AP p) hgw (BG p m).fact (BG p n).fact (hfm _ hmm) (hfm _ hmn) (hk.facts _ hmm).1 (hk.facts _ hmn).1 (by have:=(hk.facts _ hmm).2;have:=(hk.facts _ hmn).2;omega);simp only[A0,BZ,CX]at hm hn;have hfd:=OG p (m,n) M;refine gr nb ?_;cases hc:M.contains (m,n)
 ·rw[hc,if_neg (by decide)]at hfd
  conv=>whnf
  repeat'((first|apply st|(apply sq;intro K U)|(apply si;intro A B Y Z)|(apply Y;clear Z B Y A)|(apply U;clear U K)|apply dr|refine⟨nb,?_⟩|refine F6 ?_|refine ld ?_|refine Dm fun σ hs=>?_|refine E0 ?_|refine Lt hs 1 rfl rfl (HU _ _) hfd ?_|refine Hu hs 1 rfl rfl (HU _ _) fun σ hs=>?_|refine Pure.use hip ?_|(intro nn hnn;generalize hg:BC _ nn _=σ;refine Cm hg fun hs=>?_;clear hg)|fail)<;>conv=>whnf)
  replace hs:Sat σ [.box nn [eI m,eI n],.map L (EO (kM (m,n)) (.b (Dc p m n)) (FK p M))]:=hs;rw[Rr p (m,n) M hc]at hs;exact AO ⟨_,⟨rfl,_,rfl⟩,hs.less (Jn _ _)⟩
 ·rw[hc,if_pos rfl]at hfd
  conv=>whnf
  repeat'((first|apply st|(apply sq;intro K U)|(apply si;intro A B Y Z)|(apply Y;clear Z B Y A)|(apply U;clear U K)|apply dr|refine⟨nb,?_⟩|refine ld ?_|refine Dm fun σ hs=>?_|refine D2 ?_|refine Lt hs 1 rfl rfl (HU _ _) hfd ?_|(intro nn hnn;generalize hg:BC _ nn _=σ;refine Cm hg fun hs=>?_;clear hg)|fail)<;>conv=>whnf)
  exact AO ⟨_,⟨rfl,M,rfl⟩,hs.less (Jn _ _)⟩
theorem fy (p:Prog) (L:Nat) (m n:Int) (hk:DF p) (hgw:CR (AP p)) (hfm: ∀x∈p.methods,Ce (AP p) x.fact=true) (hm:A0 p m=true) (hn:A0 p n=true) (M:List (Int×Int)) :
 Bh Tryz.prog 45 [Fs p L,eI m,eI n] [.map L (FK p M)] fun r post=>r= .ret (.b (Ag p m n))∧ ∃M',post= [.map L (FK p M')]:=by
 intro σ hs;have h1:=fun M=>Qa p L m n hk hgw hfm hm hn M
 have h2:=fun M=>Qa p L n m hk hgw hfm hn hm M
 unfold Ag;cases hb1:Dc p m n<;>cases hb2:Dc p n m<;>rw[hb1]at h1<;>rw[hb2]at h2
 all_goals
  refine gv nb ?_
  conv=>whnf
  repeat'((first|(apply sq;intro K U)|(apply si;intro A B Y Z)|(apply Y;clear Z B Y A)|(apply U;clear U K)|fail)<;>conv=>whnf)
  refine(h1 M).use (rest:=[]) (by simpa using hs) ?_;clear hs;rintro r post σ ⟨rfl,M',rfl⟩ hs
  conv=>whnf
  repeat'((first|apply st|(apply Y;clear Z B Y A)|(apply U;clear U K)|fail)<;>conv=>whnf)
 ·exact AO ⟨_,⟨rfl,M',rfl⟩,hs⟩
 ·exact AO ⟨_,⟨rfl,M',rfl⟩,hs⟩
 all_goals
  refine(h2 M').use (rest:=[]) (by simpa using hs) ?_;clear hs;rintro r post σ ⟨rfl,M2,rfl⟩ hs
  conv=>whnf
  repeat'((first|apply st|(apply Y;clear Z B Y A)|(apply U;clear U K)|fail)<;>conv=>whnf)
  exact AO ⟨_,⟨rfl,M2,rfl⟩,hs⟩
theorem JG {p:Prog} (h:(BO p).isSome=true): ∀x∈p.methods,Ce (AP p) x.fact=true:=fun x hx=>by
 have:=(Es h).2 x hx;simp only[NY,BZ]at this;exact this.2.2.2.2.1
theorem R5 (p:Prog) (m n:Int):Pure Tryz.prog 12 [.a (BK p),eI m,eI n] (.t [.b (Hq p m n).1,eI (Hq p m n).2]):=by
 refine Pure.of ?_;have hr:=GK p;refine qv nb ?_;have hs:=Sn
 conv=>whnf
 repeat'((first|apply st|(apply sq;intro K U)|(apply si;intro A B Y Z)|(apply Y;clear Z B Y A)|(apply U;clear U K)|refine⟨nb,?_⟩|fail)<;>conv=>whnf)
 refine hr.use (rest:=[]) (by simpa using hs) ?_;clear hs;cases h:(BO p).isSome
 ·have hh:=fun b=>Z2 [m,n] b
  rintro r post σ ⟨rfl,rfl⟩ hs
  conv=>whnf
  repeat'((first|apply st|(apply sq;intro K U)|(apply si;intro A B Y Z)|(apply Y;clear Z B Y A)|(apply U;clear U K)|refine E0 ?_|refine Pure.use (hh _) ?_|clear U K)<;>conv=>whnf)
  exact AO (by simp[Hq,h])
 ·rintro r post σ ⟨L,rfl,rfl⟩ hs
  have hh:=fun b=>gd p L [m,n] b
  have hall: [m,n].all (A0 p)=(A0 p m&&A0 p n):=by simp
  rw[hall]at hh;cases hmn:A0 p m&&A0 p n<;>rw[hmn]at hh
  ·conv=>whnf
   repeat'((first|apply st|(apply sq;intro K U)|(apply si;intro A B Y Z)|(apply Y;clear Z B Y A)|(apply U;clear U K)|refine E0 ?_|refine Pure.use (hh _) ?_|clear U K)<;>conv=>whnf)
   exact AO (by simp only[Hq,h,hmn];rfl)
  ·obtain⟨hm,hn⟩:=Bool.and_eq_true_iff.1 hmn
   have ha:=NW p L m n hm hn;cases hal:Bw p m n<;>rw[hal]at ha
   ·conv=>whnf
    repeat'((first|apply st|(apply sq;intro K U)|(apply si;intro A B Y Z)|(apply Y;clear Z B Y A)|(apply U;clear U K)|refine E0 ?_|refine D2 ?_|refine Pure.use (hh _) ?_|refine Pure.use ha ?_|clear U K)<;>conv=>whnf)
    exact AO (by simp only[Hq,h,hmn,hal];rfl)
   ·conv=>whnf
    repeat'((first|apply st|(apply sq;intro K U)|(apply si;intro A B Y Z)|(apply Y;clear Z B Y A)|(apply U;clear U K)|refine D2 ?_|refine Pure.use (hh _) ?_|refine Pure.use ha ?_|fail)<;>conv=>whnf)
    refine(fy p L m n (look_ok h) (MX h) (JG h) hm hn []).use (rest:=[]) hs ?_;clear hs;rintro r post σ ⟨rfl,M,rfl⟩ hs
    conv=>whnf
    repeat'((first|apply st|(apply Y;clear Z B Y A)|(apply U;clear U K)|fail)<;>conv=>whnf)
    exact AO (by simp only[Hq,h,hmn,hal];rfl)
end Go.Gl
namespace Go.Gl
open Go.Proofs
theorem ZT {σ:AH} {α:Type} {enc:α→List V} {xs:List α} {f:Bool} {sz:Nat} {ki:IntKind} {j:Int} {K:V→AH→Prop} (h:K (.l ((xs.drop j.toNat).map enc) f) σ) (h0:0≤j) (h1:j≤xs.length) (hs: ∀x,(enc x).length=sz) :
 AV σ sz (.l (xs.map enc) f) (some (.i ki j)) none none K:=by
 unfold AV;refine⟨fun e he=>?_,?_⟩
 ·obtain⟨x,_,rfl⟩:=Lc.1 he
  exact hs x
 ·simp only[ND,BE]
  refine⟨by omega,by omega,by omega,?_⟩;rw[List.take_of_length_le (by simp)];simpa[List.map_drop]using h
attribute [local irreducible] BL A4 Aj AW AM Ai AV AX AN Ah AS AU A8 BJ Sat Ac BF Ak W
abbrev oj (T:List (List Bool)):V:= .l (T.map fun r=>[.l (bL r) false]) false
def Dn (T:List (List Bool)) (m n:Int):Bool:=(T.getD m.toNat []).getD n.toNat false
structure JX (T:List (List Bool)) (l:List Int):Prop where
 len:T.length≤16
 sq: ∀r∈T,r.length=T.length
 ins: ∀x∈l,0≤x∧x<(T.length:Int)
 many:l.length≤16
theorem gL {T:List (List Bool)} {l:List Int} (h:JX T l) {m n:Int} (hm:0≤m∧m<(T.length:Int)) (hn:0≤n∧n<(T.length:Int)): ∃r,T[m.toNat]? =some r∧r[n.toNat]? =some (Dn T m n):=by
 have h1:m.toNat<T.length:=by omega
 refine⟨T[m.toNat],Cu h1,?_⟩;have h2:=h.sq T[m.toNat] (List.getElem_mem h1);have h3:n.toNat<T[m.toNat].length:=by omega
 rw[Cu h3];simp only[Dn,DL,Cu h1,Option.getD_some,Cu h3]
theorem Of (l:List Int) (f:Bool) (i:Nat) (ha:i<l.length) (hl:l.length≤16):Pure Tryz.prog 134 [.l (iL l) f,eI (i:Int)] (.l (iL (l.eraseIdx i)) false):=by
 have hM:=Mx;refine nG nb ?_;have hs:=Sn
 conv=>whnf
 repeat'((first|(apply sq;intro K U)|(apply si;intro A B Y Z)|(apply Y;clear Z B Y A)|(apply U;clear U K)|apply dr|refine⟨rfl,?_⟩|refine u9 ?_|(rw[wrap64 (by omega) (by omega)];refine ZT ?_ (by omega) (by omega) fun _=>rfl)|fail)<;>conv=>whnf)
 replace hs:=Ey hs 1;refine HL hs 0 (xs:=[]) (ys:=l.take (i:Int).toNat) rfl (by simp;omega) Bq fun v σ hs=>?_
 conv=>whnf
 repeat'((first|apply dr|fail)<;>conv=>whnf)
 refine HL hs 0 (xs:=[]++l.take (i:Int).toNat) (ys:=l.drop ((i:Int)+1).toNat) rfl (by simp;omega) Bq fun v σ hs=>?_
 conv=>whnf
 repeat'((first|apply st|(apply Y;clear Z B Y A)|(apply U;clear U K)|apply dr|fail)<;>conv=>whnf)
 have e: []++l.take (i:Int).toNat++l.drop ((i:Int)+1).toNat=l.eraseIdx i:=by
  rw[List.eraseIdx_eq_take_drop_succ,List.nil_append,Ih,show((i:Int)+1).toNat=i+1 by omega]
 rw[e]at hs;exact BV (hs.NC 0 rfl)
def Gr (A:Int→Int→Bool) (l:List Int) (i k:Nat):Bool:=(List.range k).all fun j=>j==i||A (l.getD i 0) (l.getD j 0)
def Eb (A:Int→Int→Bool) (l:List Int):Option Nat:=(List.range l.length).find? fun i=>Gr A l i l.length
def Lv (A:Int→Int→Bool) (l:List Int):Int:=match Eb A l with|some i=>i|none=> -1
theorem QA (A:Int→Int→Bool) (l:List Int) (i k:Nat):Gr A l i (k+1)=(Gr A l i k&&(k==i||A (l.getD i 0) (l.getD k 0))):=by
 rw[Gr,List.range_succ,List.all_append,Gr];simp
theorem CG {l:List Int} {k:Nat} {x:Int} (h:l[k]? =some x):l.getD k 0=x:=by rw[DL,h];rfl
theorem Ye {A:Int→Int→Bool} {l:List Int} {i:Nat} (h:Eb A l=some i):i<l.length:=by
 have:=List.mem_of_find?_eq_some h;simpa using this
theorem cL {A:Int→Int→Bool} {l:List Int} {i:Nat} (hi:i<l.length) (h:Gr A l i l.length=true) (hn: ∀j,j<i→Gr A l j l.length=false):Lv A l=i:=by
 have:Eb A l=some i:=by
  rw[Eb,List.find?_range_eq_some];exact⟨h,List.mem_range.2 hi,fun j hj=>by rw[hn j hj];rfl⟩
 rw[Lv,this]
theorem Ve {A:Int→Int→Bool} {l:List Int} (hn: ∀j,j<l.length→Gr A l j l.length=false):Lv A l= -1:=by
 have:Eb A l=none:=by
  rw[Eb,List.find?_range_eq_none];exact fun j hj=>by rw[hn j hj];rfl
 rw[Lv,this]
set_option maxHeartbeats 1000000 in
theorem cM (T:List (List Bool)) (l:List Int) (f:Bool) (h:JX T l):Pure Tryz.prog 133 [oj T,.l (iL l) f] (eI (Lv (Dn T) l)):=by
 have hM:=Mx;have hm:=h.many;have hT:=h.len;refine nH nb ?_;have hs:=Sn
 conv=>whnf
 repeat'((first|apply st|(apply sq;intro K U)|(apply si;intro A B Y Z)|(apply Y;clear Z B Y A)|(apply U;clear U K)|fail)<;>conv=>whnf)
 refine B4 l.length (fun i (_:Unit)=>[(5,eI (A6 i))]) (fun _ _=>[]) (fun i _=> ∀j,j<i→Gr (Dn T) l j l.length=false) () rfl (fun j hj=>by omega) hs ?_;clear hs;rintro i - σ hi hn hs;rcases BH l hi with⟨x,hx,hlt⟩|hie
 ·have hxi:=h.ins x (B2 hx)
  conv=>whnf
  repeat'((first|apply st|(apply sq;intro K U)|(apply si;intro A B Y Z)|(apply Y;clear Z B Y A)|(apply U;clear U K)|refine⟨rfl,?_⟩|(refine CS (fun hc=>?_)<;>(try rw[hc])<;>clear hc)|fail)<;>conv=>whnf)
  refine B4 l.length (fun k (b:Bool)=>[(6,.b b),(7,eI (A6 k))]) (fun _ _=>[]) (fun k b=>b=Gr (Dn T) l i k) true rfl rfl hs ?_;clear hs;rintro k b σ hk hb hs;rcases BH l hk with⟨y,hy,hklt⟩|hke
  ·have hyi:=h.ins y (B2 hy)
   obtain⟨r,hr,hry⟩:=gL h hxi hyi;have hsu:=QA (Dn T) l i k;rw[CG hx,CG hy,←hb]at hsu;have hci:A6 i=i:=AL (by omega);have hck:A6 k=k:=AL (by omega);have hrl:=h.sq r (B2 hr);cases b
   ·conv=>whnf
    repeat'((first|apply st|(apply sq;intro K U)|(apply si;intro A B Y Z)|(apply Y;clear Z B Y A)|(apply U;clear U K)|apply dr|refine⟨rfl,?_⟩|(refine CS (fun hc=>?_)<;>(try rw[hc])<;>clear hc)|clear U K)<;>conv=>whnf)
    exact⟨hklt,false,rfl,(hsu.trans (by simp)).symm,hs⟩
   ·by_cases hki:k=i
    ·conv=>whnf
     repeat'((first|apply st|(apply sq;intro K U)|(apply si;intro A B Y Z)|(apply Y;clear Z B Y A)|(apply U;clear U K)|apply dr|refine⟨rfl,?_⟩|(refine CS (fun hc=>?_)<;>(try rw[hc])<;>clear hc)|(constructor<;>intro hc<;>(try rw[hc])<;>(replace hc:=bp hc)<;>(try simp(disch:=omega) only[BE,wrap64,AL]at hc)<;>try(exfalso;omega))|clear U K)<;>conv=>whnf)
     exact⟨hklt,true,rfl,(hsu.trans (by simp[hki])).symm,hs⟩
    ·conv=>whnf
     repeat'((first|apply st|(apply sq;intro K U)|(apply si;intro A B Y Z)|(apply Y;clear Z B Y A)|(apply U;clear U K)|apply dr|refine⟨rfl,?_⟩|refine ix ?_|refine F6 ?_|(refine CS (fun hc=>?_)<;>(try rw[hc])<;>clear hc)|(constructor<;>intro hc<;>(try rw[hc])<;>(replace hc:=bp hc)<;>(try simp(disch:=omega) only[BE,wrap64,AL]at hc)<;>try(exfalso;omega))|clear U K)<;>conv=>whnf)
     exact⟨hklt,Dn T x y,rfl,(hsu.trans (by simp[hki])).symm,hs⟩
  ·conv=>whnf
   repeat'((first|apply st|(apply sq;intro K U)|(apply si;intro A B Y Z)|(apply Y;clear Z B Y A)|(apply U;clear U K)|refine⟨rfl,?_⟩|(refine Dh (fun hc=>?_)<;>(try rw[hc])<;>clear hc)|(constructor<;>intro hc<;>(try rw[hc])<;>(replace hc:=bp hc))|clear U K)<;>conv=>whnf)
   ·exact AI (by rw[cL hlt (by rw[←hke,←hb,hc]) hn,AL (by omega)])
   ·refine⟨hlt,(),rfl,fun j hj=>?_,hs⟩
    rcases Nat.lt_or_ge j i with h'|h'
    ·exact hn j h'
    ·rw[show j=i by omega,←hke,←hb,hc]
 ·conv=>whnf
  repeat'((first|apply st|(apply sq;intro K U)|(apply si;intro A B Y Z)|(apply Y;clear Z B Y A)|(apply U;clear U K)|refine⟨rfl,?_⟩|(refine Dh (fun hc=>?_)<;>(try rw[hc])<;>clear hc)|clear U K)<;>conv=>whnf)
  exact AI (by rw[Ve fun j hj=>hn j (by omega)])
def Ba (A:Int→Int→Bool):Nat→List Int→List Int×Bool
 | 0,_=>([],false)
 | k+1,l=>match Eb A l with
   | none=>([],!l.isEmpty)
   | some i=>(l.getD i 0::(Ba A k (l.eraseIdx i)).1,(Ba A k (l.eraseIdx i)).2)
theorem JX.less {T:List (List Bool)} {l:List Int} (h:JX T l) (i:Nat):JX T (l.eraseIdx i):=
 ⟨h.len,h.sq,fun x hx=>h.ins x (List.mem_of_mem_eraseIdx hx),Nat.le_trans (List.length_eraseIdx_le _ _) h.many⟩
set_option maxHeartbeats 1000000 in
theorem OS (T:List (List Bool)) (l:List Int) (f:Bool) (h:JX T l):Pure Tryz.prog 100 [oj T,.l (iL l) f] (.t [.l (iL (Ba (Dn T) l.length l).1) false,.b (Ba (Dn T) l.length l).2]):=by
 have hM:=Mx;refine ny nb ?_;have hs:=Sn
 conv=>whnf
 repeat'((first|apply st|(apply sq;intro K U)|(apply si;intro A B Y Z)|(apply Y;clear Z B Y A)|(apply U;clear U K)|fail)<;>conv=>whnf)
 refine EF (fun(x:List Int×Bool×V×List Int)=>x.1.length) (fun x=>[(1,.l (iL x.1) x.2.1),(6,x.2.2.1)]) (fun x=>[.own x.2.2.1 1 (iL x.2.2.2)])
  (fun x=>JX T x.1∧x.2.2.2.length+x.1.length≤16∧Ba (Dn T) l.length l=(x.2.2.2++(Ba (Dn T) x.1.length x.1).1,(Ba (Dn T) x.1.length x.1).2)) (l,f,.l [] true,[]) rfl ⟨h,by simpa using h.many,by simp⟩ (Ey hs 1) ?_
 clear hs;rintro⟨l',f',v,out⟩ σ ⟨ho,hlen,hm⟩ hs;dsimp only at ho hlen hm hs;dsimp only;have c1:=cM T l' f' ho;have hll:out.length<Ad∧(out.length+1)*8≤140737488355328:=by omega
 by_cases hz:l'.length=0
 ·conv=>whnf
  repeat'((first|apply st|(apply sq;intro K U)|(apply si;intro A B Y Z)|(apply Y;clear Z B Y A)|(apply U;clear U K)|refine⟨rfl,?_⟩|(constructor<;>intro hc<;>(try rw[hc])<;>(replace hc:=bp hc)<;>(try simp(disch:=omega) only[BE,wrap64,AL]at hc)<;>try(exfalso;omega))|clear U K)<;>conv=>whnf)
  rw[hz]at hm;simp only[Ba,Hj]at hm;rw[hm];exact BV (.t (.cons (hs.NC 0 rfl) (.cons (.refl _) .nil)))
 ·rw[Lv]at c1
  obtain⟨n,hn⟩: ∃n,l'.length=n+1:=⟨l'.length - 1,by omega⟩
  have hne:l'.isEmpty=false:=by cases l' with
   | nil=>simp at hz
   | cons=>rfl
  rw[hn,Ba]at hm;cases hfo:Eb (Dn T) l' with
  | none=>
    rw[hfo]at c1 hm;dsimp only at c1 hm
    conv=>whnf
    repeat'((first|apply st|(apply sq;intro K U)|(apply si;intro A B Y Z)|(apply Y;clear Z B Y A)|(apply U;clear U K)|refine⟨rfl,?_⟩|refine Pure.use c1 ?_|(constructor<;>intro hc<;>(try rw[hc])<;>(replace hc:=bp hc)<;>(try simp(disch:=omega) only[BE,wrap64,AL]at hc)<;>try(exfalso;omega))|clear U K)<;>conv=>whnf)
    rw[hm,hne,Hj];exact BV (.t (.cons (hs.NC 0 rfl) (.cons (.refl _) .nil)))
  | some i=>
    rw[hfo]at c1 hm;dsimp only at c1 hm;have hi:=Ye hfo;have c2:=Of l' f' i hi ho.many;obtain⟨x,hx⟩: ∃x,l'[i]? =some x:=⟨_,Cu hi⟩
    have hel:=List.length_eraseIdx_of_lt hi;rw[CG hx]at hm
    conv=>whnf
    repeat'((first|apply st|(apply sq;intro K U)|(apply si;intro A B Y Z)|(apply Y;clear Z B Y A)|(apply U;clear U K)|refine⟨rfl,?_⟩|refine F6 ?_|refine aq fun v σ hs hsl=>?_|refine Pure.use c1 ?_|refine Pure.use c2 ?_|(constructor<;>intro hc<;>(try rw[hc])<;>(replace hc:=bp hc)<;>(try simp(disch:=omega) only[BE,wrap64,AL]at hc)<;>try(exfalso;omega))|clear U K)<;>conv=>whnf)
    refine⟨(l'.eraseIdx i,false,v,out++[x]),by dsimp only;omega,rfl,⟨ho.less i,by simp;omega,?_⟩,hs⟩;dsimp only;rw[hm,hel,show l'.length - 1=n by omega];simp
end Go.Gl
namespace Go.Gl
open Go.Proofs
theorem j0 {b:Nat} {σ:AH} {l:List At} (h:Sat σ l) (i j:Nat) {v:V} {n len cap off ln sz:Nat} {es ys:List (List V)} {K:V→AH→Prop} (hi:l[i]? =some (.own v sz es)) (hj:l[j]? =some (.own (.sl n len cap) sz ys)) (hle:off+ln≤ys.length) (hl:es.length+ln≤Ad∧(es.length+ln)*b≤140737488355328) (hys: ∀e∈ys,e.length=sz) (ho: ∀e∈ys,∀v∈e,Db v=true)
 (hk: ∀v' σ',Sat σ' (l.set i (.own v' sz (es++(ys.drop off).take ln)))→K v' σ'):AM b σ sz v (.sv n sz off ln) K:=by
 have hlen:((ys.drop off).take ln).length=ln:=by rw[LW,iF];omega
 have hm: ∀e∈(ys.drop off).take ln,e∈ys:=fun e he=>List.mem_of_mem_drop (List.mem_of_mem_take he)
 have Y:AM b σ sz v (.l ((ys.drop off).take ln) true) K:=hAppend h i hi (by rw[hlen];exact hl) (fun e he=>hys e (hm e he)) (fun e he=>ho e (hm e he)) hk;rcases h.get hj with⟨e1,hel⟩|⟨n',cap',e1,hn⟩
 ·cases e1
 ·cases e1
  unfold AM at Y ⊢;simp only[rowsOf]at Y ⊢;rw[hn];refine⟨?_,?_,hle,Y.2⟩<;>first|trivial|rfl
theorem NQ {b:Nat} {σ:AH} {l:List At} (h:Sat σ l) (i j:Nat) {α:Type} {enc:α→List V} {xs ys:List α} {v:V} {n len cap off ln sz:Nat} {K:V→AH→Prop} (hi:l[i]? =some (.own v sz (xs.map enc))) (hj:l[j]? =some (.own (.sl n len cap) sz (ys.map enc))) (hle:off+ln≤ys.length) (hl:xs.length+ln≤Ad∧(xs.length+ln)*b≤140737488355328) (hg:EP enc sz)
 (hk: ∀v' σ',Sat σ' (l.set i (.own v' sz ((xs++(ys.drop off).take ln).map enc)))→K v' σ'):AM b σ sz v (.sv n sz off ln) K:=
 j0 h i j hi hj (by simpa using hle) (by simpa using hl) (Cl hg ys).1 (Cl hg ys).2 fun v' σ' hs=>hk v' σ' (by simpa[List.map_take,List.map_drop]using hs)
theorem IC {b sz:Nat} {σ:AH} {v y:V} {K:V→AH→Prop} (hv:(B6 v).isSome=true) (h:AM b σ sz v y fun v' σ'=>(B6 v').isSome=true→K v' σ'):AM b σ sz v y K:=by
 obtain⟨n,l,c,rfl⟩:=ZU hv;unfold AM at h ⊢;refine Eu h fun ys h=>⟨h.1,?_⟩
 have h2:=h.2;dsimp only at h2 ⊢;cases hn:σ n with
 | none=>rw[hn]at h2;exact h2
 | some o=>
   rw[hn]at h2;cases o with
   | arr s es c'=>exact⟨h2.1,h2.2.1,h2.2.2.1,h2.2.2.2.1,fun n' cap' h3 h4=>h2.2.2.2.2 n' cap' h3 h4 rfl⟩
   | _=>exact h2
theorem jO {σ:AH} {l:List At} (h:Sat σ l) {i:Nat} {v:V} {sz:Nat} {es:List (List V)} (hi:l[i]? =some (.own v sz es)) (hv:(B6 v).isSome=true): ∃n cp,v= .sl n es.length cp:=by
 rcases h.get hi with⟨e,_⟩|⟨n,cp,e,_⟩
 ·rw[e]at hv;cases hv
 ·exact⟨n,cp,e⟩
attribute [local irreducible] BL A4 Aj AW AM Ai AV AX AN Ah AS AU A8 BJ Sat Ac BF Ak W
def Gw (x:Int) (out:List Int):List Int:=out.takeWhile (fun y=>decide (y<x))++x::out.dropWhile (fun y=>decide (y<x))
def Cd (l:List Int):List Int:=l.foldl (fun out x=>Gw x out) []
theorem K4 (x:Int) (out:List Int):(Gw x out).length=out.length+1:=by
 have:=congrArg List.length (List.takeWhile_append_dropWhile (p:=fun y=>decide (y<x)) (l:=out));rw[PT]at this;rw[Gw,PT,LX];omega
theorem Ru {x:Int} {out:List Int} {k:Nat} (h1:out.takeWhile (fun y=>decide (y<x))=out.take k++(out.drop k).takeWhile (fun y=>decide (y<x))) (h2:(out.drop k).takeWhile (fun y=>decide (y<x))= []) (hk:k≤out.length):Gw x out=out.take k++x::out.drop k:=by
 rw[h2,Hj]at h1;have:=List.takeWhile_append_dropWhile (p:=fun y=>decide (y<x)) (l:=out);rw[h1]at this
 have e:out.dropWhile (fun y=>decide (y<x))=out.drop k:=by
  have h3:out.take k++out.dropWhile (fun y=>decide (y<x))=out.take k++out.drop k:=by rw[this,List.take_append_drop]
  exact List.append_cancel_left h3
 rw[Gw,h1,e]
set_option maxHeartbeats 4000000 in
theorem jA (l:List Int) (f:Bool) (hl:l.length≤16):Pure Tryz.prog 38 [.l (iL l) f] (.l (iL (Cd l)) false):=by
 have hM:=Mx;refine qg nb ?_;have hs:=Sn
 conv=>whnf
 repeat'((first|apply st|(apply sq;intro K U)|(apply si;intro A B Y Z)|(apply Y;clear Z B Y A)|(apply U;clear U K)|fail)<;>conv=>whnf)
 refine B4 l.length (fun i (x:V×List Int)=>[(3,x.1),(4,eI (A6 i))]) (fun _ x=>[.own x.1 1 (iL x.2)]) (fun i x=>x.2=Cd (l.take i)∧x.2.length=i∧(i=0→x.1= .l [] true)∧(1≤i→(B6 x.1).isSome=true)) (.l [] true,[]) rfl ⟨rfl,rfl,fun _=>rfl,fun h=>by omega⟩ (Ey hs 1) ?_;clear hs;rintro i ⟨v,out⟩ σ hi ⟨ho,hol,h0,h1⟩ hs;dsimp only at ho hol h0 h1 hs;dsimp only;rcases BH l hi with⟨z,hz,hlt⟩|hie
 ·have hsr:Cd (l.take (i+1))=Gw z out:=by rw[AR hz,Cd,List.foldl_append,ho];rfl
  conv=>whnf
  repeat'((first|apply st|(apply sq;intro K U)|(apply si;intro A B Y Z)|(apply Y;clear Z B Y A)|(apply U;clear U K)|refine⟨rfl,?_⟩|(refine CS (fun hc=>?_)<;>(try rw[hc])<;>clear hc)|fail)<;>conv=>whnf)
  refine EF (fun k:Nat=>out.length - k) (fun k=>[(5,eI (A6 k))]) (fun _=>[.own v 1 (iL out)]) (fun k=>k≤out.length∧out.takeWhile (fun y=>decide (y<z))=out.take k++(out.drop k).takeWhile (fun y=>decide (y<z))) 0 rfl ⟨Nat.zero_le _,rfl⟩ hs ?_;clear hs;rintro k σ ⟨hk,htw⟩ hs;have hck:A6 k=k:=AL (by omega);by_cases hi0:i=0
  ·obtain rfl:=h0 hi0
   have hins:=Ru htw (by rw[Al (by omega)];rfl) hk
   conv=>whnf
   repeat'((first|apply st|(apply sq;intro K U)|(apply si;intro A B Y Z)|(apply Y;clear Z B Y A)|(apply U;clear U K)|apply dr|refine⟨rfl,?_⟩|refine ix ?_|refine u9 (xs:=([]:List Int)) (enc:=fun x:Int=>[eI x]) ?_ (by omega) (by simp;omega) (fun _=>rfl)|refine ZT (xs:=([]:List Int)) (enc:=fun x:Int=>[eI x]) ?_ (by omega) (by simp;omega) (fun _=>rfl)|(constructor<;>intro hc<;>(try rw[hc])<;>(replace hc:=bp hc)<;>(try simp(disch:=omega) only[BE,wrap64,AL]at hc))|clear U K)<;>conv=>whnf)
   ·exfalso
    simp at hc;omega
   replace hs:=Cv hs 1;refine HL hs 0 (xs:=[]) (ys:=List.take (A6 k).toNat []) rfl (by simp) Bq fun v1 σ hs=>?_
   conv=>whnf
   repeat'((first|apply dr|refine rk ?_ ?_|exact fun s e=>by cases e;rfl|refine aq fun v σ hs hsl=>?_|refine ZT (xs:=([]:List Int)) (enc:=fun x:Int=>[eI x]) ?_ (by omega) (by simp;omega) (fun _=>rfl)|fail)<;>conv=>whnf)
   refine IC (by assumption) (HL hs 0 (xs:=([]++List.take (A6 k).toNat [])++[z]) (ys:=List.drop (A6 k).toNat []) rfl (by simp[Ad]) Bq fun v1 σ hs hsl=>?_)
   conv=>whnf
   repeat'((first|(apply si;intro A B Y Z)|(apply Y;clear Z B Y A)|(apply U;clear U K)|apply dr|refine⟨rfl,?_⟩|clear U K)<;>conv=>whnf)
   refine⟨hlt,(v1,Gw z out),rfl,⟨hsr.symm,by rw[K4];omega,fun h=>by omega,fun _=>hsl⟩,?_⟩;have ho0:out= []:=dD.1 (by omega);rw[hins,ho0];simp at hs ⊢;exact hs.less (.cons₂ _ (MR _))
  ·obtain⟨n,cp,rfl⟩:=jO hs (i:=0) rfl (h1 (by omega))
   have hlen:(iL out).length=out.length:=BE _;rcases BH out hk with⟨y,hy,hklt⟩|hke
   ·conv=>whnf
    repeat'((first|apply st|(apply sq;intro K U)|(apply si;intro A B Y Z)|(apply Y;clear Z B Y A)|(apply U;clear U K)|apply dr|refine⟨rfl,?_⟩|refine ix ?_|refine lo ?_|refine oi ?_|refine ol fun x hx=>?_|(refine CS (fun hc=>?_)<;>(try rw[hc])<;>clear hc)|refine iT ?_|refine ZI ?_|(constructor<;>intro hc<;>(try rw[hc])<;>(replace hc:=bp hc))|clear U K)<;>conv=>whnf)
    all_goals
     rw[hck,Ih,hy]at hx;obtain rfl:=Option.some.inj hx
    ·refine⟨k+1,by omega,rfl,⟨by omega,?_⟩,hs⟩
     rw[htw,drop_cons hy,List.takeWhile_cons,if_pos (by simpa using hc),AR hy];simp
    have hins:=Ru htw (by rw[drop_cons hy,List.takeWhile_cons,if_neg (by simpa using hc)]) hk;replace hs:=Cv hs 1;refine NQ hs 0 1 (xs:=[]) (ys:=out) rfl rfl (by omega) (by simp;omega) Bq fun v1 σ hs=>?_
    conv=>whnf
    repeat'((first|apply dr|refine rk ?_ ?_|exact fun s e=>by cases e;rfl|refine aq fun v σ hs hsl=>?_|refine ZI ?_|fail)<;>conv=>whnf)
    refine IC (by assumption) (NQ hs 0 1 (xs:=([]++(out.drop 0).take (A6 k).toNat)++[z]) (ys:=out) rfl rfl (by omega) (by simp;omega) Bq fun v1 σ hs hsl=>?_)
    conv=>whnf
    repeat'((first|(apply si;intro A B Y Z)|(apply Y;clear Z B Y A)|(apply U;clear U K)|apply dr|refine⟨rfl,?_⟩|clear U K)<;>conv=>whnf)
    refine⟨hlt,(v1,Gw z out),rfl,⟨hsr.symm,by rw[K4];omega,fun h=>by omega,fun _=>hsl⟩,?_⟩;rw[hins]
    have e:([]++(out.drop 0).take (A6 k).toNat)++[z]++(out.drop (A6 k).toNat).take (((iL out).length:Int) - A6 k).toNat=out.take k++z::out.drop k:=by
     have e1:(out.drop k).take (((iL out).length:Int) - A6 k).toNat=out.drop k:=List.take_of_length_le (by rw[iF];omega);rw[show(A6 k).toNat=k by omega,e1];simp
    rw[e]at hs;exact hs.less (.cons₂ _ (MR _))
   ·have hins:=Ru htw (by rw[Al hke];rfl) hk
    conv=>whnf
    repeat'((first|apply st|(apply sq;intro K U)|(apply si;intro A B Y Z)|(apply Y;clear Z B Y A)|(apply U;clear U K)|apply dr|refine⟨rfl,?_⟩|refine ix ?_|refine lo ?_|(refine Dh (fun hc=>?_)<;>(try rw[hc])<;>clear hc)|refine iT ?_|refine ZI ?_|clear U K)<;>conv=>whnf)
    replace hs:=Cv hs 1;refine NQ hs 0 1 (xs:=[]) (ys:=out) rfl rfl (by omega) (by simp;omega) Bq fun v1 σ hs=>?_
    conv=>whnf
    repeat'((first|apply dr|refine rk ?_ ?_|exact fun s e=>by cases e;rfl|refine aq fun v σ hs hsl=>?_|refine ZI ?_|fail)<;>conv=>whnf)
    refine IC (by assumption) (NQ hs 0 1 (xs:=([]++(out.drop 0).take (A6 k).toNat)++[z]) (ys:=out) rfl rfl (by omega) (by simp;omega) Bq fun v1 σ hs hsl=>?_)
    conv=>whnf
    repeat'((first|(apply si;intro A B Y Z)|(apply Y;clear Z B Y A)|(apply U;clear U K)|apply dr|refine⟨rfl,?_⟩|clear U K)<;>conv=>whnf)
    refine⟨hlt,(v1,Gw z out),rfl,⟨hsr.symm,by rw[K4];omega,fun h=>by omega,fun _=>hsl⟩,?_⟩;rw[hins]
    have e:([]++(out.drop 0).take (A6 k).toNat)++[z]++(out.drop (A6 k).toNat).take (((iL out).length:Int) - A6 k).toNat=out.take k++z::out.drop k:=by
     have e1:(out.drop k).take (((iL out).length:Int) - A6 k).toNat=out.drop k:=List.take_of_length_le (by rw[iF];omega);rw[show(A6 k).toNat=k by omega,e1];simp
    rw[e]at hs;exact hs.less (.cons₂ _ (MR _))
 ·conv=>whnf
  repeat'((first|apply st|(apply sq;intro K U)|(apply si;intro A B Y Z)|(apply Y;clear Z B Y A)|(apply U;clear U K)|refine⟨rfl,?_⟩|(refine Dh (fun hc=>?_)<;>(try rw[hc])<;>clear hc)|clear U K)<;>conv=>whnf)
  rw[hie,List.take_length]at ho;rw[←ho];exact BV (hs.NC 0 rfl)
end Go.Gl
namespace Go.Gl
open Go.Proofs
attribute [local irreducible] BL A4 Aj AW AM Ai AV AX AN Ah AS AU A8 BJ Sat Ac BF Ak W
def Jq (A:Int→Int→Bool) (l:List Int) (i k:Nat):Bool:=(List.range k).all fun j=> !A (l.getD j 0) (l.getD i 0)
def Lj (A:Int→Int→Bool) (l:List Int):Option Nat:=(List.range l.length).find? fun i=>Jq A l i l.length
def DB (A:Int→Int→Bool):Nat→List Int→List Int
 | 0,_=>[]
 | k+1,l=>l.getD ((Lj A l).getD 0) 0::DB A k (l.eraseIdx ((Lj A l).getD 0))
theorem YF (A:Int→Int→Bool) (l:List Int) (i k:Nat):Jq A l i (k+1)=(Jq A l i k&& !A (l.getD k 0) (l.getD i 0)):=by
 rw[Jq,List.range_succ,List.all_append,Jq];simp
def uv (p:Nat→Bool) (n:Nat) (i a:Int):Prop:=(a=0∧ ∀t:Nat,i<t→t<n→p t=false)∨ ∃b:Nat,a=b∧i<b∧b<n∧p b=true∧ ∀t:Nat,i<t→t<b→p t=false
theorem fX {p:Nat→Bool} {n:Nat} {a:Int} (h:uv p n (-1) a):a=(((List.range n).find? p).getD 0:Nat):=by
 rcases h with⟨h1,h2⟩|⟨b,h1,-,h3,h4,h5⟩
 ·rw[List.find?_range_eq_none.2 fun t ht=>by rw[h2 t (by omega) ht];rfl]
  exact h1
 ·rw[List.find?_range_eq_some.2 ⟨h4,List.mem_range.2 h3,fun t ht=>by rw[h5 t (by omega) ht];rfl⟩]
  exact h1
theorem cP {p:Nat→Bool} {n:Nat} {i:Nat} {a:Int} (h:uv p n i a) (hi:i<n):uv p n ((i:Int) - 1) (if p i then(i:Int)else a):=by
 cases hp:p i
 ·rw[if_neg (by decide)]
  rcases h with⟨h1,h2⟩|⟨b,h1,h2,h3,h4,h5⟩
  ·refine .inl ⟨h1,fun t ht hn=>?_⟩
   by_cases e:t=i
   ·rw[e];exact hp
   ·exact h2 t (by omega) hn
  ·refine .inr ⟨b,h1,by omega,h3,h4,fun t ht hb=>?_⟩
   by_cases e:t=i
   ·rw[e];exact hp
   ·exact h5 t (by omega) hb
 ·rw[if_pos rfl]
  exact .inr ⟨i,rfl,by omega,hi,hp,fun t h1 h2=>by omega⟩
set_option maxHeartbeats 4000000 in
theorem MN (T:List (List Bool)) (l:List Int) (f:Bool) (h:JX T (Cd l)) (hl16:l.length≤16):Pure Tryz.prog 106 [oj T,.l (iL l) f] (.l (iL (DB (Dn T) (Cd l).length (Cd l))) false):=by
 have hM:=Mx;have c1:=jA l f hl16;refine np nb ?_;have hs:=Sn
 conv=>whnf
 repeat'((first|apply st|(apply sq;intro K U)|(apply si;intro A B Y Z)|(apply Y;clear Z B Y A)|(apply U;clear U K)|refine Pure.use c1 ?_|fail)<;>conv=>whnf)
 clear c1
 refine EF (fun(x:List Int×Bool×V×List Int)=>x.1.length) (fun x=>[(1,.l (iL x.1) x.2.1),(5,x.2.2.1)]) (fun x=>[.own x.2.2.1 1 (iL x.2.2.2)])
  (fun x=>JX T x.1∧x.2.2.2.length+x.1.length≤16∧DB (Dn T) (Cd l).length (Cd l)=x.2.2.2++DB (Dn T) x.1.length x.1) (Cd l,false,.l [] true,[]) rfl ⟨h,by simpa using h.many,by simp⟩ (Ey hs 1) ?_
 clear hs;rintro⟨l',f',v,out⟩ σ ⟨ho,hlen,hm⟩ hs;dsimp only at ho hlen hm hs;dsimp only;have hll:out.length<Ad∧(out.length+1)*8≤140737488355328:=by omega
 by_cases hz:l'.length=0
 ·conv=>whnf
  repeat'((first|apply st|(apply sq;intro K U)|(apply si;intro A B Y Z)|(apply Y;clear Z B Y A)|(apply U;clear U K)|refine⟨rfl,?_⟩|(constructor<;>intro hc<;>(try rw[hc])<;>(replace hc:=bp hc)<;>(try simp(disch:=omega) only[BE,wrap64,AL]at hc)<;>try(exfalso;omega))|clear U K)<;>conv=>whnf)
  rw[hz]at hm;simp only[DB,Hj]at hm;rw[hm];exact BV (hs.NC 0 rfl)
 ·obtain⟨n,hn⟩: ∃n,l'.length=n+1:=⟨l'.length - 1,by omega⟩
  rw[hn,DB]at hm;have hm16:=ho.many
  conv=>whnf
  repeat'((first|apply st|(apply sq;intro K U)|(apply si;intro A B Y Z)|(apply Y;clear Z B Y A)|(apply U;clear U K)|refine⟨rfl,?_⟩|(constructor<;>intro hc<;>(try rw[hc])<;>(replace hc:=bp hc)<;>(try simp(disch:=omega) only[BE,wrap64,AL]at hc)<;>try(exfalso;omega))|fail)<;>conv=>whnf)
  refine EF (fun x:Int×Int=>(x.2+1).toNat) (fun x=>[(6,eI x.1),(7,eI x.2)]) (fun _=>[.own v 1 (iL out)]) (fun x=> -1≤x.2∧x.2<l'.length∧uv (fun i=>Jq (Dn T) l' i l'.length) l'.length x.2 x.1) (0,IntKind.i64.wrap ((iL l').length - 1)) rfl (by
   have e:((iL l').length:Int)=l'.length:=by simp
   have e2:IntKind.i64.wrap ((iL l').length - 1)=(l'.length:Int) - 1:=by rw[e,wrap64 (by omega) (by omega)]
   dsimp only;rw[e2]
   exact⟨by omega,by omega,.inl ⟨rfl,fun t h1 h2=>by omega⟩⟩) hs ?_
  clear hs;rintro⟨a,i⟩ σ ⟨hi1,hi2,hok⟩ hs;dsimp only at hi1 hi2 hok hs;dsimp only;by_cases hneg:i<0
  ·obtain rfl:i= -1:=by omega
   have hae:=fX hok;rw[show(List.range l'.length).find? (fun i=>Jq (Dn T) l' i l'.length)=Lj (Dn T) l' from rfl]at hae
   have hj:(Lj (Dn T) l').getD 0<l'.length:=by
    cases h:Lj (Dn T) l' with
    | none=>exact Nat.pos_of_ne_zero hz
    | some j=>simpa using List.mem_of_find?_eq_some h
   generalize (Lj (Dn T) l').getD 0=j at *;subst hae;have c2:=Of l' f' j hj ho.many;obtain⟨x,hx⟩: ∃x,l'[j]? =some x:=⟨_,Cu hj⟩
   have hel:=List.length_eraseIdx_of_lt hj;rw[CG hx]at hm
   conv=>whnf
   repeat'((first|apply st|(apply sq;intro K U)|(apply si;intro A B Y Z)|(apply Y;clear Z B Y A)|(apply U;clear U K)|refine⟨rfl,?_⟩|refine F6 ?_|refine aq fun v σ hs hsl=>?_|refine Pure.use c2 ?_|(constructor<;>intro hc<;>(try rw[hc])<;>(replace hc:=bp hc)<;>try(exfalso;omega))|clear U K)<;>conv=>whnf)
   refine⟨(l'.eraseIdx j,false,v,out++[x]),by dsimp only;omega,rfl,⟨ho.less j,by simp;omega,?_⟩,hs⟩;dsimp only;rw[hm,hel,show l'.length - 1=n by omega];simp
  ·have hpos:0≤i:=by omega
   obtain⟨x,hx⟩: ∃x,l'[i.toNat]? =some x:=⟨_,Cu (by omega)⟩
   have hxi:=ho.ins x (B2 hx)
   conv=>whnf
   repeat'((first|apply st|(apply sq;intro K U)|(apply si;intro A B Y Z)|(apply Y;clear Z B Y A)|(apply U;clear U K)|refine⟨rfl,?_⟩|(constructor<;>intro hc<;>(try rw[hc])<;>(replace hc:=bp hc)<;>try(exfalso;omega))|fail)<;>conv=>whnf)
   refine B4 l'.length (fun k (b:Bool)=>[(8,.b b),(9,eI (A6 k))]) (fun _ _=>[.own v 1 (iL out)]) (fun k b=>b=Jq (Dn T) l' i.toNat k) true rfl rfl hs ?_;clear hs;rintro k b σ hk hb hs;rcases BH l' hk with⟨y,hy,hklt⟩|hke
   ·have hyi:=ho.ins y (B2 hy)
    obtain⟨r,hr,hry⟩:=gL ho hyi hxi;have hsu:=YF (Dn T) l' i.toNat k;rw[CG hx,CG hy,←hb]at hsu;have hck:A6 k=k:=AL (by omega);have hrl:=ho.sq r (B2 hr);cases b
    ·conv=>whnf
     repeat'((first|apply st|(apply sq;intro K U)|(apply si;intro A B Y Z)|(apply Y;clear Z B Y A)|(apply U;clear U K)|apply dr|refine⟨rfl,?_⟩|(refine CS (fun hc=>?_)<;>(try rw[hc])<;>clear hc)|clear U K)<;>conv=>whnf)
     exact⟨hklt,false,rfl,(hsu.trans (by simp)).symm,hs⟩
    ·conv=>whnf
     repeat'((first|apply st|(apply sq;intro K U)|(apply si;intro A B Y Z)|(apply Y;clear Z B Y A)|(apply U;clear U K)|apply dr|refine⟨rfl,?_⟩|refine ix ?_|refine F6 ?_|(refine CS (fun hc=>?_)<;>(try rw[hc])<;>clear hc)|clear U K)<;>conv=>whnf)
     exact⟨hklt,!Dn T y x,rfl,(hsu.trans (by simp)).symm,hs⟩
   ·have hwi:IntKind.i64.wrap (i - 1)=i - 1:=wrap64 (by omega) (by omega)
    have hst:=cP (i:=i.toNat) (by rw[Int.toNat_of_nonneg hpos];exact hok) (by omega);rw[hke]at hb;rw[Int.toNat_of_nonneg hpos,←hb]at hst
    conv=>whnf
    repeat'((first|apply st|(apply sq;intro K U)|(apply si;intro A B Y Z)|(apply Y;clear Z B Y A)|(apply U;clear U K)|refine⟨rfl,?_⟩|(refine Dh (fun hc=>?_)<;>(try rw[hc])<;>clear hc)|(constructor<;>intro hc<;>(try rw[hc])<;>(replace hc:=bp hc))|clear U K)<;>conv=>whnf)
    ·rw[hc,if_pos rfl]at hst
     exact⟨(i,IntKind.i64.wrap (i - 1)),by dsimp only;omega,rfl,by dsimp only;rw[hwi];exact⟨by omega,by omega,hst⟩,hs⟩
    ·rw[hc,if_neg (by decide)]at hst
     exact⟨(a,IntKind.i64.wrap (i - 1)),by dsimp only;omega,rfl,by dsimp only;rw[hwi];exact⟨by omega,by omega,hst⟩,hs⟩
end Go.Gl
