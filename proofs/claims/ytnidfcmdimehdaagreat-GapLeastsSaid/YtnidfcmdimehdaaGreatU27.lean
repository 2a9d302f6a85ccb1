import Derived.Test.YtnidfcmdimehdaaGreatU14
import Derived.Test.YtnidfcmdimehdaaGreatU21
import Derived.Test.YtnidfcmdimehdaaGreatU22
import Derived.Test.YtnidfcmdimehdaaGreatU23
import Derived.Test.YtnidfcmdimehdaaGreatU25
import Derived.Test.YtnidfcmdimehdaaGreatU26
set_option linter.all false
set_option linter.defProp false
set_option maxHeartbeats 8000000
noncomputable section
namespace Go.Gl
open Go.Proofs
attribute [local irreducible] As Af AV AQ AI AU AP AR AJ AT AM AN Ag Ar Sat AS Ap AX W
def Om {α S:Type} (stp:α->S->Bool×S) (D:α->S->Prop):List α->S->Prop
 | [],_=>True
 | y::r,s=>D y s/\((stp y s).1=true->Om stp D r (stp y s).2)
section
variable {α β S:Type} {stp:α->S->Bool×S} {D:α->S->Prop}
def J7: ∀(A B:List α) (s:S),By stp (A++B) s=if(By stp A s).1 then By stp B (By stp A s).2 else(false,(By stp A s).2)
 | [],B,s=>by simp[By]
 | y::r,B,s=>by
   rw[List.cons_append,By,By];cases(stp y s).1
   .rfl
   .simpa using J7 r B (stp y s).2
def Mv (l:α) (s:S):By stp [l] s=stp l s:=by
 rw[By,By];rcases stp l s with⟨b,s'⟩;cases b<;>rfl
def MJ: ∀ {A B:List α} {s:S},Om stp D (A++B) s->Om stp D A s/\((By stp A s).1=true->Om stp D B (By stp A s).2)
 | [],B,s,h=>⟨trivial,fun _=>h⟩
 | y ::r,B,s,h=>by
   obtain⟨h1,h2⟩:=h;rw[Om,By];cases hy:(stp y s).1
   .exact⟨⟨h1,fun h=>(by cases h)⟩,fun h=>(by simp at h)⟩
   .obtain⟨h3,h4⟩:=MJ (h2 hy)
    exact⟨⟨h1,fun _=>h3⟩,by simpa using h4⟩
def PB {A:List α}: ∀ {B:List α} {s:S},(∀y∈B,y∈A)->Om stp D B s->Om stp (fun y s=>y∈A/\D y s) B s
 | [],_,_,_=>trivial
 | y::r,_,hm,h=>⟨⟨hm y (.head _),h.1⟩,fun hy=>PB (fun z hz=>hm z (.tail _ hz)) (h.2 hy)⟩
def Z4 {g:β->α}: ∀ {B:List β} {s:S},Om stp D (B.map g) s->Om (fun b s=>stp (g b) s) (fun b s=>D (g b) s) B s
 | [],_,_=>trivial
 | y::r,_,h=>⟨h.1,fun hy=>Z4 (h.2 hy)⟩
end
section
variable {S:Type} {stp:List Fact->S->Bool×S} {D:List Fact->S->Prop}
def TS (B:List (List Fact)): ∀(A:List (List Fact)) (s:S),By stp (DU A B) s=By (fun x s=>By (fun y s=>stp (CL x y) s) B s) A s
 | [],s=>rfl
 | x::r,s=>by
   have ih:=TS B r;rw[DU,List.flatMap_cons,J7,Mw,By];simp only[DU]at ih;rw[ih]
def WI (B:List (List Fact)): ∀ {A:List (List Fact)} {s:S},Om stp D (DU A B) s->Om (fun x s=>By (fun y s=>stp (CL x y) s) B s) (fun x s=>Om (fun y s=>stp (CL x y) s) (fun y s=>D (CL x y) s) B s) A s
 | [],_,_=>trivial
 | x::r,s,h=>by
   rw[DU,List.flatMap_cons]at h;obtain⟨h1,h2⟩:=MJ h;refine⟨Z4 h1,fun hy=>?_⟩;rw[Mw]at h2;exact WI B (h2 hy)
end
abbrev LN (l:List Fact) (b:Bool):V:= .l (Dx l) b
def SU {S:Type} (x:V) (H:S->List At) (stp:List Fact->S->Bool×S) (D:List Fact->S->Prop):Prop:= ∀b,Cq zP x (fun l=>LN l b) H stp D
abbrev VS (n:Nat):V:= .f (.func 121) [] [.p n 0]
def Sx {f:Fact} (hl:Bu f=true) (c:Bool):Ja (if c then Ca f else f)=xF f++[.b c]:=by
 have:=Fs hl;cases c with
 | true=>rfl
 | false=>
   have h5: ¬f.op=5:=by omega
   simp only[Ja,Jc,if_false,Ac,if_neg h5]
def WalkC (f:Fact):Prop:= ∀(c:Bool) (S:Type) (fn:Fn) (fi ca:List V) (H:S->List At) (stp:List Fact->S->Bool×S) (D:List Fact->S->Prop) (nW:Nat) (s:S),
 SU (.f fn fi ca) (fun s=> .box nW [VS nW]::H s) stp D->Om stp D (BC f c) s-> ∀Z,Sat Z (.box nW [VS nW]::H s)->
  Ag zP (VS nW) [.a (xF f),.b c,.f fn fi ca] Z fun r Z'=>r= .ret (.b (By stp (BC f c) s).1)/\Sat Z' (.box nW [VS nW]::H (By stp (BC f c) s).2)
def kK {w:AE} {S:Type} {fn:Fn} {fi ca:List V} {H:S->List At} {stp:List Fact->S->Bool×S} {D:List Fact->S->Prop} (hT:SU (.f fn fi ca) H stp D) {k0 k1:Fact} {c:Bool} (hn0:An w k0=true) (hn1:An w k1=true) (hv0:lv k0<=100) (hv1:lv k1<=100) {a:List Fact} (ha:a∈BC k0 c) (fa:Bool) :
    SU (.f (.func 124) [] [.rp [.f fn fi ca],.rp [LN a fa]]) H (fun y s=>stp (CL a y) s) (fun y s=>y∈BC k1 c/\D (CL a y) s):=by
 rintro b y s ⟨hy,hd⟩ Z hs;refine A6 ?_;show As zP 124 ([]++[LN y b]++[.rp [.f fn fi ca],.rp [LN a fa]]) Z _;have hla:=(D9 k0 (Am _ hn0) c).2 a ha;have hly:=(D9 k1 (Am _ hn1) c).2 y hy;have hM:=Mx;refine wN kZ ?_
 conv=>whnf
 repeat'((first|clear U K|apply st|(apply zk;intro K U)|refine rk ?_ ?_|exact fun s e=>by cases e;rfl|refine Pure.use (cr (w:=w) a y fa b (C0 k0 hn0 c a ha) (C0 k1 hn1 c y hy) (by omega)) ?_|fail)<;>conv=>whnf)
 refine(hT false).use hd hs ?_;clear hs;intro Z hs;refine zz ?_;(repeat clear U K);repeat intro K U
 exact AH ⟨rfl,hs⟩
def kL {w:AE} {S:Type} {fn:Fn} {fi ca:List V} {H:S->List At} {stp:List Fact->S->Bool×S} {D:List Fact->S->Prop} {nW:Nat} (hT:SU (.f fn fi ca) (fun s=> .box nW [VS nW]::H s) stp D) {f k0 k1:Fact} (hk:f.kids= [k0,k1]) {c:Bool} (hn0:An w k0=true) (hn1:An w k1=true) (hv0:lv k0<=100) (hv1:lv k1<=100) (hw1:WalkC k1) :
    SU (.f (.func 123) [] [.p nW 0,.rp (xF f),.rp [.b c],.rp [.f fn fi ca]]) (fun s=> .box nW [VS nW]::H s) (fun a s=>By (fun y s=>stp (CL a y) s) (BC k1 c) s) (fun a s=>a∈BC k0 c/\Om (fun y s=>stp (CL a y) s) (fun y s=>D (CL a y) s) (BC k1 c) s):=by
 rintro fa a s ⟨ha,hd⟩ Z hs;refine A6 ?_;show As zP 123 ([]++[LN a fa]++[.p nW 0,.rp (xF f),.rp [.b c],.rp [.f fn fi ca]]) Z _;have h1:f.kids[(1:Int).toNat]? =some k1:=by rw[hk];rfl
 refine wO kZ ?_;refine zz ?_;(repeat clear U K);repeat intro K U
 refine(hw1 c S _ _ _ H _ _ nW s (kK hT hn0 hn1 hv0 hv1 ha fa) (PB (fun y hy=>hy) hd) Z hs).mono ?_;clear hs;rintro r Z ⟨rfl,hs⟩;refine zz ?_;(repeat clear U K);repeat intro K U
 exact AH ⟨rfl,hs⟩
def mA {w : AE} (f:Fact):An w f=true->lv f<=100->WalkC f:=by
 induction f using Fact.ind with
 | h f ih=>
   intro hn hv c S fn fi ca H stp D nW s hT hd Z hs;have har:=Am _ hn
   have hnk: ∀k∈f.kids,An w k=true:=by
    rw[Be,A7,DT]at hn;exact hn.2
   have hop:f.op=1\/f.op=5\/Bu f=true\/f.op=6\/f.op=7:=by
    rw[Be,A7]at hn;have h1:=hn.1;simp only[Cf,SH,A7]at h1;rw[Mj];simp only[A7,CF];have h2:=h1.1;split at h2
    .omega
    .split at h2
     .omega
     .simp only[Ew,Cd]at h2
      omega
   refine A6 ?_;show As zP 121 ([]++[.a (xF f),.b c,.f fn fi ca]++[.p nW 0]) Z _;refine wQ kZ ?_;rw[E5,En]at hd;have hcs:=E5 f c;rw[En]at hcs;rcases hop with h1|h5|hl|h67
   .rw[if_pos h1]at hd hcs
    rw[hcs];cases c
    .rw[if_neg (by decide)]at hd ⊢
     rw[Mv]
     conv=>whnf
     repeat'((first|clear U K|apply st|(apply zk;intro K U)|refine zY ?_|(refine zb (fun hc=>?_) (fun hc=>?_)<;>try exact⟨⟩)|fail)<;>conv=>whnf)
     refine(hT true).use (y:=[]) hd.1 hs ?_;clear hs;intro Z hs;refine zz ?_;(repeat clear U K);repeat intro K U
     exact AH ⟨rfl,hs⟩
    .rw[if_pos rfl]at hd ⊢
     conv=>whnf
     repeat'((first|clear U K|apply st|(apply zk;intro K U)|refine zY ?_|(refine zb (fun hc=>?_) (fun hc=>?_)<;>try exact⟨⟩)|fail)<;>conv=>whnf)
     exact AH ⟨rfl,hs⟩
   .obtain⟨k,hk,-⟩:=Dt har h5
    have hkm:k∈f.kids:=by rw[hk];exact .head _
    have hvk:lv k<=100:=by
     rw[JH,Xj,if_pos h5,hk]at hv;exact hv
    rw[if_neg (by omega),if_pos h5,hk]at hd hcs;have hcs2:BC f c=BC k (!c):=hcs;have h0:f.kids[(0:Int).toNat]? =some k:=by rw[hk];rfl
    rw[hcs2]
    conv=>whnf
    repeat'((first|clear U K|apply st|(apply zk;intro K U)|refine zY ?_|(refine zb (fun hc=>?_) (fun hc=>?_)<;>try exact⟨⟩)|fail)<;>conv=>whnf)
    refine(ih k hkm (hnk k hkm) hvk (!c) S _ _ _ H stp D nW s hT hd Z hs).mono ?_;clear hs;rintro r Z ⟨rfl,hs⟩;refine zz ?_;(repeat clear U K);repeat intro K U
    exact AH ⟨rfl,hs⟩
   .have hlo:=Fs hl
    have hlB:=Uc f;rw[hl]at hlB;rw[if_neg (by omega),if_neg (by omega),if_neg (by omega)]at hd hcs;have hcs2:BC f c= [[if c then Ca f else f]]:=by rw[hcs];cases c<;>rfl
    rw[<-hcs,hcs2]at hd;rw[hcs2,Mv]
    have e:LN [if c then Ca f else f] true= .l [xF f++[.b c]] true:=by
     show V.l [Ja (if c then Ca f else f)] true=_;rw[Sx hl]
    have hst:=(hT true) [if c then Ca f else f] s hd.1;simp only[e]at hst
    conv=>whnf
    repeat'((first|clear U K|apply st|(apply zk;intro K U)|refine zY ?_|refine hlB.use ?_|(refine zb (fun hc=>?_) (fun hc=>?_)<;>try exact⟨⟩)|fail)<;>conv=>whnf)
    refine(hst Z hs).mono ?_;clear hs;rintro r Z ⟨rfl,hs⟩;refine zz ?_;(repeat clear U K);repeat intro K U
    exact AH ⟨rfl,hs⟩
   .obtain⟨k0,k1,hk,-,-⟩:=Ds har h67
    have hkm0:k0∈f.kids:=by rw[hk];exact .head _
    have hkm1:k1∈f.kids:=by rw[hk];exact .tail _ (.head _)
    have hlf:Bu f=false:=by rw[Mj,decide_eq_false (show¬f.op<=4 by omega),Bool.and_false]
    have hlB:=Uc f;rw[hlf]at hlB
    have hvk:lv k0+lv k1<=100:=by
     rw[JH,Xj,if_neg (by omega),if_pos h67,hk]at hv;exact hv
    rw[if_neg (by omega),if_neg (by omega),if_pos h67,hk]at hd hcs;have h0:f.kids[(0:Int).toNat]? =some k0:=by rw[hk];rfl
    have h1:f.kids[(1:Int).toNat]? =some k1:=by rw[hk];rfl
    have i0:=ih k0 hkm0 (hnk k0 hkm0) (by omega);have i1:=ih k1 hkm1 (hnk k1 hkm1) (by omega);by_cases hap:(c != (f.op==7))=true
    .rw [if_pos hap]at hd hcs
     have hcs2:BC f c=BC k0 c++BC k1 c:=hcs;have hd2:Om stp D (BC k0 c++BC k1 c) s:=hd;obtain⟨hd3,hd4⟩:=MJ hd2;rw[hcs2,J7];clear hcs hcs2 hd hd2;rcases h67 with h6|h7
     .have h6b:(f.op==6)=true:=by rw[h6];rfl
      have hct:c=true:=by rw[h6]at hap;cases c<;>simp_all
      subst hct
      conv=>whnf
      repeat'((first|clear U K|apply st|(apply zk;intro K U)|refine zY ?_|refine hlB.use ?_|(rw[h6b])|(refine zb (fun hc=>?_) (fun hc=>?_)<;>try exact⟨⟩)|fail)<;>conv=>whnf)
      refine(i0 true S _ _ _ H stp D nW s hT hd3 Z hs).mono ?_;clear hs;rintro r Z ⟨rfl,hs⟩;generalize By stp (BC k0 true) s=x at *;obtain⟨b1,s1⟩:=x;cases b1
      .refine zz ?_;(repeat clear U K);repeat intro K U
       exact AH ⟨rfl,hs⟩
      .refine zz ?_;(repeat clear U K);repeat intro K U
       refine(i1 true S _ _ _ H stp D nW s1 hT (hd4 rfl) Z hs).mono ?_;clear hs;rintro r Z ⟨rfl,hs⟩;refine zz ?_;(repeat clear U K);repeat intro K U
       exact AH ⟨rfl,hs⟩
     .have h6b:(f.op==6)=false:=by rw[h7];rfl
      have hct:c=false:=by rw[h7]at hap;cases c<;>simp_all
      subst hct
      conv=>whnf
      repeat'((first|clear U K|apply st|(apply zk;intro K U)|refine zY ?_|refine hlB.use ?_|(rw[h6b])|(refine zb (fun hc=>?_) (fun hc=>?_)<;>try exact⟨⟩)|fail)<;>conv=>whnf)
      refine(i0 false S _ _ _ H stp D nW s hT hd3 Z hs).mono ?_;clear hs;rintro r Z ⟨rfl,hs⟩;generalize By stp (BC k0 false) s=x at *;obtain⟨b1,s1⟩:=x;cases b1
      .refine zz ?_;(repeat clear U K);repeat intro K U
       exact AH ⟨rfl,hs⟩
      .refine zz ?_;(repeat clear U K);repeat intro K U
       refine(i1 false S _ _ _ H stp D nW s1 hT (hd4 rfl) Z hs).mono ?_;clear hs;rintro r Z ⟨rfl,hs⟩;refine zz ?_;(repeat clear U K);repeat intro K U
       exact AH ⟨rfl,hs⟩
    .rw[if_neg hap]at hd hcs
     have hcs2:BC f c=DU (BC k0 c) (BC k1 c):=hcs;have hd2:Om stp D (DU (BC k0 c) (BC k1 c)) s:=hd;have hd3:=WI _ hd2;have hT2:=kL hT hk (c:=c) (hnk k0 hkm0) (hnk k1 hkm1) (by omega) (by omega) i1;rw[hcs2,TS];clear hcs hcs2 hd hd2;rcases h67 with h6|h7
     .have h6b:(f.op==6)=true:=by rw[h6];rfl
      have hct:c=false:=by rw[h6]at hap;cases c<;>simp_all
      subst hct
      conv=>whnf
      repeat'((first|clear U K|apply st|(apply zk;intro K U)|refine zY ?_|refine hlB.use ?_|(rw[h6b])|(refine zb (fun hc=>?_) (fun hc=>?_)<;>try exact⟨⟩)|fail)<;>conv=>whnf)
      refine(i0 false S _ _ _ H _ _ nW s hT2 (PB (fun y hy=>hy) hd3) Z hs).mono ?_;clear hs;rintro r Z ⟨rfl,hs⟩;refine zz ?_;(repeat clear U K);repeat intro K U
      exact AH ⟨rfl,hs⟩
     .have h6b:(f.op==6)=false:=by rw[h7];rfl
      have hct:c=true:=by rw[h7]at hap;cases c<;>simp_all
      subst hct
      conv=>whnf
      repeat'((first|clear U K|apply st|(apply zk;intro K U)|refine zY ?_|refine hlB.use ?_|(rw[h6b])|(refine zb (fun hc=>?_) (fun hc=>?_)<;>try exact⟨⟩)|fail)<;>conv=>whnf)
      refine(i0 true S _ _ _ H _ _ nW s hT2 (PB (fun y hy=>hy) hd3) Z hs).mono ?_;clear hs;rintro r Z ⟨rfl,hs⟩;refine zz ?_;(repeat clear U K);repeat intro K U
      exact AH ⟨rfl,hs⟩
end Go.Gl
namespace Go.Gl
open Go.Proofs
def aW {Z Z2:AD} {v v':V} (h:Fa Z Z2 v v'): ∀fi ca:List V,Cm Z Z2 (fi++[v]++ca) (fi++[v']++ca)
 | [],ca=> .cons h (aX ca)
 | x::r,ca=> .cons (.refl _) (aW h r ca)
where aX: ∀ca:List V,Cm Z Z2 ca ca
 | []=> .nil
 | x::r=> .cons (.refl _) (aX r)
def zy {Z:AD} {sz:Nat} {es:List (List V)} {f:Bool} (he: ∀e∈es,e.length=sz) {K:V->AD->Prop} (hk:K (.l es true) Z):AP Z sz (.l es f) none (some (.i .i64 (es.length:Int))) (some (.i .i64 (es.length:Int))) K:=by
 refine⟨he,?_⟩;simp only[OD];refine⟨Int.le_refl _,Int.natCast_nonneg _,Int.le_refl _,trivial,?_⟩;simpa using hk
attribute [local irreducible] As Af AV AQ AI AU AP AR AJ AT AM AN Ag Ar Sat AS Ap AX W
def z6 (ls:List Fact) (b:Bool) (hl:ls.length<=1000000):Pure zP 203 [.l (Dx ls) b] (.l (Dx ls) true):=by
 have hM:=Mx;refine u5 kZ ?_;have hs:=Sn;refine zz ?_;(repeat clear U K);repeat intro K U
 refine zy (fun x hx=>by obtain⟨y,_,rfl⟩:=GL.1 hx;rfl) ?_;exact zW
def Zf (g:FuncId) (fi ca:List V) (H:List At) (kf:List Fact->Bool) (D:List Fact->Prop):Prop:= ∀l b,D l-> ∀Z,Sat Z H->As zP g (fi++[LN l b]++ca) Z fun r Z'=>r= .ret (.b (kf l))/\Sat Z' H
def iV (f:Fact):Prop:= ∀(c:Bool) (g:FuncId) (fi ca:List V) (H:List At) (kf:List Fact->Bool) (D:List Fact->Prop) (l:List Fact) (b:Bool),
 Zf g fi ca H kf D->(∀x∈CN f c,D (l++x))->l.length+lv f<=500000-> ∀Z,Sat Z H->As zP 147 [.a (xF f),.b c,LN l b,.f (.func g) fi ca] Z fun r Z'=>r= .ret (.b ((CN f c).any fun x=>kf (l++x)))/\Sat Z' H
def kY (A B:List (List Fact)) (kf:List Fact->Bool) (l:List Fact):((Va A B).any fun x=>kf (l++x))=A.any fun x=>B.any fun y=>kf (l++x++y):=by
 rw[KF,G1,G1];constructor
 .rintro⟨z,hz,h⟩
  obtain⟨x,hx,y,hy,rfl⟩:=Fk.1 hz;exact⟨x,hx,G1.2 ⟨y,hy,by rw[NJ];exact h⟩⟩
 .rintro⟨x,hx,h⟩
  obtain⟨y,hy,h⟩:=G1.1 h;exact⟨x++y,Fk.2 ⟨x,hx,y,hy,rfl⟩,by rw[<-NJ];exact h⟩
def mh {f k0 k1:Fact} (hk:f.kids= [k0,k1]) (hc1:iV k1) {c:Bool} {g:FuncId} {fi ca:List V} {H:List At} {kf:List Fact->Bool} {D:List Fact->Prop} (hT:Zf g fi ca H kf D) :
    Zf 202 [] [.rp (xF f),.rp [.b c],.rp [.f (.func g) fi ca]] H (fun m=>(CN k1 c).any fun y=>kf (m++y)) (fun m=>(∀y∈CN k1 c,D (m++y))/\m.length+lv k1<=500000):=by
 rintro m b ⟨hd,hml⟩ Z hs;have h1:f.kids[(1:Int).toNat]? =some k1:=by rw[hk];rfl
 show As zP 202 [LN m b,.rp (xF f),.rp [.b c],.rp [.f (.func g) fi ca]] Z _;refine u9 kZ ?_;refine zz ?_;(repeat clear U K);repeat intro K U
 refine As.mono (hc1 c g fi ca H kf D m b hT hd hml Z hs) ?_;clear hs;rintro r Z ⟨rfl,hs⟩;refine zz ?_;(repeat clear U K);repeat intro K U
 exact AH ⟨rfl,hs⟩
def kN {w : AE} (f:Fact):An w f=true->lv f<=100->iV f:=by
 have hM:=Mx
 induction f using Fact.ind with
 | h f ih=>
   intro hn hv c g fi ca H kf D l b hT hd hll Z hs;have har:=Am _ hn
   have hnk: ∀k∈f.kids,An w k=true:=by
    rw[Be,A7,DT]at hn;exact hn.2
   have hop:f.op=1\/f.op=5\/Bu f=true\/f.op=6\/f.op=7:=by
    rw[Be,A7]at hn;have h1:=hn.1;simp only[Cf,SH,A7]at h1;rw[Mj];simp only[A7,CF];have h2:=h1.1;split at h2
    .omega
    .split at h2
     .omega
     .simp only[Ew,Cd]at h2
      omega
   refine wA kZ ?_;have hcs:=Kp f c;rw[Pu]at hcs;rcases hop with h1|h5|hl|h67
   .rw[if_pos h1]at hcs
    rw[hcs]at hd ⊢;cases c
    .rw[if_neg (by decide)]at hd ⊢
     have h0:=hT l b (by simpa using hd [] (.head _)) Z hs
     conv=>whnf
     repeat'((first|clear U K|apply st|(apply zk;intro K U)|refine zY ?_|(refine zb (fun hc=>?_) (fun hc=>?_)<;>try exact⟨⟩)|fail)<;>conv=>whnf)
     all_goals try(exfalso;omega)
     refine A6 (As.mono h0 ?_);clear hs h0;rintro r Z ⟨rfl,hs⟩;refine zz ?_;(repeat clear U K);repeat intro K U
     exact AH ⟨by simp,hs⟩
    .rw[if_pos rfl]at hd ⊢
     conv=>whnf
     repeat'((first|clear U K|apply st|(apply zk;intro K U)|refine zY ?_|(refine zb (fun hc=>?_) (fun hc=>?_)<;>try exact⟨⟩)|fail)<;>conv=>whnf)
     all_goals try(exfalso;omega)
     exact AH ⟨rfl,hs⟩
   .obtain⟨k,hk,-⟩:=Dt har h5
    have hkm:k∈f.kids:=by rw[hk];exact .head _
    have hve:lv f=lv k:=by
     rw[JH f,Xj,if_pos h5,hk];rfl
    have hvk:lv k<=100:=by omega
    rw[if_neg (by omega),if_pos h5,hk]at hcs;have hcs2:CN f c=CN k (!c):=hcs;have h0:f.kids[(0:Int).toNat]? =some k:=by rw[hk];rfl
    rw[hcs2]at hd ⊢
    conv=>whnf
    repeat'((first|clear U K|apply st|(apply zk;intro K U)|refine zY ?_|(refine zb (fun hc=>?_) (fun hc=>?_)<;>try exact⟨⟩)|fail)<;>conv=>whnf)
    all_goals try(exfalso;omega)
    refine As.mono (ih k hkm (hnk k hkm) hvk (!c) g fi ca H kf D l b hT hd (by omega) Z hs) ?_;clear hs;rintro r Z ⟨rfl,hs⟩;refine zz ?_;(repeat clear U K);repeat intro K U
    exact AH ⟨rfl,hs⟩
   .have hlo:=Fs hl
    rw[if_neg (by omega),if_neg (by omega),if_neg (by omega)]at hcs;have hcs2:CN f c= [[if c then Ca f else f]]:=by rw[hcs];cases c<;>rfl
    rw[hcs2]at hd ⊢;have c1:=z6 l b (by omega);have hd2:=hd _ (.head _);have e:Ja (if c then Ca f else f)=xF f++[.b c]:=Sx hl c
    conv=>whnf
    repeat'((first|clear U K|apply st|(apply zk;intro K U)|refine zY ?_|refine rk ?_ ?_|exact fun s e=>by cases e;rfl|refine zC ?_|(refine zb (fun hc=>?_) (fun hc=>?_)<;>try exact⟨⟩)|fail)<;>conv=>whnf)
    all_goals try(exfalso;omega)
    have hrow:([xF f++[.b c]]:List (List V))= [if c then Ca f else f].map Ja:=by rw[Cn,List.map_nil,e]
    refine(?_:AI 88 Z 7 (.l (Dx l) true) (.l [xF f++[.b c]] true) _);rw[hrow];refine EH (enc:=Ja) (fH hs (es:=Dx l) (sz:=7) (fun x hx=>by obtain⟨y,_,rfl⟩:=GL.1 hx;rfl)) 0 (xs:=l) (ys:=[if c then Ca f else f]) rfl (b:=88) (by simp;omega) T8 (fun v Z hs=>?_)
    conv=>whnf
    repeat'((first|apply st|refine rk ?_ ?_|exact fun s e=>by cases e;rfl|fail)<;>conv=>whnf)
    obtain⟨Z2,q1,q2,q3⟩:=Gb hs 0 rfl;refine A6 (As.OH (As.mono (hT (l++[if c then Ca f else f]) false hd2 Z2 q3) ?_) q1 (aW q2 fi ca));clear hs q1 q2 q3;rintro r Z ⟨rfl,hs⟩;refine zz ?_;(repeat clear U K);repeat intro K U
    exact AH ⟨by simp,hs⟩
   .obtain⟨k0,k1,hk,-,-⟩:=Ds har h67
    have hkm0:k0∈f.kids:=by rw[hk];exact .head _
    have hkm1:k1∈f.kids:=by rw[hk];exact .tail _ (.head _)
    have hve:lv f=lv k0+lv k1:=by
     rw[JH f,Xj,if_neg (by omega),if_pos h67,hk];rfl
    have hvk:lv k0+lv k1<=100:=by omega
    rw[if_neg (by omega),if_neg (by omega),if_pos h67,hk]at hcs;have h0:f.kids[(0:Int).toNat]? =some k0:=by rw[hk];rfl
    have h1:f.kids[(1:Int).toNat]? =some k1:=by rw[hk];rfl
    have i0:=ih k0 hkm0 (hnk k0 hkm0) (by omega);have i1:=ih k1 hkm1 (hnk k1 hkm1) (by omega);by_cases hap:(c != (f.op==7))=true
    .rw [if_pos hap]at hcs
     have hcs2:CN f c=CN k0 c++CN k1 c:=hcs;rw[hcs2]at hd ⊢;rw[List.any_append];have hd3:=fun x hx=>hd x (NK _ hx)
     have hd4:=fun x hx=>hd x (Lu _ hx)
     clear hcs hcs2 hd
     have h6b:(f.op==6)=c:=by
      rcases h67 with h6|h7
      .rw[h6]at hap ⊢;cases c<;>simp_all
      .rw[h7]at hap ⊢;cases c<;>simp_all
     rcases h67 with h6|h7
     all_goals
      cases c
      all_goals
       conv=>whnf
       repeat'((first|clear U K|apply st|(apply zk;intro K U)|refine zY ?_|(rw[h6b])|(refine zb (fun hc=>?_) (fun hc=>?_)<;>try exact⟨⟩)|fail)<;>conv=>whnf)
       all_goals try(exfalso;simp_all;done)
       all_goals try(exfalso;omega)
     .refine As.mono (i0 true g fi ca H kf D l b hT hd3 (by omega) Z hs) ?_
      clear hs;rintro r Z ⟨rfl,hs⟩;generalize hB0:((CN k0 true).any fun x=>kf (l++x))=B0;cases B0
      .refine zz ?_;(repeat clear U K);repeat intro K U
       refine As.mono (i1 true g fi ca H kf D l b hT hd4 (by omega) Z hs) ?_;clear hs;rintro r Z ⟨rfl,hs⟩;refine zz ?_;(repeat clear U K);repeat intro K U
       exact AH ⟨by rw[hB0];rfl,hs⟩
      .refine zz ?_;(repeat clear U K);repeat intro K U
       exact AH ⟨by rw[hB0];rfl,hs⟩
     .refine As.mono (i0 false g fi ca H kf D l b hT hd3 (by omega) Z hs) ?_
      clear hs;rintro r Z ⟨rfl,hs⟩;generalize hB0:((CN k0 false).any fun x=>kf (l++x))=B0;cases B0
      .refine zz ?_;(repeat clear U K);repeat intro K U
       refine As.mono (i1 false g fi ca H kf D l b hT hd4 (by omega) Z hs) ?_;clear hs;rintro r Z ⟨rfl,hs⟩;refine zz ?_;(repeat clear U K);repeat intro K U
       exact AH ⟨by rw[hB0];rfl,hs⟩
      .refine zz ?_;(repeat clear U K);repeat intro K U
       exact AH ⟨by rw[hB0];rfl,hs⟩
    .rw [if_neg hap]at hcs
     have hcs2:CN f c=Va (CN k0 c) (CN k1 c):=hcs;rw[hcs2]at hd ⊢;rw[kY];have hlx:=RX k0 (Am _ (hnk k0 hkm0)) c;have hT2:=mh hk i1 (c:=c) hT;have hd5: ∀x∈CN k0 c,(∀y∈CN k1 c,D (l++x++y))/\(l++x).length+lv k1<=500000:=fun x hx=>⟨fun y hy=>by rw[NJ];exact hd _ (Fk.2 ⟨x,hx,y,hy,rfl⟩),by have:=hlx x hx;rw[Kt];omega⟩
     have h6b:(f.op==6)= !c:=by
      rcases h67 with h6|h7
      .rw[h6]at hap ⊢;cases c<;>simp_all
      .rw[h7]at hap ⊢;cases c<;>simp_all
     have hrun:=fun Z hs=>i0 c 202 [] [.rp (xF f),.rp [.b c],.rp [.f (.func g) fi ca]] H _ _ l b hT2 hd5 (by omega) Z hs
     clear hcs hcs2 hd hd5 hT2;generalize ((CN k0 c).any fun x=>(CN k1 c).any fun y=>kf (l++x++y))=B0 at *;rcases h67 with h6|h7
     all_goals
      cases c
      all_goals
       conv=>whnf
       repeat'((first|clear U K|apply st|(apply zk;intro K U)|refine zY ?_|(rw[h6b])|(refine zb (fun hc=>?_) (fun hc=>?_)<;>try exact⟨⟩)|fail)<;>conv=>whnf)
       all_goals try(exfalso;simp_all;done)
       all_goals try(exfalso;omega)
     all_goals
      refine As.mono (hrun Z hs) ?_;clear hs;rintro r Z ⟨rfl,hs⟩;refine zz ?_;(repeat clear U K);repeat intro K U
      exact AH ⟨rfl,hs⟩
end Go.Gl
namespace Go.Gl
open Go.Proofs
abbrev Rr (p:Prog) (gen:Int) (ms:List Int):List V:=A3 p++[eI gen,.l (iL ms) false]
structure Ot (p:Prog) (ms:List Int):Prop where
 ok:EN p
 FH: ∀m∈ms,BG p m=true
 ox:ms.length<=8
def Bq (s n:Nat):List Bool:=(List.range n).map s.testBit
def TN (s n:Nat):(Bq s n).length=n:=by simp[Bq]
def Wq {s n i:Nat} (h:i<n):(Bq s n)[i]? =some (s.testBit i):=by
 rw[Bq,JV,List.getElem?_range h];rfl
abbrev FD (p:Prog) (ms:List Int):List Fact:=ms.map fun m=>(BK p m).fact
def Pj (g:FuncId) (fi ca:List V) (w:AE) (tog:List Fact->Bool):Prop:= ∀l b,(∀x∈l,C1 w x)->l.length<900->Pure zP g (fi++[LN l b]++ca) (.b (tog l))
abbrev fE (g:FuncId) (fi ca:List V) (p:Prog) (gen:Int) (ms:List Int) (s many nN:Nat):V:= .f (.func 146) [] [.rp [.f (.func g) fi ca],.rp [eI many],.rp (Rr p gen ms),.rp [eU s],.p nN 0]
section
variable {g:FuncId} {fi ca:List V} {p:Prog} {gen:Int} {ms:List Int} {tog:List Fact->Bool}
def VY (p:Prog) (ms:List Int) (s many i:Nat):List (List (List Fact)):=(bg ((FD p ms).zip (Bq s many))).drop i
def cD {s many i:Nat} (h:many<=i):VY p ms s many i= []:=List.drop_of_length_le (by simp[bg,TN];omega)
def jK {s many i:Nat} {m:Int} (h:i<many) (hm:ms[i]? =some m):VY p ms s many i=CN (BK p m).fact (!s.testBit i)::VY p ms s many (i+1):=by
 refine drop_cons ?_;have hz:((FD p ms).zip (Bq s many))[i]? =some ((BK p m).fact,s.testBit i):=List.getElem?_zip_eq_some.2 ⟨by rw[JV,hm];rfl,Wq h⟩;rw[bg,JV,hz];rfl
attribute [local irreducible] As Af AV AQ AI AU AP AR AJ AT AM AN Ag Ar Sat AS Ap AX W
def m5 (h:Ot p ms) (hcan:Pj g fi ca (AG p) tog) {s many nN:Nat} (hs64:s<18446744073709551616) (hmn:many<=ms.length): ∀(d i:Nat) (l:List Fact) (b:Bool),i+d=many->(∀x∈l,C1 (AG p) x)->l.length<=12*i-> ∀Z,Sat Z [.box nN [fE g fi ca p gen ms s many nN]]->
    As zP 146 [eI i,LN l b,.rp [.f (.func g) fi ca],.rp [eI many],.rp (Rr p gen ms),.rp [eU s],.p nN 0] Z fun r Z'=>r= .ret (.b (JY tog (VY p ms s many i) l))/\Sat Z' [.box nN [fE g fi ca p gen ms s many nN]]:=by
 have hM:=Mx;have hfew:=h.ox;intro d
 induction d with
 | zero=>
   intro i l b hid hl hln Z hs;have c1:=hcan l b hl (by omega);rw[cD (by omega),JY];cases ht:tog l<;>rw[ht]at c1
   all_goals
    refine YL kZ ?_
    conv=>whnf
    repeat'((first|clear U K|apply st|(apply zk;intro K U)|refine zY ?_|refine rk ?_ ?_|exact fun s e=>by cases e;rfl|refine A6 (c1.use ?_)|(refine zb (fun hc=>?_) (fun hc=>?_)<;>try exact⟨⟩)|fail)<;>conv=>whnf)
    all_goals try(exfalso;simp at hc;omega)
    all_goals exact AH ⟨rfl,hs⟩
 | succ d ih=>
   intro i l b hid hl hln Z hs;have c1:=hcan l b hl (by omega);obtain⟨m,hm⟩: ∃m,ms[i]? =some m:=⟨_,CQ (by omega)⟩
   have hmm:=h.FH m (BY hm);have hmP:=Br hmm;have hfa:=h.ok.facts _ (BY hmP);rw[jK (by omega) hm,JY];cases ht:tog l<;>rw[ht]at c1
   .refine YL kZ ?_
    conv=>whnf
    repeat'((first|clear U K|apply st|(apply zk;intro K U)|refine zY ?_|refine A6 (c1.use ?_)|fail)<;>conv=>whnf)
    all_goals exact AH ⟨rfl,hs⟩
   rw[Db];have c2:=ZV s (i:Int) hs64 (by omega) (by omega);have hlits:=Oh _ hfa.1;have hcl:=RX _ (Am _ hfa.1);have hcas:=kN (BK p m).fact hfa.1 (by have:=hfa.2;omega);have hlv:=hfa.2;simp only[BG,A7,CF]at hmm;have hm2:ms[((i:Nat):Int).toNat]? =some m:=by rw[FZ];exact hm
   rw[FZ]at c2;clear hfa;generalize BK p m=x at *
   have hT:Zf 148 [] [.p nN 0,.rp [eI i]] [.box nN [fE g fi ca p gen ms s many nN]] (JY tog (VY p ms s many (i+1))) (fun y=>(∀z∈y,C1 (AG p) z)/\y.length<=12*(i+1)):=by
    rintro y b' ⟨hy1,hy2⟩ Z hs;have hi:=ih (i+1) y b' (by omega) hy1 hy2;have hwi:IntKind.i64.wrap ((i:Int)+1)=((i+1:Nat):Int):=by rw[wrap64 (by omega) (by omega)];omega
    show As zP 148 [LN y b',.p nN 0,.rp [eI i]] Z _;refine vz kZ ?_;refine zz ?_;(repeat clear U K);repeat intro K U
    rw[hwi];refine A6 (As.mono (hi Z hs) ?_);clear hs;rintro r Z ⟨rfl,hs⟩;refine zz ?_;(repeat clear U K);repeat intro K U
    exact AH ⟨rfl,hs⟩
   refine YL kZ ?_
   conv=>whnf
   repeat'((first|clear U K|apply st|(apply zk;intro K U)|refine zY ?_|refine rk ?_ ?_|exact fun s e=>by cases e;rfl|refine A6 (c1.use ?_)|refine c2.use ?_|(refine zb (fun hc=>?_) (fun hc=>?_)<;>try exact⟨⟩)|fail)<;>conv=>whnf)
   all_goals try(exfalso;simp at hc;omega)
   refine As.mono (hcas (!s.testBit i) 148 [] [.p nN 0,.rp [eI i]] _ _ _ l b hT (fun c hc=>⟨fun z hz=>(Du.1 hz).elim (hl z) (hlits _ c hc z),?_⟩) (by omega) Z hs) ?_
   .have:=hcl _ c hc
    rw[Kt];omega
   clear hs;rintro r Z ⟨rfl,hs⟩;refine zz ?_;(repeat clear U K);repeat intro K U
   all_goals exact AH ⟨rfl,hs⟩
def eo (h:Ot p ms) (hcan:Pj g fi ca (AG p) tog) {s many:Nat} (hs64:s<18446744073709551616) (hmn:many<=ms.length):Pure zP 145 [eU s,eI many,.rp [.f (.func g) fi ca],.rp (Rr p gen ms)] (.b (C9 tog (FD p ms) (Bq s many))):=by
 refine Pure.of ?_;refine wB kZ ?_;have hs:=Sn
 conv=>whnf
 repeat'((first|clear U K|apply st|(apply zk;intro K U)|refine zY ?_|refine zs fun Z hs=>?_|refine zo fun nn hnn Z hs=>?_|fail)<;>conv=>whnf)
 refine A6 (As.mono (m5 h hcan hs64 hmn many 0 [] true (by omega) (fun x hx=>by cases hx) (by simp) _ hs) ?_);clear hs;rintro r Z ⟨rfl,hs⟩;refine zz ?_;(repeat clear U K);repeat intro K U
 exact AH rfl
end
end Go.Gl
namespace Go.Gl
open Go.Proofs
def GB (so:Nat->Nat->Bool):Nat->Nat->Nat->List Nat
 | 0,many,s=>if so s many then [s]else []
 | d+1,many,s=>if so s many then GB so d (many+1) s++GB so d (many+1) (s|||2 ^ many)else []
def RZ (s n:Nat):Bq s (n+1)=Bq s n++[s.testBit n]:=by simp[Bq,List.range_succ]
def Ln {s n:Nat} (h:s<2 ^ n):Bq (s|||2 ^ n) (n+1)=Bq s n++[true]/\Bq s (n+1)=Bq s n++[false]/\s|||2 ^ n<2 ^ (n+1)/\s<2 ^ (n+1):=by
 have hp:2 ^ n<2 ^ (n+1):=Nat.pow_lt_pow_right (by omega) (by omega);have hn:s.testBit n=false:=Nat.testBit_lt_two_pow h;refine⟨?_,by rw[RZ,hn],Nat.or_lt_two_pow (by omega) hp,by omega⟩;rw[RZ,D7,hn];simp only[beq_self_eq_true,Bool.or_true];congr 1;refine List.map_congr_left fun i hi=>?_
 rw[D7,beq_eq_false_iff_ne.2 (by have:=List.mem_range.1 hi;omega),Bool.or_false]
def P1 {so:Nat->Nat->Bool} {E:List Bool->Bool}: ∀(d many s:Nat),s<2 ^ many->(∀s n,n<=many+d->so s n=E (Bq s n))->(GB so d many s).map (fun x=>Bq x (many+d))=E9 E d (Bq s many)/\ ∀x∈GB so d many s,x<2 ^ (many+d)
 | 0,many,s,hs,hE=>by
   rw[GB,E9,hE s many (by omega)];split
   .exact⟨rfl,fun x hx=>by rw[JT.1 hx];exact hs⟩
   .exact⟨rfl,fun x hx=>by cases hx⟩
 | d + 1,many,s,hs,hE=>by
   obtain⟨b1,b2,b3,b4⟩:=Ln hs;obtain⟨i1,i2⟩:=P1 (so:=so) (E:=E) d (many+1) s b4 (fun s n hn=>hE s n (by omega));obtain⟨j1,j2⟩:=P1 (so:=so) (E:=E) d (many+1) (s|||2 ^ many) b3 (fun s n hn=>hE s n (by omega));rw[b2]at i1;rw[b1]at j1;rw[show many+1+d=many+(d+1) by omega]at i1 i2 j1 j2;rw[GB,E9,hE s many (by omega)];split
   .refine⟨by rw[ND,i1,j1],fun x hx=>?_⟩
    rcases Du.1 hx with hx|hx
    .exact i2 x hx
    .exact j2 x hx
   .exact⟨rfl,fun x hx=>by cases hx⟩
abbrev soV (g:FuncId) (fi ca:List V) (p:Prog) (gen:Int) (ms:List Int):V:= .f (.func 145) [] [.rp [.f (.func g) fi ca],.rp (Rr p gen ms)]
abbrev x9 (p:Prog) (gen:Int) (ms:List Int) (yv:V) (nS nW:Nat):V:= .f (.func 149) [] [.p nS 0,.rp (Rr p gen ms),.rp [yv],.p nW 0]
section
variable {g:FuncId} {fi ca:List V} {p:Prog} {gen:Int} {ms:List Int} {tog:List Fact->Bool}
attribute [local irreducible] As Af AV AQ AI AU AP AR AJ AT AM AN Ag Ar Sat AS Ap AX W
def Pw {α S:Type} (P:Program) (x:V) (ea:α->V) (HL:S->List At->Prop) (stp:α->S->Bool×S) (D:α->S->Prop) (pre:List At):Prop:=
 ∀y s,D y s-> ∀l Z,HL s l->Sat Z (pre++l)->Ag P x [ea y] Z fun r Z'=>r= .ret (.b (stp y s).1)/\ ∃l',HL (stp y s).2 l'/\Sat Z' (pre++l')
def Pw.use {α S:Type} {P:Program} {x:V} {ea:α->V} {HL:S->List At->Prop} {stp:α->S->Bool×S} {D:α->S->Prop} {pre:List At} (h:Pw P x ea HL stp D pre) {y:α} {s:S} (hd:D y s) {l:List At} {Z:AD} (hl:HL s l) (hs:Sat Z (pre++l)) {k kp:V->AD->Prop} (hk: ∀l' Z',HL (stp y s).2 l'->Sat Z' (pre++l')->k (.b (stp y s).1) Z'):Ag P x [ea y] Z (qk k kp):=
 (h y s hd l Z hl hs).mono fun r Z' ⟨e,l',h1,h2⟩=>by rw[e];exact hk l' Z' h1 h2
abbrev Rx (g:FuncId) (fi ca:List V) (p:Prog) (gen:Int) (ms:List Int) (yv:V) (nS nW:Nat):List At:=[.box nW [x9 p gen ms yv nS nW],.box nS [soV g fi ca p gen ms]]
def mC {S:Type} (h:Ot p ms) (hcan:Pj g fi ca (AG p) tog) {fn:Fn} {fiy cay:List V} {HL:S->List At->Prop} {stp:Nat->S->Bool×S} {D:Nat->S->Prop} {nS nW:Nat}
    (hy:Pw zP (.f fn fiy cay) eU HL stp D (Rx g fi ca p gen ms (.f fn fiy cay) nS nW)) :
    ∀(d many s:Nat) (z0:S),many+d=ms.length->s<2 ^ many->Om stp D (GB (fun s n=>C9 tog (FD p ms) (Bq s n)) d many s) z0-> ∀l Z,HL z0 l->Sat Z (Rx g fi ca p gen ms (.f fn fiy cay) nS nW++l)->
    As zP 149 [eU s,eI many,.p nS 0,.rp (Rr p gen ms),.rp [.f fn fiy cay],.p nW 0] Z fun r Z'=>r= .ret (.b (By stp (GB (fun s n=>C9 tog (FD p ms) (Bq s n)) d many s) z0).1)/\
     ∃l',HL (By stp (GB (fun s n=>C9 tog (FD p ms) (Bq s n)) d many s) z0).2 l'/\Sat Z' (Rx g fi ca p gen ms (.f fn fiy cay) nS nW++l'):=by
 have hM:=Mx;have hfew:=h.ox;intro d
 induction d with
 | zero=>
   intro many s z0 hmd hs2 hok l Z hl hs;have hs64:s<18446744073709551616:=Nat.lt_of_lt_of_le hs2 (Nat.le_trans (Nat.pow_le_pow_right (by omega) (show many<=8 by omega)) (by decide));have c1:=eo (gen:=gen) h hcan (s:=s) (many:=many) hs64 (by omega);rw[GB]at hok ⊢;cases hB:C9 tog (FD p ms) (Bq s many)<;>rw[hB]at c1
   .simp only[hB,Jc,if_false]at hok ⊢
    refine Jw kZ ?_
    conv=>whnf
    repeat'((first|clear U K|apply st|(apply zk;intro K U)|refine zY ?_|refine A6 (c1.use ?_)|fail)<;>conv=>whnf)
    all_goals exact AH ⟨rfl,l,hl,hs⟩
   .simp only[hB,if_true]at hok ⊢
    rw[Mv];refine Jw kZ ?_
    conv=>whnf
    repeat'((first|clear U K|apply st|(apply zk;intro K U)|refine zY ?_|refine A6 (c1.use ?_)|(refine zb (fun hc=>?_) (fun hc=>?_)<;>try exact⟨⟩)|fail)<;>conv=>whnf)
    all_goals try(exfalso;simp at hc;omega)
    refine hy.use hok.1 hl hs ?_;clear hs;intro l' Z hl' hs;refine zz ?_;(repeat clear U K);repeat intro K U
    exact AH ⟨rfl,l',hl',hs⟩
 | succ d ih=>
   intro many s z0 hmd hs2 hok l Z hl hs;have hs64:s<18446744073709551616:=Nat.lt_of_lt_of_le hs2 (Nat.le_trans (Nat.pow_le_pow_right (by omega) (show many<=8 by omega)) (by decide));have c1:=eo (gen:=gen) h hcan (s:=s) (many:=many) hs64 (by omega);obtain⟨-,-,b3,b4⟩:=Ln hs2;rw[GB]at hok ⊢;cases hB:C9 tog (FD p ms) (Bq s many)<;>rw[hB]at c1
   .simp only[hB,Jc,if_false]at hok ⊢
    refine Jw kZ ?_
    conv=>whnf
    repeat'((first|clear U K|apply st|(apply zk;intro K U)|refine zY ?_|refine A6 (c1.use ?_)|fail)<;>conv=>whnf)
    all_goals exact AH ⟨rfl,l,hl,hs⟩
   .simp only[hB,if_true]at hok ⊢
    obtain⟨ok1,ok2⟩:=MJ hok;have i1:=ih (many+1) s z0 (by omega) b4 ok1;have i2:=fun z0 h=>ih (many+1) (s|||2 ^ many) z0 (by omega) b3 h
    have c2:=LQ s (many:Int) hs64 (by omega) (by omega);rw[FZ]at c2;have hwi:IntKind.i64.wrap ((many:Int)+1)=((many+1:Nat):Int):=by rw[wrap64 (by omega) (by omega)];omega
    rw[<-hwi]at i1 i2;rw[J7];generalize GB (fun s n=>C9 tog (FD p ms) (Bq s n)) d (many+1) s=A1 at *;generalize GB (fun s n=>C9 tog (FD p ms) (Bq s n)) d (many+1) (s|||2 ^ many)=A2 at *;generalize hx1:By stp A1 z0=x1 at *;obtain⟨q1,z1⟩:=x1;dsimp only at i1 ok2 ⊢;refine Jw kZ ?_
    conv=>whnf
    repeat'((first|clear U K|apply st|(apply zk;intro K U)|refine zY ?_|refine A6 (c1.use ?_)|(refine zb (fun hc=>?_) (fun hc=>?_)<;>try exact⟨⟩)|fail)<;>conv=>whnf)
    all_goals try(exfalso;simp at hc;omega)
    refine A6 (As.mono (i1 l Z hl hs) ?_);clear hs;rintro r Z ⟨rfl,l1,hl1,hs⟩;cases q1
    .conv=>whnf
     repeat'((first|clear U K|apply st|refine rk ?_ ?_|exact fun s e=>by cases e;rfl|fail)<;>conv=>whnf)
     exact AH ⟨rfl,l1,hl1,hs⟩
    .have i3:=i2 z1 (ok2 rfl)
     conv=>whnf
     repeat'((first|apply st|refine zY ?_|refine rk ?_ ?_|exact fun s e=>by cases e;rfl|refine zC ?_|fail)<;>conv=>whnf)
     refine A6 (As.mono (i3 l1 Z hl1 hs) ?_);clear hs;rintro r Z ⟨rfl,l2,hl2,hs⟩;refine zz ?_;(repeat clear U K);repeat intro K U
     exact AH ⟨rfl,l2,hl2,hs⟩
end
end Go.Gl
namespace Go.Gl
open Go.Proofs
structure Wid (w w':AE) (ps:List Int):Prop where
 par:w'.parents=w.parents++[ps]
 own:w'.owner=w.owner++[3+(w.parents.length:Int)]
variable {w w':AE} {ps:List Int}
def Wid.ol (h:Wid w w' ps):w'.owner.length=w.owner.length+1:=by rw[h.own];simp
end Go.Gl
