import Derived.Test.YtnidfcmdimehdaaGreatV14
import Derived.Test.YtnidfcmdimehdaaGreatV21
import Derived.Test.YtnidfcmdimehdaaGreatV22
import Derived.Test.YtnidfcmdimehdaaGreatV23
import Derived.Test.YtnidfcmdimehdaaGreatV24
import Derived.Test.YtnidfcmdimehdaaGreatV26
set_option linter.all false
set_option linter.defProp false
set_option maxHeartbeats 8000000
noncomputable section
namespace Go.Gl
open Go.Proofs
attribute [local irreducible] Av An Af AQ AL Ac AP AS AK Ab AN AO As A3 Sat AV A0 Ag W
def Rk {α S:Type} (stp:α->S->Bool×S) (D:α->S->Prop):List α->S->Prop
 | [],_=>True
 | y::r,s=>D y s/\((stp y s).1=true->Rk stp D r (stp y s).2)
section
variable {α β S:Type} {stp:α->S->Bool×S} {D:α->S->Prop}
def M3: ∀(A B:List α) (s:S),CK stp (A++B) s=if(CK stp A s).1 then CK stp B (CK stp A s).2 else(false,(CK stp A s).2)
 | [],B,s=>by simp[CK]
 | y::r,B,s=>by
   rw[List.cons_append,CK,CK];cases(stp y s).1
   .rfl
   .simpa using M3 r B (stp y s).2
def Qj (l:α) (s:S):CK stp [l] s=stp l s:=by
 rw[CK,CK];rcases stp l s with⟨b,s'⟩;cases b<;>rfl
def PS: ∀ {A B:List α} {s:S},Rk stp D (A++B) s->Rk stp D A s/\((CK stp A s).1=true->Rk stp D B (CK stp A s).2)
 | [],B,s,h=>⟨trivial,fun _=>h⟩
 | y ::r,B,s,h=>by
   obtain⟨h1,h2⟩:=h;rw[Rk,CK];cases hy:(stp y s).1
   .exact⟨⟨h1,fun h=>(by cases h)⟩,fun h=>(by simp at h)⟩
   .obtain⟨h3,h4⟩:=PS (h2 hy)
    exact⟨⟨h1,fun _=>h3⟩,by simpa using h4⟩
def PR {A:List α}: ∀ {B:List α} {s:S},(∀y∈B,y∈A)->Rk stp D B s->Rk stp (fun y s=>y∈A/\D y s) B s
 | [],_,_,_=>trivial
 | y::r,_,hm,h=>⟨⟨hm y (.head _),h.1⟩,fun hy=>PR (fun z hz=>hm z (.tail _ hz)) (h.2 hy)⟩
def aG {g:β->α}: ∀ {B:List β} {s:S},Rk stp D (B.map g) s->Rk (fun b s=>stp (g b) s) (fun b s=>D (g b) s) B s
 | [],_,_=>trivial
 | y::r,_,h=>⟨h.1,fun hy=>aG (h.2 hy)⟩
end
section
variable {S:Type} {stp:List Fact->S->Bool×S} {D:List Fact->S->Prop}
def TM (B:List (List Fact)): ∀(A:List (List Fact)) (s:S),CK stp (Fj A B) s=CK (fun x s=>CK (fun y s=>stp (Cz x y) s) B s) A s
 | [],s=>rfl
 | x::r,s=>by
   have ih:=TM B r;rw[Fj,List.flatMap_cons,M3,M1,CK];simp only[Fj]at ih;rw[ih]
def Wb (B:List (List Fact)): ∀ {A:List (List Fact)} {s:S},Rk stp D (Fj A B) s->Rk (fun x s=>CK (fun y s=>stp (Cz x y) s) B s) (fun x s=>Rk (fun y s=>stp (Cz x y) s) (fun y s=>D (Cz x y) s) B s) A s
 | [],_,_=>trivial
 | x::r,s,h=>by
   rw[Fj,List.flatMap_cons]at h;obtain⟨h1,h2⟩:=PS h;refine⟨aG h1,fun hy=>?_⟩;rw[M1]at h2;exact Wb B (h2 hy)
end
abbrev LD (l:List Fact) (b:Bool):V:= .l (Dx l) b
def SM {S:Type} (x:V) (H:S->List At) (stp:List Fact->S->Bool×S) (D:List Fact->S->Prop):Prop:= ∀b,DG zP x (fun l=>LD l b) H stp D
abbrev VY (n:Nat):V:= .f (.func 121) [] [.p n 0]
def Sp {f:Fact} (hl:B4 f=true) (c:Bool):JI (if c then Ey f else f)=xF f++[.b c]:=by
 have:=FZ hl;cases c with
 | true=>rfl
 | false=>
   have h5: ¬f.op=5:=by omega
   simp only[JI,NN,if_false,Ah,if_neg h5]
def WalkC (f:Fact):Prop:= ∀(c:Bool) (S:Type) (fn:Fn) (fi ca:List V) (H:S->List At) (stp:List Fact->S->Bool×S) (D:List Fact->S->Prop) (nW:Nat) (s:S),
 SM (.f fn fi ca) (fun s=> .box nW [VY nW]::H s) stp D->Rk stp D (Bb f c) s-> ∀Z,Sat Z (.box nW [VY nW]::H s)->
  As zP (VY nW) [.a (xF f),.b c,.f fn fi ca] Z fun r Z'=>r= .ret (.b (CK stp (Bb f c) s).1)/\Sat Z' (.box nW [VY nW]::H (CK stp (Bb f c) s).2)
def lT {w:AG} {S:Type} {fn:Fn} {fi ca:List V} {H:S->List At} {stp:List Fact->S->Bool×S} {D:List Fact->S->Prop} (hT:SM (.f fn fi ca) H stp D) {k0 k1:Fact} {c:Bool} (hn0:A6 w k0=true) (hn1:A6 w k1=true) (hv0:lv k0<=100) (hv1:lv k1<=100) {a:List Fact} (ha:a∈Bb k0 c) (fa:Bool) :
    SM (.f (.func 124) [] [.rp [.f fn fi ca],.rp [LD a fa]]) H (fun y s=>stp (Cz a y) s) (fun y s=>y∈Bb k1 c/\D (Cz a y) s):=by
 rintro b y s ⟨hy,hd⟩ Z hs;refine BH ?_;show Av zP 124 ([]++[LD y b]++[.rp [.f fn fi ca],.rp [LD a fa]]) Z _;have hla:=(Ln k0 (B5 _ hn0) c).2 a ha;have hly:=(Ln k1 (B5 _ hn1) c).2 y hy;have hM:=Mx;refine wq kZ ?_
 conv=>whnf
 repeat'((first|clear U K|apply st|(apply zk;intro K U)|refine rk ?_ ?_|exact fun s e=>by cases e;rfl|refine Pure.use (dN (w:=w) a y fa b (EA k0 hn0 c a ha) (EA k1 hn1 c y hy) (by omega)) ?_|fail)<;>conv=>whnf)
 refine(hT false).use hd hs ?_;clear hs;intro Z hs;refine zz ?_;(repeat clear U K);repeat intro K U
 exact AH ⟨rfl,hs⟩
def lU {w:AG} {S:Type} {fn:Fn} {fi ca:List V} {H:S->List At} {stp:List Fact->S->Bool×S} {D:List Fact->S->Prop} {nW:Nat} (hT:SM (.f fn fi ca) (fun s=> .box nW [VY nW]::H s) stp D) {f k0 k1:Fact} (hk:f.kids= [k0,k1]) {c:Bool} (hn0:A6 w k0=true) (hn1:A6 w k1=true) (hv0:lv k0<=100) (hv1:lv k1<=100) (hw1:WalkC k1) :
    SM (.f (.func 123) [] [.p nW 0,.rp (xF f),.rp [.b c],.rp [.f fn fi ca]]) (fun s=> .box nW [VY nW]::H s) (fun a s=>CK (fun y s=>stp (Cz a y) s) (Bb k1 c) s) (fun a s=>a∈Bb k0 c/\Rk (fun y s=>stp (Cz a y) s) (fun y s=>D (Cz a y) s) (Bb k1 c) s):=by
 rintro fa a s ⟨ha,hd⟩ Z hs;refine BH ?_;show Av zP 123 ([]++[LD a fa]++[.p nW 0,.rp (xF f),.rp [.b c],.rp [.f fn fi ca]]) Z _;have h1:f.kids[(1:Int).toNat]? =some k1:=by rw[hk];rfl
 refine wu kZ ?_;refine zz ?_;(repeat clear U K);repeat intro K U
 refine(hw1 c S _ _ _ H _ _ nW s (lT hT hn0 hn1 hv0 hv1 ha fa) (PR (fun y hy=>hy) hd) Z hs).mono ?_;clear hs;rintro r Z ⟨rfl,hs⟩;refine zz ?_;(repeat clear U K);repeat intro K U
 exact AH ⟨rfl,hs⟩
def mj {w : AG} (f:Fact):A6 w f=true->lv f<=100->WalkC f:=by
 induction f using Fact.ind with
 | h f ih=>
   intro hn hv c S fn fi ca H stp D nW s hT hd Z hs;have har:=B5 _ hn
   have hnk: ∀k∈f.kids,A6 w k=true:=by
    rw[CA,A4,Dj]at hn;exact hn.2
   have hop:f.op=1\/f.op=5\/B4 f=true\/f.op=6\/f.op=7:=by
    rw[CA,A4]at hn;have h1:=hn.1;simp only[DB,U9,A4]at h1;rw[Mm];simp only[A4,Cp];have h2:=h1.1;split at h2
    .omega
    .split at h2
     .omega
     .simp only[EP,C1]at h2
      omega
   refine BH ?_;show Av zP 121 ([]++[.a (xF f),.b c,.f fn fi ca]++[.p nW 0]) Z _;refine wy kZ ?_;rw[FR,HR]at hd;have hcs:=FR f c;rw[HR]at hcs;rcases hop with h1|h5|hl|h67
   .rw[if_pos h1]at hd hcs
    rw[hcs];cases c
    .rw[if_neg (by decide)]at hd ⊢
     rw[Qj]
     conv=>whnf
     repeat'((first|clear U K|apply st|(apply zk;intro K U)|refine zY ?_|(refine zb (fun hc=>?_) (fun hc=>?_)<;>try exact⟨⟩)|fail)<;>conv=>whnf)
     refine(hT true).use (y:=[]) hd.1 hs ?_;clear hs;intro Z hs;refine zz ?_;(repeat clear U K);repeat intro K U
     exact AH ⟨rfl,hs⟩
    .rw[if_pos rfl]at hd ⊢
     conv=>whnf
     repeat'((first|clear U K|apply st|(apply zk;intro K U)|refine zY ?_|(refine zb (fun hc=>?_) (fun hc=>?_)<;>try exact⟨⟩)|fail)<;>conv=>whnf)
     exact AH ⟨rfl,hs⟩
   .obtain⟨k,hk,-⟩:=Fe har h5
    have hkm:k∈f.kids:=by rw[hk];exact .head _
    have hvk:lv k<=100:=by
     rw[Kt,bb,if_pos h5,hk]at hv;exact hv
    rw[if_neg (by omega),if_pos h5,hk]at hd hcs;have hcs2:Bb f c=Bb k (!c):=hcs;have h0:f.kids[(0:Int).toNat]? =some k:=by rw[hk];rfl
    rw[hcs2]
    conv=>whnf
    repeat'((first|clear U K|apply st|(apply zk;intro K U)|refine zY ?_|(refine zb (fun hc=>?_) (fun hc=>?_)<;>try exact⟨⟩)|fail)<;>conv=>whnf)
    refine(ih k hkm (hnk k hkm) hvk (!c) S _ _ _ H stp D nW s hT hd Z hs).mono ?_;clear hs;rintro r Z ⟨rfl,hs⟩;refine zz ?_;(repeat clear U K);repeat intro K U
    exact AH ⟨rfl,hs⟩
   .have hlo:=FZ hl
    have hlB:=UZ f;rw[hl]at hlB;rw[if_neg (by omega),if_neg (by omega),if_neg (by omega)]at hd hcs;have hcs2:Bb f c= [[if c then Ey f else f]]:=by rw[hcs];cases c<;>rfl
    rw[<-hcs,hcs2]at hd;rw[hcs2,Qj]
    have e:LD [if c then Ey f else f] true= .l [xF f++[.b c]] true:=by
     show V.l [JI (if c then Ey f else f)] true=_;rw[Sp hl]
    have hst:=(hT true) [if c then Ey f else f] s hd.1;simp only[e]at hst
    conv=>whnf
    repeat'((first|clear U K|apply st|(apply zk;intro K U)|refine zY ?_|refine hlB.use ?_|(refine zb (fun hc=>?_) (fun hc=>?_)<;>try exact⟨⟩)|fail)<;>conv=>whnf)
    refine(hst Z hs).mono ?_;clear hs;rintro r Z ⟨rfl,hs⟩;refine zz ?_;(repeat clear U K);repeat intro K U
    exact AH ⟨rfl,hs⟩
   .obtain⟨k0,k1,hk,-,-⟩:=Fc har h67
    have hkm0:k0∈f.kids:=by rw[hk];exact .head _
    have hkm1:k1∈f.kids:=by rw[hk];exact .tail _ (.head _)
    have hlf:B4 f=false:=by rw[Mm,decide_eq_false (show¬f.op<=4 by omega),Bool.and_false]
    have hlB:=UZ f;rw[hlf]at hlB
    have hvk:lv k0+lv k1<=100:=by
     rw[Kt,bb,if_neg (by omega),if_pos h67,hk]at hv;exact hv
    rw[if_neg (by omega),if_neg (by omega),if_pos h67,hk]at hd hcs;have h0:f.kids[(0:Int).toNat]? =some k0:=by rw[hk];rfl
    have h1:f.kids[(1:Int).toNat]? =some k1:=by rw[hk];rfl
    have i0:=ih k0 hkm0 (hnk k0 hkm0) (by omega);have i1:=ih k1 hkm1 (hnk k1 hkm1) (by omega);by_cases hap:(c != (f.op==7))=true
    .rw [if_pos hap]at hd hcs
     have hcs2:Bb f c=Bb k0 c++Bb k1 c:=hcs;have hd2:Rk stp D (Bb k0 c++Bb k1 c) s:=hd;obtain⟨hd3,hd4⟩:=PS hd2;rw[hcs2,M3];clear hcs hcs2 hd hd2;rcases h67 with h6|h7
     .have h6b:(f.op==6)=true:=by rw[h6];rfl
      have hct:c=true:=by rw[h6]at hap;cases c<;>simp_all
      subst hct
      conv=>whnf
      repeat'((first|clear U K|apply st|(apply zk;intro K U)|refine zY ?_|refine hlB.use ?_|(rw[h6b])|(refine zb (fun hc=>?_) (fun hc=>?_)<;>try exact⟨⟩)|fail)<;>conv=>whnf)
      refine(i0 true S _ _ _ H stp D nW s hT hd3 Z hs).mono ?_;clear hs;rintro r Z ⟨rfl,hs⟩;generalize CK stp (Bb k0 true) s=x at *;obtain⟨b1,s1⟩:=x;cases b1
      .refine zz ?_;(repeat clear U K);repeat intro K U
       exact AH ⟨rfl,hs⟩
      .refine zz ?_;(repeat clear U K);repeat intro K U
       refine(i1 true S _ _ _ H stp D nW s1 hT (hd4 rfl) Z hs).mono ?_;clear hs;rintro r Z ⟨rfl,hs⟩;refine zz ?_;(repeat clear U K);repeat intro K U
       exact AH ⟨rfl,hs⟩
     .have h6b:(f.op==6)=false:=by rw[h7];rfl
      have hct:c=false:=by rw[h7]at hap;cases c<;>simp_all
      subst hct
      conv=>whnf
      repeat'((first|clear U K|apply st|(apply zk;intro K U)|refine zY ?_|refine hlB.use ?_|(rw[h6b])|(refine zb (fun hc=>?_) (fun hc=>?_)<;>try exact⟨⟩)|fail)<;>conv=>whnf)
      refine(i0 false S _ _ _ H stp D nW s hT hd3 Z hs).mono ?_;clear hs;rintro r Z ⟨rfl,hs⟩;generalize CK stp (Bb k0 false) s=x at *;obtain⟨b1,s1⟩:=x;cases b1
      .refine zz ?_;(repeat clear U K);repeat intro K U
       exact AH ⟨rfl,hs⟩
      .refine zz ?_;(repeat clear U K);repeat intro K U
       refine(i1 false S _ _ _ H stp D nW s1 hT (hd4 rfl) Z hs).mono ?_;clear hs;rintro r Z ⟨rfl,hs⟩;refine zz ?_;(repeat clear U K);repeat intro K U
       exact AH ⟨rfl,hs⟩
    .rw[if_neg hap]at hd hcs
     have hcs2:Bb f c=Fj (Bb k0 c) (Bb k1 c):=hcs;have hd2:Rk stp D (Fj (Bb k0 c) (Bb k1 c)) s:=hd;have hd3:=Wb _ hd2;have hT2:=lU hT hk (c:=c) (hnk k0 hkm0) (hnk k1 hkm1) (by omega) (by omega) i1;rw[hcs2,TM];clear hcs hcs2 hd hd2;rcases h67 with h6|h7
     .have h6b:(f.op==6)=true:=by rw[h6];rfl
      have hct:c=false:=by rw[h6]at hap;cases c<;>simp_all
      subst hct
      conv=>whnf
      repeat'((first|clear U K|apply st|(apply zk;intro K U)|refine zY ?_|refine hlB.use ?_|(rw[h6b])|(refine zb (fun hc=>?_) (fun hc=>?_)<;>try exact⟨⟩)|fail)<;>conv=>whnf)
      refine(i0 false S _ _ _ H _ _ nW s hT2 (PR (fun y hy=>hy) hd3) Z hs).mono ?_;clear hs;rintro r Z ⟨rfl,hs⟩;refine zz ?_;(repeat clear U K);repeat intro K U
      exact AH ⟨rfl,hs⟩
     .have h6b:(f.op==6)=false:=by rw[h7];rfl
      have hct:c=true:=by rw[h7]at hap;cases c<;>simp_all
      subst hct
      conv=>whnf
      repeat'((first|clear U K|apply st|(apply zk;intro K U)|refine zY ?_|refine hlB.use ?_|(rw[h6b])|(refine zb (fun hc=>?_) (fun hc=>?_)<;>try exact⟨⟩)|fail)<;>conv=>whnf)
      refine(i0 true S _ _ _ H _ _ nW s hT2 (PR (fun y hy=>hy) hd3) Z hs).mono ?_;clear hs;rintro r Z ⟨rfl,hs⟩;refine zz ?_;(repeat clear U K);repeat intro K U
      exact AH ⟨rfl,hs⟩
def tj {w:AG} (f:Fact) (hn:A6 w f=true) (hv:lv f<=100) (c:Bool) {S:Type} {fn:Fn} {fi ca:List V} {H:S->List At} {stp:List Fact->S->Bool×S} {D:List Fact->S->Prop} {s:S} (hT: ∀nW,SM (.f fn fi ca) (fun s=> .box nW [VY nW]::H s) stp D) (hd:Rk stp D (Bb f c) s) (Z:AE) (hs:Sat Z (H s)) :
    Av zP 120 [.f fn fi ca,.rp (xF f),.rp [.b c]] Z fun r Z'=>r= .ret (.t [])/\Sat Z' (H (CK stp (Bb f c) s).2):=by
 refine wz kZ ?_
 conv=>whnf
 repeat'((first|clear U K|apply st|(apply zk;intro K U)|refine zY ?_|refine zs fun Z hs=>?_|refine zo fun nn hnn Z hs=>?_|fail)<;>conv=>whnf)
 refine(mj f hn hv c S fn fi ca H stp D nn s (hT nn) hd Z hs).mono ?_;clear hs;rintro r Z ⟨rfl,hs⟩
 conv=>whnf
 repeat'((first|clear U K|apply st|fail)<;>conv=>whnf)
 exact AH ⟨rfl,hs.less (OS _ _)⟩
def lW (f:Fact) (c:Bool):Pure zP 79 [.a (xF f),.b c] (.f (.func 120) [] [.rp (xF f),.rp [.b c]]):=by
 refine zF kZ ?_;have hs:=Sn;exact zW
abbrev Po (w:AG) (l:List Fact) (s:Bool):Bool×Bool:=if EG w l then(false,true)else(true,s)
def XB {w:AG}: ∀(cs:List (List Fact)),CK (Po w) cs false=(!cs.any (EG w),cs.any (EG w))
 | []=>rfl
 | l::r=>by
   rw[CK,Rj];simp only[Po];cases h:EG w l
   .simpa using XB r
   .rfl
def aH {w:AG} {G:List Fact->Prop}: ∀ {cs:List (List Fact)},(∀l∈cs,G l)->Rk (Po w) (fun l s=>s=false/\G l) cs false
 | [],_=>trivial
 | l ::r,h=>⟨⟨rfl,h l (.head _)⟩,fun hy=>by
     cases ht:EG w l
     .have e:(Po w l false).2=false:=by simp[Po,ht]
      rw[e];exact aH fun x hx=>h x (.tail _ hx)
     .simp[Po,ht]at hy⟩
abbrev xT (w:AG) (L:Nat) (E:Env) (ok:FuncId->Array Tmp->Code->Code->Nat->Prop) (nF:Nat):Prop:=
 Nv zP L E ok (fun(x:List Fact×Bool)=>[LD x.1 x.2]) (fun s:Bool=>[.box nF [.b s]]) (fun _=>True) (fun x s=>if EG w x.1 then .stop (.exit 0) true else .go s) (fun x s=>s=false/\(∀y∈x.1,Dq w y)/\x.1.length<900)
def oj {w:AG} (f:Fact) (hn:A6 w f=true) (hv:lv f<=100) {L:Nat} {E:Env} {ok:FuncId->Array Tmp->Code->Code->Nat->Prop} {nF:Nat} (hY:xT w L E ok nF) (Z:AE) (hs:Sat Z [.obj L (.loop .ready E ok),.box nF [.b false]]) :
    Av zP 120 [.f (.yield L) [] [],.rp (xF f),.rp [.b false]] Z fun r Z'=>r= .ret (.t [])/\Sat Z' [.obj L (.loop (if X5 w f then .exit 0 else .ready) E ok),.box nF [.b (X5 w f)]]:=by
 have hg:=tj f hn hv false (fn:= .yield L) (fi:=[]) (ca:=[]) (H:=fun s:Bool=>[.obj L (.loop (if s then .exit 0 else .ready) E ok),.box nF [.b s]]) (stp:=Po w) (D:=fun l s=>s=false/\(∀y∈l,Dq w y)/\l.length<900) (s:=false) (by
  rintro nW b l s ⟨rfl,hl,hlen⟩ Z hs;refine hY.use (y:=(l,b)) (s:=false) ⟨rfl,hl,hlen⟩ (rest:=[.box nW [VY nW]]) (hs.perm (JX _ _ _ _)) ?_;intro r Z' hq;cases ht:EG w l
  .simp only[ht,NN,if_false]at hq
   obtain⟨rfl,hs'⟩:=hq;have e:Po w l false=(true,false):=by simp[Po,ht]
   rw[e];exact⟨rfl,hs'.perm (JX _ _ _ _).symm⟩
  .simp only[ht,if_true]at hq
   obtain⟨rfl,hs'⟩:=hq;have e:Po w l false=(false,true):=by simp[Po,ht]
   rw[e]
   exact⟨rfl,hs'.perm (JX _ _ _ _).symm⟩) (aH fun l hl=>⟨EA f hn false l hl,by have:=(Ln f (B5 _ hn) false).2 l hl;omega⟩) Z hs
 rw[XB]at hg;exact hg
def xN (w:AG) (hw:Cq w) (f:Fact) (hn:A6 w f=true) (hv:lv f<=100):Pure zP 78 [.rp (wC w (BX w.parents)),.a (xF f)] (.b (X5 w f)):=by
 refine Pure.of ?_;refine zG kZ ?_;have hs:=Sn
 conv=>whnf
 repeat'((first|clear U K|apply st|(apply zk;intro K U)|refine zY ?_|refine zs fun Z hs=>?_|refine Pure.use (lW _ _) ?_|refine zo fun nn hnn Z hs=>?_|fail)<;>conv=>whnf)
 rename_i _ nF hnF _ _ _ _;refine Av.mono (oj (w:=w) f hn hv (L:=nn) (nF:=nF) ?_ Z hs) ?_
 .refine Ol (fun y=>rfl) ?_
  clear hs hnn hnF;rintro⟨l,b⟩ s ⟨rfl,hl,hlen⟩ rest Z hs;dsimp only at hl hlen;have htg:=XM w hw l b hl hlen;dsimp only;cases ht:EG w l<;>rw[ht]at htg
  .conv=>whnf
   repeat'((first|clear U K|apply st|(apply zk;intro K U)|refine htg.use ?_|fail)<;>conv=>whnf)
   intro hn;exact WV (H:=fun s:Bool=>[.box nF [.b s]]) (J:=fun _=>True) (s:=false) rfl hs hn
  .conv=>whnf
   repeat'((first|clear U K|apply st|(apply zk;intro K U)|refine zs fun Z hs=>?_|refine htg.use ?_|fail)<;>conv=>whnf)
   intro hn;exact Ym (H:=fun s:Bool=>[.box nF [.b s]]) (J:=fun _=>True) (s:=true) (st:= .exit 0) rfl hs hn
 .clear hs hnn hnF
  cases hp:X5 w f
  .rintro r Z ⟨rfl,hs⟩
   refine Mf hs fun Z hs=>?_
   refine zz ?_;(repeat clear U K);repeat intro K U
   exact AH (by rw[hp])
  .rintro r Z ⟨rfl,hs⟩
   refine Yp hs fun Z hs=>?_
   refine zz ?_;(repeat clear U K);repeat intro K U
   exact AH (by rw[hp])
def s7 (f:Fact):Pure zP 205 [.a (xF f)] (.a (xF (Ey f))):=by
 refine vX kZ ?_;have hs:=Sn
 conv=>whnf
 repeat'((first|clear U K|apply st|(apply zk;intro K U)|refine zX ?_|refine zr fun Z hs=>?_|refine zp fun nn hnn Z hs=>?_|fail)<;>conv=>whnf)
 refine Be (.a (.cons (.refl _) (.cons (.refl _) (.cons MK (.cons (.refl _) (.cons (.refl _) (.cons ?_ .nil)))))));refine .l (fun h=>by cases h) ?_;simp only[Ey,Fact.kids,List.map,Bw];exact IQ _
def xQ (f g:Fact):Pure zP 255 [.a (xF f),.a (xF g)] (.a (xF (R0 f g))):=by
 refine uu kZ ?_;have hs:=Sn
 conv=>whnf
 repeat'((first|clear U K|apply st|(apply zk;intro K U)|refine zX ?_|refine zr fun Z hs=>?_|refine zp fun nn hnn Z hs=>?_|fail)<;>conv=>whnf)
 refine Be (.a (.cons (.refl _) (.cons (.refl _) (.cons MK (.cons (.refl _) (.cons (.refl _) (.cons ?_ .nil)))))));refine .l (fun h=>by cases h) ?_;simp only[R0,Fact.kids,List.map,Bw];exact IQ _
def Y5 (w:AG) (hw:Cq w) (a b:Fact) (ha:A6 w a=true) (hb:A6 w b=true) (hl:lv a+lv b<=100):Pure zP 209 [.rp (wC w (BX w.parents)),.a (xF a),.a (xF b)] (.b (Rw w a b)):=by
 have hcan:=xN w hw (R0 a (Ey b)) (Wd ha hb) (by rw[tP];exact hl);refine vW kZ ?_;have hs:=Sn
 conv=>whnf
 repeat'((first|clear U K|apply st|(apply zk;intro K U)|refine zY ?_|refine rk ?_ ?_|exact fun s e=>by cases e;rfl|refine Pure.use (s7 _) ?_|refine Pure.use (xQ _ _) ?_|refine hcan.use ?_|fail)<;>conv=>whnf)
 all_goals exact AJ rfl
def eS (w:AG) (hw:Cq w) (a b:Fact) (ha:DL w a=true) (hb:DL w b=true) (hna:A6 w a=true) (hnb:A6 w b=true) (hl:lv a+lv b<=100):Pure zP 315 [.a (BL w),.a (xF a),.a (xF b)] (.t [.b (Rw w a b),eI 0]):=by
 have hrd: ∀f,Pure zP 77 [.a (BL w),.l [xF a,xF b] f] (.t [.rp (wC w (BX w.parents)),.b true]):=fun f=>by
  have:=Z5 w hw [a,b] f (by simp);rw[show([a,b].all (L6 w))=true by simp[ak,ha,hb]]at this;simpa[Bw]using this
 have hip:=Y5 w hw a b hna hnb hl;refine uI kZ ?_;have hs:=Sn
 conv=>whnf
 repeat'((first|clear U K|apply st|(apply zk;intro K U)|refine zY ?_|refine Pure.use (hrd _) ?_|refine hip.use ?_|fail)<;>conv=>whnf)
 all_goals exact AJ rfl
def nM (a:Int) (n:Nat) (h1:1<=n) (hn:n<=120):BO zP 53 [.l [[eI a]] true,eI n] [] fun r post=> ∃v,r= .ret v/\post= [.own v 1 (iL (List.replicate n a))]/\(CR v).isSome=true:=by
 intro Z hs;have hM:=Mx;have hw1:IntKind.u64.wrap 1=1:=rfl;have hwn:IntKind.u64.wrap (n:Int)=n:=Hz (by omega);have hwi:IntKind.i64.wrap (n:Int)=n:=wrap64 (by omega) (by omega);refine zJ kZ ?_
 conv=>whnf
 repeat'((first|clear U K|apply st|(apply zk;intro K U)|refine zY ?_|(refine zb (fun hc=>?_) (fun hc=>?_)<;>try exact⟨⟩)|fail)<;>conv=>whnf)
 rw[show IntKind.u64.wrap (([[eI a]]:List (List V)).length:Nat)=1 from rfl,hwn];refine(tN n hn).use ?_
 conv=>whnf
 repeat'((first|clear U K|apply st|(apply zk;intro K U)|refine zY ?_|(refine zb (fun hc=>?_) (fun hc=>?_)<;>try exact⟨⟩)|fail)<;>conv=>whnf)
 all_goals try(exfalso;omega)
 rw[hwi];refine yF hs (IS n) (by omega) fun v Z hs hv=>?_
 obtain⟨id,rfl⟩:=hv
 conv=>whnf
 repeat'((first|clear U K|apply st|(apply zk;intro K U)|fail)<;>conv=>whnf)
 refine yx hs 0 (ys:=[[eI a]]) rfl (by simp;omega) (fun e he=>by simp at he;subst he;rfl) (fun e he v hv=>by simp at he;subst he;simp at hv;subst hv;rfl) fun Z hs=>?_
 have hst:([[eI a]]:List (List V))++(List.replicate n [V.i .i64 0]).drop ([[eI a]]:List (List V)).length=List.replicate 1 [eI a]++List.replicate (n - 1) [eI 0]:=by simp[List.drop_replicate]
 rw[hst]at hs;refine zz ?_;(repeat clear U K);repeat intro K U
 refine GU (fun m:Nat=>n - m) (fun m=>[(8,eI m)]) (fun m=>[.own (.sl id n n) 1 (List.replicate m [eI a]++List.replicate (n - m) [eI 0])]) (fun m=>1<=m/\m<=n) 1 rfl ⟨by omega,h1⟩ hs ?_;clear hs hst;rintro m Z ⟨hm1,hmn⟩ hs
 have hgl: ∀e∈(List.replicate m [eI a]++List.replicate (n - m) [eI 0]:List (List V)),e.length=1/\ ∀v∈e,CJ v=true:=fun e he=>by
  rcases Ds.1 he with he|he
  .rw[(List.mem_replicate.1 he).2];exact⟨rfl,fun v hv=>by simp at hv;subst hv;rfl⟩
  .rw[(List.mem_replicate.1 he).2];exact⟨rfl,fun v hv=>by simp at hv;subst hv;rfl⟩
 have hlen:(List.replicate m [eI a]++List.replicate (n - m) [eI 0]:List (List V)).length=n:=by simp;omega
 rcases Nat.lt_or_ge m n with hlt|hge
 .have hcpy:(List.replicate m [eI a]++List.replicate (n - m) [eI 0]:List (List V)).take m++(((List.replicate m [eI a]++List.replicate (n - m) [eI 0]:List (List V)).take m).take (min m (n - m))++(List.replicate m [eI a]++List.replicate (n - m) [eI 0]:List (List V)).drop (m+min m (n - m)))=List.replicate (m+min m (n - m)) [eI a]++List.replicate (n - (m+min m (n - m))) [eI 0]:=by
   have e1:(List.replicate m [eI a]++List.replicate (n - m) [eI 0]:List (List V)).take m=List.replicate m [eI a]:=by
    rw[List.take_append_of_le_length (by simp)];simp
   rw[e1,List.take_replicate,List.drop_append,List.drop_replicate,List.drop_replicate,List.length_replicate,<-Ph,List.replicate_append_replicate];have e2:m - (m+min m (n - m))=0:=by omega
   have e3:n - m - (m+min m (n - m) - m)=n - (m+min m (n - m)):=by omega
   rw[e2,e3,List.replicate_zero,List.nil_append];congr 2;omega
  conv=>whnf
  repeat'((first|clear U K|apply st|(apply zk;intro K U)|refine zY ?_|(refine zb (fun hc=>?_) (fun hc=>?_)<;>try exact⟨⟩)|fail)<;>conv=>whnf)
  all_goals try(exfalso;omega)
  refine slLo ?_;refine zz ?_;(repeat clear U K);repeat intro K U
  refine slHi ?_;refine zz ?_;(repeat clear U K);repeat intro K U
  rw[HX,show((n:Int) - m).toNat=n - m by omega];refine yw hs 0 rfl (by rw[hlen];omega) (by rw[hlen];omega) (fun e he=>(hgl e he).1) (fun e he=>(hgl e he).2) fun Z hs=>?_
  rw[hcpy]at hs;refine zz ?_;(repeat clear U K);repeat intro K U
  refine⟨m+min m (n - m),by omega,?_,⟨by omega,by omega⟩,hs⟩;rw[wrap64 (by omega) (by omega)];rfl
 .have hme:m=n:=by omega
  subst hme
  conv=>whnf
  repeat'((first|clear U K|apply st|(apply zk;intro K U)|refine zY ?_|(refine zb (fun hc=>?_) (fun hc=>?_)<;>try exact⟨⟩)|fail)<;>conv=>whnf)
  all_goals try(exfalso;omega)
  refine Ay hs (List.Sublist.refl _) (.refl _) fun Z' hs'=>⟨_,⟨_,rfl,?_,rfl⟩,hs'⟩
  simp[iL]
def cZ (n:Nat) (h1:1<=n) (hn:n<=120):BO zP 53 [.l [[eI (-1)]] true,eI n] [] fun r post=> ∃v,r= .ret v/\post= [.own v 1 (iL (List.replicate n (-1)))]/\(CR v).isSome=true:=nM (-1) n h1 hn
def Ms {p:Prog} (h:A7 p=true):Cq (AI p)/\Bn p.AM<=40/\p.AM.length<=10:=by
 have h1:=h;rw[RQ]at h1;simp only[A4,Cp]at h1;have h2:=h;simp only[A7,A4,Cp]at h2;have hm:=(FO _ _ h2.2.1).1;refine⟨⟨D9 h1.2.2.2.1,?_,fun o ho=>?_⟩,by omega,h1.1⟩
 .rw[AI,Cd];omega
 .have:=GH ho
  simp only[AI,Aw,CW];omega
def l6 (s:List Int):Prop:= ∀x∈s,(-1:Int)<=x
def om {s:List Int} (h:l6 s) (i:Nat) {x:Int} (hx:0<=x):l6 (s.set i x):=fun y hy=>by
 rcases List.mem_or_eq_of_mem_set hy with hy|rfl
 .exact h y hy
 .omega
def Wk {f:Int->Int->List Int->Option (List Int)} (hf: ∀ {a b s s'},0<=b->f a b s=some s'->l6 s->l6 s') {op size:Int} (h0:0<=size): ∀(i:Nat) (l:List Int) {s s':List Int},Fl f op size i l s=some s'->l6 s->l6 s'
 | _,[],s,s',h,hs=>by cases h;exact hs
 | i,k::r,s,s',h,hs=>by
   simp only[Fl]at h;split at h
   .cases h
   .rename_i s1 h1
    refine Wk hf h0 (i+1) r h (hf ?_ h1 hs);split<;>omega
def MX {p:Prog} {next:Bool}: ∀(d:Nat) {n size:Int} {s s':List Int},0<=size->CQ p next d n size s=some s'->l6 s->l6 s'
 | 0,_,_,_,_,_,h,_=>by cases h
 | d + 1,n,size,s,s',h0,h,hs=>by
   simp only[CQ]at h;split at h
   .cases h
   .split at h
    .cases h
    .split at h
     .exact Wk (fun hb h hs=>MX d hb h hs) h0 0 _ h (om hs _ h0)
     .cases h
def oo {s:List Int} (h:l6 s):(s.all fun n=>decide (0<=n))= !s.contains (-1):=by
 rw[Hb];simp only[Dj,Cp,Bool.not_eq_true',<-Bool.not_eq_true,List.contains_iff_mem];constructor
 .intro h1 h2
  have:=h1 _ h2;omega
 .intro h1 x hx
  have:=h x hx;rcases Int.lt_or_le x 0 with hlt|hle
  .exact absurd ((show x= -1 by omega) ▸ hx) h1
  .exact hle
def xY (p:Prog) (nO:Nat) (r:R) (Z:AE):Prop:=
 match BN p with
 | some s=>r= .ret (.t [])/\ ∃v,Sat Z [.box nO [v],.own v 1 (iL s)]
 | none=>r= .Bf D4/\ ∃v s,Sat Z [.box nO [v],.own v 1 (iL s)]
def bX {p:Prog} {nO:Nat} {Z:AE} {v:V} {s:List Int} {l:List At} (h:BN p=none) (hs:Sat Z l) (hsub: [At.box nO [v],.own v 1 (iL s)].Sublist l):Af Z D4 (xY p nO):=DO (by
 rw[xY,h]
 exact⟨rfl,v,s,hs.less hsub⟩)
def szT {p:Prog} {nO:Nat} {Z:AE} {v:V} {s:List Int} {l:List At} (h:BN p=some s) (hs:Sat Z l) (hsub: [At.box nO [v],.own v 1 (iL s)].Sublist l):An Z (.t []) (xY p nO):=AH (by
 rw[xY,h]
 exact⟨rfl,v,hs.less hsub⟩)
def T1 {p:Prog} (h:DE p=false):BN p=none:=by unfold BN;rw[h];rfl
def pt {w:AG} {f:Fact} (h:DL w f=true):SL f=true:=Q3 (w:=w) f (by simp only[DL,A4]at h;exact h.2.2)
def ZE {w:AG} (hw:Cq w) (f:Fact):Pure zP 116 [.a (BL w),.a (xF f)] (eI (if DL w f then 0 else 2)):=by
 rw[<-ak];exact eT w hw f
def cw {α:Type} (a b c:α): [a,b,c].Perm [c,b,a]:=by simpa using(List.reverse_perm [a,b,c]).symm
def jm (p : Prog) (nO:Nat) (Z:AE) (hs:Sat Z [.box nO [.l [] true]]):Av zP 243 [.rp (BT p),.p nO 0] Z (xY p nO):=by
 refine Av.fit (by kernel_rfl) fun hf=>?_
 have hM:=Mx
 have hfp:FF (.a (BT p)):=by
  have:=hf.1;simp only[Uj]at this;simpa only[Ji]using this
 have⟨p1,p2,p3,p4⟩:=I9 hfp;refine vA kZ ?_;have hcl:=ZS p;replace hs:Sat Z [.box nO [.l [] true],.own (.l [] true) 1 (iL [])]:=IU hs 1;cases hcB:A7 p with
 | false=>
   rw[hcB]at hcl
   conv=>whnf
   repeat'((first|apply st|(apply sq;intro K U)|(apply si;intro A B hA hB)|refine⟨kZ,?_⟩|fail)<;>conv=>whnf)
   refine hcl.use (pre:=[]) (rest:=[.box nO [.l [] true],.own (.l [] true) 1 (iL [])]) hs ?_;rintro r post Z ⟨rfl,rfl⟩ hs
   conv=>whnf
   repeat'((first|(refine hB _ _ _ ?_;clear hB B hA A)|clear U K)<;>conv=>whnf)
   exact bX (T1 (by simp[DE,hcB])) hs (.refl _)
 | true=>
   rw[hcB]at hcl;obtain⟨hgW,hmS,h10⟩:=Ms hcB
   conv=>whnf
   repeat'((first|apply st|(apply sq;intro K U)|(apply si;intro A B hA hB)|refine⟨kZ,?_⟩|fail)<;>conv=>whnf)
   refine hcl.use (pre:=[]) (rest:=[.box nO [.l [] true],.own (.l [] true) 1 (iL [])]) hs ?_;clear hs;rintro r post Z ⟨rfl,rfl⟩ hs
   conv=>whnf
   repeat'((first|apply st|(apply sq;intro K U)|(apply si;intro A B hA hB)|(refine hA _ _ ?_;clear hB B hA A)|(refine hB _ _ _ ?_;clear hB B hA A)|(apply U;clear U K)|refine⟨rfl,?_⟩|(refine Cx (fun hc=>?_) (fun hc=>?_)<;>(replace hc:=bp hc)<;>(try simp(disch:=omega) only[CW,wrap64,Ae]at hc)<;>(try(cases hc;done)))|(constructor<;>intro hc<;>(try rw[hc])<;>(replace hc:=bp hc)<;>(try simp(disch:=omega) only[CW,wrap64,Ae]at hc))|clear U K)<;>conv=>whnf)
   rotate_left
   all_goals first
    | exact bX (T1 (by simp[DE, *];intros;omega)) hs (.refl _)
    | skip
   have a1:p.Dr.length<=8:=by omega
   have a2:p.methods.length<=16:=by omega
   have a3:1<=p.nodes.length:=by omega
   have a4:p.nodes.length<=120:=by omega
   have hg:DE p=p.Dr.all fun g=>decide (1<=g)&&decide (g<=3):=by
    simp only[DE,a1,a2,a3,a4,decide_true,Du];simp[*]
   refine Cn p.Dr.length (fun k (_:Unit)=>[(36,eI (BR k))]) (fun _ _=>[.box nO [.l [] true],.own (.l [] true) 1 (iL [])]) (fun k _=>DE p=(p.Dr.drop k).all fun g=>decide (1<=g)&&decide (g<=3)) () rfl (by simpa using hg) hs ?_;clear hs hg;rintro k - Z hk hn hs;rcases BK p.Dr hk with⟨g,hgk,hlt⟩|hke
   .rw[drop_cons hgk,Pg]at hn
    conv=>whnf
    repeat'((first|apply st|(apply sq;intro K U)|(apply si;intro A B hA hB)|(refine hA _ _ ?_;clear hB B hA A)|(refine hB _ _ _ ?_;clear hB B hA A)|(apply U;clear U K)|refine⟨rfl,?_⟩|refine ix ?_|(refine fK (fun hc=>?_)<;>(try rw[hc])<;>clear hc)|(refine Cx (fun hc=>?_) (fun hc=>?_)<;>(replace hc:=bp hc)<;>(try simp(disch:=omega) only[CW,wrap64,Ae]at hc)<;>(try(cases hc;done)))|(constructor<;>intro hc<;>(try rw[hc])<;>(replace hc:=bp hc))|clear U K)<;>conv=>whnf)
    .exact⟨hlt,(),rfl,by rw[hn];simp[*],hs⟩
    .exact bX (T1 (by rw[hn,decide_eq_false (show¬g<=3 by omega)];simp)) hs (.refl _)
    .exact bX (T1 (by rw[hn,decide_eq_false (show¬1<=g by omega)];simp)) hs (.refl _)
   .have hh : DE p=true:=by rw[hn,Au hke];rfl
    have hL:=aK hh;clear hn
    conv=>whnf
    repeat'((first|apply st|(apply sq;intro K U)|(apply si;intro A B hA hB)|(refine hA _ _ ?_;clear hB B hA A)|(apply U;clear U K)|refine⟨rfl,?_⟩|(refine qG (fun hc=>?_)<;>(try rw[hc])<;>clear hc)|clear U K)<;>conv=>whnf)
    rw[CW];refine(cZ p.nodes.length a3 a4).use (pre:=[]) (rest:=[.box nO [.l [] true],.own (.l [] true) 1 (iL [])]) hs ?_;clear hs;rintro r post Z ⟨v,rfl,rfl,hv⟩ hs
    conv=>whnf
    repeat'((first|apply st|(apply sq;intro K U)|(apply si;intro A B hA hB)|(refine hA _ _ ?_;clear hB B hA A)|(apply U;clear U K)|refine⟨kZ,?_⟩|refine xZ fun Z hs=>?_|refine bY fun Z hs=>?_|refine Pure.use (V3 p (by omega) (by omega)) ?_|(intro nn hnn;generalize hg:Bu _ nn _=Z;refine fL hg fun hs=>?_;clear hg)|fail)<;>conv=>whnf)
    rename_i nw hnw _ hs;generalize nn=n5 at *;replace hs:=hs.less (show [At.box n5 (BL (AI p)),.own v 1 (iL (List.replicate p.nodes.length (-1))),.box nO [v]].Sublist _ from .cons₂ _ (.cons₂ _ (.cons₂ _ (.cons _ .slnil))));refine Cn p.methods.length (fun k (s:List Int)=>[(59,eI (BR k))]) (fun _ s=>[.box nO [v],.own v 1 (iL s),.box n5 (BL (AI p))]) (fun k s=>s.length=p.nodes.length/\l6 s/\BN p=Ku p (runM p (p.methods.drop k) s)) (List.replicate p.nodes.length (-1)) rfl ⟨by simp,fun x hx=>by rw[List.eq_of_mem_replicate hx];omega,hL⟩ (hs.perm (cw _ _ _)) ?_;clear hs hnw hnn;rintro k s Z hk ⟨hl,hge,hn⟩ hs;rcases BK p.methods hk with⟨m,hm,hlt⟩|hke
    .have hF:=ZE hgW m.fact
     cases hfB:DL (AI p) m.fact with
     | false=>
       rw[hfB,if_neg Bool.false_ne_true]at hF;have hno:=Dc hm hn (by simp[Pj,hfB])
       conv=>whnf
       repeat'((first|apply st|(apply sq;intro K U)|(apply si;intro A B hA hB)|(refine hA _ _ ?_;clear hB B hA A)|(refine hB _ _ _ ?_;clear hB B hA A)|(refine hB _ _ fun Z hsub=>?_;clear hB B hA A)|(apply U;clear U K)|apply dr|refine rk ?_ ?_|exact fun s e=>by cases e;rfl|refine⟨rfl,?_⟩|refine⟨kZ,?_⟩|refine ix ?_|refine ld ?_|refine bY fun Z hs=>?_|(refine fK (fun hc=>?_)<;>(try rw[hc])<;>clear hc)|(refine Cx (fun hc=>?_) (fun hc=>?_)<;>(replace hc:=bp hc)<;>(try simp(disch:=omega) only[CW,wrap64,Ae]at hc)<;>(try(cases hc;done)))|refine hF.use ?_|(constructor<;>intro hc<;>(try rw[hc])<;>(replace hc:=bp hc)<;>try(exfalso;omega))|(intro nn hnn;generalize hg:Bu _ nn _=Z;refine fL hg fun hs=>?_;clear hg)|clear U K)<;>conv=>whnf)
       all_goals first
        | (refine bX (v:=v) (s:=s) hno hs ?_;(repeat first|exact NQ _|apply List.Sublist.cons₂|apply List.Sublist.cons);done)
        | (refine bX (v:=v) (s:=s) hno (hs.up (by assumption)) ?_;(repeat first|exact NQ _|apply List.Sublist.cons₂|apply List.Sublist.cons);done)
        | skip
     | true=>
       rw[hfB,if_pos rfl]at hF;have hsp:=cR _ (pt hfB)
       conv=>whnf
       repeat'((first|apply st|(apply sq;intro K U)|(apply si;intro A B hA hB)|(refine hA _ _ ?_;clear hB B hA A)|(refine hB _ _ _ ?_;clear hB B hA A)|(refine hB _ _ fun Z hsub=>?_;clear hB B hA A)|(apply U;clear U K)|apply dr|refine rk ?_ ?_|exact fun s e=>by cases e;rfl|refine⟨rfl,?_⟩|refine⟨kZ,?_⟩|refine ix ?_|refine iqk ?_|refine iq fun x hx=>?_|refine ld ?_|refine bY fun Z hs=>?_|(refine fK (fun hc=>?_)<;>(try rw[hc])<;>clear hc)|(refine Cx (fun hc=>?_) (fun hc=>?_)<;>(replace hc:=bp hc)<;>(try simp(disch:=omega) only[CW,wrap64,Ae]at hc)<;>(try(cases hc;done)))|refine hF.use ?_|refine hsp.use ?_|(constructor<;>intro hc<;>(try rw[hc])<;>(replace hc:=bp hc)<;>(try simp(disch:=omega) only[CW,wrap64,Ae]at hc)<;>try(exfalso;omega))|(intro nn hnn;generalize hg:Bu _ nn _=Z;refine fL hg fun hs=>?_;clear hg)|clear U K)<;>conv=>whnf)
       all_goals first
        | (refine bX (v:=v) (s:=s) (Dc hm hn ?_) hs ?_;(simp[Pj, *];intros;omega);(repeat first|exact NQ _|apply List.Sublist.cons₂|apply List.Sublist.cons);done)
        | (refine bX (v:=v) (s:=s) (Dc hm hn ?_) (hs.up (by assumption)) ?_;(simp[Pj, *];intros;omega);(repeat first|exact NQ _|apply List.Sublist.cons₂|apply List.Sublist.cons);done)
        | skip
       rotate_left 2
       .refine bX (v:=v) (s:=s) (Dc hm hn ?_) (hs.up (by assumption)) ?_
        .simp only[Pj,show p.Dr.getD m.gen.toNat 0=x by rw[DK,hx];rfl,decide_eq_false (show¬GV m.fact<=x by omega),Bool.and_false]
        .repeat first|exact NQ _|apply List.Sublist.cons₂|apply List.Sublist.cons
       all_goals
        have hx13:=Sy hh hx;have hgd:p.Dr.getD m.gen.toNat 0=x:=by rw[DK,hx];rfl
        have hok:Pj p m=true:=by simp only[Pj,hgd,A4,Cp];exact⟨by omega,by omega,by omega,by omega,hfB,by assumption⟩
        have hgo:=fun s'=>Z0 (s':=s') hm hn hok
        have hno:=Sd hm hn hok;rw[hgd]at hgo hno
       .have hnb:Ks m.kind=(m.kind==4):=by simp[Ks, *]
        rw[hnb]at hgo hno;refine BH ((Up p (m.kind==4) hv m.node x s (by omega) (by omega) hl [.box n5 (BL (AI p))] Z (hs.less (.cons _ (.refl _)))).mono ?_);cases hw:CQ p (m.kind==4) 12 m.node x s with
        | none=>
          clear hs;rintro r Z' ⟨rfl,s',hl',hs⟩
          conv=>whnf
          repeat'((first|(refine hB _ _ fun Z hsub=>?_;clear hB B hA A)|clear U K)<;>conv=>whnf)
          exact bX (v:=v) (s:=s') (hno hw) (hs.up (by assumption)) (.cons₂ _ (.cons₂ _ (NQ _)))
        | some s2=>
          clear hs;rintro r Z' ⟨rfl,hs⟩
          conv=>whnf
          repeat'((first|(apply si;intro A B hA hB)|(refine hA _ _ ?_;clear hB B hA A)|(apply U;clear U K)|apply dr|refine⟨rfl,?_⟩|clear U K)<;>conv=>whnf)
          exact⟨hlt,s2,rfl,⟨(KH _ hw).trans hl,MX _ (by omega) hw hge,hgo s2 hw⟩,hs⟩
       .have hnb:Ks m.kind=true:=by simp[Ks, *]
        rw[hnb]at hgo hno;refine BH ((Up p true hv m.node x s (by omega) (by omega) hl [.box n5 (BL (AI p))] Z (hs.less (.cons _ (.refl _)))).mono ?_);cases hw:CQ p true 12 m.node x s with
        | none=>
          clear hs;rintro r Z' ⟨rfl,s',hl',hs⟩
          conv=>whnf
          repeat'((first|(refine hB _ _ fun Z hsub=>?_;clear hB B hA A)|clear U K)<;>conv=>whnf)
          exact bX (v:=v) (s:=s') (hno hw) (hs.up (by assumption)) (.cons₂ _ (.cons₂ _ (NQ _)))
        | some s2=>
          clear hs;rintro r Z' ⟨rfl,hs⟩
          conv=>whnf
          repeat'((first|(apply si;intro A B hA hB)|(refine hA _ _ ?_;clear hB B hA A)|(apply U;clear U K)|apply dr|refine⟨rfl,?_⟩|clear U K)<;>conv=>whnf)
          exact⟨hlt,s2,rfl,⟨(KH _ hw).trans hl,MX _ (by omega) hw hge,hgo s2 hw⟩,hs⟩
    .subst hke
     rw[List.drop_length,runM]at hn
     conv=>whnf
     repeat'((first|apply st|(apply sq;intro K U)|(apply si;intro A B hA hB)|(refine hA _ _ ?_;clear hB B hA A)|(apply U;clear U K)|refine⟨rfl,?_⟩|refine⟨kZ,?_⟩|refine ix ?_|refine ld ?_|refine bY fun Z hs=>?_|(refine fc (fun x hx hlt hc=>?_) (fun hk hc=>?_)<;>(try rw[hc])<;>clear hc)|(constructor<;>intro hc<;>(try rw[hc])<;>(replace hc:=bp hc)<;>try(exfalso;omega))|(intro nn hnn;generalize hg:Bu _ nn _=Z;refine fL hg fun hs=>?_;clear hg)|clear U K)<;>conv=>whnf)
     rw[Ku]at hn;refine BH ((Up p false hv p.main 0 s (by omega) (by omega) hl [.box n5 (BL (AI p))] Z hs).mono ?_);cases hw:CQ p false 12 p.main 0 s with
     | none=>
       rw[hw]at hn;clear hs;rintro r Z' ⟨rfl,s',hl',hs⟩
       conv=>whnf
       repeat'((first|(refine hB _ _ _ ?_;clear hB B hA A)|clear U K)<;>conv=>whnf)
       exact bX (v:=v) (s:=s') hn hs (.cons₂ _ (.cons₂ _ (NQ _)))
     | some s2=>
       rw[hw]at hn;have hge2:=MX _ (by omega) hw hge;simp only[oo hge2]at hn;clear hs;rintro r Z' ⟨rfl,hs⟩;have hct:=fun f=>Cl s2 f (-1)
       cases hyes:s2.contains (-1)with
       | true=>
         rw[hyes]at hct hn
         conv=>whnf
         repeat'((first|(apply si;intro A B hA hB)|(refine hA _ _ ?_;clear hB B hA A)|(apply U;clear U K)|refine ld ?_|fail)<;>conv=>whnf)
         refine Pure.Rv (hct false) (.cons (hs.Ha 1 rfl) (.cons (.refl _) .nil)) rfl ?_
         conv=>whnf
         repeat'((first|(refine hB _ _ _ ?_;clear hB B hA A)|(refine Cx (fun hc=>?_) (fun hc=>?_)<;>(replace hc:=bp hc)<;>(try simp(disch:=omega) only[CW,wrap64,Ae]at hc)<;>(try(cases hc;done)))|fail)<;>conv=>whnf)
         all_goals exact bX (v:=v) (s:=s2) hn (by first|exact hs|exact hs.up (by assumption)) (.cons₂ _ (.cons₂ _ (NQ _)))
       | false=>
         rw[hyes]at hct hn
         conv=>whnf
         repeat'((first|(apply si;intro A B hA hB)|(refine hA _ _ ?_;clear hB B hA A)|(apply U;clear U K)|refine ld ?_|fail)<;>conv=>whnf)
         refine Pure.Rv (hct false) (.cons (hs.Ha 1 rfl) (.cons (.refl _) .nil)) rfl ?_
         conv=>whnf
         repeat'((first|(refine hA _ _ ?_;clear hB B hA A)|(refine Cx (fun hc=>?_) (fun hc=>?_)<;>(replace hc:=bp hc)<;>(try simp(disch:=omega) only[CW,wrap64,Ae]at hc)<;>(try(cases hc;done)))|fail)<;>conv=>whnf)
         all_goals exact szT (v:=v) hn hs (.cons₂ _ (.cons₂ _ (NQ _)))
end Go.Gl
