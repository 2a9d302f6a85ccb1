import Derived.Test.YtnidfcmdimehdaaGreatW14
import Derived.Test.YtnidfcmdimehdaaGreatW18
import Derived.Test.YtnidfcmdimehdaaGreatW19
import Derived.Test.YtnidfcmdimehdaaGreatW20
import Derived.Test.YtnidfcmdimehdaaGreatW21
import Derived.Test.YtnidfcmdimehdaaGreatW23
set_option linter.all false
set_option linter.defProp false
set_option maxHeartbeats 8000000
noncomputable section
namespace Go.Gl
open Go.Proofs
attribute [local irreducible] Ao Ai AY AO AJ AX AN AP AI AW AK AL Ak Au Sat AT Ar Aa W
def Ns {α S:Type} (stp:α->S->Bool×S) (D:α->S->Prop):List α->S->Prop
 | [],_=>True
 | y::r,s=>D y s/\((stp y s).1=true->Ns stp D r (stp y s).2)
section
variable {α β S:Type} {stp:α->S->Bool×S} {D:α->S->Prop}
def Ix: ∀(A B:List α) (s:S),Bp stp (A++B) s=if(Bp stp A s).1 then Bp stp B (Bp stp A s).2 else(false,(Bp stp A s).2)
 | [],B,s=>by simp[Bp]
 | y::r,B,s=>by
   rw[List.cons_append,Bp,Bp];cases(stp y s).1
   .rfl
   .simpa using Ix r B (stp y s).2
def Lx (l:α) (s:S):Bp stp [l] s=stp l s:=by
 rw[Bp,Bp];rcases stp l s with⟨b,s'⟩;cases b<;>rfl
def LD: ∀ {A B:List α} {s:S},Ns stp D (A++B) s->Ns stp D A s/\((Bp stp A s).1=true->Ns stp D B (Bp stp A s).2)
 | [],B,s,h=>⟨trivial,fun _=>h⟩
 | y ::r,B,s,h=>by
   obtain⟨h1,h2⟩:=h;rw[Ns,Bp];cases hy:(stp y s).1
   .exact⟨⟨h1,fun h=>(by cases h)⟩,fun h=>(by simp at h)⟩
   .obtain⟨h3,h4⟩:=LD (h2 hy)
    exact⟨⟨h1,fun _=>h3⟩,by simpa using h4⟩
def OM {A:List α}: ∀ {B:List α} {s:S},(∀y∈B,y∈A)->Ns stp D B s->Ns stp (fun y s=>y∈A/\D y s) B s
 | [],_,_,_=>trivial
 | y::r,_,hm,h=>⟨⟨hm y (.head _),h.1⟩,fun hy=>OM (fun z hz=>hm z (.tail _ hz)) (h.2 hy)⟩
def ZS {g:β->α}: ∀ {B:List β} {s:S},Ns stp D (B.map g) s->Ns (fun b s=>stp (g b) s) (fun b s=>D (g b) s) B s
 | [],_,_=>trivial
 | y::r,_,h=>⟨h.1,fun hy=>ZS (h.2 hy)⟩
end
section
variable {S:Type} {stp:List Fact->S->Bool×S} {D:List Fact->S->Prop}
def Sa (B:List (List Fact)): ∀(A:List (List Fact)) (s:S),Bp stp (FB A B) s=Bp (fun x s=>Bp (fun y s=>stp (Cb x y) s) B s) A s
 | [],s=>rfl
 | x::r,s=>by
   have ih:=Sa B r;rw[FB,List.flatMap_cons,Ix,Ly,Bp];simp only[FB]at ih;rw[ih]
def Vf (B:List (List Fact)): ∀ {A:List (List Fact)} {s:S},Ns stp D (FB A B) s->Ns (fun x s=>Bp (fun y s=>stp (Cb x y) s) B s) (fun x s=>Ns (fun y s=>stp (Cb x y) s) (fun y s=>D (Cb x y) s) B s) A s
 | [],_,_=>trivial
 | x::r,s,h=>by
   rw[FB,List.flatMap_cons]at h;obtain⟨h1,h2⟩:=LD h;refine⟨ZS h1,fun hy=>?_⟩;rw[Ly]at h2;exact Vf B (h2 hy)
end
abbrev Kx (l:List Fact) (b:Bool):V:= .l (DU l) b
def RX {S:Type} (x:V) (H:S->List At) (stp:List Fact->S->Bool×S) (D:List Fact->S->Prop):Prop:= ∀b,Cr zP x (fun l=>Kx l b) H stp D
abbrev Up (n:Nat):V:= .f (.func 121) [] [.p n 0]
def R1 {f:Fact} (hl:Cm f=true) (c:Bool):IQ (if c then EL f else f)=xF f++[.b c]:=by
 have:=E3 hl;cases c with
 | true=>rfl
 | false=>
   have h5: ¬f.op=5:=by omega
   simp only[IQ,Jf,if_false,Ag,if_neg h5]
def WalkC (f:Fact):Prop:= ∀(c:Bool) (S:Type) (fn:Fn) (fi ca:List V) (H:S->List At) (stp:List Fact->S->Bool×S) (D:List Fact->S->Prop) (nW:Nat) (s:S),
 RX (.f fn fi ca) (fun s=> .box nW [Up nW]::H s) stp D->Ns stp D (BO f c) s-> ∀Z,Sat Z (.box nW [Up nW]::H s)->
  Ak zP (Up nW) [.a (xF f),.b c,.f fn fi ca] Z fun r Z'=>r= .ret (.b (Bp stp (BO f c) s).1)/\Sat Z' (.box nW [Up nW]::H (Bp stp (BO f c) s).2)
def jj {w:AG} {S:Type} {fn:Fn} {fi ca:List V} {H:S->List At} {stp:List Fact->S->Bool×S} {D:List Fact->S->Prop} (hT:RX (.f fn fi ca) H stp D) {k0 k1:Fact} {c:Bool} (hn0:BM w k0=true) (hn1:BM w k1=true) (hv0:lv k0<=100) (hv1:lv k1<=100) {a:List Fact} (ha:a∈BO k0 c) (fa:Bool) :
    RX (.f (.func 124) [] [.rp [.f fn fi ca],.rp [Kx a fa]]) H (fun y s=>stp (Cb a y) s) (fun y s=>y∈BO k1 c/\D (Cb a y) s):=by
 rintro b y s ⟨hy,hd⟩ Z hs;refine Ay ?_;show Ao zP 124 ([]++[Kx y b]++[.rp [.f fn fi ca],.rp [Kx a fa]]) Z _;have hla:=(Kl k0 (Bs _ hn0) c).2 a ha;have hly:=(Kl k1 (Bs _ hn1) c).2 y hy;have hM:=Mx;refine uH kZ ?_
 conv=>whnf
 repeat'((first|clear U K|apply st|(apply zk;intro K U)|refine rk ?_ ?_|exact fun s e=>by cases e;rfl|refine Pure.use (bo (w:=w) a y fa b (Da k0 hn0 c a ha) (Da k1 hn1 c y hy) (by omega)) ?_|fail)<;>conv=>whnf)
 refine(hT false).use hd hs ?_;clear hs;intro Z hs;refine zz ?_;(repeat clear U K);repeat intro K U
 exact AH ⟨rfl,hs⟩
def jk {w:AG} {S:Type} {fn:Fn} {fi ca:List V} {H:S->List At} {stp:List Fact->S->Bool×S} {D:List Fact->S->Prop} {nW:Nat} (hT:RX (.f fn fi ca) (fun s=> .box nW [Up nW]::H s) stp D) {f k0 k1:Fact} (hk:f.kids= [k0,k1]) {c:Bool} (hn0:BM w k0=true) (hn1:BM w k1=true) (hv0:lv k0<=100) (hv1:lv k1<=100) (hw1:WalkC k1) :
    RX (.f (.func 123) [] [.p nW 0,.rp (xF f),.rp [.b c],.rp [.f fn fi ca]]) (fun s=> .box nW [Up nW]::H s) (fun a s=>Bp (fun y s=>stp (Cb a y) s) (BO k1 c) s) (fun a s=>a∈BO k0 c/\Ns (fun y s=>stp (Cb a y) s) (fun y s=>D (Cb a y) s) (BO k1 c) s):=by
 rintro fa a s ⟨ha,hd⟩ Z hs;refine Ay ?_;show Ao zP 123 ([]++[Kx a fa]++[.p nW 0,.rp (xF f),.rp [.b c],.rp [.f fn fi ca]]) Z _;have h1:f.kids[(1:Int).toNat]? =some k1:=by rw[hk];rfl
 refine uI kZ ?_;refine zz ?_;(repeat clear U K);repeat intro K U
 refine(hw1 c S _ _ _ H _ _ nW s (jj hT hn0 hn1 hv0 hv1 ha fa) (OM (fun y hy=>hy) hd) Z hs).mono ?_;clear hs;rintro r Z ⟨rfl,hs⟩;refine zz ?_;(repeat clear U K);repeat intro K U
 exact AH ⟨rfl,hs⟩
def lE {w : AG} (f:Fact):BM w f=true->lv f<=100->WalkC f:=by
 induction f using Fact.ind with
 | h f ih=>
   intro hn hv c S fn fi ca H stp D nW s hT hd Z hs;have har:=Bs _ hn
   have hnk: ∀k∈f.kids,BM w k=true:=by
    rw[CO,A4,DR]at hn;exact hn.2
   have hop:f.op=1\/f.op=5\/Cm f=true\/f.op=6\/f.op=7:=by
    rw[CO,A4]at hn;have h1:=hn.1;simp only[Dr,aH,A4]at h1;rw[Li];simp only[A4,CT];have h2:=h1.1;split at h2
    .omega
    .split at h2
     .omega
     .simp only[Ek,Cy]at h2
      omega
   refine Ay ?_;show Ao zP 121 ([]++[.a (xF f),.b c,.f fn fi ca]++[.p nW 0]) Z _;refine uK kZ ?_;rw[Eu,Gh]at hd;have hcs:=Eu f c;rw[Gh]at hcs;rcases hop with h1|h5|hl|h67
   .rw[if_pos h1]at hd hcs
    rw[hcs];cases c
    .rw[if_neg (by decide)]at hd ⊢
     rw[Lx]
     conv=>whnf
     repeat'((first|clear U K|apply st|(apply zk;intro K U)|refine zY ?_|(refine zb (fun hc=>?_) (fun hc=>?_)<;>try exact⟨⟩)|fail)<;>conv=>whnf)
     refine(hT true).use (y:=[]) hd.1 hs ?_;clear hs;intro Z hs;refine zz ?_;(repeat clear U K);repeat intro K U
     exact AH ⟨rfl,hs⟩
    .rw[if_pos rfl]at hd ⊢
     conv=>whnf
     repeat'((first|clear U K|apply st|(apply zk;intro K U)|refine zY ?_|(refine zb (fun hc=>?_) (fun hc=>?_)<;>try exact⟨⟩)|fail)<;>conv=>whnf)
     exact AH ⟨rfl,hs⟩
   .obtain⟨k,hk,-⟩:=E7 har h5
    have hkm:k∈f.kids:=by rw[hk];exact .head _
    have hvk:lv k<=100:=by
     rw[Jq,aJ,if_pos h5,hk]at hv;exact hv
    rw[if_neg (by omega),if_pos h5,hk]at hd hcs;have hcs2:BO f c=BO k (!c):=hcs;have h0:f.kids[(0:Int).toNat]? =some k:=by rw[hk];rfl
    rw[hcs2]
    conv=>whnf
    repeat'((first|clear U K|apply st|(apply zk;intro K U)|refine zY ?_|(refine zb (fun hc=>?_) (fun hc=>?_)<;>try exact⟨⟩)|fail)<;>conv=>whnf)
    refine(ih k hkm (hnk k hkm) hvk (!c) S _ _ _ H stp D nW s hT hd Z hs).mono ?_;clear hs;rintro r Z ⟨rfl,hs⟩;refine zz ?_;(repeat clear U K);repeat intro K U
    exact AH ⟨rfl,hs⟩
   .have hlo:=E3 hl
    have hlB:=Tl f;rw[hl]at hlB;rw[if_neg (by omega),if_neg (by omega),if_neg (by omega)]at hd hcs;have hcs2:BO f c= [[if c then EL f else f]]:=by rw[hcs];cases c<;>rfl
    rw[<-hcs,hcs2]at hd;rw[hcs2,Lx]
    have e:Kx [if c then EL f else f] true= .l [xF f++[.b c]] true:=by
     show V.l [IQ (if c then EL f else f)] true=_;rw[R1 hl]
    have hst:=(hT true) [if c then EL f else f] s hd.1;simp only[e]at hst
    conv=>whnf
    repeat'((first|clear U K|apply st|(apply zk;intro K U)|refine zY ?_|refine hlB.use ?_|(refine zb (fun hc=>?_) (fun hc=>?_)<;>try exact⟨⟩)|fail)<;>conv=>whnf)
    refine(hst Z hs).mono ?_;clear hs;rintro r Z ⟨rfl,hs⟩;refine zz ?_;(repeat clear U K);repeat intro K U
    exact AH ⟨rfl,hs⟩
   .obtain⟨k0,k1,hk,-,-⟩:=E6 har h67
    have hkm0:k0∈f.kids:=by rw[hk];exact .head _
    have hkm1:k1∈f.kids:=by rw[hk];exact .tail _ (.head _)
    have hlf:Cm f=false:=by rw[Li,decide_eq_false (show¬f.op<=4 by omega),Bool.and_false]
    have hlB:=Tl f;rw[hlf]at hlB
    have hvk:lv k0+lv k1<=100:=by
     rw[Jq,aJ,if_neg (by omega),if_pos h67,hk]at hv;exact hv
    rw[if_neg (by omega),if_neg (by omega),if_pos h67,hk]at hd hcs;have h0:f.kids[(0:Int).toNat]? =some k0:=by rw[hk];rfl
    have h1:f.kids[(1:Int).toNat]? =some k1:=by rw[hk];rfl
    have i0:=ih k0 hkm0 (hnk k0 hkm0) (by omega);have i1:=ih k1 hkm1 (hnk k1 hkm1) (by omega);by_cases hap:(c != (f.op==7))=true
    .rw [if_pos hap]at hd hcs
     have hcs2:BO f c=BO k0 c++BO k1 c:=hcs;have hd2:Ns stp D (BO k0 c++BO k1 c) s:=hd;obtain⟨hd3,hd4⟩:=LD hd2;rw[hcs2,Ix];clear hcs hcs2 hd hd2;rcases h67 with h6|h7
     .have h6b:(f.op==6)=true:=by rw[h6];rfl
      have hct:c=true:=by rw[h6]at hap;cases c<;>simp_all
      subst hct
      conv=>whnf
      repeat'((first|clear U K|apply st|(apply zk;intro K U)|refine zY ?_|refine hlB.use ?_|(rw[h6b])|(refine zb (fun hc=>?_) (fun hc=>?_)<;>try exact⟨⟩)|fail)<;>conv=>whnf)
      refine(i0 true S _ _ _ H stp D nW s hT hd3 Z hs).mono ?_;clear hs;rintro r Z ⟨rfl,hs⟩;generalize Bp stp (BO k0 true) s=x at *;obtain⟨b1,s1⟩:=x;cases b1
      .refine zz ?_;(repeat clear U K);repeat intro K U
       exact AH ⟨rfl,hs⟩
      .refine zz ?_;(repeat clear U K);repeat intro K U
       refine(i1 true S _ _ _ H stp D nW s1 hT (hd4 rfl) Z hs).mono ?_;clear hs;rintro r Z ⟨rfl,hs⟩;refine zz ?_;(repeat clear U K);repeat intro K U
       exact AH ⟨rfl,hs⟩
     .have h6b:(f.op==6)=false:=by rw[h7];rfl
      have hct:c=false:=by rw[h7]at hap;cases c<;>simp_all
      subst hct
      conv=>whnf
      repeat'((first|clear U K|apply st|(apply zk;intro K U)|refine zY ?_|refine hlB.use ?_|(rw[h6b])|(refine zb (fun hc=>?_) (fun hc=>?_)<;>try exact⟨⟩)|fail)<;>conv=>whnf)
      refine(i0 false S _ _ _ H stp D nW s hT hd3 Z hs).mono ?_;clear hs;rintro r Z ⟨rfl,hs⟩;generalize Bp stp (BO k0 false) s=x at *;obtain⟨b1,s1⟩:=x;cases b1
      .refine zz ?_;(repeat clear U K);repeat intro K U
       exact AH ⟨rfl,hs⟩
      .refine zz ?_;(repeat clear U K);repeat intro K U
       refine(i1 false S _ _ _ H stp D nW s1 hT (hd4 rfl) Z hs).mono ?_;clear hs;rintro r Z ⟨rfl,hs⟩;refine zz ?_;(repeat clear U K);repeat intro K U
       exact AH ⟨rfl,hs⟩
    .rw[if_neg hap]at hd hcs
     have hcs2:BO f c=FB (BO k0 c) (BO k1 c):=hcs;have hd2:Ns stp D (FB (BO k0 c) (BO k1 c)) s:=hd;have hd3:=Vf _ hd2;have hT2:=jk hT hk (c:=c) (hnk k0 hkm0) (hnk k1 hkm1) (by omega) (by omega) i1;rw[hcs2,Sa];clear hcs hcs2 hd hd2;rcases h67 with h6|h7
     .have h6b:(f.op==6)=true:=by rw[h6];rfl
      have hct:c=false:=by rw[h6]at hap;cases c<;>simp_all
      subst hct
      conv=>whnf
      repeat'((first|clear U K|apply st|(apply zk;intro K U)|refine zY ?_|refine hlB.use ?_|(rw[h6b])|(refine zb (fun hc=>?_) (fun hc=>?_)<;>try exact⟨⟩)|fail)<;>conv=>whnf)
      refine(i0 false S _ _ _ H _ _ nW s hT2 (OM (fun y hy=>hy) hd3) Z hs).mono ?_;clear hs;rintro r Z ⟨rfl,hs⟩;refine zz ?_;(repeat clear U K);repeat intro K U
      exact AH ⟨rfl,hs⟩
     .have h6b:(f.op==6)=false:=by rw[h7];rfl
      have hct:c=true:=by rw[h7]at hap;cases c<;>simp_all
      subst hct
      conv=>whnf
      repeat'((first|clear U K|apply st|(apply zk;intro K U)|refine zY ?_|refine hlB.use ?_|(rw[h6b])|(refine zb (fun hc=>?_) (fun hc=>?_)<;>try exact⟨⟩)|fail)<;>conv=>whnf)
      refine(i0 true S _ _ _ H _ _ nW s hT2 (OM (fun y hy=>hy) hd3) Z hs).mono ?_;clear hs;rintro r Z ⟨rfl,hs⟩;refine zz ?_;(repeat clear U K);repeat intro K U
      exact AH ⟨rfl,hs⟩
def ru {w:AG} (f:Fact) (hn:BM w f=true) (hv:lv f<=100) (c:Bool) {S:Type} {fn:Fn} {fi ca:List V} {H:S->List At} {stp:List Fact->S->Bool×S} {D:List Fact->S->Prop} {s:S} (hT: ∀nW,RX (.f fn fi ca) (fun s=> .box nW [Up nW]::H s) stp D) (hd:Ns stp D (BO f c) s) (Z:AE) (hs:Sat Z (H s)) :
    Ao zP 120 [.f fn fi ca,.rp (xF f),.rp [.b c]] Z fun r Z'=>r= .ret (.t [])/\Sat Z' (H (Bp stp (BO f c) s).2):=by
 refine uM kZ ?_
 conv=>whnf
 repeat'((first|clear U K|apply st|(apply zk;intro K U)|refine zY ?_|refine zs fun Z hs=>?_|refine zo fun nn hnn Z hs=>?_|fail)<;>conv=>whnf)
 refine(lE f hn hv c S fn fi ca H stp D nn s (hT nn) hd Z hs).mono ?_;clear hs;rintro r Z ⟨rfl,hs⟩
 conv=>whnf
 repeat'((first|clear U K|apply st|fail)<;>conv=>whnf)
 exact AH ⟨rfl,hs.less (NJ _ _)⟩
def jm (f:Fact) (c:Bool):Pure zP 79 [.a (xF f),.b c] (.f (.func 120) [] [.rp (xF f),.rp [.b c]]):=by
 refine xH kZ ?_;have hs:=Sn;exact zW
abbrev Oh (w:AG) (l:List Fact) (s:Bool):Bool×Bool:=if Ji w l then(false,true)else(true,s)
def WI {w:AG}: ∀(cs:List (List Fact)),Bp (Oh w) cs false=(!cs.any (Ji w),cs.any (Ji w))
 | []=>rfl
 | l::r=>by
   rw[Bp,Qj];simp only[Oh];cases h:Ji w l
   .simpa using WI r
   .rfl
def ZT {w:AG} {G:List Fact->Prop}: ∀ {cs:List (List Fact)},(∀l∈cs,G l)->Ns (Oh w) (fun l s=>s=false/\G l) cs false
 | [],_=>trivial
 | l ::r,h=>⟨⟨rfl,h l (.head _)⟩,fun hy=>by
     cases ht:Ji w l
     .have e:(Oh w l false).2=false:=by simp[Oh,ht]
      rw[e];exact ZT fun x hx=>h x (.tail _ hx)
     .simp[Oh,ht]at hy⟩
abbrev uf (w:AG) (L:Nat) (E:Env) (ok:FuncId->Array Tmp->Code->Code->Nat->Prop) (nF:Nat):Prop:=
 Mn zP L E ok (fun(x:List Fact×Bool)=>[Kx x.1 x.2]) (fun s:Bool=>[.box nF [.b s]]) (fun _=>True) (fun x s=>if Ji w x.1 then .stop (.exit 0) true else .go s) (fun x s=>s=false/\(∀y∈x.1,C6 w y)/\x.1.length<900)
def m4 {w:AG} (f:Fact) (hn:BM w f=true) (hv:lv f<=100) {L:Nat} {E:Env} {ok:FuncId->Array Tmp->Code->Code->Nat->Prop} {nF:Nat} (hY:uf w L E ok nF) (Z:AE) (hs:Sat Z [.obj L (.loop .ready E ok),.box nF [.b false]]) :
    Ao zP 120 [.f (.yield L) [] [],.rp (xF f),.rp [.b false]] Z fun r Z'=>r= .ret (.t [])/\Sat Z' [.obj L (.loop (if XG w f then .exit 0 else .ready) E ok),.box nF [.b (XG w f)]]:=by
 have hg:=ru f hn hv false (fn:= .yield L) (fi:=[]) (ca:=[]) (H:=fun s:Bool=>[.obj L (.loop (if s then .exit 0 else .ready) E ok),.box nF [.b s]]) (stp:=Oh w) (D:=fun l s=>s=false/\(∀y∈l,C6 w y)/\l.length<900) (s:=false) (by
  rintro nW b l s ⟨rfl,hl,hlen⟩ Z hs;refine hY.use (y:=(l,b)) (s:=false) ⟨rfl,hl,hlen⟩ (rest:=[.box nW [Up nW]]) (hs.perm (Ia _ _ _ _)) ?_;intro r Z' hq;cases ht:Ji w l
  .simp only[ht,Jf,if_false]at hq
   obtain⟨rfl,hs'⟩:=hq;have e:Oh w l false=(true,false):=by simp[Oh,ht]
   rw[e];exact⟨rfl,hs'.perm (Ia _ _ _ _).symm⟩
  .simp only[ht,if_true]at hq
   obtain⟨rfl,hs'⟩:=hq;have e:Oh w l false=(false,true):=by simp[Oh,ht]
   rw[e]
   exact⟨rfl,hs'.perm (Ia _ _ _ _).symm⟩) (ZT fun l hl=>⟨Da f hn false l hl,by have:=(Kl f (Bs _ hn) false).2 l hl;omega⟩) Z hs
 rw[WI]at hg;exact hg
def uZ (w:AG) (hw:Cn w) (f:Fact) (hn:BM w f=true) (hv:lv f<=100):Pure zP 78 [.rp (wC w (B1 w.parents)),.a (xF f)] (.b (XG w f)):=by
 refine Pure.of ?_;refine xI kZ ?_;have hs:=Sn
 conv=>whnf
 repeat'((first|clear U K|apply st|(apply zk;intro K U)|refine zY ?_|refine zs fun Z hs=>?_|refine Pure.use (jm _ _) ?_|refine zo fun nn hnn Z hs=>?_|fail)<;>conv=>whnf)
 rename_i _ nF hnF _ _ _ _;refine Ao.mono (m4 (w:=w) f hn hv (L:=nn) (nF:=nF) ?_ Z hs) ?_
 .refine Na (fun y=>rfl) ?_
  clear hs hnn hnF;rintro⟨l,b⟩ s ⟨rfl,hl,hlen⟩ rest Z hs;dsimp only at hl hlen;have htg:=WV w hw l b hl hlen;dsimp only;cases ht:Ji w l<;>rw[ht]at htg
  .conv=>whnf
   repeat'((first|clear U K|apply st|(apply zk;intro K U)|refine htg.use ?_|fail)<;>conv=>whnf)
   intro hn;exact Vb (H:=fun s:Bool=>[.box nF [.b s]]) (J:=fun _=>True) (s:=false) rfl hs hn
  .conv=>whnf
   repeat'((first|clear U K|apply st|(apply zk;intro K U)|refine zs fun Z hs=>?_|refine htg.use ?_|fail)<;>conv=>whnf)
   intro hn;exact X0 (H:=fun s:Bool=>[.box nF [.b s]]) (J:=fun _=>True) (s:=true) (st:= .exit 0) rfl hs hn
 .clear hs hnn hnF
  cases hp:XG w f
  .rintro r Z ⟨rfl,hs⟩
   refine HD hs fun Z hs=>?_
   refine zz ?_;(repeat clear U K);repeat intro K U
   exact AH (by rw[hp])
  .rintro r Z ⟨rfl,hs⟩
   refine QA hs fun Z hs=>?_
   refine zz ?_;(repeat clear U K);repeat intro K U
   exact AH (by rw[hp])
def qy (f:Fact):Pure zP 205 [.a (xF f)] (.a (xF (EL f))):=by
 refine tS kZ ?_;have hs:=Sn
 conv=>whnf
 repeat'((first|clear U K|apply st|(apply zk;intro K U)|refine zX ?_|refine zr fun Z hs=>?_|refine zp fun nn hnn Z hs=>?_|fail)<;>conv=>whnf)
 refine Br (.a (.cons (.refl _) (.cons (.refl _) (.cons Tv (.cons (.refl _) (.cons (.refl _) (.cons ?_ .nil)))))));refine .l (fun h=>by cases h) ?_;simp only[EL,Fact.kids,List.map,Bq];exact Jd _
def ud (f g:Fact):Pure zP 255 [.a (xF f),.a (xF g)] (.a (xF (Q4 f g))):=by
 refine su kZ ?_;have hs:=Sn
 conv=>whnf
 repeat'((first|clear U K|apply st|(apply zk;intro K U)|refine zX ?_|refine zr fun Z hs=>?_|refine zp fun nn hnn Z hs=>?_|fail)<;>conv=>whnf)
 refine Br (.a (.cons (.refl _) (.cons (.refl _) (.cons Tv (.cons (.refl _) (.cons (.refl _) (.cons ?_ .nil)))))));refine .l (fun h=>by cases h) ?_;simp only[Q4,Fact.kids,List.map,Bq];exact Jd _
def YH (w:AG) (hw:Cn w) (a b:Fact) (ha:BM w a=true) (hb:BM w b=true) (hl:lv a+lv b<=100):Pure zP 209 [.rp (wC w (B1 w.parents)),.a (xF a),.a (xF b)] (.b (Ud w a b)):=by
 have hcan:=uZ w hw (Q4 a (EL b)) (Vh ha hb) (by rw[rO];exact hl);refine tR kZ ?_;have hs:=Sn
 conv=>whnf
 repeat'((first|clear U K|apply st|(apply zk;intro K U)|refine zY ?_|refine rk ?_ ?_|exact fun s e=>by cases e;rfl|refine Pure.use (qy _) ?_|refine Pure.use (ud _ _) ?_|refine hcan.use ?_|fail)<;>conv=>whnf)
 all_goals exact AS rfl
def c8 (w:AG) (hw:Cn w) (a b:Fact) (ha:EC w a=true) (hb:EC w b=true) (hna:BM w a=true) (hnb:BM w b=true) (hl:lv a+lv b<=100):Pure zP 315 [.a (CR w),.a (xF a),.a (xF b)] (.t [.b (Ud w a b),eI 0]):=by
 have hrd: ∀f,Pure zP 77 [.a (CR w),.l [xF a,xF b] f] (.t [.rp (wC w (B1 w.parents)),.b true]):=fun f=>by
  have:=ZH w hw [a,b] f (by simp);rw[show([a,b].all (K6 w))=true by simp[Zj,ha,hb]]at this;simpa[Bq]using this
 have hip:=YH w hw a b hna hnb hl;refine sM kZ ?_;have hs:=Sn
 conv=>whnf
 repeat'((first|clear U K|apply st|(apply zk;intro K U)|refine zY ?_|refine Pure.use (hrd _) ?_|refine hip.use ?_|fail)<;>conv=>whnf)
 all_goals exact AS rfl
def ZE (a:Int) (n:Nat) (h1:1<=n) (hn:n<=120):BK zP 53 [.l [[eI a]] true,eI n] [] fun r post=> ∃v,r= .ret v/\post= [.own v 1 (iL (List.replicate n a))]/\(CQ v).isSome=true:=by
 intro Z hs;have hM:=Mx;have hw1:IntKind.u64.wrap 1=1:=rfl;have hwn:IntKind.u64.wrap (n:Int)=n:=HC (by omega);have hwi:IntKind.i64.wrap (n:Int)=n:=wrap64 (by omega) (by omega);refine xO kZ ?_
 conv=>whnf
 repeat'((first|clear U K|apply st|(apply zk;intro K U)|refine zY ?_|(refine zb (fun hc=>?_) (fun hc=>?_)<;>try exact⟨⟩)|fail)<;>conv=>whnf)
 rw[show IntKind.u64.wrap (([[eI a]]:List (List V)).length:Nat)=1 from rfl,hwn];refine(rN n hn).use ?_
 conv=>whnf
 repeat'((first|clear U K|apply st|(apply zk;intro K U)|refine zY ?_|(refine zb (fun hc=>?_) (fun hc=>?_)<;>try exact⟨⟩)|fail)<;>conv=>whnf)
 all_goals try(exfalso;omega)
 rw[hwi];refine vX hs (IN n) (by omega) fun v Z hs hv=>?_
 obtain⟨id,rfl⟩:=hv
 conv=>whnf
 repeat'((first|clear U K|apply st|(apply zk;intro K U)|fail)<;>conv=>whnf)
 refine wm hs 0 (ys:=[[eI a]]) rfl (by simp;omega) (fun e he=>by simp at he;subst he;rfl) (fun e he v hv=>by simp at he;subst he;simp at hv;subst hv;rfl) fun Z hs=>?_
 have hst:([[eI a]]:List (List V))++(List.replicate n [V.i .i64 0]).drop ([[eI a]]:List (List V)).length=List.replicate 1 [eI a]++List.replicate (n - 1) [eI 0]:=by simp[List.drop_replicate]
 rw[hst]at hs;refine zz ?_;(repeat clear U K);repeat intro K U
 refine Ft (fun m:Nat=>n - m) (fun m=>[(8,eI m)]) (fun m=>[.own (.sl id n n) 1 (List.replicate m [eI a]++List.replicate (n - m) [eI 0])]) (fun m=>1<=m/\m<=n) 1 rfl ⟨by omega,h1⟩ hs ?_;clear hs hst;rintro m Z ⟨hm1,hmn⟩ hs
 have hgl: ∀e∈(List.replicate m [eI a]++List.replicate (n - m) [eI 0]:List (List V)),e.length=1/\ ∀v∈e,B6 v=true:=fun e he=>by
  rcases Dm.1 he with he|he
  .rw[(List.mem_replicate.1 he).2];exact⟨rfl,fun v hv=>by simp at hv;subst hv;rfl⟩
  .rw[(List.mem_replicate.1 he).2];exact⟨rfl,fun v hv=>by simp at hv;subst hv;rfl⟩
 have hlen:(List.replicate m [eI a]++List.replicate (n - m) [eI 0]:List (List V)).length=n:=by simp;omega
 rcases Nat.lt_or_ge m n with hlt|hge
 .have hcpy:(List.replicate m [eI a]++List.replicate (n - m) [eI 0]:List (List V)).take m++(((List.replicate m [eI a]++List.replicate (n - m) [eI 0]:List (List V)).take m).take (min m (n - m))++(List.replicate m [eI a]++List.replicate (n - m) [eI 0]:List (List V)).drop (m+min m (n - m)))=List.replicate (m+min m (n - m)) [eI a]++List.replicate (n - (m+min m (n - m))) [eI 0]:=by
   have e1:(List.replicate m [eI a]++List.replicate (n - m) [eI 0]:List (List V)).take m=List.replicate m [eI a]:=by
    rw[List.take_append_of_le_length (by simp)];simp
   rw[e1,List.take_replicate,List.drop_append,List.drop_replicate,List.drop_replicate,List.length_replicate,<-Od,List.replicate_append_replicate];have e2:m - (m+min m (n - m))=0:=by omega
   have e3:n - m - (m+min m (n - m) - m)=n - (m+min m (n - m)):=by omega
   rw[e2,e3,List.replicate_zero,List.nil_append];congr 2;omega
  conv=>whnf
  repeat'((first|clear U K|apply st|(apply zk;intro K U)|refine zY ?_|(refine zb (fun hc=>?_) (fun hc=>?_)<;>try exact⟨⟩)|fail)<;>conv=>whnf)
  all_goals try(exfalso;omega)
  refine yS ?_;refine zz ?_;(repeat clear U K);repeat intro K U
  refine yT ?_;refine zz ?_;(repeat clear U K);repeat intro K U
  rw[Hc,show((n:Int) - m).toNat=n - m by omega];refine wk hs 0 rfl (by rw[hlen];omega) (by rw[hlen];omega) (fun e he=>(hgl e he).1) (fun e he=>(hgl e he).2) fun Z hs=>?_
  rw[hcpy]at hs;refine zz ?_;(repeat clear U K);repeat intro K U
  refine⟨m+min m (n - m),by omega,?_,⟨by omega,by omega⟩,hs⟩;rw[wrap64 (by omega) (by omega)];rfl
 .have hme:m=n:=by omega
  subst hme
  conv=>whnf
  repeat'((first|clear U K|apply st|(apply zk;intro K U)|refine zY ?_|(refine zb (fun hc=>?_) (fun hc=>?_)<;>try exact⟨⟩)|fail)<;>conv=>whnf)
  all_goals try(exfalso;omega)
  refine A0 hs (List.Sublist.refl _) (.refl _) fun Z' hs'=>⟨_,⟨_,rfl,?_,rfl⟩,hs'⟩
  simp[iL]
def bL (n:Nat) (h1:1<=n) (hn:n<=120):BK zP 53 [.l [[eI (-1)]] true,eI n] [] fun r post=> ∃v,r= .ret v/\post= [.own v 1 (iL (List.replicate n (-1)))]/\(CQ v).isSome=true:=ZE (-1) n h1 hn
def Lo {p:Prog} (h:CH p=true):Cn (AM p)/\CU p.AQ<=40/\p.AQ.length<=10:=by
 have h1:=h;rw[QY]at h1;simp only[A4,CT]at h1;have h2:=h;simp only[CH,A4,CT]at h2;have hm:=(HT _ _ h2.2.1).1;refine⟨⟨D8 h1.2.2.2.1,?_,fun o ho=>?_⟩,by omega,h1.1⟩
 .rw[AM,DF];omega
 .have:=Ff ho
  simp only[AM,A6,C4];omega
def kE (s:List Int):Prop:= ∀x∈s,(-1:Int)<=x
def m5 {s:List Int} (h:kE s) (i:Nat) {x:Int} (hx:0<=x):kE (s.set i x):=fun y hy=>by
 rcases List.mem_or_eq_of_mem_set hy with hy|rfl
 .exact h y hy
 .omega
def Vo {f:Int->Int->List Int->Option (List Int)} (hf: ∀ {a b s s'},0<=b->f a b s=some s'->kE s->kE s') {op size:Int} (h0:0<=size): ∀(i:Nat) (l:List Int) {s s':List Int},Js f op size i l s=some s'->kE s->kE s'
 | _,[],s,s',h,hs=>by cases h;exact hs
 | i,k::r,s,s',h,hs=>by
   simp only[Js]at h;split at h
   .cases h
   .rename_i s1 h1
    refine Vo hf h0 (i+1) r h (hf ?_ h1 hs);split<;>omega
def LV {p:Prog} {next:Bool}: ∀(d:Nat) {n size:Int} {s s':List Int},0<=size->C7 p next d n size s=some s'->kE s->kE s'
 | 0,_,_,_,_,_,h,_=>by cases h
 | d + 1,n,size,s,s',h0,h,hs=>by
   simp only[C7]at h;split at h
   .cases h
   .split at h
    .cases h
    .split at h
     .exact Vo (fun hb h hs=>LV d hb h hs) h0 0 _ h (m5 hs _ h0)
     .cases h
def m6 {s:List Int} (h:kE s):(s.all fun n=>decide (0<=n))= !s.contains (-1):=by
 rw[Gr];simp only[DR,CT,Bool.not_eq_true',<-Bool.not_eq_true,List.contains_iff_mem];constructor
 .intro h1 h2
  have:=h1 _ h2;omega
 .intro h1 x hx
  have:=h x hx;rcases Int.lt_or_le x 0 with hlt|hle
  .exact absurd ((show x= -1 by omega) ▸ hx) h1
  .exact hle
def um (p:Prog) (nO:Nat) (r:R) (Z:AE):Prop:=
 match BZ p with
 | some s=>r= .ret (.t [])/\ ∃v,Sat Z [.box nO [v],.own v 1 (iL s)]
 | none=>r= .BV DX/\ ∃v s,Sat Z [.box nO [v],.own v 1 (iL s)]
def aF {p:Prog} {nO:Nat} {Z:AE} {v:V} {s:List Int} {l:List At} (h:BZ p=none) (hs:Sat Z l) (hsub: [At.box nO [v],.own v 1 (iL s)].Sublist l):AY Z DX (um p nO):=C2 (by
 rw[um,h]
 exact⟨rfl,v,s,hs.less hsub⟩)
def szT {p:Prog} {nO:Nat} {Z:AE} {v:V} {s:List Int} {l:List At} (h:BZ p=some s) (hs:Sat Z l) (hsub: [At.box nO [v],.own v 1 (iL s)].Sublist l):Ai Z (.t []) (um p nO):=AH (by
 rw[um,h]
 exact⟨rfl,v,hs.less hsub⟩)
def TD {p:Prog} (h:Eh p=false):BZ p=none:=by unfold BZ;rw[h];rfl
def oA {w:AG} {f:Fact} (h:EC w f=true):VF f=true:=YA (w:=w) f (by simp only[EC,A4]at h;exact h.2.2)
def YR {w:AG} (hw:Cn w) (f:Fact):Pure zP 116 [.a (CR w),.a (xF f)] (eI (if EC w f then 0 else 2)):=by
 rw[<-Zj];exact c9 w hw f
def bU {α:Type} (a b c:α): [a,b,c].Perm [c,b,a]:=by simpa using(List.reverse_perm [a,b,c]).symm
def iJ (p : Prog) (nO:Nat) (Z:AE) (hs:Sat Z [.box nO [.l [] true]]):Ao zP 243 [.rp (Ba p),.p nO 0] Z (um p nO):=by
 refine Ao.fit (by kernel_rfl) fun hf=>?_
 have hM:=Mx
 have hfp:E9 (.a (Ba p)):=by
  have:=hf.1;simp only[Tx]at this;simpa only[KF]using this
 have⟨p1,p2,p3,p4⟩:=O6 hfp;refine tA kZ ?_;have hcl:=Ye p;replace hs:Sat Z [.box nO [.l [] true],.own (.l [] true) 1 (iL [])]:=Ol hs 1;cases hcB:CH p with
 | false=>
   rw[hcB]at hcl
   conv=>whnf
   repeat'((first|apply st|(apply sq;intro K U)|(apply si;intro A B hA hB)|refine⟨kZ,?_⟩|fail)<;>conv=>whnf)
   refine hcl.use (pre:=[]) (rest:=[.box nO [.l [] true],.own (.l [] true) 1 (iL [])]) hs ?_;rintro r post Z ⟨rfl,rfl⟩ hs
   conv=>whnf
   repeat'((first|(refine hB _ _ _ ?_;clear hB B hA A)|clear U K)<;>conv=>whnf)
   exact aF (TD (by simp[Eh,hcB])) hs (.refl _)
 | true=>
   rw[hcB]at hcl;obtain⟨hgW,hmS,h10⟩:=Lo hcB
   conv=>whnf
   repeat'((first|apply st|(apply sq;intro K U)|(apply si;intro A B hA hB)|refine⟨kZ,?_⟩|fail)<;>conv=>whnf)
   refine hcl.use (pre:=[]) (rest:=[.box nO [.l [] true],.own (.l [] true) 1 (iL [])]) hs ?_;clear hs;rintro r post Z ⟨rfl,rfl⟩ hs
   conv=>whnf
   repeat'((first|apply st|(apply sq;intro K U)|(apply si;intro A B hA hB)|(refine hA _ _ ?_;clear hB B hA A)|(refine hB _ _ _ ?_;clear hB B hA A)|(apply U;clear U K)|refine⟨rfl,?_⟩|(refine Ca (fun hc=>?_) (fun hc=>?_)<;>(replace hc:=bp hc)<;>(try simp(disch:=omega) only[C4,wrap64,Av]at hc)<;>(try(cases hc;done)))|(constructor<;>intro hc<;>(try rw[hc])<;>(replace hc:=bp hc)<;>(try simp(disch:=omega) only[C4,wrap64,Av]at hc))|clear U K)<;>conv=>whnf)
   rotate_left
   all_goals first
    | exact aF (TD (by simp[Eh, *];intros;omega)) hs (.refl _)
    | skip
   have a1:p.Ch.length<=8:=by omega
   have a2:p.methods.length<=16:=by omega
   have a3:1<=p.nodes.length:=by omega
   have a4:p.nodes.length<=120:=by omega
   have hg:Eh p=p.Ch.all fun g=>decide (1<=g)&&decide (g<=3):=by
    simp only[Eh,a1,a2,a3,a4,decide_true,Ed];simp[*]
   refine Du p.Ch.length (fun k (_:Unit)=>[(36,eI (Bj k))]) (fun _ _=>[.box nO [.l [] true],.own (.l [] true) 1 (iL [])]) (fun k _=>Eh p=(p.Ch.drop k).all fun g=>decide (1<=g)&&decide (g<=3)) () rfl (by simpa using hg) hs ?_;clear hs hg;rintro k - Z hk hn hs;rcases BJ p.Ch hk with⟨g,hgk,hlt⟩|hke
   .rw[drop_cons hgk,W5]at hn
    conv=>whnf
    repeat'((first|apply st|(apply sq;intro K U)|(apply si;intro A B hA hB)|(refine hA _ _ ?_;clear hB B hA A)|(refine hB _ _ _ ?_;clear hB B hA A)|(apply U;clear U K)|refine⟨rfl,?_⟩|refine ix ?_|(refine pc (fun hc=>?_)<;>(try rw[hc])<;>clear hc)|(refine Ca (fun hc=>?_) (fun hc=>?_)<;>(replace hc:=bp hc)<;>(try simp(disch:=omega) only[C4,wrap64,Av]at hc)<;>(try(cases hc;done)))|(constructor<;>intro hc<;>(try rw[hc])<;>(replace hc:=bp hc))|clear U K)<;>conv=>whnf)
    .exact⟨hlt,(),rfl,by rw[hn];simp[*],hs⟩
    .exact aF (TD (by rw[hn,decide_eq_false (show¬g<=3 by omega)];simp)) hs (.refl _)
    .exact aF (TD (by rw[hn,decide_eq_false (show¬1<=g by omega)];simp)) hs (.refl _)
   .have hh : Eh p=true:=by rw[hn,BS hke];rfl
    have hL:=mN hh;clear hn
    conv=>whnf
    repeat'((first|apply st|(apply sq;intro K U)|(apply si;intro A B hA hB)|(refine hA _ _ ?_;clear hB B hA A)|(apply U;clear U K)|refine⟨rfl,?_⟩|(refine vJ (fun hc=>?_)<;>(try rw[hc])<;>clear hc)|clear U K)<;>conv=>whnf)
    rw[C4];refine(bL p.nodes.length a3 a4).use (pre:=[]) (rest:=[.box nO [.l [] true],.own (.l [] true) 1 (iL [])]) hs ?_;clear hs;rintro r post Z ⟨v,rfl,rfl,hv⟩ hs
    conv=>whnf
    repeat'((first|apply st|(apply sq;intro K U)|(apply si;intro A B hA hB)|(refine hA _ _ ?_;clear hB B hA A)|(apply U;clear U K)|refine⟨kZ,?_⟩|refine vC fun Z hs=>?_|refine kD fun Z hs=>?_|refine Pure.use (VI p (by omega) (by omega)) ?_|(intro nn hnn;generalize hg:Bo _ nn _=Z;refine oQ hg fun hs=>?_;clear hg)|fail)<;>conv=>whnf)
    rename_i nw hnw _ hs;generalize nn=n5 at *;replace hs:=hs.less (show [At.box n5 (CR (AM p)),.own v 1 (iL (List.replicate p.nodes.length (-1))),.box nO [v]].Sublist _ from .cons₂ _ (.cons₂ _ (.cons₂ _ (.cons _ .slnil))));refine Du p.methods.length (fun k (s:List Int)=>[(59,eI (Bj k))]) (fun _ s=>[.box nO [v],.own v 1 (iL s),.box n5 (CR (AM p))]) (fun k s=>s.length=p.nodes.length/\kE s/\BZ p=Oy p (runM p (p.methods.drop k) s)) (List.replicate p.nodes.length (-1)) rfl ⟨by simp,fun x hx=>by rw[List.eq_of_mem_replicate hx];omega,hL⟩ (hs.perm (bU _ _ _)) ?_;clear hs hnw hnn;rintro k s Z hk ⟨hl,hge,hn⟩ hs;rcases BJ p.methods hk with⟨m,hm,hlt⟩|hke
    .have hF:=YR hgW m.fact
     cases hfB:EC (AM p) m.fact with
     | false=>
       rw[hfB,if_neg Bool.false_ne_true]at hF;have hno:=JN hm hn (by simp[XB,hfB])
       conv=>whnf
       repeat'((first|apply st|(apply sq;intro K U)|(apply si;intro A B hA hB)|(refine hA _ _ ?_;clear hB B hA A)|(refine hB _ _ _ ?_;clear hB B hA A)|(refine hB _ _ fun Z hsub=>?_;clear hB B hA A)|(apply U;clear U K)|apply dr|refine rk ?_ ?_|exact fun s e=>by cases e;rfl|refine⟨rfl,?_⟩|refine⟨kZ,?_⟩|refine ix ?_|refine ld ?_|refine kD fun Z hs=>?_|(refine pc (fun hc=>?_)<;>(try rw[hc])<;>clear hc)|(refine Ca (fun hc=>?_) (fun hc=>?_)<;>(replace hc:=bp hc)<;>(try simp(disch:=omega) only[C4,wrap64,Av]at hc)<;>(try(cases hc;done)))|refine hF.use ?_|(constructor<;>intro hc<;>(try rw[hc])<;>(replace hc:=bp hc)<;>try(exfalso;omega))|(intro nn hnn;generalize hg:Bo _ nn _=Z;refine oQ hg fun hs=>?_;clear hg)|clear U K)<;>conv=>whnf)
       all_goals first
        | (refine aF (v:=v) (s:=s) hno hs ?_;(repeat first|exact RF _|apply List.Sublist.cons₂|apply List.Sublist.cons);done)
        | (refine aF (v:=v) (s:=s) hno (hs.up (by assumption)) ?_;(repeat first|exact RF _|apply List.Sublist.cons₂|apply List.Sublist.cons);done)
        | skip
     | true=>
       rw[hfB,if_pos rfl]at hF;have hsp:=bC _ (oA hfB)
       conv=>whnf
       repeat'((first|apply st|(apply sq;intro K U)|(apply si;intro A B hA hB)|(refine hA _ _ ?_;clear hB B hA A)|(refine hB _ _ _ ?_;clear hB B hA A)|(refine hB _ _ fun Z hsub=>?_;clear hB B hA A)|(apply U;clear U K)|apply dr|refine rk ?_ ?_|exact fun s e=>by cases e;rfl|refine⟨rfl,?_⟩|refine⟨kZ,?_⟩|refine ix ?_|refine xp ?_|refine iq fun x hx=>?_|refine ld ?_|refine kD fun Z hs=>?_|(refine pc (fun hc=>?_)<;>(try rw[hc])<;>clear hc)|(refine Ca (fun hc=>?_) (fun hc=>?_)<;>(replace hc:=bp hc)<;>(try simp(disch:=omega) only[C4,wrap64,Av]at hc)<;>(try(cases hc;done)))|refine hF.use ?_|refine hsp.use ?_|(constructor<;>intro hc<;>(try rw[hc])<;>(replace hc:=bp hc)<;>(try simp(disch:=omega) only[C4,wrap64,Av]at hc)<;>try(exfalso;omega))|(intro nn hnn;generalize hg:Bo _ nn _=Z;refine oQ hg fun hs=>?_;clear hg)|clear U K)<;>conv=>whnf)
       all_goals first
        | (refine aF (v:=v) (s:=s) (JN hm hn ?_) hs ?_;(simp[XB, *];intros;omega);(repeat first|exact RF _|apply List.Sublist.cons₂|apply List.Sublist.cons);done)
        | (refine aF (v:=v) (s:=s) (JN hm hn ?_) (hs.up (by assumption)) ?_;(simp[XB, *];intros;omega);(repeat first|exact RF _|apply List.Sublist.cons₂|apply List.Sublist.cons);done)
        | skip
       rotate_left 2
       .refine aF (v:=v) (s:=s) (JN hm hn ?_) (hs.up (by assumption)) ?_
        .simp only[XB,show p.Ch.getD m.gen.toNat 0=x by rw[Dh,hx];rfl,decide_eq_false (show¬Il m.fact<=x by omega),Bool.and_false]
        .repeat first|exact RF _|apply List.Sublist.cons₂|apply List.Sublist.cons
       all_goals
        have hx13:=br hh hx;have hgd:p.Ch.getD m.gen.toNat 0=x:=by rw[Dh,hx];rfl
        have hok:XB p m=true:=by simp only[XB,hgd,A4,CT];exact⟨by omega,by omega,by omega,by omega,hfB,by assumption⟩
        have hgo:=fun s'=>lW (s':=s') hm hn hok
        have hno:=bH hm hn hok;rw[hgd]at hgo hno
       .have hnb:Ow m.kind=(m.kind==4):=by simp[Ow, *]
        rw[hnb]at hgo hno;refine Ay ((T2 p (m.kind==4) hv m.node x s (by omega) (by omega) hl [.box n5 (CR (AM p))] Z (hs.less (.cons _ (.refl _)))).mono ?_);cases hw:C7 p (m.kind==4) 12 m.node x s with
        | none=>
          clear hs;rintro r Z' ⟨rfl,s',hl',hs⟩
          conv=>whnf
          repeat'((first|(refine hB _ _ fun Z hsub=>?_;clear hB B hA A)|clear U K)<;>conv=>whnf)
          exact aF (v:=v) (s:=s') (hno hw) (hs.up (by assumption)) (.cons₂ _ (.cons₂ _ (RF _)))
        | some s2=>
          clear hs;rintro r Z' ⟨rfl,hs⟩
          conv=>whnf
          repeat'((first|(apply si;intro A B hA hB)|(refine hA _ _ ?_;clear hB B hA A)|(apply U;clear U K)|apply dr|refine⟨rfl,?_⟩|clear U K)<;>conv=>whnf)
          exact⟨hlt,s2,rfl,⟨(JK _ hw).trans hl,LV _ (by omega) hw hge,hgo s2 hw⟩,hs⟩
       .have hnb:Ow m.kind=true:=by simp[Ow, *]
        rw[hnb]at hgo hno;refine Ay ((T2 p true hv m.node x s (by omega) (by omega) hl [.box n5 (CR (AM p))] Z (hs.less (.cons _ (.refl _)))).mono ?_);cases hw:C7 p true 12 m.node x s with
        | none=>
          clear hs;rintro r Z' ⟨rfl,s',hl',hs⟩
          conv=>whnf
          repeat'((first|(refine hB _ _ fun Z hsub=>?_;clear hB B hA A)|clear U K)<;>conv=>whnf)
          exact aF (v:=v) (s:=s') (hno hw) (hs.up (by assumption)) (.cons₂ _ (.cons₂ _ (RF _)))
        | some s2=>
          clear hs;rintro r Z' ⟨rfl,hs⟩
          conv=>whnf
          repeat'((first|(apply si;intro A B hA hB)|(refine hA _ _ ?_;clear hB B hA A)|(apply U;clear U K)|apply dr|refine⟨rfl,?_⟩|clear U K)<;>conv=>whnf)
          exact⟨hlt,s2,rfl,⟨(JK _ hw).trans hl,LV _ (by omega) hw hge,hgo s2 hw⟩,hs⟩
    .subst hke
     rw[List.drop_length,runM]at hn
     conv=>whnf
     repeat'((first|apply st|(apply sq;intro K U)|(apply si;intro A B hA hB)|(refine hA _ _ ?_;clear hB B hA A)|(apply U;clear U K)|refine⟨rfl,?_⟩|refine⟨kZ,?_⟩|refine ix ?_|refine ld ?_|refine kD fun Z hs=>?_|(refine fc (fun x hx hlt hc=>?_) (fun hk hc=>?_)<;>(try rw[hc])<;>clear hc)|(constructor<;>intro hc<;>(try rw[hc])<;>(replace hc:=bp hc)<;>try(exfalso;omega))|(intro nn hnn;generalize hg:Bo _ nn _=Z;refine oQ hg fun hs=>?_;clear hg)|clear U K)<;>conv=>whnf)
     rw[Oy]at hn;refine Ay ((T2 p false hv p.main 0 s (by omega) (by omega) hl [.box n5 (CR (AM p))] Z hs).mono ?_);cases hw:C7 p false 12 p.main 0 s with
     | none=>
       rw[hw]at hn;clear hs;rintro r Z' ⟨rfl,s',hl',hs⟩
       conv=>whnf
       repeat'((first|(refine hB _ _ _ ?_;clear hB B hA A)|clear U K)<;>conv=>whnf)
       exact aF (v:=v) (s:=s') hn hs (.cons₂ _ (.cons₂ _ (RF _)))
     | some s2=>
       rw[hw]at hn;have hge2:=LV _ (by omega) hw hge;simp only[m6 hge2]at hn;clear hs;rintro r Z' ⟨rfl,hs⟩;have hct:=fun f=>Ce s2 f (-1)
       cases hyes:s2.contains (-1)with
       | true=>
         rw[hyes]at hct hn
         conv=>whnf
         repeat'((first|(apply si;intro A B hA hB)|(refine hA _ _ ?_;clear hB B hA A)|(apply U;clear U K)|refine ld ?_|fail)<;>conv=>whnf)
         refine Pure.Sy (hct false) (.cons (hs.He 1 rfl) (.cons (.refl _) .nil)) rfl ?_
         conv=>whnf
         repeat'((first|(refine hB _ _ _ ?_;clear hB B hA A)|(refine Ca (fun hc=>?_) (fun hc=>?_)<;>(replace hc:=bp hc)<;>(try simp(disch:=omega) only[C4,wrap64,Av]at hc)<;>(try(cases hc;done)))|fail)<;>conv=>whnf)
         all_goals exact aF (v:=v) (s:=s2) hn (by first|exact hs|exact hs.up (by assumption)) (.cons₂ _ (.cons₂ _ (RF _)))
       | false=>
         rw[hyes]at hct hn
         conv=>whnf
         repeat'((first|(apply si;intro A B hA hB)|(refine hA _ _ ?_;clear hB B hA A)|(apply U;clear U K)|refine ld ?_|fail)<;>conv=>whnf)
         refine Pure.Sy (hct false) (.cons (hs.He 1 rfl) (.cons (.refl _) .nil)) rfl ?_
         conv=>whnf
         repeat'((first|(refine hA _ _ ?_;clear hB B hA A)|(refine Ca (fun hc=>?_) (fun hc=>?_)<;>(replace hc:=bp hc)<;>(try simp(disch:=omega) only[C4,wrap64,Av]at hc)<;>(try(cases hc;done)))|fail)<;>conv=>whnf)
         all_goals exact szT (v:=v) hn hs (.cons₂ _ (.cons₂ _ (RF _)))
end Go.Gl
