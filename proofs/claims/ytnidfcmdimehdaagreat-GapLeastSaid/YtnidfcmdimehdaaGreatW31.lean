import Derived.Test.YtnidfcmdimehdaaGreatW14
import Derived.Test.YtnidfcmdimehdaaGreatW17
import Derived.Test.YtnidfcmdimehdaaGreatW22
import Derived.Test.YtnidfcmdimehdaaGreatW23
import Derived.Test.YtnidfcmdimehdaaGreatW24
import Derived.Test.YtnidfcmdimehdaaGreatW27
import Derived.Test.YtnidfcmdimehdaaGreatW28
import Derived.Test.YtnidfcmdimehdaaGreatW29
import Derived.Test.YtnidfcmdimehdaaGreatW30
set_option linter.all false
set_option linter.defProp false
set_option maxHeartbeats 8000000
noncomputable section
namespace Go.Gl
open Go.Proofs
def Zg {Z Z2:AE} {v v':V} (h:FZ Z Z2 v v'): ∀fi ca:List V,Cz Z Z2 (fi++[v]++ca) (fi++[v']++ca)
 | [],ca=> .cons h (Zh ca)
 | x::r,ca=> .cons (.refl _) (Zg h r ca)
where Zh: ∀ca:List V,Cz Z Z2 ca ca
 | []=> .nil
 | x::r=> .cons (.refl _) (Zh r)
def xZ {Z:AE} {sz:Nat} {es:List (List V)} {f:Bool} (he: ∀e∈es,e.length=sz) {K:V->AE->Prop} (hk:K (.l es true) Z):AN Z sz (.l es f) none (some (.i .i64 (es.length:Int))) (some (.i .i64 (es.length:Int))) K:=by
 refine⟨he,?_⟩;simp only[Nt];refine⟨Int.le_refl _,Int.natCast_nonneg _,Int.le_refl _,trivial,?_⟩;simpa using hk
attribute [local irreducible] Ao Ai AY AO AJ AX AN AP AI AW AK AL Ak Au Sat AT Ar Aa W
def xa (ls:List Fact) (b:Bool) (hl:ls.length<=1000000):Pure zP 203 [.l (DU ls) b] (.l (DU ls) true):=by
 have hM:=Mx;refine tU kZ ?_;have hs:=Sn;refine zz ?_;(repeat clear U K);repeat intro K U
 refine xZ (fun x hx=>by obtain⟨y,_,rfl⟩:=H8.1 hx;rfl) ?_;exact zW
def Y0 (g:FuncId) (fi ca:List V) (H:List At) (kf:List Fact->Bool) (D:List Fact->Prop):Prop:= ∀l b,D l-> ∀Z,Sat Z H->Ao zP g (fi++[Kx l b]++ca) Z fun r Z'=>r= .ret (.b (kf l))/\Sat Z' H
def gk (f:Fact):Prop:= ∀(c:Bool) (g:FuncId) (fi ca:List V) (H:List At) (kf:List Fact->Bool) (D:List Fact->Prop) (l:List Fact) (b:Bool),
 Y0 g fi ca H kf D->(∀x∈CC f c,D (l++x))->l.length+lv f<=500000-> ∀Z,Sat Z H->Ao zP 147 [.a (xF f),.b c,Kx l b,.f (.func g) fi ca] Z fun r Z'=>r= .ret (.b ((CC f c).any fun x=>kf (l++x)))/\Sat Z' H
def jx (A B:List (List Fact)) (kf:List Fact->Bool) (l:List Fact):((Uz A B).any fun x=>kf (l++x))=A.any fun x=>B.any fun y=>kf (l++x++y):=by
 rw[Gr,GF,GF];constructor
 .rintro⟨z,hz,h⟩
  obtain⟨x,hx,y,hy,rfl⟩:=Er.1 hz;exact⟨x,hx,GF.2 ⟨y,hy,by rw[Od];exact h⟩⟩
 .rintro⟨x,hx,h⟩
  obtain⟨y,hy,h⟩:=GF.1 h;exact⟨x++y,Er.2 ⟨x,hx,y,hy,rfl⟩,by rw[<-Od];exact h⟩
def lr {f k0 k1:Fact} (hk:f.kids= [k0,k1]) (hc1:gk k1) {c:Bool} {g:FuncId} {fi ca:List V} {H:List At} {kf:List Fact->Bool} {D:List Fact->Prop} (hT:Y0 g fi ca H kf D) :
    Y0 202 [] [.rp (xF f),.rp [.b c],.rp [.f (.func g) fi ca]] H (fun m=>(CC k1 c).any fun y=>kf (m++y)) (fun m=>(∀y∈CC k1 c,D (m++y))/\m.length+lv k1<=500000):=by
 rintro m b ⟨hd,hml⟩ Z hs;have h1:f.kids[(1:Int).toNat]? =some k1:=by rw[hk];rfl
 show Ao zP 202 [Kx m b,.rp (xF f),.rp [.b c],.rp [.f (.func g) fi ca]] Z _;refine tV kZ ?_;refine zz ?_;(repeat clear U K);repeat intro K U
 refine Ao.mono (hc1 c g fi ca H kf D m b hT hd hml Z hs) ?_;clear hs;rintro r Z ⟨rfl,hs⟩;refine zz ?_;(repeat clear U K);repeat intro K U
 exact AH ⟨rfl,hs⟩
def jl {w : AG} (f:Fact):BM w f=true->lv f<=100->gk f:=by
 have hM:=Mx
 induction f using Fact.ind with
 | h f ih=>
   intro hn hv c g fi ca H kf D l b hT hd hll Z hs;have har:=Bs _ hn
   have hnk: ∀k∈f.kids,BM w k=true:=by
    rw[CO,A4,DR]at hn;exact hn.2
   have hop:f.op=1\/f.op=5\/Cm f=true\/f.op=6\/f.op=7:=by
    rw[CO,A4]at hn;have h1:=hn.1;simp only[Dr,aH,A4]at h1;rw[Li];simp only[A4,CT];have h2:=h1.1;split at h2
    .omega
    .split at h2
     .omega
     .simp only[Ek,Cy]at h2
      omega
   refine tu kZ ?_;have hcs:=JZ f c;rw[O8]at hcs;rcases hop with h1|h5|hl|h67
   .rw[if_pos h1]at hcs
    rw[hcs]at hd ⊢;cases c
    .rw[if_neg (by decide)]at hd ⊢
     have h0:=hT l b (by simpa using hd [] (.head _)) Z hs
     conv=>whnf
     repeat'((first|clear U K|apply st|(apply zk;intro K U)|refine zY ?_|(refine zb (fun hc=>?_) (fun hc=>?_)<;>try exact⟨⟩)|fail)<;>conv=>whnf)
     all_goals try(exfalso;omega)
     refine Ay (Ao.mono h0 ?_);clear hs h0;rintro r Z ⟨rfl,hs⟩;refine zz ?_;(repeat clear U K);repeat intro K U
     exact AH ⟨by simp,hs⟩
    .rw[if_pos rfl]at hd ⊢
     conv=>whnf
     repeat'((first|clear U K|apply st|(apply zk;intro K U)|refine zY ?_|(refine zb (fun hc=>?_) (fun hc=>?_)<;>try exact⟨⟩)|fail)<;>conv=>whnf)
     all_goals try(exfalso;omega)
     exact AH ⟨rfl,hs⟩
   .obtain⟨k,hk,-⟩:=E7 har h5
    have hkm:k∈f.kids:=by rw[hk];exact .head _
    have hve:lv f=lv k:=by
     rw[Jq f,aJ,if_pos h5,hk];rfl
    have hvk:lv k<=100:=by omega
    rw[if_neg (by omega),if_pos h5,hk]at hcs;have hcs2:CC f c=CC k (!c):=hcs;have h0:f.kids[(0:Int).toNat]? =some k:=by rw[hk];rfl
    rw[hcs2]at hd ⊢
    conv=>whnf
    repeat'((first|clear U K|apply st|(apply zk;intro K U)|refine zY ?_|(refine zb (fun hc=>?_) (fun hc=>?_)<;>try exact⟨⟩)|fail)<;>conv=>whnf)
    all_goals try(exfalso;omega)
    refine Ao.mono (ih k hkm (hnk k hkm) hvk (!c) g fi ca H kf D l b hT hd (by omega) Z hs) ?_;clear hs;rintro r Z ⟨rfl,hs⟩;refine zz ?_;(repeat clear U K);repeat intro K U
    exact AH ⟨rfl,hs⟩
   .have hlo:=E3 hl
    rw[if_neg (by omega),if_neg (by omega),if_neg (by omega)]at hcs;have hcs2:CC f c= [[if c then EL f else f]]:=by rw[hcs];cases c<;>rfl
    rw[hcs2]at hd ⊢;have c1:=xa l b (by omega);have hd2:=hd _ (.head _);have e:IQ (if c then EL f else f)=xF f++[.b c]:=R1 hl c
    conv=>whnf
    repeat'((first|clear U K|apply st|(apply zk;intro K U)|refine zY ?_|refine rk ?_ ?_|exact fun s e=>by cases e;rfl|refine zC ?_|(refine zb (fun hc=>?_) (fun hc=>?_)<;>try exact⟨⟩)|fail)<;>conv=>whnf)
    all_goals try(exfalso;omega)
    have hrow:([xF f++[.b c]]:List (List V))= [if c then EL f else f].map IQ:=by rw[Eg,List.map_nil,e]
    refine(?_:AJ 88 Z 7 (.l (DU l) true) (.l [xF f++[.b c]] true) _);rw[hrow];refine O5 (enc:=IQ) (eP hs (es:=DU l) (sz:=7) (fun x hx=>by obtain⟨y,_,rfl⟩:=H8.1 hx;rfl)) 0 (xs:=l) (ys:=[if c then EL f else f]) rfl (b:=88) (by simp;omega) TH (fun v Z hs=>?_)
    conv=>whnf
    repeat'((first|apply st|refine rk ?_ ?_|exact fun s e=>by cases e;rfl|fail)<;>conv=>whnf)
    obtain⟨Z2,q1,q2,q3⟩:=Jr hs 0 rfl;refine Ay (Ao.RP (Ao.mono (hT (l++[if c then EL f else f]) false hd2 Z2 q3) ?_) q1 (Zg q2 fi ca));clear hs q1 q2 q3;rintro r Z ⟨rfl,hs⟩;refine zz ?_;(repeat clear U K);repeat intro K U
    exact AH ⟨by simp,hs⟩
   .obtain⟨k0,k1,hk,-,-⟩:=E6 har h67
    have hkm0:k0∈f.kids:=by rw[hk];exact .head _
    have hkm1:k1∈f.kids:=by rw[hk];exact .tail _ (.head _)
    have hve:lv f=lv k0+lv k1:=by
     rw[Jq f,aJ,if_neg (by omega),if_pos h67,hk];rfl
    have hvk:lv k0+lv k1<=100:=by omega
    rw[if_neg (by omega),if_neg (by omega),if_pos h67,hk]at hcs;have h0:f.kids[(0:Int).toNat]? =some k0:=by rw[hk];rfl
    have h1:f.kids[(1:Int).toNat]? =some k1:=by rw[hk];rfl
    have i0:=ih k0 hkm0 (hnk k0 hkm0) (by omega);have i1:=ih k1 hkm1 (hnk k1 hkm1) (by omega);by_cases hap:(c != (f.op==7))=true
    .rw [if_pos hap]at hcs
     have hcs2:CC f c=CC k0 c++CC k1 c:=hcs;rw[hcs2]at hd ⊢;rw[List.any_append];have hd3:=fun x hx=>hd x (NL _ hx)
     have hd4:=fun x hx=>hd x (MH _ hx)
     clear hcs hcs2 hd
     have h6b:(f.op==6)=c:=by
      rcases h67 with h6|h7
      .rw[h6]at hap ⊢;cases c<;>simp_all
      .rw[h7]at hap ⊢;cases c<;>simp_all
     rcases h67 with h6|h7
     all_goals
      cases c
      all_goals
       conv=>whnf
       repeat'((first|clear U K|apply st|(apply zk;intro K U)|refine zY ?_|(rw[h6b])|(refine zb (fun hc=>?_) (fun hc=>?_)<;>try exact⟨⟩)|fail)<;>conv=>whnf)
       all_goals try(exfalso;simp_all;done)
       all_goals try(exfalso;omega)
     .refine Ao.mono (i0 true g fi ca H kf D l b hT hd3 (by omega) Z hs) ?_
      clear hs;rintro r Z ⟨rfl,hs⟩;generalize hB0:((CC k0 true).any fun x=>kf (l++x))=B0;cases B0
      .refine zz ?_;(repeat clear U K);repeat intro K U
       refine Ao.mono (i1 true g fi ca H kf D l b hT hd4 (by omega) Z hs) ?_;clear hs;rintro r Z ⟨rfl,hs⟩;refine zz ?_;(repeat clear U K);repeat intro K U
       exact AH ⟨by rw[hB0];rfl,hs⟩
      .refine zz ?_;(repeat clear U K);repeat intro K U
       exact AH ⟨by rw[hB0];rfl,hs⟩
     .refine Ao.mono (i0 false g fi ca H kf D l b hT hd3 (by omega) Z hs) ?_
      clear hs;rintro r Z ⟨rfl,hs⟩;generalize hB0:((CC k0 false).any fun x=>kf (l++x))=B0;cases B0
      .refine zz ?_;(repeat clear U K);repeat intro K U
       refine Ao.mono (i1 false g fi ca H kf D l b hT hd4 (by omega) Z hs) ?_;clear hs;rintro r Z ⟨rfl,hs⟩;refine zz ?_;(repeat clear U K);repeat intro K U
       exact AH ⟨by rw[hB0];rfl,hs⟩
      .refine zz ?_;(repeat clear U K);repeat intro K U
       exact AH ⟨by rw[hB0];rfl,hs⟩
    .rw [if_neg hap]at hcs
     have hcs2:CC f c=Uz (CC k0 c) (CC k1 c):=hcs;rw[hcs2]at hd ⊢;rw[jx];have hlx:=QZ k0 (Bs _ (hnk k0 hkm0)) c;have hT2:=lr hk i1 (c:=c) hT;have hd5: ∀x∈CC k0 c,(∀y∈CC k1 c,D (l++x++y))/\(l++x).length+lv k1<=500000:=fun x hx=>⟨fun y hy=>by rw[Od];exact hd _ (Er.2 ⟨x,hx,y,hy,rfl⟩),by have:=hlx x hx;rw[RG];omega⟩
     have h6b:(f.op==6)= !c:=by
      rcases h67 with h6|h7
      .rw[h6]at hap ⊢;cases c<;>simp_all
      .rw[h7]at hap ⊢;cases c<;>simp_all
     have hrun:=fun Z hs=>i0 c 202 [] [.rp (xF f),.rp [.b c],.rp [.f (.func g) fi ca]] H _ _ l b hT2 hd5 (by omega) Z hs
     clear hcs hcs2 hd hd5 hT2;generalize ((CC k0 c).any fun x=>(CC k1 c).any fun y=>kf (l++x++y))=B0 at *;rcases h67 with h6|h7
     all_goals
      cases c
      all_goals
       conv=>whnf
       repeat'((first|clear U K|apply st|(apply zk;intro K U)|refine zY ?_|(rw[h6b])|(refine zb (fun hc=>?_) (fun hc=>?_)<;>try exact⟨⟩)|fail)<;>conv=>whnf)
       all_goals try(exfalso;simp_all;done)
       all_goals try(exfalso;omega)
     all_goals
      refine Ao.mono (hrun Z hs) ?_;clear hs;rintro r Z ⟨rfl,hs⟩;refine zz ?_;(repeat clear U K);repeat intro K U
      exact AH ⟨rfl,hs⟩
end Go.Gl
namespace Go.Gl
open Go.Proofs
abbrev UM (p:Prog) (gen:Int) (ms:List Int):List V:=Ba p++[eI gen,.l (iL ms) false]
structure N0 (p:Prog) (ms:List Int):Prop where
 ok:ES p
 K3: ∀m∈ms,BX p m=true
 yG:ms.length<=8
def Bi (s n:Nat):List Bool:=(List.range n).map s.testBit
def SX (s n:Nat):(Bi s n).length=n:=by simp[Bi]
def WG {s n i:Nat} (h:i<n):(Bi s n)[i]? =some (s.testBit i):=by
 rw[Bi,Np,List.getElem?_range h];rfl
abbrev EM (p:Prog) (ms:List Int):List Fact:=ms.map fun m=>(Bv p m).fact
def Us (g:FuncId) (fi ca:List V) (w:AG) (tog:List Fact->Bool):Prop:= ∀l b,(∀x∈l,C6 w x)->l.length<900->Pure zP g (fi++[Kx l b]++ca) (.b (tog l))
abbrev eL (g:FuncId) (fi ca:List V) (p:Prog) (gen:Int) (ms:List Int) (s many nN:Nat):V:= .f (.func 146) [] [.rp [.f (.func g) fi ca],.rp [eI many],.rp (UM p gen ms),.rp [eU s],.p nN 0]
section
variable {g:FuncId} {fi ca:List V} {p:Prog} {gen:Int} {ms:List Int} {tog:List Fact->Bool}
def Ux (p:Prog) (ms:List Int) (s many i:Nat):List (List (List Fact)):=(ae ((EM p ms).zip (Bi s many))).drop i
def bJ {s many i:Nat} (h:many<=i):Ux p ms s many i= []:=List.drop_of_length_le (by simp[ae,SX];omega)
def iO {s many i:Nat} {m:Int} (h:i<many) (hm:ms[i]? =some m):Ux p ms s many i=CC (Bv p m).fact (!s.testBit i)::Ux p ms s many (i+1):=by
 refine drop_cons ?_;have hz:((EM p ms).zip (Bi s many))[i]? =some ((Bv p m).fact,s.testBit i):=List.getElem?_zip_eq_some.2 ⟨by rw[Np,hm];rfl,WG h⟩;rw[ae,Np,hz];rfl
attribute [local irreducible] Ao Ai AY AO AJ AX AN AP AI AW AK AL Ak Au Sat AT Ar Aa W
def mH (h:N0 p ms) (hcan:Us g fi ca (AM p) tog) {s many nN:Nat} (hs64:s<18446744073709551616) (hmn:many<=ms.length): ∀(d i:Nat) (l:List Fact) (b:Bool),i+d=many->(∀x∈l,C6 (AM p) x)->l.length<=12*i-> ∀Z,Sat Z [.box nN [eL g fi ca p gen ms s many nN]]->
    Ao zP 146 [eI i,Kx l b,.rp [.f (.func g) fi ca],.rp [eI many],.rp (UM p gen ms),.rp [eU s],.p nN 0] Z fun r Z'=>r= .ret (.b (Nv tog (Ux p ms s many i) l))/\Sat Z' [.box nN [eL g fi ca p gen ms s many nN]]:=by
 have hM:=Mx;have hfew:=h.yG;intro d
 induction d with
 | zero=>
   intro i l b hid hl hln Z hs;have c1:=hcan l b hl (by omega);rw[bJ (by omega),Nv];cases ht:tog l<;>rw[ht]at c1
   all_goals
    refine Xk kZ ?_
    conv=>whnf
    repeat'((first|clear U K|apply st|(apply zk;intro K U)|refine zY ?_|refine rk ?_ ?_|exact fun s e=>by cases e;rfl|refine Ay (c1.use ?_)|(refine zb (fun hc=>?_) (fun hc=>?_)<;>try exact⟨⟩)|fail)<;>conv=>whnf)
    all_goals try(exfalso;simp at hc;omega)
    all_goals exact AH ⟨rfl,hs⟩
 | succ d ih=>
   intro i l b hid hl hln Z hs;have c1:=hcan l b hl (by omega);obtain⟨m,hm⟩: ∃m,ms[i]? =some m:=⟨_,Di (by omega)⟩
   have hmm:=h.K3 m (Dn hm);have hmP:=Cx hmm;have hfa:=h.ok.facts _ (Dn hmP);rw[iO (by omega) hm,Nv];cases ht:tog l<;>rw[ht]at c1
   .refine Xk kZ ?_
    conv=>whnf
    repeat'((first|clear U K|apply st|(apply zk;intro K U)|refine zY ?_|refine Ay (c1.use ?_)|fail)<;>conv=>whnf)
    all_goals exact AH ⟨rfl,hs⟩
   rw[Ed];have c2:=eO s (i:Int) hs64 (by omega) (by omega);have hlits:=Nn _ hfa.1;have hcl:=QZ _ (Bs _ hfa.1);have hcas:=jl (Bv p m).fact hfa.1 (by have:=hfa.2;omega);have hlv:=hfa.2;simp only[BX,A4,CT]at hmm;have hm2:ms[((i:Nat):Int).toNat]? =some m:=by rw[Hc];exact hm
   rw[Hc]at c2;clear hfa;generalize Bv p m=x at *
   have hT:Y0 148 [] [.p nN 0,.rp [eI i]] [.box nN [eL g fi ca p gen ms s many nN]] (Nv tog (Ux p ms s many (i+1))) (fun y=>(∀z∈y,C6 (AM p) z)/\y.length<=12*(i+1)):=by
    rintro y b' ⟨hy1,hy2⟩ Z hs;have hi:=ih (i+1) y b' (by omega) hy1 hy2;have hwi:IntKind.i64.wrap ((i:Int)+1)=((i+1:Nat):Int):=by rw[wrap64 (by omega) (by omega)];omega
    show Ao zP 148 [Kx y b',.p nN 0,.rp [eI i]] Z _;refine tt kZ ?_;refine zz ?_;(repeat clear U K);repeat intro K U
    rw[hwi];refine Ay (Ao.mono (hi Z hs) ?_);clear hs;rintro r Z ⟨rfl,hs⟩;refine zz ?_;(repeat clear U K);repeat intro K U
    exact AH ⟨rfl,hs⟩
   refine Xk kZ ?_
   conv=>whnf
   repeat'((first|clear U K|apply st|(apply zk;intro K U)|refine zY ?_|refine rk ?_ ?_|exact fun s e=>by cases e;rfl|refine Ay (c1.use ?_)|refine c2.use ?_|(refine zb (fun hc=>?_) (fun hc=>?_)<;>try exact⟨⟩)|fail)<;>conv=>whnf)
   all_goals try(exfalso;simp at hc;omega)
   refine Ao.mono (hcas (!s.testBit i) 148 [] [.p nN 0,.rp [eI i]] _ _ _ l b hT (fun c hc=>⟨fun z hz=>(Dm.1 hz).elim (hl z) (hlits _ c hc z),?_⟩) (by omega) Z hs) ?_
   .have:=hcl _ c hc
    rw[RG];omega
   clear hs;rintro r Z ⟨rfl,hs⟩;refine zz ?_;(repeat clear U K);repeat intro K U
   all_goals exact AH ⟨rfl,hs⟩
def dz (h:N0 p ms) (hcan:Us g fi ca (AM p) tog) {s many:Nat} (hs64:s<18446744073709551616) (hmn:many<=ms.length):Pure zP 145 [eU s,eI many,.rp [.f (.func g) fi ca],.rp (UM p gen ms)] (.b (Cq tog (EM p ms) (Bi s many))):=by
 refine Pure.of ?_;refine tv kZ ?_;have hs:=Sn
 conv=>whnf
 repeat'((first|clear U K|apply st|(apply zk;intro K U)|refine zY ?_|refine zs fun Z hs=>?_|refine zo fun nn hnn Z hs=>?_|fail)<;>conv=>whnf)
 refine Ay (Ao.mono (mH h hcan hs64 hmn many 0 [] true (by omega) (fun x hx=>by cases hx) (by simp) _ hs) ?_);clear hs;rintro r Z ⟨rfl,hs⟩;refine zz ?_;(repeat clear U K);repeat intro K U
 exact AH rfl
end
end Go.Gl
namespace Go.Gl
open Go.Proofs
attribute [local irreducible] Ao Ai AY AO AJ AX AN AP AI AW AK AL Ak Au Sat AT Ar Aa W
def iR {n k:Nat} (h:k<n):(BT n)[k]? =some (k:Int):=by
 rw[BT,Np,List.getElem?_range h];rfl
end Go.Gl
namespace Go.Gl
open Go.Proofs
def iP {w:AG} (hw:Cn w) {ls:List Fact} (h: ∀x∈ls,C6 w x) (hlen:ls.length<900):ER w (kg ls):=by
 have hadd:=Oa (by have:=hw.1.1;omega) h;have hr:=ZG hw h hlen;have hW: ∀x∈ls,Dc w x:=fun x hx=>Fc (h x hx)
 refine⟨fun a p=>?_,fun a p=>?_,fun a p hpl=>?_,fun a p s hs=>wc hW hs⟩
 .obtain⟨h1,h2,h3,h4⟩:=fU hadd a p
  exact⟨h1,h2,by omega,by omega⟩
 .rw[(LS (Fv ls a p).core).1]
  exact hr.low a p
 .have h0:=hr.short a p hpl
  refine List.eq_nil_iff_forall_not_mem.2 fun s hs=>?_
  have:=((Fv ls a p).AF s).1 hs;rw[h0]at this;cases this
attribute [local irreducible] Ao Ai AY AO AJ AX AN AP AI AW AK AL Ak Au Sat AT Ar Aa W
def gu {kf:Int->List Int->Kn} {L:Nat} (g:FuncId) (fi ca:List V) (can:Int->Bool) (hcan: ∀a:Int,0<=a->a<3-> ∀es,Bx kf es->BK zP g (fi++[CI a []]++ca) (By L es) fun r post=>r= .ret (.b (can a))/\Ie kf L es post) {es:List Bt} (h:Bx kf es) :
    BK zP 92 [.f (.func g) fi ca] (By L es) fun r post=>r= .ret (.b ((BT 3).all can))/\Ie kf L es post:=by
 intro Z hs;have hM:=Mx;have hT:(BT 3).all can=(BT 3).all can:=rfl;generalize hR:(BT 3).all can=R at hT ⊢;refine xA kZ ?_;refine zz ?_;(repeat clear U K);repeat intro K U
 refine Du 3 (fun k (_:List Bt)=>[(4,eI (Bj k))]) (fun _ x=>By L x) (fun k x=>(Bx kf x/\J7 es x)/\R=((BT 3).drop k).all can) es rfl ⟨⟨h,.refl _⟩,hR.symm⟩ hs ?_;clear hs hR hT;rintro k x Z hk ⟨⟨hi,hx⟩,hn⟩ hs;have hck:Bj k=k:=Av (by omega);rcases Nat.lt_or_ge k 3 with hlt|hge
 .rw[drop_cons (iR hlt),W5]at hn
  have hc1:=hcan (Bj k) (by omega) (by omega) x hi;have e:can (Bj k)=can (k:Int):=by rw[hck]
  rw[e]at hc1;cases hB:can (k:Int)<;>rw[hB]at hn hc1
  all_goals
   conv=>whnf
   repeat'((first|clear U K|apply st|(apply zk;intro K U)|refine zY ?_|(refine zb (fun hc=>?_) (fun hc=>?_)<;>try exact⟨⟩)|fail)<;>conv=>whnf)
   refine Ay (hc1.use (rest:=[]) (by simpa using hs) ?_);clear hs;rintro r post Z ⟨rfl,es2,hx2,hi2,rfl⟩ hs;rw[Fj]at hs;refine zz ?_;(repeat clear U K);repeat intro K U
  .exact AH ⟨_,⟨by rw[hn];rfl,es2,hx.trans hx2,hi2,rfl⟩,hs⟩
  .exact⟨hlt,es2,rfl,⟨⟨hi2,hx.trans hx2⟩,by rw[hn];rfl⟩,hs⟩
 .rw[List.drop_of_length_le (by rw[Hy];omega)]at hn
  conv=>whnf
  repeat'((first|clear U K|apply st|(apply zk;intro K U)|refine zY ?_|(refine zb (fun hc=>?_) (fun hc=>?_)<;>try exact⟨⟩)|fail)<;>conv=>whnf)
  all_goals try(exfalso;omega)
  all_goals exact AH ⟨_,⟨by rw[hn];rfl,x,hx,hi,rfl⟩,hs⟩
end Go.Gl
namespace Go.Gl
open Go.Proofs
abbrev uw (w:AG) (us:List Nat) (L:Nat) (cs:List Int) (f:Bool):List V:=[.rp (gW w us),.m L,.l (iL cs) f]
attribute [local irreducible] Ao Ai AY AO AJ AX AN AP AI AW AK AL Ak Au Sat AT Ar Aa W
def SW (w : AG) (hw:Cn w) {kf:Int->List Int->Kn} (hr:ER w kf) (cs:List Int) (f:Bool) (hcs:cs.length<=3) {a:Int} (ha:0<=a) {p:List Int} (hp:p.length<=2) (fit:Nat->Bool) (hfit:p= []/\fit=Hi cs a\/p≠[]/\fit=fun _=>true) (can:Int->Bool) {L:Nat}
    (hcan: ∀s∈(kf a p).AF,∀es,Bx kf es->BK zP 96 [.a (uw w (B1 w.parents) L cs f),CI a (p++[s])] (By L es) fun r post=>r= .ret (.b (can s))/\Ie kf L es post) {es:List Bt} (h:Bx kf es) :
    BK zP 96 [.a (uw w (B1 w.parents) L cs f),CI a p] (By L es) fun r post=>r= .ret (.b ((List.range (3+w.parents.length)).any fun c=>decide (1<=c)&&(fit c&&Ul w kf a p can c)))/\Ie kf L es post:=by
 intro Z hs;have hM:=Mx;have hu:ur (B1 w.parents):=HA _ _ (by have:=hw.1.1;omega);have hul:(B1 w.parents).length=3+w.parents.length:=Df _ _;have hwp:=hw.1.1;have hint:=fun es (h:Bx kf es)=>yZ w hr h (L:=L) (a:=a) hp
 have hnon:=fun es (h:Bx kf es)=>wS w hr h (L:=L) (a:=a) hp
 have hobj:=fun up hup es (hi:Bx kf es)=>mB w hw (B1 w.parents) hr hp up hup 96 [.a (uw w (B1 w.parents) L cs f)] [] can (L:=L) hcan (es:=es) hi
 have hcP: ∀c,Ul w kf a p can c=if c=1 then Gv kf a p else if c=2 then EA kf a p else UU w kf a p ((B1 w.parents).getD c 0) can:=fun _=>rfl
 generalize Ul w kf a p can=cP at *;generalize B1 w.parents=us at *;have eul:((us.map fun u=>[eU u]).length:Int)=us.length:=by simp
 have hR0:((List.range (3+w.parents.length)).any fun c=>decide (1<=c)&&(fit c&&cP c))=((List.range us.length).drop 1).any fun c=>decide (1<=c)&&(fit c&&cP c):=by
  rw[hul,show 3+w.parents.length=(2+w.parents.length)+1 by omega,List.range_succ_eq_map];simp
 generalize ((List.range (3+w.parents.length)).any fun c=>decide (1<=c)&&(fit c&&cP c))=R at *;refine w7 kZ ?_;refine zz ?_;(repeat clear U K);repeat intro K U
 refine Du (us.length - 1) (fun k (_:List Bt)=>[(5,eI ((k+1:Nat):Int))]) (fun _ x=>By L x) (fun k x=>(Bx kf x/\J7 es x)/\R=((List.range us.length).drop (k+1)).any fun c=>decide (1<=c)&&(fit c&&cP c)) es rfl ⟨⟨h,.refl _⟩,hR0⟩ hs ?_;clear hs hR0;rintro k x Z hk ⟨⟨hi,hx⟩,hn⟩ hs;have hwk:IntKind.i64.wrap (((k+1:Nat):Int)+1)=((k+1+1:Nat):Int):=by rw[wrap64 (by omega) (by omega)];omega
 rcases Nat.lt_or_ge k (us.length - 1)with hlt|hge
 .have hrk : (List.range us.length)[k+1]? =some (k+1):=List.getElem?_range (by omega)
  rw[drop_cons hrk,Qj,decide_eq_true (show 1<=k+1 by omega),Ed]at hn;obtain⟨u,hu2⟩: ∃u,us[k+1]? =some u:=⟨_,Di (by omega)⟩
  have hu3:us[(((k+1:Nat):Int)).toNat]? =some u:=by rw[Hc];exact hu2
  have hug:us.getD (k+1) 0=u:=by rw[Dh,hu2];rfl
  have hu64:u<18446744073709551616:=hu u (Dn hu2);have hck:=hcP (k+1);rw[hug]at hck
  have d216:k+1<3->BK zP 154 [.a (gv w us L),CI a p,eI ((k+1:Nat):Int)] (By L x) fun r post=>r= .ret (.b (cP (k+1)))/\Ie kf L x post:=fun h3=>by
   rcases k with _|_|k
   .rw[hck];exact hint x hi
   .rw[hck];exact hnon x hi
   .omega
  have d217:3<=k+1->BK zP 155 [.a (gv w us L),CI a p,eU u,.f (.func 96) [.a (uw w us L cs f)] []] (By L x) fun r post=>r= .ret (.b (cP (k+1)))/\Ie kf L x post:=fun h3=>by
   rw[hck,if_neg (by omega),if_neg (by omega)];exact hobj u hu64 x hi
  clear hck hint hnon hobj hcP;generalize cP (k+1)=B at *;rcases hfit with⟨rfl,rfl⟩|⟨hpn,rfl⟩
  .by_cases hac:a<(cs.length:Int)
   .obtain ⟨y,hy⟩: ∃y,cs[a.toNat]? =some y:=⟨_,Di (by omega)⟩
    have hfv:Hi cs a (k+1)=(y==((k+1:Nat):Int)):=by
     rw[Hi,decide_eq_false (by omega),Bool.false_or,Dh,hy];rfl
    rw[hfv]at hn;by_cases hyk:y=((k+1:Nat):Int)
    .rw [Cy.2 hyk,Ed]at hn
     cases B
     all_goals
      conv=>whnf
      repeat'((first|clear U K|apply st|(apply zk;intro K U)|refine zY ?_|(refine zb (fun hc=>?_) (fun hc=>?_)<;>try exact⟨⟩)|fail)<;>conv=>whnf)
      all_goals try(exfalso;omega)
      all_goals try(exfalso;simp at hc;done)
      all_goals
       first
        | refine(d216 (by omega)).use (rest:=[]) (by simpa using hs) ?_
        | refine(d217 (by omega)).use (rest:=[]) (by simpa using hs) ?_
       clear hs;rintro r post Z ⟨rfl,es2,hx2,hi2,rfl⟩ hs;rw[Fj]at hs
       conv=>whnf
       repeat'((first|clear U K|apply st|(apply zk;intro K U)|refine zY ?_|(refine zb (fun hc=>?_) (fun hc=>?_)<;>try exact⟨⟩)|fail)<;>conv=>whnf)
       first
        | exact AH ⟨_,⟨by rw[hn];rfl,es2,hx.trans hx2,hi2,rfl⟩,hs⟩
        | exact⟨by omega,es2,by rw[hwk];rfl,⟨⟨hi2,hx.trans hx2⟩,by rw[hn];rfl⟩,hs⟩
    .rw[beq_eq_false_iff_ne.2 hyk,Bool.false_and,Bool.false_or]at hn
     conv=>whnf
     repeat'((first|clear U K|apply st|(apply zk;intro K U)|refine zY ?_|(refine zb (fun hc=>?_) (fun hc=>?_)<;>try exact⟨⟩)|fail)<;>conv=>whnf)
     all_goals try(exfalso;omega)
     all_goals try(exfalso;simp at hc;done)
     all_goals try exact absurd (by assumption) hyk
     all_goals try exact absurd rfl (by assumption)
     all_goals exact⟨by omega,x,by rw[hwk];rfl,⟨⟨hi,hx⟩,hn⟩,hs⟩
   .have hfv:Hi cs a (k+1)=true:=by rw[Hi,decide_eq_true (by omega)];rfl
    rw[hfv,Ed]at hn;cases B
    all_goals
     conv=>whnf
     repeat'((first|clear U K|apply st|(apply zk;intro K U)|refine zY ?_|(refine zb (fun hc=>?_) (fun hc=>?_)<;>try exact⟨⟩)|fail)<;>conv=>whnf)
     all_goals try(exfalso;omega)
     all_goals try(exfalso;simp at hc;done)
     all_goals
      first
       | refine(d216 (by omega)).use (rest:=[]) (by simpa using hs) ?_
       | refine(d217 (by omega)).use (rest:=[]) (by simpa using hs) ?_
      clear hs;rintro r post Z ⟨rfl,es2,hx2,hi2,rfl⟩ hs;rw[Fj]at hs
      conv=>whnf
      repeat'((first|clear U K|apply st|(apply zk;intro K U)|refine zY ?_|(refine zb (fun hc=>?_) (fun hc=>?_)<;>try exact⟨⟩)|fail)<;>conv=>whnf)
      first
       | exact AH ⟨_,⟨by rw[hn];rfl,es2,hx.trans hx2,hi2,rfl⟩,hs⟩
       | exact⟨by omega,es2,by rw[hwk];rfl,⟨⟨hi2,hx.trans hx2⟩,by rw[hn];rfl⟩,hs⟩
  .rw [Ed]at hn
   have hpl:p.length≠0:=fun e=>hpn (W7.1 e)
   cases B
   all_goals
    conv=>whnf
    repeat'((first|clear U K|apply st|(apply zk;intro K U)|refine zY ?_|(refine zb (fun hc=>?_) (fun hc=>?_)<;>try exact⟨⟩)|fail)<;>conv=>whnf)
    all_goals try(exfalso;omega)
    all_goals try(exfalso;simp at hc;done)
    all_goals
     first
      | refine(d216 (by omega)).use (rest:=[]) (by simpa using hs) ?_
      | refine(d217 (by omega)).use (rest:=[]) (by simpa using hs) ?_
     clear hs;rintro r post Z ⟨rfl,es2,hx2,hi2,rfl⟩ hs;rw[Fj]at hs
     conv=>whnf
     repeat'((first|clear U K|apply st|(apply zk;intro K U)|refine zY ?_|(refine zb (fun hc=>?_) (fun hc=>?_)<;>try exact⟨⟩)|fail)<;>conv=>whnf)
     first
      | exact AH ⟨_,⟨by rw[hn];rfl,es2,hx.trans hx2,hi2,rfl⟩,hs⟩
      | exact⟨by omega,es2,by rw[hwk];rfl,⟨⟨hi2,hx.trans hx2⟩,by rw[hn];rfl⟩,hs⟩
 .rw[List.drop_of_length_le (by rw[List.length_range];omega),List.any_nil]at hn
  conv=>whnf
  repeat'((first|clear U K|apply st|(apply zk;intro K U)|refine zY ?_|(refine zb (fun hc=>?_) (fun hc=>?_)<;>try exact⟨⟩)|fail)<;>conv=>whnf)
  all_goals try(exfalso;omega)
  all_goals exact AH ⟨_,⟨by rw[hn],x,hx,hi,rfl⟩,hs⟩
def ny (w:AG) (hw:Cn w) {kf:Int->List Int->Kn} (hr:ER w kf) (cs:List Int) (f:Bool) (hcs:cs.length<=3) {a:Int} (ha:0<=a) {L:Nat}: ∀(d:Nat) (fit:Nat->Bool) (p:List Int),p.length+d=2->(p= []/\fit=Hi cs a\/p≠[]/\fit=fun _=>true)-> ∀es,Bx kf es->
    BK zP 96 [.a (uw w (B1 w.parents) L cs f),CI a p] (By L es) fun r post=>r= .ret (.b (Q2 w kf a d fit p))/\Ie kf L es post:=by
 intro d
 induction d with
 | zero=>
   intro fit p hp hfit es h;rw[Q2];exact SW w hw hr cs f hcs ha (by omega) fit hfit _ (fun s hs=>by rw[hr.short a p (by omega)]at hs;cases hs) h
 | succ d ih=>
   intro fit p hp hfit es h;rw[Q2];exact SW w hw hr cs f hcs ha (by omega) fit hfit _ (fun s _ es h=>ih (fun _=>true) (p++[s]) (by simp;omega) (.inr ⟨by simp,rfl⟩) es h) h
def TY (w:AG) (hw:Cn w) (cs:List Int) (f:Bool) (hcs:cs.length<=3):Us 95 [] [.rp [.rp (gW w (B1 w.parents))],.rp [.l (iL cs) f]] w (IV w cs):=by
 intro l b hl hlen;refine Pure.of ?_;show Ao zP 95 [Kx l b,.rp [.rp (gW w (B1 w.parents))],.rp [.l (iL cs) f]] _ _;have hr:=iP hw hl hlen;have hlk:=kC w (B1 w.parents) l b (Oa (by have:=hw.1.1;omega) hl) hlen;have hT:IV w cs l=(BT 3).all fun a=>Q2 w (kg l) a 2 (Hi cs a) []:=rfl
 rw[hT];refine w8 kZ ?_;have hs:=Sn;refine zz ?_;(repeat clear U K);repeat intro K U
 refine hlk.use (rest:=[]) (by simpa using hs) ?_;clear hs;rintro r post Z ⟨L,es,rfl,hinv,rfl⟩ hs;rw[Fj]at hs
 conv=>whnf
 repeat'((first|apply st|refine rk ?_ ?_|exact fun s e=>by cases e;rfl|fail)<;>conv=>whnf)
 refine(gu 96 [.a (uw w (B1 w.parents) L cs f)] [] (fun a=>Q2 w (kg l) a 2 (Hi cs a) []) (fun a h0 _ es hi=>ny w hw hr cs f hcs h0 2 (Hi cs a) [] rfl (.inl ⟨rfl,rfl⟩) es hi) hinv).use (rest:=[]) (by simpa using hs) ?_;clear hs;rintro r post Z ⟨rfl,es2,hx2,hi2,rfl⟩ hs;refine zz ?_;(repeat clear U K);repeat intro K U
 exact AH rfl
end Go.Gl
namespace Go.Gl
open Go.Proofs
def FO (so:Nat->Nat->Bool):Nat->Nat->Nat->List Nat
 | 0,many,s=>if so s many then [s]else []
 | d+1,many,s=>if so s many then FO so d (many+1) s++FO so d (many+1) (s|||2 ^ many)else []
def Qc (s n:Nat):Bi s (n+1)=Bi s n++[s.testBit n]:=by simp[Bi,List.range_succ]
def Km {s n:Nat} (h:s<2 ^ n):Bi (s|||2 ^ n) (n+1)=Bi s n++[true]/\Bi s (n+1)=Bi s n++[false]/\s|||2 ^ n<2 ^ (n+1)/\s<2 ^ (n+1):=by
 have hp:2 ^ n<2 ^ (n+1):=Nat.pow_lt_pow_right (by omega) (by omega);have hn:s.testBit n=false:=Nat.testBit_lt_two_pow h;refine⟨?_,by rw[Qc,hn],Nat.or_lt_two_pow (by omega) hp,by omega⟩;rw[Qc,EZ,hn];simp only[beq_self_eq_true,Bool.or_true];congr 1;refine List.map_congr_left fun i hi=>?_
 rw[EZ,beq_eq_false_iff_ne.2 (by have:=List.mem_range.1 hi;omega),Bool.or_false]
def PJ {so:Nat->Nat->Bool} {E:List Bool->Bool}: ∀(d many s:Nat),s<2 ^ many->(∀s n,n<=many+d->so s n=E (Bi s n))->(FO so d many s).map (fun x=>Bi x (many+d))=GW E d (Bi s many)/\ ∀x∈FO so d many s,x<2 ^ (many+d)
 | 0,many,s,hs,hE=>by
   rw[FO,GW,hE s many (by omega)];split
   .exact⟨rfl,fun x hx=>by rw[MG.1 hx];exact hs⟩
   .exact⟨rfl,fun x hx=>by cases hx⟩
 | d + 1,many,s,hs,hE=>by
   obtain⟨b1,b2,b3,b4⟩:=Km hs;obtain⟨i1,i2⟩:=PJ (so:=so) (E:=E) d (many+1) s b4 (fun s n hn=>hE s n (by omega));obtain⟨j1,j2⟩:=PJ (so:=so) (E:=E) d (many+1) (s|||2 ^ many) b3 (fun s n hn=>hE s n (by omega));rw[b2]at i1;rw[b1]at j1;rw[show many+1+d=many+(d+1) by omega]at i1 i2 j1 j2;rw[FO,GW,hE s many (by omega)];split
   .refine⟨by rw[Yh,i1,j1],fun x hx=>?_⟩
    rcases Dm.1 hx with hx|hx
    .exact i2 x hx
    .exact j2 x hx
   .exact⟨rfl,fun x hx=>by cases hx⟩
abbrev soV (g:FuncId) (fi ca:List V) (p:Prog) (gen:Int) (ms:List Int):V:= .f (.func 145) [] [.rp [.f (.func g) fi ca],.rp (UM p gen ms)]
abbrev v8 (p:Prog) (gen:Int) (ms:List Int) (yv:V) (nS nW:Nat):V:= .f (.func 149) [] [.p nS 0,.rp (UM p gen ms),.rp [yv],.p nW 0]
section
variable {g:FuncId} {fi ca:List V} {p:Prog} {gen:Int} {ms:List Int} {tog:List Fact->Bool}
attribute [local irreducible] Ao Ai AY AO AJ AX AN AP AI AW AK AL Ak Au Sat AT Ar Aa W
def PB {α S:Type} (P:Program) (x:V) (ea:α->V) (HL:S->List At->Prop) (stp:α->S->Bool×S) (D:α->S->Prop) (pre:List At):Prop:=
 ∀y s,D y s-> ∀l Z,HL s l->Sat Z (pre++l)->Ak P x [ea y] Z fun r Z'=>r= .ret (.b (stp y s).1)/\ ∃l',HL (stp y s).2 l'/\Sat Z' (pre++l')
def PB.use {α S:Type} {P:Program} {x:V} {ea:α->V} {HL:S->List At->Prop} {stp:α->S->Bool×S} {D:α->S->Prop} {pre:List At} (h:PB P x ea HL stp D pre) {y:α} {s:S} (hd:D y s) {l:List At} {Z:AE} (hl:HL s l) (hs:Sat Z (pre++l)) {k kp:V->AE->Prop} (hk: ∀l' Z',HL (stp y s).2 l'->Sat Z' (pre++l')->k (.b (stp y s).1) Z'):Ak P x [ea y] Z (qk k kp):=
 (h y s hd l Z hl hs).mono fun r Z' ⟨e,l',h1,h2⟩=>by rw[e];exact hk l' Z' h1 h2
abbrev Qw (g:FuncId) (fi ca:List V) (p:Prog) (gen:Int) (ms:List Int) (yv:V) (nS nW:Nat):List At:=[.box nW [v8 p gen ms yv nS nW],.box nS [soV g fi ca p gen ms]]
def lG {S:Type} (h:N0 p ms) (hcan:Us g fi ca (AM p) tog) {fn:Fn} {fiy cay:List V} {HL:S->List At->Prop} {stp:Nat->S->Bool×S} {D:Nat->S->Prop} {nS nW:Nat}
    (hy:PB zP (.f fn fiy cay) eU HL stp D (Qw g fi ca p gen ms (.f fn fiy cay) nS nW)) :
    ∀(d many s:Nat) (z0:S),many+d=ms.length->s<2 ^ many->Ns stp D (FO (fun s n=>Cq tog (EM p ms) (Bi s n)) d many s) z0-> ∀l Z,HL z0 l->Sat Z (Qw g fi ca p gen ms (.f fn fiy cay) nS nW++l)->
    Ao zP 149 [eU s,eI many,.p nS 0,.rp (UM p gen ms),.rp [.f fn fiy cay],.p nW 0] Z fun r Z'=>r= .ret (.b (Bp stp (FO (fun s n=>Cq tog (EM p ms) (Bi s n)) d many s) z0).1)/\
     ∃l',HL (Bp stp (FO (fun s n=>Cq tog (EM p ms) (Bi s n)) d many s) z0).2 l'/\Sat Z' (Qw g fi ca p gen ms (.f fn fiy cay) nS nW++l'):=by
 have hM:=Mx;have hfew:=h.yG;intro d
 induction d with
 | zero=>
   intro many s z0 hmd hs2 hok l Z hl hs;have hs64:s<18446744073709551616:=Nat.lt_of_lt_of_le hs2 (Nat.le_trans (Nat.pow_le_pow_right (by omega) (show many<=8 by omega)) (by decide));have c1:=dz (gen:=gen) h hcan (s:=s) (many:=many) hs64 (by omega);rw[FO]at hok ⊢;cases hB:Cq tog (EM p ms) (Bi s many)<;>rw[hB]at c1
   .simp only[hB,Jf,if_false]at hok ⊢
    refine Ip kZ ?_
    conv=>whnf
    repeat'((first|clear U K|apply st|(apply zk;intro K U)|refine zY ?_|refine Ay (c1.use ?_)|fail)<;>conv=>whnf)
    all_goals exact AH ⟨rfl,l,hl,hs⟩
   .simp only[hB,if_true]at hok ⊢
    rw[Lx];refine Ip kZ ?_
    conv=>whnf
    repeat'((first|clear U K|apply st|(apply zk;intro K U)|refine zY ?_|refine Ay (c1.use ?_)|(refine zb (fun hc=>?_) (fun hc=>?_)<;>try exact⟨⟩)|fail)<;>conv=>whnf)
    all_goals try(exfalso;simp at hc;omega)
    refine hy.use hok.1 hl hs ?_;clear hs;intro l' Z hl' hs;refine zz ?_;(repeat clear U K);repeat intro K U
    exact AH ⟨rfl,l',hl',hs⟩
 | succ d ih=>
   intro many s z0 hmd hs2 hok l Z hl hs;have hs64:s<18446744073709551616:=Nat.lt_of_lt_of_le hs2 (Nat.le_trans (Nat.pow_le_pow_right (by omega) (show many<=8 by omega)) (by decide));have c1:=dz (gen:=gen) h hcan (s:=s) (many:=many) hs64 (by omega);obtain⟨-,-,b3,b4⟩:=Km hs2;rw[FO]at hok ⊢;cases hB:Cq tog (EM p ms) (Bi s many)<;>rw[hB]at c1
   .simp only[hB,Jf,if_false]at hok ⊢
    refine Ip kZ ?_
    conv=>whnf
    repeat'((first|clear U K|apply st|(apply zk;intro K U)|refine zY ?_|refine Ay (c1.use ?_)|fail)<;>conv=>whnf)
    all_goals exact AH ⟨rfl,l,hl,hs⟩
   .simp only[hB,if_true]at hok ⊢
    obtain⟨ok1,ok2⟩:=LD hok;have i1:=ih (many+1) s z0 (by omega) b4 ok1;have i2:=fun z0 h=>ih (many+1) (s|||2 ^ many) z0 (by omega) b3 h
    have c2:=MR s (many:Int) hs64 (by omega) (by omega);rw[Hc]at c2;have hwi:IntKind.i64.wrap ((many:Int)+1)=((many+1:Nat):Int):=by rw[wrap64 (by omega) (by omega)];omega
    rw[<-hwi]at i1 i2;rw[Ix];generalize FO (fun s n=>Cq tog (EM p ms) (Bi s n)) d (many+1) s=A1 at *;generalize FO (fun s n=>Cq tog (EM p ms) (Bi s n)) d (many+1) (s|||2 ^ many)=A2 at *;generalize hx1:Bp stp A1 z0=x1 at *;obtain⟨q1,z1⟩:=x1;dsimp only at i1 ok2 ⊢;refine Ip kZ ?_
    conv=>whnf
    repeat'((first|clear U K|apply st|(apply zk;intro K U)|refine zY ?_|refine Ay (c1.use ?_)|(refine zb (fun hc=>?_) (fun hc=>?_)<;>try exact⟨⟩)|fail)<;>conv=>whnf)
    all_goals try(exfalso;simp at hc;omega)
    refine Ay (Ao.mono (i1 l Z hl hs) ?_);clear hs;rintro r Z ⟨rfl,l1,hl1,hs⟩;cases q1
    .conv=>whnf
     repeat'((first|clear U K|apply st|refine rk ?_ ?_|exact fun s e=>by cases e;rfl|fail)<;>conv=>whnf)
     exact AH ⟨rfl,l1,hl1,hs⟩
    .have i3:=i2 z1 (ok2 rfl)
     conv=>whnf
     repeat'((first|apply st|refine zY ?_|refine rk ?_ ?_|exact fun s e=>by cases e;rfl|refine zC ?_|fail)<;>conv=>whnf)
     refine Ay (Ao.mono (i3 l1 Z hl1 hs) ?_);clear hs;rintro r Z ⟨rfl,l2,hl2,hs⟩;refine zz ?_;(repeat clear U K);repeat intro K U
     exact AH ⟨rfl,l2,hl2,hs⟩
end
end Go.Gl
namespace Go.Gl
open Go.Proofs
def Wi {ms:List Int} {bs:List Bool} {k:Nat} {m:Int} {b:Bool} (hm:ms[k]? =some m) (hb:bs[k]? =some b):ET ms (bs.take (k+1))=ET ms (bs.take k)++(if b then [m]else []):=by
 have hz : ms.zip (bs.take (k+1))=ms.zip (bs.take k)++[(m,b)]:=by
  have h1:(ms.zip bs)[k]? =some (m,b):=List.getElem?_zip_eq_some.2 ⟨hm,hb⟩
  have e: ∀(a:List Int) (c:List Bool) (j:Nat),a.zip (c.take j)=(a.zip c).take j:=fun a=>by
   induction a with
   | nil=>intro c j;simp
   | cons x r ih=>
     intro c j;cases j with
     | zero=>simp
     | succ j=>
       cases c with
       | nil=>simp
       | cons y q=>simp[ih q j]
  rw[e,e,List.take_add_one,h1];rfl
 rw[ET,ET,hz,List.filter_append,Yh];cases b<;>rfl
def YE (ms:List Int) (bs:List Bool):(ET ms bs).length<=bs.length:=by
 rw[ET,C4];refine Nat.le_trans (W9 _ _) ?_;rw[List.length_zip];exact Nat.min_le_right _ _
def JT {E:List Bool->Bool}: ∀(k:Nat) (pre:List Bool),(GW E k pre).length<=2 ^ k
 | 0,pre=>by
   rw[GW];split<;>simp
 | k+1,pre=>by
   rw[GW];have h1:=JT (E:=E) k (pre++[false]);have h2:=JT (E:=E) k (pre++[true]);split
   .rw[RG,Nat.pow_succ];omega
   .simp
attribute [local irreducible] Ao Ai AY AO AJ AX AN AP AI AW AK AL Ak Au Sat AT Ar Aa W
abbrev dH (x:List Int×Int):List V:=[.l (iL x.1) false,eI x.2]
def mw:Ei dH 2:=fun x=>⟨rfl,fun v hv=>by
 rcases FR.1 hv with rfl|hv
 .rfl
 .rw[MG.1 hv];rfl⟩
end Go.Gl
