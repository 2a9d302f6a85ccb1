import Derived.Test.YtegbmnmnaijioaaGreatProg
import Derived.KernelRfl
import Derived.Test.YtegbmnmnaijioaaGreatY3
import Derived.Test.YtegbmnmnaijioaaGreatY4
import Derived.Test.YtegbmnmnaijioaaGreatY5
import Derived.Test.YtegbmnmnaijioaaGreatY6
import Derived.Test.YtegbmnmnaijioaaGreatY7
import Derived.Test.YtegbmnmnaijioaaGreatY8
set_option linter.all false
set_option linter.defProp false
set_option maxHeartbeats 8000000
noncomputable section
namespace Go.Gl
open Go.Proofs
def PG {ms:List Int} {bs:List Bool} {k:Nat} {m:Int} {b:Bool} (hm:ms[k]? =some m) (hb:bs[k]? =some b):Cz ms (bs.take (k+1))=Cz ms (bs.take k)++(if b then [m]else []):=by
 have hz : ms.zip (bs.take (k+1))=ms.zip (bs.take k)++[(m,b)]:=by
  have h1:(ms.zip bs)[k]? =some (m,b):=List.getElem?_zip_eq_some.2 ⟨hm,hb⟩
  have e: ∀(a:List Int) (c:List Bool) (j:Nat),a.zip (c.take j)=(a.zip c).take j:=fun a=>by
   induction a with
   | nil=>intro c j;simp
   | cons x r ih=>
     intro c j;cases j with
     | zero=>simp
     | succ j=>
       cases c with
       | nil=>simp
       | cons y q=>simp[ih q j]
  rw[e,e,List.take_add_one,h1];rfl
 rw[Cz,Cz,hz,List.filter_append,SU];cases b<;>rfl
def Ry (ms:List Int) (bs:List Bool):(Cz ms bs).length<=bs.length:=by
 rw[Cz,B9];refine Nat.le_trans (Ou _ _) ?_;rw[List.length_zip];exact Nat.min_le_right _ _
def Fp {E:List Bool->Bool}: ∀(k:Nat) (pre:List Bool),(GX E k pre).length<=2 ^ k
 | 0,pre=>by
   rw[GX];split<;>simp
 | k+1,pre=>by
   rw[GX];have h1:=Fp (E:=E) k (pre++[false]);have h2:=Fp (E:=E) k (pre++[true]);split
   .rw[Nl,Nat.pow_succ];omega
   .simp
attribute [local irreducible] Au Am Ae AR AK AY AQ AS AJ AX AM AO Ao A0 Sat AU Ay Af W
abbrev YY (x:List Int×Int):List V:=[.l (iL x.1) false,eI x.2]
def bo:Ec YY 2:=fun x=>⟨rfl,fun v hv=>by
 rcases GM.1 hv with rfl|hv
 .rfl
 .rw[KV.1 hv];rfl⟩
end Go.Gl
namespace Go.Gl
open Go.Proofs
def bt {Z Z2:AE} {v v':V} (h:F3 Z Z2 v v'): ∀fi ca:List V,DW Z Z2 (fi++[v]++ca) (fi++[v']++ca)
 | [],ca=> .cons h (bu ca)
 | x::r,ca=> .cons (.refl _) (bt h r ca)
where bu: ∀ca:List V,DW Z Z2 ca ca
 | []=> .nil
 | x::r=> .cons (.refl _) (bu r)
def ABY {Z:AE} {sz:Nat} {es:List (List V)} {f:Bool} (he: ∀e∈es,e.length=sz) {K:V->AE->Prop} (hk:K (.l es true) Z):AQ Z sz (.l es f) none (some (.i .i64 (es.length:Int))) (some (.i .i64 (es.length:Int))) K:=by
 refine⟨he,?_⟩;simp only[Ow];refine⟨Int.le_refl _,Int.natCast_nonneg _,Int.le_refl _,trivial,?_⟩;simpa using hk
attribute [local irreducible] Au Am Ae AR AK AY AQ AS AJ AX AM AO Ao A0 Sat AU Ay Af W
def ABZ (ls:List Fact) (b:Bool) (hl:ls.length<=1000000):Pure zP 279 [.l (D3 ls) b] (.l (D3 ls) true):=by
 have hM:=Mx;refine xM kZ ?_;have hs:=Sn;refine zz ?_;(repeat clear U K);repeat intro K U
 refine ABY (fun x hx=>by obtain⟨y,_,rfl⟩:=Il.1 hx;rfl) ?_;exact zW
def aW (g:FuncId) (fi ca:List V) (H:List At) (kf:List Fact->Bool) (D:List Fact->Prop):Prop:= ∀l b,D l-> ∀Z,Sat Z H->Au zP g (fi++[Lb l b]++ca) Z fun r Z'=>r= .ret (.b (kf l))/\Sat Z' H
def ke (f:Fact):Prop:= ∀(c:Bool) (g:FuncId) (fi ca:List V) (H:List At) (kf:List Fact->Bool) (D:List Fact->Prop) (l:List Fact) (b:Bool),
 aW g fi ca H kf D->(∀x∈Cb f c,D (l++x))->l.length+lv f<=500000-> ∀Z,Sat Z H->Au zP 209 [.a (xF f),.b c,Lb l b,.f (.func g) fi ca] Z fun r Z'=>r= .ret (.b ((Cb f c).any fun x=>kf (l++x)))/\Sat Z' H
def nC (A B:List (List Fact)) (kf:List Fact->Bool) (l:List Fact):((WU A B).any fun x=>kf (l++x))=A.any fun x=>B.any fun y=>kf (l++x++y):=by
 rw[JK,Ij,Ij];constructor
 .rintro⟨z,hz,h⟩
  obtain⟨x,hx,y,hy,rfl⟩:=Fo.1 hz;exact⟨x,hx,Ij.2 ⟨y,hy,by rw[PR];exact h⟩⟩
 .rintro⟨x,hx,h⟩
  obtain⟨y,hy,h⟩:=Ij.1 h;exact⟨x++y,Fo.2 ⟨x,hx,y,hy,rfl⟩,by rw[<-PR];exact h⟩
def pF {f k0 k1:Fact} (hk:f.kids= [k0,k1]) (hc1:ke k1) {c:Bool} {g:FuncId} {fi ca:List V} {H:List At} {kf:List Fact->Bool} {D:List Fact->Prop} (hT:aW g fi ca H kf D) :
    aW 278 [] [.rp (xF f),.rp [.b c],.rp [.f (.func g) fi ca]] H (fun m=>(Cb k1 c).any fun y=>kf (m++y)) (fun m=>(∀y∈Cb k1 c,D (m++y))/\m.length+lv k1<=500000):=by
 rintro m b ⟨hd,hml⟩ Z hs;have h1:f.kids[(1:Int).toNat]? =some k1:=by rw[hk];rfl
 show Au zP 278 [Lb m b,.rp (xF f),.rp [.b c],.rp [.f (.func g) fi ca]] Z _;refine xN kZ ?_;refine zz ?_;(repeat clear U K);repeat intro K U
 refine Au.mono (hc1 c g fi ca H kf D m b hT hd hml Z hs) ?_;clear hs;rintro r Z ⟨rfl,hs⟩;refine zz ?_;(repeat clear U K);repeat intro K U
 exact AI ⟨rfl,hs⟩
def mw {w : AF} (f:Fact):Bb w f=true->lv f<=100->ke f:=by
 have hM:=Mx
 induction f using Fact.ind with
 | h f ih=>
   intro hn hv c g fi ca H kf D l b hT hd hll Z hs;have har:=Bn _ hn
   have hnk: ∀k∈f.kids,Bb w k=true:=by
    rw[CO,A9,EG]at hn;exact hn.2
   have hop:f.op=1\/f.op=5\/CK f=true\/f.op=6\/f.op=7:=by
    rw[CO,A9]at hn;have h1:=hn.1;simp only[DE,YX,A9]at h1;rw[M9];simp only[A9,Cp];have h2:=h1.1;split at h2
    .omega
    .split at h2
     .omega
     .simp only[E9,C0]at h2
      omega
   refine yC kZ ?_;have hcs:=K2 f c;rw[Qd]at hcs;rcases hop with h1|h5|hl|h67
   .rw[if_pos h1]at hcs
    rw[hcs]at hd ⊢;cases c
    .rw[if_neg (by decide)]at hd ⊢
     have h0:=hT l b (by simpa using hd [] (.head _)) Z hs
     conv=>whnf
     repeat'((first|clear U K|apply st|(apply zk;intro K U)|refine zY ?_|(refine zb (fun hc=>?_) (fun hc=>?_)<;>try exact⟨⟩)|fail)<;>conv=>whnf)
     refine BO (Au.mono h0 ?_);clear hs h0;rintro r Z ⟨rfl,hs⟩;refine zz ?_;(repeat clear U K);repeat intro K U
     exact AI ⟨by simp,hs⟩
    .rw[if_pos rfl]at hd ⊢
     conv=>whnf
     repeat'((first|clear U K|apply st|(apply zk;intro K U)|refine zY ?_|(refine zb (fun hc=>?_) (fun hc=>?_)<;>try exact⟨⟩)|fail)<;>conv=>whnf)
     exact AI ⟨rfl,hs⟩
   .obtain⟨k,hk,-⟩:=FN har h5
    have hkm:k∈f.kids:=by rw[hk];exact .head _
    have hve:lv f=lv k:=by
     rw[J0 f,Yc,if_pos h5,hk];rfl
    have hvk:lv k<=100:=by omega
    rw[if_neg (by omega),if_pos h5,hk]at hcs;have hcs2:Cb f c=Cb k (!c):=hcs;have h0:f.kids[(0:Int).toNat]? =some k:=by rw[hk];rfl
    rw[hcs2]at hd ⊢
    conv=>whnf
    repeat'((first|clear U K|apply st|(apply zk;intro K U)|refine zY ?_|(refine zb (fun hc=>?_) (fun hc=>?_)<;>try exact⟨⟩)|fail)<;>conv=>whnf)
    refine Au.mono (ih k hkm (hnk k hkm) hvk (!c) g fi ca H kf D l b hT hd (by omega) Z hs) ?_;clear hs;rintro r Z ⟨rfl,hs⟩;refine zz ?_;(repeat clear U K);repeat intro K U
    exact AI ⟨rfl,hs⟩
   .have hlo:=Fy hl
    rw[if_neg (by omega),if_neg (by omega),if_neg (by omega)]at hcs;have hcs2:Cb f c= [[if c then EZ f else f]]:=by rw[hcs];cases c<;>rfl
    rw[hcs2]at hd ⊢;have c1:=ABZ l b (by omega);have hd2:=hd _ (.head _);have e:Jj (if c then EZ f else f)=xF f++[.b c]:=Tb hl c
    conv=>whnf
    repeat'((first|clear U K|apply st|(apply zk;intro K U)|refine zY ?_|refine rk ?_ ?_|exact fun s e=>by cases e;rfl|refine zC ?_|(refine zb (fun hc=>?_) (fun hc=>?_)<;>try exact⟨⟩)|fail)<;>conv=>whnf)
    have hrow:([xF f++[.b c]]:List (List V))= [if c then EZ f else f].map Jj:=by rw[FA,List.map_nil,e]
    refine(?_:AK 88 Z 7 (.l (D3 l) true) (.l [xF f++[.b c]] true) _);rw[hrow];refine Fe (enc:=Jj) (iO hs (es:=D3 l) (sz:=7) (fun x hx=>by obtain⟨y,_,rfl⟩:=Il.1 hx;rfl)) 0 (xs:=l) (ys:=[if c then EZ f else f]) rfl (b:=88) (by simp;omega) Um (fun v Z hs=>?_)
    conv=>whnf
    repeat'((first|apply st|refine rk ?_ ?_|exact fun s e=>by cases e;rfl|fail)<;>conv=>whnf)
    obtain⟨Z2,q1,q2,q3⟩:=HI hs 0 rfl;refine BO (Au.O2 (Au.mono (hT (l++[if c then EZ f else f]) false hd2 Z2 q3) ?_) q1 (bt q2 fi ca));clear hs q1 q2 q3;rintro r Z ⟨rfl,hs⟩;refine zz ?_;(repeat clear U K);repeat intro K U
    exact AI ⟨by simp,hs⟩
   .obtain⟨k0,k1,hk,-,-⟩:=FM har h67
    have hkm0:k0∈f.kids:=by rw[hk];exact .head _
    have hkm1:k1∈f.kids:=by rw[hk];exact .tail _ (.head _)
    have hve:lv f=lv k0+lv k1:=by
     rw[J0 f,Yc,if_neg (by omega),if_pos h67,hk];rfl
    have hvk:lv k0+lv k1<=100:=by omega
    rw[if_neg (by omega),if_neg (by omega),if_pos h67,hk]at hcs;have h0:f.kids[(0:Int).toNat]? =some k0:=by rw[hk];rfl
    have h1:f.kids[(1:Int).toNat]? =some k1:=by rw[hk];rfl
    have i0:=ih k0 hkm0 (hnk k0 hkm0) (by omega);have i1:=ih k1 hkm1 (hnk k1 hkm1) (by omega);by_cases hap:(c != (f.op==7))=true
    .rw [if_pos hap]at hcs
     have hcs2:Cb f c=Cb k0 c++Cb k1 c:=hcs;rw[hcs2]at hd ⊢;rw[List.any_append];have hd3:=fun x hx=>hd x (Pk _ hx)
     have hd4:=fun x hx=>hd x (Ov _ hx)
     clear hcs hcs2 hd
     have h6b:(f.op==6)=c:=by
      rcases h67 with h6|h7
      .rw[h6]at hap ⊢;cases c<;>simp_all
      .rw[h7]at hap ⊢;cases c<;>simp_all
     rcases h67 with h6|h7
     all_goals
      cases c
      all_goals
       conv=>whnf
       repeat'((first|clear U K|apply st|(apply zk;intro K U)|refine zY ?_|(rw[h6b])|(refine zb (fun hc=>?_) (fun hc=>?_)<;>try exact⟨⟩)|fail)<;>conv=>whnf)
       all_goals try(exfalso;simp_all;done)
       all_goals try(exfalso;omega)
     .refine Au.mono (i0 true g fi ca H kf D l b hT hd3 (by omega) Z hs) ?_
      clear hs;rintro r Z ⟨rfl,hs⟩;generalize hB0:((Cb k0 true).any fun x=>kf (l++x))=B0;cases B0
      .refine zz ?_;(repeat clear U K);repeat intro K U
       refine Au.mono (i1 true g fi ca H kf D l b hT hd4 (by omega) Z hs) ?_;clear hs;rintro r Z ⟨rfl,hs⟩;refine zz ?_;(repeat clear U K);repeat intro K U
       exact AI ⟨by rw[hB0];rfl,hs⟩
      .refine zz ?_;(repeat clear U K);repeat intro K U
       exact AI ⟨by rw[hB0];rfl,hs⟩
     .refine Au.mono (i0 false g fi ca H kf D l b hT hd3 (by omega) Z hs) ?_
      clear hs;rintro r Z ⟨rfl,hs⟩;generalize hB0:((Cb k0 false).any fun x=>kf (l++x))=B0;cases B0
      .refine zz ?_;(repeat clear U K);repeat intro K U
       refine Au.mono (i1 false g fi ca H kf D l b hT hd4 (by omega) Z hs) ?_;clear hs;rintro r Z ⟨rfl,hs⟩;refine zz ?_;(repeat clear U K);repeat intro K U
       exact AI ⟨by rw[hB0];rfl,hs⟩
      .refine zz ?_;(repeat clear U K);repeat intro K U
       exact AI ⟨by rw[hB0];rfl,hs⟩
    .rw [if_neg hap]at hcs
     have hcs2:Cb f c=WU (Cb k0 c) (Cb k1 c):=hcs;rw[hcs2]at hd ⊢;rw[nC];have hlx:=SF k0 (Bn _ (hnk k0 hkm0)) c;have hT2:=pF hk i1 (c:=c) hT;have hd5: ∀x∈Cb k0 c,(∀y∈Cb k1 c,D (l++x++y))/\(l++x).length+lv k1<=500000:=fun x hx=>⟨fun y hy=>by rw[PR];exact hd _ (Fo.2 ⟨x,hx,y,hy,rfl⟩),by have:=hlx x hx;rw[Nl];omega⟩
     have h6b:(f.op==6)= !c:=by
      rcases h67 with h6|h7
      .rw[h6]at hap ⊢;cases c<;>simp_all
      .rw[h7]at hap ⊢;cases c<;>simp_all
     have hrun:=fun Z hs=>i0 c 278 [] [.rp (xF f),.rp [.b c],.rp [.f (.func g) fi ca]] H _ _ l b hT2 hd5 (by omega) Z hs
     clear hcs hcs2 hd hd5 hT2;generalize ((Cb k0 c).any fun x=>(Cb k1 c).any fun y=>kf (l++x++y))=B0 at *;rcases h67 with h6|h7
     all_goals
      cases c
      all_goals
       conv=>whnf
       repeat'((first|clear U K|apply st|(apply zk;intro K U)|refine zY ?_|(rw[h6b])|(refine zb (fun hc=>?_) (fun hc=>?_)<;>try exact⟨⟩)|fail)<;>conv=>whnf)
       all_goals try(exfalso;simp_all;done)
       all_goals try(exfalso;omega)
     all_goals
      refine Au.mono (hrun Z hs) ?_;clear hs;rintro r Z ⟨rfl,hs⟩;refine zz ?_;(repeat clear U K);repeat intro K U
      exact AI ⟨rfl,hs⟩
end Go.Gl
namespace Go.Gl
open Go.Proofs
attribute [local irreducible] Au Am Ae AR AK AY AQ AS AJ AX AM AO Ao A0 Sat AU Ay Af W
def jZ:Ec (fun b:Bool=>[V.b b]) 1:=fun x=>⟨rfl,fun v hv=>by rw[KV.1 hv];rfl⟩
abbrev PY (p:Prog) (ms:List Int) (op:Bool) (cs:List Int):List Bool->Bool:=oK (Sd p op cs) (V8 p ms)
def cT (p:Prog) (ms:List Int) (op:Bool) (cs:List Int) (g:Bool) (T:List (List Bool)) (h:gX p ms op cs) (bs:List Bool) (hbs:bs.length<=ms.length) (fb:Bool) :
    Pure zP 240 [.a (z8 p ms op cs g T),.l [] true,eI 0,.l (bL bs) fb] (.b (PY p ms op cs bs)):=by
 have:=zF p ms op cs g T h bs hbs fb bs.length 0 [] (by omega) (fun x hx=>by cases hx) (by simp);exact Pure.arg this (.cons (.refl _) (.cons (.l (fun h=>by cases h) .nil) (.cons (.refl _) (.cons (.refl _) .nil))))
def oh (p : Prog) (ms:List Int) (op:Bool) (cs:List Int) (g:Bool) (T:List (List Bool)) (h:gX p ms op cs): ∀(d:Nat) (bs:List Bool) (fb:Bool),bs.length+d=ms.length->
    BQ zP 161 [.a (z8 p ms op cs g T),.l (bL bs) fb] [] fun r post=> ∃v,r= .ret v/\post= [.own v 1 (EN ((GX (PY p ms op cs) d bs).map (Cz ms)))]:=by
 have hM:=Mx;have hfew:=h.s7;intro d
 induction d with
 | zero=>
   intro bs fb hbd Z hs;have ebl:((bL bs).length:Int)=bs.length:=by simp
   have eml:((iL ms).length:Int)=ms.length:=by simp
   have c1:=cT p ms op cs g T h bs (by omega) fb;rw[GX];cases hB:PY p ms op cs bs<;>rw[hB]at c1
   .refine Uy kZ ?_
    conv=>whnf
    repeat'((first|clear U K|apply st|(apply zk;intro K U)|refine zY ?_|refine zC ?_|fail)<;>conv=>whnf)
    exact AI ⟨_,⟨_,rfl,rfl⟩,D1 hs 1⟩
   .refine Uy kZ ?_
    conv=>whnf
    repeat'((first|clear U K|apply st|(apply zk;intro K U)|refine zY ?_|refine zC ?_|(refine zb (fun hc=>?_) (fun hc=>?_)<;>try exact⟨⟩)|fail)<;>conv=>whnf)
    all_goals try(exfalso;simp at hc;omega)
    refine B1 bs.length (fun k v=>[(5,v),(21,eI (A4 k))]) (fun k v=>[.own v 1 (iL (Cz ms (bs.take k)))]) (fun _ _=>True) (.l [] true) rfl trivial (by simpa[Cz]using D1 hs 1) ?_;clear hs;rintro k v Z hk - hs;have hal:=Ry ms (bs.take k);rw[Jl]at hal;rcases A8 bs hk with⟨b,hb,hlt⟩|hke
    .have hck:A4 k=k:=Ag (by omega)
     obtain⟨m,hm⟩: ∃m,ms[k]? =some m:=⟨_,Cs (by omega)⟩
     have hst:=PG hm hb;have hm2:ms[(A4 k).toNat]? =some m:=by rw[hck,Fi];exact hm
     generalize Cz ms (bs.take k)=zl at *;have hll:zl.length<Aa/\(zl.length+1)*8<=140737488355328:=by omega
     cases b
     .rw[if_neg (by decide),Ez]at hst
      refine zz ?_;(repeat clear U K);repeat intro K U
      exact⟨hlt,_,rfl,trivial,by rw[hst];exact hs⟩
     .rw[if_pos rfl]at hst
      conv=>whnf
      repeat'((first|clear U K|apply st|(apply zk;intro K U)|refine zY ?_|refine aq fun v Z hs hsl=>?_|fail)<;>conv=>whnf)
      exact⟨hlt,_,rfl,trivial,by rw[hst];exact hs⟩
    .rw[List.take_of_length_le (Nat.le_of_eq hke.symm)]at hs
     conv=>whnf
     repeat'((first|(refine sqz ?_;intro K U)|(apply si;intro A B hA hB)|(refine hA _ _ ?_;clear hB B hA A)|(apply U;clear U K)|refine⟨rfl,?_⟩|fail)<;>conv=>whnf)
     refine AA7 hs 0 rfl (fun Z2 h=> .cons (.refl _) (.cons h (.cons (.refl _) (.cons (.refl _) (.cons (.refl _) (.cons (.refl _) .nil)))))) fun Z hs=>?_
     refine zz ?_;(repeat clear U K);repeat intro K U
     exact Mo hs (.refl _ _ _) (by simp)
 | succ d ih=>
   intro bs fb hbd Z hs;have ebl:((bL bs).length:Int)=bs.length:=by simp
   have eml:((iL ms).length:Int)=ms.length:=by simp
   have c1:=cT p ms op cs g T h bs (by omega) fb;rw[GX];cases hB:PY p ms op cs bs<;>rw[hB]at c1
   .refine Uy kZ ?_
    conv=>whnf
    repeat'((first|clear U K|apply st|(apply zk;intro K U)|refine zY ?_|refine zC ?_|fail)<;>conv=>whnf)
    exact AI ⟨_,⟨_,rfl,rfl⟩,D1 hs 1⟩
   .have i1:=ih (bs++[false]) false (by simp;omega)
    have i2:=ih (bs++[true]) false (by simp;omega);have n1:=Fp (E:=PY p ms op cs) d (bs++[false]);have n2:=Fp (E:=PY p ms op cs) d (bs++[true]);have hd8:2 ^ d<=2 ^ 8:=Nat.pow_le_pow_right (by omega) (by omega);rw[if_pos rfl,SU];generalize GX (PY p ms op cs) d (bs++[false])=A1 at *;generalize GX (PY p ms op cs) d (bs++[true])=A2 at *;refine Uy kZ ?_
    conv=>whnf
    repeat'((first|clear U K|apply st|(apply zk;intro K U)|refine zY ?_|refine zC ?_|(refine zb (fun hc=>?_) (fun hc=>?_)<;>try exact⟨⟩)|fail)<;>conv=>whnf)
    all_goals try(exfalso;simp at hc;omega)
    refine Fe (Cq hs 1) 0 (xs:=([]:List Bool)) (ys:=bs) (enc:=fun b:Bool=>[V.b b]) rfl (by simp only[List.length_nil];omega) jZ fun v' Z hs=>?_
    rw[List.nil_append]at hs
    conv=>whnf
    repeat'((first|apply st|refine zY ?_|refine rk ?_ ?_|exact fun s e=>by cases e;rfl|refine aq fun v Z hs hsl=>?_|fail)<;>conv=>whnf)
    obtain⟨Z2,g1,g2,g3⟩:=HI hs 0 rfl;refine Au.O2 (i1.use (rest:=[]) g3 ?_) g1 (.cons (.refl _) (.cons g2 .nil));clear hs g1 g2 g3;rintro r post Z ⟨v8,rfl,rfl⟩ hs;refine zz ?_;(repeat clear U K);repeat intro K U
    refine Fe (Cq hs 1) 0 (xs:=([]:List Bool)) (ys:=bs) (enc:=fun b:Bool=>[V.b b]) rfl (by simp only[List.length_nil];omega) jZ fun v' Z hs=>?_
    rw[List.nil_append]at hs
    conv=>whnf
    repeat'((first|apply st|refine zY ?_|refine rk ?_ ?_|exact fun s e=>by cases e;rfl|refine aq fun v Z hs hsl=>?_|fail)<;>conv=>whnf)
    obtain⟨Z2,g1,g2,g3⟩:=HI hs 0 rfl;refine Au.O2 (i2.use (rest:=[_]) g3 ?_) g1 (.cons (.refl _) (.cons g2 .nil));clear hs g1 g2 g3;rintro r post Z ⟨v9,rfl,rfl⟩ hs;refine zz ?_;(repeat clear U K);repeat intro K U
    refine P3 hs 1 0 rfl rfl (by simp only[B9];omega) (by simp) (by simp[CR]) fun v' Z hs=>?_
    refine zz ?_;(repeat clear U K);repeat intro K U
    exact AI ⟨_,⟨_,rfl,rfl⟩,by simpa[SU]using hs.less (K6 _ _)⟩
end Go.Gl
namespace Go.Gl
open Go.Proofs
def Dv (f:Fact) (c:Bool) (j:Nat) (a:Int) (p:List Int) (k:Kn):Kn:=
 if f.arg=a/\Bd f.path p=true then(if p.length<j then na (B5 k c) (f.path.getD p.length 0)else if p.length=j then B5 k c else k)else k
def qF (f:Fact) (c:Bool) (a:Int) (p:List Int) (k:Kn):Dv f c 0 a p k=if a=f.arg/\p= []then B5 k c else k:=by
 unfold Dv;by_cases h:f.arg=a/\Bd f.path p=true
 .rw[if_pos h,if_neg (by omega)]
  by_cases hp:p.length=0
  .rw[if_pos hp,if_pos ⟨h.1.symm,YW.1 hp⟩]
  .rw[if_neg hp,if_neg (fun h'=>hp (by rw[h'.2];rfl))]
 .rw[if_neg h,if_neg]
  rintro⟨rfl,rfl⟩;exact h ⟨rfl,B6.2 ⟨f.path,by simp⟩⟩
def qG (f:Fact) (c:Bool) {j:Nat} (hj:j<f.path.length) (a:Int) (p:List Int) (k:Kn):Dv f c (j+1) a p k=if a=f.arg/\p=f.path.take (j+1)then B5 (Dv f c j a p k) c else if a=f.arg/\p=f.path.take j then na (Dv f c j a p k) (f.path.getD j 0)else Dv f c j a p k:=by
 unfold Dv;by_cases h:f.arg=a/\Bd f.path p=true
 .rw [if_pos h,if_pos h]
  obtain⟨h1,h2⟩:=h;rw[HZ]at h2;obtain⟨h2,h3⟩:=h2;have l1:p=f.path.take (j+1)↔p.length=j+1:=⟨fun e=>by rw[e,Jl];omega,fun e=>by rw[e]at h3;exact h3⟩
  have l2:p=f.path.take j↔p.length=j:=⟨fun e=>by rw[e,Jl];omega,fun e=>by rw[e]at h3;exact h3⟩
  have n1:p.length≠j+1-> ¬(a=f.arg/\p=f.path.take (j+1)):=fun h h'=>h (l1.1 h'.2)
  have n2:p.length≠j-> ¬(a=f.arg/\p=f.path.take j):=fun h h'=>h (l2.1 h'.2)
  by_cases q1:p.length<j
  .rw[if_pos (show p.length<j+1 by omega),if_neg (n1 (by omega)),if_neg (n2 (by omega)),if_pos q1]
  .by_cases q2:p.length=j
   .rw[if_pos (show p.length<j+1 by omega),if_neg (n1 (by omega)),if_pos (show a=f.arg/\p=f.path.take j from⟨h1.symm,l2.2 q2⟩),if_neg q1,if_pos q2,q2]
   .by_cases q3:p.length=j+1
    .rw[if_neg (show¬p.length<j+1 by omega),if_pos q3,if_pos (show a=f.arg/\p=f.path.take (j+1) from⟨h1.symm,l1.2 q3⟩),if_neg q1,if_neg q2]
    .rw[if_neg (show¬p.length<j+1 by omega),if_neg q3,if_neg (n1 q3),if_neg (n2 q2),if_neg q1,if_neg q2]
 .rw[if_neg h,if_neg h,if_neg,if_neg]
  .rintro⟨rfl,rfl⟩
   exact h ⟨rfl,B6.2 ⟨f.path.drop j,by rw[List.take_append_drop]⟩⟩
  .rintro⟨rfl,rfl⟩
   exact h ⟨rfl,B6.2 ⟨f.path.drop (j+1),by rw[List.take_append_drop]⟩⟩
def vA (a : Int) (p:List Int) (k:Kn) (l:Fact):ID a p k l=if a=(Ad l).1.arg/\p=(Ad l).1.path then B4 (Dv (Ad l).1 (Ad l).2 (Ad l).1.path.length a p k) (Ad l).1 (Ad l).2 else Dv (Ad l).1 (Ad l).2 (Ad l).1.path.length a p k:=by
 unfold ID Dv;by_cases h:(Ad l).1.arg=a/\Bd (Ad l).1.path p=true
 .rw [if_pos h,if_pos h]
  obtain⟨h1,h2⟩:=h;rw[HZ]at h2;obtain⟨h2,h3⟩:=h2;by_cases hp:(Ad l).1.path=p
  .rw[if_pos hp,if_pos ⟨h1.symm,hp.symm⟩,if_neg (by rw[hp];omega),if_pos (by rw[hp])]
  .have hne:p.length<(Ad l).1.path.length:=by
    rcases Nat.lt_or_ge p.length (Ad l).1.path.length with h'|h'
    .exact h'
    .rw[List.take_of_length_le h']at h3
     exact absurd h3.symm hp
   rw[if_neg hp,if_neg (fun h=>hp h.2.symm),if_pos hne]
 .rw[if_neg h,if_neg h,if_neg]
  rintro⟨rfl,rfl⟩;exact h ⟨rfl,KT _⟩
def py (ls:List Fact) (l:Fact) (a:Int) (p:List Int):kg (ls++[l]) a p=ID a p (kg ls a p) l:=by
 rw[kg,List.foldl_append];rfl
def Xr (l:List Int) (s:Int):(Ua l s).length<=l.length+1:=by
 unfold Ua;split
 .omega
 .simp
def jT (a:Int) (p:List Int): ∀(ls:List Fact) (k:Kn),(ls.foldl (ID a p) k).no.length<=k.no.length+ls.length/\(ls.foldl (ID a p) k).AG.length<=k.AG.length+ls.length
 | [],k=>⟨Hz _,Hz _⟩
 | l ::r,k=>by
   obtain⟨h1,h2⟩:=jT a p r (ID a p k l)
   have h3:(ID a p k l).no.length<=k.no.length+1/\(ID a p k l).AG.length<=k.AG.length+1:=by
    unfold ID
    repeat' split
    .have:=SN (B5 k (Ad l).2) (Ad l).1 (Ad l).2
     rw[Ii];simp only[B5]at this ⊢;omega
    .have:=Xr k.AG ((Ad l).1.path.getD p.length 0)
     simp only[na,B5]at this ⊢;omega
    .omega
   rw[List.foldl_cons,LF];omega
def pz {n:Nat} {ls:List Fact} (h:HD n ls) (a:Int) (p:List Int):(kg ls a p).BM<2 ^ n/\(kg ls a p).Dz<2 ^ n:=by
 obtain⟨-,-,-,c4,c5,-⟩:=Kg (VM ls a p);have hc2:HD n (ls.filter (Fv a p)):=fun l hl=>h l (Ik.1 hl).1
 rw[c4,c5];exact⟨Me hc2,jG hc2⟩
abbrev kQ:AV:=(.seq [2,3] (.DB [⟨(some 2),.Pa (.t 0),none⟩,
 ⟨(some 3),.Pa (.t 1),none⟩,
 ⟨(some 4),.mv (.c .pn),none⟩])
 (.seq [2,3,5,6] (.DB [⟨(some 8),.GS 1 (.t 2),none⟩,
  ⟨(some 9),.load none (.t 8),none⟩,
  ⟨(some 10),.load (some 4) (.t 3),none⟩,
  ⟨(some 11),.lookup (.a [.i64,.i64,.i64,.i64]) .pn true (.t 9) (.t 10),none⟩,
  ⟨(some 7),.mv (.t 11),none⟩,
  ⟨(some 12),.extract 0 (.t 7),none⟩,
  ⟨(some 13),.extract 1 (.t 7),none⟩,
  ⟨(some 5),.mv (.t 12),none⟩,
  ⟨(some 6),.mv (.t 13),none⟩])
 (.seq [5] (.seq [2,3,5,15] (.DB [⟨(some 14),.mv (.t 6),none⟩,
  ⟨(some 15),.not (.t 14),none⟩])
 (.cond (.t 15)
 (.seq [2,3,5] (.DB [⟨(some 16),.build [(.i .u64 0),(.i .u64 0),(.i .i64 0),(.i .i64 0),(.l [] true),(.b false),(.b false),(.l [] true)] [(2,1,(.c (.i .i64 (-1000000000)))),(3,1,(.c (.i .i64 1000000000)))],none⟩,
  ⟨(some 17),.box (.t 16),none⟩,
  ⟨(some 5),.mv (.t 17),none⟩])
 (.DB [⟨(some 18),.GS 1 (.t 2),none⟩,
  ⟨(some 19),.load none (.t 18),none⟩,
  ⟨(some 20),.load (some 4) (.t 3),none⟩,
  ⟨(some 21),.mv (.t 5),none⟩,
  ⟨none,.Em (.a [.i64,.i64,.i64,.i64]) (.t 19) (.t 20) (.t 21),none⟩]))
 .skip))
 (.seq [4] (.DB [⟨(some 22),.mv (.t 5),none⟩,
  ⟨(some 4),.mv (.t 22),none⟩])
 .ret))))
def o0:Tryz.f213.body.bind (res Tryz.prog Tryz.f213.ntmps [] [2,3])=some (erase kQ):=by kernel_rfl
def qt {args:List V} (hn:args.length<=23) {Z:AE} {Q:R->AE->Prop} (h:W Tryz.prog kQ (gz [4] Q) (BA 0 args) Z):Au Tryz.prog 213 args Z Q:=
 L5 Tryz.func213 (by kernel_rfl) o0 rfl hn (np h)
end Go.Gl
namespace Go.Gl
open Go.Proofs
attribute [local irreducible] Au Am Ae AR AK AY AQ AS AJ AX AM AO Ao A0 Sat AU Ay Af W
def rY (s c:Nat) (hs0:s<18446744073709551616) (hc:c<64):Pure zP 212 [eU s,eI c] (eU (s|||2 ^ c)):=by
 refine yA kZ ?_;have hs:=Sn
 conv=>whnf
 repeat'((first|clear U K|apply st|(apply zk;intro K U)|fail)<;>conv=>whnf)
 refine⟨Int.natCast_nonneg _,?_⟩;refine zv ?_;(repeat clear U K);repeat intro K U
 exact AH (by rw[Fi,U7 hc,HT hs0 (Gr hc)])
def tT (s c:Nat) (hs0:s<18446744073709551616) (hc:c<64):Pure zP 159 [eU s,eI c] (.b (s.testBit c)):=by
 refine yd kZ ?_;have hs:=Sn
 conv=>whnf
 repeat'((first|clear U K|apply st|(apply zk;intro K U)|fail)<;>conv=>whnf)
 refine⟨Int.natCast_nonneg _,?_⟩;refine zv ?_;(repeat clear U K);repeat intro K U
 refine AH ?_;rw[Fi,U6 hc];have h1:s >>> c<18446744073709551616:=by rw[Nat.shiftRight_eq_div_pow];exact Nat.lt_of_le_of_lt (Nat.div_le_self _ _) hs0
 have h2:bits .and .u64 ((s >>> c:Nat):Int) 1=((s >>> c&&&1:Nat):Int):=GD h1 (show 1<_ by decide);rw[h2];simp only[Nat.testBit,Nat.and_comm 1];congr 1;rcases Nat.mod_two_eq_zero_or_one (s >>> c)with h|h<;>simp[Nat.and_one_is_mod,h]
def Nz (s:Nat) (c:Int) (hs0:s<18446744073709551616) (h0:0<=c) (hc:c<64):Pure zP 212 [eU s,eI c] (eU (s|||2 ^ c.toNat)):=by
 have:=rY s c.toNat hs0 (by omega);rw[Int.toNat_of_nonneg h0]at this;exact this
def aQ (s:Nat) (c:Int) (hs0:s<18446744073709551616) (h0:0<=c) (hc:c<64):Pure zP 159 [eU s,eI c] (.b (s.testBit c.toNat)):=by
 have:=tT s c.toNat hs0 (by omega);rw[Int.toNat_of_nonneg h0]at this;exact this
abbrev gW (w:AF) (us:List Nat):List V:=[.l (EN w.parents) false,.l (iL w.owner) false,.l (us.map fun u=>[eU u]) false]
abbrev gv (w:AF) (us:List Nat) (L:Nat):List V:=[.rp (gW w us),.m L]
abbrev iQ (b:Nat) (vn vs:V) (k:Kn):List At:=[.box b [eU k.BM,eU k.Dz,eI k.low,eI k.high,vn,.b k.whole,.b k.Ab,vs],.own vn 1 (iL k.no),.own vs 1 (iL k.AG)]
abbrev Wa (e:B8):List At:=iQ e.b e.vn e.vs e.k
def Bu (L:Nat) (es:List B8):List At:= .map L (UK es)::es.flatMap Wa
def JT (L:Nat) (es pre post:List B8):List At:= .map L (UK es)::(pre++post).flatMap Wa
def XN (L:Nat) (pre post:List B8) (e:B8):(Bu L (pre++e::post)).Perm (Wa e++JT L (pre++e::post) pre post):=by
 unfold Bu JT;rw[List.flatMap_append,List.flatMap_cons,List.flatMap_append];refine List.Perm.trans ?_ (List.perm_middle.symm);refine List.Perm.cons _ ?_;rw[<-PR,<-PR];exact List.Perm.append_right _ Nk
def Vc {L:Nat} {pre post:List B8} {e e':B8} (h1:e'.a=e.a) (h2:e'.p=e.p) (h3:e'.b=e.b):JT L (pre++e'::post) pre post=JT L (pre++e::post) pre post:=by
 rw[JT,JT,Rz h1 h2 h3]
def Jz {Z:AE} {X:List At} {L:Nat} {pre post:List B8} {e:B8} (h:Sat Z (X++Bu L (pre++e::post))):Sat Z (.box e.b [eU e.k.BM,eU e.k.Dz,eI e.k.low,eI e.k.high,e.vn,.b e.k.whole,.b e.k.Ab,e.vs]:: .own e.vn 1 (iL e.k.no):: .own e.vs 1 (iL e.k.AG)::(X++JT L (pre++e::post) pre post)):=by
 have h2:Sat Z (Wa e++(X++JT L (pre++e::post) pre post)):=h.perm ((List.Perm.append_left X (XN L pre post e)).trans (by rw[<-PR,<-PR];exact Nk.append_right _));exact h2
def Dq {Z:AE} {X:List At} {L:Nat} {pre post:List B8} {e e':B8} (h1:e'.a=e.a) (h2:e'.p=e.p) (h3:e'.b=e.b) (h:Sat Z (Wa e'++(X++JT L (pre++e::post) pre post))):Sat Z (X++Bu L (pre++e'::post)):=by
 rw[<-Vc h1 h2 h3]at h;exact h.perm ((List.Perm.append_left X (XN L pre post e')).trans (by rw[<-PR,<-PR];exact Nk.append_right _)).symm
def nX (w:AF) (us:List Nat) {kf:Int->List Int->Kn} {L:Nat} {es:List B8} (h:B2 kf es) {a:Int} {p:List Int} (hp:p.length<=2) :
    BQ zP 213 [.a (gv w us L),CL a p] (Bu L es) fun r post=> ∃es' e,oO kf es es' a p e/\r= .ret (.p e.b 0)/\post=Bu L es':=by
 intro Z hs;refine qt kZ ?_;unfold Bu at hs;rcases iH a p es with hn|⟨pre,e,post,rfl,he,hpre⟩
 .have hf:=Q6 hp h.len hn
  conv=>whnf
  repeat'((first|clear U K|apply st|(apply zk;intro K U)|refine zY ?_|refine N6 hs 0 rfl rfl (IQ _) hf ?_|refine Iz hs 1 rfl rfl (IQ _) fun Z hs=>?_|refine zo fun nn hnn Z hs=>?_|fail)<;>conv=>whnf)
  simp only[List.set_cons_succ,List.set_cons_zero]at hs;change Sat Z (_:: .map L (DZ (CL a p) (.p nn 0) (UK es))::_)at hs;rw[Yx hp nn (.l [] true) (.l [] true) k0 h.len hn]at hs;have hs2:=Cq (Cq hs 1) 1;refine AI ⟨_,⟨es++[⟨a,p,nn,.l [] true,.l [] true,k0⟩],⟨a,p,nn,.l [] true,.l [] true,k0⟩,⟨h.add hp hn _ _ _,⟨_,rfl,by simp⟩,by simp,by simp[B8.is]⟩,rfl,rfl⟩,?_⟩;unfold Bu;rw[List.flatMap_append,List.flatMap_cons,List.flatMap_nil,Ez];refine hs2.perm ((List.perm_middle (l₁:=[_,_,_])).trans (.cons _ (Nk.trans (List.Perm.append_left _ (List.reverse_perm _).symm))))
 .have hf:=Q5 hp he h.len hpre
  conv=>whnf
  repeat'((first|clear U K|apply st|(apply zk;intro K U)|refine zY ?_|refine N6 hs 0 rfl rfl (IQ _) hf ?_|fail)<;>conv=>whnf)
  exact AI ⟨_,⟨_,e,⟨h,.refl _,by simp,he⟩,rfl,rfl⟩,hs⟩
def Mq (a:Int) (p:List Int) (s:Int) (hp:p.length<2):Pure zP 214 [CL a p,eI s] (CL a (p++[s])):=by
 refine Pure.of ?_;refine x9 kZ ?_;have hs:=Sn
 match p,hp with
 | [],_=>
   conv=>whnf
   repeat'((first|clear U K|apply st|(apply zk;intro K U)|refine zY ?_|refine zs fun Z hs=>?_|refine za (fun hc=>?_) fun hc=>?_|refine zo fun nn hnn Z hs=>?_|fail)<;>conv=>whnf)
   all_goals first
    | exact AI rfl
    | (exfalso;simp at hc;done)
 | [x],_=>
   conv=>whnf
   repeat'((first|clear U K|apply st|(apply zk;intro K U)|refine zY ?_|refine zs fun Z hs=>?_|refine za (fun hc=>?_) fun hc=>?_|refine zo fun nn hnn Z hs=>?_|fail)<;>conv=>whnf)
   all_goals first
    | exact AI rfl
    | (exfalso;simp at hc;done)
def AAb {b:Nat} {vn vs:V} {k:Kn} (f:Fact) (c:Bool) (hl:f.op=2\/f.op=3\/f.op=4) (hc:f.op=2->0<=f.cls/\f.cls<64) (hm:k.BM<18446744073709551616) (hn:k.Dz<18446744073709551616) (hno:k.no.length<1000000) (hN: -1000000000<=f.n/\f.n<=1000000000) :
    BQ zP 215 [.p b 0,.a (xF f++[.b c])] (iQ b vn vs k) fun r post=>r= .ret (.t [])/\ ∃vn',post=iQ b vn' vs (B4 k f c):=by
 intro Z hs;have hM:=Mx;refine x8 kZ ?_;rw[show xF f++[V.b c]= [eI f.op,eI f.arg,.l (iL f.path) false,eI f.cls,eI f.n,.l (f.kids.map Fh) false,.b c] from rfl];have hw:IntKind.i64.wrap (f.n - 1)=f.n - 1:=wrap64 (by omega) (by omega);cases c<;>rcases hl with h2|h3|h4
 .have hE:B4 k f false= {k with BM:=k.BM|||2 ^ f.cls.toNat}:=by rw[B4,if_pos h2,if_neg Bool.false_ne_true]
  rw[hE]
  conv=>whnf
  repeat'((first|clear U K|apply st|(apply zk;intro K U)|refine zY ?_|refine zs fun Z hs=>?_|refine Pure.use (Nz _ _ hm (by omega) (by omega)) ?_|(refine zb (fun hc=>?_) (fun hc=>?_)<;>try exact⟨⟩)|fail)<;>conv=>whnf)
  exact AI ⟨_,⟨rfl,vn,rfl⟩,hs⟩
 .have hE:B4 k f false= {k with high:=if f.n - 1<k.high then f.n - 1 else k.high,whole:=true}:=by rw[B4,if_neg (by omega),if_pos h3,if_neg Bool.false_ne_true]
  rw[hE]
  conv=>whnf
  repeat'((first|clear U K|apply st|(apply zk;intro K U)|refine zY ?_|refine zs fun Z hs=>?_|(refine zb (fun hc=>?_) (fun hc=>?_)<;>try exact⟨⟩)|fail)<;>conv=>whnf)
  rw[hw]at hs;exact AI ⟨_,⟨rfl,vn,rfl⟩,hs⟩
 .have hE:B4 k f false= {k with low:=if f.n > k.low then f.n else k.low,high:=if f.n<k.high then f.n else k.high,whole:=true}:=by rw[B4,if_neg (by omega),if_neg (by omega),if_neg Bool.false_ne_true]
  rw[hE]
  conv=>whnf
  repeat'((first|clear U K|apply st|(apply zk;intro K U)|refine zY ?_|refine zs fun Z hs=>?_|(refine zb (fun hc=>?_) (fun hc=>?_)<;>try exact⟨⟩)|fail)<;>conv=>whnf)
  exact AI ⟨_,⟨rfl,vn,rfl⟩,hs⟩
 .have hE:B4 k f true= {k with Dz:=k.Dz|||2 ^ f.cls.toNat}:=by rw[B4,if_pos h2,if_pos rfl]
  rw[hE]
  conv=>whnf
  repeat'((first|clear U K|apply st|(apply zk;intro K U)|refine zY ?_|refine zs fun Z hs=>?_|refine Pure.use (Nz _ _ hn (by omega) (by omega)) ?_|(refine zb (fun hc=>?_) (fun hc=>?_)<;>try exact⟨⟩)|fail)<;>conv=>whnf)
  exact AI ⟨_,⟨rfl,vn,rfl⟩,hs⟩
 .have hE:B4 k f true= {k with low:=if f.n > k.low then f.n else k.low}:=by rw[B4,if_neg (by omega),if_pos h3,if_pos rfl]
  rw[hE]
  conv=>whnf
  repeat'((first|clear U K|apply st|(apply zk;intro K U)|refine zY ?_|refine zs fun Z hs=>?_|(refine zb (fun hc=>?_) (fun hc=>?_)<;>try exact⟨⟩)|fail)<;>conv=>whnf)
  exact AI ⟨_,⟨rfl,vn,rfl⟩,hs⟩
 .have hE:B4 k f true= {k with no:=k.no++[f.n]}:=by rw[B4,if_neg (by omega),if_neg (by omega),if_pos rfl]
  rw[hE]
  conv=>whnf
  repeat'((first|clear U K|apply st|(apply zk;intro K U)|refine zY ?_|refine zs fun Z hs=>?_|refine aq fun v Z hs hsl=>?_|(refine zb (fun hc=>?_) (fun hc=>?_)<;>try exact⟨⟩)|fail)<;>conv=>whnf)
  exact AI ⟨_,⟨rfl,_,rfl⟩,hs⟩
end Go.Gl
namespace Go.Gl
open Go.Proofs
def Sat.flip {Z:AE} {X AB:List At} (h:Sat Z (X++AB)):Sat Z (AB++X):=h.perm Nk
def qH (f:Fact) (c:Bool) (j:Nat) (a:Int) (p:List Int) (k:Kn):(Dv f c j a p k).BM=k.BM:=by unfold Dv;(repeat' split)<;>rfl
def u9 (f:Fact) (c:Bool) (j:Nat) (a:Int) (p:List Int) (k:Kn):(Dv f c j a p k).Dz=k.Dz:=by unfold Dv;(repeat' split)<;>rfl
def AA5 (f:Fact) (c:Bool) (j:Nat) (a:Int) (p:List Int) (k:Kn):(Dv f c j a p k).no=k.no:=by unfold Dv;(repeat' split)<;>rfl
def mK (f:Fact) (c:Bool) (j:Nat) (a:Int) (p:List Int) (k:Kn):(Dv f c j a p k).AG.length<=k.AG.length+1:=by
 unfold Dv
 repeat' split
 .exact Xr _ _
 all_goals simp[B5]
def AA4 {m:Nat} {k:Kn} (h:dB m k) (f:Fact) (c:Bool) (j:Nat) (a:Int) (p:List Int):dB (m+1) (Dv f c j a p k):=by
 obtain⟨h1,h2,h3,h4⟩:=h;refine⟨by rw[qH];exact h1,by rw[u9];exact h2,by rw[AA5];omega,?_⟩;have:=mK f c j a p k;omega
def jS {ls:List Fact} (h:OG ls) (a:Int) (p:List Int):dB ls.length (kg ls a p):=by
 have hc:HD 64 ls:=fun l hl ho=>(h l hl).cls ho
 obtain⟨h1,h2⟩:=pz hc a p;obtain⟨h3,h4⟩:=jT a p ls k0;exact⟨by simpa using h1,by simpa using h2,by simpa[kg,k0]using h3,by simpa[kg,k0]using h4⟩
def AAv:B2 (kg []) []:=⟨fun x hx=>(by cases hx),fun a p _=>rfl,.nil,fun x hx=>(by cases hx)⟩
attribute [local irreducible] Au Am Ae AR AK AY AQ AS AJ AX AM AO Ao A0 Sat AU Ay Af W
abbrev Jp (y:Fact×Bool):List V:=[eI y.1.op,eI y.1.arg,.l (iL y.1.path) false,eI y.1.cls,eI y.1.n,.l (y.1.kids.map Fh) false,.b y.2]
def AAr (w:AF) (us:List Nat) (ls:List Fact) (ps:List (Fact×Bool)) (hps:ps=ls.map Ad) (b:Bool) (h:OG ls) (hlen:ls.length<900) :
    BQ zP 142 [.rp (gW w us),.l (ps.map Jp) b] [] fun r post=> ∃L es,r= .ret (.a (gv w us L))/\B2 (kg ls) es/\post=Bu L es:=by
 intro Z hs;have hM:=Mx;have hpl:ps.length=ls.length:=by rw[hps,B9]
 refine yo kZ ?_
 conv=>whnf
 repeat'((first|apply st|(apply sq;intro K U)|(apply si;intro A B hA hB)|(refine hA _ _ ?_;clear hB B hA A)|(apply U;clear U K)|refine snb fun Z hs=>?_|(intro nn hnn;generalize hg:B7 _ nn _=Z;refine alF hg fun hs=>?_;clear hg)|fail)<;>conv=>whnf)
 rename_i n4 _ _ _ L _ _ _ _ _;generalize nn=n5 at *;refine B1 ps.length (fun k (x:List B8)=>[(17,eI (A4 k))]) (fun k x=> .box n5 (gv w us L):: .box n4 [.pn,.mn]::Bu L x) (fun k x=>B2 (kg (ls.take k)) x) [] rfl AAv (hs.perm (.cons _ (.swap _ _ _))) ?_;clear hs hnn;rintro k es Z hk hinv hs;rcases A8 ps hk with⟨y,hy,hlt⟩|hke
 .obtain ⟨l,hlk⟩: ∃l,ls[k]? =some l:=⟨_,Cs (by omega)⟩
  have hyl:y=Ad l:=by
   rw[hps,Jm,hlk]at hy;exact(Option.some.inj hy).symm
  have hlm:l∈ls:=Bp hlk;have htk:ls.take (k+1)=ls.take k++[l]:=AN hlk;have hbk: ∀a p,dB (ls.take k).length (kg (ls.take k) a p):=jS fun x hx=>h x (List.mem_of_mem_take hx)
  obtain⟨l1,l2,l3,l4⟩:=h l hlm;have hkl:(ls.take k).length<900:=by rw[Jl];omega
  have hend: ∀a p,kg (ls.take (k+1)) a p=if a=(Ad l).1.arg/\p=(Ad l).1.path then B4 (Dv (Ad l).1 (Ad l).2 (Ad l).1.path.length a p (kg (ls.take k) a p)) (Ad l).1 (Ad l).2 else Dv (Ad l).1 (Ad l).2 (Ad l).1.path.length a p (kg (ls.take k) a p):=fun a p=>by
   rw[htk,py];exact vA a p (kg (ls.take k) a p) l
  generalize kg (ls.take k)=kf at *;rw[<-hyl]at l1 l2 l3 l4 hend;clear hyl;obtain⟨f,c⟩:=y;dsimp only at l1 l2 l3 l4 hend;generalize (ls.take k).length=m at *
  conv=>whnf
  repeat'((first|apply st|(apply sq;intro K U)|(apply si;intro A B hA hB)|(refine hA _ _ ?_;clear hB B hA A)|(apply U;clear U K)|refine⟨rfl,?_⟩|refine⟨kZ,?_⟩|refine ix ?_|refine ld ?_|refine snb fun Z hs=>?_|(refine z6 (fun hc=>?_)<;>(try rw[hc])<;>clear hc)|(intro nn hnn;generalize hg:B7 _ nn _=Z;refine alF hg fun hs=>?_;clear hg)|fail)<;>conv=>whnf)
  rename_i n7 _ _ _ _ _ _ _;generalize nn=n8 at *;replace hs:Sat Z ([.box n8 (GH f.arg []),.box n7 (Jp (f,c)),.box n5 (gv w us L),.box n4 [.pn,.mn]]++Bu L es):=hs;refine(nX w us hinv (a:=f.arg) (p:=[]) (by simp)).use (rest:=[.box n8 (GH f.arg []),.box n7 (Jp (f,c)),.box n5 (gv w us L),.box n4 [.pn,.mn]]) hs.flip ?_;clear hs;rintro r post Z ⟨es1,e1,got,rfl,rfl⟩ hs;have hek:=got.k;obtain⟨hea,hep⟩:=Gt.1 got.is;obtain⟨pre,post,rfl⟩:=List.append_of_mem got.mem;replace hs:=Jz (X:=[.box n8 (GH f.arg []),.box n7 (Jp (f,c)),.box n5 (gv w us L),.box n4 [.pn,.mn]]) hs.flip;cases hnd:e1.k.Ab<;>rw[hnd]at hs
  all_goals
   conv=>whnf
   repeat'((first|apply st|(apply sq;intro K U)|(apply si;intro A B hA hB)|(refine hA _ _ ?_;clear hB B hA A)|(apply U;clear U K)|refine ld ?_|refine s1b fun Z hs=>?_|fail)<;>conv=>whnf)
   obtain⟨e2,es2,hP,hQ,hR⟩: ∃(e2:B8) (es2:List B8),(B2 (fun a p=>Dv f c 0 a p (kf a p)) es2/\e2∈es2/\e2.is f.arg (f.path.take 0)=true)/\e2.b=e1.b/\Sat Z ([.box n8 (GH f.arg (f.path.take 0)),.box n7 (Jp (f,c)),.box n5 (gv w us L),.box n4 [.pn,.mn]]++Bu L es2):=by
    refine⟨⟨e1.a,e1.p,e1.b,e1.vn,e1.vs,B5 e1.k c⟩,_,⟨(got.inv.change e1.b e1.vn e1.vs (B5 e1.k c)).congr fun a p=>?_,Ov _ (.head _),got.is⟩,rfl,?_⟩
    .rw[qF,No,hea,hep,hek]
     by_cases ha:a=f.arg/\p= []
     .rw[if_pos ha,if_pos ha,ha.1,ha.2]
     .rw[if_neg ha,if_neg ha]
    .refine Dq (X:=[.box n8 (GH f.arg []),.box n7 (Jp (f,c)),.box n5 (gv w us L),.box n4 [.pn,.mn]]) (e:=e1) rfl rfl rfl ?_
     first
      | (rw[Ku c hnd];exact hs)
      | (rw[I8 c hnd];exact hs)
   rw[<-hQ];clear hs hnd got hek hea hep;refine B1 f.path.length (fun j (x:List B8×B8)=>[(44,eI (A4 j)),(9,.p x.2.b 0)]) (fun j x=>[.box n8 (GH f.arg (f.path.take j)),.box n7 (Jp (f,c)),.box n5 (gv w us L),.box n4 [.pn,.mn]]++Bu L x.1) (fun j x=>B2 (fun a p=>Dv f c j a p (kf a p)) x.1/\x.2∈x.1/\x.2.is f.arg (f.path.take j)=true) (es2,e2) rfl hP hR ?_;clear hP hR;generalize e2.b=b0 at *;clear hQ e2 es2;rintro j ⟨es2,e2⟩ Z hj ⟨hinv2,hmem,his⟩ hs;simp only at hinv2 hmem his hs
   have hek:e2.k=Dv f c j f.arg (f.path.take j) (kf f.arg (f.path.take j)):=by
    have:=hinv2.val e2 hmem;obtain⟨h1,h2⟩:=Gt.1 his;rw[this,h1,h2]
   have hok:dB (m+1) e2.k:=by rw[hek];exact AA4 (hbk _ _) f c j _ _
   obtain⟨hea,hep⟩:=Gt.1 his;obtain⟨pre2,post2,rfl⟩:=List.append_of_mem hmem;replace hs:=Jz (X:=[.box n8 (GH f.arg (f.path.take j)),.box n7 (Jp (f,c)),.box n5 (gv w us L),.box n4 [.pn,.mn]]) hs;have hck:A4 j=j:=Ag (by omega);rcases A8 f.path hj with⟨s,hsj,hjlt⟩|hje
   .have hct:=fun b=>C3 e2.k.AG b s
    have hk4:=hok.2.2.2;have hsl0:na e2.k s= {e2.k with AG:=Ua e2.k.AG s}:=rfl
    have hne:f.path.take j++[s]≠f.path.take j:=by
     intro e;have:=congrArg List.length e;simp at this
    have hgd:f.path.getD j 0=s:=by rw[C6,hsj];rfl
    have htk2:f.path.take (j+1)=f.path.take j++[s]:=AN hsj;cases hcB:e2.k.AG.contains s
    all_goals
     rw[hcB]at hct
     conv=>whnf
     repeat'((first|apply st|(apply sq;intro K U)|(apply si;intro A B hA hB)|(refine hA _ _ ?_;clear hB B hA A)|(apply U;clear U K)|refine⟨rfl,?_⟩|refine⟨kZ,?_⟩|refine ix ?_|refine ld ?_|refine s1b fun Z hs=>?_|refine snb fun Z hs=>?_|refine aq fun v Z hs hsl=>?_|refine cft ?_|refine cff ?_|(refine z6 (fun hc=>?_)<;>(try rw[hc])<;>clear hc)|refine Pure.use (Mq f.arg (f.path.take j) s (by rw[Jl];omega)) ?_|refine Pure.MI (hct false) (.cons (hs.GG 2 rfl) (.cons (.refl _) .nil)) rfl ?_|fail)<;>conv=>whnf)
    have hs3: ∃vs3,Sat Z ([.box n8 (GH f.arg (f.path.take j++[s])),.box n7 (Jp (f,c)),.box n5 (gv w us L),.box n4 [.pn,.mn]]++Bu L (pre2++⟨e2.a,e2.p,e2.b,e2.vn,vs3,na e2.k s⟩::post2)):=⟨_,Dq (X:=[.box n8 (GH f.arg (f.path.take j++[s])),.box n7 (Jp (f,c)),.box n5 (gv w us L),.box n4 [.pn,.mn]]) (e:=e2) rfl rfl rfl (by rw[hsl0,Ua,if_neg (by rw[hcB];decide)];exact hs)⟩
    rotate_left
    have hs3: ∃vs3,Sat Z ([.box n8 (GH f.arg (f.path.take j++[s])),.box n7 (Jp (f,c)),.box n5 (gv w us L),.box n4 [.pn,.mn]]++Bu L (pre2++⟨e2.a,e2.p,e2.b,e2.vn,vs3,na e2.k s⟩::post2)):=⟨e2.vs,Dq (X:=[.box n8 (GH f.arg (f.path.take j++[s])),.box n7 (Jp (f,c)),.box n5 (gv w us L),.box n4 [.pn,.mn]]) (e:=e2) rfl rfl rfl (by rw[hsl0,Ua,if_pos hcB];exact hs)⟩
    all_goals
     clear hs;obtain⟨vs3,hs⟩:=hs3;have hinv3:=hinv2.change e2.b e2.vn vs3 (na e2.k s);refine(nX w us hinv3 (a:=f.arg) (p:=f.path.take j++[s]) (by rw[Nl,Jl];simp;omega)).use (rest:=[.box n8 (GH f.arg (f.path.take j++[s])),.box n7 (Jp (f,c)),.box n5 (gv w us L),.box n4 [.pn,.mn]]) hs.flip ?_;clear hs;rintro r post Z ⟨es4,e4,got,rfl,rfl⟩ hs;have hek4:=got.k;obtain⟨hea4,hep4⟩:=Gt.1 got.is;obtain⟨pre4,post4,rfl⟩:=List.append_of_mem got.mem;replace hs:=Jz (X:=[.box n8 (GH f.arg (f.path.take j++[s])),.box n7 (Jp (f,c)),.box n5 (gv w us L),.box n4 [.pn,.mn]]) hs.flip;cases hnd:e4.k.Ab<;>rw[hnd]at hs
     all_goals
      conv=>whnf
      repeat'((first|apply st|(apply si;intro A B hA hB)|(refine hA _ _ ?_;clear hB B hA A)|(apply U;clear U K)|refine⟨rfl,?_⟩|refine ld ?_|refine s1b fun Z hs=>?_|clear U K)<;>conv=>whnf)
      refine⟨hjlt,(pre4++⟨e4.a,e4.p,e4.b,e4.vn,e4.vs,B5 e4.k c⟩::post4,⟨e4.a,e4.p,e4.b,e4.vn,e4.vs,B5 e4.k c⟩),rfl,⟨(got.inv.change e4.b e4.vn e4.vs (B5 e4.k c)).congr fun a p=>?_,Ov _ (.head _),by rw[htk2];exact got.is⟩,?_⟩
      .rw[qG f c hjlt,No,hea4,hep4,htk2,hgd]
       by_cases h1:a=f.arg/\p=f.path.take j++[s]
       .rw[if_pos h1,if_pos h1,hek4,No,hea,hep,if_neg (fun h=>hne h.2),h1.1,h1.2]
       .rw[if_neg h1,if_neg h1,No,hea,hep]
        by_cases h2:a=f.arg/\p=f.path.take j
        .rw[if_pos h2,if_pos h2,hek,h2.1,h2.2]
        .rw[if_neg h2,if_neg h2]
      .rw[htk2]
       refine Dq (X:=[.box n8 (GH f.arg (f.path.take j++[s])),.box n7 (Jp (f,c)),.box n5 (gv w us L),.box n4 [.pn,.mn]]) (e:=e4) rfl rfl rfl ?_
       first
        | (rw[Ku c hnd];exact hs)
        | (rw[I8 c hnd];exact hs)
   .have etk:f.path.take j=f.path:=Aq hje
    rw[etk]at his hs hek hep
    conv=>whnf
    repeat'((first|apply st|(apply sq;intro K U)|(apply si;intro A B hA hB)|(refine hA _ _ ?_;clear hB B hA A)|(apply U;clear U K)|refine⟨rfl,?_⟩|refine⟨kZ,?_⟩|refine ld ?_|(refine fcn (fun hc=>?_)<;>(try rw[hc])<;>clear hc)|clear U K)<;>conv=>whnf)
    refine(AAb f c l1 l3 hok.1 hok.2.1 (by have:=hok.2.2.1;omega) l4).use (rest:=[.box n8 (GH f.arg f.path),.box n7 (Jp (f,c)),.box n5 (gv w us L),.box n4 [.pn,.mn]]++JT L (pre2++e2::post2) pre2 post2) hs ?_;clear hs;rintro r post Z ⟨rfl,vn',rfl⟩ hs;have hs2:=Dq (X:=[.box n8 (GH f.arg f.path),.box n7 (Jp (f,c)),.box n5 (gv w us L),.box n4 [.pn,.mn]]) (e:=e2) (e':=⟨e2.a,e2.p,e2.b,vn',e2.vs,B4 e2.k f c⟩) rfl rfl rfl hs;clear hs;have hs:=hs2;clear hs2
    conv=>whnf
    repeat'((first|(apply si;intro A B hA hB)|(refine hA _ _ ?_;clear hB B hA A)|(apply U;clear U K)|refine⟨rfl,?_⟩|clear U K)<;>conv=>whnf)
    refine⟨hlt,_,rfl,(hinv2.change e2.b vn' e2.vs (B4 e2.k f c)).congr fun a p=>?_,hs.less ((K6 _ _).trans (K6 _ _))⟩;rw[hend,No,hea,hep,hek,<-hje];by_cases h1:a=f.arg/\p=f.path
    .rw[if_pos h1,if_pos h1,h1.1,h1.2]
    .rw[if_neg h1,if_neg h1]
 .have etk:ls.take k=ls:=Aq (by omega)
  rw[etk]at hinv
  conv=>whnf
  repeat'((first|apply st|(apply sq;intro K U)|(apply si;intro A B hA hB)|(refine hA _ _ ?_;clear hB B hA A)|(apply U;clear U K)|refine⟨rfl,?_⟩|refine⟨kZ,?_⟩|refine ld ?_|refine snb fun Z hs=>?_|(refine fcn (fun hc=>?_)<;>(try rw[hc])<;>clear hc)|clear U K)<;>conv=>whnf)
  exact AI ⟨Bu L es,⟨L,es,rfl,hinv,rfl⟩,hs.less ((K6 _ _).trans (K6 _ _))⟩
end Go.Gl
namespace Go.Gl
open Go.Proofs
def Xw (w:AF) (us:List Nat) (ls:List Fact) (b:Bool) (h:OG ls) (hlen:ls.length<900) :
    BQ zP 142 [.rp (gW w us),.l (D3 ls) b] [] fun r post=> ∃L es,r= .ret (.a (gv w us L))/\B2 (kg ls) es/\post=Bu L es:=by
 have:=AAr w us ls (ls.map Ad) rfl b h hlen;rw[zf]at this;exact this
abbrev gN (L:Nat) (pre post:List B8) (e:B8) (s:List B8):List At:=
 .box e.b [eU e.k.BM,eU e.k.Dz,eI e.k.low,eI e.k.high,e.vn,.b e.k.whole,.b e.k.Ab,e.vs]:: .own e.vn 1 (iL e.k.no)::JT L (pre++e::(post++s)) pre (post++s)
def Hk {Z:AE} {X:List At} {L:Nat} {pre post:List B8} {e:B8} {s:List B8} (h:Sat Z (X++Bu L (pre++e::(post++s)))):Sat Z (.own e.vs 1 (iL e.k.AG)::(X++gN L pre post e s)):=by
 have h2:=Jz h;refine h2.perm ((Jy _ _ _ _).symm.trans (.cons _ ?_));exact(List.perm_middle.trans (.cons _ List.perm_middle)).symm
def HS {Z:AE} {X:List At} {L:Nat} {pre post:List B8} {e:B8} {s:List B8} (h:Sat Z (.own e.vs 1 (iL e.k.AG)::(X++gN L pre post e s))):Sat Z (X++Bu L (pre++e::(post++s))):=by
 refine Dq (X:=X) (e:=e) (e':=e) rfl rfl rfl ?_;refine h.perm ?_;refine List.Perm.trans (.cons _ (List.perm_middle.trans (.cons _ List.perm_middle))) ?_;exact Jy _ _ _ _
def HK (kf:Int->List Int->Kn) (L:Nat) (es:List B8) (post:List At):Prop:= ∃es',LD es es'/\B2 kf es'/\post=Bu L es'
def ie (g:List (List Int)):(Bc g)[0]? =some 1/\(Bc g)[1]? =some 3/\(Bc g)[2]? =some 5:=by
 have key: ∀k,(Bs g k)[0]? =some 1/\(Bs g k)[1]? =some 3/\(Bs g k)[2]? =some 5:=fun k=>by
  induction k with
  | zero=>exact⟨rfl,rfl,rfl⟩
  | succ k ih=>
    have hl:=Dh g k;rw[Bs,cz (by omega),cz (by omega),cz (by omega)];exact ih
 exact key g.length
attribute [local irreducible] Au Am Ae AR AK AY AQ AS AJ AX AM AO Ao A0 Sat AU Ay Af W
def sC (w : AF) {kf:Int->List Int->Kn} (hr:ER w kf) {L:Nat} {es:List B8} (h:B2 kf es) {a:Int} {p:List Int} (hp:p.length<=2) :
    BQ zP 216 [.a (gv w (Bc w.parents) L),CL a p,eI 2] (Bu L es) fun r post=>r= .ret (.b (DY kf a p))/\HK kf L es post:=by
 intro Z hs;have hM:=Mx;obtain⟨-,hu1,hu2⟩:=ie w.parents;generalize Bc w.parents=us at *;refine jo kZ ?_;refine zz ?_;(repeat clear U K);repeat intro K U
 refine(nX w us h (a:=a) (p:=p) hp).use (rest:=[]) (by simpa using hs) ?_;clear hs;rintro r post Z ⟨es4,e4,got,rfl,rfl⟩ hs;have hek:=got.k;obtain⟨pre,post,rfl⟩:=List.append_of_mem got.mem;rw[Ez]at hs;replace hs:=Jz (X:=[]) hs;have hok:=hr.ok a p;have hsl:=(hr.ok a p).2.2.2;have hsh:=hr.short a p;rw[<-hek]at hok hsl hsh;have hb1:bits .andNot .u64 (e4.k.BM:Int) ((5:Nat):Int)=((MP e4.k.BM 5:Nat):Int):=Ih;have hb2:bits .and .u64 (e4.k.Dz:Int) ((5:Nat):Int)=((e4.k.Dz&&&5:Nat):Int):=GD hok.2.1 (by decide);have hb3:=NM (u:=5) hok.1
 have hP:DY kf a p=(!e4.k.whole&&(H2 e4.k.BM 5&&(e4.k.Dz&&&5==0&&e4.k.AG.all fun s=> !(kf a (p++[s])).Ab))):=by
  rw[DY,Ek,IE,hek];rfl
 generalize DY kf a p=R at *
 conv=>whnf
 repeat'((first|clear U K|apply st|(apply zk;intro K U)|refine zY ?_|refine za (fun hc=>?_) fun hc=>?_|fail)<;>conv=>whnf)
 .have h2:(e4.k.Dz&&&5==0)=false:=by rw[beq_eq_false_iff_ne];omega
  exact AI ⟨_,⟨by rw[hP,h2];simp,_,got.ext,got.inv,rfl⟩,by simpa using Dq (X:=[]) (e:=e4) (e':=e4) rfl rfl rfl hs⟩
 .have h1:H2 e4.k.BM 5=true:=hb3.1 (by omega)
  have h2:(e4.k.Dz&&&5==0)=true:=by rw[C0];omega
  rw[h1,h2,Ds,Ds]at hP
  have hs1:Sat Z (.own e4.vs 1 (iL e4.k.AG)::gN L pre post e4 []):=by
   have h2:=Hk (X:=[]) (L:=L) (pre:=pre) (post:=post) (e:=e4) (s:=[]) (by simpa using Dq (X:=[]) (e:=e4) (e':=e4) rfl rfl rfl hs);simpa using h2
  refine B1 e4.k.AG.length (fun k (x:List B8)=>[(49,eI (A4 k))]) (fun k x=> .own e4.vs 1 (iL e4.k.AG)::gN L pre post e4 x) (fun k x=>(B2 kf (pre++e4::(post++x))/\ ∀y∈x,y.k=k0)/\R=(!e4.k.whole&&(e4.k.AG.drop k).all fun s=> !(kf a (p++[s])).Ab)) [] rfl ⟨⟨by simpa using got.inv,by simp⟩,hP⟩ hs1 ?_;clear hs hs1 hP;rintro k new Z hk ⟨⟨hinv,hnew⟩,hF⟩ hs;have hck:A4 k=k:=Ag (by omega);rcases A8 e4.k.AG hk with⟨s,hsk,hlt⟩|hke
  .have hsm:=Bp hsk
   have hp2:p.length<2:=by
    rcases Nat.lt_or_ge p.length 2 with h'|h'
    .exact h'
    .rw[hsh h']at hsm;cases hsm
   rw[drop_cons hsk,K5]at hF
   conv=>whnf
   repeat'((first|clear U K|apply st|(apply zk;intro K U)|refine zY ?_|refine rk ?_ ?_|exact fun s e=>by cases e;rfl|refine ze fun x hx=>?_|refine Pure.use (Mq a p _ hp2) ?_|fail)<;>conv=>whnf)
   obtain rfl:x=s:=by rw[hck,Fi,hsk]at hx;exact(Option.some.inj hx).symm
   refine(nX w us hinv (a:=a) (p:=p++[x]) (by simp;omega)).use (rest:=[]) (by simpa using HS (X:=[]) (by simpa using hs)) ?_;clear hs;rintro r post' Z ⟨es5,e5,got5,rfl,rfl⟩ hs;have hek5:=congrArg Kn.Ab got5.k;obtain⟨newA,heA,hnA⟩:=got5.ext;obtain⟨pre5,post5,he5⟩:=List.append_of_mem got5.mem;have e7:es5=pre++e4::(post++(new++newA)):=by rw[heA];simp
   have hi7:=got5.inv;rw[e7]at hi7;have hn7: ∀y∈new++newA,y.k=k0:=fun y hy=>(Dy.1 hy).elim (hnew y) (hnA y)
   rw[Ez,he5]at hs;replace hs:=Jz (X:=[]) hs;cases hnx:(kf a (p++[x])).Ab<;>rw[hnx]at hek5 hF<;>rw[hek5]at hs
   all_goals
    refine zz ?_;(repeat clear U K);repeat intro K U
    have hs3:Sat Z (Bu L (pre++e4::(post++(new++newA)))):=by
     rw[<-hek5]at hs;have h3:=Dq (X:=[]) (e:=e5) (e':=e5) rfl rfl rfl hs;rw[<-he5,e7]at h3;exact h3
   .exact⟨hlt,new++newA,rfl,⟨⟨hi7,hn7⟩,by rw[hF];rfl⟩,Hk (X:=[]) hs3⟩
   .exact AI ⟨_,⟨by rw[hF];simp,_,got.ext.trans ⟨_,by simp,hn7⟩,hi7,rfl⟩,hs3⟩
  .rw[Ai hke,List.all_nil,Bool.and_true]at hF
   conv=>whnf
   repeat'((first|clear U K|apply st|(apply zk;intro K U)|refine zY ?_|(refine zb (fun hc=>?_) (fun hc=>?_)<;>try exact⟨⟩)|fail)<;>conv=>whnf)
   exact AI ⟨_,⟨by rw[hF],_,got.ext.trans ⟨_,by simp,hnew⟩,hinv,rfl⟩,HS (X:=[]) hs⟩
 .have h1:H2 e4.k.BM 5=false:=by
   rw[<-Bool.not_eq_true,<-hb3];omega
  exact AI ⟨_,⟨by rw[hP,h1];simp,_,got.ext,got.inv,rfl⟩,by simpa using Dq (X:=[]) (e:=e4) (e':=e4) rfl rfl rfl hs⟩
def AAM (w:AF) {kf:Int->List Int->Kn} (hr:ER w kf) {L:Nat} {es:List B8} (h:B2 kf es) {a:Int} {p:List Int} (hp:p.length<=2) :
    BQ zP 216 [.a (gv w (Bc w.parents) L),CL a p,eI 1] (Bu L es) fun r post=>r= .ret (.b (GJ kf a p))/\HK kf L es post:=by
 intro Z hs;have hM:=Mx;obtain⟨-,hu1,hu2⟩:=ie w.parents;generalize Bc w.parents=us at *;refine jo kZ ?_;refine zz ?_;(repeat clear U K);repeat intro K U
 refine(nX w us h (a:=a) (p:=p) hp).use (rest:=[]) (by simpa using hs) ?_;clear hs;rintro r post Z ⟨es4,e4,got,rfl,rfl⟩ hs;have hek:=got.k;obtain⟨pre,post,rfl⟩:=List.append_of_mem got.mem;rw[Ez]at hs;replace hs:=Jz (X:=[]) hs;have hok:=hr.ok a p;have hsl:=(hr.ok a p).2.2.2;have hsh:=hr.short a p;rw[<-hek]at hok hsl hsh;have hb1:bits .andNot .u64 (e4.k.BM:Int) ((3:Nat):Int)=((MP e4.k.BM 3:Nat):Int):=Ih;have hb2:bits .and .u64 (e4.k.Dz:Int) ((3:Nat):Int)=((e4.k.Dz&&&3:Nat):Int):=GD hok.2.1 (by decide);have hb3:=NM (u:=3) hok.1
 have hP:GJ kf a p=(decide (Eo (kf a p)<=e4.k.high)&&(H2 e4.k.BM 3&&(e4.k.Dz&&&3==0&&e4.k.AG.all fun s=> !(kf a (p++[s])).Ab))):=by
  rw[GJ,Ek,IE,hek];rfl
 generalize GJ kf a p=R at *
 conv=>whnf
 repeat'((first|clear U K|apply st|(apply zk;intro K U)|refine zY ?_|refine za (fun hc=>?_) fun hc=>?_|fail)<;>conv=>whnf)
 .have h2:(e4.k.Dz&&&3==0)=false:=by rw[beq_eq_false_iff_ne];omega
  exact AI ⟨_,⟨by rw[hP,h2];simp,_,got.ext,got.inv,rfl⟩,by simpa using Dq (X:=[]) (e:=e4) (e':=e4) rfl rfl rfl hs⟩
 .have h1:H2 e4.k.BM 3=true:=hb3.1 (by omega)
  have h2:(e4.k.Dz&&&3==0)=true:=by rw[C0];omega
  rw[h1,h2,Ds,Ds]at hP
  have hs1:Sat Z (.own e4.vs 1 (iL e4.k.AG)::gN L pre post e4 []):=by
   have h2:=Hk (X:=[]) (L:=L) (pre:=pre) (post:=post) (e:=e4) (s:=[]) (by simpa using Dq (X:=[]) (e:=e4) (e':=e4) rfl rfl rfl hs);simpa using h2
  refine B1 e4.k.AG.length (fun k (x:List B8)=>[(49,eI (A4 k))]) (fun k x=> .own e4.vs 1 (iL e4.k.AG)::gN L pre post e4 x) (fun k x=>(B2 kf (pre++e4::(post++x))/\ ∀y∈x,y.k=k0)/\R=(decide (Eo (kf a p)<=e4.k.high)&&(e4.k.AG.drop k).all fun s=> !(kf a (p++[s])).Ab)) [] rfl ⟨⟨by simpa using got.inv,by simp⟩,hP⟩ hs1 ?_;clear hs hs1 hP;rintro k new Z hk ⟨⟨hinv,hnew⟩,hF⟩ hs;have hck:A4 k=k:=Ag (by omega);rcases A8 e4.k.AG hk with⟨s,hsk,hlt⟩|hke
  .have hsm:=Bp hsk
   have hp2:p.length<2:=by
    rcases Nat.lt_or_ge p.length 2 with h'|h'
    .exact h'
    .rw[hsh h']at hsm;cases hsm
   rw[drop_cons hsk,K5]at hF
   conv=>whnf
   repeat'((first|clear U K|apply st|(apply zk;intro K U)|refine zY ?_|refine rk ?_ ?_|exact fun s e=>by cases e;rfl|refine ze fun x hx=>?_|refine Pure.use (Mq a p _ hp2) ?_|fail)<;>conv=>whnf)
   obtain rfl:x=s:=by rw[hck,Fi,hsk]at hx;exact(Option.some.inj hx).symm
   refine(nX w us hinv (a:=a) (p:=p++[x]) (by simp;omega)).use (rest:=[]) (by simpa using HS (X:=[]) (by simpa using hs)) ?_;clear hs;rintro r post' Z ⟨es5,e5,got5,rfl,rfl⟩ hs;have hek5:=congrArg Kn.Ab got5.k;obtain⟨newA,heA,hnA⟩:=got5.ext;obtain⟨pre5,post5,he5⟩:=List.append_of_mem got5.mem;have e7:es5=pre++e4::(post++(new++newA)):=by rw[heA];simp
   have hi7:=got5.inv;rw[e7]at hi7;have hn7: ∀y∈new++newA,y.k=k0:=fun y hy=>(Dy.1 hy).elim (hnew y) (hnA y)
   rw[Ez,he5]at hs;replace hs:=Jz (X:=[]) hs;cases hnx:(kf a (p++[x])).Ab<;>rw[hnx]at hek5 hF<;>rw[hek5]at hs
   all_goals
    refine zz ?_;(repeat clear U K);repeat intro K U
    have hs3:Sat Z (Bu L (pre++e4::(post++(new++newA)))):=by
     rw[<-hek5]at hs;have h3:=Dq (X:=[]) (e:=e5) (e':=e5) rfl rfl rfl hs;rw[<-he5,e7]at h3;exact h3
   .exact⟨hlt,new++newA,rfl,⟨⟨hi7,hn7⟩,by rw[hF];rfl⟩,Hk (X:=[]) hs3⟩
   .exact AI ⟨_,⟨by rw[hF];simp,_,got.ext.trans ⟨_,by simp,hn7⟩,hi7,rfl⟩,hs3⟩
  .rw[Ai hke,List.all_nil,Bool.and_true]at hF
   have hlo:=hr.low a p;rw[<-hek]at hlo;have hno:=hok.2.2.1;have hle:=VR e4.k.no e4.k.low;have hL:Eo (kf a p)=HC e4.k.no (from_ e4.k.no e4.k.low) e4.k.low:=by rw[Eo,<-hek];exact QB hle (Hz _)
   conv=>whnf
   repeat'((first|clear U K|apply st|(apply zk;intro K U)|refine zY ?_|(refine zb (fun hc=>?_) (fun hc=>?_)<;>try exact⟨⟩)|fail)<;>conv=>whnf)
   refine D7 (fun n:Int=>from_ e4.k.no n) (fun n=>[(10,eI n)]) (fun _=> .own e4.vs 1 (iL e4.k.AG)::gN L pre post e4 new) (fun n=> -1000000000<=n/\n+from_ e4.k.no n<=1000001000/\Eo (kf a p)=HC e4.k.no (from_ e4.k.no n) n) e4.k.low rfl ⟨by omega,by omega,hL⟩ hs ?_;clear hs hL hle;rintro n Z ⟨hn0,hn1,hL⟩ hs;have hct2:=fun b=>C3 e4.k.no b n
   cases hcB:e4.k.no.contains n<;>rw[hcB]at hct2
   .have hout:n∉e4.k.no:=by simpa using hcB
    rw[cZ hout]at hL;rw[hL]at hF
    conv=>whnf
    repeat'((first|clear U K|apply st|(apply zk;intro K U)|refine zY ?_|refine Pure.MI (hct2 false) (.cons (hs.GG 2 rfl) (.cons (.refl _) .nil)) rfl ?_|fail)<;>conv=>whnf)
    all_goals exact AI ⟨_,⟨by rw[hF],_,got.ext.trans ⟨_,by simp,hnew⟩,hinv,rfl⟩,HS (X:=[]) hs⟩
   .have hin:n∈e4.k.no:=by simpa using hcB
    have hlt:=P6 hin;have hwr:IntKind.i64.wrap (n+1)=n+1:=wrap64 (by omega) (by omega);obtain⟨m,hm⟩: ∃m,from_ e4.k.no n=m+1:=⟨from_ e4.k.no n - 1,by omega⟩
    have hL2:Eo (kf a p)=HC e4.k.no (from_ e4.k.no (n+1)) (n+1):=by rw[hL,hm,kI hin];exact QB (by omega) (Hz _)
    conv=>whnf
    repeat'((first|clear U K|apply st|(apply zk;intro K U)|refine zY ?_|refine Pure.MI (hct2 false) (.cons (hs.GG 2 rfl) (.cons (.refl _) .nil)) rfl ?_|fail)<;>conv=>whnf)
    exact⟨n+1,hlt,by rw[hwr];rfl,⟨by omega,by omega,hL2⟩,hs⟩
 .have h1:H2 e4.k.BM 3=false:=by
   rw[<-Bool.not_eq_true,<-hb3];omega
  exact AI ⟨_,⟨by rw[hP,h1];simp,_,got.ext,got.inv,rfl⟩,by simpa using Dq (X:=[]) (e:=e4) (e':=e4) rfl rfl rfl hs⟩
end Go.Gl
namespace Go.Gl
open Go.Proofs
attribute [local irreducible] Au Am Ae AR AK AY AQ AS AJ AX AM AO Ao A0 Sat AU Ay Af W
def bQ (w : AF) (hw:Ct w) (us:List Nat) {kf:Int->List Int->Kn} (hr:ER w kf) {a:Int} {p:List Int} (hp:p.length<=2) (up:Nat) (hup:up<18446744073709551616) (g:FuncId) (fi ca:List V) (can:Int->Bool) {L:Nat}
    (hcan: ∀s∈(kf a p).AG,∀es,B2 kf es->BQ zP g (fi++[CL a (p++[s])]++ca) (Bu L es) fun r post=>r= .ret (.b (can s))/\HK kf L es post) {es:List B8} (h:B2 kf es) :
    BQ zP 217 [.a (gv w us L),CL a p,eU up,.f (.func g) fi ca] (Bu L es) fun r post=>r= .ret (.b (Sh w kf a p up can))/\HK kf L es post:=by
 intro Z hs;have hM:=Mx;refine x7 kZ ?_;refine zz ?_;(repeat clear U K);repeat intro K U
 refine(nX w us h (a:=a) (p:=p) hp).use (rest:=[]) (by simpa using hs) ?_;clear hs;rintro r post Z ⟨es4,e4,got,rfl,rfl⟩ hs;have hek:=got.k;obtain⟨pre,post,rfl⟩:=List.append_of_mem got.mem;rw[Ez]at hs;replace hs:=Jz (X:=[]) hs;have hok:=hr.ok a p;have hsl:=(hr.ok a p).2.2.2;have hsh:=hr.short a p;have hsw:=hr.AG a p;rw[<-hek]at hok hsl hsh hsw hcan;have hb1:bits .andNot .u64 (e4.k.BM:Int) (up:Int)=((MP e4.k.BM up:Nat):Int):=Ih;have hb2:bits .and .u64 (e4.k.Dz:Int) (up:Int)=((e4.k.Dz&&&up:Nat):Int):=GD hok.2.1 hup;have hb3:=NM (u:=up) hok.1
 have hP:Sh w kf a p up can=(!e4.k.whole&&(H2 e4.k.BM up&&(e4.k.Dz&&&up==0&&e4.k.AG.all fun s=>if up.testBit (Bl w s).toNat then can s else !(kf a (p++[s])).Ab))):=by
  rw[Sh,hek]
 generalize Sh w kf a p up can=R at *;cases hwh:e4.k.whole<;>rw[hwh]at hP hs
 rotate_left
 .refine zz ?_;(repeat clear U K);repeat intro K U
  exact AI ⟨_,⟨by rw[hP];rfl,_,got.ext,got.inv,rfl⟩,by rw[<-hwh]at hs;simpa using Dq (X:=[]) (e:=e4) (e':=e4) rfl rfl rfl hs⟩
 have hcl: ∀ {Z:AE},Sat Z (.box e4.b [eU e4.k.BM,eU e4.k.Dz,eI e4.k.low,eI e4.k.high,e4.vn,.b false,.b e4.k.Ab,e4.vs]:: .own e4.vn 1 (iL e4.k.no):: .own e4.vs 1 (iL e4.k.AG)::([]++JT L (pre++e4::post) pre post))->Sat Z (Bu L (pre++e4::post)):=fun h=>by
  rw[<-hwh]at h;simpa using Dq (X:=[]) (e:=e4) (e':=e4) rfl rfl rfl h
 conv=>whnf
 repeat'((first|clear U K|apply st|(apply zk;intro K U)|refine zY ?_|refine za (fun hc=>?_) fun hc=>?_|fail)<;>conv=>whnf)
 .have h2:(e4.k.Dz&&&up==0)=false:=by rw[beq_eq_false_iff_ne];omega
  exact AI ⟨_,⟨by rw[hP,h2];simp,_,got.ext,got.inv,rfl⟩,hcl hs⟩
 .have h1 : H2 e4.k.BM up=true:=hb3.1 (by omega)
  have h2:(e4.k.Dz&&&up==0)=true:=by rw[C0];omega
  rw[h1,h2,Bool.not_false,Ds,Ds,Ds]at hP
  have hs1:Sat Z (.own e4.vs 1 (iL e4.k.AG)::gN L pre post e4 []):=by
   have h2:=Hk (X:=[]) (L:=L) (pre:=pre) (post:=post) (e:=e4) (s:=[]) (by simpa using hcl hs);simpa using h2
  clear hb1 hb2 hb3 h1 h2;refine B1 e4.k.AG.length (fun k (x:List B8)=>[(44,eI (A4 k))]) (fun k x=> .own e4.vs 1 (iL e4.k.AG)::gN L pre post e4 x) (fun k x=>(B2 kf (pre++e4::(post++x))/\ ∀y∈x,y.k=k0)/\R=(e4.k.AG.drop k).all fun s=>if up.testBit (Bl w s).toNat then can s else !(kf a (p++[s])).Ab) [] rfl ⟨⟨by simpa using got.inv,by simp⟩,hP⟩ hs1 ?_;clear hs hs1 hP hcl;rintro k new Z hk ⟨⟨hinv,hnew⟩,hF⟩ hs;have hck:A4 k=k:=Ag (by omega);rcases A8 e4.k.AG hk with⟨s,hsk,hlt⟩|hke
  .have hsm:=Bp hsk
   have hp2:p.length<2:=by
    rcases Nat.lt_or_ge p.length 2 with h'|h'
    .exact h'
    .rw[hsh h']at hsm;cases hsm
   obtain⟨hs0,hs1⟩:=hsw s hsm;obtain⟨o,ho⟩: ∃o,w.owner[s.toNat]? =some o:=⟨_,Cs (by omega)⟩
   have hoI:Bl w s=o:=by simp only[Bl,C6,ho];rfl
   obtain⟨ho1,ho2⟩:=hw.2.2 o (Bp ho);have hwp:=hw.1.1;rw[drop_cons hsk,K5,hoI]at hF;have hcx:=hcan s hsm
   conv=>whnf
   repeat'((first|clear U K|apply st|(apply zk;intro K U)|refine zY ?_|refine ze fun x hx=>?_|refine zs fun Z hs=>?_|refine Pure.use (Mq a p _ hp2) ?_|refine zo fun nn hnn Z hs=>?_|fail)<;>conv=>whnf)
   obtain rfl:x=s:=by rw[hck,Fi,hsk]at hx;exact(Option.some.inj hx).symm
   generalize nn=n7 at *;have hs2:Sat Z ([.box n7 (GH a (p++[x]))]++Bu L (pre++e4::(post++new))):=HS (X:=[.box n7 (GH a (p++[x]))]) (hs.perm (.swap _ _ _));clear hs;have hs:=hs2;clear hs2;have c2:=aQ up o hup (by omega) (by omega);cases hbo:up.testBit o.toNat<;>rw[hbo]at hF c2
   .rw [if_neg (by decide)]at hF
    conv=>whnf
    repeat'((first|clear U K|apply st|(apply zk;intro K U)|refine zY ?_|refine zC ?_|fail)<;>conv=>whnf)
    refine(nX w us hinv (a:=a) (p:=p++[x]) (by simp;omega)).use (rest:=[.box n7 (GH a (p++[x]))]) hs.flip ?_;clear hs;rintro r post' Z ⟨es5,e5,got5,rfl,rfl⟩ hs;have hek5:=congrArg Kn.Ab got5.k;obtain⟨newA,heA,hnA⟩:=got5.ext;obtain⟨pre5,post5,he5⟩:=List.append_of_mem got5.mem;have e7:es5=pre++e4::(post++(new++newA)):=by rw[heA];simp
    have hi7:=got5.inv;rw[e7]at hi7;have hn7: ∀y∈new++newA,y.k=k0:=fun y hy=>(Dy.1 hy).elim (hnew y) (hnA y)
    rw[he5]at hs;replace hs:=Jz (X:=[.box n7 (GH a (p++[x]))]) hs.flip;cases hnx:(kf a (p++[x])).Ab<;>rw[hnx]at hek5 hF<;>rw[hek5]at hs
    all_goals
     refine zz ?_;(repeat clear U K);repeat intro K U
     have hs3:Sat Z (Bu L (pre++e4::(post++(new++newA)))):=by
      rw[<-hek5]at hs;have h3:=Dq (X:=[.box n7 (GH a (p++[x]))]) (e:=e5) (e':=e5) rfl rfl rfl hs;rw[<-he5,e7]at h3;exact h3.less (List.sublist_append_right _ _)
    .exact⟨hlt,new++newA,rfl,⟨⟨hi7,hn7⟩,by rw[hF];rfl⟩,Hk (X:=[]) hs3⟩
    .exact AI ⟨_,⟨by rw[hF];rfl,_,got.ext.trans ⟨_,by simp,hn7⟩,hi7,rfl⟩,hs3⟩
   .rw[if_pos rfl]at hF
    cases hcy:can x<;>rw[hcy]at hF hcx
    all_goals
     conv=>whnf
     repeat'((first|clear U K|apply st|(apply zk;intro K U)|refine zY ?_|refine zC ?_|fail)<;>conv=>whnf)
     refine BO ((hcx _ hinv).use (rest:=[.box n7 (GH a (p++[x]))]) hs.flip ?_);clear hs;rintro r post' Z ⟨rfl,es6,⟨new6,he6,hn6⟩,hi6,rfl⟩ hs;have e7:es6=pre++e4::(post++(new++new6)):=by rw[he6];simp
     rw[e7]at hi6 hs;have hn7: ∀y∈new++new6,y.k=k0:=fun y hy=>(Dy.1 hy).elim (hnew y) (hn6 y)
     have hs3:Sat Z (Bu L (pre++e4::(post++(new++new6)))):=hs.less (List.sublist_append_left _ _);clear hs;have hs:=hs3;refine zz ?_;(repeat clear U K);repeat intro K U
    .exact AI ⟨_,⟨by rw[hF];rfl,_,got.ext.trans ⟨_,by simp,hn7⟩,hi6,rfl⟩,hs3⟩
    .exact⟨hlt,new++new6,rfl,⟨⟨hi6,hn7⟩,by rw[hF];rfl⟩,Hk (X:=[]) hs3⟩
  .rw[Ai hke,List.all_nil]at hF
   refine zz ?_;(repeat clear U K);repeat intro K U
   exact AI ⟨_,⟨by rw[hF],_,got.ext.trans ⟨_,by simp,hnew⟩,hinv,rfl⟩,HS (X:=[]) hs⟩
 .have h1:H2 e4.k.BM up=false:=by
   rw[<-Bool.not_eq_true,<-hb3];omega
  exact AI ⟨_,⟨by rw[hP,h1];simp,_,got.ext,got.inv,rfl⟩,hcl hs⟩
end Go.Gl
namespace Go.Gl
open Go.Proofs
def LD.len {es es':List B8} (h:LD es es'):es.length<=es'.length:=by
 obtain⟨n,rfl,_⟩:=h;simp
attribute [local irreducible] Au Am Ae AR AK AY AQ AS AJ AX AM AO Ao A0 Sat AU Ay Af W
def T3 (w : AF) (hw:Ct w) {kf:Int->List Int->Kn} (hr:ER w kf) {a:Int} {p:List Int} (hp:p.length<=2) (can:Int->Bool) {L:Nat}
    (hcan: ∀s∈(kf a p).AG,∀es,B2 kf es->BQ zP 143 [.a (gv w (Bc w.parents) L),CL a (p++[s])] (Bu L es) fun r post=>r= .ret (.b (can s))/\HK kf L es post) {es:List B8} (h:B2 kf es) :
    BQ zP 143 [.a (gv w (Bc w.parents) L),CL a p] (Bu L es) fun r post=>r= .ret (.b (GJ kf a p||(DY kf a p||Vz w kf a p can)))/\HK kf L es post:=by
 intro Z hs;have hM:=Mx;have c1:=AAM w hr h (L:=L) (a:=a) hp;have c2:=fun {es} (h:B2 kf es)=>sC w hr h (L:=L) (a:=a) hp
 have hu:sx (Bc w.parents):=Gv _ _ (by have:=hw.1.1;omega);have hul:(Bc w.parents).length=3+w.parents.length:=Dh _ _;have hwp:=hw.1.1;have hP:Vz w kf a p can=(!(D2 w kf a p).testBit 1&&(!(D2 w kf a p).testBit 2&&Sh w kf a p (Br (Bc w.parents) w.parents.length (D2 w kf a p)) can)):=rfl;have hMu:D2 w kf a p=(kf a p).AG.foldl (fun m s=>if(kf a (p++[s])).Ab then m|||2 ^ (Bl w s).toNat else m) ((kf a p).BM|||2 ^ 0):=rfl;have hobj:=fun up hup es (hi:B2 kf es)=>bQ w hw (Bc w.parents) hr hp up hup 143 [.a (gv w (Bc w.parents) L)] [] can (L:=L) hcan (es:=es) hi
 generalize Bc w.parents=us at *;generalize Vz w kf a p can=R at *;generalize D2 w kf a p=MU at *;cases hI:GJ kf a p<;>rw[hI]at c1
 rotate_left
 .refine Y9 kZ ?_
  refine zz ?_;(repeat clear U K);repeat intro K U
  refine c1.use (rest:=[]) (by simpa using hs) ?_;clear hs;rintro r post Z ⟨rfl,es2,hx2,hi2,rfl⟩ hs;rw[Ez]at hs;refine zz ?_;(repeat clear U K);repeat intro K U
  exact AI ⟨_,⟨rfl,es2,hx2,hi2,rfl⟩,hs⟩
 cases hN:DY kf a p<;>rw[hN]at c2
 rotate_left
 .refine Y9 kZ ?_
  refine zz ?_;(repeat clear U K);repeat intro K U
  refine c1.use (rest:=[]) (by simpa using hs) ?_;clear hs;rintro r post Z ⟨rfl,es2,hx2,hi2,rfl⟩ hs;rw[Ez]at hs;refine zz ?_;(repeat clear U K);repeat intro K U
  refine(c2 hi2).use (rest:=[]) (by simpa using hs) ?_;clear hs;rintro r post Z ⟨rfl,es3,hx3,hi3,rfl⟩ hs;rw[Ez]at hs;refine zz ?_;(repeat clear U K);repeat intro K U
  exact AI ⟨_,⟨rfl,es3,hx2.trans hx3,hi3,rfl⟩,hs⟩
 rw[Bool.false_or,Bool.false_or];refine Y9 kZ ?_;refine zz ?_;(repeat clear U K);repeat intro K U
 refine c1.use (rest:=[]) (by simpa using hs) ?_;clear hs;rintro r post Z ⟨rfl,es2,hx2,hi2,rfl⟩ hs;rw[Ez]at hs;refine zz ?_;(repeat clear U K);repeat intro K U
 refine(c2 hi2).use (rest:=[]) (by simpa using hs) ?_;clear hs;rintro r post Z ⟨rfl,es3,hx3,hi3,rfl⟩ hs;rw[Ez]at hs;clear c1 c2;refine zz ?_;(repeat clear U K);repeat intro K U
 refine(nX w us hi3 (a:=a) (p:=p) hp).use (rest:=[]) (by simpa using hs) ?_;clear hs;rintro r post Z ⟨es4,e4,got,rfl,rfl⟩ hs;have hx4:=(hx2.trans hx3).trans got.ext;have hek:=got.k;obtain⟨pre,post,rfl⟩:=List.append_of_mem got.mem;rw[Ez]at hs;replace hs:=Hk (X:=[]) (L:=L) (pre:=pre) (post:=post) (e:=e4) (s:=[]) (by simpa using hs);have hok:=hr.ok a p;have hsl:=(hr.ok a p).2.2.2;have hsh:=hr.short a p;have hsw:=hr.AG a p;rw[<-hek]at hok hsl hsh hsw hcan hMu;have hi4:=got.inv;clear got;have c3:=rY e4.k.BM 0 hok.1 (by decide);have hm0:e4.k.BM|||2 ^ 0<18446744073709551616:=IA hok.1 (Gr (by decide))
 conv=>whnf
 repeat'((first|clear U K|apply st|(apply zk;intro K U)|refine zY ?_|refine zC ?_|fail)<;>conv=>whnf)
 refine B1 e4.k.AG.length (fun k (x:Nat×List B8)=>[(34,eI (A4 k)),(6,eU x.1)]) (fun k x=> .own e4.vs 1 (iL e4.k.AG)::gN L pre post e4 x.2) (fun k x=>x.1<18446744073709551616/\(B2 kf (pre++e4::(post++x.2))/\ ∀y∈x.2,y.k=k0)/\MU=(e4.k.AG.drop k).foldl (fun m s=>if(kf a (p++[s])).Ab then m|||2 ^ (Bl w s).toNat else m) x.1) (e4.k.BM|||2 ^ 0,[]) rfl ⟨hm0,⟨by simpa using hi4,by simp⟩,hMu⟩ hs ?_;clear hs hMu hm0 c3 hi4;rintro k ⟨m,new⟩ Z hk ⟨hm,⟨hinv,hnew⟩,hF⟩ hs;dsimp only at hm hinv hnew hF hs;have hck:A4 k=k:=Ag (by omega);rcases A8 e4.k.AG hk with⟨s,hsk,hlt⟩|hke
 .have hsm:=Bp hsk
  have hp2:p.length<2:=by
   rcases Nat.lt_or_ge p.length 2 with h'|h'
   .exact h'
   .rw[hsh h']at hsm;cases hsm
  obtain⟨hs0,hs1⟩:=hsw s hsm;obtain⟨o,ho⟩: ∃o,w.owner[s.toNat]? =some o:=⟨_,Cs (by omega)⟩
  have hoI:Bl w s=o:=by simp only[Bl,C6,ho];rfl
  obtain⟨ho1,ho2⟩:=hw.2.2 o (Bp ho);rw[drop_cons hsk,List.foldl_cons,hoI]at hF;have c3:=Nz m o hm (by omega) (by omega)
  conv=>whnf
  repeat'((first|clear U K|apply st|(apply zk;intro K U)|refine zY ?_|refine rk ?_ ?_|exact fun s e=>by cases e;rfl|refine ze fun x hx=>?_|refine Pure.use (Mq a p _ hp2) ?_|fail)<;>conv=>whnf)
  obtain rfl:x=s:=by rw[hck,Fi,hsk]at hx;exact(Option.some.inj hx).symm
  refine(nX w us hinv (a:=a) (p:=p++[x]) (by simp;omega)).use (rest:=[]) (by simpa using HS (X:=[]) (by simpa using hs)) ?_;clear hs;rintro r post' Z ⟨es5,e5,got5,rfl,rfl⟩ hs;have hek5:=congrArg Kn.Ab got5.k;obtain⟨newA,heA,hnA⟩:=got5.ext;obtain⟨pre5,post5,he5⟩:=List.append_of_mem got5.mem;have e7:es5=pre++e4::(post++(new++newA)):=by rw[heA];simp
  have hi7:=got5.inv;rw[e7]at hi7;have hn7: ∀y∈new++newA,y.k=k0:=fun y hy=>(Dy.1 hy).elim (hnew y) (hnA y)
  rw[Ez,he5]at hs;replace hs:=Jz (X:=[]) hs;have hob:2 ^ o.toNat<18446744073709551616:=Gr (by omega);cases hnx:(kf a (p++[x])).Ab<;>rw[hnx]at hek5 hF<;>rw[hek5]at hs
  all_goals
   conv=>whnf
   repeat'((first|clear U K|apply st|(apply zk;intro K U)|refine zY ?_|refine zC ?_|fail)<;>conv=>whnf)
   have hs3:Sat Z (Bu L (pre++e4::(post++(new++newA)))):=by
    rw[<-hek5]at hs;have h3:=Dq (X:=[]) (e:=e5) (e':=e5) rfl rfl rfl hs;rw[<-he5,e7]at h3;exact h3
  .exact⟨hlt,(m,new++newA),rfl,⟨hm,⟨hi7,hn7⟩,by rw[hF];rfl⟩,Hk (X:=[]) hs3⟩
  .exact⟨hlt,(m|||2 ^ o.toNat,new++newA),rfl,⟨IA hm hob,⟨hi7,hn7⟩,by rw[hF];rfl⟩,Hk (X:=[]) hs3⟩
 .rw [Ai hke,List.foldl_nil]at hF
  subst hF;have d1:=tT MU 1 hm (by decide);have d2:=tT MU 2 hm (by decide);have hsc: ∀ {Z:AE},Sat Z (.own e4.vs 1 (iL e4.k.AG)::gN L pre post e4 new)->Sat Z (Bu L (pre++e4::(post++new))):=fun h=>HS (X:=[]) h
  have hx5:LD es (pre++e4::(post++new)):=hx4.trans ⟨new,by simp,hnew⟩;cases hb1:MU.testBit 1<;>rw[hb1]at d1 hP
  rotate_left
  .conv=>whnf
   repeat'((first|clear U K|apply st|(apply zk;intro K U)|refine zY ?_|refine d1.use ?_|fail)<;>conv=>whnf)
   all_goals try(exfalso;omega)
   exact AI ⟨_,⟨by rw[hP];rfl,_,hx5,hinv,rfl⟩,hsc hs⟩
  cases hb2:MU.testBit 2<;>rw[hb2]at d2 hP
  rotate_left
  .conv=>whnf
   repeat'((first|clear U K|apply st|(apply zk;intro K U)|refine zY ?_|refine d1.use ?_|refine d2.use ?_|fail)<;>conv=>whnf)
   all_goals try(exfalso;omega)
   exact AI ⟨_,⟨by rw[hP];rfl,_,hx5,hinv,rfl⟩,hsc hs⟩
  conv=>whnf
  repeat'((first|clear U K|apply st|(apply zk;intro K U)|refine zY ?_|refine d1.use ?_|refine d2.use ?_|fail)<;>conv=>whnf)
  all_goals try(exfalso;omega)
  clear hke hck hk d1 d2 k;rw[Bool.not_false,Ds,Ds]at hP;have eul:((us.map fun u=>[eU u]).length:Int)=us.length:=by simp
  refine B1 us.length (fun k (x:Nat)=>[(73,eI (A4 k)),(6,eU x)]) (fun _ _=> .own e4.vs 1 (iL e4.k.AG)::gN L pre post e4 new) (fun k x=>x<18446744073709551616/\x=Br us (k - 3) MU) MU rfl ⟨hm,rfl⟩ hs ?_;clear hs;rintro k x Z hk ⟨hx64,hxe⟩ hs;have hck:A4 k=k:=Ag (by omega);rcases A8 us hk with⟨u,huk,hlt⟩|hke
  .have hbt:Br us (k+1 - 3) MU=if 3<=k/\x.testBit k then x|||u else x:=by
    rcases Nat.lt_or_ge k 3 with h3|h3
    .rw[if_neg (fun h=>by omega),hxe,show k+1 - 3=k - 3 by omega]
    .obtain⟨j,rfl⟩: ∃j,k=3+j:=⟨k - 3,by omega⟩
     have eu:us.getD (3+j) 0=u:=by rw[C6,huk];rfl
     rw[show 3+j+1 - 3=j+1 by omega,Br,show 3+j - 3=j by omega]at *;rw[<-hxe,eu];by_cases hb:x.testBit (3+j)=true
     .rw[if_pos hb,if_pos ⟨by omega,hb⟩]
     .rw[if_neg hb,if_neg (fun h=>hb h.2)]
   have hu64:u<18446744073709551616:=hu u (Bp huk);have huc:us[(A4 k).toNat]? =some u:=by rw[hck,Fi];exact huk
   have d1:=aQ x (A4 k) hx64 (by omega) (by omega);have ekk:(A4 k).toNat=k:=by rw[hck,Fi]
   rw[ekk]at d1;cases hbk:x.testBit k<;>rw[hbk]at d1 hbt
   .rw[if_neg (fun h=>by cases h.2)]at hbt
    conv=>whnf
    repeat'((first|clear U K|apply st|(apply zk;intro K U)|refine zY ?_|refine d1.use ?_|(refine zd (fun hc=>?_) (fun hc=>?_)<;>try exact⟨⟩)|fail)<;>conv=>whnf)
    all_goals exact⟨hlt,x,rfl,⟨hx64,hbt.symm⟩,hs⟩
   .by_cases h3:3<=k
    .rw[if_pos ⟨h3,rfl⟩]at hbt
     conv=>whnf
     repeat'((first|clear U K|apply st|(apply zk;intro K U)|refine zY ?_|refine d1.use ?_|(refine zb (fun hc=>?_) (fun hc=>?_)<;>try exact⟨⟩)|fail)<;>conv=>whnf)
     all_goals exact⟨hlt,x|||u,by rw[HT hx64 hu64];rfl,⟨IA hx64 hu64,hbt.symm⟩,hs⟩
    .rw[if_neg (fun h=>h3 h.1)]at hbt
     conv=>whnf
     repeat'((first|clear U K|apply st|(apply zk;intro K U)|refine zY ?_|(refine zb (fun hc=>?_) (fun hc=>?_)<;>try exact⟨⟩)|fail)<;>conv=>whnf)
     all_goals exact⟨hlt,x,rfl,⟨hx64,hbt.symm⟩,hs⟩
  .have hke3:k - 3=w.parents.length:=by omega
   rw[hke3]at hxe;rw[<-hxe]at hP;refine zz ?_;(repeat clear U K);repeat intro K U
   refine(hobj x hx64 _ hinv).use (rest:=[]) (by simpa using hsc hs) ?_;clear hs;rintro r post' Z ⟨rfl,es6,hx6,hi6,rfl⟩ hs;rw[Ez]at hs;refine zz ?_;(repeat clear U K);repeat intro K U
   exact AI ⟨_,⟨by rw[hP],es6,hx5.trans hx6,hi6,rfl⟩,hs⟩
def rB (w:AF) (hw:Ct w) {kf:Int->List Int->Kn} (hr:ER w kf) (a:Int) {L:Nat}: ∀(d:Nat) (p:List Int),p.length+d=2-> ∀es,B2 kf es->
    BQ zP 143 [.a (gv w (Bc w.parents) L),CL a p] (Bu L es) fun r post=>r= .ret (.b (Sj w kf a d p))/\HK kf L es post:=by
 intro d
 induction d with
 | zero=>
   intro p hp es h;rw[Sj];exact T3 w hw hr (by omega) _ (fun s hs=>by rw[hr.short a p (by omega)]at hs;cases hs) h
 | succ d ih=>
   intro p hp es h;rw[Sj];exact T3 w hw hr (by omega) _ (fun s _ es h=>ih (p++[s]) (by simp;omega) es h) h
end Go.Gl
namespace Go.Gl
open Go.Proofs
abbrev Ye (p:Prog) (gen:Int) (ms:List Int):List V:=BG p++[eI gen,.l (iL ms) false]
structure Yl (p:Prog) (ms:List Int):Prop where
 ok:ES p
 F6: ∀m∈ms,BN p m=true
 s7:ms.length<=8
def Ck (s n:Nat):List Bool:=(List.range n).map s.testBit
def T6 (s n:Nat):(Ck s n).length=n:=by simp[Ck]
def Xl {s n i:Nat} (h:i<n):(Ck s n)[i]? =some (s.testBit i):=by
 rw[Ck,Jm,List.getElem?_range h];rfl
abbrev Js (p:Prog) (ms:List Int):List Fact:=ms.map fun m=>(Be p m).fact
def WN (g:FuncId) (fi ca:List V) (w:AF) (tog:List Fact->Bool):Prop:= ∀l b,(∀x∈l,DV w x)->l.length<900->Pure zP g (fi++[Lb l b]++ca) (.b (tog l))
abbrev iJ (g:FuncId) (fi ca:List V) (p:Prog) (gen:Int) (ms:List Int) (s many nN:Nat):V:= .f (.func 208) [] [.rp [.f (.func g) fi ca],.rp [eI many],.rp (Ye p gen ms),.rp [eU s],.p nN 0]
section
variable {g:FuncId} {fi ca:List V} {p:Prog} {gen:Int} {ms:List Int} {tog:List Fact->Bool}
def WR (p:Prog) (ms:List Int) (s many i:Nat):List (List (List Fact)):=(dS ((Js p ms).zip (Ck s many))).drop i
def dn {s many i:Nat} (h:many<=i):WR p ms s many i= []:=List.drop_of_length_le (by simp[dS,T6];omega)
def lO {s many i:Nat} {m:Int} (h:i<many) (hm:ms[i]? =some m):WR p ms s many i=Cb (Be p m).fact (!s.testBit i)::WR p ms s many (i+1):=by
 refine drop_cons ?_;have hz:((Js p ms).zip (Ck s many))[i]? =some ((Be p m).fact,s.testBit i):=List.getElem?_zip_eq_some.2 ⟨by rw[Jm,hm];rfl,Xl h⟩;rw[dS,Jm,hz];rfl
attribute [local irreducible] Au Am Ae AR AK AY AQ AS AJ AX AM AO Ao A0 Sat AU Ay Af W
def pV (h:Yl p ms) (hcan:WN g fi ca (AL p) tog) {s many nN:Nat} (hs64:s<18446744073709551616) (hmn:many<=ms.length): ∀(d i:Nat) (l:List Fact) (b:Bool),i+d=many->(∀x∈l,DV (AL p) x)->l.length<=12*i-> ∀Z,Sat Z [.box nN [iJ g fi ca p gen ms s many nN]]->
    Au zP 208 [eI i,Lb l b,.rp [.f (.func g) fi ca],.rp [eI many],.rp (Ye p gen ms),.rp [eU s],.p nN 0] Z fun r Z'=>r= .ret (.b (Jh tog (WR p ms s many i) l))/\Sat Z' [.box nN [iJ g fi ca p gen ms s many nN]]:=by
 have hM:=Mx;have hfew:=h.s7;intro d
 induction d with
 | zero=>
   intro i l b hid hl hln Z hs;have c1:=hcan l b hl (by omega);rw[dn (by omega),Jh];cases ht:tog l<;>rw[ht]at c1
   all_goals
    refine Y7 kZ ?_
    conv=>whnf
    repeat'((first|clear U K|apply st|(apply zk;intro K U)|refine zY ?_|refine rk ?_ ?_|exact fun s e=>by cases e;rfl|refine BO (c1.use ?_)|(refine zb (fun hc=>?_) (fun hc=>?_)<;>try exact⟨⟩)|fail)<;>conv=>whnf)
    all_goals try(exfalso;simp at hc;omega)
    all_goals exact AI ⟨rfl,hs⟩
 | succ d ih=>
   intro i l b hid hl hln Z hs;have c1:=hcan l b hl (by omega);obtain⟨m,hm⟩: ∃m,ms[i]? =some m:=⟨_,Cs (by omega)⟩
   have hmm:=h.F6 m (Bp hm);have hmP:=CH hmm;have hfa:=h.ok.facts _ (Bp hmP);rw[lO (by omega) hm,Jh];cases ht:tog l<;>rw[ht]at c1
   .refine Y7 kZ ?_
    conv=>whnf
    repeat'((first|clear U K|apply st|(apply zk;intro K U)|refine zY ?_|refine BO (c1.use ?_)|fail)<;>conv=>whnf)
    all_goals exact AI ⟨rfl,hs⟩
   rw[Ds];have c2:=aQ s (i:Int) hs64 (by omega) (by omega);have hlits:=PO _ hfa.1;have hcl:=SF _ (Bn _ hfa.1);have hcas:=mw (Be p m).fact hfa.1 (by have:=hfa.2;omega);have hlv:=hfa.2;simp only[BN,A9,Cp]at hmm;have hm2:ms[((i:Nat):Int).toNat]? =some m:=by rw[Fi];exact hm
   rw[Fi]at c2;clear hfa;generalize Be p m=x at *
   have hT:aW 210 [] [.p nN 0,.rp [eI i]] [.box nN [iJ g fi ca p gen ms s many nN]] (Jh tog (WR p ms s many (i+1))) (fun y=>(∀z∈y,DV (AL p) z)/\y.length<=12*(i+1)):=by
    rintro y b' ⟨hy1,hy2⟩ Z hs;have hi:=ih (i+1) y b' (by omega) hy1 hy2;have hwi:IntKind.i64.wrap ((i:Int)+1)=((i+1:Nat):Int):=by rw[wrap64 (by omega) (by omega)];omega
    show Au zP 210 [Lb y b',.p nN 0,.rp [eI i]] Z _;refine yB kZ ?_;refine zz ?_;(repeat clear U K);repeat intro K U
    rw[hwi];refine BO (Au.mono (hi Z hs) ?_);clear hs;rintro r Z ⟨rfl,hs⟩;refine zz ?_;(repeat clear U K);repeat intro K U
    exact AI ⟨rfl,hs⟩
   refine Y7 kZ ?_
   conv=>whnf
   repeat'((first|clear U K|apply st|(apply zk;intro K U)|refine zY ?_|refine rk ?_ ?_|exact fun s e=>by cases e;rfl|refine BO (c1.use ?_)|refine c2.use ?_|(refine zb (fun hc=>?_) (fun hc=>?_)<;>try exact⟨⟩)|fail)<;>conv=>whnf)
   all_goals try(exfalso;simp at hc;omega)
   refine Au.mono (hcas (!s.testBit i) 210 [] [.p nN 0,.rp [eI i]] _ _ _ l b hT (fun c hc=>⟨fun z hz=>(Dy.1 hz).elim (hl z) (hlits _ c hc z),?_⟩) (by omega) Z hs) ?_
   .have:=hcl _ c hc
    rw[Nl];omega
   clear hs;rintro r Z ⟨rfl,hs⟩;refine zz ?_;(repeat clear U K);repeat intro K U
   all_goals exact AI ⟨rfl,hs⟩
def rj (h:Yl p ms) (hcan:WN g fi ca (AL p) tog) {s many:Nat} (hs64:s<18446744073709551616) (hmn:many<=ms.length):Pure zP 207 [eU s,eI many,.rp [.f (.func g) fi ca],.rp (Ye p gen ms)] (.b (GU tog (Js p ms) (Ck s many))):=by
 refine Pure.of ?_;refine yD kZ ?_;have hs:=Sn
 conv=>whnf
 repeat'((first|clear U K|apply st|(apply zk;intro K U)|refine zY ?_|refine zs fun Z hs=>?_|refine zo fun nn hnn Z hs=>?_|fail)<;>conv=>whnf)
 refine BO (Au.mono (pV h hcan hs64 hmn many 0 [] true (by omega) (fun x hx=>by cases hx) (by simp) _ hs) ?_);clear hs;rintro r Z ⟨rfl,hs⟩;refine zz ?_;(repeat clear U K);repeat intro K U
 exact AI rfl
end
end Go.Gl
namespace Go.Gl
open Go.Proofs
def XB {w:AF} (hw:Ct w) {ls:List Fact} (h: ∀x∈ls,DV w x) (hlen:ls.length<900):ER w (kg ls):=by
 have hadd:=Mr (by have:=hw.1.1;omega) h;have hr:=bC hw h hlen;have hW: ∀x∈ls,Dm w x:=fun x hx=>HR (h x hx)
 refine⟨fun a p=>?_,fun a p=>?_,fun a p hpl=>?_,fun a p s hs=>iN hW hs⟩
 .obtain⟨h1,h2,h3,h4⟩:=jS hadd a p
  exact⟨h1,h2,by omega,by omega⟩
 .rw[(Kg (Gs ls a p).core).1]
  exact hr.low a p
 .have h0:=hr.short a p hpl
  refine List.eq_nil_iff_forall_not_mem.2 fun s hs=>?_
  have:=((Gs ls a p).AG s).1 hs;rw[h0]at this;cases this
attribute [local irreducible] Au Am Ae AR AK AY AQ AS AJ AX AM AO Ao A0 Sat AU Ay Af W
def Wo {kf:Int->List Int->Kn} {L:Nat} (g:FuncId) (fi ca:List V) (can:Int->Bool) (hcan: ∀a:Int,0<=a->a<3-> ∀es,B2 kf es->BQ zP g (fi++[CL a []]++ca) (Bu L es) fun r post=>r= .ret (.b (can a))/\HK kf L es post) {es:List B8} (h:B2 kf es) :
    BQ zP 141 [.f (.func g) fi ca] (Bu L es) fun r post=>r= .ret (.b ((BS 3).all can))/\HK kf L es post:=by
 intro Z hs;have hM:=Mx;have hT:(BS 3).all can=(BS 3).all can:=rfl;generalize hR:(BS 3).all can=R at hT ⊢;refine yp kZ ?_;refine zz ?_;(repeat clear U K);repeat intro K U
 refine B1 3 (fun k (_:List B8)=>[(4,eI (A4 k))]) (fun _ x=>Bu L x) (fun k x=>(B2 kf x/\LD es x)/\R=((BS 3).drop k).all can) es rfl ⟨⟨h,.refl _⟩,hR.symm⟩ hs ?_;clear hs hR hT;rintro k x Z hk ⟨⟨hi,hx⟩,hn⟩ hs;have hck:A4 k=k:=Ag (by omega);rcases Nat.lt_or_ge k 3 with hlt|hge
 .rw[drop_cons (Qx hlt),K5]at hn
  have hc1:=hcan (A4 k) (by omega) (by omega) x hi;have e:can (A4 k)=can (k:Int):=by rw[hck]
  rw[e]at hc1;cases hB:can (k:Int)<;>rw[hB]at hn hc1
  all_goals
   conv=>whnf
   repeat'((first|clear U K|apply st|(apply zk;intro K U)|refine zY ?_|(refine zb (fun hc=>?_) (fun hc=>?_)<;>try exact⟨⟩)|fail)<;>conv=>whnf)
   refine BO (hc1.use (rest:=[]) (by simpa using hs) ?_);clear hs;rintro r post Z ⟨rfl,es2,hx2,hi2,rfl⟩ hs;rw[Ez]at hs;refine zz ?_;(repeat clear U K);repeat intro K U
  .exact AI ⟨_,⟨by rw[hn];rfl,es2,hx.trans hx2,hi2,rfl⟩,hs⟩
  .exact⟨hlt,es2,rfl,⟨⟨hi2,hx.trans hx2⟩,by rw[hn];rfl⟩,hs⟩
 .rw[List.drop_of_length_le (by rw[DQ];omega)]at hn
  conv=>whnf
  repeat'((first|clear U K|apply st|(apply zk;intro K U)|refine zY ?_|(refine zb (fun hc=>?_) (fun hc=>?_)<;>try exact⟨⟩)|fail)<;>conv=>whnf)
  all_goals exact AI ⟨_,⟨by rw[hn];rfl,x,hx,hi,rfl⟩,hs⟩
def eJ (w:AF) (hw:Ct w):WN 140 [] [.rp [.rp (gW w (Bc w.parents))]] w (nt w):=by
 intro l b hl hlen;refine Pure.of ?_;show Au zP 140 [Lb l b,.rp [.rp (gW w (Bc w.parents))]] _ _;have hr:=XB hw hl hlen;have hlk:=Xw w (Bc w.parents) l b (Mr (by have:=hw.1.1;omega) hl) hlen;have hT:nt w l=(BS 3).all fun a=>Sj w (kg l) a 2 []:=rfl
 rw[hT];refine yq kZ ?_;have hs:=Sn;refine zz ?_;(repeat clear U K);repeat intro K U
 refine hlk.use (rest:=[]) (by simpa using hs) ?_;clear hs;rintro r post Z ⟨L,es,rfl,hinv,rfl⟩ hs;rw[Ez]at hs
 conv=>whnf
 refine(Wo 143 [.a (gv w (Bc w.parents) L)] [] (fun a=>Sj w (kg l) a 2 []) (fun a _ _ es hi=>rB w hw hr a 2 [] rfl es hi) hinv).use (rest:=[]) (by simpa using hs) ?_;clear hs;rintro r post Z ⟨rfl,es2,hx2,hi2,rfl⟩ hs;refine zz ?_;(repeat clear U K);repeat intro K U
 exact AI rfl
end Go.Gl
namespace Go.Gl
open Go.Proofs
abbrev zy (w:AF) (us:List Nat) (L:Nat) (cs:List Int) (f:Bool):List V:=[.rp (gW w us),.m L,.l (iL cs) f]
attribute [local irreducible] Au Am Ae AR AK AY AQ AS AJ AX AM AO Ao A0 Sat AU Ay Af W
def T4 (w : AF) (hw:Ct w) {kf:Int->List Int->Kn} (hr:ER w kf) (cs:List Int) (f:Bool) (hcs:cs.length<=3) {a:Int} (ha:0<=a) {p:List Int} (hp:p.length<=2) (fit:Nat->Bool) (hfit:p= []/\fit=Jr cs a\/p≠[]/\fit=fun _=>true) (can:Int->Bool) {L:Nat}
    (hcan: ∀s∈(kf a p).AG,∀es,B2 kf es->BQ zP 145 [.a (zy w (Bc w.parents) L cs f),CL a (p++[s])] (Bu L es) fun r post=>r= .ret (.b (can s))/\HK kf L es post) {es:List B8} (h:B2 kf es) :
    BQ zP 145 [.a (zy w (Bc w.parents) L cs f),CL a p] (Bu L es) fun r post=>r= .ret (.b ((List.range (3+w.parents.length)).any fun c=>decide (1<=c)&&(fit c&&WH w kf a p can c)))/\HK kf L es post:=by
 intro Z hs;have hM:=Mx;have hu:sx (Bc w.parents):=Gv _ _ (by have:=hw.1.1;omega);have hul:(Bc w.parents).length=3+w.parents.length:=Dh _ _;have hwp:=hw.1.1;have hint:=fun es (h:B2 kf es)=>AAM w hr h (L:=L) (a:=a) hp
 have hnon:=fun es (h:B2 kf es)=>sC w hr h (L:=L) (a:=a) hp
 have hobj:=fun up hup es (hi:B2 kf es)=>bQ w hw (Bc w.parents) hr hp up hup 145 [.a (zy w (Bc w.parents) L cs f)] [] can (L:=L) hcan (es:=es) hi
 have hcP: ∀c,WH w kf a p can c=if c=1 then GJ kf a p else if c=2 then DY kf a p else Sh w kf a p ((Bc w.parents).getD c 0) can:=fun _=>rfl
 generalize WH w kf a p can=cP at *;generalize Bc w.parents=us at *;have eul:((us.map fun u=>[eU u]).length:Int)=us.length:=by simp
 have hR0:((List.range (3+w.parents.length)).any fun c=>decide (1<=c)&&(fit c&&cP c))=((List.range us.length).drop 1).any fun c=>decide (1<=c)&&(fit c&&cP c):=by
  rw[hul,show 3+w.parents.length=(2+w.parents.length)+1 by omega,List.range_succ_eq_map];simp
 generalize ((List.range (3+w.parents.length)).any fun c=>decide (1<=c)&&(fit c&&cP c))=R at *;refine ym kZ ?_;refine zz ?_;(repeat clear U K);repeat intro K U
 refine B1 (us.length - 1) (fun k (_:List B8)=>[(5,eI ((k+1:Nat):Int))]) (fun _ x=>Bu L x) (fun k x=>(B2 kf x/\LD es x)/\R=((List.range us.length).drop (k+1)).any fun c=>decide (1<=c)&&(fit c&&cP c)) es rfl ⟨⟨h,.refl _⟩,hR0⟩ hs ?_;clear hs hR0;rintro k x Z hk ⟨⟨hi,hx⟩,hn⟩ hs;have hwk:IntKind.i64.wrap (((k+1:Nat):Int)+1)=((k+1+1:Nat):Int):=by rw[wrap64 (by omega) (by omega)];omega
 rcases Nat.lt_or_ge k (us.length - 1)with hlt|hge
 .have hrk : (List.range us.length)[k+1]? =some (k+1):=List.getElem?_range (by omega)
  rw[drop_cons hrk,Pj,decide_eq_true (show 1<=k+1 by omega),Ds]at hn;obtain⟨u,hu2⟩: ∃u,us[k+1]? =some u:=⟨_,Cs (by omega)⟩
  have hu3:us[(((k+1:Nat):Int)).toNat]? =some u:=by rw[Fi];exact hu2
  have hug:us.getD (k+1) 0=u:=by rw[C6,hu2];rfl
  have hu64:u<18446744073709551616:=hu u (Bp hu2);have hck:=hcP (k+1);rw[hug]at hck
  have d216:k+1<3->BQ zP 216 [.a (gv w us L),CL a p,eI ((k+1:Nat):Int)] (Bu L x) fun r post=>r= .ret (.b (cP (k+1)))/\HK kf L x post:=fun h3=>by
   rcases k with _|_|k
   .rw[hck];exact hint x hi
   .rw[hck];exact hnon x hi
   .omega
  have d217:3<=k+1->BQ zP 217 [.a (gv w us L),CL a p,eU u,.f (.func 145) [.a (zy w us L cs f)] []] (Bu L x) fun r post=>r= .ret (.b (cP (k+1)))/\HK kf L x post:=fun h3=>by
   rw[hck,if_neg (by omega),if_neg (by omega)];exact hobj u hu64 x hi
  clear hck hint hnon hobj hcP;generalize cP (k+1)=B at *;rcases hfit with⟨rfl,rfl⟩|⟨hpn,rfl⟩
  .by_cases hac:a<(cs.length:Int)
   .obtain ⟨y,hy⟩: ∃y,cs[a.toNat]? =some y:=⟨_,Cs (by omega)⟩
    have hfv:Jr cs a (k+1)=(y==((k+1:Nat):Int)):=by
     rw[Jr,decide_eq_false (by omega),Bool.false_or,C6,hy];rfl
    rw[hfv]at hn;by_cases hyk:y=((k+1:Nat):Int)
    .rw [C0.2 hyk,Ds]at hn
     cases B
     all_goals
      conv=>whnf
      repeat'((first|clear U K|apply st|(apply zk;intro K U)|refine zY ?_|(refine zb (fun hc=>?_) (fun hc=>?_)<;>try exact⟨⟩)|fail)<;>conv=>whnf)
      all_goals try(exfalso;simp at hc;done)
      all_goals
       first
        | refine(d216 (by omega)).use (rest:=[]) (by simpa using hs) ?_
        | refine(d217 (by omega)).use (rest:=[]) (by simpa using hs) ?_
       clear hs;rintro r post Z ⟨rfl,es2,hx2,hi2,rfl⟩ hs;rw[Ez]at hs
       conv=>whnf
       repeat'((first|clear U K|apply st|(apply zk;intro K U)|refine zY ?_|(refine zb (fun hc=>?_) (fun hc=>?_)<;>try exact⟨⟩)|fail)<;>conv=>whnf)
       first
        | exact AI ⟨_,⟨by rw[hn];rfl,es2,hx.trans hx2,hi2,rfl⟩,hs⟩
        | exact⟨by omega,es2,by rw[hwk];rfl,⟨⟨hi2,hx.trans hx2⟩,by rw[hn];rfl⟩,hs⟩
    .rw[beq_eq_false_iff_ne.2 hyk,Bool.false_and,Bool.false_or]at hn
     conv=>whnf
     repeat'((first|clear U K|apply st|(apply zk;intro K U)|refine zY ?_|(refine zb (fun hc=>?_) (fun hc=>?_)<;>try exact⟨⟩)|fail)<;>conv=>whnf)
     all_goals try(exfalso;simp at hc;done)
     all_goals try exact absurd (by assumption) hyk
     all_goals try exact absurd rfl (by assumption)
     all_goals exact⟨by omega,x,by rw[hwk];rfl,⟨⟨hi,hx⟩,hn⟩,hs⟩
   .have hfv:Jr cs a (k+1)=true:=by rw[Jr,decide_eq_true (by omega)];rfl
    rw[hfv,Ds]at hn;cases B
    all_goals
     conv=>whnf
     repeat'((first|clear U K|apply st|(apply zk;intro K U)|refine zY ?_|(refine zb (fun hc=>?_) (fun hc=>?_)<;>try exact⟨⟩)|fail)<;>conv=>whnf)
     all_goals try(exfalso;simp at hc;done)
     all_goals
      first
       | refine(d216 (by omega)).use (rest:=[]) (by simpa using hs) ?_
       | refine(d217 (by omega)).use (rest:=[]) (by simpa using hs) ?_
      clear hs;rintro r post Z ⟨rfl,es2,hx2,hi2,rfl⟩ hs;rw[Ez]at hs
      conv=>whnf
      repeat'((first|clear U K|apply st|(apply zk;intro K U)|refine zY ?_|(refine zb (fun hc=>?_) (fun hc=>?_)<;>try exact⟨⟩)|fail)<;>conv=>whnf)
      first
       | exact AI ⟨_,⟨by rw[hn];rfl,es2,hx.trans hx2,hi2,rfl⟩,hs⟩
       | exact⟨by omega,es2,by rw[hwk];rfl,⟨⟨hi2,hx.trans hx2⟩,by rw[hn];rfl⟩,hs⟩
  .rw [Ds]at hn
   have hpl:p.length≠0:=fun e=>hpn (YW.1 e)
   cases B
   all_goals
    conv=>whnf
    repeat'((first|clear U K|apply st|(apply zk;intro K U)|refine zY ?_|(refine zb (fun hc=>?_) (fun hc=>?_)<;>try exact⟨⟩)|fail)<;>conv=>whnf)
    all_goals try(exfalso;simp at hc;done)
    all_goals
     first
      | refine(d216 (by omega)).use (rest:=[]) (by simpa using hs) ?_
      | refine(d217 (by omega)).use (rest:=[]) (by simpa using hs) ?_
     clear hs;rintro r post Z ⟨rfl,es2,hx2,hi2,rfl⟩ hs;rw[Ez]at hs
     conv=>whnf
     repeat'((first|clear U K|apply st|(apply zk;intro K U)|refine zY ?_|(refine zb (fun hc=>?_) (fun hc=>?_)<;>try exact⟨⟩)|fail)<;>conv=>whnf)
     first
      | exact AI ⟨_,⟨by rw[hn];rfl,es2,hx.trans hx2,hi2,rfl⟩,hs⟩
      | exact⟨by omega,es2,by rw[hwk];rfl,⟨⟨hi2,hx.trans hx2⟩,by rw[hn];rfl⟩,hs⟩
 .rw[List.drop_of_length_le (by rw[List.length_range];omega),List.any_nil]at hn
  conv=>whnf
  repeat'((first|clear U K|apply st|(apply zk;intro K U)|refine zY ?_|(refine zb (fun hc=>?_) (fun hc=>?_)<;>try exact⟨⟩)|fail)<;>conv=>whnf)
  all_goals exact AI ⟨_,⟨by rw[hn],x,hx,hi,rfl⟩,hs⟩
def rC (w:AF) (hw:Ct w) {kf:Int->List Int->Kn} (hr:ER w kf) (cs:List Int) (f:Bool) (hcs:cs.length<=3) {a:Int} (ha:0<=a) {L:Nat}: ∀(d:Nat) (fit:Nat->Bool) (p:List Int),p.length+d=2->(p= []/\fit=Jr cs a\/p≠[]/\fit=fun _=>true)-> ∀es,B2 kf es->
    BQ zP 145 [.a (zy w (Bc w.parents) L cs f),CL a p] (Bu L es) fun r post=>r= .ret (.b (Sk w kf a d fit p))/\HK kf L es post:=by
 intro d
 induction d with
 | zero=>
   intro fit p hp hfit es h;rw[Sk];exact T4 w hw hr cs f hcs ha (by omega) fit hfit _ (fun s hs=>by rw[hr.short a p (by omega)]at hs;cases hs) h
 | succ d ih=>
   intro fit p hp hfit es h;rw[Sk];exact T4 w hw hr cs f hcs ha (by omega) fit hfit _ (fun s _ es h=>ih (fun _=>true) (p++[s]) (by simp;omega) (.inr ⟨by simp,rfl⟩) es h) h
def od (w:AF) (hw:Ct w) (cs:List Int) (f:Bool) (hcs:cs.length<=3):WN 144 [] [.rp [.rp (gW w (Bc w.parents))],.rp [.l (iL cs) f]] w (dI w cs):=by
 intro l b hl hlen;refine Pure.of ?_;show Au zP 144 [Lb l b,.rp [.rp (gW w (Bc w.parents))],.rp [.l (iL cs) f]] _ _;have hr:=XB hw hl hlen;have hlk:=Xw w (Bc w.parents) l b (Mr (by have:=hw.1.1;omega) hl) hlen;have hT:dI w cs l=(BS 3).all fun a=>Sk w (kg l) a 2 (Jr cs a) []:=rfl
 rw[hT];refine yn kZ ?_;have hs:=Sn;refine zz ?_;(repeat clear U K);repeat intro K U
 refine hlk.use (rest:=[]) (by simpa using hs) ?_;clear hs;rintro r post Z ⟨L,es,rfl,hinv,rfl⟩ hs;rw[Ez]at hs
 conv=>whnf
 repeat'((first|apply st|refine rk ?_ ?_|exact fun s e=>by cases e;rfl|fail)<;>conv=>whnf)
 refine(Wo 145 [.a (zy w (Bc w.parents) L cs f)] [] (fun a=>Sk w (kg l) a 2 (Jr cs a) []) (fun a h0 _ es hi=>rC w hw hr cs f hcs h0 2 (Jr cs a) [] rfl (.inl ⟨rfl,rfl⟩) es hi) hinv).use (rest:=[]) (by simpa using hs) ?_;clear hs;rintro r post Z ⟨rfl,es2,hx2,hi2,rfl⟩ hs;refine zz ?_;(repeat clear U K);repeat intro K U
 exact AI rfl
end Go.Gl
namespace Go.Gl
open Go.Proofs
attribute [local irreducible] Au Am Ae AR AK AY AQ AS AJ AX AM AO Ao A0 Sat AU Ay Af W
abbrev s6 (p:Prog) (gen:Int):List V:=BG p++[eI gen,.l (iL (Ej p gen)) false]
abbrev fnZ:List V:=[.l [] true,eI 0,.l [] true,.l [] true,.l [] true,eI 0,eI 0,.l [] true]
def ABd (p:Prog) (gen:Int):Pure zP 131 [.a (BG p),eI gen] (.t [.a (if FY p gen then s6 p gen else fnZ),.b (FY p gen)]):=by
 refine Pure.fit (by kernel_rfl) fun hf=>?_
 have hP:=J3 hf.1;have⟨p1,p2,p3,p4⟩:=Gn hf.1;have hM:=Mx;have c1:=Xy p;rw[FY];cases h1:(BX p).isSome<;>rw[h1]at c1
 .rw[if_neg (by decide)]at c1
  refine ZA kZ ?_;have hs:=Sn;exact zW
 rw[if_pos rfl]at c1;have h16:=(look_ok h1).many;cases h2:Yj p gen
 .simp only[Yj,Bool.and_eq_false_iff,decide_eq_false_iff_not]at h2
  refine ZA kZ ?_;have hs:=Sn
  conv=>whnf
  repeat'((first|clear U K|apply st|(apply zk;intro K U)|refine zY ?_|refine zs fun Z hs=>?_|refine zC ?_|(refine zb (fun hc=>?_) (fun hc=>?_)<;>try exact⟨⟩)|refine zo fun nn hnn Z hs=>?_|fail)<;>conv=>whnf)
  all_goals first
   | exact AH rfl
   | (exfalso;simp at *;omega)
 have h2r:=h2;simp only[Yj,A9,Cp]at h2r;refine ZA kZ ?_;have hs:=Sn
 conv=>whnf
 repeat'((first|clear U K|apply st|(apply zk;intro K U)|refine zY ?_|refine zs fun Z hs=>?_|refine zC ?_|(refine zb (fun hc=>?_) (fun hc=>?_)<;>try exact⟨⟩)|refine zo fun nn hnn Z hs=>?_|fail)<;>conv=>whnf)
 rename_i n4 _ _ _ _ _ _ _;refine B1 p.methods.length (fun k (_:V)=>[(30,eI (A4 k))]) (fun k v=>[.box nn (BG p++[eI gen,v]),.box n4 fnZ,.own v 1 (iL (dC p gen k))]) (fun _ _=>True) (.l [] true) rfl trivial (D1 hs 1) ?_;clear hs;rintro k v Z hk - hs;have hal:=P5 p gen k;rcases A8 p.methods hk with⟨x,hx,hlt⟩|hke
 .have hck:A4 k=k:=Ag (by omega)
  have hxe:=bU hx;have hst:=XQ p gen k;rw[hxe]at hst;generalize dC p gen k=zl at *;have hll:zl.length<Aa/\(zl.length+1)*8<=140737488355328:=by omega
  by_cases hg:x.gen=gen
  .rw[if_pos (C0.2 hg)]at hst
   conv=>whnf
   repeat'((first|clear U K|apply st|(apply zk;intro K U)|refine zY ?_|refine zs fun Z hs=>?_|refine aq fun v Z hs hsl=>?_|(refine zb (fun hc=>?_) (fun hc=>?_)<;>try exact⟨⟩)|refine zo fun nn hnn Z hs=>?_|fail)<;>conv=>whnf)
   exact⟨hlt,_,rfl,trivial,by rw[hst,<-hck];exact hs.less (K6 _ _)⟩
  .rw[if_neg (by simpa using hg)]at hst
   conv=>whnf
   repeat'((first|clear U K|apply st|(apply zk;intro K U)|refine zY ?_|refine zs fun Z hs=>?_|(refine zb (fun hc=>?_) (fun hc=>?_)<;>try exact⟨⟩)|refine zo fun nn hnn Z hs=>?_|fail)<;>conv=>whnf)
   exact⟨hlt,_,rfl,trivial,by rw[hst];exact hs.less (K6 _ _)⟩
 .rw[hke]at hs
  refine zz ?_;(repeat clear U K);repeat intro K U
  have o1:=H4 hs 2 rfl;refine Ir hs 1 rfl rfl rfl (by simp[BG,o1]) (by decide) fun Z hs=>?_
  clear o1;refine zz ?_;(repeat clear U K);repeat intro K U
  exact A7 (.t (.cons (.a (.cons (.refl _) (.cons (.refl _) (.cons (.refl _) (.cons (.refl _) (.cons (.refl _) (.cons (.refl _) (.cons (.refl _) (.cons (hs.GG 2 rfl) .nil))))))))) (.cons (.refl _) .nil)))
def AAo (p:Prog) (gen:Int):Pure zP 132 [.a (s6 p gen)] (eI (if(Ej p gen).length<=8 then 0 else 3)):=by
 have e1:((iL (Ej p gen)).length:Int)=(Ej p gen).length:=by simp
 refine yz kZ ?_;have hs:=Sn
 conv=>whnf
 repeat'((first|clear U K|apply st|(apply zk;intro K U)|refine zY ?_|(refine zd (fun hc=>?_) (fun hc=>?_)<;>try exact⟨⟩)|fail)<;>conv=>whnf)
 .exact AH (by rw[if_neg (by omega)])
 .exact AH (by rw[if_pos (by omega)])
def iY (a b c:Bool):Pure zP 134 [.b a,.b b,.b c] (eI (if a then 4 else if b then 3 else if c then 2 else 1)):=by
 cases a<;>cases b<;>cases c
 all_goals
  refine yx kZ ?_;have hs:=Sn;exact zW
def len0 (l:List Int):(((iL l).length:Int)==0)=decide (l.length=0):=by
 rw[B9,JK,C0,Cp];omega
def tj (p:Prog) (gen:Int) (l:List Int) (f:Bool) (h:FY p gen=true) (hB:Se p gen l=true):Pure zP 62 [.a (s6 p gen),.l (iL l) f] (eI (aD p l)):=by
 rw[FY,A9]at h;have hok:=look_ok h.1;have c1:=zT p l f (Nat.le_trans (lN hB) (Nat.le_trans hok.many (by decide)));rw[Ud,h.1,OP hB,Bool.and_self,if_pos rfl]at c1;rw[aD];clear h hok hB;generalize FG (Ax p) p l=x at *;obtain⟨⟨ar,aG,be,pr,prt,af⟩,b⟩:=x;cases b
 .rw[show iG (⟨ar,aG,be,pr,prt,af⟩,false)=(zt,5) from rfl]at c1
  refine sR kZ ?_;have hs:=Sn
  conv=>whnf
  repeat'((first|clear U K|apply st|(apply zk;intro K U)|refine zY ?_|refine zs fun Z hs=>?_|refine c1.use ?_|refine Pure.use (iY _ _ _) ?_|(refine zb (fun hc=>?_) (fun hc=>?_)<;>try exact⟨⟩)|refine zo fun nn hnn Z hs=>?_|fail)<;>conv=>whnf)
  all_goals exact AH rfl
 rw[show iG (⟨ar,aG,be,pr,prt,af⟩,true)=(⟨ar,aG,be,pr,prt,af⟩,0) from rfl]at c1;rw[iv];cases ha:decide (ar.length=0)<;>cases hp:decide (pr.length=0)<;>cases aG<;>cases prt
 all_goals
  first|replace ha:=of_decide_eq_true ha|replace ha:=of_decide_eq_false ha
  first|replace hp:=of_decide_eq_true hp|replace hp:=of_decide_eq_false hp
  refine sR kZ ?_;have hs:=Sn
  conv=>whnf
  repeat'((first|clear U K|apply st|(apply zk;intro K U)|refine zY ?_|refine zs fun Z hs=>?_|refine c1.use ?_|refine Pure.use (iY _ _ _) ?_|(refine zb (fun hc=>?_) (fun hc=>?_)<;>try exact⟨⟩)|refine zo fun nn hnn Z hs=>?_|fail)<;>conv=>whnf)
  all_goals first|exact AH rfl|exact AH (by simp only[len0];simp[ha,hp])
def Lc (p:Prog) (gen:Int) (b:Bool):Int:=if FY p gen then(if b then(if(Ej p gen).length<=8 then 0 else 3)else 2)else 2
abbrev Yq (p:Prog) (gen:Int) (b:Bool):List V:=if FY p gen&&b then s6 p gen else fnZ
def LO {p:Prog} {gen:Int} (h:FY p gen=false) (b:Bool):Yq p gen b=fnZ/\Lc p gen b=2:=by rw[Yq,Lc,h];exact⟨rfl,rfl⟩
def sX {p:Prog} {gen:Int}:Yq p gen false=fnZ/\Lc p gen false=2:=by
 rw[Yq,Lc,Bool.and_false];exact⟨rfl,by split<;>rfl⟩
def LN {p:Prog} {gen:Int} (h:FY p gen=true):Yq p gen true=s6 p gen/\Lc p gen true=if(Ej p gen).length<=8 then 0 else 3:=by rw[Yq,Lc,h];exact⟨rfl,rfl⟩
def kA (p:Prog) (gen:Int) (k:Nat) (ca:List V) (b:Bool) (c2:FY p gen=true->Pure zP k (.a (s6 p gen)::ca) (.b b)):Pure zP 59 [.a (BG p),eI gen,.f (.func k) [] ca] (.t [.a (Yq p gen b),eI (Lc p gen b)]):=by
 have c1:=ABd p gen;have c3:=AAo p gen;cases h1:FY p gen<;>rw[h1]at c1
 .rw[(LO h1 b).1,(LO h1 b).2]
  rw[if_neg (by decide)]at c1;refine iS kZ ?_;have hs:=Sn;exact zW
 replace c2:=c2 h1;rw[if_pos rfl]at c1;cases b
 .rw[sX.1,sX.2]
  refine iS kZ ?_;have hs:=Sn
  conv=>whnf
  repeat'((first|clear U K|apply st|(apply zk;intro K U)|refine zY ?_|refine zs fun Z hs=>?_|refine c1.use ?_|refine BO (c2.use ?_)|refine zo fun nn hnn Z hs=>?_|fail)<;>conv=>whnf)
  all_goals exact AH rfl
 .rw[(LN h1).1,(LN h1).2]
  refine iS kZ ?_;have hs:=Sn
  conv=>whnf
  repeat'((first|clear U K|apply st|(apply zk;intro K U)|refine zY ?_|refine rk ?_ ?_|exact fun s e=>by cases e;rfl|refine zs fun Z hs=>?_|refine c1.use ?_|refine BO (c2.use ?_)|refine c3.use ?_|refine zo fun nn hnn Z hs=>?_|fail)<;>conv=>whnf)
  all_goals exact AH rfl
end Go.Gl
namespace Go.Gl
open Go.Proofs
def MJ (so:Nat->Nat->Bool):Nat->Nat->Nat->List Nat
 | 0,many,s=>if so s many then [s]else []
 | d+1,many,s=>if so s many then MJ so d (many+1) s++MJ so d (many+1) (s|||2 ^ many)else []
def SJ (s n:Nat):Ck s (n+1)=Ck s n++[s.testBit n]:=by simp[Ck,List.range_succ]
def SI {s n:Nat} (h:s<2 ^ n):Ck (s|||2 ^ n) (n+1)=Ck s n++[true]/\Ck s (n+1)=Ck s n++[false]/\s|||2 ^ n<2 ^ (n+1)/\s<2 ^ (n+1):=by
 have hp:2 ^ n<2 ^ (n+1):=Nat.pow_lt_pow_right (by omega) (by omega);have hn:s.testBit n=false:=Nat.testBit_lt_two_pow h;refine⟨?_,by rw[SJ,hn],Nat.or_lt_two_pow (by omega) hp,by omega⟩;rw[SJ,EC,hn];simp only[beq_self_eq_true,Bool.or_true];congr 1;refine List.map_congr_left fun i hi=>?_
 rw[EC,beq_eq_false_iff_ne.2 (by have:=List.mem_range.1 hi;omega),Bool.or_false]
def Uo {so:Nat->Nat->Bool} {E:List Bool->Bool}: ∀(d many s:Nat),s<2 ^ many->(∀s n,n<=many+d->so s n=E (Ck s n))->(MJ so d many s).map (fun x=>Ck x (many+d))=GX E d (Ck s many)/\ ∀x∈MJ so d many s,x<2 ^ (many+d)
 | 0,many,s,hs,hE=>by
   rw[MJ,GX,hE s many (by omega)];split
   .exact⟨rfl,fun x hx=>by rw[KV.1 hx];exact hs⟩
   .exact⟨rfl,fun x hx=>by cases hx⟩
 | d + 1,many,s,hs,hE=>by
   obtain⟨b1,b2,b3,b4⟩:=SI hs;obtain⟨i1,i2⟩:=Uo (so:=so) (E:=E) d (many+1) s b4 (fun s n hn=>hE s n (by omega));obtain⟨j1,j2⟩:=Uo (so:=so) (E:=E) d (many+1) (s|||2 ^ many) b3 (fun s n hn=>hE s n (by omega));rw[b2]at i1;rw[b1]at j1;rw[show many+1+d=many+(d+1) by omega]at i1 i2 j1 j2;rw[MJ,GX,hE s many (by omega)];split
   .refine⟨by rw[SU,i1,j1],fun x hx=>?_⟩
    rcases Dy.1 hx with hx|hx
    .exact i2 x hx
    .exact j2 x hx
   .exact⟨rfl,fun x hx=>by cases hx⟩
abbrev soV (g:FuncId) (fi ca:List V) (p:Prog) (gen:Int) (ms:List Int):V:= .f (.func 207) [] [.rp [.f (.func g) fi ca],.rp (Ye p gen ms)]
abbrev AAX (p:Prog) (gen:Int) (ms:List Int) (yv:V) (nS nW:Nat):V:= .f (.func 211) [] [.p nS 0,.rp (Ye p gen ms),.rp [yv],.p nW 0]
section
variable {g:FuncId} {fi ca:List V} {p:Prog} {gen:Int} {ms:List Int} {tog:List Fact->Bool}
attribute [local irreducible] Au Am Ae AR AK AY AQ AS AJ AX AM AO Ao A0 Sat AU Ay Af W
def Wj {α S:Type} (P:Program) (x:V) (ea:α->V) (HL:S->List At->Prop) (stp:α->S->Bool×S) (D:α->S->Prop) (pre:List At):Prop:=
 ∀y s,D y s-> ∀l Z,HL s l->Sat Z (pre++l)->Ao P x [ea y] Z fun r Z'=>r= .ret (.b (stp y s).1)/\ ∃l',HL (stp y s).2 l'/\Sat Z' (pre++l')
def Wj.use {α S:Type} {P:Program} {x:V} {ea:α->V} {HL:S->List At->Prop} {stp:α->S->Bool×S} {D:α->S->Prop} {pre:List At} (h:Wj P x ea HL stp D pre) {y:α} {s:S} (hd:D y s) {l:List At} {Z:AE} (hl:HL s l) (hs:Sat Z (pre++l)) {k kp:V->AE->Prop} (hk: ∀l' Z',HL (stp y s).2 l'->Sat Z' (pre++l')->k (.b (stp y s).1) Z'):Ao P x [ea y] Z (qk k kp):=
 (h y s hd l Z hl hs).mono fun r Z' ⟨e,l',h1,h2⟩=>by rw[e];exact hk l' Z' h1 h2
abbrev oA (g:FuncId) (fi ca:List V) (p:Prog) (gen:Int) (ms:List Int) (yv:V) (nS nW:Nat):List At:=[.box nW [AAX p gen ms yv nS nW],.box nS [soV g fi ca p gen ms]]
def oS {S:Type} (h:Yl p ms) (hcan:WN g fi ca (AL p) tog) {fn:Fn} {fiy cay:List V} {HL:S->List At->Prop} {stp:Nat->S->Bool×S} {D:Nat->S->Prop} {nS nW:Nat}
    (hy:Wj zP (.f fn fiy cay) eU HL stp D (oA g fi ca p gen ms (.f fn fiy cay) nS nW)) :
    ∀(d many s:Nat) (z0:S),many+d=ms.length->s<2 ^ many->Sc stp D (MJ (fun s n=>GU tog (Js p ms) (Ck s n)) d many s) z0-> ∀l Z,HL z0 l->Sat Z (oA g fi ca p gen ms (.f fn fiy cay) nS nW++l)->
    Au zP 211 [eU s,eI many,.p nS 0,.rp (Ye p gen ms),.rp [.f fn fiy cay],.p nW 0] Z fun r Z'=>r= .ret (.b (CS stp (MJ (fun s n=>GU tog (Js p ms) (Ck s n)) d many s) z0).1)/\
     ∃l',HL (CS stp (MJ (fun s n=>GU tog (Js p ms) (Ck s n)) d many s) z0).2 l'/\Sat Z' (oA g fi ca p gen ms (.f fn fiy cay) nS nW++l'):=by
 have hM:=Mx;have hfew:=h.s7;intro d
 induction d with
 | zero=>
   intro many s z0 hmd hs2 hok l Z hl hs;have hs64:s<18446744073709551616:=Nat.lt_of_lt_of_le hs2 (Nat.le_trans (Nat.pow_le_pow_right (by omega) (show many<=8 by omega)) (by decide));have c1:=rj (gen:=gen) h hcan (s:=s) (many:=many) hs64 (by omega);rw[MJ]at hok ⊢;cases hB:GU tog (Js p ms) (Ck s many)<;>rw[hB]at c1
   .simp only[hB,ME,if_false]at hok ⊢
    refine Ux kZ ?_
    conv=>whnf
    repeat'((first|clear U K|apply st|(apply zk;intro K U)|refine zY ?_|refine BO (c1.use ?_)|fail)<;>conv=>whnf)
    all_goals exact AI ⟨rfl,l,hl,hs⟩
   .simp only[hB,if_true]at hok ⊢
    rw[RU];refine Ux kZ ?_
    conv=>whnf
    repeat'((first|clear U K|apply st|(apply zk;intro K U)|refine zY ?_|refine BO (c1.use ?_)|(refine zb (fun hc=>?_) (fun hc=>?_)<;>try exact⟨⟩)|fail)<;>conv=>whnf)
    all_goals try(exfalso;simp at hc;omega)
    refine hy.use hok.1 hl hs ?_;clear hs;intro l' Z hl' hs;refine zz ?_;(repeat clear U K);repeat intro K U
    exact AI ⟨rfl,l',hl',hs⟩
 | succ d ih=>
   intro many s z0 hmd hs2 hok l Z hl hs;have hs64:s<18446744073709551616:=Nat.lt_of_lt_of_le hs2 (Nat.le_trans (Nat.pow_le_pow_right (by omega) (show many<=8 by omega)) (by decide));have c1:=rj (gen:=gen) h hcan (s:=s) (many:=many) hs64 (by omega);obtain⟨-,-,b3,b4⟩:=SI hs2;rw[MJ]at hok ⊢;cases hB:GU tog (Js p ms) (Ck s many)<;>rw[hB]at c1
   .simp only[hB,ME,if_false]at hok ⊢
    refine Ux kZ ?_
    conv=>whnf
    repeat'((first|clear U K|apply st|(apply zk;intro K U)|refine zY ?_|refine BO (c1.use ?_)|fail)<;>conv=>whnf)
    all_goals exact AI ⟨rfl,l,hl,hs⟩
   .simp only[hB,if_true]at hok ⊢
    obtain⟨ok1,ok2⟩:=Pw hok;have i1:=ih (many+1) s z0 (by omega) b4 ok1;have i2:=fun z0 h=>ih (many+1) (s|||2 ^ many) z0 (by omega) b3 h
    have c2:=Nz s (many:Int) hs64 (by omega) (by omega);rw[Fi]at c2;have hwi:IntKind.i64.wrap ((many:Int)+1)=((many+1:Nat):Int):=by rw[wrap64 (by omega) (by omega)];omega
    rw[<-hwi]at i1 i2;rw[NP];generalize MJ (fun s n=>GU tog (Js p ms) (Ck s n)) d (many+1) s=A1 at *;generalize MJ (fun s n=>GU tog (Js p ms) (Ck s n)) d (many+1) (s|||2 ^ many)=A2 at *;generalize hx1:CS stp A1 z0=x1 at *;obtain⟨q1,z1⟩:=x1;dsimp only at i1 ok2 ⊢;refine Ux kZ ?_
    conv=>whnf
    repeat'((first|clear U K|apply st|(apply zk;intro K U)|refine zY ?_|refine BO (c1.use ?_)|(refine zb (fun hc=>?_) (fun hc=>?_)<;>try exact⟨⟩)|fail)<;>conv=>whnf)
    all_goals try(exfalso;simp at hc;omega)
    refine BO (Au.mono (i1 l Z hl hs) ?_);clear hs;rintro r Z ⟨rfl,l1,hl1,hs⟩;cases q1
    .conv=>whnf
     repeat'((first|clear U K|apply st|refine rk ?_ ?_|exact fun s e=>by cases e;rfl|fail)<;>conv=>whnf)
     exact AI ⟨rfl,l1,hl1,hs⟩
    .have i3:=i2 z1 (ok2 rfl)
     conv=>whnf
     repeat'((first|apply st|refine zY ?_|refine rk ?_ ?_|exact fun s e=>by cases e;rfl|refine zC ?_|fail)<;>conv=>whnf)
     refine BO (Au.mono (i3 l1 Z hl1 hs) ?_);clear hs;rintro r Z ⟨rfl,l2,hl2,hs⟩;refine zz ?_;(repeat clear U K);repeat intro K U
     exact AI ⟨rfl,l2,hl2,hs⟩
end
end Go.Gl
namespace Go.Gl
open Go.Proofs
abbrev J1 (ms:List Int) (s:Nat):List Int:=Cz ms (Ck s ms.length)
abbrev V5 (p:Prog) (tog:List Fact->Bool) (ms:List Int):List Nat:=MJ (fun s n=>GU tog (Js p ms) (Ck s n)) ms.length 0 0
def ZN {P:Program} {α S:Type} {L:Nat} {E:Env} {ps:List Nat} {a b:AV} {ea:α->V} {HB:S->List At->Prop} (le:S->s9) {stp:α->S->Bool×S} {D:α->S->Prop} {pre:List At} (hps:ps.length=1) (hD: ∀y s,D y s->le s= .ready)
    (h: ∀y s,D y s-> ∀l,HB s l-> ∀Z,Sat Z (l++pre)->W P a (Cd (W P b fun ex env' Z'=>Z' L=none->Qp L E (Bm P ps a b) (fun r Z'=>r= .ret (.b (stp y s).1)/\ ∃l',HB (stp y s).2 l'/\Sat Z' (.obj L (.loop (le (stp y s).2) E (Bm P ps a b))::(l'++pre))) ex env' Z')) (Et ps [ea y] E) Z) :
    Wj P (.f (.yield L) [] []) ea (fun s l=> ∃l',l= .obj L (.loop (le s) E (Bm P ps a b))::l'/\HB s l') stp D pre:=by
 rintro y s hd _ Z ⟨l',rfl,hl'⟩ hs
 have hs':Sat Z (.obj L (.loop .ready E (Bm P ps a b))::(l'++pre)):=by
  have:=hs.perm Nk;rw[hD y s hd]at this;exact this
 show Ny P L [ea y] Z _;refine Ny.mono (L6 (hs'.get (i:=0) rfl) (by rw[hps];rfl) (h y s hd l' hl' _ hs'.del)) ?_;rintro r Z' ⟨e,l2,h1,h2⟩;exact⟨e,_,⟨l2,rfl,h1⟩,h2.perm (Nk (l₁:=_::l2))⟩
section
variable {g:FuncId} {fi ca:List V} {p:Prog} {gen:Int} {ms:List Int} {tog:List Fact->Bool}
abbrev gb (g:FuncId) (fi ca:List V) (p:Prog) (gen:Int) (ms:List Int):V:= .f (.func 206) [] [.rp [.f (.func g) fi ca],.rp (Ye p gen ms)]
attribute [local irreducible] Au Am Ae AR AK AY AQ AS AJ AX AM AO Ao A0 Sat AU Ay Af W
def an:Pure zP 139 [.a (Ye p gen ms),.f (.func g) fi ca] (gb g fi ca p gen ms):=by
 refine yr kZ ?_;have hs:=Sn;exact zW
def vF {S:Type} (h:Yl p ms) (hcan:WN g fi ca (AL p) tog) {fn:Fn} {fiy cay:List V} {HL:S->List At->Prop} {stp:Nat->S->Bool×S} {D:Nat->S->Prop}
    (hy: ∀nS nW,Wj zP (.f fn fiy cay) eU HL stp D (oA g fi ca p gen ms (.f fn fiy cay) nS nW)) (z0:S) (hok:Sc stp D (V5 p tog ms) z0) {l:List At} {Z:AE} (hl:HL z0 l) (hs:Sat Z l) :
    Au zP 206 [.f fn fiy cay,.rp [.f (.func g) fi ca],.rp (Ye p gen ms)] Z fun r Z'=>r= .ret (.t [])/\ ∃l',HL (CS stp (V5 p tog ms) z0).2 l'/\Sat Z' l':=by
 refine yE kZ ?_
 conv=>whnf
 repeat'((first|clear U K|apply st|(apply zk;intro K U)|refine zY ?_|refine zs fun Z hs=>?_|refine zo fun nn hnn Z hs=>?_|fail)<;>conv=>whnf)
 refine BO (Au.mono (oS h hcan (hy _ _) ms.length 0 0 z0 (by omega) (by decide) hok l Z hl hs) ?_);clear hs;rintro r Z ⟨rfl,l',hl',hs⟩
 conv=>whnf
 repeat'((first|clear U K|apply st|fail)<;>conv=>whnf)
 exact AI ⟨rfl,l',hl',hs.less (by simp)⟩
def pc (h8:ms.length<=8) {s:Nat} (hs64:s<18446744073709551616):Pure zP 101 [.a (Ye p gen ms),eU s] (.l (iL (J1 ms s)) false):=by
 have hM:=Mx;refine zA kZ ?_;have hs:=Sn;refine zz ?_;(repeat clear U K);repeat intro K U
 refine B1 ms.length (fun k v=>[(5,v),(11,eI (A4 k))]) (fun k v=>[.own v 1 (iL (Cz ms ((Ck s ms.length).take k)))]) (fun _ _=>True) (.l [] true) rfl trivial (by simpa[Cz]using D1 hs 1) ?_;clear hs;rintro k v Z hk - hs;have hal:=Ry ms ((Ck s ms.length).take k);rw[Jl]at hal;rcases A8 ms hk with⟨x,hx,hlt⟩|hke
 .have hck:A4 k=k:=Ag (by omega)
  have hst:=PG hx (Xl (s:=s) hlt);have c1:=aQ s (A4 k) hs64 (by omega) (by omega);rw[hck,Fi,<-hck]at c1;generalize Cz ms ((Ck s ms.length).take k)=zl at *;have hll:zl.length<Aa/\(zl.length+1)*8<=140737488355328:=by omega
  cases hb:s.testBit k<;>rw[hb]at c1 hst
  .rw[if_neg (by decide),Ez]at hst
   conv=>whnf
   repeat'((first|clear U K|apply st|(apply zk;intro K U)|refine zY ?_|refine zC ?_|fail)<;>conv=>whnf)
   exact⟨hlt,_,rfl,trivial,by rw[hst];exact hs⟩
  .rw[if_pos rfl]at hst
   conv=>whnf
   repeat'((first|clear U K|apply st|(apply zk;intro K U)|refine zY ?_|refine aq fun v Z hs hsl=>?_|refine zC ?_|fail)<;>conv=>whnf)
   exact⟨hlt,_,rfl,trivial,by rw[hst];exact hs⟩
 .rw[List.take_of_length_le (by rw[T6];omega)]at hs
  refine zz ?_;(repeat clear U K);repeat intro K U
  exact A7 (hs.GG 0 rfl)
abbrev tF (f:Nat->List Int×Int) (y:Nat) (acc:List (List Int×Int)):Bool×List (List Int×Int):=(true,acc++[f y])
def kE (f:Nat->List Int×Int): ∀(l:List Nat) (acc:List (List Int×Int)),CS (tF f) l acc=(true,acc++l.map f)
 | [],acc=>by simp[CS]
 | y::r,acc=>by simp[CS,kE f r]
def r9 (f:Nat->List Int×Int) {Q:Nat->Prop} {m:Nat}: ∀(l:List Nat) (acc:List (List Int×Int)),(∀y∈l,Q y)->acc.length+l.length<=m->Sc (tF f) (fun y acc=>Q y/\acc.length<m) l acc
 | [],_,_,_=>trivial
 | y::r,acc,h,hl=>⟨⟨h y (.head _),by rw[LF]at hl;omega⟩,fun _=>r9 f r _ (fun z hz=>h z (.tail _ hz)) (by rw[Nl,List.length_singleton];rw[LF]at hl;omega)⟩
def mM {tog:List Fact->Bool} (h8:ms.length<=8):(V5 p tog ms).length<=256/\ ∀s∈V5 p tog ms,s<2 ^ ms.length:=by
 obtain⟨h1,h2⟩:=Uo (so:=fun s n=>GU tog (Js p ms) (Ck s n)) (E:=GU tog (Js p ms)) ms.length 0 0 (by decide) (fun s n _=>rfl);rw[HG]at h1 h2;refine⟨?_,h2⟩;have h3:=Fp (E:=GU tog (Js p ms)) ms.length (Ck 0 0);have h4:=congrArg List.length h1;rw[B9]at h4;have h5:2 ^ ms.length<=2 ^ 8:=Nat.pow_le_pow_right (by omega) h8;exact h4 ▸ Nat.le_trans h3 h5
def qX (h:Yl p ms) (hcan:WN g fi ca (AL p) tog) {stE:List Int->Int} (hst: ∀s∈V5 p tog ms,Pure zP 62 [.a (Ye p gen ms),.l (iL (J1 ms s)) false] (eI (stE (J1 ms s)))) :
    Pure zP 72 [.a (Ye p gen ms),gb g fi ca p gen ms] (.l ((V5 p tog ms).map fun s=>YY (J1 ms s,stE (J1 ms s))) false):=by
 have hM:=Mx;have hfew:=h.s7;refine ABL kZ ?_;have hs:=Sn
 conv=>whnf
 repeat'((first|clear U K|apply st|(apply zk;intro K U)|refine zo fun nn hnn Z hs=>?_|fail)<;>conv=>whnf)
 rename_i _ n5 hn5 _ _;obtain⟨hgl,hgm⟩:=mM (p:=p) (tog:=tog) hfew;have hs2:Sat Z [_,.box n5 [.l [] true],.own (.l [] true) 2 (([]:List (List Int×Int)).map YY)]:=D1 hs 2;refine Au.mono (vF h hcan (hs:=hs2) (stp:=tF fun y=>(J1 ms y,stE (J1 ms y))) (D:=fun y acc=>y∈V5 p tog ms/\acc.length<256) (fun nS nW=>ZN (HB:=fun(acc:List (List Int×Int)) l=> ∃v,l= [.box n5 [v],.own v 2 (acc.map YY)]) (fun _=> .ready) rfl (fun _ _ _=>rfl) ?_) [] (r9 _ _ _ (fun _ h=>h) (by simpa using hgl)) ⟨_,rfl,_,rfl⟩) ?_
 .clear hs hs2 hnn hn5
  rintro y acc ⟨hy,hacc⟩ _ ⟨v,rfl⟩ Z hs;have hy64:y<18446744073709551616:=Nat.lt_of_lt_of_le (hgm y hy) (Nat.le_trans (Nat.pow_le_pow_right (by omega) hfew) (by decide));have hl1:=pc (p:=p) (gen:=gen) hfew hy64;have hst:=hst y hy;have hll:acc.length<Aa/\(acc.length+1)*32<=140737488355328:=by omega
  conv=>whnf
  repeat'((first|clear U K|apply st|(apply zk;intro K U)|refine zY ?_|refine rk ?_ ?_|exact fun s e=>by cases e;rfl|refine zs fun Z hs=>?_|refine hl1.use ?_|refine hst.use ?_|refine aq (enc:=YY) (x:=(J1 ms y,stE (J1 ms y))) (fun v Z hs hsl=>?_) (hg:=bo)|fail)<;>conv=>whnf)
  intro hn;exact⟨rfl,_,⟨_,rfl⟩,hs.oM hn⟩
 .clear hs hs2 hnn hn5
  rw[kE];rintro r Z ⟨rfl,_,⟨_,rfl,v,rfl⟩,hs⟩;simp only[List.nil_append,zf]at hs;refine M3 hs fun Z hs=>?_
  refine zz ?_;(repeat clear U K);repeat intro K U
  exact A7 (hs.GG 1 rfl)
end
end Go.Gl
namespace Go.Gl
open Go.Proofs
attribute [local irreducible] Au Am Ae AR AK AY AQ AS AJ AX AM AO Ao A0 Sat AU Ay Af W
abbrev uL (us:List Nat):List (List V):=us.map fun u=>[eU u]
abbrev gB (w:AF) (v:V):List V:=[.l (EN w.parents) false,.l (iL w.owner) false,v]
def jY:Ec (fun u:Nat=>[eU u]) 1:=fun x=>⟨rfl,fun v hv=>by rw[KV.1 hv];rfl⟩
def o6 (w : AF) (hw:Ct w):Pure zP 205 [.a (Az w)] (.rp (gW w (Bc w.parents))):=by
 obtain⟨⟨hl,hrow⟩,ho,how⟩:=hw;have hM:=Mx;refine yF kZ ?_;have hs:=Sn;have hi1:((EN w.parents).length:Int)<=60:=by rw[B9];omega
 conv=>whnf
 repeat'((first|clear U K|apply st|(apply zk;intro K U)|refine zY ?_|refine zo fun nn hnn Z hs=>?_|fail)<;>conv=>whnf)
 generalize nn=n0 at *;refine B1 3 (fun k (_:V)=>[(13,eI (A4 k))]) (fun k v=>[.box n0 (gB w v),.own v 1 (uL ([1,3,5].take k))]) (fun k _=>True) (.l [] true) rfl trivial (D1 hs 1) ?_;clear hs;rintro k v Z hk - hs;have hck:A4 k=k:=Ag (by omega);have hlen:(([1,3,5]:List Nat).take k).length=k:=by simp;omega
 by_cases hlt:k<3
 .have hst:=up3 hlt
  generalize ([1,3,5]:List Nat).take k=zl at *;have hll:zl.length<Aa/\(zl.length+1)*8<=140737488355328:=by omega
  conv=>whnf
  repeat'((first|clear U K|apply st|(apply zk;intro K U)|refine zY ?_|refine rk ?_ ?_|exact fun s e=>by cases e;rfl|refine zs fun Z hs=>?_|refine Pure.use (Nz 1 _ (by decide) (by omega) (by omega)) ?_|refine aq (enc:=fun u:Nat=>[eU u]) (x:=1|||2 ^ (A4 k).toNat) (fun v Z hs hsl=>?_) (hg:=jY)|(refine zb (fun hc=>?_) (fun hc=>?_)<;>try exact⟨⟩)|fail)<;>conv=>whnf)
  rw[hck,Fi,hst]at hs;exact⟨hlt,_,rfl,trivial,hs⟩
 .have hke:k=3:=by omega
  subst hke;clear hk hck hlen hlt
  conv=>whnf
  repeat'((first|clear U K|apply st|(apply zk;intro K U)|refine zY ?_|(refine zb (fun hc=>?_) (fun hc=>?_)<;>try exact⟨⟩)|fail)<;>conv=>whnf)
  refine B1 w.parents.length (fun k (_:V)=>[(31,eI (A4 k))]) (fun k v=>[.box n0 (gB w v),.own v 1 (uL (Bs w.parents k))]) (fun k _=>True) v rfl trivial hs ?_;clear hs;rintro k v Z hk - hs;have hck:A4 k=k:=Ag (by omega);have hul:=Dh w.parents k;have huo:=Gv w.parents k (by omega);have hw3:IntKind.i64.wrap (3+(k:Int))=3+(k:Int):=wrap64 (by omega) (by omega);rcases A8 w.parents hk with⟨row,hr,hlt⟩|hke
  .obtain⟨r1,r2,r3⟩:=hrow k row hr
   rw[<-hck]at hw3
   conv=>whnf
   repeat'((first|clear U K|apply st|(apply zk;intro K U)|refine zY ?_|refine Pure.use (Nz 1 _ (by decide) (by omega) (by omega)) ?_|fail)<;>conv=>whnf)
   have hst0:IntKind.i64.wrap (3+A4 k)=3+(k:Int):=by rw[hck];exact wrap64 (by omega) (by omega)
   have hs0lt:1|||2 ^ (3+k)<18446744073709551616:=IA (by decide) (Gr (by omega))
   have hs0e:1|||2 ^ (IntKind.i64.wrap (3+A4 k)).toNat=1|||2 ^ (3+k):=by rw[hst0,show(3+(k:Int)).toNat=3+k by omega]
   rw[hs0e];refine B1 row.length (fun j (s:Nat)=>[(41,eI (A4 j)),(7,eU s)]) (fun _ _=>[.box n0 (gB w v),.own v 1 (uL (Bs w.parents k))]) (fun j s=>s=UN (Bs w.parents k) (row.take j) (1|||2 ^ (3+k))) (1|||2 ^ (3+k)) rfl rfl hs ?_;clear hs;rintro j s Z hj hse hs;rcases A8 row hj with⟨c,hcj,hjlt⟩|hje
   .obtain⟨q1,q2⟩:=r3 c (Bp hcj)
    conv=>whnf
    repeat'((first|clear U K|apply st|(apply zk;intro K U)|refine zY ?_|refine ze fun x hx=>?_|fail)<;>conv=>whnf)
    rename_i x hx;have hxd:(Bs w.parents k).getD c.toNat 0=x:=by rw[C6,hx];rfl
    have hsl:s<18446744073709551616:=by rw[hse];exact Pp huo _ _ hs0lt
    refine⟨hjlt,s|||x,?_,?_,hs⟩
    .rw[HT hsl (huo x (Bp hx))]
     rfl
    .rw[hse,AN hcj]
     simp only[UN,List.foldl_append];rw[<-hxd];rfl
   .have e:Bs w.parents (k+1)=Bs w.parents k++[s]:=by
     rw[hse,Bs,C6,hr,hje,List.take_length];rfl
    generalize Bs w.parents k=zl at *;have hll:zl.length<Aa/\(zl.length+1)*8<=140737488355328:=by omega
    conv=>whnf
    repeat'((first|clear U K|apply st|(apply zk;intro K U)|refine zY ?_|refine zs fun Z hs=>?_|refine aq (enc:=fun u:Nat=>[eU u]) (x:=s) (fun v Z hs hsl=>?_) (hg:=jY)|fail)<;>conv=>whnf)
    rw[<-e]at hs;exact⟨hlt,_,rfl,trivial,hs⟩
  .rw[hke]at hs
   refine zz ?_;(repeat clear U K);repeat intro K U
   exact A7 (hs.oG 0 rfl (.cons (.refl _) (.cons (.refl _) (.cons (hs.GG 1 rfl) .nil))))
end Go.Gl
namespace Go.Gl
open Go.Proofs
def AAd {p:Prog} {gen:Int} {togX togR:List Fact->Bool} {OK:(Int->KW)->Prop} (hX: ∀l,(∀x∈l,DV (AL p) x)->(togX l=true↔ ∃M,OK M/\ ∀x∈l,F4 (AL p) M x))
    (hR: ∀l,(∀x∈l,DV (AL p) x)->(togR l=true↔ ∃M,OK M/\ ∀x∈l,F4 (AL p) M x)) (hn: ∀f∈Ut p gen,Bb (AL p) f=true) :
    ((V5 p togX (Ej p gen)).map fun s=>YY (J1 (Ej p gen) s,aD p (J1 (Ej p gen) s)))=(Jx p gen togR).map YY:=by
 have hE: ∀l,GU togX (Js p (Ej p gen)) l=oK togR (Ut p gen) l:=fun l=>by
  rw[JK];exact(fo hX hn l).trans (m4 hR hn l).symm
 obtain⟨h1,-⟩:=Uo (so:=fun s n=>GU togX (Js p (Ej p gen)) (Ck s n)) (E:=GU togX (Js p (Ej p gen))) (Ej p gen).length 0 0 (by decide) (fun s n _=>rfl);rw[HG,L4 hE]at h1;rw[Jx,show([]:List Bool)=Ck 0 0 from rfl,<-h1,zf,zf];rfl
def VS {p:Prog} {gen:Int} (h:FY p gen=true) (h8:(Ej p gen).length<=8):Yl p (Ej p gen):=by
 rw[FY,A9]at h;refine⟨look_ok h.1,fun m hm=>?_,h8⟩;have:=VP p gen m;rw[List.contains_iff_mem.2 hm]at this;exact(zrH.1 this.symm).1
def Rx (ms:List Int) (bs:List Bool):(Cz ms bs).Sublist ms:=by
 rw[Cz]
 induction ms generalizing bs with
 | nil=>simp
 | cons m r ih=>
   cases bs with
   | nil=>simp
   | cons b q=>
     cases b
     .simpa using(ih q).cons m
     .simpa using ih q
def vC (p:Prog) (gen:Int):(Ej p gen).Pairwise (· < ·):=by
 rw[Ej,dC];exact List.Pairwise.filter _ (LP _)
def au {p:Prog} {gen:Int} {l:List Int} (h:l.Sublist (Ej p gen)):Se p gen l=true:=by
 have hp:=(vC p gen).sublist h;refine oj fun i hi=>?_
 have hm:=VP p gen l[i];rw[List.contains_iff_mem.2 (h.subset (List.getElem_mem hi))]at hm;have hm:=zrH.1 hm.symm;rw[ga];have e1:l.getD i 0=l[i]:=by rw[C6,Cs hi];rfl
 rw[e1,hm.1,hm.2,Ds,Ds,Bool.not_eq_true',Bool.and_eq_false_iff,decide_eq_false_iff_not,decide_eq_false_iff_not];by_cases h0:0<i
 .right
  have e2:l.getD (i - 1) 0=l[i - 1]'(by omega):=by rw[C6,Cs (by omega)];rfl
  rw[e2];have:=List.pairwise_iff_getElem.1 hp (i - 1) i (by omega) hi (by omega);omega
 .exact .inl h0
attribute [local irreducible] Au Am Ae AR AK AY AQ AS AJ AX AM AO Ao A0 Sat AU Ay Af W
def Wl {p:Prog} {gen:Int} {ms:List Int} (h:(BX p).isSome=true):Pure zP 138 [.a (Ye p gen ms)] (.rp (gW (AL p) (Bc (AL p).parents))):=by
 have c1:=cr p;rw[if_pos h]at c1;have c2:=o6 (AL p) (aS h);refine yu kZ ?_;have hs:=Sn;exact zW
def lW {p:Prog} {gen:Int} {ms:List Int} (h:(BX p).isSome=true):Pure zP 73 [.a (Ye p gen ms)] (gb 140 [] [.rp [.rp (gW (AL p) (Bc (AL p).parents))]] p gen ms):=by
 have c1:=Wl (gen:=gen) (ms:=ms) h;refine ABK kZ ?_;have hs:=Sn
 conv=>whnf
 repeat'((first|clear U K|apply st|(apply zk;intro K U)|refine zY ?_|refine zs fun Z hs=>?_|refine c1.use ?_|refine an.use ?_|refine zo fun nn hnn Z hs=>?_|fail)<;>conv=>whnf)
 exact A7 (.f .nil (.cons (.rp (.cons (.f .nil (.cons (hs.oG 0 rfl (.refl _ _ _)) .nil)) .nil)) (.cons (.refl _) .nil)))
def tl {p:Prog} {gen:Int} {ms:List Int} (h:(BX p).isSome=true) (cs:List Int) (f:Bool):Pure zP 74 [.a (Ye p gen ms),.l (iL cs) f] (gb 144 [] [.rp [.rp (gW (AL p) (Bc (AL p).parents))],.rp [.l (iL cs) f]] p gen ms):=by
 have c1:=Wl (gen:=gen) (ms:=ms) h;refine ABJ kZ ?_;have hs:=Sn
 conv=>whnf
 repeat'((first|clear U K|apply st|(apply zk;intro K U)|refine zY ?_|refine zs fun Z hs=>?_|refine c1.use ?_|refine an.use ?_|refine zo fun nn hnn Z hs=>?_|fail)<;>conv=>whnf)
 exact A7 (.f .nil (.cons (.rp (.cons (.f .nil (.cons (hs.oG 0 rfl (.refl _ _ _)) (.cons (.refl _) .nil))) .nil)) (.cons (.refl _) .nil)))
def iZ (v:List V):Pure zP 71 [.a v] (.b true):=by
 refine ABM kZ ?_;have hs:=Sn;exact zW
abbrev QS (p:Prog) (gen:Int) (tog:List Fact->Bool):V:= .t [if Lc p gen true=0 then .l ((Jx p gen tog).map YY) false else .l [] true,eI (Lc p gen true)]
def fQ {p:Prog} {gen:Int} (h:Yl p (Ej p gen)): ∀f∈Ut p gen,Bb (AL p) f=true:=fun f hf=>by
 obtain⟨m,hm,rfl⟩:=Il.1 hf;have:=CH (h.F6 m hm);exact(h.ok.facts _ (Bp this)).1
def bz {p:Prog} {gen:Int} {g:FuncId} {fi ca:List V} {togX togR:List Fact->Bool} {OK:(Int->KW)->Prop} (hX: ∀l,(∀x∈l,DV (AL p) x)->(togX l=true↔ ∃M,OK M/\ ∀x∈l,F4 (AL p) M x))
    (hR: ∀l,(∀x∈l,DV (AL p) x)->(togR l=true↔ ∃M,OK M/\ ∀x∈l,F4 (AL p) M x)) (h1:FY p gen=true) (h8:(Ej p gen).length<=8) (hcan:WN g fi ca (AL p) togX) :
    Pure zP 72 [.a (s6 p gen),gb g fi ca p gen (Ej p gen)] (.l ((Jx p gen togR).map YY) false):=by
 have hfn:=VS h1 h8;have:=qX (gen:=gen) hfn hcan (stE:=aD p) (fun s _=>tj p gen _ false h1 (au (Rx _ _)));rw[AAd hX hR (fQ hfn)]at this;exact this
def zR (p:Prog) (gen:Int):Pure zP 18 [.a (BG p),eI gen] (QS p gen (FW (AL p))):=by
 have c1:=kA p gen 71 [] true (fun _=>iZ _);cases h1:FY p gen
 .rw[(LO h1 true).1,(LO h1 true).2]at c1
  rw[QS,(LO h1 true).2];refine iU kZ ?_;have hs:=Sn;exact zW
 rw[(LN h1).1,(LN h1).2]at c1;rw[QS,(LN h1).2];by_cases h8:(Ej p gen).length<=8
 .have hl:=h1
  rw[FY,A9]at hl;have hw:=(look_ok hl.1).zj;have c2:=lW (gen:=gen) (ms:=Ej p gen) hl.1;have c3:=bz (fun l hl=>k7 hw fun x hx=>HR (hl x hx)) (AAx hw) h1 h8 (eJ _ (aS hl.1));rw[if_pos h8]at c1 ⊢;rw[if_pos rfl];refine iU kZ ?_;have hs:=Sn
  conv=>whnf
  repeat'((first|clear U K|apply st|(apply zk;intro K U)|refine zY ?_|refine rk ?_ ?_|exact fun s e=>by cases e;rfl|refine zs fun Z hs=>?_|refine zC ?_|(refine zb (fun hc=>?_) (fun hc=>?_)<;>try exact⟨⟩)|refine zo fun nn hnn Z hs=>?_|fail)<;>conv=>whnf)
  all_goals exact AH rfl
 .rw[if_neg h8]at c1 ⊢
  rw[if_neg (by decide)];refine iU kZ ?_;have hs:=Sn;exact zW
def nQ (p:Prog) (gen:Int):Pure zP 19 [.a (BG p),eI gen] (QS p gen (QI (AL p) [])):=by
 have c1:=kA p gen 71 [] true (fun _=>iZ _);cases h1:FY p gen
 .rw[(LO h1 true).1,(LO h1 true).2]at c1
  rw[QS,(LO h1 true).2];refine iT kZ ?_;have hs:=Sn;exact zW
 rw[(LN h1).1,(LN h1).2]at c1;rw[QS,(LN h1).2];by_cases h8:(Ej p gen).length<=8
 .have hl:=h1
  rw[FY,A9]at hl;have hw:=(look_ok hl.1).zj;have c2:=tl (gen:=gen) (ms:=Ej p gen) hl.1 [] true;have c3:=bz (fun l hl=>Wy hw fun x hx=>HR (hl x hx)) (AAy hw bT) h1 h8 (od _ (aS hl.1) [] true (by decide));rw[if_pos h8]at c1 ⊢;rw[if_pos rfl];refine iT kZ ?_;have hs:=Sn
  conv=>whnf
  repeat'((first|clear U K|apply st|(apply zk;intro K U)|refine zY ?_|refine rk ?_ ?_|exact fun s e=>by cases e;rfl|refine zs fun Z hs=>?_|refine zC ?_|(refine zb (fun hc=>?_) (fun hc=>?_)<;>try exact⟨⟩)|refine zo fun nn hnn Z hs=>?_|fail)<;>conv=>whnf)
  all_goals exact AH rfl
 .rw[if_neg h8]at c1 ⊢
  rw[if_neg (by decide)];refine iT kZ ?_;have hs:=Sn;exact zW
end Go.Gl
namespace Go.Gl
open Go.Proofs
attribute [local irreducible] Au Am Ae AR AK AY AQ AS AJ AX AM AO Ao A0 Sat AU Ay Af W
def iV {p:Prog} {gen:Int} (h:Lc p gen true=0):FY p gen=true/\(Ej p gen).length<=8:=by
 cases h1:FY p gen
 .rw[(LO h1 true).2]at h;cases h
 .rw[(LN h1).2]at h
  by_cases h8:(Ej p gen).length<=8
  .exact⟨rfl,h8⟩
  .rw[if_neg h8]at h;cases h
structure tbG (T:List (List Bool)) (p:Prog) (ms:List Int):Prop where
 ok:Jg T ms
 eq: ∀x∈ms,∀y∈ms,Dr p x y=true->Dt T x y=Ax p x y
def cC (p:Prog) (gen:Int) (op:Bool) (cs:List Int) (g:Bool) (T:List (List Bool)) (h:gX p (Ej p gen) op cs) (hT:tbG T p (Ej p gen)):Pure zP 105 [.a (z8 p (Ej p gen) op cs g T)] (.l ((Jx p gen (Sd p op cs)).map YY) false):=by
 have hM:=Mx;have hfew:=h.s7;have h161:=oh p (Ej p gen) op cs g T h (Ej p gen).length [] true (by simp)
 have hsub: ∀l∈(GX (PY p (Ej p gen) op cs) (Ej p gen).length []).map (Cz (Ej p gen)),l.Sublist (Ej p gen):=fun l hl=>by
  obtain⟨bs,-,rfl⟩:=Il.1 hl;exact Rx _ _
 have hlen:((GX (PY p (Ej p gen) op cs) (Ej p gen).length []).map (Cz (Ej p gen))).length<=256:=by
  rw[B9];exact Nat.le_trans (Fp _ _) (Nat.le_trans (Nat.pow_le_pow_right (by omega) hfew) (by decide))
 have hv:(Jx p gen (Sd p op cs))=((GX (PY p (Ej p gen) op cs) (Ej p gen).length []).map (Cz (Ej p gen))).map fun l=>(l,aD p l):=by
  rw[Jx,zf];rfl
 rw[hv];clear hv;generalize (GX (PY p (Ej p gen) op cs) (Ej p gen).length []).map (Cz (Ej p gen))=L at *;have h16:=h.ok.many;have eL:((EN L).length:Int)=L.length:=by simp
 refine y7 kZ ?_;have hs:=Sn;refine zz ?_;(repeat clear U K);repeat intro K U
 refine h161.use (rest:=[]) (by simpa using hs) ?_;clear hs;rintro r post Z ⟨v7,rfl,rfl⟩ hs;refine zz ?_;(repeat clear U K);repeat intro K U
 refine B1 L.length (fun k v=>[(3,v),(9,eI (A4 k))]) (fun k v=>[.own v7 1 (EN L),.own v 2 (((L.take k).map fun l=>(l,aD p l)).map YY)]) (fun _ _=>True) (.l [] true) rfl trivial (D1 hs 2) ?_;clear hs;rintro k v Z hk - hs;rcases A8 L hk with⟨l,hl,hlt⟩|hke
 .have hck:A4 k=k:=Ag (by omega)
  have hl3:L[(A4 k).toNat]? =some l:=by rw[hck,Fi];exact hl
  have hl2:=hsub l (Bp hl);have hG:=bW h.ok (OP (au hl2));have c1:=lC p T l false hG h16 ⟨hT.ok.len,hT.ok.sq,fun x hx=>hT.ok.ins x (hl2.subset hx),Nat.le_trans hl2.length_le hT.ok.many⟩;rw[X8 hG (fun x hx y hy=>hT.eq x (hl2.subset hx) y (hl2.subset hy)),<-aD]at c1;have hst:((L.take (k+1)).map fun l=>(l,aD p l))=((L.take k).map fun l=>(l,aD p l))++[(l,aD p l)]:=by rw[AN hl,SU];rfl
  have hal:((L.take k).map fun l=>(l,aD p l)).length<=256:=by rw[B9,Jl];omega
  generalize ((L.take k).map fun l=>(l,aD p l))=zl at *;have hll:zl.length<Aa/\(zl.length+1)*32<=140737488355328:=by omega
  conv=>whnf
  repeat'((first|clear U K|apply st|(apply zk;intro K U)|refine zY ?_|refine c1.use ?_|refine aq (enc:=YY) (x:=(l,aD p l)) (fun v Z hs hsl=>?_) (hg:=bo)|fail)<;>conv=>whnf)
  exact⟨hlt,_,rfl,trivial,by rw[hst];exact hs⟩
 .rw[Aq hke]at hs
  refine zz ?_;(repeat clear U K);repeat intro K U
  exact A7 (hs.GG 1 rfl)
def Xn (p:Prog) (gen:Int) (h1:FY p gen=true):BQ zP 103 [.a (BG p),eI gen] [] fun r post=>post= []/\ ∃T,r= .ret (.a (z8 p (Ej p gen) false [] true T))/\tbG T p (Ej p gen):=by
 have hl:=h1;rw[FY,A9]at hl;have hok:=look_ok hl.1;have c1:=Xv p gen hok.many;have c2:Pure zP 53 [.a (BG p)] (.a (Az (AL p))):=Pure.fit (by kernel_rfl) fun hf=>Pn p (J3 hf.1) hok.sD hok.AG
 have hin: ∀x∈Ej p gen,BN p x=true:=fun m hm=>by
  have:=VP p gen m;rw[List.contains_iff_mem.2 hm]at this;exact(zrH.1 this.symm).1
 have hln:(Ej p gen).length<=16:=Nat.le_trans (P5 p gen _) hok.many;intro Z hs;refine y8 kZ ?_
 conv=>whnf
 repeat'((first|clear U K|apply st|(apply zk;intro K U)|refine zY ?_|refine rk ?_ ?_|exact fun s e=>by cases e;rfl|refine zC ?_|refine zo fun nn hnn Z hs=>?_|fail)<;>conv=>whnf)
 refine(nE p (Ej p gen) false hok hln hin).use (rest:=_) hs ?_;clear hs;rintro r post Z ⟨rfl,T,rfl,hT,hq⟩ hs
 conv=>whnf
 repeat'((first|clear U K|apply st|refine zY ?_|refine rk ?_ ?_|exact fun s e=>by cases e;rfl|refine zs fun Z hs=>?_|fail)<;>conv=>whnf)
 exact AI ⟨[],⟨rfl,T,rfl,⟨hT,hq⟩⟩,Sat.nil⟩
def nK (p:Prog) (gen:Int) (h1:FY p gen=true) (h8:(Ej p gen).length<=8):Pure zP 76 [.a (BG p),eI gen] (.l ((Jx p gen (FW (AL p))).map YY) false):=by
 have hfn:=VS h1 h8;have hb:=Xn p gen h1;refine Pure.of ?_;refine ABI kZ ?_;have hs:=Sn;refine zz ?_;(repeat clear U K);repeat intro K U
 refine hb.use (rest:=_) hs ?_;clear hs;rintro r post Z ⟨rfl,T,rfl,hT⟩ hs;have c1:=cC p gen true [] true T ⟨hfn.ok,hfn.F6,h8,fun h=>by cases h⟩ hT
 conv=>whnf
 repeat'((first|clear U K|apply st|(apply zk;intro K U)|refine zY ?_|refine zs fun Z hs=>?_|refine zC ?_|refine zo fun nn hnn Z hs=>?_|fail)<;>conv=>whnf)
 all_goals exact AI (by rfl)
def aB (p:Prog) (gen:Int) (cs:List Int) (f:Bool) (hcs:(∀c∈cs,1<=c/\c<3+((AL p).parents.length:Int))/\cs.length<=3) (h1:FY p gen=true) (h8:(Ej p gen).length<=8):Pure zP 77 [.a (BG p),eI gen,.l (iL cs) f] (.l ((Jx p gen (QI (AL p) cs)).map YY) false):=by
 have hfn:=VS h1 h8;have hb:=Xn p gen h1;refine Pure.of ?_;refine ABH kZ ?_;have hs:=Sn;refine zz ?_;(repeat clear U K);repeat intro K U
 refine hb.use (rest:=_) hs ?_;clear hs;rintro r post Z ⟨rfl,T,rfl,hT⟩ hs;have c1:=cC p gen false cs f T ⟨hfn.ok,hfn.F6,h8,fun _=>hcs⟩ hT
 conv=>whnf
 repeat'((first|clear U K|apply st|(apply zk;intro K U)|refine zY ?_|refine zs fun Z hs=>?_|refine zC ?_|refine zo fun nn hnn Z hs=>?_|fail)<;>conv=>whnf)
 all_goals exact AI (by rfl)
def jz (p:Prog) (gen:Int):Pure zP 75 [.a (BG p),eI gen] (eI (Lc p gen true)):=by
 have c1:=zV p gen;cases h1:FY p gen<;>rw[h1]at c1
 .rw[if_neg (by decide)]at c1
  rw[(LO h1 true).2];refine sQ kZ ?_;have hs:=Sn;exact zW
 .have hl:=h1
  rw[FY,A9]at hl;have c2:=AAp p gen (look_ok hl.1).many;rw[if_pos rfl]at c1;rw[(LN h1).2];refine sQ kZ ?_;have hs:=Sn;exact zW
def zQ (p:Prog) (gen:Int):Pure zP 20 [.a (BG p),eI gen] (QS p gen (FW (AL p))):=by
 have c1:=jz p gen;rw[QS];by_cases h0:Lc p gen true=0
 .rw[h0]at c1 ⊢
  have⟨h1,h8⟩:=iV h0;have c2:=nK p gen h1 h8;rw[if_pos rfl];refine sU kZ ?_;have hs:=Sn;exact zW
 .rw[if_neg h0]
  refine sU kZ ?_;have hs:=Sn;exact zW
def nP (p:Prog) (gen:Int):Pure zP 21 [.a (BG p),eI gen] (QS p gen (QI (AL p) [])):=by
 have c1:=jz p gen;rw[QS];by_cases h0:Lc p gen true=0
 .rw[h0]at c1 ⊢
  have⟨h1,h8⟩:=iV h0;have c2:=aB p gen [] true ⟨bT,by decide⟩ h1 h8;rw[if_pos rfl];refine sT kZ ?_;have hs:=Sn;exact zW
 .rw[if_neg h0]
  refine sT kZ ?_;have hs:=Sn;exact zW
def U9 (xs:List (List Int×Int)) (hxl:xs.length<=256) (f g:Bool):Pure zP 22 [.l (xs.map YY) f,.l (xs.map YY) g] (.b true):=by
 have hM:=Mx;refine Pure.of ?_;refine ABX kZ ?_;have hs:=Sn
 conv=>whnf
 repeat'((first|clear U K|apply st|(apply zk;intro K U)|refine zY ?_|(refine zb (fun hc=>?_) (fun hc=>?_)<;>try exact⟨⟩)|fail)<;>conv=>whnf)
 all_goals try(exfalso;simp at hc;done)
 refine B1 xs.length (fun k (_:Unit)=>[(13,eI (A4 k))]) (fun _ _=>[]) (fun _ _=>True) () rfl trivial hs ?_;clear hs;rintro k - Z hk - hs;rcases A8 xs hk with⟨x,hx,hlt⟩|hke
 .have c1:=I5 x.1 x.1 false false
  rw[beq_self_eq_true]at c1;have hck:A4 k=k:=Ag (by omega)
  conv=>whnf
  repeat'((first|clear U K|apply st|(apply zk;intro K U)|refine zY ?_|refine zC ?_|(refine zb (fun hc=>?_) (fun hc=>?_)<;>try exact⟨⟩)|fail)<;>conv=>whnf)
  all_goals first
   | exact⟨hlt,(),rfl,trivial,hs⟩
   | (exfalso;omega)
 .refine zz ?_;(repeat clear U K);repeat intro K U
  all_goals exact AI (by rfl)
def TL {p:Prog} {gen:Int} {tog:List Fact->Bool} (h8:(Ej p gen).length<=8):(Jx p gen tog).length<=256:=by
 rw[Jx,B9];exact Nat.le_trans (Fp _ _) (Nat.le_trans (Nat.pow_le_pow_right (by omega) h8) (by decide))
def mN (g:Giv) (c0:Pure zP 17 [] (.b true)):Pure zP 4 [.a (Yn g)] (.b true):=by
 have c1:=zR g.p g.gen;have c2:=nQ g.p g.gen;have c3:=zQ g.p g.gen;have c4:=nP g.p g.gen;rw[QS]at c1 c2 c3 c4;by_cases h0:Lc g.p g.gen true=0
 .rw[h0,if_pos rfl]at c1 c2 c3 c4
  have h8:=(iV h0).2;have c5:=U9 _ (TL (tog:=FW (AL g.p)) h8) false false;have c6:=U9 _ (TL (tog:=QI (AL g.p) []) h8) false false;refine AAS kZ ?_;have hs:=Sn
  conv=>whnf
  repeat'((first|clear U K|apply st|(apply zk;intro K U)|refine zY ?_|refine zC ?_|(refine zb (fun hc=>?_) (fun hc=>?_)<;>try exact⟨⟩)|fail)<;>conv=>whnf)
  all_goals first
   | exact AH rfl
   | (exfalso;simp at hc;done)
 .rw[if_neg h0]at c1 c2 c3 c4
  have c5:=U9 [] (by decide) true true;generalize Lc g.p g.gen true=e at *;refine AAS kZ ?_;have hs:=Sn
  conv=>whnf
  repeat'((first|clear U K|apply st|(apply zk;intro K U)|refine zY ?_|refine zC ?_|(refine zb (fun hc=>?_) (fun hc=>?_)<;>try exact⟨⟩)|fail)<;>conv=>whnf)
  all_goals first
   | exact AH rfl
   | (exfalso;simp at hc;done)
end Go.Gl
namespace Go.Gl
variable {P:Program} {F:Nat->Prop} {Z:AE} {pu:List FuncId} {fz:List Nat}
end Go.Gl
namespace Go.Gl
def F2 {α β:Type} (R:α->β->Prop):List α->List β->Prop
 | [],l=>l= []
 | x::xs,l=> ∃y ys,R x y/\F2 R xs ys/\l=y::ys
section
variable {α β:Type} {R R':α->β->Prop}
def F2.nil:F2 R [] []:=rfl
def F2.cons {x:α} {y:β} {xs:List α} {ys:List β} (h:R x y) (h':F2 R xs ys):F2 R (x::xs) (y::ys):=⟨y,ys,h,h',rfl⟩
def F2.len: ∀ {xs:List α} {ys:List β},F2 R xs ys->ys.length=xs.length
 | [],_,h=>by cases h;rfl
 | _::_,_,⟨_,_,_,h,e⟩=>by subst e;simp[F2.len h]
def F2.get: ∀ {xs:List α} {ys:List β},F2 R xs ys-> ∀ {i:Nat} {x:α},xs[i]? =some x-> ∃y,ys[i]? =some y/\R x y
 | x::xs,_,⟨y,ys,h1,h2,e⟩,i,z,hi=>by
   subst e;cases i with
   | zero=>simp at hi;subst hi;exact⟨y,by simp,h1⟩
   | succ i=>simp at hi;simpa using F2.get h2 hi
def F2.mono (hm: ∀x y,R x y->R' x y): ∀ {xs:List α} {ys:List β},F2 R xs ys->F2 R' xs ys
 | [],_,h=>h
 | _::_,_,⟨y,ys,h1,h2,e⟩=>⟨y,ys,hm _ _ h1,F2.mono hm h2,e⟩
def F2.app: ∀ {xs xs':List α} {ys ys':List β},F2 R xs ys->F2 R xs' ys'->F2 R (xs++xs') (ys++ys')
 | [],_,_,_,h,h'=>by cases h;exact h'
 | _::_,_,_,_,⟨y,ys,h1,h2,e⟩,h'=>by subst e;exact⟨y,ys++_,h1,F2.app h2 h',rfl⟩
def F2.take: ∀ {xs:List α} {ys:List β},F2 R xs ys-> ∀n,F2 R (xs.take n) (ys.take n)
 | [],_,h,n=>by cases h;simp;rfl
 | _::_,_,⟨y,ys,h1,h2,e⟩,n=>by
   subst e;cases n with
   | zero=>exact rfl
   | succ n=>exact⟨y,_,h1,F2.take h2 n,rfl⟩
def F2.drop: ∀ {xs:List α} {ys:List β},F2 R xs ys-> ∀n,F2 R (xs.drop n) (ys.drop n)
 | [],_,h,n=>by cases h;simp;rfl
 | _::_,_,⟨y,ys,h1,h2,e⟩,n=>by
   subst e;cases n with
   | zero=>exact⟨y,ys,h1,h2,rfl⟩
   | succ n=>exact F2.drop h2 n
def F2.set: ∀ {xs:List α} {ys:List β},F2 R xs ys-> ∀(i:Nat) {x:α} {y:β},R x y->F2 R (xs.set i x) (ys.set i y)
 | [],_,h,i,_,_,_=>by cases h;simp;rfl
 | _::_,_,⟨y,ys,h1,h2,e⟩,i,_,_,h=>by
   subst e;cases i with
   | zero=>exact⟨_,_,h,h2,rfl⟩
   | succ i=>exact⟨_,_,h1,F2.set h2 i h,rfl⟩
def F2.rep {x:α} {y:β} (h:R x y): ∀n,F2 R (List.replicate n x) (List.replicate n y)
 | 0=>rfl
 | n+1=>⟨y,_,h,F2.rep h n,rfl⟩
def F2.mem: ∀ {xs:List α} {ys:List β},F2 R xs ys-> ∀ {y:β},y∈ys-> ∃x,x∈xs/\R x y
 | [],_,h,y,hy=>by cases h;cases hy
 | x ::_,_,⟨z,zs,h1,h2,e⟩,y,hy=>by
   subst e;rcases GM.1 hy with rfl|hy
   .exact⟨x,.head _,h1⟩
   .obtain⟨u,hu,hr⟩:=F2.mem h2 hy
    exact⟨u,.tail _ hu,hr⟩
def F2.fn (hf: ∀x y z,R x y->R x z->y=z): ∀ {xs:List α} {ys zs:List β},F2 R xs ys->F2 R xs zs->ys=zs
 | [],_,_,h,h'=>by cases h;cases h';rfl
 | _::_,_,_,⟨y,ys,h1,h2,e⟩,⟨z,zs,h3,h4,e'⟩=>by
   subst e;subst e';rw[hf _ _ _ h1 h3,F2.fn hf h2 h4]
end
abbrev Ren:=Nat->Option (Nat×Nat)
def Ren.le (Y Y':Ren):Prop:= ∀i m,Y i=some m->Y' i=some m
def Ren.le.refl (Y:Ren):Y.le Y:=fun _ _ h=>h
def Ren.le.trans {a b c:Ren} (h:a.le b) (k:b.le c):a.le c:=fun i m e=>k i m (h i m e)
def dF (Y:Ren):Fn->Fn->Prop
 | .yield i,f=> ∃m,Y i=some m/\f= .yield m.1
 | fn,f=>f=fn
mutual
def RV (Y:Ren):V->V->Prop
 | .p n off,v=> ∃m,Y n=some m/\v= .p m.1 off
 | .sl n len _,v=> ∃m,Y n=some m/\v= .sl m.1 len m.2
 | .sv n sz off len,v=> ∃m,Y n=some m/\v= .sv m.1 sz off len
 | .pe n sz i off,v=> ∃m,Y n=some m/\v= .pe m.1 sz i off
 | .m n,v=> ∃m,Y n=some m/\v= .m m.1
 | .rp cs,v=> ∃cs',RL Y cs cs'/\v= .rp cs'
 | .l es f,v=> ∃es',RR Y es es'/\v= .l es' f
 | .f fn first cap,v=> ∃fn' first' cap',dF Y fn fn'/\RL Y first first'/\RL Y cap cap'/\v= .f fn' first' cap'
 | .FV t x,v=> ∃x',RV Y x x'/\v= .FV t x'
 | .a cs,v=> ∃cs',RL Y cs cs'/\v= .a cs'
 | .t cs,v=> ∃cs',RL Y cs cs'/\v= .t cs'
 | .b x,v=>v= .b x
 | .i k n,v=>v= .i k n
 | .s x,v=>v= .s x
 | .pn,v=>v= .pn
 | .mn,v=>v= .mn
 | .MK,v=>v= .MK
 | .D0,v=>v= .D0
 | .any,v=>v= .any
def RL (Y:Ren):List V->List V->Prop
 | [],l=>l= []
 | x::xs,l=> ∃y ys,RV Y x y/\RL Y xs ys/\l=y::ys
def RR (Y:Ren):List (List V)->List (List V)->Prop
 | [],l=>l= []
 | x::xs,l=> ∃y ys,RL Y x y/\RR Y xs ys/\l=y::ys
end
def Bi {Y:Ren}: ∀ {xs ys:List V},RL Y xs ys↔F2 (RV Y) xs ys
 | [],_=>by simp only[RL,F2]
 | x::xs,l=>by
   simp only[RL,F2];constructor
   .rintro⟨y,ys,h1,h2,rfl⟩;exact⟨y,ys,h1,Bi.1 h2,rfl⟩
   .rintro⟨y,ys,h1,h2,rfl⟩;exact⟨y,ys,h1,Bi.2 h2,rfl⟩
def F9 {Y:Ren}: ∀ {xs ys:List (List V)},RR Y xs ys↔F2 (F2 (RV Y)) xs ys
 | [],_=>by simp only[RR,F2]
 | x::xs,l=>by
   simp only[RR,F2];constructor
   .rintro⟨y,ys,h1,h2,rfl⟩;exact⟨y,ys,Bi.1 h1,F9.1 h2,rfl⟩
   .rintro⟨y,ys,h1,h2,rfl⟩;exact⟨y,ys,Bi.2 h1,F9.2 h2,rfl⟩
def dF.mono {Y Y':Ren} (h:Y.le Y') {f g:Fn} (k:dF Y f g):dF Y' f g:=by
 cases f<;>first|exact k|exact⟨_,h _ _ k.choose_spec.1,k.choose_spec.2⟩
mutual
def RV.mono {Y Y':Ren} (h:Y.le Y'): ∀(v v':V),RV Y v v'->RV Y' v v'
 | .p _ _,_,k| .sl _ _ _,_,k| .sv _ _ _ _,_,k| .pe _ _ _ _,_,k| .m _,_,k=>by
   simp only[RV]at k ⊢;obtain⟨m,h1,h2⟩:=k;exact⟨m,h _ _ h1,h2⟩
 | .rp cs,_,k=>by
   simp only[RV]at k ⊢;obtain⟨c,h1,h2⟩:=k;exact⟨c,RL.mono h _ _ h1,h2⟩
 | .a cs,_,k=>by
   simp only[RV]at k ⊢;obtain⟨c,h1,h2⟩:=k;exact⟨c,RL.mono h _ _ h1,h2⟩
 | .t cs,_,k=>by
   simp only[RV]at k ⊢;obtain⟨c,h1,h2⟩:=k;exact⟨c,RL.mono h _ _ h1,h2⟩
 | .l es f,_,k=>by
   simp only[RV]at k ⊢;obtain⟨c,h1,h2⟩:=k;exact⟨c,RR.mono h _ _ h1,h2⟩
 | .f fn a b,_,k=>by
   simp only[RV]at k ⊢;obtain⟨g,c,d,h1,h2,h3,h4⟩:=k;exact⟨g,c,d,h1.mono h,RL.mono h _ _ h2,RL.mono h _ _ h3,h4⟩
 | .FV t x,_,k=>by
   simp only[RV]at k ⊢;obtain⟨c,h1,h2⟩:=k;exact⟨c,RV.mono h _ _ h1,h2⟩
 | .b _,_,k| .i _ _,_,k| .s _,_,k| .pn,_,k| .mn,_,k| .MK,_,k| .D0,_,k| .any,_,k=>by
   simp only[RV]at k ⊢;exact k
def RL.mono {Y Y':Ren} (h:Y.le Y'): ∀(l l':List V),RL Y l l'->RL Y' l l'
 | [],_,k=>by simp only[RL]at k ⊢;exact k
 | x::xs,_,k=>by
   simp only[RL]at k ⊢;obtain⟨y,ys,h1,h2,h3⟩:=k;exact⟨y,ys,RV.mono h _ _ h1,RL.mono h _ _ h2,h3⟩
def RR.mono {Y Y':Ren} (h:Y.le Y'): ∀(l l':List (List V)),RR Y l l'->RR Y' l l'
 | [],_,k=>by simp only[RR]at k ⊢;exact k
 | x::xs,_,k=>by
   simp only[RR]at k ⊢;obtain⟨y,ys,h1,h2,h3⟩:=k;exact⟨y,ys,RL.mono h _ _ h1,RR.mono h _ _ h2,h3⟩
end
def dF.fn {Y:Ren} {f g g':Fn} (h:dF Y f g) (k:dF Y f g'):g=g':=by
 cases f<;>first|(simp only[dF]at h k;rw[h,k];done)|skip
 simp only[dF]at h k;obtain⟨m,h1,rfl⟩:=h;obtain⟨m',h2,rfl⟩:=k;rw[h1]at h2;cases h2;rfl
mutual
def RV.fn {Y:Ren}: ∀(v a b:V),RV Y v a->RV Y v b->a=b
 | .p _ _,_,_,k,k'| .sl _ _ _,_,_,k,k'| .sv _ _ _ _,_,_,k,k'| .pe _ _ _ _,_,_,k,k'| .m _,_,_,k,k'=>by
   simp only[RV]at k k';obtain⟨m,h1,rfl⟩:=k;obtain⟨m',h2,rfl⟩:=k';rw[h1]at h2;cases h2;rfl
 | .rp _,_,_,k,k'| .a _,_,_,k,k'| .t _,_,_,k,k'=>by
   simp only[RV]at k k';obtain⟨m,h1,rfl⟩:=k;obtain⟨m',h2,rfl⟩:=k';rw[RL.fn _ _ _ h1 h2]
 | .l _ _,_,_,k,k'=>by
   simp only[RV]at k k';obtain⟨m,h1,rfl⟩:=k;obtain⟨m',h2,rfl⟩:=k';rw[RR.fn _ _ _ h1 h2]
 | .f fn a b,_,_,k,k'=>by
   simp only[RV]at k k';obtain⟨g,c,d,h1,h2,h3,rfl⟩:=k;obtain⟨g',c',d',h1',h2',h3',rfl⟩:=k';rw[h1.fn h1',RL.fn _ _ _ h2 h2',RL.fn _ _ _ h3 h3']
 | .FV t x,_,_,k,k'=>by
   simp only[RV]at k k';obtain⟨m,h1,rfl⟩:=k;obtain⟨m',h2,rfl⟩:=k';rw[RV.fn _ _ _ h1 h2]
 | .b _,_,_,k,k'| .i _ _,_,_,k,k'| .s _,_,_,k,k'| .pn,_,_,k,k'| .mn,_,_,k,k'| .MK,_,_,k,k'| .D0,_,_,k,k'| .any,_,_,k,k'=>by
   simp only[RV]at k k';rw[k,k']
def RL.fn {Y:Ren}: ∀(l a b:List V),RL Y l a->RL Y l b->a=b
 | [],_,_,k,k'=>by simp only[RL]at k k';rw[k,k']
 | x::xs,_,_,k,k'=>by
   simp only[RL]at k k';obtain⟨y,ys,h1,h2,rfl⟩:=k;obtain⟨z,zs,h3,h4,rfl⟩:=k';rw[RV.fn _ _ _ h1 h3,RL.fn _ _ _ h2 h4]
def RR.fn {Y:Ren}: ∀(l a b:List (List V)),RR Y l a->RR Y l b->a=b
 | [],_,_,k,k'=>by simp only[RR]at k k';rw[k,k']
 | x::xs,_,_,k,k'=>by
   simp only[RR]at k k';obtain⟨y,ys,h1,h2,rfl⟩:=k;obtain⟨z,zs,h3,h4,rfl⟩:=k';rw[RL.fn _ _ _ h1 h3,RR.fn _ _ _ h2 h4]
end
def N2:Fn->Bool
 | .yield _=>false
 | _=>true
mutual
def BL:V->Bool
 | .p _ _=>false
 | .sl _ _ _=>false
 | .sv _ _ _ _=>false
 | .pe _ _ _ _=>false
 | .m _=>false
 | .rp cs=>CM cs
 | .a cs=>CM cs
 | .t cs=>CM cs
 | .l es _=>S0 es
 | .f fn a b=>N2 fn&&(CM a&&CM b)
 | .FV _ x=>BL x
 | _=>true
def CM:List V->Bool
 | []=>true
 | x::xs=>BL x&&CM xs
def S0:List (List V)->Bool
 | []=>true
 | x::xs=>CM x&&S0 xs
end
mutual
def RV.pure {Y:Ren}: ∀(v:V),BL v=true->RV Y v v
 | .p _ _,h| .sl _ _ _,h| .sv _ _ _ _,h| .pe _ _ _ _,h| .m _,h=>by simp[BL]at h
 | .rp cs,h| .a cs,h| .t cs,h=>by simp only[BL]at h;simp only[RV];exact⟨_,RL.pure cs h,rfl⟩
 | .l es f,h=>by simp only[BL]at h;simp only[RV];exact⟨_,RR.pure es h,rfl⟩
 | .f fn a b,h=>by
   simp only[BL,A9]at h;simp only[RV];refine⟨fn,a,b,?_,RL.pure a h.2.1,RL.pure b h.2.2,rfl⟩;cases fn<;>first|rfl|(simp[N2]at h)
 | .FV t x,h=>by simp only[BL]at h;simp only[RV];exact⟨_,RV.pure x h,rfl⟩
 | .b _,_| .i _ _,_| .s _,_| .pn,_| .mn,_| .MK,_| .D0,_| .any,_=>by simp only[RV]
def RL.pure {Y:Ren}: ∀(v:List V),CM v=true->RL Y v v
 | [],_=>by simp only[RL]
 | x::xs,h=>by
   simp only[CM,A9]at h;simp only[RL];exact⟨x,xs,RV.pure x h.1,RL.pure xs h.2,rfl⟩
def RR.pure {Y:Ren}: ∀(v:List (List V)),S0 v=true->RR Y v v
 | [],_=>by simp only[RR]
 | x::xs,h=>by
   simp only[S0,A9]at h;simp only[RR];exact⟨x,xs,RL.pure x h.1,RR.pure xs h.2,rfl⟩
end
def RV.ni {Y:Ren} {v v':V} (h:RV Y v v') (hp:BL v=true):v'=v:=RV.fn v _ _ h (RV.pure v hp)
mutual
def FD:V->V->Bool
 | .b x,.b y=>x==y
 | .i k n,.i k' n'=>decide (k=k')&&decide (n=n')
 | .s x,.s y=>decide (x=y)
 | .pn,.pn=>true
 | .p n o,.p n' o'=>Nat.beq n n'&&Nat.beq o o'
 | .rp a,.rp b=>Nw a b
 | .l a f,.l b g=>(f==g)&&dU a b
 | .sl n a b,.sl n' a' b'=>Nat.beq n n'&&(Nat.beq a a'&&Nat.beq b b')
 | .sv n a b c,.sv n' a' b' c'=>Nat.beq n n'&&(Nat.beq a a'&&(Nat.beq b b'&&Nat.beq c c'))
 | .pe n a b c,.pe n' a' b' c'=>Nat.beq n n'&&(Nat.beq a a'&&(Nat.beq b b'&&Nat.beq c c'))
 | .m n,.m n'=>Nat.beq n n'
 | .mn,.mn=>true
 | .f fn a b,.f fn' a' b'=>decide (fn=fn')&&(Nw a a'&&Nw b b')
 | .MK,.MK=>true
 | .FV t v,.FV t' v'=>Nat.beq t t'&&FD v v'
 | .D0,.D0=>true
 | .a a,.a b=>Nw a b
 | .t a,.t b=>Nw a b
 | .any,.any=>true
 | _,_=>false
def Nw:List V->List V->Bool
 | [],[]=>true
 | x::xs,y::ys=>FD x y&&Nw xs ys
 | _,_=>false
def dU:List (List V)->List (List V)->Bool
 | [],[]=>true
 | x::xs,y::ys=>Nw x y&&dU xs ys
 | _,_=>false
end
def C7 {a b:Nat} (h:Nat.beq a b=true):a=b:=Vs h
mutual
def P9: ∀(a b:V),FD a b=true->a=b
 | .b x,b,h=>by cases b<;>simp[FD]at h;rw[h]
 | .i _ _,b,h=>by cases b<;>simp[FD]at h;rw[h.1,h.2]
 | .s _,b,h=>by cases b<;>simp[FD]at h;rw[h]
 | .pn,b,h=>by cases b<;>simp[FD]at h;rfl
 | .p _ _,b,h=>by
   cases b<;>simp only[FD,A9]at h<;>first|(rw[C7 h.1,C7 h.2];done)|cases h
 | .rp _,b,h=>by
   cases b<;>simp only[FD]at h<;>first|(rw[HU _ _ h];done)|cases h
 | .l _ _,b,h=>by
   cases b<;>simp only[FD,A9,C0]at h<;>first|(rw[h.1,cV _ _ h.2];done)|cases h
 | .sl _ _ _,b,h=>by
   cases b<;>simp only[FD,A9]at h<;>first|(rw[C7 h.1,C7 h.2.1,C7 h.2.2];done)|cases h
 | .sv _ _ _ _,b,h=>by
   cases b<;>simp only[FD,A9]at h<;>first|(rw[C7 h.1,C7 h.2.1,C7 h.2.2.1,C7 h.2.2.2];done)|cases h
 | .pe _ _ _ _,b,h=>by
   cases b<;>simp only[FD,A9]at h<;>first|(rw[C7 h.1,C7 h.2.1,C7 h.2.2.1,C7 h.2.2.2];done)|cases h
 | .m _,b,h=>by
   cases b<;>simp only[FD]at h<;>first|(rw[C7 h];done)|cases h
 | .mn,b,h=>by cases b<;>simp[FD]at h;rfl
 | .f _ _ _,b,h=>by
   cases b<;>simp only[FD,A9,Cp]at h<;>first|(rw[h.1,HU _ _ h.2.1,HU _ _ h.2.2];done)|cases h
 | .MK,b,h=>by cases b<;>simp[FD]at h;rfl
 | .FV _ _,b,h=>by
   cases b<;>simp only[FD,A9]at h<;>first|(rw[C7 h.1,P9 _ _ h.2];done)|cases h
 | .D0,b,h=>by cases b<;>simp[FD]at h;rfl
 | .a _,b,h=>by
   cases b<;>simp only[FD]at h<;>first|(rw[HU _ _ h];done)|cases h
 | .t _,b,h=>by
   cases b<;>simp only[FD]at h<;>first|(rw[HU _ _ h];done)|cases h
 | .any,b,h=>by cases b<;>simp[FD]at h;rfl
def HU: ∀(a b:List V),Nw a b=true->a=b
 | [],[],_=>rfl
 | x::xs,y::ys,h=>by
   simp only[Nw,A9]at h;rw[P9 _ _ h.1,HU _ _ h.2]
 | [],_::_,h=>by simp[Nw]at h
 | _::_,[],h=>by simp[Nw]at h
def cV: ∀(a b:List (List V)),dU a b=true->a=b
 | [],[],_=>rfl
 | x::xs,y::ys,h=>by
   simp only[dU,A9]at h;rw[HU _ _ h.1,cV _ _ h.2]
 | [],_::_,h=>by simp[dU]at h
 | _::_,[],h=>by simp[dU]at h
end
inductive EO where
 | cs (vs:List V)
 | arr (sz:Nat) (es:List (List V))
 | map (kvs:List (V×V))
 | loop (st:s9) (env:Env) (ps:List Nat) (a b:AV)
inductive Tr (α:Type) where
 | leaf
 | node (o:Option α) (l r:Tr α)
def Tr.get {α:Type}:Tr α->Nat->Option α
 | .leaf,_=>none
 | .node o l r,k=>match k with
   | 0=>o
   | k+1=>bif Nat.beq (k % 2) 0 then l.get (k / 2)else r.get (k / 2)
def Tr.put {α β:Type} (x:Option α):Nat->Tr α->Nat->(Tr α->β)->β
 | 0,t,_,K=>K t
 | d+1,t,k,K=>match k,t with
   | 0,.leaf=>K (.node x .leaf .leaf)
   | 0,.node _ l r=>K (.node x l r)
   | k+1,.leaf=>bif Nat.beq (k % 2) 0 then Tr.put x d .leaf (k / 2) fun l=>K (.node none l .leaf)else Tr.put x d .leaf (k / 2) fun r=>K (.node none .leaf r)
   | k+1,.node o l r=>bif Nat.beq (k % 2) 0 then Tr.put x d l (k / 2) fun l=>K (.node o l r)else Tr.put x d r (k / 2) fun r=>K (.node o l r)
def BD:Nat:=40
abbrev Tr.set {α:Type} (x:Option α) (d:Nat) (t:Tr α) (k:Nat):Tr α:=Tr.put x d t k id
def Tr.put_eq {α β:Type} {x:Option α}: ∀(d:Nat) (t:Tr α) (k:Nat) (K:Tr α->β),Tr.put x d t k K=K (Tr.set x d t k)
 | 0,t,k,K=>rfl
 | d + 1,t,k,K=>by
   unfold Tr.set;cases k with
   | zero=>cases t<;>rfl
   | succ k=>
     cases t<;>simp only[Tr.put]<;>cases Nat.beq (k % 2) 0<;>simp only[cond_true,cond_false]<;>rw[Tr.put_eq d,Tr.put_eq d _ _ (fun _=>_)]<;>rfl
def Tr.EI {α:Type} {x:Option α}: ∀(d:Nat) (t:Tr α) (k:Nat),k+1<2 ^ d-> ∀j,(Tr.set x d t k).get j=if j=k then x else t.get j
 | 0,_,k,h,_=>by simp at h
 | d + 1, t, k,h,j=>by
   have hp:2 ^ (d+1)=2*2 ^ d:=by rw[Nat.pow_succ];omega
   cases k with
   | zero=>cases t<;>cases j<;>simp[Tr.set,Tr.put,Tr.get]
   | succ k=>
     have hk:k / 2+1<2 ^ d:=by omega
     cases t with
     | leaf=>
       simp only[Tr.set,Tr.put];cases hb:Nat.beq (k % 2) 0 with
       | true=>
         simp only[cond_true];rw[Tr.put_eq];have hb':=C7 hb;cases j with
         | zero=>simp[Tr.get]
         | succ j=>
           simp only[Tr.get,id];cases hj:Nat.beq (j % 2) 0 with
           | true=>
             have hj':=C7 hj;simp only[cond_true];rw[Tr.EI d _ _ hk];simp only[Tr.get];by_cases e:j=k
             .simp[e]
             .rw[if_neg (by omega),if_neg (by omega)]
           | false=>
             simp only[cond_false];rw[if_neg (fun e=>by(have:j=k:=by omega);subst this;rw[hj]at hb;cases hb)]
       | false=>
         simp only[cond_false];rw[Tr.put_eq];have hb':=Nat.ne_of_beq_eq_false hb;cases j with
         | zero=>simp[Tr.get]
         | succ j=>
           simp only[Tr.get,id];cases hj:Nat.beq (j % 2) 0 with
           | false=>
             have hj':=Nat.ne_of_beq_eq_false hj;simp only[cond_false];rw[Tr.EI d _ _ hk];simp only[Tr.get];by_cases e:j=k
             .simp[e]
             .rw[if_neg (by omega),if_neg (by omega)]
           | true=>
             simp only[cond_true];rw[if_neg (fun e=>by(have:j=k:=by omega);subst this;rw[hj]at hb;cases hb)]
     | node o l r=>
       simp only[Tr.set,Tr.put];cases hb:Nat.beq (k % 2) 0 with
       | true=>
         simp only[cond_true];rw[Tr.put_eq];have hb':=C7 hb;cases j with
         | zero=>simp[Tr.get]
         | succ j=>
           simp only[Tr.get,id];cases hj:Nat.beq (j % 2) 0 with
           | true=>
             have hj':=C7 hj;simp only[cond_true];rw[Tr.EI d _ _ hk];by_cases e:j=k
             .simp[e]
             .rw[if_neg (by omega),if_neg (by omega)]
           | false=>
             simp only[cond_false];rw[if_neg (fun e=>by(have:j=k:=by omega);subst this;rw[hj]at hb;cases hb)]
       | false=>
         simp only[cond_false];rw[Tr.put_eq];have hb':=Nat.ne_of_beq_eq_false hb;cases j with
         | zero=>simp[Tr.get]
         | succ j=>
           simp only[Tr.get,id];cases hj:Nat.beq (j % 2) 0 with
           | false=>
             have hj':=Nat.ne_of_beq_eq_false hj;simp only[cond_false];rw[Tr.EI d _ _ hk];by_cases e:j=k
             .simp[e]
             .rw[if_neg (by omega),if_neg (by omega)]
           | true=>
             simp only[cond_true];rw[if_neg (fun e=>by(have:j=k:=by omega);subst this;rw[hj]at hb;cases hb)]
end Go.Gl
