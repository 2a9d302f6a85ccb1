import Derived.Test.YtcfkfhaedllcpaaGreatV14
import Derived.Test.YtcfkfhaedllcpaaGreatV16
import Derived.Test.YtcfkfhaedllcpaaGreatV17
set_option linter.all false
set_option linter.defProp false
set_option maxHeartbeats 8000000
noncomputable section
namespace Go.Gl
open Go.Proofs
attribute [local irreducible] A6 Ar Ah AR AI Ae AQ AT AK Ad AN AO Ay A7 Sat AY A5 Ai W
def Pd {xs:List Int} {f:Bool} (h:Eu (.l (iL xs) f)):xs.length<=AX:=Lo h
def jS:Pure zP 198 [.b true] (.t []):=by
 refine gp kZ ?_;have hs:=Sn;exact zW
abbrev Dp:V:= .E9 318 (.a [])
def qb (xs:List Int) (x:Int):Int:=(Bm (fun y (_:Unit)=>(x==y,())) xs 0 ()).1
def MV {α:Type} (f:α->Bool): ∀(xs:List α) (k:Nat),(decide ((Bm (fun y (_:Unit)=>(f y,())) xs k ()).1≥0))=xs.any f
 | [],_=>rfl
 | y::r,k=>by
   simp only[Bm,Q7];cases f y
   .simpa using MV f r (k+1)
   .simp
def Ul (xs:List Int) (x:Int):xs.any (x== ·)=xs.contains x:=by
 induction xs with
 | nil=>rfl
 | cons y r ih=>rw[Q7,List.contains_cons,ih]
def nR (xs:List Int) (x:Int):decide (qb xs x≥0)=xs.contains x:=by
 rw[<-Ul];exact MV (x== ·) xs 0
def jj (xs:List Int) (f:Bool) (x:Int):Pure zP 237 [.l (iL xs) f,eI x] (eI (qb xs x)):=by
 refine Pure.fit (by kernel_rfl) fun hf=>?_
 have hxl:=Pd hf.1;have hM:=Mx;refine uz kZ ?_;have hs:=Sn;refine zv ?_;(repeat clear U K);repeat intro K U
 refine By xs.length (fun k (_:Unit)=>[(8,eI (A9 k))]) (fun _ _=>[]) (fun k _=>qb xs x=(Bm (fun y (_:Unit)=>(x==y,())) (xs.drop k) k ()).1) () rfl rfl hs ?_;clear hs;rintro k - Z hk hn hs;have hck:A9 k=k:=AM (by omega);rcases A3 xs hk with⟨y,hy,hlt⟩|hke
 .rw[drop_cons hy,Bm]at hn
  conv=>whnf
  repeat'((first|clear U K|apply st|(apply zk;intro K U)|refine zX ?_|refine za (fun hc=>?_) fun hc=>?_|fail)<;>conv=>whnf)
  .exact AF (by rw[hn,hc,hck];simp)
  .exact⟨hlt,(),rfl,by rw[hn];simp[hc],hs⟩
 .rw[Al hke,Bm]at hn
  refine zv ?_;(repeat clear U K);repeat intro K U
  exact AF (by rw[hn])
def Dt (xs:List Int) (f:Bool) (x:Int):Pure zP 206 [.l (iL xs) f,eI x] (.b (xs.contains x)):=by
 refine vI kZ ?_;have hs:=Sn
 conv=>whnf
 repeat'((first|clear U K|apply st|(apply zk;intro K U)|refine zX ?_|refine Pure.use (jj _ _ _) ?_|fail)<;>conv=>whnf)
 all_goals exact AF (by rw[<-nR])
def Q1 (n:Int):Pure zP 263 [eI n] (.b (Tb n)):=by
 refine uh kZ ?_;have hs:=Sn
 conv=>whnf
 repeat'((first|clear U K|apply st|(apply zk;intro K U)|refine zX ?_|refine za (fun hc=>?_) fun hc=>?_|fail)<;>conv=>whnf)
 all_goals exact AF (by simp[Tb, *]<;>omega)
def Pv (f:Fact):B8 f=(decide (2<=f.op)&&decide (f.op<=4)):=by
 rw[KO];simp only[B8,F1,BD,EZ,CD];omega
def UH (f:Fact):Pure zP 304 [.a (xF f)] (.b (B8 f)):=by
 refine uO kZ ?_;have hs:=Sn
 conv=>whnf
 repeat'((first|clear U K|apply st|(apply zk;intro K U)|refine zX ?_|refine za (fun hc=>?_) fun hc=>?_|fail)<;>conv=>whnf)
 all_goals exact AF (by rw[Pv];simp[*]<;>omega)
def ZY (s c:Nat) (hs0:s<18446744073709551616) (hc:c<64):Pure zP 329 [eU s,eI c] (eU (s|||2 ^ c)):=by
 refine tx kZ ?_;have hs:=Sn
 conv=>whnf
 repeat'((first|clear U K|apply st|(apply zk;intro K U)|fail)<;>conv=>whnf)
 refine⟨Int.natCast_nonneg _,?_⟩;refine zv ?_;(repeat clear U K);repeat intro K U
 exact AF (by rw[JC,Ze hc,L9 hs0 (Kt hc)])
def To (s c:Nat) (hs0:s<18446744073709551616) (hc:c<64):Pure zP 306 [eU s,eI c] (.b (s.testBit c)):=by
 refine uN kZ ?_;have hs:=Sn
 conv=>whnf
 repeat'((first|clear U K|apply st|(apply zk;intro K U)|fail)<;>conv=>whnf)
 refine⟨Int.natCast_nonneg _,?_⟩;refine zv ?_;(repeat clear U K);repeat intro K U
 refine AF ?_;rw[JC,Zd hc];have h1:s >>> c<18446744073709551616:=by rw[Nat.shiftRight_eq_div_pow];exact Nat.lt_of_le_of_lt (Nat.div_le_self _ _) hs0
 have h2:bits .and .u64 ((s >>> c:Nat):Int) 1=((s >>> c&&&1:Nat):Int):=MW h1 (show 1<_ by decide);rw[h2];simp only[Nat.testBit,Nat.and_comm 1];congr 1;rcases Nat.mod_two_eq_zero_or_one (s >>> c)with h|h<;>simp[Nat.and_one_is_mod,h]
def nN (op:Int):Pure zP 365 [eI op] (eI (CR op)):=by
 refine td kZ ?_;have hs:=Sn
 conv=>whnf
 repeat'((first|clear U K|apply st|(apply zk;intro K U)|refine zX ?_|refine za (fun hc=>?_) fun hc=>?_|fail)<;>conv=>whnf)
 all_goals exact AF (by simp[CR, *])
def YK (b:Bool):Pure zP 267 [.b b] (eI (if b then 0 else 2)):=by
 refine ue kZ ?_;have hs:=Sn
 conv=>whnf
 repeat'((first|clear U K|apply st|(apply zk;intro K U)|refine za (fun hc=>?_) fun hc=>?_|fail)<;>conv=>whnf)
 all_goals exact AF (by simp[*])
def Ih {S:Type} (g:FuncId) (fi ca:List V) (H:S->List At) (stp:Int->S->Bool×S) (D:Int->S->Prop) (hx:C3 zP (.f (.func g) fi ca) eI H stp D) (xs:List Int) (f:Bool) (s0:S) (hd:XW stp D xs s0) :
    Be zP 207 [.l (iL xs) f,.f (.func g) fi ca] (H s0) fun r post=>r= .ret (eI (Bm stp xs 0 s0).1)/\post=H (Bm stp xs 0 s0).2:=by
 intro Z hs;refine A6.fit (by kernel_rfl) fun hf=>?_
 have hxl:=Pd hf.1;have hM:=Mx;refine gm kZ ?_;refine zv ?_;(repeat clear U K);repeat intro K U
 refine By xs.length (fun k (_:S)=>[(8,eI (A9 k))]) (fun _ s=>H s) (fun k s=>XW stp D (xs.drop k) s/\Bm stp xs 0 s0=Bm stp (xs.drop k) k s) s0 rfl ⟨hd,rfl⟩ hs ?_;clear hs;rintro k s Z hk ⟨hd,hn⟩ hs;have hck:A9 k=k:=AM (by omega);rcases A3 xs hk with⟨y,hy,hlt⟩|hke
 .rw[drop_cons hy]at hn hd
  obtain⟨hd1,hd2⟩:=hd;rw[Bm]at hn;refine zv ?_;(repeat clear U K);repeat intro K U
  refine hx.use hd1 hs ?_;clear hs;intro Z hs
  conv=>whnf
  repeat'((first|clear U K|apply st|(apply zk;intro K U)|refine zX ?_|refine za (fun hc=>?_) fun hc=>?_|fail)<;>conv=>whnf)
  .rw[hc,if_pos rfl]at hn
   rw[hn];exact Am hs (List.Sublist.refl _) (by rw[hck];exact .refl _) fun Z' hs'=>⟨_,⟨rfl,rfl⟩,hs'⟩
  .rw[hc,if_neg (by decide)]at hn
   exact⟨hlt,_,rfl,⟨hd2,hn⟩,hs⟩
 .rw[Al hke,Bm]at hn
  refine zv ?_;(repeat clear U K);repeat intro K U
  rw[hn];exact Am hs (List.Sublist.refl _) (.refl _) fun Z' hs'=>⟨_,⟨rfl,rfl⟩,hs'⟩
section
variable {S:Type} (g:FuncId) (fi ca:List V) (H:S->List At)
def Gi (stp:Int->S->Bool×S) (D:Int->S->Prop) (hx:C3 zP (.f (.func g) fi ca) eI H stp D) (xs:List Int) (f:Bool) (s0:S) (hd:XW stp D xs s0) :
    Be zP 139 [.l (iL xs) f,.f (.func g) fi ca] (H s0) fun r post=>r= .ret (.b (decide ((Bm stp xs 0 s0).1≥0)))/\post=H (Bm stp xs 0 s0).2:=by
 intro Z hs;refine gv kZ ?_
 conv=>whnf
 repeat'((first|clear U K|apply st|(apply zk;intro K U)|fail)<;>conv=>whnf)
 refine(Ih g fi ca H stp D hx xs f s0 hd).use (rest:=[]) (by simpa using hs) ?_;rintro r post Z ⟨rfl,rfl⟩ hs;refine zv ?_;(repeat clear U K);repeat intro K U
 exact Am hs (by simp) (.refl _) fun Z' hs'=>⟨_,⟨rfl,rfl⟩,hs'⟩
def r8 (stp:Int->S->Bool×S) (D:Int->S->Prop) (hx:C3 zP (.f (.func g) fi ca) eI H stp D):C3 zP (.f (.func 362) [] [.rp [.f (.func g) fi ca]]) eI H (fun y s=>(!(stp y s).1,(stp y s).2)) D:=by
 intro y s hd Z hs;refine Bh ?_;show A6 zP 362 ([]++[eI y]++[.rp [.f (.func g) fi ca]]) Z _;refine gh kZ ?_;refine zv ?_;(repeat clear U K);repeat intro K U
 refine hx.use hd hs ?_;clear hs;intro Z hs;refine zv ?_;(repeat clear U K);repeat intro K U
 exact Am hs (List.Sublist.refl _) (.refl _) fun Z' hs'=>⟨rfl,hs'⟩
def iD (stp:Int->S->Bool×S) (D:Int->S->Prop) (hx:C3 zP (.f (.func g) fi ca) eI H stp D) (xs:List Int) (f:Bool) (s0:S) (hd:XW stp D xs s0) :
    Be zP 330 [.l (iL xs) f,.f (.func g) fi ca] (H s0) fun r post=>r= .ret (.b (Ch stp xs s0).1)/\post=H (Ch stp xs s0).2:=by
 intro Z hs;obtain⟨e1,e2⟩:=Nr (stp:=stp) xs 0 s0;refine gi kZ ?_
 conv=>whnf
 repeat'((first|clear U K|apply st|(apply zk;intro K U)|fail)<;>conv=>whnf)
 refine(Gi 362 [] [.rp [.f (.func g) fi ca]] H _ D (r8 g fi ca H stp D hx) xs f s0 (UB xs s0 hd)).use (rest:=[]) (by simpa using hs) ?_;rintro r post Z ⟨rfl,rfl⟩ hs;rw[e2];rw[e1]at hs;refine zv ?_;(repeat clear U K);repeat intro K U
 exact Am hs (by simp) (by rw[Bool.not_not];exact .refl _) fun Z' hs'=>⟨_,⟨rfl,rfl⟩,hs'⟩
def Uf (stp:Fact->S->Bool×S) (D:Fact->S->Prop) (hx:C3 zP (.f (.func g) fi ca) (fun y=> .a (xF y)) H stp D) (xs:List Fact) (f:Bool) (s0:S) (hxl:xs.length<=AX) (hd:XW stp D xs s0) :
    Be zP 384 [.l (facts xs) f,.f (.func g) fi ca] (H s0) fun r post=>r= .ret (eI (Bm stp xs 0 s0).1)/\post=H (Bm stp xs 0 s0).2:=by
 intro Z hs;have hM:=Mx;refine tT kZ ?_;refine zv ?_;(repeat clear U K);repeat intro K U
 refine By xs.length (fun k (_:S)=>[(8,eI (A9 k))]) (fun _ s=>H s) (fun k s=>XW stp D (xs.drop k) s/\Bm stp xs 0 s0=Bm stp (xs.drop k) k s) s0 rfl ⟨hd,rfl⟩ hs ?_;clear hs;rintro k s Z hk ⟨hd,hn⟩ hs;have hck:A9 k=k:=AM (by omega);rcases A3 xs hk with⟨y,hy,hlt⟩|hke
 .rw[drop_cons hy]at hn hd
  obtain⟨hd1,hd2⟩:=hd;rw[Bm]at hn;refine zv ?_;(repeat clear U K);repeat intro K U
  refine hx.use hd1 hs ?_;clear hs;intro Z hs
  conv=>whnf
  repeat'((first|clear U K|apply st|(apply zk;intro K U)|refine zX ?_|refine za (fun hc=>?_) fun hc=>?_|fail)<;>conv=>whnf)
  .rw[hc,if_pos rfl]at hn
   rw[hn];exact Am hs (List.Sublist.refl _) (by rw[hck];exact .refl _) fun Z' hs'=>⟨_,⟨rfl,rfl⟩,hs'⟩
  .rw[hc,if_neg (by decide)]at hn
   exact⟨hlt,_,rfl,⟨hd2,hn⟩,hs⟩
 .rw[Al hke,Bm]at hn
  refine zv ?_;(repeat clear U K);repeat intro K U
  rw[hn];exact Am hs (List.Sublist.refl _) (.refl _) fun Z' hs'=>⟨_,⟨rfl,rfl⟩,hs'⟩
def Oj (stp:Fact->S->Bool×S) (D:Fact->S->Prop) (hx:C3 zP (.f (.func g) fi ca) (fun y=> .a (xF y)) H stp D) (xs:List Fact) (f:Bool) (s0:S) (hxl:xs.length<=AX) (hd:XW stp D xs s0) :
    Be zP 363 [.l (facts xs) f,.f (.func g) fi ca] (H s0) fun r post=>r= .ret (.b (decide ((Bm stp xs 0 s0).1≥0)))/\post=H (Bm stp xs 0 s0).2:=by
 intro Z hs;refine tf kZ ?_
 conv=>whnf
 repeat'((first|clear U K|apply st|(apply zk;intro K U)|fail)<;>conv=>whnf)
 refine(Uf g fi ca H stp D hx xs f s0 hxl hd).use (rest:=[]) (by simpa using hs) ?_;rintro r post Z ⟨rfl,rfl⟩ hs;refine zv ?_;(repeat clear U K);repeat intro K U
 exact Am hs (by simp) (.refl _) fun Z' hs'=>⟨_,⟨rfl,rfl⟩,hs'⟩
def r5 (stp:Fact->S->Bool×S) (D:Fact->S->Prop) (hx:C3 zP (.f (.func g) fi ca) (fun y=> .a (xF y)) H stp D):C3 zP (.f (.func 364) [] [.rp [.f (.func g) fi ca]]) (fun y=> .a (xF y)) H (fun y s=>(!(stp y s).1,(stp y s).2)) D:=by
 intro y s hd Z hs;refine Bh ?_;show A6 zP 364 ([]++[.a (xF y)]++[.rp [.f (.func g) fi ca]]) Z _;refine te kZ ?_;refine zv ?_;(repeat clear U K);repeat intro K U
 refine hx.use hd hs ?_;clear hs;intro Z hs;refine zv ?_;(repeat clear U K);repeat intro K U
 exact Am hs (List.Sublist.refl _) (.refl _) fun Z' hs'=>⟨rfl,hs'⟩
def iC (stp:Fact->S->Bool×S) (D:Fact->S->Prop) (hx:C3 zP (.f (.func g) fi ca) (fun y=> .a (xF y)) H stp D) (xs:List Fact) (f:Bool) (s0:S) (hxl:xs.length<=AX) (hd:XW stp D xs s0) :
    Be zP 332 [.l (facts xs) f,.f (.func g) fi ca] (H s0) fun r post=>r= .ret (.b (Ch stp xs s0).1)/\post=H (Ch stp xs s0).2:=by
 intro Z hs;obtain⟨e1,e2⟩:=Nr (stp:=stp) xs 0 s0;refine tv kZ ?_
 conv=>whnf
 repeat'((first|clear U K|apply st|(apply zk;intro K U)|fail)<;>conv=>whnf)
 refine(Oj 364 [] [.rp [.f (.func g) fi ca]] H _ D (r5 g fi ca H stp D hx) xs f s0 hxl (UB xs s0 hd)).use (rest:=[]) (by simpa using hs) ?_;rintro r post Z ⟨rfl,rfl⟩ hs;rw[e2];rw[e1]at hs;refine zv ?_;(repeat clear U K);repeat intro K U
 exact Am hs (by simp) (by rw[Bool.not_not];exact .refl _) fun Z' hs'=>⟨_,⟨rfl,rfl⟩,hs'⟩
end
abbrev VL (f:Int->Bool):Int->Unit->Bool×Unit:=fun y _=>(f y,())
def QP {g:FuncId} {fi ca:List V} {f:Int->Bool} {D:Int->Unit->Prop} (h: ∀y,D y ()->Pure zP g (fi++[eI y]++ca) (.b (f y))):C3 zP (.f (.func g) fi ca) eI (fun _=>[]) (VL f) D:=by
 intro y s hd Z hs;refine Bh ?_;show A6 zP g (fi++[eI y]++ca) Z _;refine A6.mono ((h y hd).use (k:=fun v Z'=>v= .b (f y)/\Sat Z' []) (kp:=fun _ _=>False) ⟨rfl,Sat.nil⟩) ?_;rintro(v|v) Z' hq
 .obtain⟨rfl,h⟩:=hq
  exact⟨rfl,h⟩
 .exact hq.elim
def og {g:FuncId} {fi ca:List V} {f:Int->Bool} {xs:List Int} (b:Bool) (h: ∀y∈xs,Pure zP g (fi++[eI y]++ca) (.b (f y))):Pure zP 330 [.l (iL xs) b,.f (.func g) fi ca] (.b (xs.all f)):=by
 have:=iD g fi ca (fun _=>[]) (VL f) (fun y _=>y∈xs) (QP fun y hy=>h y hy) xs b () (HD fun y hy _=>hy);rw[KB]at this;exact Pure.of (A6.mono (this emp Sat.nil) fun r Z' ⟨post,⟨h1,h2⟩,h3⟩=>h1)
def Vf (g:FuncId) (fi ca:List V) (f:Int->Bool):Prop:= ∀y:Int,Pure zP g (fi++[eI y]++ca) (.b (f y))
def Vf.use {g:FuncId} {fi ca:List V} {f:Int->Bool} (h:Vf g fi ca f) {y:Int} {Z:AE} {k kp:V->AE->Prop} (hk:k (.b (f y)) Z):Ay zP (.f (.func g) fi ca) [eI y] Z (qk k kp):=Bh ((h y).use hk)
def nQ (g:FuncId) (fi ca:List V) (L:List At) (p:Int->Bool) (hx:C3 zP (.f (.func g) fi ca) eI (fun _:Unit=>L) (VL p) (fun _ _=>True)) (xs:List Int) (f:Bool):Be zP 382 [.l (iL xs) f,.f (.func g) fi ca] L fun r post=>r= .ret (.l (iL (xs.filter p)) false)/\post=L:=by
 intro Z hs;refine A6.fit (by kernel_rfl) fun hf=>?_
 have hxl:=Pd hf.1;have hM:=Mx;refine gg kZ ?_;refine zv ?_;(repeat clear U K);repeat intro K U
 refine By xs.length (fun k v=>[(5,v),(10,eI (A9 k))]) (fun k v=>L++[.own v 1 (iL ((xs.take k).filter p))]) (fun _ _=>True) (.l [] true) rfl trivial (FA hs 1) ?_;clear hs;rintro k v Z hk - hs;have hfl:=Q8 p (xs.take k);rw[LY]at hfl;rcases A3 xs hk with⟨y,hy,hlt⟩|hke
 .have hst:(xs.take (k+1)).filter p=if p y then(xs.take k).filter p++[y]else(xs.take k).filter p:=by
   rw[AL hy,List.filter_append];cases hp:p y<;>simp[hp]
  generalize (xs.take k).filter p=zs at *
  conv=>whnf
  repeat'((first|clear U K|apply st|(apply zk;intro K U)|refine zX ?_|refine hx.useF (s:=()) (rest:=[_]) trivial hs (fun Z hs=>?_)|(refine zd (fun hc=>?_) (fun hc=>?_)<;>try exact⟨⟩)|fail)<;>conv=>whnf)
  .refine Gc (F0 hs L.length (xs:=zs) (x:=y) List.getElem?_concat_length (by omega) Bc fun v' Z' hs' hsl=>?_)
   rw[List.set_append_right _ _ (I3 _),Nat.sub_self]at hs';replace hs:=hs';refine zv ?_;(repeat clear U K);repeat intro K U
   rw[if_pos (by assumption)]at hst;exact⟨hlt,_,rfl,trivial,by rw[hst];exact hs⟩
  .rw[if_neg (by simp[*])]at hst
   exact⟨hlt,_,rfl,trivial,by rw[hst];exact hs⟩
 .refine zv ?_;(repeat clear U K);repeat intro K U
  rw[Ap hke]at hs;obtain⟨Z2,h1,h2,h3⟩:=JR hs L.length List.getElem?_concat_length;refine G0 h1 h2 ⟨_,⟨rfl,rfl⟩,?_⟩;rw[List.eraseIdx_append_of_length_le (I3 _),Nat.sub_self]at h3;simpa using h3
def jf (g:FuncId) (fi ca:List V) (p:Int->Bool) (hpf:Vf g fi ca p) (xs:List Int) (u:V) (hxl:xs.length<=AX):Be zP 382 [u,.f (.func g) fi ca] [.own u 1 (iL xs)] fun r post=>r= .ret (.l (iL (xs.filter p)) false)/\post= [.own u 1 (iL xs)]:=by
 intro Z hs;have hM:=Mx;refine gg kZ ?_;refine zv ?_;(repeat clear U K);repeat intro K U
 refine By xs.length (fun k v=>[(5,v),(10,eI (A9 k))]) (fun k v=>[.own u 1 (iL xs),.own v 1 (iL ((xs.take k).filter p))]) (fun _ _=>True) (.l [] true) rfl trivial (FA hs 1) ?_;clear hs;rintro k v Z hk - hs;have hfl:=Q8 p (xs.take k);rw[LY]at hfl;rcases A3 xs hk with⟨y,hy,hlt⟩|hke
 .have hst:(xs.take (k+1)).filter p=if p y then(xs.take k).filter p++[y]else(xs.take k).filter p:=by
   rw[AL hy,List.filter_append];cases hp:p y<;>simp[hp]
  generalize (xs.take k).filter p=zs at *
  conv=>whnf
  repeat'((first|clear U K|apply st|(apply zk;intro K U)|refine zX ?_|refine aq fun v Z hs hsl=>?_|refine Vf.use hpf ?_|refine za (fun hc=>?_) fun hc=>?_|fail)<;>conv=>whnf)
  .rw[if_pos (by assumption)]at hst
   exact⟨hlt,_,rfl,trivial,by rw[hst];exact hs.take 2⟩
  .rw[if_neg (by simp[*])]at hst
   exact⟨hlt,_,rfl,trivial,by rw[hst];exact hs.take 2⟩
 .refine zv ?_;(repeat clear U K);repeat intro K U
  rw[Ap hke]at hs;obtain⟨Z2,h1,h2,h3⟩:=JR hs 1 rfl;exact G0 h1 h2 ⟨_,⟨rfl,rfl⟩,h3⟩
def yI:Vf 390 [] [] (· != 0):=by
 intro y;refine tP kZ ?_;have hs:=Sn;exact zW
def kY (xs:List Int) (u:V) (hxl:xs.length<=AX):Be zP 381 [u] [.own u 1 (iL xs)] fun r post=>r= .ret (.l (iL (xs.filter (· != 0))) false)/\post= [.own u 1 (iL xs)]:=by
 intro Z hs;refine tV kZ ?_
 conv=>whnf
 repeat'((first|clear U K|apply st|(apply zk;intro K U)|fail)<;>conv=>whnf)
 refine(jf 390 [] [] (· != 0) yI xs u hxl).use (rest:=[]) hs ?_;clear hs;rintro r post Z ⟨rfl,rfl⟩ hs;refine zv ?_;(repeat clear U K);repeat intro K U
 exact Am hs (by simp) (.refl _) fun Z' hs'=>⟨_,⟨rfl,rfl⟩,hs'⟩
def aN (g : List (List Int)) (f:Bool):Pure zP 296 [.l (Ek g) f] (.b (Dh g)):=by
 refine Pure.fit (by kernel_rfl) fun hf=>?_
 have⟨g1,g2⟩:=Ts hf.1;have hM:=Mx;refine uS kZ ?_;have hs:=Sn;by_cases h16:g.length<=16
 .conv=>whnf
  repeat'((first|clear U K|apply st|(apply zk;intro K U)|refine zX ?_|(refine zb (fun hc=>?_) (fun hc=>?_)<;>try exact⟨⟩)|fail)<;>conv=>whnf)
  all_goals try(exfalso;omega)
  refine By g.length (fun k (_:Unit)=>[(12,eI (A9 k))]) (fun _ _=>[]) (fun k _=>Dh g=Io k (g.drop k)) () rfl (by simp[Dh,h16]) hs ?_;clear hs;rintro k - Z hk hn hs;have hck:A9 k=k:=AM (by omega);rcases A3 g hk with⟨l,hl,hlt⟩|hke
  .have hll:=g2 l (Bz hl)
   rw[drop_cons hl,Io]at hn;by_cases h3:l.length<=3
   .rw[decide_eq_true h3,GJ]at hn
    conv=>whnf
    repeat'((first|clear U K|apply st|(apply zk;intro K U)|refine zX ?_|(refine zb (fun hc=>?_) (fun hc=>?_)<;>try exact⟨⟩)|fail)<;>conv=>whnf)
    all_goals try(exfalso;omega)
    refine By l.length (fun j (_:Unit)=>[(22,eI (A9 j))]) (fun _ _=>[]) (fun j _=>Dh g=(M5 k (l.take j) (l.drop j)&&Io (k+1) (g.drop (k+1)))) () rfl hn hs ?_;clear hs hn;rintro j - Z hj hn hs;rcases A3 l hj with⟨c,hc0,hjlt⟩|hje
    .rw[drop_cons hc0,M5,qI]at hn
     have hw:IntKind.i64.wrap (3+A9 k)=3+(k:Int):=by rw[hck,wrap64 (by omega) (by omega)]
     conv=>whnf
     repeat'((first|clear U K|apply st|(apply zk;intro K U)|refine zX ?_|refine Pure.use (Dt _ _ _) ?_|(refine zd (fun hc=>?_) (fun hc=>?_)<;>try exact⟨⟩)|fail)<;>conv=>whnf)
     .exact AF (by rw[hn,hc];simp)
     .exact⟨hjlt,(),rfl,by rw[hn,hc,AL hc0];simp[*],hs⟩
     .exact AF (by(rw[hn];have: ¬c<3+(k:Int):=by omega);simp[this])
     .exact AF (by(rw[hn];have: ¬3<=c:=by omega);simp[this])
    .refine zv ?_;(repeat clear U K);repeat intro K U
     exact⟨hlt,(),rfl,by rw[hn,Al hje];rfl,hs⟩
   .conv=>whnf
    repeat'((first|clear U K|apply st|(apply zk;intro K U)|refine zX ?_|(refine zb (fun hc=>?_) (fun hc=>?_)<;>try exact⟨⟩)|fail)<;>conv=>whnf)
    all_goals try(exfalso;omega)
    exact AF (by rw[hn];simp[h3])
  .refine zv ?_;(repeat clear U K);repeat intro K U
   exact AF (by rw[hn,Al hke];rfl)
 .conv=>whnf
  repeat'((first|clear U K|apply st|(apply zk;intro K U)|refine zX ?_|(refine zb (fun hc=>?_) (fun hc=>?_)<;>try exact⟨⟩)|fail)<;>conv=>whnf)
  all_goals try(exfalso;omega)
  exact AF (by simp[Dh,h16])
def WZ (g:List (List Int)) (f:Bool):Pure zP 260 [.l (Ek g) f] (eI (if Dh g then 0 else 2)):=by
 refine uk kZ ?_;have hs:=Sn
 conv=>whnf
 repeat'((first|clear U K|apply st|(apply zk;intro K U)|refine Pure.use (aN _ _) ?_|refine za (fun hc=>?_) fun hc=>?_|fail)<;>conv=>whnf)
 all_goals exact AF (by simp[*])
def yJ (n:Nat) (h:Int):C3 zP (.f (.func 383) [] [.p n 0]) eI (fun _:Unit=>[.box n [eI h]]) (VL (· != h)) (fun _ _=>True):=by
 intro y s _ Z hs;refine Bh ?_;show A6 zP 383 ([]++[eI y]++[.p n 0]) Z _;refine tU kZ ?_;refine zv ?_;(repeat clear U K);repeat intro K U
 exact Am hs (List.Sublist.refl _) (.refl _) fun Z' hs'=>⟨rfl,hs'⟩
def dK (ls:List (List Int)):FH ls []=false:=rfl
def Ye (ls:List (List Int)) (x:Int) (r:List Int):FH ls (x::r)=free ls x:=rfl
def dU {α:Type} {p:α->Bool} {xs:List α} {k:Nat} {x:α} (hx:xs[k]? =some x) (h:(xs.take k).find? p=none):(xs.take (k+1)).find? p=if p x then some x else none:=by
 rw[AL hx,List.find?_append,h];simp only[List.find?_cons,List.find?_nil,Option.none_or];cases p x<;>rfl
def dT {α:Type} {p:α->Bool} {xs:List α} {k:Nat} {x:α} (h:(xs.take k).find? p=some x):xs.find? p=some x:=by
 conv=>lhs;rw[<-List.take_append_drop k xs]
 rw[List.find?_append,h];rfl
def Zq (ls:List (List Int)):pick ls=(ls.find? (FH ls)).bind List.head? :=rfl
def jW (ls:List (List Int)) (f:Bool) (hok:Mz ls) (ht:total ls<AX):Pure zP 361 [.l (Ek ls) f] (.t [.l (iL (CH ls).1) false,.b (CH ls).2]):=by
 have hM:=Mx;refine tg kZ ?_;have hs:=Sn;refine zv ?_;(repeat clear U K);repeat intro K U
 refine DF (fun(x:List (List Int)×Bool×V×List Int)=>total x.1) (fun x=>[(0,.l (Ek x.1) x.2.1),(4,x.2.2.1)]) (fun x=>[.own x.2.2.1 1 (iL x.2.2.2)])
  (fun x=>Mz x.1/\x.2.2.2.length+total x.1<=total ls/\DG (total x.1) x.1 x.2.2.2=CH ls) (ls,f,.l [] true,[]) rfl ⟨hok,by simp,rfl⟩ (FA hs 1) ?_
 clear hs;rintro⟨ls',f',v,out⟩ Z ⟨hok',hlen,hm⟩ hs;dsimp only at hok' hlen hm hs;dsimp only;have hol:=hok'.1;refine zv ?_;(repeat clear U K);repeat intro K U
 refine By ls'.length (fun k (t:Bool)=>[(5,.b t),(16,eI (A9 k))]) (fun _ _=>[.own v 1 (iL out)]) (fun k t=>(ls'.take k).find? (FH ls')=none/\t=(ls'.take k).any fun l=> !l.isEmpty) false rfl ⟨rfl,rfl⟩ hs ?_;clear hs;rintro k t Z hk ⟨hfd,hta⟩ hs;rcases A3 ls' hk with⟨l,hl,hlt⟩|hke
 .have hfs:=dU (p:=FH ls') hl hfd
  have has:((ls'.take (k+1)).any fun l=> !l.isEmpty)=(t|| !l.isEmpty):=by rw[AL hl,List.any_append,<-hta];simp
  have hb:=hok'.2 _ (Bz hl);cases l with
  | nil=>
    have hnl:([]:List Int).length=0:=rfl;rw[dK,if_neg (by decide)]at hfs
    conv=>whnf
    repeat'((first|clear U K|apply st|(apply zk;intro K U)|refine zX ?_|(refine zb (fun hc=>?_) (fun hc=>?_)<;>try exact⟨⟩)|fail)<;>conv=>whnf)
    exact⟨hlt,_,rfl,⟨hfs,by rw[has];simp⟩,hs⟩
  | cons x r=>
    have hx0:(x::r)[Int.toNat 0]? =some x:=rfl;have hnl:(x::r).length=r.length+1:=rfl;rw[Ye]at hfs;simp only[List.isEmpty_cons,Bool.not_false,Bool.or_true]at has
    conv=>whnf
    repeat'((first|clear U K|apply st|(apply zk;intro K U)|refine zX ?_|(refine zb (fun hc=>?_) (fun hc=>?_)<;>try exact⟨⟩)|fail)<;>conv=>whnf)
    refine By ls'.length (fun j (_:Unit)=>[(25,eI (A9 j))]) (fun _ _=>[.own v 1 (iL out)]) (fun j _=>free ls' x=(ls'.drop j).all fun m=> !(m.drop 1).contains x) () rfl rfl hs ?_;clear hs;rintro j - Z hj hfr hs;rcases A3 ls' hj with⟨m,hm0,hjlt⟩|hje
    .have hmb:=(hok'.2 _ (Bz hm0)).1
     rw[drop_cons hm0,KK]at hfr;cases m with
     | nil=>
       have hml:([]:List Int).length=0:=rfl
       conv=>whnf
       repeat'((first|clear U K|apply st|(apply zk;intro K U)|refine zX ?_|(refine zb (fun hc=>?_) (fun hc=>?_)<;>try exact⟨⟩)|fail)<;>conv=>whnf)
       exact⟨hjlt,(),rfl,by rw[hfr];rfl,hs⟩
     | cons y s=>
       have hml:(y::s).length=s.length+1:=rfl
       conv=>whnf
       repeat'((first|clear U K|apply st|(apply zk;intro K U)|refine zX ?_|(refine zb (fun hc=>?_) (fun hc=>?_)<;>try exact⟨⟩)|fail)<;>conv=>whnf)
       refine Vu 1 rfl (by omega) (fun _=>rfl) ?_
       conv=>whnf
       repeat'((first|clear U K|apply st|(apply zk;intro K U)|refine zX ?_|refine Pure.use (Dt _ _ _) ?_|refine za (fun hc=>?_) fun hc=>?_|fail)<;>conv=>whnf)
       .rw[hc]at hfr
        have hfr2:free ls' x=false:=by rw[hfr];rfl
        rw[hfr2,if_neg (by decide)]at hfs;exact⟨hlt,true,rfl,⟨hfs,by rw[has]⟩,hs⟩
       .exact⟨hjlt,(),rfl,by rw[hfr,hc];rfl,hs⟩
    .rw[Al hje]at hfr
     have hgood:free ls' x=true:=hfr;rw[hgood,if_pos rfl]at hfs;have hp:pick ls'=some x:=by rw[Zq,dT hfs];rfl
     have htp:=IP hp
     conv=>whnf
     repeat'((first|clear U K|apply st|(apply zk;intro K U)|refine zX ?_|refine zr fun Z hs=>?_|refine aq fun v Z hs hsl=>?_|refine zp fun nn hnn Z hs=>?_|fail)<;>conv=>whnf)
     have hs2:Sat Z [.own v 1 (iL (out++[x])),.box nn [eI x]]:=hs;refine By ls'.length (fun k u=>[(11,u),(50,eI (A9 k))]) (fun k u=>[.own v 1 (iL (out++[x])),.box nn [eI x],.own u 1 (Ek ((ls'.take k).map fun l=>l.filter (· != x)))]) (fun _ _=>True) (.l [] true) rfl trivial (FA hs2 1) ?_;clear hs hs2;rintro q u Z hq - hs;rcases A3 ls' hq with⟨w,hw,hqlt⟩|hqe
     .refine zv ?_;(repeat clear U K);repeat intro K U
      refine(nQ 383 [] [.p nn 0] [.box nn [eI x]] (· != x) (yJ nn x) w false).use (rest:=[_,_]) (hs.perm (.swap _ _ _)) ?_;clear hs;rintro rr post Z ⟨rfl,rfl⟩ hs
      conv=>whnf
      repeat'((first|clear U K|apply st|(apply zk;intro K U)|refine zX ?_|refine aq fun v Z hs hsl=>?_|fail)<;>conv=>whnf)
      refine⟨hqlt,_,rfl,trivial,?_⟩;rw[AL hw,Uw];exact hs.perm (.swap _ _ _)
     .refine zv ?_;(repeat clear U K);repeat intro K U
      rw[Ap hqe]at hs;refine qd hs 2 rfl fun Z' hs'=>?_
      refine zv ?_;(repeat clear U K);repeat intro K U
      refine⟨(ls'.map fun l=>l.filter (· != x),false,v,out++[x]),htp,rfl,⟨hok'.filter x,by simp;omega,?_⟩,hs'.take 1⟩;rw[<-OM hp];exact hm
 .rw[Ap hke]at hfd hta
  have hp:pick ls'=none:=by rw[Zq,hfd];rfl
  rw[Qe hp]at hm;refine zv ?_;(repeat clear U K);repeat intro K U
  refine Ab ?_;rw[<-hm];refine .t (.cons (hs.HP 0 rfl) (.cons ?_ .nil));have:(!t)=ls'.all List.isEmpty:=by rw[hta];simp[List.all_eq_not_any_not]
  rw[<-this];exact .refl _
abbrev Ord:=Int×V×List Int
def lL (e:Ord):V×V:=(eI e.1,e.2.1)
def eR (e:Ord):At:= .own e.2.1 1 (iL e.2.2)
abbrev pL (ps:List (List Int×Bool)):List (List V):=ps.map fun p=>[.l (iL p.1) p.2]
abbrev gH (n mm:Nat) (vp vu:V) (ps:List (List Int×Bool)) (us:List Nat) (M:List Ord):List At:=
 .box n [vp,vu,.m mm]:: .own vp 1 (pL ps):: .own vu 1 (us.map fun u=>[eU u]):: .map mm (M.map lL)::M.map eR
def B4 (M:List Ord) (c:Int):List Int:=((M.find? fun e=>c==e.1).map fun e=>e.2.2).getD []
def JF (M:List Ord) (c:Int):V:=((M.find? fun e=>c==e.1).map fun e=>e.2.1).getD (.l [] true)
def jd (M:List Ord) (c:Int):found (.l [] true) false (Ca (eI c) (M.map lL))=JF M c:=by
 induction M with
 | nil=>rfl
 | cons e r ih=>
   simp only[E8,lL,Ca,JF,List.find?_cons]at *;have he:Dj (eI c) (eI e.1)=(c==e.1):=rfl;rw[he];cases c==e.1
   .exact ih
   .rfl
def Xr (M:List Ord): ∀kv∈M.map lL,BO (.i .i64) kv.1=true:=by
 intro kv h;obtain⟨e,_,rfl⟩:=Mt.1 h;rfl
def nE {M:List Ord} {c:Int} (v:V) (l:List Int) (h: ∀e∈M,e.1≠c):Da (eI c) v (M.map lL)=(M++[(c,v,l)]).map lL:=by
 induction M with
 | nil=>rfl
 | cons e r ih=>
   simp only[E8,List.cons_append,lL,Da];have he:Dj (eI c) (eI e.1)=(c==e.1):=rfl;rw[he,beq_false_of_ne (fun e'=>h e (.head _) e'.symm)];simp only[cond_false];rw[ih fun e he=>h e (.tail _ he)]
def Pm (M:List Ord) (c:Int):(B4 M c= []/\JF M c= .l [] true)\/ ∃j:Nat,(M.map eR)[j]? =some (At.own (JF M c) 1 (iL (B4 M c))):=by
 unfold B4 JF;cases h:M.find? fun e=>c==e.1 with
 | none=>exact .inl ⟨rfl,rfl⟩
 | some e=>
   refine .inr ?_;obtain⟨j,hj⟩:=List.getElem?_of_mem (List.mem_of_find?_eq_some h);refine⟨j,?_⟩;rw[Mu,hj];rfl
def Pn {M:List Ord} {c:Int} {Z:AE} {fx:List At} (hs:Sat Z (fx++M.map eR)) (hl:(B4 M c).length<=AX) {K:V->Prop} (hk:K (.i .i64 (B4 M c).length)):A5 (JF M c) K:=by
 rcases Pm M c with⟨h1,h2⟩|⟨j,hj⟩
 .rw[h2]
  rw[h1]at hk;exact KX hk
 .have hj':(fx++M.map eR)[fx.length+j]? =some (At.own (JF M c) 1 (iL (B4 M c))):=by
   rw[List.getElem?_append_right (by omega),Nat.add_sub_cancel_left,hj]
  exact xg hs _ hj' (by simpa using hl) (by simpa using hk)
def zy {Z:AE} {l:List At} {i mm:Nat} {M:List Ord} {c:Int} {K:V->Prop} (hk:K (JF M c)) (h:Sat Z l:=by assumption)
    (hi:l[i]? =some (.map mm (M.map lL)):=by first|exact RH|exact RG|exact RF|exact RD|exact RC|exact RA):AN Z (.i .i64) (.l [] true) false (.m mm) (eI c) K:=
 Jt h i hi rfl (Xr M) (by rw[jd];exact hk)
def y6 {M:List Ord} {c:Int} {Z:AE} {fx:List At} (hs:Sat Z (fx++M.map eR)) (hl:(B4 M c).length<=AX) (hne:B4 M c≠[]) {k kp:V->AE->Prop} (hk: ∀Z',Sat Z' (fx++M.map eR)->k (.l (iL ((B4 M c).filter (· != 0))) false) Z'):A6 zP 381 [JF M c] Z (qk k kp):=by
 rcases Pm M c with⟨h1,h2⟩|⟨j,hj⟩
 .exact absurd h1 hne
 .have hj':(fx++M.map eR)[fx.length+j]? =some (At.own (JF M c) 1 (iL (B4 M c))):=by
   rw[List.getElem?_append_right (by omega),Nat.add_sub_cancel_left,hj]
  refine(kY (B4 M c) (JF M c) hl).pB hs hj' ?_;rintro r Z' rfl hs';exact hk Z' hs'
def Wk {Z Z2:AE}: ∀ {a a' b b':List (List V)},EB Z Z2 a a'->EB Z Z2 b b'->EB Z Z2 (a++b) (a'++b')
 | [],[],_,_,.nil,h=>h
 | _::_,_::_,_,_,.cons h1 h2,h=> .cons h1 (Wk h2 h)
def ja (n mm:Nat) (vp vu:V) (ps:List (List Int×Bool)) (us:List Nat) (M:List Ord) (c:Int) (l:List Int) (b:Bool) (hc0:0<=c) (hl:ps[c.toNat]? =some (l,b)) (hll:l.length<=3) (hol: ∀c,(B4 M c).length<=AX) :
    Be zP 360 [.p n 0,eI c] (gH n mm vp vu ps us M) fun r post=>r= .ret (if l.any fun p=>(B4 M p).isEmpty then .t [.l [] true,.b false]else .t [.l (Ek (l.map (fun p=>(B4 M p).filter (· != 0))++[l])) false,.b true])/\post=gH n mm vp vu ps us M:=by
 intro Z hs;have hM:=Mx;have hci:c<ps.length:=by have:=(Ii.1 hl).1;omega
 refine th kZ ?_;refine zz ?_;(repeat clear U K);repeat intro K U
 refine By l.length (fun k v=>[(6,v),(17,eI (A9 k))]) (fun k v=> .own v 1 (Ek ((l.take k).map fun p=>(B4 M p).filter (· != 0)))::gH n mm vp vu ps us M) (fun k _=>((l.take k).any fun p=>(B4 M p).isEmpty)=false) (.l [] true) rfl rfl (Ci hs 1) ?_;clear hs;rintro k v Z hk hne hs;rcases A3 l hk with⟨p,hp,hlt⟩|hke
 .have han:((l.take (k+1)).any fun p=>(B4 M p).isEmpty)=(B4 M p).isEmpty:=by rw[AL hp,List.any_append,hne];simp
  have hap:(l.take k).length<=3:=by rw[LY];omega
  conv=>whnf
  repeat'((first|clear U K|apply st|(apply zk;intro K U)|refine zY ?_|refine zy ?_|refine Pn (fx:=_::_::_::_::_:: []) hs (hol _) ?_|refine za (fun hc=>?_) fun hc=>?_|fail)<;>conv=>whnf)
  .have h0:(B4 M p).isEmpty=true:=by rw[List.isEmpty_iff_length_eq_zero];omega
   have hany:(l.any fun p=>(B4 M p).isEmpty)=true:=KM.2 ⟨p,Bz hp,h0⟩;refine Am (l':=gH n mm vp vu ps us M) hs (LW _ _) (.refl _) fun Z' hs'=>⟨_,⟨?_,rfl⟩,hs'⟩
   rw[if_pos hany]
  .have h0:(B4 M p).isEmpty=false:=by
    cases h:(B4 M p).isEmpty
    .rfl
    .rw[List.isEmpty_iff_length_eq_zero]at h;omega
   refine y6 (fx:=_::_::_::_::_:: []) hs (hol _) (fun e=>by rw[e]at h0;cases h0) fun Z hs=>?_
   conv=>whnf
   repeat'((first|clear U K|apply st|(apply zk;intro K U)|refine zY ?_|refine aq fun v Z hs hsl=>?_|fail)<;>conv=>whnf)
   refine⟨hlt,_,rfl,by rw[han];exact h0,?_⟩;rw[AL hp,Uw];exact hs
 .rw[Ap hke]at hne hs
  refine zz ?_;(repeat clear U K);repeat intro K U
  refine hAppend hs 0 rfl (by simp;omega) (fun e he=>by simp at he;subst he;rfl) (fun e he v hv=>by simp at he;subst he;simp at hv;subst hv;rfl) fun v Z hs=>?_
  refine zz ?_;(repeat clear U K);repeat intro K U
  obtain⟨Z2,h1,h2,h3⟩:=sK (es':=Ek (l.map (fun p=>(B4 M p).filter (· != 0))++[l])) hs 0 rfl fun Z2=>by
   have e:Ek (l.map (fun p=>(B4 M p).filter (· != 0))++[l])=Ek (l.map fun p=>(B4 M p).filter (· != 0))++[[.l (iL l) false]]:=by simp only[Ek,Uw,E8,List.map_nil]
   rw[e];exact Wk (Eg _) (.cons (.cons fY .nil) .nil)
  refine G0 h1 (.t (.cons h2 (.cons (.refl _) .nil))) ⟨_,⟨?_,rfl⟩,h3⟩;rw[hne,if_neg (by decide)]
def Sat.rot2 {Z:AE} {l:List At} {a:At} (h:Sat Z (a::l)):Sat Z (l++[a]):=h.perm (by
 have:=Rn (l₁:=[a]) (l₂:=l)
 simpa using this)
def C5 (M:List Ord) (l:List Int):List (List Int):=l.map (fun p=>(B4 M p).filter (· != 0))++[l]
def G8 (M:List Ord) (l:List Int) (c:Int):List Int:=
 if c=0 then [0]else if l.any (fun p=>(B4 M p).isEmpty)then []else if(CH (C5 M l)).2 then [c]++(CH (C5 M l)).1++[0]else []
def aH (n mm:Nat) (vp vu:V) (ps:List (List Int×Bool)) (us:List Nat) (M:List Ord) {c:Int} {v:V} {l:List Int} (hk: ∀e∈M,e.1≠c) {Z:AE}
    (hs:Sat Z (.own v 1 (iL l):: .box n [vp,vu,.m mm]:: .own vp 1 (pL ps):: .own vu 1 (us.map fun u=>[eU u]):: .map mm (Da (eI c) v (M.map lL))::M.map eR)):Sat Z (gH n mm vp vu ps us (M++[(c,v,l)])):=by
 rw[nE v l hk]at hs;have:=hs.rot2;unfold gH;rw[Uw (f:=eR)];exact this
def jF (n mm:Nat) (vp vu:V) (ps:List (List Int×Bool)) (us:List Nat) (M:List Ord) (c:Int) (l:List Int) (b:Bool) (hc0:0<=c) (hl:ps[c.toNat]? =some (l,b)) (hll:l.length<=3) (hol: ∀c,(B4 M c).length<=AX) (hk: ∀e∈M,e.1≠c)
    (hok:Mz (C5 M l)) (ht:total (C5 M l)<1000000000) :
    Be zP 328 [.p n 0,eI c] (gH n mm vp vu ps us M) fun r post=>r= .ret (.t [])/\ ∃M',post=gH n mm vp vu ps us M'/\((M'=M/\G8 M l c= [])\/ ∃v,M'=M++[(c,v,G8 M l c)]/\G8 M l c≠[]):=by
 intro Z hs;have hM:=Mx;refine tz kZ ?_;by_cases hc:c=0
 .subst hc
  conv=>whnf
  repeat'((first|clear U K|apply st|(apply zk;intro K U)|refine zY ?_|(refine zb (fun hc=>?_) (fun hc=>?_)<;>try exact⟨⟩)|fail)<;>conv=>whnf)
  refine Js hs 3 rfl rfl (Xr M) fun Z hs=>?_
  refine zz ?_;(repeat clear U K);repeat intro K U
  refine Am (l':=gH n mm vp vu ps us (M++[(0,.l [[eI 0]] true,[0])])) ?_ (List.Sublist.refl _) (.refl _) fun Z' hs'=>⟨_,⟨rfl,_,rfl,.inr ⟨.l [[eI 0]] true,?_,?_⟩⟩,hs'⟩
  .refine aH n mm vp vu ps us M hk ?_
   exact pW hs (fun e he=>by simp at he;subst he;rfl)
  .rw[G8,if_pos rfl]
  .rw[G8,if_pos rfl];exact fun e=>by cases e
 .have hoc:G8 M l c=if l.any (fun p=>(B4 M p).isEmpty)then []else if(CH (C5 M l)).2 then [c]++(CH (C5 M l)).1++[0]else []:=by rw[G8,if_neg hc]
  have hli:=ja n mm vp vu ps us M c l b hc0 hl hll hol;have hmg:=jW (C5 M l) false hok (by omega);have hml:=IW (total (C5 M l)) (C5 M l) [];have hml2:(CH (C5 M l)).1.length<=total (C5 M l):=by simpa[CH]using hml
  cases hany:l.any fun p=>(B4 M p).isEmpty
  .rw[hany,if_neg (by decide)]at hoc
   simp only[hany,KQ,if_false]at hli;have hdn: ∀ {Z:AE} {M':List Ord},Sat Z (gH n mm vp vu ps us M')->((M'=M/\G8 M l c= [])\/ ∃v,M'=M++[(c,v,G8 M l c)]/\G8 M l c≠[])->Ar Z (.t []) fun r Z'=> ∃post,(r= .ret (.t [])/\ ∃M',post=gH n mm vp vu ps us M'/\((M'=M/\G8 M l c= [])\/ ∃v,M'=M++[(c,v,G8 M l c)]/\G8 M l c≠[]))/\Sat Z' post:=fun hs h=>Am hs (List.Sublist.refl _) (.refl _) fun Z' hs'=>⟨_,⟨rfl,_,rfl,h⟩,hs'⟩
   conv=>whnf
   repeat'((first|clear U K|apply st|(apply zk;intro K U)|refine zY ?_|(refine zb (fun hc=>?_) (fun hc=>?_)<;>try exact⟨⟩)|fail)<;>conv=>whnf)
   refine hli.use (rest:=[]) (by simpa using hs) ?_;clear hs;rintro r post Z ⟨rfl,rfl⟩ hs;rw[I4]at hs;have hml3:(C5 M l)=l.map (fun p=>(B4 M p).filter (· != 0))++[l]:=rfl;rw[<-hml3];generalize C5 M l=ll at *;cases hb:(CH ll).2<;>rw[hb]at hmg hoc
   .conv=>whnf
    repeat'((first|clear U K|apply st|(apply zk;intro K U)|refine zY ?_|refine zC ?_|fail)<;>conv=>whnf)
    exact hdn hs (.inl ⟨rfl,by rw[hoc];rfl⟩)
   .rw[if_pos rfl]at hoc
    conv=>whnf
    repeat'((first|clear U K|apply st|(apply zk;intro K U)|refine zY ?_|refine zC ?_|fail)<;>conv=>whnf)
    replace hs:=pW hs (sz:=1) (es:=[[eI c]]) (fun e he=>by simp at he;subst he;rfl);refine GP hs 0 (xs:=[c]) (ys:=(CH ll).1) rfl (by simp;omega) Bc fun v Z hs=>?_
    conv=>whnf
    repeat'((first|apply st|refine zY ?_|refine rk ?_ ?_|exact fun s e=>by cases e;rfl|refine aq fun v Z hs hsl=>?_|fail)<;>conv=>whnf)
    refine Js hs 4 rfl rfl (Xr M) fun Z hs=>?_
    refine zz ?_;(repeat clear U K);repeat intro K U
    refine hdn (aH n mm vp vu ps us M hk (l:=G8 M l c) ?_) (.inr ⟨v,rfl,by rw[hoc];simp⟩);rw[hoc];exact hs
  .rw[hany,if_pos rfl]at hoc
   simp only[hany,if_true]at hli
   conv=>whnf
   repeat'((first|clear U K|apply st|(apply zk;intro K U)|refine zY ?_|(refine zb (fun hc=>?_) (fun hc=>?_)<;>try exact⟨⟩)|fail)<;>conv=>whnf)
   refine hli.use (rest:=[]) (by simpa using hs) ?_;clear hs;rintro r post Z ⟨rfl,rfl⟩ hs;rw[I4]at hs;refine zz ?_;(repeat clear U K);repeat intro K U
   exact Am hs (List.Sublist.refl _) (.refl _) fun Z' hs'=>⟨_,⟨rfl,_,rfl,.inl ⟨rfl,hoc⟩⟩,hs'⟩
end Go.Gl
