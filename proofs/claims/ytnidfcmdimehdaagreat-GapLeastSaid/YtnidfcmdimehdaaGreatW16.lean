import Derived.Test.YtnidfcmdimehdaaGreatW14
import Derived.Test.YtnidfcmdimehdaaGreatW15
set_option linter.all false
set_option linter.defProp false
set_option maxHeartbeats 8000000
noncomputable section
namespace Go.Gl
open Go.Proofs
attribute [local irreducible] Ao Ai AY AO AJ AX AN AP AI AW AK AL Ak Au Sat AT Ar Aa W
def TJ {xs:List Int} {f:Bool} (h:E9 (.l (iL xs) f)):xs.length<=As:=eR h
def iu:Pure zP 245 [.b true] (.t []):=by
 refine fp kZ ?_;have hs:=Sn;exact zW
abbrev DX:V:= .Ee 368 (.a [])
def qG (xs:List Int) (x:Int):Int:=(Bd (fun y (_:Unit)=>(x==y,())) xs 0 ()).1
def Lr {α:Type} (f:α->Bool): ∀(xs:List α) (k:Nat),(decide ((Bd (fun y (_:Unit)=>(f y,())) xs k ()).1≥0))=xs.any f
 | [],_=>rfl
 | y::r,k=>by
   simp only[Bd,Qj];cases f y
   .simpa using Lr f r (k+1)
   .simp
def UG (xs:List Int) (x:Int):xs.any (x== ·)=xs.contains x:=by
 induction xs with
 | nil=>rfl
 | cons y r ih=>rw[Qj,List.contains_cons,ih]
def mh (xs:List Int) (x:Int):decide (qG xs x≥0)=xs.contains x:=by
 rw[<-UG];exact Lr (x== ·) xs 0
def jJ (xs:List Int) (f:Bool) (x:Int):Pure zP 46 [.l (iL xs) f,eI x] (eI (qG xs x)):=by
 refine Pure.fit (by kernel_rfl) fun hf=>?_
 have hxl:=TJ hf.1;have hM:=Mx;refine xR kZ ?_;have hs:=Sn;refine zv ?_;(repeat clear U K);repeat intro K U
 refine Du xs.length (fun k (_:Unit)=>[(8,eI (Bj k))]) (fun _ _=>[]) (fun k _=>qG xs x=(Bd (fun y (_:Unit)=>(x==y,())) (xs.drop k) k ()).1) () rfl rfl hs ?_;clear hs;rintro k - Z hk hn hs;have hck:Bj k=k:=Av (by omega);rcases BJ xs hk with⟨y,hy,hlt⟩|hke
 .rw[drop_cons hy,Bd]at hn
  conv=>whnf
  repeat'((first|clear U K|apply st|(apply zk;intro K U)|refine zX ?_|refine za (fun hc=>?_) fun hc=>?_|fail)<;>conv=>whnf)
  .exact AS (by rw[hn,hc,hck];simp)
  .exact⟨hlt,(),rfl,by rw[hn];simp[hc],hs⟩
 .rw[BS hke,Bd]at hn
  refine zv ?_;(repeat clear U K);repeat intro K U
  exact AS (by rw[hn])
def Ce (xs:List Int) (f:Bool) (x:Int):Pure zP 11 [.l (iL xs) f,eI x] (.b (xs.contains x)):=by
 refine xX kZ ?_;have hs:=Sn
 conv=>whnf
 repeat'((first|clear U K|apply st|(apply zk;intro K U)|refine zX ?_|refine Pure.use (jJ _ _ _) ?_|fail)<;>conv=>whnf)
 all_goals exact AS (by rw[<-mh])
def Qd (n:Int):Pure zP 292 [eI n] (.b (XQ n)):=by
 refine sW kZ ?_;have hs:=Sn
 conv=>whnf
 repeat'((first|clear U K|apply st|(apply zk;intro K U)|refine zX ?_|refine za (fun hc=>?_) fun hc=>?_|fail)<;>conv=>whnf)
 all_goals exact AS (by simp[XQ, *]<;>omega)
def Li (f:Fact):Cm f=(decide (2<=f.op)&&decide (f.op<=4)):=by
 rw[Gr];simp only[Cm,Ek,A4,Cy,CT];omega
def Tl (f:Fact):Pure zP 122 [.a (xF f)] (.b (Cm f)):=by
 refine uJ kZ ?_;have hs:=Sn
 conv=>whnf
 repeat'((first|clear U K|apply st|(apply zk;intro K U)|refine zX ?_|refine za (fun hc=>?_) fun hc=>?_|fail)<;>conv=>whnf)
 all_goals exact AS (by rw[Li];simp[*]<;>omega)
def Y4 (s c:Nat) (hs0:s<18446744073709551616) (hc:c<64):Pure zP 179 [eU s,eI c] (eU (s|||2 ^ c)):=by
 refine ti kZ ?_;have hs:=Sn
 conv=>whnf
 repeat'((first|clear U K|apply st|(apply zk;intro K U)|fail)<;>conv=>whnf)
 refine⟨Int.natCast_nonneg _,?_⟩;refine zv ?_;(repeat clear U K);repeat intro K U
 exact AS (by rw[Hc,Ta hc,Hu hs0 (Hk hc)])
def TG (s c:Nat) (hs0:s<18446744073709551616) (hc:c<64):Pure zP 133 [eU s,eI c] (.b (s.testBit c)):=by
 refine uA kZ ?_;have hs:=Sn
 conv=>whnf
 repeat'((first|clear U K|apply st|(apply zk;intro K U)|fail)<;>conv=>whnf)
 refine⟨Int.natCast_nonneg _,?_⟩;refine zv ?_;(repeat clear U K);repeat intro K U
 refine AS ?_;rw[Hc,TZ hc];have h1:s >>> c<18446744073709551616:=by rw[Nat.shiftRight_eq_div_pow];exact Nat.lt_of_le_of_lt (Nat.div_le_self _ _) hs0
 have h2:bits .and .u64 ((s >>> c:Nat):Int) 1=((s >>> c&&&1:Nat):Int):=FJ h1 (show 1<_ by decide);rw[h2];simp only[Nat.testBit,Nat.and_comm 1];congr 1;rcases Nat.mod_two_eq_zero_or_one (s >>> c)with h|h<;>simp[Nat.and_one_is_mod,h]
def ma (op:Int):Pure zP 230 [eI op] (eI (Cv op)):=by
 refine tK kZ ?_;have hs:=Sn
 conv=>whnf
 repeat'((first|clear U K|apply st|(apply zk;intro K U)|refine zX ?_|refine za (fun hc=>?_) fun hc=>?_|fail)<;>conv=>whnf)
 all_goals exact AS (by simp[Cv, *])
def X2 (b:Bool):Pure zP 178 [.b b] (eI (if b then 0 else 2)):=by
 refine tj kZ ?_;have hs:=Sn
 conv=>whnf
 repeat'((first|clear U K|apply st|(apply zk;intro K U)|refine za (fun hc=>?_) fun hc=>?_|fail)<;>conv=>whnf)
 all_goals exact AS (by simp[*])
def H7 {S:Type} (g:FuncId) (fi ca:List V) (H:S->List At) (stp:Int->S->Bool×S) (D:Int->S->Prop) (hx:Cr zP (.f (.func g) fi ca) eI H stp D) (xs:List Int) (f:Bool) (s0:S) (hd:XA stp D xs s0) :
    BK zP 114 [.l (iL xs) f,.f (.func g) fi ca] (H s0) fun r post=>r= .ret (eI (Bd stp xs 0 s0).1)/\post=H (Bd stp xs 0 s0).2:=by
 intro Z hs;refine Ao.fit (by kernel_rfl) fun hf=>?_
 have hxl:=TJ hf.1;have hM:=Mx;refine gE kZ ?_;refine zv ?_;(repeat clear U K);repeat intro K U
 refine Du xs.length (fun k (_:S)=>[(8,eI (Bj k))]) (fun _ s=>H s) (fun k s=>XA stp D (xs.drop k) s/\Bd stp xs 0 s0=Bd stp (xs.drop k) k s) s0 rfl ⟨hd,rfl⟩ hs ?_;clear hs;rintro k s Z hk ⟨hd,hn⟩ hs;have hck:Bj k=k:=Av (by omega);rcases BJ xs hk with⟨y,hy,hlt⟩|hke
 .rw[drop_cons hy]at hn hd
  obtain⟨hd1,hd2⟩:=hd;rw[Bd]at hn;refine zv ?_;(repeat clear U K);repeat intro K U
  refine hx.use hd1 hs ?_;clear hs;intro Z hs
  conv=>whnf
  repeat'((first|clear U K|apply st|(apply zk;intro K U)|refine zX ?_|refine za (fun hc=>?_) fun hc=>?_|fail)<;>conv=>whnf)
  .rw[hc,if_pos rfl]at hn
   rw[hn];exact A0 hs (List.Sublist.refl _) (by rw[hck];exact .refl _) fun Z' hs'=>⟨_,⟨rfl,rfl⟩,hs'⟩
  .rw[hc,if_neg (by decide)]at hn
   exact⟨hlt,_,rfl,⟨hd2,hn⟩,hs⟩
 .rw[BS hke,Bd]at hn
  refine zv ?_;(repeat clear U K);repeat intro K U
  rw[hn];exact A0 hs (List.Sublist.refl _) (.refl _) fun Z' hs'=>⟨_,⟨rfl,rfl⟩,hs'⟩
section
variable {S:Type} (g:FuncId) (fi ca:List V) (H:S->List At)
def F7 (stp:Int->S->Bool×S) (D:Int->S->Prop) (hx:Cr zP (.f (.func g) fi ca) eI H stp D) (xs:List Int) (f:Bool) (s0:S) (hd:XA stp D xs s0) :
    BK zP 66 [.l (iL xs) f,.f (.func g) fi ca] (H s0) fun r post=>r= .ret (.b (decide ((Bd stp xs 0 s0).1≥0)))/\post=H (Bd stp xs 0 s0).2:=by
 intro Z hs;refine o8 kZ ?_
 conv=>whnf
 repeat'((first|clear U K|apply st|(apply zk;intro K U)|fail)<;>conv=>whnf)
 refine(H7 g fi ca H stp D hx xs f s0 hd).use (rest:=[]) (by simpa using hs) ?_;rintro r post Z ⟨rfl,rfl⟩ hs;refine zv ?_;(repeat clear U K);repeat intro K U
 exact A0 hs (by simp) (.refl _) fun Z' hs'=>⟨_,⟨rfl,rfl⟩,hs'⟩
def rL (stp:Int->S->Bool×S) (D:Int->S->Prop) (hx:Cr zP (.f (.func g) fi ca) eI H stp D):Cr zP (.f (.func 227) [] [.rp [.f (.func g) fi ca]]) eI H (fun y s=>(!(stp y s).1,(stp y s).2)) D:=by
 intro y s hd Z hs;refine Ay ?_;show Ao zP 227 ([]++[eI y]++[.rp [.f (.func g) fi ca]]) Z _;refine fq kZ ?_;refine zv ?_;(repeat clear U K);repeat intro K U
 refine hx.use hd hs ?_;clear hs;intro Z hs;refine zv ?_;(repeat clear U K);repeat intro K U
 exact A0 hs (List.Sublist.refl _) (.refl _) fun Z' hs'=>⟨rfl,hs'⟩
def gQ (stp:Int->S->Bool×S) (D:Int->S->Prop) (hx:Cr zP (.f (.func g) fi ca) eI H stp D) (xs:List Int) (f:Bool) (s0:S) (hd:XA stp D xs s0) :
    BK zP 180 [.l (iL xs) f,.f (.func g) fi ca] (H s0) fun r post=>r= .ret (.b (Bp stp xs s0).1)/\post=H (Bp stp xs s0).2:=by
 intro Z hs;obtain⟨e1,e2⟩:=M8 (stp:=stp) xs 0 s0;refine fw kZ ?_
 conv=>whnf
 repeat'((first|clear U K|apply st|(apply zk;intro K U)|fail)<;>conv=>whnf)
 refine(F7 227 [] [.rp [.f (.func g) fi ca]] H _ D (rL g fi ca H stp D hx) xs f s0 (Td xs s0 hd)).use (rest:=[]) (by simpa using hs) ?_;rintro r post Z ⟨rfl,rfl⟩ hs;rw[e2];rw[e1]at hs;refine zv ?_;(repeat clear U K);repeat intro K U
 exact A0 hs (by simp) (by rw[Bool.not_not];exact .refl _) fun Z' hs'=>⟨_,⟨rfl,rfl⟩,hs'⟩
def UB (stp:Fact->S->Bool×S) (D:Fact->S->Prop) (hx:Cr zP (.f (.func g) fi ca) (fun y=> .a (xF y)) H stp D) (xs:List Fact) (f:Bool) (s0:S) (hxl:xs.length<=As) (hd:XA stp D xs s0) :
    BK zP 273 [.l (facts xs) f,.f (.func g) fi ca] (H s0) fun r post=>r= .ret (eI (Bd stp xs 0 s0).1)/\post=H (Bd stp xs 0 s0).2:=by
 intro Z hs;have hM:=Mx;refine se kZ ?_;refine zv ?_;(repeat clear U K);repeat intro K U
 refine Du xs.length (fun k (_:S)=>[(8,eI (Bj k))]) (fun _ s=>H s) (fun k s=>XA stp D (xs.drop k) s/\Bd stp xs 0 s0=Bd stp (xs.drop k) k s) s0 rfl ⟨hd,rfl⟩ hs ?_;clear hs;rintro k s Z hk ⟨hd,hn⟩ hs;have hck:Bj k=k:=Av (by omega);rcases BJ xs hk with⟨y,hy,hlt⟩|hke
 .rw[drop_cons hy]at hn hd
  obtain⟨hd1,hd2⟩:=hd;rw[Bd]at hn;refine zv ?_;(repeat clear U K);repeat intro K U
  refine hx.use hd1 hs ?_;clear hs;intro Z hs
  conv=>whnf
  repeat'((first|clear U K|apply st|(apply zk;intro K U)|refine zX ?_|refine za (fun hc=>?_) fun hc=>?_|fail)<;>conv=>whnf)
  .rw[hc,if_pos rfl]at hn
   rw[hn];exact A0 hs (List.Sublist.refl _) (by rw[hck];exact .refl _) fun Z' hs'=>⟨_,⟨rfl,rfl⟩,hs'⟩
  .rw[hc,if_neg (by decide)]at hn
   exact⟨hlt,_,rfl,⟨hd2,hn⟩,hs⟩
 .rw[BS hke,Bd]at hn
  refine zv ?_;(repeat clear U K);repeat intro K U
  rw[hn];exact A0 hs (List.Sublist.refl _) (.refl _) fun Z' hs'=>⟨_,⟨rfl,rfl⟩,hs'⟩
def OC (stp:Fact->S->Bool×S) (D:Fact->S->Prop) (hx:Cr zP (.f (.func g) fi ca) (fun y=> .a (xF y)) H stp D) (xs:List Fact) (f:Bool) (s0:S) (hxl:xs.length<=As) (hd:XA stp D xs s0) :
    BK zP 228 [.l (facts xs) f,.f (.func g) fi ca] (H s0) fun r post=>r= .ret (.b (decide ((Bd stp xs 0 s0).1≥0)))/\post=H (Bd stp xs 0 s0).2:=by
 intro Z hs;refine tM kZ ?_
 conv=>whnf
 repeat'((first|clear U K|apply st|(apply zk;intro K U)|fail)<;>conv=>whnf)
 refine(UB g fi ca H stp D hx xs f s0 hxl hd).use (rest:=[]) (by simpa using hs) ?_;rintro r post Z ⟨rfl,rfl⟩ hs;refine zv ?_;(repeat clear U K);repeat intro K U
 exact A0 hs (by simp) (.refl _) fun Z' hs'=>⟨_,⟨rfl,rfl⟩,hs'⟩
def rK (stp:Fact->S->Bool×S) (D:Fact->S->Prop) (hx:Cr zP (.f (.func g) fi ca) (fun y=> .a (xF y)) H stp D):Cr zP (.f (.func 229) [] [.rp [.f (.func g) fi ca]]) (fun y=> .a (xF y)) H (fun y s=>(!(stp y s).1,(stp y s).2)) D:=by
 intro y s hd Z hs;refine Ay ?_;show Ao zP 229 ([]++[.a (xF y)]++[.rp [.f (.func g) fi ca]]) Z _;refine tL kZ ?_;refine zv ?_;(repeat clear U K);repeat intro K U
 refine hx.use hd hs ?_;clear hs;intro Z hs;refine zv ?_;(repeat clear U K);repeat intro K U
 exact A0 hs (List.Sublist.refl _) (.refl _) fun Z' hs'=>⟨rfl,hs'⟩
def gP (stp:Fact->S->Bool×S) (D:Fact->S->Prop) (hx:Cr zP (.f (.func g) fi ca) (fun y=> .a (xF y)) H stp D) (xs:List Fact) (f:Bool) (s0:S) (hxl:xs.length<=As) (hd:XA stp D xs s0) :
    BK zP 182 [.l (facts xs) f,.f (.func g) fi ca] (H s0) fun r post=>r= .ret (.b (Bp stp xs s0).1)/\post=H (Bp stp xs s0).2:=by
 intro Z hs;obtain⟨e1,e2⟩:=M8 (stp:=stp) xs 0 s0;refine tg kZ ?_
 conv=>whnf
 repeat'((first|clear U K|apply st|(apply zk;intro K U)|fail)<;>conv=>whnf)
 refine(OC 229 [] [.rp [.f (.func g) fi ca]] H _ D (rK g fi ca H stp D hx) xs f s0 hxl (Td xs s0 hd)).use (rest:=[]) (by simpa using hs) ?_;rintro r post Z ⟨rfl,rfl⟩ hs;rw[e2];rw[e1]at hs;refine zv ?_;(repeat clear U K);repeat intro K U
 exact A0 hs (by simp) (by rw[Bool.not_not];exact .refl _) fun Z' hs'=>⟨_,⟨rfl,rfl⟩,hs'⟩
end
abbrev Uy (f:Int->Bool):Int->Unit->Bool×Unit:=fun y _=>(f y,())
def P5 {g:FuncId} {fi ca:List V} {f:Int->Bool} {D:Int->Unit->Prop} (h: ∀y,D y ()->Pure zP g (fi++[eI y]++ca) (.b (f y))):Cr zP (.f (.func g) fi ca) eI (fun _=>[]) (Uy f) D:=by
 intro y s hd Z hs;refine Ay ?_;show Ao zP g (fi++[eI y]++ca) Z _;refine Ao.mono ((h y hd).use (k:=fun v Z'=>v= .b (f y)/\Sat Z' []) (kp:=fun _ _=>False) ⟨rfl,Sat.nil⟩) ?_;rintro(v|v) Z' hq
 .obtain⟨rfl,h⟩:=hq
  exact⟨rfl,h⟩
 .exact hq.elim
def oF {g:FuncId} {fi ca:List V} {f:Int->Bool} {xs:List Int} (b:Bool) (h: ∀y∈xs,Pure zP g (fi++[eI y]++ca) (.b (f y))):Pure zP 180 [.l (iL xs) b,.f (.func g) fi ca] (.b (xs.all f)):=by
 have:=gQ g fi ca (fun _=>[]) (Uy f) (fun y _=>y∈xs) (P5 fun y hy=>h y hy) xs b () (Gc fun y hy _=>hy);rw[Jb]at this;exact Pure.of (Ao.mono (this emp Sat.nil) fun r Z' ⟨post,⟨h1,h2⟩,h3⟩=>h1)
def VG (g:FuncId) (fi ca:List V) (f:Int->Bool):Prop:= ∀y:Int,Pure zP g (fi++[eI y]++ca) (.b (f y))
def VG.use {g:FuncId} {fi ca:List V} {f:Int->Bool} (h:VG g fi ca f) {y:Int} {Z:AE} {k kp:V->AE->Prop} (hk:k (.b (f y)) Z):Ak zP (.f (.func g) fi ca) [eI y] Z (qk k kp):=Ay ((h y).use hk)
def me (g:FuncId) (fi ca:List V) (L:List At) (p:Int->Bool) (hx:Cr zP (.f (.func g) fi ca) eI (fun _:Unit=>L) (Uy p) (fun _ _=>True)) (xs:List Int) (f:Bool):BK zP 332 [.l (iL xs) f,.f (.func g) fi ca] L fun r post=>r= .ret (.l (iL (xs.filter p)) false)/\post=L:=by
 intro Z hs;refine Ao.fit (by kernel_rfl) fun hf=>?_
 have hxl:=TJ hf.1;have hM:=Mx;refine fk kZ ?_;refine zv ?_;(repeat clear U K);repeat intro K U
 refine Du xs.length (fun k v=>[(5,v),(10,eI (Bj k))]) (fun k v=>L++[.own v 1 (iL ((xs.take k).filter p))]) (fun _ _=>True) (.l [] true) rfl trivial (Ol hs 1) ?_;clear hs;rintro k v Z hk - hs;have hfl:=W9 p (xs.take k);rw[NK]at hfl;rcases BJ xs hk with⟨y,hy,hlt⟩|hke
 .have hst:(xs.take (k+1)).filter p=if p y then(xs.take k).filter p++[y]else(xs.take k).filter p:=by
   rw[An hy,List.filter_append];cases hp:p y<;>simp[hp]
  generalize (xs.take k).filter p=zs at *
  conv=>whnf
  repeat'((first|clear U K|apply st|(apply zk;intro K U)|refine zX ?_|refine hx.yQ (s:=()) (rest:=[_]) trivial hs (fun Z hs=>?_)|(refine zd (fun hc=>?_) (fun hc=>?_)<;>try exact⟨⟩)|fail)<;>conv=>whnf)
  .refine H2 (Yu hs L.length (xs:=zs) (x:=y) List.getElem?_concat_length (by omega) Dt fun v' Z' hs' hsl=>?_)
   rw[List.set_append_right _ _ (IN _),Nat.sub_self]at hs';replace hs:=hs';refine zv ?_;(repeat clear U K);repeat intro K U
   rw[if_pos (by assumption)]at hst;exact⟨hlt,_,rfl,trivial,by rw[hst];exact hs⟩
  .rw[if_neg (by simp[*])]at hst
   exact⟨hlt,_,rfl,trivial,by rw[hst];exact hs⟩
 .refine zv ?_;(repeat clear U K);repeat intro K U
  rw[CE hke]at hs;obtain⟨Z2,h1,h2,h3⟩:=Jr hs L.length List.getElem?_concat_length;refine JI h1 h2 ⟨_,⟨rfl,rfl⟩,?_⟩;rw[List.eraseIdx_append_of_length_le (IN _),Nat.sub_self]at h3;simpa using h3
def jF (g:FuncId) (fi ca:List V) (p:Int->Bool) (hpf:VG g fi ca p) (xs:List Int) (u:V) (hxl:xs.length<=As):BK zP 332 [u,.f (.func g) fi ca] [.own u 1 (iL xs)] fun r post=>r= .ret (.l (iL (xs.filter p)) false)/\post= [.own u 1 (iL xs)]:=by
 intro Z hs;have hM:=Mx;refine fk kZ ?_;refine zv ?_;(repeat clear U K);repeat intro K U
 refine Du xs.length (fun k v=>[(5,v),(10,eI (Bj k))]) (fun k v=>[.own u 1 (iL xs),.own v 1 (iL ((xs.take k).filter p))]) (fun _ _=>True) (.l [] true) rfl trivial (Ol hs 1) ?_;clear hs;rintro k v Z hk - hs;have hfl:=W9 p (xs.take k);rw[NK]at hfl;rcases BJ xs hk with⟨y,hy,hlt⟩|hke
 .have hst:(xs.take (k+1)).filter p=if p y then(xs.take k).filter p++[y]else(xs.take k).filter p:=by
   rw[An hy,List.filter_append];cases hp:p y<;>simp[hp]
  generalize (xs.take k).filter p=zs at *
  conv=>whnf
  repeat'((first|clear U K|apply st|(apply zk;intro K U)|refine zX ?_|refine aq fun v Z hs hsl=>?_|refine VG.use hpf ?_|refine za (fun hc=>?_) fun hc=>?_|fail)<;>conv=>whnf)
  .rw[if_pos (by assumption)]at hst
   exact⟨hlt,_,rfl,trivial,by rw[hst];exact hs.take 2⟩
  .rw[if_neg (by simp[*])]at hst
   exact⟨hlt,_,rfl,trivial,by rw[hst];exact hs.take 2⟩
 .refine zv ?_;(repeat clear U K);repeat intro K U
  rw[CE hke]at hs;obtain⟨Z2,h1,h2,h3⟩:=Jr hs 1 rfl;exact JI h1 h2 ⟨_,⟨rfl,rfl⟩,h3⟩
def wU:VG 334 [] [] (· != 0):=by
 intro y;refine sD kZ ?_;have hs:=Sn;exact zW
def ju (xs:List Int) (u:V) (hxl:xs.length<=As):BK zP 331 [u] [.own u 1 (iL xs)] fun r post=>r= .ret (.l (iL (xs.filter (· != 0))) false)/\post= [.own u 1 (iL xs)]:=by
 intro Z hs;refine sF kZ ?_
 conv=>whnf
 repeat'((first|clear U K|apply st|(apply zk;intro K U)|fail)<;>conv=>whnf)
 refine(jF 334 [] [] (· != 0) wU xs u hxl).use (rest:=[]) hs ?_;clear hs;rintro r post Z ⟨rfl,rfl⟩ hs;refine zv ?_;(repeat clear U K);repeat intro K U
 exact A0 hs (by simp) (.refl _) fun Z' hs'=>⟨_,⟨rfl,rfl⟩,hs'⟩
def Zl (g : List (List Int)) (f:Bool):Pure zP 313 [.l (Jg g) f] (.b (FE g)):=by
 refine Pure.fit (by kernel_rfl) fun hf=>?_
 have⟨g1,g2⟩:=fb hf.1;have hM:=Mx;refine sO kZ ?_;have hs:=Sn;by_cases h16:g.length<=16
 .conv=>whnf
  repeat'((first|clear U K|apply st|(apply zk;intro K U)|refine zX ?_|(refine zb (fun hc=>?_) (fun hc=>?_)<;>try exact⟨⟩)|fail)<;>conv=>whnf)
  all_goals try(exfalso;omega)
  refine Du g.length (fun k (_:Unit)=>[(12,eI (Bj k))]) (fun _ _=>[]) (fun k _=>FE g=Ou k (g.drop k)) () rfl (by simp[FE,h16]) hs ?_;clear hs;rintro k - Z hk hn hs;have hck:Bj k=k:=Av (by omega);rcases BJ g hk with⟨l,hl,hlt⟩|hke
  .have hll:=g2 l (Dn hl)
   rw[drop_cons hl,Ou]at hn;by_cases h3:l.length<=3
   .rw[decide_eq_true h3,Ed]at hn
    conv=>whnf
    repeat'((first|clear U K|apply st|(apply zk;intro K U)|refine zX ?_|(refine zb (fun hc=>?_) (fun hc=>?_)<;>try exact⟨⟩)|fail)<;>conv=>whnf)
    all_goals try(exfalso;omega)
    refine Du l.length (fun j (_:Unit)=>[(22,eI (Bj j))]) (fun _ _=>[]) (fun j _=>FE g=(aY k (l.take j) (l.drop j)&&Ou (k+1) (g.drop (k+1)))) () rfl hn hs ?_;clear hs hn;rintro j - Z hj hn hs;rcases BJ l hj with⟨c,hc0,hjlt⟩|hje
    .rw[drop_cons hc0,aY,yI]at hn
     have hw:IntKind.i64.wrap (3+Bj k)=3+(k:Int):=by rw[hck,wrap64 (by omega) (by omega)]
     conv=>whnf
     repeat'((first|clear U K|apply st|(apply zk;intro K U)|refine zX ?_|refine Pure.use (Ce _ _ _) ?_|(refine zd (fun hc=>?_) (fun hc=>?_)<;>try exact⟨⟩)|fail)<;>conv=>whnf)
     .exact AS (by rw[hn,hc];simp)
     .exact⟨hjlt,(),rfl,by rw[hn,hc,An hc0];simp[*],hs⟩
     .exact AS (by(rw[hn];have: ¬c<3+(k:Int):=by omega);simp[this])
     .exact AS (by(rw[hn];have: ¬3<=c:=by omega);simp[this])
    .refine zv ?_;(repeat clear U K);repeat intro K U
     exact⟨hlt,(),rfl,by rw[hn,BS hje];rfl,hs⟩
   .conv=>whnf
    repeat'((first|clear U K|apply st|(apply zk;intro K U)|refine zX ?_|(refine zb (fun hc=>?_) (fun hc=>?_)<;>try exact⟨⟩)|fail)<;>conv=>whnf)
    all_goals try(exfalso;omega)
    exact AS (by rw[hn];simp[h3])
  .refine zv ?_;(repeat clear U K);repeat intro K U
   exact AS (by rw[hn,BS hke];rfl)
 .conv=>whnf
  repeat'((first|clear U K|apply st|(apply zk;intro K U)|refine zX ?_|(refine zb (fun hc=>?_) (fun hc=>?_)<;>try exact⟨⟩)|fail)<;>conv=>whnf)
  all_goals try(exfalso;omega)
  exact AS (by simp[FE,h16])
def WA (g:List (List Int)) (f:Bool):Pure zP 289 [.l (Jg g) f] (eI (if FE g then 0 else 2)):=by
 refine sZ kZ ?_;have hs:=Sn
 conv=>whnf
 repeat'((first|clear U K|apply st|(apply zk;intro K U)|refine Pure.use (Zl _ _) ?_|refine za (fun hc=>?_) fun hc=>?_|fail)<;>conv=>whnf)
 all_goals exact AS (by simp[*])
def wV (n:Nat) (h:Int):Cr zP (.f (.func 333) [] [.p n 0]) eI (fun _:Unit=>[.box n [eI h]]) (Uy (· != h)) (fun _ _=>True):=by
 intro y s _ Z hs;refine Ay ?_;show Ao zP 333 ([]++[eI y]++[.p n 0]) Z _;refine sE kZ ?_;refine zv ?_;(repeat clear U K);repeat intro K U
 exact A0 hs (List.Sublist.refl _) (.refl _) fun Z' hs'=>⟨rfl,hs'⟩
def cD (ls:List (List Int)):U2 ls []=false:=rfl
def YN (ls:List (List Int)) (x:Int) (r:List Int):U2 ls (x::r)=free ls x:=rfl
def cK {α:Type} {p:α->Bool} {xs:List α} {k:Nat} {x:α} (hx:xs[k]? =some x) (h:(xs.take k).find? p=none):(xs.take (k+1)).find? p=if p x then some x else none:=by
 rw[An hx,List.find?_append,h];simp only[List.find?_cons,List.find?_nil,Option.none_or];cases p x<;>rfl
def cJ {α:Type} {p:α->Bool} {xs:List α} {k:Nat} {x:α} (h:(xs.take k).find? p=some x):xs.find? p=some x:=by
 conv=>lhs;rw[<-List.take_append_drop k xs]
 rw[List.find?_append,h];rfl
def ZN (ls:List (List Int)):pick ls=(ls.find? (U2 ls)).bind List.head? :=rfl
def iy (ls:List (List Int)) (f:Bool) (hok:XH ls) (ht:total ls<As):Pure zP 330 [.l (Jg ls) f] (.t [.l (iL (DP ls).1) false,.b (DP ls).2]):=by
 have hM:=Mx;refine sG kZ ?_;have hs:=Sn;refine zv ?_;(repeat clear U K);repeat intro K U
 refine Ft (fun(x:List (List Int)×Bool×V×List Int)=>total x.1) (fun x=>[(0,.l (Jg x.1) x.2.1),(4,x.2.2.1)]) (fun x=>[.own x.2.2.1 1 (iL x.2.2.2)])
  (fun x=>XH x.1/\x.2.2.2.length+total x.1<=total ls/\DI (total x.1) x.1 x.2.2.2=DP ls) (ls,f,.l [] true,[]) rfl ⟨hok,by simp,rfl⟩ (Ol hs 1) ?_
 clear hs;rintro⟨ls',f',v,out⟩ Z ⟨hok',hlen,hm⟩ hs;dsimp only at hok' hlen hm hs;dsimp only;have hol:=hok'.1;refine zv ?_;(repeat clear U K);repeat intro K U
 refine Du ls'.length (fun k (t:Bool)=>[(5,.b t),(16,eI (Bj k))]) (fun _ _=>[.own v 1 (iL out)]) (fun k t=>(ls'.take k).find? (U2 ls')=none/\t=(ls'.take k).any fun l=> !l.isEmpty) false rfl ⟨rfl,rfl⟩ hs ?_;clear hs;rintro k t Z hk ⟨hfd,hta⟩ hs;rcases BJ ls' hk with⟨l,hl,hlt⟩|hke
 .have hfs:=cK (p:=U2 ls') hl hfd
  have has:((ls'.take (k+1)).any fun l=> !l.isEmpty)=(t|| !l.isEmpty):=by rw[An hl,List.any_append,<-hta];simp
  have hb:=hok'.2 _ (Dn hl);cases l with
  | nil=>
    have hnl:([]:List Int).length=0:=rfl;rw[cD,if_neg (by decide)]at hfs
    conv=>whnf
    repeat'((first|clear U K|apply st|(apply zk;intro K U)|refine zX ?_|(refine zb (fun hc=>?_) (fun hc=>?_)<;>try exact⟨⟩)|fail)<;>conv=>whnf)
    exact⟨hlt,_,rfl,⟨hfs,by rw[has];simp⟩,hs⟩
  | cons x r=>
    have hx0:(x::r)[Int.toNat 0]? =some x:=rfl;have hnl:(x::r).length=r.length+1:=rfl;rw[YN]at hfs;simp only[List.isEmpty_cons,Bool.not_false,Bool.or_true]at has
    conv=>whnf
    repeat'((first|clear U K|apply st|(apply zk;intro K U)|refine zX ?_|(refine zb (fun hc=>?_) (fun hc=>?_)<;>try exact⟨⟩)|fail)<;>conv=>whnf)
    refine Du ls'.length (fun j (_:Unit)=>[(25,eI (Bj j))]) (fun _ _=>[.own v 1 (iL out)]) (fun j _=>free ls' x=(ls'.drop j).all fun m=> !(m.drop 1).contains x) () rfl rfl hs ?_;clear hs;rintro j - Z hj hfr hs;rcases BJ ls' hj with⟨m,hm0,hjlt⟩|hje
    .have hmb:=(hok'.2 _ (Dn hm0)).1
     rw[drop_cons hm0,W5]at hfr;cases m with
     | nil=>
       have hml:([]:List Int).length=0:=rfl
       conv=>whnf
       repeat'((first|clear U K|apply st|(apply zk;intro K U)|refine zX ?_|(refine zb (fun hc=>?_) (fun hc=>?_)<;>try exact⟨⟩)|fail)<;>conv=>whnf)
       exact⟨hjlt,(),rfl,by rw[hfr];rfl,hs⟩
     | cons y s=>
       have hml:(y::s).length=s.length+1:=rfl
       conv=>whnf
       repeat'((first|clear U K|apply st|(apply zk;intro K U)|refine zX ?_|(refine zb (fun hc=>?_) (fun hc=>?_)<;>try exact⟨⟩)|fail)<;>conv=>whnf)
       refine iI 1 rfl (by omega) (fun _=>rfl) ?_
       conv=>whnf
       repeat'((first|clear U K|apply st|(apply zk;intro K U)|refine zX ?_|refine Pure.use (Ce _ _ _) ?_|refine za (fun hc=>?_) fun hc=>?_|fail)<;>conv=>whnf)
       .rw[hc]at hfr
        have hfr2:free ls' x=false:=by rw[hfr];rfl
        rw[hfr2,if_neg (by decide)]at hfs;exact⟨hlt,true,rfl,⟨hfs,by rw[has]⟩,hs⟩
       .exact⟨hjlt,(),rfl,by rw[hfr,hc];rfl,hs⟩
    .rw[BS hje]at hfr
     have hgood:free ls' x=true:=hfr;rw[hgood,if_pos rfl]at hfs;have hp:pick ls'=some x:=by rw[ZN,cJ hfs];rfl
     have htp:=KV hp
     conv=>whnf
     repeat'((first|clear U K|apply st|(apply zk;intro K U)|refine zX ?_|refine zr fun Z hs=>?_|refine aq fun v Z hs hsl=>?_|refine zp fun nn hnn Z hs=>?_|fail)<;>conv=>whnf)
     have hs2:Sat Z [.own v 1 (iL (out++[x])),.box nn [eI x]]:=hs;refine Du ls'.length (fun k u=>[(11,u),(50,eI (Bj k))]) (fun k u=>[.own v 1 (iL (out++[x])),.box nn [eI x],.own u 1 (Jg ((ls'.take k).map fun l=>l.filter (· != x)))]) (fun _ _=>True) (.l [] true) rfl trivial (Ol hs2 1) ?_;clear hs hs2;rintro q u Z hq - hs;rcases BJ ls' hq with⟨w,hw,hqlt⟩|hqe
     .refine zv ?_;(repeat clear U K);repeat intro K U
      refine(me 333 [] [.p nn 0] [.box nn [eI x]] (· != x) (wV nn x) w false).use (rest:=[_,_]) (hs.perm (.swap _ _ _)) ?_;clear hs;rintro rr post Z ⟨rfl,rfl⟩ hs
      conv=>whnf
      repeat'((first|clear U K|apply st|(apply zk;intro K U)|refine zX ?_|refine aq fun v Z hs hsl=>?_|fail)<;>conv=>whnf)
      refine⟨hqlt,_,rfl,trivial,?_⟩;rw[An hw,Yh];exact hs.perm (.swap _ _ _)
     .refine zv ?_;(repeat clear U K);repeat intro K U
      rw[CE hqe]at hs;refine yc hs 2 rfl fun Z' hs'=>?_
      refine zv ?_;(repeat clear U K);repeat intro K U
      refine⟨(ls'.map fun l=>l.filter (· != x),false,v,out++[x]),htp,rfl,⟨hok'.filter x,by simp;omega,?_⟩,hs'.take 1⟩;rw[<-Wg hp];exact hm
 .rw[CE hke]at hfd hta
  have hp:pick ls'=none:=by rw[ZN,hfd];rfl
  rw[YB hp]at hm;refine zv ?_;(repeat clear U K);repeat intro K U
  refine Br ?_;rw[<-hm];refine .t (.cons (hs.He 0 rfl) (.cons ?_ .nil));have:(!t)=ls'.all List.isEmpty:=by rw[hta];simp[List.all_eq_not_any_not]
  rw[<-this];exact .refl _
abbrev Ord:=Int×V×List Int
def kO (e:Ord):V×V:=(eI e.1,e.2.1)
def dJ (e:Ord):At:= .own e.2.1 1 (iL e.2.2)
abbrev pL (ps:List (List Int×Bool)):List (List V):=ps.map fun p=>[.l (iL p.1) p.2]
abbrev gH (n mm:Nat) (vp vu:V) (ps:List (List Int×Bool)) (us:List Nat) (M:List Ord):List At:=
 .box n [vp,vu,.m mm]:: .own vp 1 (pL ps):: .own vu 1 (us.map fun u=>[eU u]):: .map mm (M.map kO)::M.map dJ
def Bz (M:List Ord) (c:Int):List Int:=((M.find? fun e=>c==e.1).map fun e=>e.2.2).getD []
def IU (M:List Ord) (c:Int):V:=((M.find? fun e=>c==e.1).map fun e=>e.2.1).getD (.l [] true)
def jD (M:List Ord) (c:Int):found (.l [] true) false (CA (eI c) (M.map kO))=IU M c:=by
 induction M with
 | nil=>rfl
 | cons e r ih=>
   simp only[Eg,kO,CA,IU,List.find?_cons]at *;have he:C8 (eI c) (eI e.1)=(c==e.1):=rfl;rw[he];cases c==e.1
   .exact ih
   .rfl
def Xb (M:List Ord): ∀kv∈M.map kO,BD (.i .i64) kv.1=true:=by
 intro kv h;obtain⟨e,_,rfl⟩:=H8.1 h;rfl
def mT {M:List Ord} {c:Int} (v:V) (l:List Int) (h: ∀e∈M,e.1≠c):Cp (eI c) v (M.map kO)=(M++[(c,v,l)]).map kO:=by
 induction M with
 | nil=>rfl
 | cons e r ih=>
   simp only[Eg,List.cons_append,kO,Cp];have he:C8 (eI c) (eI e.1)=(c==e.1):=rfl;rw[he,beq_false_of_ne (fun e'=>h e (.head _) e'.symm)];simp only[cond_false];rw[ih fun e he=>h e (.tail _ he)]
def PV (M:List Ord) (c:Int):(Bz M c= []/\IU M c= .l [] true)\/ ∃j:Nat,(M.map dJ)[j]? =some (At.own (IU M c) 1 (iL (Bz M c))):=by
 unfold Bz IU;cases h:M.find? fun e=>c==e.1 with
 | none=>exact .inl ⟨rfl,rfl⟩
 | some e=>
   refine .inr ?_;obtain⟨j,hj⟩:=List.getElem?_of_mem (List.mem_of_find?_eq_some h);refine⟨j,?_⟩;rw[Np,hj];rfl
def PW {M:List Ord} {c:Int} {Z:AE} {fx:List At} (hs:Sat Z (fx++M.map dJ)) (hl:(Bz M c).length<=As) {K:V->Prop} (hk:K (.i .i64 (Bz M c).length)):Ar (IU M c) K:=by
 rcases PV M c with⟨h1,h2⟩|⟨j,hj⟩
 .rw[h2]
  rw[h1]at hk;exact O1 hk
 .have hj':(fx++M.map dJ)[fx.length+j]? =some (At.own (IU M c) 1 (iL (Bz M c))):=by
   rw[List.getElem?_append_right (by omega),Nat.add_sub_cancel_left,hj]
  exact vY hs _ hj' (by simpa using hl) (by simpa using hk)
def yF {Z:AE} {l:List At} {i mm:Nat} {M:List Ord} {c:Int} {K:V->Prop} (hk:K (IU M c)) (h:Sat Z l:=by assumption)
    (hi:l[i]? =some (.map mm (M.map kO)):=by first|exact Qq|exact Qp|exact Qo|exact Qn|exact Qm|exact Ql):AK Z (.i .i64) (.l [] true) false (.m mm) (eI c) K:=
 GO h i hi rfl (Xb M) (by rw[jD];exact hk)
def xc {M:List Ord} {c:Int} {Z:AE} {fx:List At} (hs:Sat Z (fx++M.map dJ)) (hl:(Bz M c).length<=As) (hne:Bz M c≠[]) {k kp:V->AE->Prop} (hk: ∀Z',Sat Z' (fx++M.map dJ)->k (.l (iL ((Bz M c).filter (· != 0))) false) Z'):Ao zP 331 [IU M c] Z (qk k kp):=by
 rcases PV M c with⟨h1,h2⟩|⟨j,hj⟩
 .exact absurd h1 hne
 .have hj':(fx++M.map dJ)[fx.length+j]? =some (At.own (IU M c) 1 (iL (Bz M c))):=by
   rw[List.getElem?_append_right (by omega),Nat.add_sub_cancel_left,hj]
  refine(ju (Bz M c) (IU M c) hl).oV hs hj' ?_;rintro r Z' rfl hs';exact hk Z' hs'
def WR {Z Z2:AE}: ∀ {a a' b b':List (List V)},FA Z Z2 a a'->FA Z Z2 b b'->FA Z Z2 (a++b) (a'++b')
 | [],[],_,_,.nil,h=>h
 | _::_,_::_,_,_,.cons h1 h2,h=> .cons h1 (WR h2 h)
def jB (n mm:Nat) (vp vu:V) (ps:List (List Int×Bool)) (us:List Nat) (M:List Ord) (c:Int) (l:List Int) (b:Bool) (hc0:0<=c) (hl:ps[c.toNat]? =some (l,b)) (hll:l.length<=3) (hol: ∀c,(Bz M c).length<=As) :
    BK zP 329 [.p n 0,eI c] (gH n mm vp vu ps us M) fun r post=>r= .ret (if l.any fun p=>(Bz M p).isEmpty then .t [.l [] true,.b false]else .t [.l (Jg (l.map (fun p=>(Bz M p).filter (· != 0))++[l])) false,.b true])/\post=gH n mm vp vu ps us M:=by
 intro Z hs;have hM:=Mx;have hci:c<ps.length:=by have:=(Je.1 hl).1;omega
 refine sH kZ ?_;refine zz ?_;(repeat clear U K);repeat intro K U
 refine Du l.length (fun k v=>[(6,v),(17,eI (Bj k))]) (fun k v=> .own v 1 (Jg ((l.take k).map fun p=>(Bz M p).filter (· != 0)))::gH n mm vp vu ps us M) (fun k _=>((l.take k).any fun p=>(Bz M p).isEmpty)=false) (.l [] true) rfl rfl (DN hs 1) ?_;clear hs;rintro k v Z hk hne hs;rcases BJ l hk with⟨p,hp,hlt⟩|hke
 .have han:((l.take (k+1)).any fun p=>(Bz M p).isEmpty)=(Bz M p).isEmpty:=by rw[An hp,List.any_append,hne];simp
  have hap:(l.take k).length<=3:=by rw[NK];omega
  conv=>whnf
  repeat'((first|clear U K|apply st|(apply zk;intro K U)|refine zY ?_|refine yF ?_|refine PW (fx:=_::_::_::_::_:: []) hs (hol _) ?_|refine za (fun hc=>?_) fun hc=>?_|fail)<;>conv=>whnf)
  .have h0:(Bz M p).isEmpty=true:=by rw[List.isEmpty_iff_length_eq_zero];omega
   have hany:(l.any fun p=>(Bz M p).isEmpty)=true:=GF.2 ⟨p,Dn hp,h0⟩;refine A0 (l':=gH n mm vp vu ps us M) hs (NJ _ _) (.refl _) fun Z' hs'=>⟨_,⟨?_,rfl⟩,hs'⟩
   rw[if_pos hany]
  .have h0:(Bz M p).isEmpty=false:=by
    cases h:(Bz M p).isEmpty
    .rfl
    .rw[List.isEmpty_iff_length_eq_zero]at h;omega
   refine xc (fx:=_::_::_::_::_:: []) hs (hol _) (fun e=>by rw[e]at h0;cases h0) fun Z hs=>?_
   conv=>whnf
   repeat'((first|clear U K|apply st|(apply zk;intro K U)|refine zY ?_|refine aq fun v Z hs hsl=>?_|fail)<;>conv=>whnf)
   refine⟨hlt,_,rfl,by rw[han];exact h0,?_⟩;rw[An hp,Yh];exact hs
 .rw[CE hke]at hne hs
  refine zz ?_;(repeat clear U K);repeat intro K U
  refine hAppend hs 0 rfl (by simp;omega) (fun e he=>by simp at he;subst he;rfl) (fun e he v hv=>by simp at he;subst he;simp at hv;subst hv;rfl) fun v Z hs=>?_
  refine zz ?_;(repeat clear U K);repeat intro K U
  obtain⟨Z2,h1,h2,h3⟩:=rT (es':=Jg (l.map (fun p=>(Bz M p).filter (· != 0))++[l])) hs 0 rfl fun Z2=>by
   have e:Jg (l.map (fun p=>(Bz M p).filter (· != 0))++[l])=Jg (l.map fun p=>(Bz M p).filter (· != 0))++[[.l (iL l) false]]:=by simp only[Jg,Yh,Eg,List.map_nil]
   rw[e];exact WR (Jd _) (.cons (.cons eQ .nil) .nil)
  refine JI h1 (.t (.cons h2 (.cons (.refl _) .nil))) ⟨_,⟨?_,rfl⟩,h3⟩;rw[hne,if_neg (by decide)]
def Sat.yW {Z:AE} {l:List At} {a:At} (h:Sat Z (a::l)):Sat Z (l++[a]):=h.perm (by
 have:=OD (l₁:=[a]) (l₂:=l)
 simpa using this)
def Cu (M:List Ord) (l:List Int):List (List Int):=l.map (fun p=>(Bz M p).filter (· != 0))++[l]
def GV (M:List Ord) (l:List Int) (c:Int):List Int:=
 if c=0 then [0]else if l.any (fun p=>(Bz M p).isEmpty)then []else if(DP (Cu M l)).2 then [c]++(DP (Cu M l)).1++[0]else []
def Zf (n mm:Nat) (vp vu:V) (ps:List (List Int×Bool)) (us:List Nat) (M:List Ord) {c:Int} {v:V} {l:List Int} (hk: ∀e∈M,e.1≠c) {Z:AE}
    (hs:Sat Z (.own v 1 (iL l):: .box n [vp,vu,.m mm]:: .own vp 1 (pL ps):: .own vu 1 (us.map fun u=>[eU u]):: .map mm (Cp (eI c) v (M.map kO))::M.map dJ)):Sat Z (gH n mm vp vu ps us (M++[(c,v,l)])):=by
 rw[mT v l hk]at hs;have:=hs.yW;unfold gH;rw[Yh (f:=dJ)];exact this
def iZ (n mm:Nat) (vp vu:V) (ps:List (List Int×Bool)) (us:List Nat) (M:List Ord) (c:Int) (l:List Int) (b:Bool) (hc0:0<=c) (hl:ps[c.toNat]? =some (l,b)) (hll:l.length<=3) (hol: ∀c,(Bz M c).length<=As) (hk: ∀e∈M,e.1≠c)
    (hok:XH (Cu M l)) (ht:total (Cu M l)<1000000000) :
    BK zP 327 [.p n 0,eI c] (gH n mm vp vu ps us M) fun r post=>r= .ret (.t [])/\ ∃M',post=gH n mm vp vu ps us M'/\((M'=M/\GV M l c= [])\/ ∃v,M'=M++[(c,v,GV M l c)]/\GV M l c≠[]):=by
 intro Z hs;have hM:=Mx;refine sI kZ ?_;by_cases hc:c=0
 .subst hc
  conv=>whnf
  repeat'((first|clear U K|apply st|(apply zk;intro K U)|refine zY ?_|(refine zb (fun hc=>?_) (fun hc=>?_)<;>try exact⟨⟩)|fail)<;>conv=>whnf)
  refine GN hs 3 rfl rfl (Xb M) fun Z hs=>?_
  refine zz ?_;(repeat clear U K);repeat intro K U
  refine A0 (l':=gH n mm vp vu ps us (M++[(0,.l [[eI 0]] true,[0])])) ?_ (List.Sublist.refl _) (.refl _) fun Z' hs'=>⟨_,⟨rfl,_,rfl,.inr ⟨.l [[eI 0]] true,?_,?_⟩⟩,hs'⟩
  .refine Zf n mm vp vu ps us M hk ?_
   exact eP hs (fun e he=>by simp at he;subst he;rfl)
  .rw[GV,if_pos rfl]
  .rw[GV,if_pos rfl];exact fun e=>by cases e
 .have hoc:GV M l c=if l.any (fun p=>(Bz M p).isEmpty)then []else if(DP (Cu M l)).2 then [c]++(DP (Cu M l)).1++[0]else []:=by rw[GV,if_neg hc]
  have hli:=jB n mm vp vu ps us M c l b hc0 hl hll hol;have hmg:=iy (Cu M l) false hok (by omega);have hml:=Kg (total (Cu M l)) (Cu M l) [];have hml2:(DP (Cu M l)).1.length<=total (Cu M l):=by simpa[DP]using hml
  cases hany:l.any fun p=>(Bz M p).isEmpty
  .rw[hany,if_neg (by decide)]at hoc
   simp only[hany,Jf,if_false]at hli;have hdn: ∀ {Z:AE} {M':List Ord},Sat Z (gH n mm vp vu ps us M')->((M'=M/\GV M l c= [])\/ ∃v,M'=M++[(c,v,GV M l c)]/\GV M l c≠[])->Ai Z (.t []) fun r Z'=> ∃post,(r= .ret (.t [])/\ ∃M',post=gH n mm vp vu ps us M'/\((M'=M/\GV M l c= [])\/ ∃v,M'=M++[(c,v,GV M l c)]/\GV M l c≠[]))/\Sat Z' post:=fun hs h=>A0 hs (List.Sublist.refl _) (.refl _) fun Z' hs'=>⟨_,⟨rfl,_,rfl,h⟩,hs'⟩
   conv=>whnf
   repeat'((first|clear U K|apply st|(apply zk;intro K U)|refine zY ?_|(refine zb (fun hc=>?_) (fun hc=>?_)<;>try exact⟨⟩)|fail)<;>conv=>whnf)
   refine hli.use (rest:=[]) (by simpa using hs) ?_;clear hs;rintro r post Z ⟨rfl,rfl⟩ hs;rw[Fj]at hs;have hml3:(Cu M l)=l.map (fun p=>(Bz M p).filter (· != 0))++[l]:=rfl;rw[<-hml3];generalize Cu M l=ll at *;cases hb:(DP ll).2<;>rw[hb]at hmg hoc
   .conv=>whnf
    repeat'((first|clear U K|apply st|(apply zk;intro K U)|refine zY ?_|refine zC ?_|fail)<;>conv=>whnf)
    exact hdn hs (.inl ⟨rfl,by rw[hoc];rfl⟩)
   .rw[if_pos rfl]at hoc
    conv=>whnf
    repeat'((first|clear U K|apply st|(apply zk;intro K U)|refine zY ?_|refine zC ?_|fail)<;>conv=>whnf)
    replace hs:=eP hs (sz:=1) (es:=[[eI c]]) (fun e he=>by simp at he;subst he;rfl);refine O5 hs 0 (xs:=[c]) (ys:=(DP ll).1) rfl (by simp;omega) Dt fun v Z hs=>?_
    conv=>whnf
    repeat'((first|apply st|refine zY ?_|refine rk ?_ ?_|exact fun s e=>by cases e;rfl|refine aq fun v Z hs hsl=>?_|fail)<;>conv=>whnf)
    refine GN hs 4 rfl rfl (Xb M) fun Z hs=>?_
    refine zz ?_;(repeat clear U K);repeat intro K U
    refine hdn (Zf n mm vp vu ps us M hk (l:=GV M l c) ?_) (.inr ⟨v,rfl,by rw[hoc];simp⟩);rw[hoc];exact hs
  .rw[hany,if_pos rfl]at hoc
   simp only[hany,if_true]at hli
   conv=>whnf
   repeat'((first|clear U K|apply st|(apply zk;intro K U)|refine zY ?_|(refine zb (fun hc=>?_) (fun hc=>?_)<;>try exact⟨⟩)|fail)<;>conv=>whnf)
   refine hli.use (rest:=[]) (by simpa using hs) ?_;clear hs;rintro r post Z ⟨rfl,rfl⟩ hs;rw[Fj]at hs;refine zz ?_;(repeat clear U K);repeat intro K U
   exact A0 hs (List.Sublist.refl _) (.refl _) fun Z' hs'=>⟨_,⟨rfl,_,rfl,.inl ⟨rfl,hoc⟩⟩,hs'⟩
end Go.Gl
