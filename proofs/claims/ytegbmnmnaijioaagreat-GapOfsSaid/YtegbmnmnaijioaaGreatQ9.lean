import Derived.Shelf.Sort.Plain
import Derived.Test.YtegbmnmnaijioaaGreatProg
import Derived.Test.YtegbmnmnaijioaaGreatQ6
import Derived.Test.YtegbmnmnaijioaaGreatQ8
set_option linter.all false
set_option linter.defProp false
set_option maxHeartbeats 8000000
noncomputable section
namespace Go.Gl
open Go.Proofs
attribute [local irreducible] Au Am Ab AR AK AY AQ AS AJ AX AN AP Ao Az Sat AU Ax Ad W
def Uk {xs:List Int} {f:Bool} (h:FP (.l (iL xs) f)):xs.length<=AZ:=MH h
def lK:Pure zP 283 [.b true] (.t []):=by
 refine jO kZ ?_;have hs:=Sn;exact zW
abbrev D5:V:= .FO 377 (.a [])
def sy (xs:List Int) (x:Int):Int:=(Br (fun y (_:Unit)=>(x==y,())) xs 0 ()).1
def M4 {α:Type} (f:α->Bool): ∀(xs:List α) (k:Nat),(decide ((Br (fun y (_:Unit)=>(f y,())) xs k ()).1≥0))=xs.any f
 | [],_=>rfl
 | y::r,k=>by
   simp only[Br,PV];cases f y
   .simpa using M4 f r (k+1)
   .simp
def Vf (xs:List Int) (x:Int):xs.any (x== ·)=xs.contains x:=by
 induction xs with
 | nil=>rfl
 | cons y r ih=>rw[PV,List.contains_cons,ih]
def pV (xs:List Int) (x:Int):decide (sy xs x≥0)=xs.contains x:=by
 rw[<-Vf];exact M4 (x== ·) xs 0
def lY (xs:List Int) (f:Bool) (x:Int):Pure zP 96 [.l (iL xs) f,eI x] (eI (sy xs x)):=by
 refine Pure.fit (by kernel_rfl) fun hf=>?_
 have hxl:=Uk hf.1;have hM:=Mx;refine AAx kZ ?_;have hs:=Sn;refine zv ?_;(repeat clear U K);repeat intro K U
 refine Bw xs.length (fun k (_:Unit)=>[(8,eI (A6 k))]) (fun _ _=>[]) (fun k _=>sy xs x=(Br (fun y (_:Unit)=>(x==y,())) (xs.drop k) k ()).1) () rfl rfl hs ?_;clear hs;rintro k - Z hk hn hs;have hck:A6 k=k:=Ae (by omega);rcases A7 xs hk with⟨y,hy,hlt⟩|hke
 .rw[drop_cons hy,Br]at hn
  conv=>whnf
  repeat'((first|clear U K|apply st|(apply zk;intro K U)|refine zX ?_|refine za (fun hc=>?_) fun hc=>?_|fail)<;>conv=>whnf)
  .exact AF (by rw[hn,hc,hck];simp)
  .exact⟨hlt,(),rfl,by rw[hn];simp[hc],hs⟩
 .rw[Ai hke,Br]at hn
  refine zv ?_;(repeat clear U K);repeat intro K U
  exact AF (by rw[hn])
def C1 (xs:List Int) (f:Bool) (x:Int):Pure zP 34 [.l (iL xs) f,eI x] (.b (xs.contains x)):=by
 refine ABF kZ ?_;have hs:=Sn
 conv=>whnf
 repeat'((first|clear U K|apply st|(apply zk;intro K U)|refine zX ?_|refine Pure.use (lY _ _ _) ?_|fail)<;>conv=>whnf)
 all_goals exact AF (by rw[<-pV])
def SF (n:Int):Pure zP 326 [eI n] (.b (UR n)):=by
 refine vg kZ ?_;have hs:=Sn
 conv=>whnf
 repeat'((first|clear U K|apply st|(apply zk;intro K U)|refine zX ?_|refine za (fun hc=>?_) fun hc=>?_|fail)<;>conv=>whnf)
 all_goals exact AF (by simp[UR, *]<;>omega)
def Mu (f:Fact):CI f=(decide (2<=f.op)&&decide (f.op<=4)):=by
 rw[IZ];simp only[CI,Fm,A9,DD,Cc];omega
def VA (f:Fact):Pure zP 180 [.a (xF f)] (.b (CI f)):=by
 refine yA kZ ?_;have hs:=Sn
 conv=>whnf
 repeat'((first|clear U K|apply st|(apply zk;intro K U)|refine zX ?_|refine za (fun hc=>?_) fun hc=>?_|fail)<;>conv=>whnf)
 all_goals exact AF (by rw[Mu];simp[*]<;>omega)
def aJ (s c:Nat) (hs0:s<18446744073709551616) (hc:c<64):Pure zP 245 [eU s,eI c] (eU (s|||2 ^ c)):=by
 refine xM kZ ?_;have hs:=Sn
 conv=>whnf
 repeat'((first|clear U K|apply st|(apply zk;intro K U)|fail)<;>conv=>whnf)
 refine⟨Int.natCast_nonneg _,?_⟩;refine zv ?_;(repeat clear U K);repeat intro K U
 exact AF (by rw[GB,U1 hc,It hs0 (Ie hc)])
def Uf (s c:Nat) (hs0:s<18446744073709551616) (hc:c<64):Pure zP 182 [eU s,eI c] (.b (s.testBit c)):=by
 refine x9 kZ ?_;have hs:=Sn
 conv=>whnf
 repeat'((first|clear U K|apply st|(apply zk;intro K U)|fail)<;>conv=>whnf)
 refine⟨Int.natCast_nonneg _,?_⟩;refine zv ?_;(repeat clear U K);repeat intro K U
 refine AF ?_;rw[GB,U0 hc];have h1:s >>> c<18446744073709551616:=by rw[Nat.shiftRight_eq_div_pow];exact Nat.lt_of_le_of_lt (Nat.div_le_self _ _) hs0
 have h2:bits .and .u64 ((s >>> c:Nat):Int) 1=((s >>> c&&&1:Nat):Int):=F7 h1 (show 1<_ by decide);rw[h2];simp only[Nat.testBit,Nat.and_comm 1];congr 1;rcases Nat.mod_two_eq_zero_or_one (s >>> c)with h|h<;>simp[Nat.and_one_is_mod,h]
def pO (op:Int):Pure zP 303 [eI op] (eI (Ch op)):=by
 refine wN kZ ?_;have hs:=Sn
 conv=>whnf
 repeat'((first|clear U K|apply st|(apply zk;intro K U)|refine zX ?_|refine za (fun hc=>?_) fun hc=>?_|fail)<;>conv=>whnf)
 all_goals exact AF (by simp[Ch, *])
def ZA (b:Bool):Pure zP 218 [.b b] (eI (if b then 0 else 2)):=by
 refine xd kZ ?_;have hs:=Sn
 conv=>whnf
 repeat'((first|clear U K|apply st|(apply zk;intro K U)|refine za (fun hc=>?_) fun hc=>?_|fail)<;>conv=>whnf)
 all_goals exact AF (by simp[*])
def JB {S:Type} (g:FuncId) (fi ca:List V) (H:S->List At) (stp:Int->S->Bool×S) (D:Int->S->Prop) (hx:DG zP (.f (.func g) fi ca) eI H stp D) (xs:List Int) (f:Bool) (s0:S) (hd:YI stp D xs s0) :
    BT zP 117 [.l (iL xs) f,.f (.func g) fi ca] (H s0) fun r post=>r= .ret (eI (Br stp xs 0 s0).1)/\post=H (Br stp xs 0 s0).2:=by
 intro Z hs;refine Au.fit (by kernel_rfl) fun hf=>?_
 have hxl:=Uk hf.1;have hM:=Mx;refine jY kZ ?_;refine zv ?_;(repeat clear U K);repeat intro K U
 refine Bw xs.length (fun k (_:S)=>[(8,eI (A6 k))]) (fun _ s=>H s) (fun k s=>YI stp D (xs.drop k) s/\Br stp xs 0 s0=Br stp (xs.drop k) k s) s0 rfl ⟨hd,rfl⟩ hs ?_;clear hs;rintro k s Z hk ⟨hd,hn⟩ hs;have hck:A6 k=k:=Ae (by omega);rcases A7 xs hk with⟨y,hy,hlt⟩|hke
 .rw[drop_cons hy]at hn hd
  obtain⟨hd1,hd2⟩:=hd;rw[Br]at hn;refine zv ?_;(repeat clear U K);repeat intro K U
  refine hx.use hd1 hs ?_;clear hs;intro Z hs
  conv=>whnf
  repeat'((first|clear U K|apply st|(apply zk;intro K U)|refine zX ?_|refine za (fun hc=>?_) fun hc=>?_|fail)<;>conv=>whnf)
  .rw[hc,if_pos rfl]at hn
   rw[hn];exact As hs (List.Sublist.refl _) (by rw[hck];exact .refl _) fun Z' hs'=>⟨_,⟨rfl,rfl⟩,hs'⟩
  .rw[hc,if_neg (by decide)]at hn
   exact⟨hlt,_,rfl,⟨hd2,hn⟩,hs⟩
 .rw[Ai hke,Br]at hn
  refine zv ?_;(repeat clear U K);repeat intro K U
  rw[hn];exact As hs (List.Sublist.refl _) (.refl _) fun Z' hs'=>⟨_,⟨rfl,rfl⟩,hs'⟩
section
variable {S:Type} (g:FuncId) (fi ca:List V) (H:S->List At)
def G1 (stp:Int->S->Bool×S) (D:Int->S->Prop) (hx:DG zP (.f (.func g) fi ca) eI H stp D) (xs:List Int) (f:Bool) (s0:S) (hd:YI stp D xs s0) :
    BT zP 49 [.l (iL xs) f,.f (.func g) fi ca] (H s0) fun r post=>r= .ret (.b (decide ((Br stp xs 0 s0).1≥0)))/\post=H (Br stp xs 0 s0).2:=by
 intro Z hs;refine sA kZ ?_
 conv=>whnf
 repeat'((first|clear U K|apply st|(apply zk;intro K U)|fail)<;>conv=>whnf)
 refine(JB g fi ca H stp D hx xs f s0 hd).use (rest:=[]) (by simpa using hs) ?_;rintro r post Z ⟨rfl,rfl⟩ hs;refine zv ?_;(repeat clear U K);repeat intro K U
 exact As hs (by simp) (.refl _) fun Z' hs'=>⟨_,⟨rfl,rfl⟩,hs'⟩
def uC (stp:Int->S->Bool×S) (D:Int->S->Prop) (hx:DG zP (.f (.func g) fi ca) eI H stp D):DG zP (.f (.func 301) [] [.rp [.f (.func g) fi ca]]) eI H (fun y s=>(!(stp y s).1,(stp y s).2)) D:=by
 intro y s hd Z hs;refine BN ?_;show Au zP 301 ([]++[eI y]++[.rp [.f (.func g) fi ca]]) Z _;refine jK kZ ?_;refine zv ?_;(repeat clear U K);repeat intro K U
 refine hx.use hd hs ?_;clear hs;intro Z hs;refine zv ?_;(repeat clear U K);repeat intro K U
 exact As hs (List.Sublist.refl _) (.refl _) fun Z' hs'=>⟨rfl,hs'⟩
def ji (stp:Int->S->Bool×S) (D:Int->S->Prop) (hx:DG zP (.f (.func g) fi ca) eI H stp D) (xs:List Int) (f:Bool) (s0:S) (hd:YI stp D xs s0) :
    BT zP 246 [.l (iL xs) f,.f (.func g) fi ca] (H s0) fun r post=>r= .ret (.b (CQ stp xs s0).1)/\post=H (CQ stp xs s0).2:=by
 intro Z hs;obtain⟨e1,e2⟩:=OR (stp:=stp) xs 0 s0;refine jR kZ ?_
 conv=>whnf
 repeat'((first|clear U K|apply st|(apply zk;intro K U)|fail)<;>conv=>whnf)
 refine(G1 301 [] [.rp [.f (.func g) fi ca]] H _ D (uC g fi ca H stp D hx) xs f s0 (U4 xs s0 hd)).use (rest:=[]) (by simpa using hs) ?_;rintro r post Z ⟨rfl,rfl⟩ hs;rw[e2];rw[e1]at hs;refine zv ?_;(repeat clear U K);repeat intro K U
 exact As hs (by simp) (by rw[Bool.not_not];exact .refl _) fun Z' hs'=>⟨_,⟨rfl,rfl⟩,hs'⟩
def VZ (stp:Fact->S->Bool×S) (D:Fact->S->Prop) (hx:DG zP (.f (.func g) fi ca) (fun y=> .a (xF y)) H stp D) (xs:List Fact) (f:Bool) (s0:S) (hxl:xs.length<=AZ) (hd:YI stp D xs s0) :
    BT zP 330 [.l (facts xs) f,.f (.func g) fi ca] (H s0) fun r post=>r= .ret (eI (Br stp xs 0 s0).1)/\post=H (Br stp xs 0 s0).2:=by
 intro Z hs;have hM:=Mx;refine vZ kZ ?_;refine zv ?_;(repeat clear U K);repeat intro K U
 refine Bw xs.length (fun k (_:S)=>[(8,eI (A6 k))]) (fun _ s=>H s) (fun k s=>YI stp D (xs.drop k) s/\Br stp xs 0 s0=Br stp (xs.drop k) k s) s0 rfl ⟨hd,rfl⟩ hs ?_;clear hs;rintro k s Z hk ⟨hd,hn⟩ hs;have hck:A6 k=k:=Ae (by omega);rcases A7 xs hk with⟨y,hy,hlt⟩|hke
 .rw[drop_cons hy]at hn hd
  obtain⟨hd1,hd2⟩:=hd;rw[Br]at hn;refine zv ?_;(repeat clear U K);repeat intro K U
  refine hx.use hd1 hs ?_;clear hs;intro Z hs
  conv=>whnf
  repeat'((first|clear U K|apply st|(apply zk;intro K U)|refine zX ?_|refine za (fun hc=>?_) fun hc=>?_|fail)<;>conv=>whnf)
  .rw[hc,if_pos rfl]at hn
   rw[hn];exact As hs (List.Sublist.refl _) (by rw[hck];exact .refl _) fun Z' hs'=>⟨_,⟨rfl,rfl⟩,hs'⟩
  .rw[hc,if_neg (by decide)]at hn
   exact⟨hlt,_,rfl,⟨hd2,hn⟩,hs⟩
 .rw[Ai hke,Br]at hn
  refine zv ?_;(repeat clear U K);repeat intro K U
  rw[hn];exact As hs (List.Sublist.refl _) (.refl _) fun Z' hs'=>⟨_,⟨rfl,rfl⟩,hs'⟩
def PU (stp:Fact->S->Bool×S) (D:Fact->S->Prop) (hx:DG zP (.f (.func g) fi ca) (fun y=> .a (xF y)) H stp D) (xs:List Fact) (f:Bool) (s0:S) (hxl:xs.length<=AZ) (hd:YI stp D xs s0) :
    BT zP 291 [.l (facts xs) f,.f (.func g) fi ca] (H s0) fun r post=>r= .ret (.b (decide ((Br stp xs 0 s0).1≥0)))/\post=H (Br stp xs 0 s0).2:=by
 intro Z hs;refine wV kZ ?_
 conv=>whnf
 repeat'((first|clear U K|apply st|(apply zk;intro K U)|fail)<;>conv=>whnf)
 refine(VZ g fi ca H stp D hx xs f s0 hxl hd).use (rest:=[]) (by simpa using hs) ?_;rintro r post Z ⟨rfl,rfl⟩ hs;refine zv ?_;(repeat clear U K);repeat intro K U
 exact As hs (by simp) (.refl _) fun Z' hs'=>⟨_,⟨rfl,rfl⟩,hs'⟩
def uB (stp:Fact->S->Bool×S) (D:Fact->S->Prop) (hx:DG zP (.f (.func g) fi ca) (fun y=> .a (xF y)) H stp D):DG zP (.f (.func 302) [] [.rp [.f (.func g) fi ca]]) (fun y=> .a (xF y)) H (fun y s=>(!(stp y s).1,(stp y s).2)) D:=by
 intro y s hd Z hs;refine BN ?_;show Au zP 302 ([]++[.a (xF y)]++[.rp [.f (.func g) fi ca]]) Z _;refine wO kZ ?_;refine zv ?_;(repeat clear U K);repeat intro K U
 refine hx.use hd hs ?_;clear hs;intro Z hs;refine zv ?_;(repeat clear U K);repeat intro K U
 exact As hs (List.Sublist.refl _) (.refl _) fun Z' hs'=>⟨rfl,hs'⟩
def jh (stp:Fact->S->Bool×S) (D:Fact->S->Prop) (hx:DG zP (.f (.func g) fi ca) (fun y=> .a (xF y)) H stp D) (xs:List Fact) (f:Bool) (s0:S) (hxl:xs.length<=AZ) (hd:YI stp D xs s0) :
    BT zP 248 [.l (facts xs) f,.f (.func g) fi ca] (H s0) fun r post=>r= .ret (.b (CQ stp xs s0).1)/\post=H (CQ stp xs s0).2:=by
 intro Z hs;obtain⟨e1,e2⟩:=OR (stp:=stp) xs 0 s0;refine xK kZ ?_
 conv=>whnf
 repeat'((first|clear U K|apply st|(apply zk;intro K U)|fail)<;>conv=>whnf)
 refine(PU 302 [] [.rp [.f (.func g) fi ca]] H _ D (uB g fi ca H stp D hx) xs f s0 hxl (U4 xs s0 hd)).use (rest:=[]) (by simpa using hs) ?_;rintro r post Z ⟨rfl,rfl⟩ hs;rw[e2];rw[e1]at hs;refine zv ?_;(repeat clear U K);repeat intro K U
 exact As hs (by simp) (by rw[Bool.not_not];exact .refl _) fun Z' hs'=>⟨_,⟨rfl,rfl⟩,hs'⟩
end
abbrev WE (f:Int->Bool):Int->Unit->Bool×Unit:=fun y _=>(f y,())
def RY {g:FuncId} {fi ca:List V} {f:Int->Bool} {D:Int->Unit->Prop} (h: ∀y,D y ()->Pure zP g (fi++[eI y]++ca) (.b (f y))):DG zP (.f (.func g) fi ca) eI (fun _=>[]) (WE f) D:=by
 intro y s hd Z hs;refine BN ?_;show Au zP g (fi++[eI y]++ca) Z _;refine Au.mono ((h y hd).use (k:=fun v Z'=>v= .b (f y)/\Sat Z' []) (kp:=fun _ _=>False) ⟨rfl,Sat.nil⟩) ?_;rintro(v|v) Z' hq
 .obtain⟨rfl,h⟩:=hq
  exact⟨rfl,h⟩
 .exact hq.elim
def qv {g:FuncId} {fi ca:List V} {f:Int->Bool} {xs:List Int} (b:Bool) (h: ∀y∈xs,Pure zP g (fi++[eI y]++ca) (.b (f y))):Pure zP 246 [.l (iL xs) b,.f (.func g) fi ca] (.b (xs.all f)):=by
 have:=ji g fi ca (fun _=>[]) (WE f) (fun y _=>y∈xs) (RY fun y hy=>h y hy) xs b () (HZ fun y hy _=>hy);rw[Ks]at this;exact Pure.of (Au.mono (this emp Sat.nil) fun r Z' ⟨post,⟨h1,h2⟩,h3⟩=>h1)
def WZ (g:FuncId) (fi ca:List V) (f:Int->Bool):Prop:= ∀y:Int,Pure zP g (fi++[eI y]++ca) (.b (f y))
def WZ.use {g:FuncId} {fi ca:List V} {f:Int->Bool} (h:WZ g fi ca f) {y:Int} {Z:AE} {k kp:V->AE->Prop} (hk:k (.b (f y)) Z):Ao zP (.f (.func g) fi ca) [eI y] Z (qk k kp):=BN ((h y).use hk)
def pT (g:FuncId) (fi ca:List V) (L:List At) (p:Int->Bool) (hx:DG zP (.f (.func g) fi ca) eI (fun _:Unit=>L) (WE p) (fun _ _=>True)) (xs:List Int) (f:Bool):BT zP 380 [.l (iL xs) f,.f (.func g) fi ca] L fun r post=>r= .ret (.l (iL (xs.filter p)) false)/\post=L:=by
 intro Z hs;refine Au.fit (by kernel_rfl) fun hf=>?_
 have hxl:=Uk hf.1;have hM:=Mx;refine jH kZ ?_;refine zv ?_;(repeat clear U K);repeat intro K U
 refine Bw xs.length (fun k v=>[(5,v),(10,eI (A6 k))]) (fun k v=>L++[.own v 1 (iL ((xs.take k).filter p))]) (fun _ _=>True) (.l [] true) rfl trivial (Dw hs 1) ?_;clear hs;rintro k v Z hk - hs;have hfl:=Oc p (xs.take k);rw[Jd]at hfl;rcases A7 xs hk with⟨y,hy,hlt⟩|hke
 .have hst:(xs.take (k+1)).filter p=if p y then(xs.take k).filter p++[y]else(xs.take k).filter p:=by
   rw[AO hy,List.filter_append];cases hp:p y<;>simp[hp]
  generalize (xs.take k).filter p=zs at *
  conv=>whnf
  repeat'((first|clear U K|apply st|(apply zk;intro K U)|refine zX ?_|refine hx.useF (s:=()) (rest:=[_]) trivial hs (fun Z hs=>?_)|(refine zd (fun hc=>?_) (fun hc=>?_)<;>try exact⟨⟩)|fail)<;>conv=>whnf)
  .refine Gu (GN hs L.length (xs:=zs) (x:=y) List.getElem?_concat_length (by omega) Bm fun v' Z' hs' hsl=>?_)
   rw[List.set_append_right _ _ (IW _),Nat.sub_self]at hs';replace hs:=hs';refine zv ?_;(repeat clear U K);repeat intro K U
   rw[if_pos (by assumption)]at hst;exact⟨hlt,_,rfl,trivial,by rw[hst];exact hs⟩
  .rw[if_neg (by simp[*])]at hst
   exact⟨hlt,_,rfl,trivial,by rw[hst];exact hs⟩
 .refine zv ?_;(repeat clear U K);repeat intro K U
  rw[Aq hke]at hs;obtain⟨Z2,h1,h2,h3⟩:=HC hs L.length List.getElem?_concat_length;refine HN h1 h2 ⟨_,⟨rfl,rfl⟩,?_⟩;rw[List.eraseIdx_append_of_length_le (IW _),Nat.sub_self]at h3;simpa using h3
def lV (g:FuncId) (fi ca:List V) (p:Int->Bool) (hpf:WZ g fi ca p) (xs:List Int) (u:V) (hxl:xs.length<=AZ):BT zP 380 [u,.f (.func g) fi ca] [.own u 1 (iL xs)] fun r post=>r= .ret (.l (iL (xs.filter p)) false)/\post= [.own u 1 (iL xs)]:=by
 intro Z hs;have hM:=Mx;refine jH kZ ?_;refine zv ?_;(repeat clear U K);repeat intro K U
 refine Bw xs.length (fun k v=>[(5,v),(10,eI (A6 k))]) (fun k v=>[.own u 1 (iL xs),.own v 1 (iL ((xs.take k).filter p))]) (fun _ _=>True) (.l [] true) rfl trivial (Dw hs 1) ?_;clear hs;rintro k v Z hk - hs;have hfl:=Oc p (xs.take k);rw[Jd]at hfl;rcases A7 xs hk with⟨y,hy,hlt⟩|hke
 .have hst:(xs.take (k+1)).filter p=if p y then(xs.take k).filter p++[y]else(xs.take k).filter p:=by
   rw[AO hy,List.filter_append];cases hp:p y<;>simp[hp]
  generalize (xs.take k).filter p=zs at *
  conv=>whnf
  repeat'((first|clear U K|apply st|(apply zk;intro K U)|refine zX ?_|refine aq fun v Z hs hsl=>?_|refine WZ.use hpf ?_|refine za (fun hc=>?_) fun hc=>?_|fail)<;>conv=>whnf)
  .rw[if_pos (by assumption)]at hst
   exact⟨hlt,_,rfl,trivial,by rw[hst];exact hs.take 2⟩
  .rw[if_neg (by simp[*])]at hst
   exact⟨hlt,_,rfl,trivial,by rw[hst];exact hs.take 2⟩
 .refine zv ?_;(repeat clear U K);repeat intro K U
  rw[Aq hke]at hs;obtain⟨Z2,h1,h2,h3⟩:=HC hs 1 rfl;exact HN h1 h2 ⟨_,⟨rfl,rfl⟩,h3⟩
def AAX:WZ 382 [] [] (· != 0):=by
 intro y;refine uq kZ ?_;have hs:=Sn;exact zW
def mY (xs:List Int) (u:V) (hxl:xs.length<=AZ):BT zP 379 [u] [.own u 1 (iL xs)] fun r post=>r= .ret (.l (iL (xs.filter (· != 0))) false)/\post= [.own u 1 (iL xs)]:=by
 intro Z hs;refine uu kZ ?_
 conv=>whnf
 repeat'((first|clear U K|apply st|(apply zk;intro K U)|fail)<;>conv=>whnf)
 refine(lV 382 [] [] (· != 0) AAX xs u hxl).use (rest:=[]) hs ?_;clear hs;rintro r post Z ⟨rfl,rfl⟩ hs;refine zv ?_;(repeat clear U K);repeat intro K U
 exact As hs (by simp) (.refl _) fun Z' hs'=>⟨_,⟨rfl,rfl⟩,hs'⟩
def bX (g : List (List Int)) (f:Bool):Pure zP 352 [.l (EK g) f] (.b (Dy g)):=by
 refine Pure.fit (by kernel_rfl) fun hf=>?_
 have⟨g1,g2⟩:=Uj hf.1;have hM:=Mx;refine vO kZ ?_;have hs:=Sn;by_cases h16:g.length<=16
 .conv=>whnf
  repeat'((first|clear U K|apply st|(apply zk;intro K U)|refine zX ?_|(refine zb (fun hc=>?_) (fun hc=>?_)<;>try exact⟨⟩)|fail)<;>conv=>whnf)
  all_goals try(exfalso;omega)
  refine Bw g.length (fun k (_:Unit)=>[(12,eI (A6 k))]) (fun _ _=>[]) (fun k _=>Dy g=JI k (g.drop k)) () rfl (by simp[Dy,h16]) hs ?_;clear hs;rintro k - Z hk hn hs;have hck:A6 k=k:=Ae (by omega);rcases A7 g hk with⟨l,hl,hlt⟩|hke
  .have hll:=g2 l (Bo hl)
   rw[drop_cons hl,JI]at hn;by_cases h3:l.length<=3
   .rw[decide_eq_true h3,EA]at hn
    conv=>whnf
    repeat'((first|clear U K|apply st|(apply zk;intro K U)|refine zX ?_|(refine zb (fun hc=>?_) (fun hc=>?_)<;>try exact⟨⟩)|fail)<;>conv=>whnf)
    all_goals try(exfalso;omega)
    refine Bw l.length (fun j (_:Unit)=>[(22,eI (A6 j))]) (fun _ _=>[]) (fun j _=>Dy g=(Ng k (l.take j) (l.drop j)&&JI (k+1) (g.drop (k+1)))) () rfl hn hs ?_;clear hs hn;rintro j - Z hj hn hs;rcases A7 l hj with⟨c,hc0,hjlt⟩|hje
    .rw[drop_cons hc0,Ng,sW]at hn
     have hw:IntKind.i64.wrap (3+A6 k)=3+(k:Int):=by rw[hck,wrap64 (by omega) (by omega)]
     conv=>whnf
     repeat'((first|clear U K|apply st|(apply zk;intro K U)|refine zX ?_|refine Pure.use (C1 _ _ _) ?_|(refine zd (fun hc=>?_) (fun hc=>?_)<;>try exact⟨⟩)|fail)<;>conv=>whnf)
     .exact AF (by rw[hn,hc];simp)
     .exact⟨hjlt,(),rfl,by rw[hn,hc,AO hc0];simp[*],hs⟩
     .exact AF (by(rw[hn];have: ¬c<3+(k:Int):=by omega);simp[this])
     .exact AF (by(rw[hn];have: ¬3<=c:=by omega);simp[this])
    .refine zv ?_;(repeat clear U K);repeat intro K U
     exact⟨hlt,(),rfl,by rw[hn,Ai hje];rfl,hs⟩
   .conv=>whnf
    repeat'((first|clear U K|apply st|(apply zk;intro K U)|refine zX ?_|(refine zb (fun hc=>?_) (fun hc=>?_)<;>try exact⟨⟩)|fail)<;>conv=>whnf)
    all_goals try(exfalso;omega)
    exact AF (by rw[hn];simp[h3])
  .refine zv ?_;(repeat clear U K);repeat intro K U
   exact AF (by rw[hn,Ai hke];rfl)
 .conv=>whnf
  repeat'((first|clear U K|apply st|(apply zk;intro K U)|refine zX ?_|(refine zb (fun hc=>?_) (fun hc=>?_)<;>try exact⟨⟩)|fail)<;>conv=>whnf)
  all_goals try(exfalso;omega)
  exact AF (by simp[Dy,h16])
def XQ (g:List (List Int)) (f:Bool):Pure zP 323 [.l (EK g) f] (eI (if Dy g then 0 else 2)):=by
 refine vq kZ ?_;have hs:=Sn
 conv=>whnf
 repeat'((first|clear U K|apply st|(apply zk;intro K U)|refine Pure.use (bX _ _) ?_|refine za (fun hc=>?_) fun hc=>?_|fail)<;>conv=>whnf)
 all_goals exact AF (by simp[*])
def AAY (n:Nat) (h:Int):DG zP (.f (.func 381) [] [.p n 0]) eI (fun _:Unit=>[.box n [eI h]]) (WE (· != h)) (fun _ _=>True):=by
 intro y s _ Z hs;refine BN ?_;show Au zP 381 ([]++[eI y]++[.p n 0]) Z _;refine ur kZ ?_;refine zv ?_;(repeat clear U K);repeat intro K U
 exact As hs (List.Sublist.refl _) (.refl _) fun Z' hs'=>⟨rfl,hs'⟩
def eS (ls:List (List Int)):FW ls []=false:=rfl
def ZV (ls:List (List Int)) (x:Int) (r:List Int):FW ls (x::r)=free ls x:=rfl
def ei {α:Type} {p:α->Bool} {xs:List α} {k:Nat} {x:α} (hx:xs[k]? =some x) (h:(xs.take k).find? p=none):(xs.take (k+1)).find? p=if p x then some x else none:=by
 rw[AO hx,List.find?_append,h];simp only[List.find?_cons,List.find?_nil,Option.none_or];cases p x<;>rfl
def eg {α:Type} {p:α->Bool} {xs:List α} {k:Nat} {x:α} (h:(xs.take k).find? p=some x):xs.find? p=some x:=by
 conv=>lhs;rw[<-List.take_append_drop k xs]
 rw[List.find?_append,h];rfl
def ai (ls:List (List Int)):pick ls=(ls.find? (FW ls)).bind List.head? :=rfl
def lN (ls:List (List Int)) (f:Bool) (hok:Na ls) (ht:total ls<AZ):Pure zP 377 [.l (EK ls) f] (.t [.l (iL (CR ls).1) false,.b (CR ls).2]):=by
 have hM:=Mx;refine uw kZ ?_;have hs:=Sn;refine zv ?_;(repeat clear U K);repeat intro K U
 refine D1 (fun(x:List (List Int)×Bool×V×List Int)=>total x.1) (fun x=>[(0,.l (EK x.1) x.2.1),(4,x.2.2.1)]) (fun x=>[.own x.2.2.1 1 (iL x.2.2.2)])
  (fun x=>Na x.1/\x.2.2.2.length+total x.1<=total ls/\DO (total x.1) x.1 x.2.2.2=CR ls) (ls,f,.l [] true,[]) rfl ⟨hok,by simp,rfl⟩ (Dw hs 1) ?_
 clear hs;rintro⟨ls',f',v,out⟩ Z ⟨hok',hlen,hm⟩ hs;dsimp only at hok' hlen hm hs;dsimp only;have hol:=hok'.1;refine zv ?_;(repeat clear U K);repeat intro K U
 refine Bw ls'.length (fun k (t:Bool)=>[(5,.b t),(16,eI (A6 k))]) (fun _ _=>[.own v 1 (iL out)]) (fun k t=>(ls'.take k).find? (FW ls')=none/\t=(ls'.take k).any fun l=> !l.isEmpty) false rfl ⟨rfl,rfl⟩ hs ?_;clear hs;rintro k t Z hk ⟨hfd,hta⟩ hs;rcases A7 ls' hk with⟨l,hl,hlt⟩|hke
 .have hfs:=ei (p:=FW ls') hl hfd
  have has:((ls'.take (k+1)).any fun l=> !l.isEmpty)=(t|| !l.isEmpty):=by rw[AO hl,List.any_append,<-hta];simp
  have hb:=hok'.2 _ (Bo hl);cases l with
  | nil=>
    have hnl:([]:List Int).length=0:=rfl;rw[eS,if_neg (by decide)]at hfs
    conv=>whnf
    repeat'((first|clear U K|apply st|(apply zk;intro K U)|refine zX ?_|(refine zb (fun hc=>?_) (fun hc=>?_)<;>try exact⟨⟩)|fail)<;>conv=>whnf)
    exact⟨hlt,_,rfl,⟨hfs,by rw[has];simp⟩,hs⟩
  | cons x r=>
    have hx0:(x::r)[Int.toNat 0]? =some x:=rfl;have hnl:(x::r).length=r.length+1:=rfl;rw[ZV]at hfs;simp only[List.isEmpty_cons,Bool.not_false,Bool.or_true]at has
    conv=>whnf
    repeat'((first|clear U K|apply st|(apply zk;intro K U)|refine zX ?_|(refine zb (fun hc=>?_) (fun hc=>?_)<;>try exact⟨⟩)|fail)<;>conv=>whnf)
    refine Bw ls'.length (fun j (_:Unit)=>[(25,eI (A6 j))]) (fun _ _=>[.own v 1 (iL out)]) (fun j _=>free ls' x=(ls'.drop j).all fun m=> !(m.drop 1).contains x) () rfl rfl hs ?_;clear hs;rintro j - Z hj hfr hs;rcases A7 ls' hj with⟨m,hm0,hjlt⟩|hje
    .have hmb:=(hok'.2 _ (Bo hm0)).1
     rw[drop_cons hm0,KE]at hfr;cases m with
     | nil=>
       have hml:([]:List Int).length=0:=rfl
       conv=>whnf
       repeat'((first|clear U K|apply st|(apply zk;intro K U)|refine zX ?_|(refine zb (fun hc=>?_) (fun hc=>?_)<;>try exact⟨⟩)|fail)<;>conv=>whnf)
       exact⟨hjlt,(),rfl,by rw[hfr];rfl,hs⟩
     | cons y s=>
       have hml:(y::s).length=s.length+1:=rfl
       conv=>whnf
       repeat'((first|clear U K|apply st|(apply zk;intro K U)|refine zX ?_|(refine zb (fun hc=>?_) (fun hc=>?_)<;>try exact⟨⟩)|fail)<;>conv=>whnf)
       refine Wq 1 rfl (by omega) (fun _=>rfl) ?_
       conv=>whnf
       repeat'((first|clear U K|apply st|(apply zk;intro K U)|refine zX ?_|refine Pure.use (C1 _ _ _) ?_|refine za (fun hc=>?_) fun hc=>?_|fail)<;>conv=>whnf)
       .rw[hc]at hfr
        have hfr2:free ls' x=false:=by rw[hfr];rfl
        rw[hfr2,if_neg (by decide)]at hfs;exact⟨hlt,true,rfl,⟨hfs,by rw[has]⟩,hs⟩
       .exact⟨hjlt,(),rfl,by rw[hfr,hc];rfl,hs⟩
    .rw[Ai hje]at hfr
     have hgood:free ls' x=true:=hfr;rw[hgood,if_pos rfl]at hfs;have hp:pick ls'=some x:=by rw[ai,eg hfs];rfl
     have htp:=Iw hp
     conv=>whnf
     repeat'((first|clear U K|apply st|(apply zk;intro K U)|refine zX ?_|refine zr fun Z hs=>?_|refine aq fun v Z hs hsl=>?_|refine zp fun nn hnn Z hs=>?_|fail)<;>conv=>whnf)
     have hs2:Sat Z [.own v 1 (iL (out++[x])),.box nn [eI x]]:=hs;refine Bw ls'.length (fun k u=>[(11,u),(50,eI (A6 k))]) (fun k u=>[.own v 1 (iL (out++[x])),.box nn [eI x],.own u 1 (EK ((ls'.take k).map fun l=>l.filter (· != x)))]) (fun _ _=>True) (.l [] true) rfl trivial (Dw hs2 1) ?_;clear hs hs2;rintro q u Z hq - hs;rcases A7 ls' hq with⟨w,hw,hqlt⟩|hqe
     .refine zv ?_;(repeat clear U K);repeat intro K U
      refine(pT 381 [] [.p nn 0] [.box nn [eI x]] (· != x) (AAY nn x) w false).use (rest:=[_,_]) (hs.perm (.swap _ _ _)) ?_;clear hs;rintro rr post Z ⟨rfl,rfl⟩ hs
      conv=>whnf
      repeat'((first|clear U K|apply st|(apply zk;intro K U)|refine zX ?_|refine aq fun v Z hs hsl=>?_|fail)<;>conv=>whnf)
      refine⟨hqlt,_,rfl,trivial,?_⟩;rw[AO hw,SN];exact hs.perm (.swap _ _ _)
     .refine zv ?_;(repeat clear U K);repeat intro K U
      rw[Aq hqe]at hs;refine s6 hs 2 rfl fun Z' hs'=>?_
      refine zv ?_;(repeat clear U K);repeat intro K U
      refine⟨(ls'.map fun l=>l.filter (· != x),false,v,out++[x]),htp,rfl,⟨hok'.filter x,by simp;omega,?_⟩,hs'.take 1⟩;rw[<-O2 hp];exact hm
 .rw[Aq hke]at hfd hta
  have hp:pick ls'=none:=by rw[ai,hfd];rfl
  rw[Rm hp]at hm;refine zv ?_;(repeat clear U K);repeat intro K U
  refine A8 ?_;rw[<-hm];refine .t (.cons (hs.GC 0 rfl) (.cons ?_ .nil));have:(!t)=ls'.all List.isEmpty:=by rw[hta];simp[List.all_eq_not_any_not]
  rw[<-this];exact .refl _
abbrev Ord:=Int×V×List Int
def nA (e:Ord):V×V:=(eI e.1,e.2.1)
def fo (e:Ord):At:= .own e.2.1 1 (iL e.2.2)
abbrev pL (ps:List (List Int×Bool)):List (List V):=ps.map fun p=>[.l (iL p.1) p.2]
abbrev gH (n mm:Nat) (vp vu:V) (ps:List (List Int×Bool)) (us:List Nat) (M:List Ord):List At:=
 .box n [vp,vu,.m mm]:: .own vp 1 (pL ps):: .own vu 1 (us.map fun u=>[eU u]):: .map mm (M.map nA)::M.map fo
def CH (M:List Ord) (c:Int):List Int:=((M.find? fun e=>c==e.1).map fun e=>e.2.2).getD []
def Jg (M:List Ord) (c:Int):V:=((M.find? fun e=>c==e.1).map fun e=>e.2.1).getD (.l [] true)
def lT (M:List Ord) (c:Int):found (.l [] true) false (Cn (eI c) (M.map nA))=Jg M c:=by
 induction M with
 | nil=>rfl
 | cons e r ih=>
   simp only[E3,nA,Cn,Jg,List.find?_cons]at *;have he:D0 (eI c) (eI e.1)=(c==e.1):=rfl;rw[he];cases c==e.1
   .exact ih
   .rfl
def Yg (M:List Ord): ∀kv∈M.map nA,BW (.i .i64) kv.1=true:=by
 intro kv h;obtain⟨e,_,rfl⟩:=IX.1 h;rfl
def pF {M:List Ord} {c:Int} (v:V) (l:List Int) (h: ∀e∈M,e.1≠c):DX (eI c) v (M.map nA)=(M++[(c,v,l)]).map nA:=by
 induction M with
 | nil=>rfl
 | cons e r ih=>
   simp only[E3,List.cons_append,nA,DX];have he:D0 (eI c) (eI e.1)=(c==e.1):=rfl;rw[he,beq_false_of_ne (fun e'=>h e (.head _) e'.symm)];simp only[cond_false];rw[ih fun e he=>h e (.tail _ he)]
def Qk (M:List Ord) (c:Int):(CH M c= []/\Jg M c= .l [] true)\/ ∃j:Nat,(M.map fo)[j]? =some (At.own (Jg M c) 1 (iL (CH M c))):=by
 unfold CH Jg;cases h:M.find? fun e=>c==e.1 with
 | none=>exact .inl ⟨rfl,rfl⟩
 | some e=>
   refine .inr ?_;obtain⟨j,hj⟩:=List.getElem?_of_mem (List.mem_of_find?_eq_some h);refine⟨j,?_⟩;rw[Je,hj];rfl
def Ql {M:List Ord} {c:Int} {Z:AE} {fx:List At} (hs:Sat Z (fx++M.map fo)) (hl:(CH M c).length<=AZ) {K:V->Prop} (hk:K (.i .i64 (CH M c).length)):Ax (Jg M c) K:=by
 rcases Qk M c with⟨h1,h2⟩|⟨j,hj⟩
 .rw[h2]
  rw[h1]at hk;exact WH hk
 .have hj':(fx++M.map fo)[fx.length+j]? =some (At.own (Jg M c) 1 (iL (CH M c))):=by
   rw[List.getElem?_append_right (by omega),Nat.add_sub_cancel_left,hj]
  exact z7 hs _ hj' (by simpa using hl) (by simpa using hk)
def lkO {Z:AE} {l:List At} {i mm:Nat} {M:List Ord} {c:Int} {K:V->Prop} (hk:K (Jg M c)) (h:Sat Z l:=by assumption)
    (hi:l[i]? =some (.map mm (M.map nA)):=by first|exact SV|exact SU|exact SS|exact SQ|exact SP|exact SO):AN Z (.i .i64) (.l [] true) false (.m mm) (eI c) K:=
 KT h i hi rfl (Yg M) (by rw[lT];exact hk)
def ABO {M:List Ord} {c:Int} {Z:AE} {fx:List At} (hs:Sat Z (fx++M.map fo)) (hl:(CH M c).length<=AZ) (hne:CH M c≠[]) {k kp:V->AE->Prop} (hk: ∀Z',Sat Z' (fx++M.map fo)->k (.l (iL ((CH M c).filter (· != 0))) false) Z'):Au zP 379 [Jg M c] Z (qk k kp):=by
 rcases Qk M c with⟨h1,h2⟩|⟨j,hj⟩
 .exact absurd h1 hne
 .have hj':(fx++M.map fo)[fx.length+j]? =some (At.own (Jg M c) 1 (iL (CH M c))):=by
   rw[List.getElem?_append_right (by omega),Nat.add_sub_cancel_left,hj]
  refine(mY (CH M c) (Jg M c) hl).rK hs hj' ?_;rintro r Z' rfl hs';exact hk Z' hs'
def Xf {Z Z2:AE}: ∀ {a a' b b':List (List V)},FR Z Z2 a a'->FR Z Z2 b b'->FR Z Z2 (a++b) (a'++b')
 | [],[],_,_,.nil,h=>h
 | _::_,_::_,_,_,.cons h1 h2,h=> .cons h1 (Xf h2 h)
def lR (n mm:Nat) (vp vu:V) (ps:List (List Int×Bool)) (us:List Nat) (M:List Ord) (c:Int) (l:List Int) (b:Bool) (hc0:0<=c) (hl:ps[c.toNat]? =some (l,b)) (hll:l.length<=3) (hol: ∀c,(CH M c).length<=AZ) :
    BT zP 376 [.p n 0,eI c] (gH n mm vp vu ps us M) fun r post=>r= .ret (if l.any fun p=>(CH M p).isEmpty then .t [.l [] true,.b false]else .t [.l (EK (l.map (fun p=>(CH M p).filter (· != 0))++[l])) false,.b true])/\post=gH n mm vp vu ps us M:=by
 intro Z hs;have hM:=Mx;have hci:c<ps.length:=by have:=(JC.1 hl).1;omega
 refine ux kZ ?_;refine zz ?_;(repeat clear U K);repeat intro K U
 refine Bw l.length (fun k v=>[(6,v),(17,eI (A6 k))]) (fun k v=> .own v 1 (EK ((l.take k).map fun p=>(CH M p).filter (· != 0)))::gH n mm vp vu ps us M) (fun k _=>((l.take k).any fun p=>(CH M p).isEmpty)=false) (.l [] true) rfl rfl (Cp hs 1) ?_;clear hs;rintro k v Z hk hne hs;rcases A7 l hk with⟨p,hp,hlt⟩|hke
 .have han:((l.take (k+1)).any fun p=>(CH M p).isEmpty)=(CH M p).isEmpty:=by rw[AO hp,List.any_append,hne];simp
  have hap:(l.take k).length<=3:=by rw[Jd];omega
  conv=>whnf
  repeat'((first|clear U K|apply st|(apply zk;intro K U)|refine zY ?_|refine lkO ?_|refine Ql (fx:=_::_::_::_::_:: []) hs (hol _) ?_|refine za (fun hc=>?_) fun hc=>?_|fail)<;>conv=>whnf)
  .have h0:(CH M p).isEmpty=true:=by rw[List.isEmpty_iff_length_eq_zero];omega
   have hany:(l.any fun p=>(CH M p).isEmpty)=true:=IY.2 ⟨p,Bo hp,h0⟩;refine As (l':=gH n mm vp vu ps us M) hs (Ku _ _) (.refl _) fun Z' hs'=>⟨_,⟨?_,rfl⟩,hs'⟩
   rw[if_pos hany]
  .have h0:(CH M p).isEmpty=false:=by
    cases h:(CH M p).isEmpty
    .rfl
    .rw[List.isEmpty_iff_length_eq_zero]at h;omega
   refine ABO (fx:=_::_::_::_::_:: []) hs (hol _) (fun e=>by rw[e]at h0;cases h0) fun Z hs=>?_
   conv=>whnf
   repeat'((first|clear U K|apply st|(apply zk;intro K U)|refine zY ?_|refine aq fun v Z hs hsl=>?_|fail)<;>conv=>whnf)
   refine⟨hlt,_,rfl,by rw[han];exact h0,?_⟩;rw[AO hp,SN];exact hs
 .rw[Aq hke]at hne hs
  refine zz ?_;(repeat clear U K);repeat intro K U
  refine hAppend hs 0 rfl (by simp;omega) (fun e he=>by simp at he;subst he;rfl) (fun e he v hv=>by simp at he;subst he;simp at hv;subst hv;rfl) fun v Z hs=>?_
  refine zz ?_;(repeat clear U K);repeat intro K U
  obtain⟨Z2,h1,h2,h3⟩:=uK (es':=EK (l.map (fun p=>(CH M p).filter (· != 0))++[l])) hs 0 rfl fun Z2=>by
   have e:EK (l.map (fun p=>(CH M p).filter (· != 0))++[l])=EK (l.map fun p=>(CH M p).filter (· != 0))++[[.l (iL l) false]]:=by simp only[EK,SN,E3,List.map_nil]
   rw[e];exact Xf (Ez _) (.cons (.cons gy .nil) .nil)
  refine HN h1 (.t (.cons h2 (.cons (.refl _) .nil))) ⟨_,⟨?_,rfl⟩,h3⟩;rw[hne,if_neg (by decide)]
def Sat.rot2 {Z:AE} {l:List At} {a:At} (h:Sat Z (a::l)):Sat Z (l++[a]):=h.perm (by
 have:=NV (l₁:=[a]) (l₂:=l)
 simpa using this)
def DI (M:List Ord) (l:List Int):List (List Int):=l.map (fun p=>(CH M p).filter (· != 0))++[l]
def HS (M:List Ord) (l:List Int) (c:Int):List Int:=
 if c=0 then [0]else if l.any (fun p=>(CH M p).isEmpty)then []else if(CR (DI M l)).2 then [c]++(CR (DI M l)).1++[0]else []
def bP (n mm:Nat) (vp vu:V) (ps:List (List Int×Bool)) (us:List Nat) (M:List Ord) {c:Int} {v:V} {l:List Int} (hk: ∀e∈M,e.1≠c) {Z:AE}
    (hs:Sat Z (.own v 1 (iL l):: .box n [vp,vu,.m mm]:: .own vp 1 (pL ps):: .own vu 1 (us.map fun u=>[eU u]):: .map mm (DX (eI c) v (M.map nA))::M.map fo)):Sat Z (gH n mm vp vu ps us (M++[(c,v,l)])):=by
 rw[pF v l hk]at hs;have:=hs.rot2;unfold gH;rw[SN (f:=fo)];exact this
def lA (n mm:Nat) (vp vu:V) (ps:List (List Int×Bool)) (us:List Nat) (M:List Ord) (c:Int) (l:List Int) (b:Bool) (hc0:0<=c) (hl:ps[c.toNat]? =some (l,b)) (hll:l.length<=3) (hol: ∀c,(CH M c).length<=AZ) (hk: ∀e∈M,e.1≠c)
    (hok:Na (DI M l)) (ht:total (DI M l)<1000000000) :
    BT zP 368 [.p n 0,eI c] (gH n mm vp vu ps us M) fun r post=>r= .ret (.t [])/\ ∃M',post=gH n mm vp vu ps us M'/\((M'=M/\HS M l c= [])\/ ∃v,M'=M++[(c,v,HS M l c)]/\HS M l c≠[]):=by
 intro Z hs;have hM:=Mx;refine vD kZ ?_;by_cases hc:c=0
 .subst hc
  conv=>whnf
  repeat'((first|clear U K|apply st|(apply zk;intro K U)|refine zY ?_|(refine zb (fun hc=>?_) (fun hc=>?_)<;>try exact⟨⟩)|fail)<;>conv=>whnf)
  refine Iq hs 3 rfl rfl (Yg M) fun Z hs=>?_
  refine zz ?_;(repeat clear U K);repeat intro K U
  refine As (l':=gH n mm vp vu ps us (M++[(0,.l [[eI 0]] true,[0])])) ?_ (List.Sublist.refl _) (.refl _) fun Z' hs'=>⟨_,⟨rfl,_,rfl,.inr ⟨.l [[eI 0]] true,?_,?_⟩⟩,hs'⟩
  .refine bP n mm vp vu ps us M hk ?_
   exact gw hs (fun e he=>by simp at he;subst he;rfl)
  .rw[HS,if_pos rfl]
  .rw[HS,if_pos rfl];exact fun e=>by cases e
 .have hoc:HS M l c=if l.any (fun p=>(CH M p).isEmpty)then []else if(CR (DI M l)).2 then [c]++(CR (DI M l)).1++[0]else []:=by rw[HS,if_neg hc]
  have hli:=lR n mm vp vu ps us M c l b hc0 hl hll hol;have hmg:=lN (DI M l) false hok (by omega);have hml:=I1 (total (DI M l)) (DI M l) [];have hml2:(CR (DI M l)).1.length<=total (DI M l):=by simpa[CR]using hml
  cases hany:l.any fun p=>(CH M p).isEmpty
  .rw[hany,if_neg (by decide)]at hoc
   simp only[hany,L2,if_false]at hli;have hdn: ∀ {Z:AE} {M':List Ord},Sat Z (gH n mm vp vu ps us M')->((M'=M/\HS M l c= [])\/ ∃v,M'=M++[(c,v,HS M l c)]/\HS M l c≠[])->Am Z (.t []) fun r Z'=> ∃post,(r= .ret (.t [])/\ ∃M',post=gH n mm vp vu ps us M'/\((M'=M/\HS M l c= [])\/ ∃v,M'=M++[(c,v,HS M l c)]/\HS M l c≠[]))/\Sat Z' post:=fun hs h=>As hs (List.Sublist.refl _) (.refl _) fun Z' hs'=>⟨_,⟨rfl,_,rfl,h⟩,hs'⟩
   conv=>whnf
   repeat'((first|clear U K|apply st|(apply zk;intro K U)|refine zY ?_|(refine zb (fun hc=>?_) (fun hc=>?_)<;>try exact⟨⟩)|fail)<;>conv=>whnf)
   refine hli.use (rest:=[]) (by simpa using hs) ?_;clear hs;rintro r post Z ⟨rfl,rfl⟩ hs;rw[GA]at hs;have hml3:(DI M l)=l.map (fun p=>(CH M p).filter (· != 0))++[l]:=rfl;rw[<-hml3];generalize DI M l=ll at *;cases hb:(CR ll).2<;>rw[hb]at hmg hoc
   .conv=>whnf
    repeat'((first|clear U K|apply st|(apply zk;intro K U)|refine zY ?_|refine zC ?_|fail)<;>conv=>whnf)
    exact hdn hs (.inl ⟨rfl,by rw[hoc];rfl⟩)
   .rw[if_pos rfl]at hoc
    conv=>whnf
    repeat'((first|clear U K|apply st|(apply zk;intro K U)|refine zY ?_|refine zC ?_|fail)<;>conv=>whnf)
    replace hs:=gw hs (sz:=1) (es:=[[eI c]]) (fun e he=>by simp at he;subst he;rfl);refine FV hs 0 (xs:=[c]) (ys:=(CR ll).1) rfl (by simp;omega) Bm fun v Z hs=>?_
    conv=>whnf
    repeat'((first|apply st|refine zY ?_|refine rk ?_ ?_|exact fun s e=>by cases e;rfl|refine aq fun v Z hs hsl=>?_|fail)<;>conv=>whnf)
    refine Iq hs 4 rfl rfl (Yg M) fun Z hs=>?_
    refine zz ?_;(repeat clear U K);repeat intro K U
    refine hdn (bP n mm vp vu ps us M hk (l:=HS M l c) ?_) (.inr ⟨v,rfl,by rw[hoc];simp⟩);rw[hoc];exact hs
  .rw[hany,if_pos rfl]at hoc
   simp only[hany,if_true]at hli
   conv=>whnf
   repeat'((first|clear U K|apply st|(apply zk;intro K U)|refine zY ?_|(refine zb (fun hc=>?_) (fun hc=>?_)<;>try exact⟨⟩)|fail)<;>conv=>whnf)
   refine hli.use (rest:=[]) (by simpa using hs) ?_;clear hs;rintro r post Z ⟨rfl,rfl⟩ hs;rw[GA]at hs;refine zz ?_;(repeat clear U K);repeat intro K U
   exact As hs (List.Sublist.refl _) (.refl _) fun Z' hs'=>⟨_,⟨rfl,_,rfl,.inl ⟨rfl,hoc⟩⟩,hs'⟩
end Go.Gl
namespace Go.Gl
def dg {M:List Ord} {k:Int} {v:V} {o:List Int} (h: ∀e∈M,e.1<k) (d:Int):CH (M++[(k,v,o)]) d=if d=k then o else CH M d:=by
 unfold CH;rw[List.find?_append];split
 .rename_i e
  have:M.find? (fun e=>d==e.1)=none:=by
   rw[List.find?_eq_none];intro x hx;have:=h x hx;simp;omega
  rw[this];simp[e]
 .rename_i e
  cases hf:M.find? fun e=>d==e.1 with
  | some x=>simp
  | none=>simp[List.find?_cons,e]
structure JS (g:List (List Int)) (k:Nat) (M:List Ord):Prop where
 keys: ∀e∈M,0<=e.1/\e.1<(k:Int)
 gK: ∀d:Int,0<=d->d<k->CH M d=(CD g).getD d.toNat []
def Wz {g:List (List Int)} {k:Nat} {M:List Ord} (h:JS g k M) {d:Int} (hd:d<0\/(k:Int)<=d):CH M d= []:=by
 unfold CH
 have:M.find? (fun e=>d==e.1)=none:=by
  rw[List.find?_eq_none];intro x hx;have:=h.keys x hx;simp;omega
 rw[this];rfl
def Ms {g:List (List Int)} (hg:JM g) {k:Nat} {M:List Ord} (h:JS g k M) (d:Int):(CH M d).length<=71744535/\ ∀x∈CH M d,(0:Int)<=x:=by
 by_cases hd:d<0\/(k:Int)<=d
 .rw[Wz h hd]
  exact⟨by simp,fun x hx=>by cases hx⟩
 .rw[h.gK d (by omega) (by omega)]
  have hb:=I9 hg (2+g.length);have hl:=cA (k:=2+g.length) (by have:=hg.1;omega);unfold CD;exact⟨XD (fun o ho=>Nat.le_trans (hb o ho).1 hl) _,Q3 (fun o ho=>(hb o ho).2) _⟩
def dt {g:List (List Int)} (hg:JM g) {k:Nat} {M:List Ord} (h:JS g k M) {l:List Int} (hl:l.length<=3) (h0: ∀x∈l,(0:Int)<=x):Na (DI M l)/\total (DI M l)<1000000000:=by
 have hM:AZ=17592186044416:=rfl;have hf: ∀p,((CH M p).filter (· != 0)).length<=71744535:=fun p=>Nat.le_trans (Oc _ _) (Ms hg h p).1
 have ht: ∀l:List Int,total (l.map fun p=>(CH M p).filter (· != 0))<=l.length*71744535:=by
  intro l
  induction l with
  | nil=>simp[total]
  | cons p r ih=>
    simp only[total,E3,List.sum_cons,Ky]at *;have:=hf p;rw[Nat.add_mul];omega
 refine⟨⟨by simp[DI];omega,fun m hm=>?_⟩,?_⟩
 .rcases Du.1 hm with hm|hm
  .obtain⟨p,_,rfl⟩:=IX.1 hm
   refine⟨by have:=hf p;omega,fun x hx=>(Ms hg h p).2 x (JX.1 hx).1⟩
  .rw[KF.1 hm]
   exact⟨by omega,h0⟩
 .have h1:=ht l
  have h2:total (DI M l)=total (l.map fun p=>(CH M p).filter (· != 0))+l.length:=by simp[DI,total]
  have h3:=Vi 71744535 hl;omega
def oh {g:List (List Int)} {k:Nat} {M:List Ord} (h:JS g (k+1) M) {l:List Int} (hl:l=A4 g ((k:Int)+1)) (hp: ∀p∈l,(0:Int)<=p/\p<(k:Int)+1) (hk:k+1<3+g.length) :
    HS M l ((k:Int)+1)=EF g (Bf g k) ((k:Int)+1):=by
 have ho: ∀p∈l,CH M p=(Bf g k).getD p.toNat []:=fun p hpl=>by
  obtain⟨h0,h1⟩:=hp p hpl;rw[h.gK p h0 (by omega)];unfold CD;rw[C4,C4,FM (k:=2+g.length) (j:=p.toNat) (by omega),FM (k:=k) (j:=p.toNat) (by omega)]
 have e1:(l.any fun p=>(CH M p).isEmpty)=(l.any fun p=>((Bf g k).getD p.toNat []).isEmpty):=by
  rw[IZ,IY,IY];constructor
  .rintro⟨p,h1,h2⟩;exact⟨p,h1,by rw[<-ho p h1];exact h2⟩
  .rintro⟨p,h1,h2⟩;exact⟨p,h1,by rw[ho p h1];exact h2⟩
 have e2:DI M l=l.map (fun p=>((Bf g k).getD p.toNat []).filter (· != 0))++[l]:=by
  unfold DI;congr 1;exact List.map_congr_left fun p hpl=>by rw[ho p hpl]
 unfold HS EF Eb;rw[if_neg (by omega),e1,e2,<-hl];split<;>rfl
def JS.nil {g:List (List Int)}:JS g 0 []:=⟨fun e h=>(by cases h),fun d h0 h1=>by omega⟩
def JS.step {g:List (List Int)} {k:Nat} {M M':List Ord} (h:JS g k M) {l:List Int} (hl:l=A4 g (k:Int)) (hp: ∀p∈l,(0:Int)<=p/\p<(k:Int)) (hk:k<3+g.length)
    (hM:(M'=M/\HS M l k= [])\/ ∃v,M'=M++[((k:Int),v,HS M l k)]/\HS M l k≠[]):JS g (k+1) M':=by
 have hc:HS M l k=(CD g).getD k []:=by
  cases k with
  | zero=>
    unfold HS CD;rw[if_pos (by simp),C4,FM (j:=0) (by omega)];rfl
  | succ k=>
    have:=oh h (by simpa using hl) (fun p hpl=>by have:=hp p hpl;simpa using this) hk;have e:((k+1:Nat):Int)=(k:Int)+1:=by omega
    rw[e,this];unfold CD;rw[C4,FM (k:=2+g.length) (j:=k+1) (by omega),Bf,List.getElem?_append_right (by rw[Co];omega),Co,Nat.sub_self];rfl
 rcases hM with⟨rfl,he⟩|⟨v,rfl,_⟩
 .refine⟨fun e he=>by have:=h.keys e he;omega,fun d h0 h1=>?_⟩
  by_cases hd:d=k
  .subst hd
   rw[Wz h (by omega)];rw[GB,<-hc,he]
  .exact h.gK d h0 (by omega)
 .refine⟨fun e he=>?_,fun d h0 h1=>?_⟩
  .rcases Du.1 he with he|he
   .have:=h.keys e he;omega
   .rw[KF.1 he]
    exact⟨by simp,by simp;omega⟩
  .rw[dg (fun e he=>(h.keys e he).2)]
   split
   .rename_i hd
    rw[hd,GB];exact hc
   .exact h.gK d h0 (by omega)
end Go.Gl
namespace Go.Gl
open Go.Proofs
attribute [local irreducible] Au Am Ab AR AK AY AQ AS AJ AX AN AP Ao Az Sat AU Ax Ad W
def np (s c:Nat) (hs0:s<18446744073709551616) (hc:c<64):Pure zP 366 [.a [eU s],eI c] (.a [eU (s|||2 ^ c)]):=by
 refine vF kZ ?_;have hs:=Sn
 conv=>whnf
 repeat'((first|clear U K|apply st|(apply zk;intro K U)|refine zY ?_|refine zs fun Z hs=>?_|refine⟨Int.natCast_nonneg _,?_⟩|refine zo fun nn hnn Z hs=>?_|fail)<;>conv=>whnf)
 refine AF ?_;simp only[GB,U1 hc,It hs0 (Ie hc)];rfl
def AAS (s t:Nat) (hs0:s<18446744073709551616) (ht0:t<18446744073709551616):Pure zP 367 [.a [eU s],.a [eU t]] (.a [eU (s|||t)]):=by
 refine vE kZ ?_;have hs:=Sn
 conv=>whnf
 repeat'((first|clear U K|apply st|(apply zk;intro K U)|refine zY ?_|refine zs fun Z hs=>?_|refine zo fun nn hnn Z hs=>?_|fail)<;>conv=>whnf)
 refine AF ?_;simp only[It hs0 ht0];rfl
def Wb (s:Nat) (c:Int) (hs0:s<18446744073709551616) (h0:0<=c) (hc:c<64):Pure zP 366 [.a [eU s],eI c] (.a [eU (s|||2 ^ c.toNat)]):=by
 have:=np s c.toNat hs0 (by omega);rw[Int.toNat_of_nonneg h0]at this;exact this
def K3 {a b:Nat} (ha:a<18446744073709551616) (hb:b<18446744073709551616):a|||b<18446744073709551616:=by
 have:=Nat.or_lt_two_pow (n:=64) (x:=a) (y:=b) (by simpa using ha) (by simpa using hb);simpa using this
def Ja (g:List (List Int)):List (List Int×Bool):=[([],true),([],true),([],true)]++g.map fun l=>(l,false)
def kz (g:List (List Int)):(Ja g).length=3+g.length:=by simp[Ja];omega
def ah (g:List (List Int)) {k:Nat} (hk:k<3+g.length): ∃b,(Ja g)[k]? =some (A4 g (k:Int),b):=by
 unfold Ja A4;by_cases h3:k<3
 .rw[if_pos (by omega),cQ (by simpa using h3)]
  refine⟨true,?_⟩;rcases k with _|_|_|k
  .rfl
  .rfl
  .rfl
  .omega
 .rw[if_neg (by omega),List.getElem?_append_right (by simp;omega)]
  refine⟨false,?_⟩;simp only[Ky,List.length_nil,Je];have e:((k:Int) - 3).toNat=k - (0+1+1+1):=by omega
  rw[e,C4,Cr (by omega)];rfl
def pd:EX (fun u:Nat=>[eU u]) 1:=fun x=>⟨rfl,fun v hv=>by simp at hv;subst hv;rfl⟩
def AAR {α:Type} {a b c d:α}: [a,b,c,d].Perm [b,d,a,c]:=by
 have h1: [a,b,c,d].Perm [b,a,c,d]:= .swap _ _ _;have h2: [a,c,d].Perm [d,a,c]:=NV (l₁:=[a,c]) (l₂:=[d]);exact h1.trans (h2.cons b)
def oj (g:List (List Int)) (f f2:Bool) (c:Int) (hg:Dy g=true) (hc0:0<=c) (hc1:c<3+g.length) :
    BT zP 353 [.l (EK g) f,.l (iL [c]) f2] [] fun r post=> ∃n mm vp vu us M,r= .ret (.t [.p n 0,.b true])/\post=gH n mm vp vu (Ja g) us M/\JS g (3+g.length) M:=by
 intro Z hs;refine Au.fit (by kernel_rfl) fun hf=>?_
 have⟨g1,g2⟩:=Uj hf.1;have hM:=Mx;have hG:=D7 hg;have hgl:=hG.1;have hfn:=bX g f;rw[hg]at hfn;have hc2: [c][0]? =some c:=rfl;have hpl:=kz g;refine vN kZ ?_
 conv=>whnf
 repeat'((first|clear U K|apply st|(apply zk;intro K U)|refine zY ?_|refine hfn.use ?_|fail)<;>conv=>whnf)
 refine Bw 1 (fun k (_:Unit)=>[(20,eI (A6 k))]) (fun _ _=>[]) (fun _ _=>True) () rfl trivial hs ?_;clear hs;rintro k - Z hk - hs;have hkk:k=0\/k=1:=by omega
 rcases hkk with rfl|rfl
 .conv=>whnf
  repeat'((first|clear U K|apply st|(apply zk;intro K U)|refine zY ?_|(refine zb (fun hc=>?_) (fun hc=>?_)<;>try exact⟨⟩)|fail)<;>conv=>whnf)
  all_goals try(exfalso;omega)
  exact⟨(),rfl,trivial,hs⟩
 .have hke:1= [c].length:=rfl
  refine zz ?_;(repeat clear U K);repeat intro K U
  rw[show IntKind.i64.wrap (3+((EK g).length:Nat))=((3+g.length:Nat):Int) by rw[B2,wrap64 (by omega) (by omega)];omega];refine nX (n:=3) hs (by omega) (by omega) fun vp Z hs hv=>?_
  obtain⟨idp,rfl⟩:=hv
  conv=>whnf
  repeat'((first|clear U K|apply st|(apply zk;intro K U)|refine zY ?_|refine zo fun nn hnn Z hs=>?_|fail)<;>conv=>whnf)
  obtain⟨mm,hs⟩: ∃mm,Sat Z [.box nn [.sl idp 3 (3+g.length),.l [] true,.m mm],.map mm [],.own (.sl idp 3 (3+g.length)) 1 (List.replicate 3 [.l [] true])]:=⟨_,hs⟩
  generalize nn=n0 at *;have hgr:=DL DK g;refine hAppend hs 2 rfl (by simp;omega) hgr.1 hgr.2 fun vp Z hs=>?_
  have hps:List.replicate 3 [.l [] true]++EK g=pL (Ja g):=by simp[pL,Ja,List.replicate,EK]
  rw[hps]at hs;clear hps;have hs1p:=Hr hs 2 rfl
  conv=>whnf
  repeat'((first|clear U K|apply st|(apply zk;intro K U)|refine zY ?_|refine zs fun Z hs=>?_|fail)<;>conv=>whnf)
  replace hs:Sat Z [.box n0 [vp,.l [] true,.m mm],.map mm [],.own vp 1 (pL (Ja g))]:=hs;refine Bw (Ja g).length (fun k (_:V×List Nat)=>[(55,eI (A6 k))]) (fun _ x=>[.own x.1 1 (x.2.map fun u=>[eU u]),.box n0 [vp,x.1,.m mm],.map mm [],.own vp 1 (pL (Ja g))]) (fun k x=>x.2.length=k/\ ∀u∈x.2,u<18446744073709551616) (.l [] true,[]) rfl ⟨rfl,fun u hu=>by cases hu⟩ (Cp hs 1) ?_;clear hs;rintro k ⟨vu,us⟩ Z hk ⟨hul,hus⟩ hs;dsimp only at hul hus hs;rcases A7 (Ja g) hk with⟨⟨l,lb⟩,hl,hlt⟩|hke2
  .have hck:A6 k=k:=Ae (by omega)
   obtain⟨b',hpa⟩:=ah g (k:=k) (by omega);have hle:l=A4 g (k:Int):=by rw[hl]at hpa;exact(Prod.mk.inj (Option.some.inj hpa)).1
   have hll:=C8 hG (k:Int);rw[<-hle]at hll;have hlm: ∀p∈l,3<=p/\p<(k:Int):=fun p hp=>Di hG (by rw[<-hle];exact hp)
   have hs1:(0|||2 ^ (A6 k).toNat)<18446744073709551616:=by
    rw[Nat.zero_or,hck,GB];exact Ie (by omega)
   have hs1u:=Hr hs 0 rfl;have hl':(Ja g)[(A6 k).toNat]? =some (l,lb):=by rw[hck,GB];exact hl
   conv=>whnf
   repeat'((first|clear U K|apply st|(apply zk;intro K U)|refine zY ?_|refine zs fun Z hs=>?_|refine Pure.use (Wb 0 (A6 k) (by decide) (by omega) (by omega)) ?_|refine Pure.use (Wb _ _ (by first|omega|exact hs1) (by omega) (by omega)) ?_|refine zo fun nn hnn Z hs=>?_|fail)<;>conv=>whnf)
   have hs0:(0|||2 ^ (A6 k).toNat|||2 ^ Int.toNat 0)<18446744073709551616:=K3 hs1 (by decide);generalize (0|||2 ^ (A6 k).toNat|||2 ^ Int.toNat 0)=s0 at *;refine Bw l.length (fun j (_:Nat)=>[(66,eI (A6 j))]) (fun _ s=>[.box nn [eU s],.own vu 1 (us.map fun u=>[eU u]),.box n0 [vp,vu,.m mm],.map mm [],.own vp 1 (pL (Ja g))]) (fun _ s=>s<18446744073709551616) s0 rfl hs0 hs ?_;clear hs hs0;rintro j s Z hj hsb hs;rcases A7 l hj with⟨p,hp,hjlt⟩|hje
   .obtain⟨hp3,hpk⟩:=hlm p (Bo hp)
    obtain⟨u,hu⟩: ∃u,us[p.toNat]? =some u:=⟨_,Cr (by omega)⟩
    have hub:=hus u (Bo hu)
    conv=>whnf
    repeat'((first|clear U K|apply st|(apply zk;intro K U)|refine zY ?_|refine zs fun Z hs=>?_|refine Pure.use (AAS _ _ hsb hub) ?_|fail)<;>conv=>whnf)
    exact⟨hjlt,s|||u,rfl,K3 hsb hub,hs⟩
   .refine zz ?_;(repeat clear U K);repeat intro K U
    refine Gu (GN hs 1 (enc:=fun u:Nat=>[eU u]) (xs:=us) (x:=s) rfl (by omega) pd fun vu' Z hs hsl=>?_);have hs2u:=Hr hs 1 rfl
    conv=>whnf
    repeat'((first|clear U K|apply st|(apply zk;intro K U)|refine zY ?_|refine zs fun Z hs=>?_|fail)<;>conv=>whnf)
    refine⟨hlt,(vu',us++[s]),rfl,⟨by simp[hul],fun u hu=>?_⟩,hs.less (Ku _ _)⟩;rcases Du.1 hu with hu|hu
    .exact hus u hu
    .rw[KF.1 hu];exact hsb
  .have hs1u:=Hr hs 0 rfl
   refine zz ?_;(repeat clear U K);repeat intro K U
   replace hs:Sat Z (gH n0 mm vp vu (Ja g) us []):=hs.perm AAR;refine Bw (Ja g).length (fun k (_:List Ord)=>[(96,eI (A6 k))]) (fun _ M=>gH n0 mm vp vu (Ja g) us M) (fun k M=>JS g k M) [] rfl JS.nil hs ?_;clear hs;rintro k M Z hk hkn hs;rcases A7 (Ja g) hk with⟨⟨l,lb⟩,hl,hlt⟩|hke3
   .have hck:A6 k=k:=Ae (by omega)
    obtain⟨b',hpa⟩:=ah g (k:=k) (by omega);have hle:l=A4 g (k:Int):=by rw[hl]at hpa;exact(Prod.mk.inj (Option.some.inj hpa)).1
    have hll:=C8 hG (k:Int);rw[<-hle]at hll;have hlm: ∀p∈l,3<=p/\p<(k:Int):=fun p hp=>Di hG (by rw[<-hle];exact hp)
    have hlo:=dt hG hkn hll (fun x hx=>by have:=hlm x hx;omega);have hord:=lA n0 mm vp vu (Ja g) us M (A6 k) l lb (by omega) (by rw[hck,GB];exact hl) hll (fun c=>by have:=(Ms hG hkn c).1;omega) (fun e he=>by have:=hkn.keys e he;omega) hlo.1 hlo.2;refine zz ?_;(repeat clear U K);repeat intro K U
    refine hord.use (rest:=[]) (by simpa using hs) ?_;clear hs;rintro r post Z ⟨rfl,M',rfl,hM'⟩ hs;rw[GA]at hs;rw[hck]at hM';refine zz ?_;(repeat clear U K);repeat intro K U
    exact⟨hlt,M',rfl,hkn.step hle (fun p hp=>by have:=hlm p hp;omega) (by omega) hM',hs⟩
   .refine zz ?_;(repeat clear U K);repeat intro K U
    exact As hs (List.Sublist.refl _) (.refl _) fun Z' hs'=>⟨_,⟨_,_,_,_,_,_,rfl,rfl,by rw[<-hpl,<-hke3];exact hkn⟩,hs'⟩
def yk {M:List Ord} {c:Int} {Z:AE} {fx:List At} (hs:Sat Z (fx++M.map fo)) (hl:(CH M c).length<=AZ) (hne:CH M c≠[]) {k kp:V->AE->Prop} (hk: ∀Z',Sat Z' (fx++M.map fo)->k (.l (iL (CH M c)) false) Z'):Au zP 200 [Jg M c] Z (qk k kp):=by
 rcases Qk M c with⟨h1,h2⟩|⟨j,hj⟩
 .exact absurd h1 hne
 .have hj':(fx++M.map fo)[fx.length+j]? =some (At.own (Jg M c) 1 (iL (CH M c))):=by
   rw[List.getElem?_append_right (by omega),Nat.add_sub_cancel_left,hj]
  have hcl:BT zP 200 [Jg M c] [.own (Jg M c) 1 (iL (CH M c))] fun r post=>r= .ret (.l (iL (CH M c)) false)/\post= [.own (Jg M c) 1 (iL (CH M c))]:=by
   clear hk hj' hj;generalize Jg M c=v at *;generalize CH M c=l at *;intro Z hs;refine jU kZ ?_;have hgr:=DL Bm l
   have hend: ∀ {Z:AE} {w u:V},Sat Z [.own w 1 (iL l),.own u 1 (iL l)]->Am Z w fun r Z'=> ∃post,(r= .ret (.l (iL l) false)/\post= [.own u 1 (iL l)])/\Sat Z' post:=fun hs=>by
    obtain⟨Z2,h1,h2,h3⟩:=HC hs 0 rfl;exact HN h1 h2 ⟨_,⟨rfl,rfl⟩,h3⟩
   have hM:=Mx;rcases hs.get (i:=0) rfl with⟨rfl,_⟩|⟨n,cap,rfl,hn⟩
   .conv=>whnf
    repeat'((first|clear U K|apply st|(apply zk;intro K U)|fail)<;>conv=>whnf)
    refine⟨fun e=>absurd (List.map_eq_nil_iff.1 e) hne,fun _=>?_⟩;refine zz ?_;(repeat clear U K);repeat intro K U
    replace hs:=Cp hs 1;refine Pq hs 0 1 rfl rfl (by simp;omega) hgr.1 hgr.2 fun w Z hs=>?_
    refine zz ?_;(repeat clear U K);repeat intro K U
    exact hend hs
   .refine zz ?_;(repeat clear U K);repeat intro K U
    replace hs:=Cp hs 1;refine Pq hs 0 1 rfl rfl (by simp;omega) hgr.1 hgr.2 fun w Z hs=>?_
    refine zz ?_;(repeat clear U K);repeat intro K U
    exact hend hs
  refine hcl.rK (Φ:=fun r=>r= .ret (.l (iL (CH M c)) false)) hs hj' ?_;rintro r Z' rfl hs';exact hk Z' hs'
def uI (g:List (List Int)) (f:Bool) (c:Int) (hg:Dy g=true) (hc0:0<=c) (hc1:c<3+g.length) :
    Pure zP 324 [.l (EK g) f,eI c] (if((CD g).getD c.toNat []).isEmpty then .t [.l [] true,eI 7]else .t [.l (iL ((CD g).getD c.toNat [])) false,eI 0]):=by
 have hop:=oj g f true c hg hc0 hc1;refine vo kZ ?_;have hs:=Sn;have hM:=Mx;have hG:=D7 hg
 conv=>whnf
 repeat'((first|clear U K|apply st|(apply zk;intro K U)|fail)<;>conv=>whnf)
 refine hop.use (rest:=[]) hs ?_;clear hs;rintro r post Z ⟨n,mm,vp,vu,us,M,rfl,rfl,hkn⟩ hs;rw[GA]at hs;have hol:=(Ms hG hkn c).1;have hor:=hkn.gK c hc0 (by omega);by_cases hne:CH M c= []
 .have hl0:(CH M c).length=0:=by rw[hne];rfl
  conv=>whnf
  repeat'((first|clear U K|apply st|(apply zk;intro K U)|refine zY ?_|refine lkO ?_|refine Ql (fx:=_::_::_::_:: []) hs (by omega) ?_|(refine zb (fun hc=>?_) (fun hc=>?_)<;>try exact⟨⟩)|fail)<;>conv=>whnf)
  all_goals try(exfalso;omega)
  rw[<-hor,hne];exact AF rfl
 .have hl0:0<(CH M c).length:=List.length_pos_iff.2 hne
  conv=>whnf
  repeat'((first|clear U K|apply st|(apply zk;intro K U)|refine zY ?_|refine lkO ?_|refine Ql (fx:=_::_::_::_:: []) hs (by omega) ?_|(refine zb (fun hc=>?_) (fun hc=>?_)<;>try exact⟨⟩)|fail)<;>conv=>whnf)
  all_goals try(exfalso;omega)
  refine yk (fx:=_::_::_::_:: []) hs (by omega) hne fun Z hs=>?_
  refine zz ?_;(repeat clear U K);repeat intro K U
  rw[<-hor]
  have:(CH M c).isEmpty=false:=by
   cases h:(CH M c).isEmpty
   .rfl
   .exact absurd (List.isEmpty_iff.1 h) hne
  rw[this];exact AF rfl
def mK (xs:List Int) (f:Bool):Pure zP 200 [.l (iL xs) f] (.l (iL xs) false):=by
 refine Pure.fit (by kernel_rfl) fun hf=>?_
 have hxl:=Uk hf.1;have hM:=Mx;refine jU kZ ?_;have hs:=Sn
 conv=>whnf
 repeat'((first|clear U K|apply st|(apply zk;intro K U)|fail)<;>conv=>whnf)
 refine⟨fun e t=>?_,fun _=>?_⟩
 .have hx:xs= []:=List.map_eq_nil_iff.1 e
  subst hx
  conv=>whnf
  repeat'((first|clear U K|apply st|(apply zk;intro K U)|refine za (fun hc=>?_) fun hc=>?_|fail)<;>conv=>whnf)
  .exact A8 FE
  .replace hs:=Cp hs 1
   refine FV hs 0 (xs:=[]) (ys:=[]) rfl (by simp) Bm fun v Z hs=>?_
   refine zz ?_;(repeat clear U K);repeat intro K U
   exact Ea hs 0 rfl rfl
 .refine zz ?_;(repeat clear U K);repeat intro K U
  replace hs:=Cp hs 1;refine FV hs 0 (xs:=[]) (ys:=xs) rfl (by simp;omega) Bm fun v Z hs=>?_
  refine zz ?_;(repeat clear U K);repeat intro K U
  exact Ea hs 0 rfl rfl
def th (c:SW):Pure zP 290 [.a (Se c)] (.l (iL c.parents) false):=by
 refine wW kZ ?_;have hs:=Sn
 conv=>whnf
 repeat'((first|clear U K|apply st|(apply zk;intro K U)|refine Pure.use (mK _ _) ?_|fail)<;>conv=>whnf)
 exact AF rfl
def qf (xs:List (List Int)) (v:V) (hl:xs.length<=AZ):BT zP 329 [v] [.own v 1 (EK xs)] fun r post=>r= .ret (.l (EK xs) true)/\post= []:=by
 intro Z hs;have hg:=DL DK xs;refine vd kZ ?_;refine zz ?_;(repeat clear U K);repeat intro K U
 refine sB (i:=0) hs rfl hg.1 (by simpa using hl) fun Z hs=>?_
 refine zz ?_;(repeat clear U K);repeat intro K U
 exact As hs (List.Sublist.refl _) (.refl _) fun Z' hs'=>⟨_,⟨rfl,rfl⟩,hs'⟩
def Qh (xs:List Int) (v:V) (hl:xs.length<=AZ):BT zP 242 [v] [.own v 1 (iL xs)] fun r post=>r= .ret (.l (iL xs) true)/\post= []:=by
 intro Z hs;have hg:=DL Bm xs;refine jS kZ ?_;refine zz ?_;(repeat clear U K);repeat intro K U
 refine sB (i:=0) hs rfl hg.1 (by simpa using hl) fun Z hs=>?_
 refine zz ?_;(repeat clear U K);repeat intro K U
 exact As hs (List.Sublist.refl _) (.refl _) fun Z' hs'=>⟨_,⟨rfl,rfl⟩,hs'⟩
def qM (cs:List SW) (hl:cs.length<=1000000):Pure zP 289 [.l (cs.map Se) false,.f (.func 290) [] []] (.l (EK (cs.map (·.parents))) false):=by
 have hM:=Mx;refine wX kZ ?_;have hs:=Sn;refine zz ?_;(repeat clear U K);repeat intro K U
 refine Bw cs.length (fun k v=>[(5,v),(10,eI (A6 k))]) (fun k v=>[.own v 1 (EK ((cs.take k).map (·.parents)))]) (fun _ _=>True) (.l [] true) rfl trivial (Cp hs 1) ?_;clear hs;rintro k v Z hk - hs;rcases A7 cs hk with⟨c,hc,hlt⟩|hke
 .conv=>whnf
  repeat'((first|clear U K|apply st|(apply zk;intro K U)|refine zY ?_|refine zs fun Z hs=>?_|refine zo fun nn hnn Z hs=>?_|fail)<;>conv=>whnf)
  refine BN ((th c).use ?_)
  conv=>whnf
  repeat'((first|clear U K|apply st|(apply zk;intro K U)|refine zY ?_|refine aq fun v Z hs hsl=>?_|fail)<;>conv=>whnf)
  exact⟨hlt,_,rfl,trivial,by rw[AO hc,SN];exact hs.less (Ku _ _)⟩
 .rw[Aq hke]at hs
  refine zz ?_;(repeat clear U K);repeat intro K U
  refine(qf (cs.map (·.parents)) v (by simp;omega)).use (rest:=[]) hs ?_;clear hs;rintro r post Z ⟨rfl,rfl⟩ hs;refine zz ?_;(repeat clear U K);repeat intro K U
  exact A8 gy
def M1 (p:Prog) (hk0:p.AM.length<=1000):Pure zP 223 [.a (BG p)] (.l (EK (A3 p)) false):=by
 refine Pure.fit (by kernel_rfl) fun hf=>?_
 have hP:=Ju hf.1;refine xY kZ ?_;have hs:=Sn;refine zz ?_;(repeat clear U K);repeat intro K U
 refine(qM p.AM (by omega)).use ?_;exact zW
def Wa (p:Prog) (hk0:p.AM.length<=1000) (hm:Bq p.AM<=AZ):Pure zP 151 [.a (BG p)] (.a (A0 (AL p))):=by
 refine Pure.fit (by kernel_rfl) fun hf=>?_
 have hP:=Ju hf.1;have hcl:=hP.1;have hM:=Mx;refine yK kZ ?_;have hs:=Sn
 conv=>whnf
 repeat'((first|clear U K|apply st|(apply zk;intro K U)|refine zY ?_|refine zs fun Z hs=>?_|refine Pure.use (M1 _ hk0) ?_|refine zo fun nn hnn Z hs=>?_|fail)<;>conv=>whnf)
 rename_i n2 _ _ _ _ _
 rename Nat=>n3
 replace hs:Sat Z [.box n3 [.l (EK (A3 p)) false,.l [] true],.box n2 [.l [] true,.l [] true]]:=hs;refine Bw p.AM.length (fun k (_:V)=>[(12,eI (A6 k))]) (fun k v=>[.own v 1 (iL (BR 0 (p.AM.take k))),.box n3 [.l (EK (A3 p)) false,v],.box n2 [.l [] true,.l [] true]]) (fun _ _=>True) (.l [] true) rfl trivial (Cp hs 1) ?_;clear hs;rintro k v Z hk - hs;rcases A7 p.AM hk with⟨c,hc,hlt⟩|hke
 .have hcm:=hP.2 c (Bo hc)
  have htk:=Ro hc;have hck:A6 k=k:=Ae (by omega)
  have hap:BR 0 (p.AM.take (k+1))=BR 0 (p.AM.take k)++List.replicate c.AG.length ((k:Int)+3):=by
   rw[AO hc,JU];have:(p.AM.take k).length=k:=by simp;omega
   rw[this];simp[BR]
  have hol:=Cj 0 (p.AM.take k);have hw3:IntKind.i64.wrap (A6 k+3)=(k:Int)+3:=by rw[hck,wrap64 (by omega) (by omega)]
  have hcs:=hcm.2.1;generalize BR 0 (p.AM.take k)=os at *
  conv=>whnf
  repeat'((first|clear U K|apply st|(apply zk;intro K U)|refine zY ?_|refine zs fun Z hs=>?_|refine zo fun nn hnn Z hs=>?_|fail)<;>conv=>whnf)
  refine Bw c.AG.length (fun j (_:V)=>[(20,eI (A6 j))]) (fun j v=>[.own v 1 (iL (os++List.replicate j ((k:Int)+3))),.box n3 [.l (EK (A3 p)) false,v],.box n2 [.l [] true,.l [] true]]) (fun _ _=>True) v rfl trivial (by simpa using hs.less (Ku _ _)) ?_;clear hs;rintro j v Z hj - hs;rcases A7 c.AG hj with⟨s,hsl,hjlt⟩|hje
  .have hsv0:=Hr hs 0 rfl
   conv=>whnf
   repeat'((first|clear U K|apply st|(apply zk;intro K U)|refine zY ?_|refine zs fun Z hs=>?_|refine aq fun v Z hs hsl=>?_|fail)<;>conv=>whnf)
   have hsv:=Hr hs 0 rfl
   conv=>whnf
   refine⟨hjlt,v,rfl,trivial,?_⟩;rw[List.replicate_succ',<-PD];rw[hw3]at hs;exact hs
  .refine zz ?_;(repeat clear U K);repeat intro K U
   exact⟨hlt,v,rfl,trivial,by rw[hap,<-hje];exact hs⟩
 .rw[Aq hke]at hs
  have hsv:=Hr hs 0 rfl
  conv=>whnf
  repeat'((first|clear U K|apply st|(apply zk;intro K U)|refine zY ?_|refine zs fun Z hs=>?_|fail)<;>conv=>whnf)
  exact A8 (.a (.cons (.refl _) (.cons (hs.GC 0 rfl) .nil)))
end Go.Gl
namespace Go.Proofs
open Go.Shelf
def Tryz.Xv:Go.Shelf.Ren:=⟨fun|189=>268|125=>315|257=>314|128=>348|129=>349|294=>339|295=>340|296=>341|297=>342|298=>343|299=>344|216=>345|300=>346|301=>347|328=>360|329=>361|330=>362|331=>363|332=>364|215=>162|343=>375|n=>n,fun|28=>23|3=>3|46=>222|0=>0|51=>318|53=>139|4=>4|183=>394|182=>393|131=>266|5=>5|9=>9|218=>413|222=>329|228=>428|229=>429|n=>n,fun|n=>n⟩
def Tryz.pD:Go.Proofs.Lays.n189 Tryz.prog Tryz.Xv:={
 mixed:=by kernel_rfl
 f125:=Tryz.func315.trans (congrArg some (by kernel_rfl))
 f128:=Tryz.func348.trans (congrArg some (by kernel_rfl))
 f129:=Tryz.func349.trans (congrArg some (by kernel_rfl))
 f189:=Tryz.func268.trans (congrArg some (by kernel_rfl))
 f215:=Tryz.func162.trans (congrArg some (by kernel_rfl))
 f216:=Tryz.func345.trans (congrArg some (by kernel_rfl))
 f257:=Tryz.func314.trans (congrArg some (by kernel_rfl))
 f294:=Tryz.func339.trans (congrArg some (by kernel_rfl))
 f295:=Tryz.func340.trans (congrArg some (by kernel_rfl))
 f296:=Tryz.func341.trans (congrArg some (by kernel_rfl))
 f297:=Tryz.func342.trans (congrArg some (by kernel_rfl))
 f298:=Tryz.func343.trans (congrArg some (by kernel_rfl))
 f299:=Tryz.func344.trans (congrArg some (by kernel_rfl))
 f300:=Tryz.func346.trans (congrArg some (by kernel_rfl))
 f301:=Tryz.func347.trans (congrArg some (by kernel_rfl))
 f328:=Tryz.func360.trans (congrArg some (by kernel_rfl))
 f329:=Tryz.func361.trans (congrArg some (by kernel_rfl))
 f330:=Tryz.func362.trans (congrArg some (by kernel_rfl))
 f331:=Tryz.func363.trans (congrArg some (by kernel_rfl))
 f332:=Tryz.func364.trans (congrArg some (by kernel_rfl))
 f343:=Tryz.func375.trans (congrArg some (by kernel_rfl))
 t0:=Tryz.underlying0
 a0:=Tryz.isAgg0
 z0:=Tryz.sizeOf0
 v0:=Tryz.zeroValue0
 t3:=Tryz.underlying3
 a3:=Tryz.isAgg3
 z3:=Tryz.sizeOf3
 v3:=Tryz.zeroValue3
 t4:=Tryz.underlying4
 a4:=Tryz.isAgg4
 z4:=Tryz.sizeOf4
 v4:=Tryz.zeroValue4
 t5:=Tryz.underlying5
 a5:=Tryz.isAgg5
 z5:=Tryz.sizeOf5
 v5:=Tryz.zeroValue5
 t9:=Tryz.underlying9
 a9:=Tryz.isAgg9
 z9:=Tryz.sizeOf9
 v9:=Tryz.zeroValue9
 t28:=Tryz.underlying23
 a28:=Tryz.isAgg23
 z28:=Tryz.sizeOf23
 v28:=Tryz.zeroValue23
 t46:=Tryz.underlying222
 a46:=Tryz.isAgg222
 z46:=Tryz.sizeOf222
 v46:=Tryz.zeroValue222
 t51:=Tryz.underlying318
 a51:=Tryz.isAgg318
 z51:=Tryz.sizeOf318
 v51:=Tryz.zeroValue318
 t53:=Tryz.underlying139
 a53:=Tryz.isAgg139
 z53:=Tryz.sizeOf139
 v53:=Tryz.zeroValue139
 t131:=Tryz.underlying266
 a131:=Tryz.isAgg266
 z131:=Tryz.sizeOf266
 v131:=Tryz.zeroValue266
 t182:=Tryz.underlying393
 a182:=Tryz.isAgg393
 z182:=Tryz.sizeOf393
 v182:=Tryz.zeroValue393
 t183:=Tryz.underlying394
 a183:=Tryz.isAgg394
 z183:=Tryz.sizeOf394
 v183:=Tryz.zeroValue394
 t218:=Tryz.underlying413
 a218:=Tryz.isAgg413
 z218:=Tryz.sizeOf413
 v218:=Tryz.zeroValue413
 t222:=Tryz.underlying329
 a222:=Tryz.isAgg329
 z222:=Tryz.sizeOf329
 v222:=Tryz.zeroValue329
 t228:=Tryz.underlying428
 a228:=Tryz.isAgg428
 z228:=Tryz.sizeOf428
 v228:=Tryz.zeroValue428
 t229:=Tryz.underlying429
 a229:=Tryz.isAgg429
 z229:=Tryz.sizeOf429
 v229:=Tryz.zeroValue429}
end Go.Proofs
namespace Go.Gl
open Go.Proofs Go.Shelf
abbrev Hn (x y:Int):Bool:=decide (x<=y)
def kW {P:Program} {f:FuncId} (hok:okF P f=true)
    (hc: ∀(blk cap:Nat) (zs:List Int) (w:World),Sort.Holds (Value.int .i64) w blk 0 zs.toArray->blk<w.heap.size->zs.length<4611686018427387904->
     Calls P f #[.slice (some ⟨blk,0,none⟩) zs.length cap] w fun e w'=>e= .returned (.tuple #[])/\ ∃n os,w'=Sort.grow (Sort.putRow (Value.int .i64) (Sort.ahead w n) blk 0 (zs.mergeSort fun x y=>decide (x<=y)).toArray) os)
    (xs:List Int) (n len cap:Nat):BT P f [.sl n len cap] [.own (.sl n len cap) 1 (iL xs)] fun r post=>r= .ret (.t [])/\post= [.own (.sl n len cap) 1 (iL (xs.mergeSort Hn))]:=by
 intro Z hs;refine⟨hok,fun F w cs hR hv=>?_⟩;rcases hs.get (i:=0) rfl with⟨h,_⟩|⟨n',cap',h,hn⟩
 .cases h
 cases h;rw[B2]at hv;obtain⟨c,e,hb,h1,h2,h3,h4⟩:=FF hR hn;rw[B2]at h2 h3;have hM:AZ=17592186044416:=rfl;rw[BH]at h4
 have hcell: ∀j x,xs[j]? =some x->c[j]? =some (Value.int .i64 x)/\IntKind.i64.min<=x/\x<=IntKind.i64.max:=fun j x hx=>by
  have:=(h4 j [.i .i64 x] (by rw[Je,hx];rfl)).2;simp only[Ba,Nat.mul_one,G8]at this;obtain⟨⟨d,hd,hr⟩,_⟩:=this;simp only[Ag]at hr;obtain⟨rfl,hr⟩:=hr;exact⟨hd,hr⟩
 have hcs:cs= #[.slice (some ⟨n,0,none⟩) xs.length cap]:=by
  obtain⟨hsz,hv⟩:=hv;simp only[Ba,Ag]at hv;obtain⟨⟨d,hd,rfl,_⟩,_⟩:=hv;simp at hsz;apply Array.ext_getElem?;intro i;rcases i with _|i
  .simpa using hd
  .rw[Array.getElem?_eq_none (by omega),Array.getElem?_eq_none (by simp)]
 subst hcs
 have hH:Sort.Holds (Value.int .i64) w n 0 xs.toArray:=fun j hj=>by
  have hj':j<xs.length:=by simpa using hj
  obtain⟨h5,_⟩:=hcell j xs[j] (Cr hj');refine⟨?_,?_⟩
  .rw[G8,Dd hb,h5]
   simp[getElem!_pos,hj']
  .rw[G8];exact Ry hb
 refine(hc n cap xs w hH (hR.lt hn) (by omega)).mono fun e' w' ⟨he,k,os,hw⟩=>?_
 subst he;have hlen:(xs.mergeSort Hn).length=xs.length:=List.length_mergeSort _
 have hheap: ∀m,m<w.heap.size->w'.heap[m]? =if m=n then some (.cells (Sort.putCells (Value.int .i64) 0 (xs.mergeSort Hn).toArray c) e (0,0))else w.heap[m]? :=fun m hm=>by
  rw[hw];simp only[Sort.grow,Sort.putRow,Sort.mapBlock,Sort.ahead];rw[Array.getElem?_append_left (by simpa using hm),Array.getElem?_modify];by_cases e1:n=m
  .subst e1
   rw[if_pos rfl,if_pos rfl,hb];rfl
  .rw[if_neg e1,if_neg (Ne.symm e1)]
 have hadv:B8 F Z w (B3 Z n (.arr 1 (iL (xs.mergeSort Hn)) cap)) w':=by
  refine⟨fun m hm h0=>?_,?_,by rw[hw];rfl,by rw[hw];rfl,by rw[hw];rfl,fun m h0 _=>?_⟩
  .rw[hheap m hm,if_neg]
   intro e1;subst e1;rw[hn]at h0;cases h0
  .rw[hw];simp[Sort.grow]
  .rw[Cm _ _ (fun e1=>by subst e1;rw[hn]at h0;cases h0)];exact h0
 refine⟨.ret (.t []),B3 Z n (.arr 1 (iL (xs.mergeSort Hn)) cap),⟨_,⟨rfl,rfl⟩,?_⟩,?_,?_,hadv⟩
 .refine⟨fun a ha=>?_,List.pairwise_singleton _ _⟩
  rw[KF.1 ha];exact .inr ⟨n,cap,by simp[hlen],DJ _ _ _⟩
 .exact⟨_,rfl,by simp[Ag,Ba]⟩
 .refine hR.step hadv fun m o ho=>?_
  by_cases e1:m=n
  .subst e1
   rw[DJ]at ho;cases ho;refine .inr ⟨(hR.own _ _ hn).1,_,(hheap m (hR.lt hn)).trans (if_pos rfl),_,_,rfl,by simpa[Sort.putCells]using h1,by simpa[hlen]using h2,by simpa[hlen]using h3,?_⟩;rw[BH];intro i r hi;rw[Je]at hi;cases hx:(xs.mergeSort Hn)[i]? with
   | none=>rw[hx]at hi;cases hi
   | some x=>
     rw[hx]at hi;cases hi;have hil:i<xs.length:=by have:=(JC.1 hx).1;omega
     have hxm:x∈xs:=(List.mergeSort_perm xs Hn).mem_iff.1 (Bo hx);obtain⟨j,hj⟩:=List.getElem?_of_mem hxm;have hbd:=(hcell j x hj).2;obtain⟨hci,_⟩:=hcell i xs[i] (Cr hil);have hcl:i<c.size:=(sO.1 hci).1;refine⟨rfl,?_⟩;simp only[Ba,Nat.mul_one,G8,Ag,and_true];refine⟨_,?_,rfl,hbd⟩;simp only[Sort.putCells,Array.getElem?_mapIdx];rw[hci];have hxe:=(JC.1 hx).2;simp[hlen,hil,getElem!_pos,hxe]
  .rw[Cm _ _ e1]at ho
   exact .inl ⟨ho,(hheap m (hR.lt ho)).trans (if_neg e1)⟩
def oB (xs:List Int) (n len cap:Nat):BT Tryz.prog 268 [.sl n len cap] [.own (.sl n len cap) 1 (iL xs)] fun r post=>r= .ret (.t [])/\post= [.own (.sl n len cap) 1 (iL (xs.mergeSort Hn))]:=
 kW (by kernel_rfl) (fun blk cap zs w h1 h2 h3=>Any.slices_Sort_int Tryz.pD blk 0 cap zs w h1 h2 h3) xs n len cap
end Go.Gl
namespace Go.Gl
open Go.Proofs
attribute [local irreducible] Au Am Ab AR AK AY AQ AS AJ AX AN AP Ao Az Sat AU Ax Ad W
def uM:Pure zP 349 [.i .u64 0] (eI 0):=by
 refine vQ kZ ?_;have hs:=Sn
 conv=>whnf
 repeat'((first|clear U K|apply st|(apply zk;intro K U)|refine zY ?_|(refine zb (fun hc=>?_) (fun hc=>?_)<;>try exact⟨⟩)|fail)<;>conv=>whnf)
 refine⟨by decide,?_⟩;exact zW
def uN:Pure zP 315 [.i .u64 0] (eI 0):=by
 refine wE kZ ?_;have hs:=Sn
 conv=>whnf
 repeat'((first|clear U K|apply st|(apply zk;intro K U)|refine uM.use ?_|fail)<;>conv=>whnf)
 all_goals exact AF rfl
def uS:Pure zP 339 [.l [] true,eI 0,eI 0] (.t []):=by
 refine vR kZ ?_;have hs:=Sn;refine zz ?_;(repeat clear U K);repeat intro K U
 refine D1 (fun(_:Unit)=>0) (fun _=>[(6,eI 1)]) (fun _=>[]) (fun _=>True) () rfl trivial hs ?_;clear hs;rintro - Z - hs;exact zW
def tf:Pure zP 314 [.l [] true,eI 0,eI 0,eI 0] (.t []):=by
 refine wF kZ ?_;have hs:=Sn;refine zz ?_;(repeat clear U K);repeat intro K U
 refine D1 (fun(_:Unit)=>0) (fun _=>[]) (fun _=>[]) (fun _=>True) () rfl trivial hs ?_;clear hs;rintro - Z - hs
 conv=>whnf
 repeat'((first|clear U K|apply st|(apply zk;intro K U)|refine zY ?_|refine uS.use ?_|(refine zb (fun hc=>?_) (fun hc=>?_)<;>try exact⟨⟩)|fail)<;>conv=>whnf)
 all_goals exact AF rfl
def kX:Pure zP 268 [.l [] true] (.t []):=by
 refine w7 kZ ?_;have hs:=Sn
 conv=>whnf
 repeat'((first|clear U K|apply st|(apply zk;intro K U)|refine uN.use ?_|refine tf.use ?_|fail)<;>conv=>whnf)
 all_goals exact AF rfl
def gb {xs:List Int} {v:V} (hv:(B7 v).isSome=true\/(v= .l [] true/\xs= [])):BT zP 268 [v] [.own v 1 (iL xs)] fun r post=>r= .ret (.t [])/\post= [.own v 1 (iL (xs.mergeSort Hn))]:=by
 rcases hv with hv|⟨rfl,rfl⟩
 .obtain⟨n,l,c,rfl⟩:=gg hv
  exact oB xs n l c
 .intro Z hs
  have:=kX.use (Z:=Z) (k:=fun v Z'=>v= .t []/\Z'=Z) (kp:=fun _ _=>False) ⟨rfl,rfl⟩;refine Au.mono this ?_;rintro(u|u) Z' hq
  .obtain⟨rfl,rfl⟩:=hq
   exact⟨_,⟨rfl,rfl⟩,by simpa using hs⟩
  .exact hq.elim
def X0 {b:Nat} {Z:AE} {sz:Nat} {v:V} {ys:List (List V)} {f:Bool} {K:V->AE->Prop} (h:AK b Z sz v (.l ys f) fun v' Z'=>((B7 v').isSome=true\/(v'=v/\ys= []))->K v' Z'):AK b Z sz v (.l ys f) K:=by
 unfold AK at *;obtain⟨h1,h2,h3⟩:=h;refine⟨h1,h2,?_⟩;cases v with
 | l es full=>exact⟨h3.1,h3.2.1,fun e=>h3.2.2.1 e (.inr ⟨rfl,e⟩),fun e=>⟨(h3.2.2.2 e).1,fun n cap hn hc=>(h3.2.2.2 e).2 n cap hn hc (.inl rfl)⟩⟩
 | sl n len cap=>
   simp only at h3 ⊢;split at h3
   .exact⟨h3.1,h3.2.1,h3.2.2.1,h3.2.2.2.1,fun n' cap' hn hc=>h3.2.2.2.2 n' cap' hn hc (.inl rfl)⟩
   .exact h3.elim
 | _=>exact h3.elim
def UD (M:List Int):List (V×V):=M.map fun k=>(eI k,.b true)
def P9 (M:List Int) (k:Int):List Int:=if M.contains k then M else M++[k]
def Wx (M:List Int) (k b:Int):(P9 M k).contains b=(M.contains b||b==k):=by
 unfold P9;split
 .rename_i h
  by_cases hb:b=k
  .subst hb;simpa using h
  .have:(b==k)=false:=by simpa using hb
   rw[this,Bool.or_false]
 .simp[List.contains_append]
  rfl
def bF (M:List Int) (k:Int):DX (eI k) (.b true) (UD M)=UD (P9 M k):=by
 induction M with
 | nil=>rfl
 | cons x r ih=>
   simp only[UD,E3,DX]at *;have he:D0 (eI k) (eI x)=(k==x):=rfl;rw[he];cases hx:k==x
   .rw[cond_false,ih]
    unfold P9;have:(x::r).contains k=r.contains k:=by rw[List.contains_cons,hx,Bool.false_or]
    rw[this];split<;>simp
   .rw[cond_true]
    have hk:k=x:=by simpa using hx
    subst hk;unfold P9;simp
def Mv (M:List Int) (k:Int):found (.b false) false (Cn (eI k) (UD M))= .b (M.contains k):=by
 induction M with
 | nil=>rfl
 | cons x r ih=>
   simp only[UD,E3,Cn]at *;have he:D0 (eI k) (eI x)=(k==x):=rfl;rw[he,List.contains_cons];cases k==x
   .simpa using ih
   .rfl
def IC (M:List Int): ∀kv∈UD M,BW (.i .i64) kv.1=true:=by
 intro kv h;obtain⟨e,_,rfl⟩:=IX.1 h;rfl
def lkK {Z:AE} {l:List At} {i mm:Nat} {M:List Int} {k:Int} {K:V->Prop} (hk:K (.b (M.contains k))) (h:Sat Z l:=by assumption)
    (hi:l[i]? =some (.map mm (UD M)):=by first|exact SV|exact SU|exact SS|exact SQ|exact SP|exact SO):AN Z (.i .i64) (.b false) false (.m mm) (eI k) K:=
 KT h i hi rfl (IC M) (by rw[Mv];exact hk)
def msK {Z:AE} {l:List At} {i mm:Nat} {M:List Int} {k:Int} {K:AE->Prop} (hk: ∀Z',Sat Z' (l.set i (.map mm (UD (P9 M k))))->K Z') (h:Sat Z l:=by assumption)
    (hi:l[i]? =some (.map mm (UD M)):=by first|exact SV|exact SU|exact SS|exact SQ|exact SP|exact SO):AP Z (.i .i64) (.m mm) (eI k) (.b true) K:=
 Iq h i hi rfl (IC M) (fun Z' hs=>hk Z' (by rw[bF]at hs;exact hs))
def Jx (p:Prog) (c:Nat):SW:=p.AM.getD (c - 3) default
def EP (p:Prog) (c:Nat):Nat->List Int
 | 0=>[]
 | k+1=>if G9 (A3 p) c (c - k)then EP p c k++(Jx p (c - k)).AG else EP p c k
def tg {ps:List (List Int)} (ho:ordered ps) {n c:Nat} (hc:c<n) (k:Nat): ∀p∈par ps (c - k),0<=p/\p.toNat<(Ho ps n c k).length/\p.toNat<c - k:=fun p hp=>by
 have:=ho _ _ hp;rw[MQ];omega
def Wh {ps:List (List Int)} (ho:ordered ps) {n c:Nat} (hc:c<n) (k b:Nat):(Ho ps n c (k+1)).getD b false=((Ho ps n c k).getD b false||((Ho ps n c k).getD (c - k) false&&(par ps (c - k)).contains (b:Int))):=by
 rw[Ho,OI _ _ (tg ho hc k)]
def Wi {ps:List (List Int)} (ho:ordered ps) {n c:Nat} (hc:c<n) (k:Nat): ∀(m:Nat) (b:Nat),c - k<=b->(Ho ps n c (k+m)).getD b false=(Ho ps n c k).getD b false
 | 0,_,_=>rfl
 | m + 1,b,h=>by
   rw[<-Nat.add_assoc,Wh ho hc,Wi ho hc k m b h]
   have:(par ps (c - (k+m))).contains (b:Int)=false:=by
    cases hb:(par ps (c - (k+m))).contains (b:Int)
    .rfl
    .have:=ho _ _ (List.contains_iff_mem.1 hb)
     omega
   rw[this,Bool.and_false,Bool.or_false]
def iI {ps:List (List Int)} (ho:ordered ps) {n c:Nat} (hc:c<n) {k:Nat} (hk:k<=c - 2):(Ho ps n c k).getD (c - k) false=G9 ps c (c - k):=by
 rw[<-aK ho hc (c - k),<-Wi ho hc k (c - 2 - k) (c - k) (IW _)];congr 2;omega
def Rz (b:Int): ∀(l M:List Int),(l.foldl P9 M).contains b=(M.contains b||l.contains b)
 | [],M=>by simp
 | x::r,M=>by
   rw[List.foldl_cons,Rz b r,Wx,List.contains_cons,Bool.or_assoc]
def ss {Z:AE} {l:List At} {i mm:Nat} {M:List Int} {k:Int} {b:Bool} {K:V->Prop} (e:M.contains k=b) (hk:K (.b b)) (h:Sat Z l:=by assumption)
    (hi:l[i]? =some (.map mm (UD M)):=by first|exact SV|exact SU|exact SS|exact SQ|exact SP|exact SO):AN Z (.i .i64) (.b false) false (.m mm) (eI k) K:=lkK (e ▸ hk) h hi
def uV (p : Prog) (c:Nat) (h10:p.AM.length<=10) (hsl:Ct 0 p.AM=true) (hg:Dy (A3 p)=true) (hc3:3<=c) (hc:c<3+p.AM.length) :
    Pure zP 325 [.a (BG p),eI c] (.l (iL ((EP p c (c - 2)).mergeSort Hn)) false):=by
 refine Pure.fit (by kernel_rfl) fun hf=>?_
 have hP:=Ju hf.1;have hM:=Mx;have hG:=D7 hg;have ho:=Km hG;have hgl:(A3 p).length=p.AM.length:=by simp[A3]
 refine vj kZ ?_;have hs:=Sn
 conv=>whnf
 repeat'((first|clear U K|apply st|(apply zk;intro K U)|refine zo fun nn hnn Z hs=>?_|fail)<;>conv=>whnf)
 replace hs:Sat Z [.map nn (UD [])]:=hs
 conv=>whnf
 repeat'((first|clear U K|apply st|(apply zk;intro K U)|refine msK (fun Z hs=>?_)|fail)<;>conv=>whnf)
 generalize nn=mm at *;replace hs:Sat Z [.map mm (UD [(c:Int)])]:=hs
 refine Bw (c - 2) (fun k (x:List Int×V)=>[(6,x.2),(7,eI ((c:Int) - k))]) (fun k x=>[.own x.2 1 (iL (EP p c k)),.map mm (UD x.1)])
  (fun k x=>(∀b:Nat,b<3+(A3 p).length->x.1.contains (b:Int)=(Ho (A3 p) (3+(A3 p).length) c k).getD b false)/\((B7 x.2).isSome=true\/(x.2= .l [] true/\EP p c k= []))/\(EP p c k).length<=4*k) ([(c:Int)],.l [] true) ?_ ⟨?_,.inr ⟨rfl,rfl⟩,by simp[EP]⟩ (Cp hs 1) ?_
 .simp[P8,get]
  exact⟨rfl,rfl,rfl⟩
 .intro b hb
  simp only[Ho];rw[EZ (by simp;omega)];by_cases hbc:b=c
  .subst hbc;simp
  .rw[if_neg hbc]
   have:((c:Int)==(b:Int))=false:=by simp;omega
   simp[C4,List.getElem?_replicate];split<;>simp<;>omega
 clear hs;rintro k ⟨M,v⟩ Z hk ⟨hMb,hv,hml⟩ hs;dsimp only at hMb hv hs;rcases Nat.lt_or_ge k (c - 2)with hlt|hge
 .have hkc:M.contains ((c:Int) - k)=G9 (A3 p) c (c - k):=by
   have:=hMb (c - k) (by omega);rw[iI ho (by omega) (by omega)]at this;rw[<-this];congr 1;omega
  have hcl:p.AM[(IntKind.i64.wrap ((c:Int) - k - 3)).toNat]? =some (Jx p (c - k)):=by
   rw[wrap64 (by omega) (by omega),show((c:Int) - k - 3).toNat=c - k - 3 by omega,Jx,C4,Cr (by omega)];rfl
  have hwi:0<=IntKind.i64.wrap ((c:Int) - k - 3):=by rw[wrap64 (by omega) (by omega)];omega
  have hw1:IntKind.i64.wrap ((c:Int) - k - 1)=(c:Int) - (k+1:Nat):=by rw[wrap64 (by omega) (by omega)];omega
  have hmt:EP p c (k+1)=if G9 (A3 p) c (c - k)then EP p c k++(Jx p (c - k)).AG else EP p c k:=rfl
  have hpar:(Jx p (c - k)).parents=par (A3 p) (c - k):=by
   unfold par Jx A3;rw[if_neg (by omega),C4,C4,Je,Cr (by omega)];rfl
  have hcm:=hP.2 _ (Bo hcl);have hs4:=((Fe _ _ hsl).2 _ (Bo hcl)).2;have hst:=fun b=>Wh ho (show c<3+(A3 p).length by omega) k b
  rw[iI ho (by omega) (by omega),<-hpar]at hst;generalize Jx p (c - k)=cl at *;cases hb:G9 (A3 p) c (c - k)
  .rw[hb]at hkc hmt hst
   rw[if_neg (by decide)]at hmt
   conv=>whnf
   repeat'((first|clear U K|apply st|(apply zk;intro K U)|refine zY ?_|refine ss hkc ?_|(refine zb (fun hc=>?_) (fun hc=>?_)<;>try exact⟨⟩)|fail)<;>conv=>whnf)
   all_goals try(exfalso;omega)
   rw[hw1];exact⟨hlt,(M,v),rfl,⟨fun b hb=>by rw[hMb b hb,hst b];simp,by rw[hmt];exact hv,by rw[hmt];omega⟩,by rw[hmt];exact hs⟩
  .rw [hb] at hkc hmt hst
   rw[if_pos rfl]at hmt
   conv=>whnf
   repeat'((first|clear U K|apply st|(apply zk;intro K U)|refine zY ?_|refine ss hkc ?_|(refine zb (fun hc=>?_) (fun hc=>?_)<;>try exact⟨⟩)|fail)<;>conv=>whnf)
   all_goals try(exfalso;omega)
   refine X0 (FV hs 0 rfl (by omega) Bm fun v' Z hs hv'=>?_);rw[<-hmt]at hs;refine zz ?_;(repeat clear U K);repeat intro K U
   refine Bw cl.parents.length (fun j (_:List Int)=>[(38,eI (A6 j))]) (fun _ M=>[.own v' 1 (iL (EP p c (k+1))),.map mm (UD M)]) (fun j M'=>M'=(cl.parents.take j).foldl P9 M) M rfl rfl hs ?_;clear hs;rintro j M' Z hj hM' hs;rcases A7 cl.parents hj with⟨q,hq,hjlt⟩|hje
   .conv=>whnf
    repeat'((first|clear U K|apply st|(apply zk;intro K U)|refine zY ?_|refine msK (fun Z hs=>?_)|fail)<;>conv=>whnf)
    exact⟨hjlt,_,rfl,by rw[AO hq,List.foldl_append,<-hM'];rfl,hs⟩
   .rw [Aq hje]at hM'
    refine zz ?_;(repeat clear U K);repeat intro K U
    rw[hw1];refine⟨hlt,(M',v'),rfl,⟨fun b hb=>?_,?_,?_⟩,hs⟩
    .rw[hM',Rz,hMb b hb,hst b,EA]
    .rcases hv' with hv'|⟨rfl,he⟩
     .exact .inl hv'
     .rcases hv with hv|⟨hv,hm0⟩
      .exact .inl hv
      .refine .inr ⟨hv,?_⟩
       rw[hmt,hm0,List.map_eq_nil_iff.1 he];rfl
    .rw[hmt,NW];omega
 .have hkk:k=c - 2:=by omega
  rw[hkk]at hs hv hml;clear hMb
  conv=>whnf
  repeat'((first|clear U K|apply st|(apply zk;intro K U)|refine zY ?_|(refine zb (fun hc=>?_) (fun hc=>?_)<;>try exact⟨⟩)|fail)<;>conv=>whnf)
  all_goals try(exfalso;omega)
  refine(gb hv).use (rest:=[_]) hs ?_;clear hs;rintro r post Z ⟨rfl,rfl⟩ hs
  conv=>whnf
  repeat'((first|clear U K|apply st|(apply zk;intro K U)|fail)<;>conv=>whnf)
  refine(Qh _ v (by rw[List.length_mergeSort];omega)).use (rest:=[_]) hs ?_;clear hs;rintro r post Z ⟨rfl,rfl⟩ hs;refine zz ?_;(repeat clear U K);repeat intro K U
  exact A8 gy
def Rk {p : Prog} {c:Nat} (s:Int): ∀k,s∈EP p c k↔ ∃j,j<k/\G9 (A3 p) c (c - j)=true/\s∈(Jx p (c - j)).AG
 | 0=>by simp[EP]
 | k + 1 =>by
   rw[EP];have ih:=Rk (p:=p) (c:=c) s k;constructor
   .intro h
    split at h
    .rename_i hu
     rcases Du.1 h with h|h
     .obtain⟨j,h1,h2⟩:=ih.1 h
      exact⟨j,by omega,h2⟩
     .exact⟨k,by omega,hu,h⟩
    .obtain⟨j,h1,h2⟩:=ih.1 h
     exact⟨j,by omega,h2⟩
   .rintro⟨j,h1,h2,h3⟩
    by_cases hj:j=k
    .subst hj
     rw[if_pos h2];exact Du.2 (.inr h3)
    .have:=ih.2 ⟨j,by omega,h2,h3⟩
     split
     .exact Du.2 (.inl this)
     .exact this
def Wt: ∀(l:List Int) (n s:Int),L5 n l=true->(s∈l↔n<=s/\s<n+l.length)
 | [],n,s,_=>by simp<;>omega
 | x::r,n,s,h=>by
   simp only[L5,A9,DD]at h;obtain⟨rfl,h⟩:=h;have:=Wt r (x+1) s h;rw[GR,this,Ky];omega
def TQ: ∀(cs:List SW) (i:Nat) (n s:Int),Ct n cs=true->0<=n-> ∀(j:Nat) (c:SW),cs[j]? =some c->(s∈c.AG↔n<=s/\s<n+(Bq cs:Int)/\(BR i cs).getD (s - n).toNat 0=((i+j:Nat):Int)+3)
 | [],_,_,_,_,_,_,_,h=>by cases h
 | d ::r,i,n,s,h,h0,j,c,hj=>by
   simp only[Ct,A9,Cc]at h;obtain⟨-,-,hq,hr⟩:=h;have hm:=Wt d.AG n s hq;have hml:(Bq (d::r):Int)=d.AG.length+Bq r:=by simp[Bq]
   have hgd:n<=s->(BR i (d::r)).getD (s - n).toNat 0=if s<n+d.AG.length then(i:Int)+3 else(BR (i+1) r).getD (s - (n+d.AG.length)).toNat 0:=fun hns=>by
    simp only[BR,C4];split
    .rw[cQ (by simp;omega),List.getElem?_replicate,if_pos (by omega)]
     rfl
    .rw[List.getElem?_append_right (by simp;omega)]
     congr 2;simp;omega
   have hout: ∀q,q∈BR (i+1) r->(3:Int)+((i+1:Nat):Int)<=q:=fun q hq=>(GY hq).1
   cases j with
   | zero=>
     simp at hj;subst hj;rw[hm,hml];constructor
     .rintro⟨h1,h2⟩
      refine⟨h1,by omega,?_⟩;rw[hgd h1,if_pos h2];simp
     .rintro⟨h1,h2,h3⟩
      refine⟨h1,?_⟩;rw[hgd h1]at h3;by_cases hlt:s<n+d.AG.length
      .exact hlt
      .rw[if_neg hlt,C4]at h3
       have hlen:(s - (n+d.AG.length)).toNat<(BR (i+1) r).length:=by rw[Cj];omega
       rw[Cr hlen]at h3;have:=hout _ (List.getElem_mem hlen);simp at h3;omega
   | succ j=>
     simp at hj;have ih:=TQ r (i+1) (n+d.AG.length) s hr (by omega) j c hj;rw[ih,hml];constructor
     .rintro⟨h1,h2,h3⟩
      refine⟨by omega,by omega,?_⟩;rw[hgd (by omega),if_neg (by omega),h3];omega
     .rintro⟨h1,h2,h3⟩
      rw[hgd h1]at h3;by_cases hlt:s<n+d.AG.length
      .rw[if_pos hlt]at h3;omega
      .rw[if_neg hlt]at h3
       exact⟨by omega,by omega,by rw[h3];omega⟩
def lM {p:Prog} {c:Nat} (hsl:Ct 0 p.AM=true) (ho:ordered (A3 p)) (hc3:3<=c) (hc:c<3+p.AM.length) (s:Int) :
    ((EP p c (c - 2)).mergeSort Hn).contains s=(decide (0<=s)&&(decide (s<(Bq p.AM:Int))&&hasB (AL p) (c:Int) s)):=by
 rw[IZ,List.contains_iff_mem,(List.mergeSort_perm _ Hn).mem_iff,Rk];simp only[A9,Cc,hasB]
 have hown: ∀j,j<c - 2->(s∈(Jx p (c - j)).AG↔0<=s/\s<(Bq p.AM:Int)/\B4 (AL p) s=((c - j:Nat):Int)):=fun j hj=>by
  have hcl:p.AM[c - j - 3]? =some (Jx p (c - j)):=by
   rw[Jx,C4,Cr (by omega)];rfl
  have:=TQ p.AM 0 0 s hsl (by omega) (c - j - 3) _ hcl;rw[this];simp only[Int.sub_zero,Int.zero_add,B4,AL];constructor
  .rintro⟨h1,h2,h3⟩;exact⟨h1,h2,by rw[h3];omega⟩
  .rintro⟨h1,h2,h3⟩;exact⟨h1,h2,by rw[h3];omega⟩
 constructor
 .rintro⟨j,h1,h2,h3⟩
  obtain⟨h4,h5,h6⟩:=(hown j h1).1 h3;refine⟨h4,h5,by omega,?_⟩;rw[h6];simp only[Jm,Fm,A9,Cc];exact .inr (.inr ⟨by omega,by simpa[AL]using h2⟩)
 .rintro⟨h1,h2,h3,h4⟩
  have hmem:B4 (AL p) s∈BR 0 p.AM:=by
   have hlen:s.toNat<(BR 0 p.AM).length:=by rw[Cj];omega
   have:B4 (AL p) s=(BR 0 p.AM)[s.toNat]:=by
    simp only[B4,AL,C4,Cr hlen];rfl
   rw[this];exact List.getElem_mem hlen
  have hb:=GY hmem
  have hup:G9 (A3 p) c (B4 (AL p) s).toNat=true:=by
   simp only[Jm,Fm,A9,Cc,DD]at h4;rcases h4 with h4|h4|⟨_,h4⟩
   .rw[<-h4,GB];exact F4 ho c
   .omega
   .simpa[AL]using h4
  have hle:=iJ ho _ _ hup;refine⟨c - (B4 (AL p) s).toNat,by omega,?_,?_⟩
  .rw[show c - (c - (B4 (AL p) s).toNat)=(B4 (AL p) s).toNat by omega]
   exact hup
  .refine(hown _ (by omega)).2 ⟨h1,h2,by omega⟩
end Go.Gl
