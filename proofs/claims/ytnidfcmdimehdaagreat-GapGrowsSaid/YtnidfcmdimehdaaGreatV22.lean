import Derived.Test.YtnidfcmdimehdaaGreatV14
import Derived.Test.YtnidfcmdimehdaaGreatV15
import Derived.Test.YtnidfcmdimehdaaGreatV18
import Derived.Test.YtnidfcmdimehdaaGreatV19
import Derived.Test.YtnidfcmdimehdaaGreatV20
import Derived.Test.YtnidfcmdimehdaaGreatV21
set_option linter.all false
set_option linter.defProp false
set_option maxHeartbeats 8000000
noncomputable section
namespace Go.Gl
open Go.Proofs
attribute [local irreducible] Av An Af AQ AL Ac AP AS AK Ab AN AO As A3 Sat AV A0 Ag W
def lO (xs:List Int) (f:Bool):Pure zP 136 [.l (iL xs) f] (.l (iL xs) false):=by
 refine Pure.fit (by kernel_rfl) fun hf=>?_
 have hxl:=T8 hf.1;have hM:=Mx;refine ic kZ ?_;have hs:=Sn
 conv=>whnf
 repeat'((first|clear U K|apply st|(apply zk;intro K U)|fail)<;>conv=>whnf)
 refine⟨fun e t=>?_,fun _=>?_⟩
 .have hx:xs= []:=List.map_eq_nil_iff.1 e
  subst hx
  conv=>whnf
  repeat'((first|clear U K|apply st|(apply zk;intro K U)|refine za (fun hc=>?_) fun hc=>?_|fail)<;>conv=>whnf)
  .exact Be MK
  .replace hs:=DF hs 1
   refine Kx hs 0 (xs:=[]) (ys:=[]) rfl (by simp) Cy fun v Z hs=>?_
   refine zz ?_;(repeat clear U K);repeat intro K U
   exact Ge hs 0 rfl rfl
 .refine zz ?_;(repeat clear U K);repeat intro K U
  replace hs:=DF hs 1;refine Kx hs 0 (xs:=[]) (ys:=xs) rfl (by simp;omega) Cy fun v Z hs=>?_
  refine zz ?_;(repeat clear U K);repeat intro K U
  exact Ge hs 0 rfl rfl
def sx (c:Pn):Pure zP 252 [.a (Gu c)] (.l (iL c.parents) false):=by
 refine uv kZ ?_;have hs:=Sn
 conv=>whnf
 repeat'((first|clear U K|apply st|(apply zk;intro K U)|refine Pure.use (lO _ _) ?_|fail)<;>conv=>whnf)
 exact AJ rfl
def pd (xs:List (List Int)) (v:V) (hl:xs.length<=Ad):BO zP 295 [v] [.own v 1 (Es xs)] fun r post=>r= .ret (.l (Es xs) true)/\post= []:=by
 intro Z hs;have hg:=En DJ xs;refine uU kZ ?_;refine zz ?_;(repeat clear U K);repeat intro K U
 refine qw (i:=0) hs rfl hg.1 (by simpa using hl) fun Z hs=>?_
 refine zz ?_;(repeat clear U K);repeat intro K U
 exact Ay hs (List.Sublist.refl _) (.refl _) fun Z' hs'=>⟨_,⟨rfl,rfl⟩,hs'⟩
def QF (xs:List Int) (v:V) (hl:xs.length<=Ad):BO zP 262 [v] [.own v 1 (iL xs)] fun r post=>r= .ret (.l (iL xs) true)/\post= []:=by
 intro Z hs;have hg:=En Cy xs;refine iT kZ ?_;refine zz ?_;(repeat clear U K);repeat intro K U
 refine qw (i:=0) hs rfl hg.1 (by simpa using hl) fun Z hs=>?_
 refine zz ?_;(repeat clear U K);repeat intro K U
 exact Ay hs (List.Sublist.refl _) (.refl _) fun Z' hs'=>⟨_,⟨rfl,rfl⟩,hs'⟩
def pH (cs:List Pn) (hl:cs.length<=1000000):Pure zP 251 [.l (cs.map Gu) false,.f (.func 252) [] []] (.l (Es (cs.map (·.parents))) false):=by
 have hM:=Mx;refine uw kZ ?_;have hs:=Sn;refine zz ?_;(repeat clear U K);repeat intro K U
 refine Cn cs.length (fun k v=>[(5,v),(10,eI (BR k))]) (fun k v=>[.own v 1 (Es ((cs.take k).map (·.parents)))]) (fun _ _=>True) (.l [] true) rfl trivial (DF hs 1) ?_;clear hs;rintro k v Z hk - hs;rcases BK cs hk with⟨c,hc,hlt⟩|hke
 .conv=>whnf
  repeat'((first|clear U K|apply st|(apply zk;intro K U)|refine zY ?_|refine zs fun Z hs=>?_|refine zo fun nn hnn Z hs=>?_|fail)<;>conv=>whnf)
  refine BH ((sx c).use ?_)
  conv=>whnf
  repeat'((first|clear U K|apply st|(apply zk;intro K U)|refine zY ?_|refine aq fun v Z hs hsl=>?_|fail)<;>conv=>whnf)
  exact⟨hlt,_,rfl,trivial,by rw[AU hc,VB];exact hs.less (OS _ _)⟩
 .rw[BI hke]at hs
  refine zz ?_;(repeat clear U K);repeat intro K U
  refine(pd (cs.map (·.parents)) v (by simp;omega)).use (rest:=[]) hs ?_;clear hs;rintro r post Z ⟨rfl,rfl⟩ hs;refine zz ?_;(repeat clear U K);repeat intro K U
  exact Be gJ
def Mr (p:Prog) (hk0:p.AM.length<=1000):Pure zP 204 [.a (BT p)] (.l (Es (Aw p)) false):=by
 refine Pure.fit (by kernel_rfl) fun hf=>?_
 have hP:=Oc hf.1;refine vY kZ ?_;have hs:=Sn;refine zz ?_;(repeat clear U K);repeat intro K U
 refine(pH p.AM (by omega)).use ?_;exact zW
def V3 (p:Prog) (hk0:p.AM.length<=1000) (hm:Bn p.AM<=Ad):Pure zP 156 [.a (BT p)] (.a (BL (AI p))):=by
 refine Pure.fit (by kernel_rfl) fun hf=>?_
 have hP:=Oc hf.1;have hcl:=hP.1;have hM:=Mx;refine wR kZ ?_;have hs:=Sn
 conv=>whnf
 repeat'((first|clear U K|apply st|(apply zk;intro K U)|refine zY ?_|refine zs fun Z hs=>?_|refine Pure.use (Mr _ hk0) ?_|refine zo fun nn hnn Z hs=>?_|fail)<;>conv=>whnf)
 rename_i n2 _ _ _ _ _
 rename Nat=>n3
 replace hs:Sat Z [.box n3 [.l (Es (Aw p)) false,.l [] true],.box n2 [.l [] true,.l [] true]]:=hs;refine Cn p.AM.length (fun k (_:V)=>[(12,eI (BR k))]) (fun k v=>[.own v 1 (iL (BJ 0 (p.AM.take k))),.box n3 [.l (Es (Aw p)) false,v],.box n2 [.l [] true,.l [] true]]) (fun _ _=>True) (.l [] true) rfl trivial (DF hs 1) ?_;clear hs;rintro k v Z hk - hs;rcases BK p.AM hk with⟨c,hc,hlt⟩|hke
 .have hcm:=hP.2 c (Cm hc)
  have htk:=Q7 hc;have hck:BR k=k:=Ae (by omega)
  have hap:BJ 0 (p.AM.take (k+1))=BJ 0 (p.AM.take k)++List.replicate c.AF.length ((k:Int)+3):=by
   rw[AU hc,Fy];have:(p.AM.take k).length=k:=by simp;omega
   rw[this];simp[BJ]
  have hol:=Cd 0 (p.AM.take k);have hw3:IntKind.i64.wrap (BR k+3)=(k:Int)+3:=by rw[hck,wrap64 (by omega) (by omega)]
  have hcs:=hcm.2.1;generalize BJ 0 (p.AM.take k)=os at *
  conv=>whnf
  repeat'((first|clear U K|apply st|(apply zk;intro K U)|refine zY ?_|refine zs fun Z hs=>?_|refine zo fun nn hnn Z hs=>?_|fail)<;>conv=>whnf)
  refine Cn c.AF.length (fun j (_:V)=>[(20,eI (BR j))]) (fun j v=>[.own v 1 (iL (os++List.replicate j ((k:Int)+3))),.box n3 [.l (Es (Aw p)) false,v],.box n2 [.l [] true,.l [] true]]) (fun _ _=>True) v rfl trivial (by simpa using hs.less (OS _ _)) ?_;clear hs;rintro j v Z hj - hs;rcases BK c.AF hj with⟨s,hsl,hjlt⟩|hje
  .have hsv0:=Hj hs 0 rfl
   conv=>whnf
   repeat'((first|clear U K|apply st|(apply zk;intro K U)|refine zY ?_|refine zs fun Z hs=>?_|refine aq fun v Z hs hsl=>?_|fail)<;>conv=>whnf)
   have hsv:=Hj hs 0 rfl
   conv=>whnf
   refine⟨hjlt,v,rfl,trivial,?_⟩;rw[List.replicate_succ',<-Ph];rw[hw3]at hs;exact hs
  .refine zz ?_;(repeat clear U K);repeat intro K U
   exact⟨hlt,v,rfl,trivial,by rw[hap,<-hje];exact hs⟩
 .rw[BI hke]at hs
  have hsv:=Hj hs 0 rfl
  conv=>whnf
  repeat'((first|clear U K|apply st|(apply zk;intro K U)|refine zY ?_|refine zs fun Z hs=>?_|fail)<;>conv=>whnf)
  exact Be (.a (.cons (.refl _) (.cons (hs.Ha 0 rfl) .nil)))
def tV:Pure zP 285 [.i .u64 0] (eI 0):=by
 refine ub kZ ?_;have hs:=Sn
 conv=>whnf
 repeat'((first|clear U K|apply st|(apply zk;intro K U)|refine zY ?_|(refine zb (fun hc=>?_) (fun hc=>?_)<;>try exact⟨⟩)|fail)<;>conv=>whnf)
 refine⟨by decide,?_⟩;exact zW
def tW:Pure zP 237 [.i .u64 0] (eI 0):=by
 refine vD kZ ?_;have hs:=Sn
 conv=>whnf
 repeat'((first|clear U K|apply st|(apply zk;intro K U)|refine tV.use ?_|fail)<;>conv=>whnf)
 all_goals exact AJ rfl
def tb:Pure zP 275 [.l [] true,eI 0,eI 0] (.t []):=by
 refine uc kZ ?_;have hs:=Sn;refine zz ?_;(repeat clear U K);repeat intro K U
 refine GU (fun(_:Unit)=>0) (fun _=>[(6,eI 1)]) (fun _=>[]) (fun _=>True) () rfl trivial hs ?_;clear hs;rintro - Z - hs;exact zW
def sr:Pure zP 236 [.l [] true,eI 0,eI 0,eI 0] (.t []):=by
 refine vE kZ ?_;have hs:=Sn;refine zz ?_;(repeat clear U K);repeat intro K U
 refine GU (fun(_:Unit)=>0) (fun _=>[]) (fun _=>[]) (fun _=>True) () rfl trivial hs ?_;clear hs;rintro - Z - hs
 conv=>whnf
 repeat'((first|clear U K|apply st|(apply zk;intro K U)|refine zY ?_|refine tb.use ?_|(refine zb (fun hc=>?_) (fun hc=>?_)<;>try exact⟨⟩)|fail)<;>conv=>whnf)
 all_goals exact AJ rfl
def jl:Pure zP 190 [.l [] true] (.t []):=by
 refine vo kZ ?_;have hs:=Sn
 conv=>whnf
 repeat'((first|clear U K|apply st|(apply zk;intro K U)|refine tW.use ?_|refine sr.use ?_|fail)<;>conv=>whnf)
 all_goals exact AJ rfl
def ft {xs:List Int} {v:V} (hv:(CR v).isSome=true\/(v= .l [] true/\xs= [])):BO zP 190 [v] [.own v 1 (iL xs)] fun r post=>r= .ret (.t [])/\post= [.own v 1 (iL (xs.mergeSort HZ))]:=by
 rcases hv with hv|⟨rfl,rfl⟩
 .obtain⟨n,l,c,rfl⟩:=yW hv
  exact m4 xs n l c
 .intro Z hs
  have:=jl.use (Z:=Z) (k:=fun v Z'=>v= .t []/\Z'=Z) (kp:=fun _ _=>False) ⟨rfl,rfl⟩;refine Av.mono this ?_;rintro(u|u) Z' hq
  .obtain⟨rfl,rfl⟩:=hq
   exact⟨_,⟨rfl,rfl⟩,by simpa using hs⟩
  .exact hq.elim
def Xg {b:Nat} {Z:AE} {sz:Nat} {v:V} {ys:List (List V)} {f:Bool} {K:V->AE->Prop} (h:AL b Z sz v (.l ys f) fun v' Z'=>((CR v').isSome=true\/(v'=v/\ys= []))->K v' Z'):AL b Z sz v (.l ys f) K:=by
 unfold AL at *;obtain⟨h1,h2,h3⟩:=h;refine⟨h1,h2,?_⟩;cases v with
 | l es full=>exact⟨h3.1,h3.2.1,fun e=>h3.2.2.1 e (.inr ⟨rfl,e⟩),fun e=>⟨(h3.2.2.2 e).1,fun n cap hn hc=>(h3.2.2.2 e).2 n cap hn hc (.inl rfl)⟩⟩
 | sl n len cap=>
   simp only at h3 ⊢;split at h3
   .exact⟨h3.1,h3.2.1,h3.2.2.1,h3.2.2.2.1,fun n' cap' hn hc=>h3.2.2.2.2 n' cap' hn hc (.inl rfl)⟩
   .exact h3.elim
 | _=>exact h3.elim
def TV (M:List Int):List (V×V):=M.map fun k=>(eI k,.b true)
def Pr (M:List Int) (k:Int):List Int:=if M.contains k then M else M++[k]
def WY (M:List Int) (k b:Int):(Pr M k).contains b=(M.contains b||b==k):=by
 unfold Pr;split
 .rename_i h
  by_cases hb:b=k
  .subst hb;simpa using h
  .have:(b==k)=false:=by simpa using hb
   rw[this,Bool.or_false]
 .simp[List.contains_append]
  rfl
def aQ (M:List Int) (k:Int):DU (eI k) (.b true) (TV M)=TV (Pr M k):=by
 induction M with
 | nil=>rfl
 | cons x r ih=>
   simp only[TV,EZ,DU]at *;have he:Dz (eI k) (eI x)=(k==x):=rfl;rw[he];cases hx:k==x
   .rw[cond_false,ih]
    unfold Pr;have:(x::r).contains k=r.contains k:=by rw[List.contains_cons,hx,Bool.false_or]
    rw[this];split<;>simp
   .rw[cond_true]
    have hk:k=x:=by simpa using hx
    subst hk;unfold Pr;simp
def Mn (M:List Int) (k:Int):found (.b false) false (Ch (eI k) (TV M))= .b (M.contains k):=by
 induction M with
 | nil=>rfl
 | cons x r ih=>
   simp only[TV,EZ,Ch]at *;have he:Dz (eI k) (eI x)=(k==x):=rfl;rw[he,List.contains_cons];cases k==x
   .simpa using ih
   .rfl
def H5 (M:List Int): ∀kv∈TV M,BQ (.i .i64) kv.1=true:=by
 intro kv h;obtain⟨e,_,rfl⟩:=Hc.1 h;rfl
def lkK {Z:AE} {l:List At} {i mm:Nat} {M:List Int} {k:Int} {K:V->Prop} (hk:K (.b (M.contains k))) (h:Sat Z l:=by assumption)
    (hi:l[i]? =some (.map mm (TV M)):=by first|exact Rr|exact Rq|exact Rp|exact Ro|exact Rn|exact Rm):AN Z (.i .i64) (.b false) false (.m mm) (eI k) K:=
 J8 h i hi rfl (H5 M) (by rw[Mn];exact hk)
def msK {Z:AE} {l:List At} {i mm:Nat} {M:List Int} {k:Int} {K:AE->Prop} (hk: ∀Z',Sat Z' (l.set i (.map mm (TV (Pr M k))))->K Z') (h:Sat Z l:=by assumption)
    (hi:l[i]? =some (.map mm (TV M)):=by first|exact Rr|exact Rq|exact Rp|exact Ro|exact Rn|exact Rm):AO Z (.i .i64) (.m mm) (eI k) (.b true) K:=
 Ic h i hi rfl (H5 M) (fun Z' hs=>hk Z' (by rw[aQ]at hs;exact hs))
def Jd (p:Prog) (c:Nat):Pn:=p.AM.getD (c - 3) default
def EK (p:Prog) (c:Nat):Nat->List Int
 | 0=>[]
 | k+1=>if GA (Aw p) c (c - k)then EK p c k++(Jd p (c - k)).AF else EK p c k
def ss {ps:List (List Int)} (ho:ordered ps) {n c:Nat} (hc:c<n) (k:Nat): ∀p∈par ps (c - k),0<=p/\p.toNat<(Hf ps n c k).length/\p.toNat<c - k:=fun p hp=>by
 have:=ho _ _ hp;rw[ME];omega
def WB {ps:List (List Int)} (ho:ordered ps) {n c:Nat} (hc:c<n) (k b:Nat):(Hf ps n c (k+1)).getD b false=((Hf ps n c k).getD b false||((Hf ps n c k).getD (c - k) false&&(par ps (c - k)).contains (b:Int))):=by
 rw[Hf,OC _ _ (ss ho hc k)]
def WC {ps:List (List Int)} (ho:ordered ps) {n c:Nat} (hc:c<n) (k:Nat): ∀(m:Nat) (b:Nat),c - k<=b->(Hf ps n c (k+m)).getD b false=(Hf ps n c k).getD b false
 | 0,_,_=>rfl
 | m + 1,b,h=>by
   rw[<-Nat.add_assoc,WB ho hc,WC ho hc k m b h]
   have:(par ps (c - (k+m))).contains (b:Int)=false:=by
    cases hb:(par ps (c - (k+m))).contains (b:Int)
    .rfl
    .have:=ho _ _ (List.contains_iff_mem.1 hb)
     omega
   rw[this,Bool.and_false,Bool.or_false]
def gX {ps:List (List Int)} (ho:ordered ps) {n c:Nat} (hc:c<n) {k:Nat} (hk:k<=c - 2):(Hf ps n c k).getD (c - k) false=GA ps c (c - k):=by
 rw[<-Zt ho hc (c - k),<-WC ho hc k (c - 2 - k) (c - k) (IS _)];congr 2;omega
def RH (b:Int): ∀(l M:List Int),(l.foldl Pr M).contains b=(M.contains b||l.contains b)
 | [],M=>by simp
 | x::r,M=>by
   rw[List.foldl_cons,RH b r,WY,List.contains_cons,Bool.or_assoc]
def ry {Z:AE} {l:List At} {i mm:Nat} {M:List Int} {k:Int} {b:Bool} {K:V->Prop} (e:M.contains k=b) (hk:K (.b b)) (h:Sat Z l:=by assumption)
    (hi:l[i]? =some (.map mm (TV M)):=by first|exact Rr|exact Rq|exact Rp|exact Ro|exact Rn|exact Rm):AN Z (.i .i64) (.b false) false (.m mm) (eI k) K:=lkK (e ▸ hk) h hi
def td (p : Prog) (c:Nat) (h10:p.AM.length<=10) (hsl:Cs 0 p.AM=true) (hg:Dy (Aw p)=true) (hc3:3<=c) (hc:c<3+p.AM.length) :
    Pure zP 291 [.a (BT p),eI c] (.l (iL ((EK p c (c - 2)).mergeSort HZ)) false):=by
 refine Pure.fit (by kernel_rfl) fun hf=>?_
 have hP:=Oc hf.1;have hM:=Mx;have hG:=D9 hg;have ho:=KY hG;have hgl:(Aw p).length=p.AM.length:=by simp[Aw]
 refine uX kZ ?_;have hs:=Sn
 conv=>whnf
 repeat'((first|clear U K|apply st|(apply zk;intro K U)|refine zo fun nn hnn Z hs=>?_|fail)<;>conv=>whnf)
 replace hs:Sat Z [.map nn (TV [])]:=hs
 conv=>whnf
 repeat'((first|clear U K|apply st|(apply zk;intro K U)|refine msK (fun Z hs=>?_)|fail)<;>conv=>whnf)
 generalize nn=mm at *;replace hs:Sat Z [.map mm (TV [(c:Int)])]:=hs
 refine Cn (c - 2) (fun k (x:List Int×V)=>[(6,x.2),(7,eI ((c:Int) - k))]) (fun k x=>[.own x.2 1 (iL (EK p c k)),.map mm (TV x.1)])
  (fun k x=>(∀b:Nat,b<3+(Aw p).length->x.1.contains (b:Int)=(Hf (Aw p) (3+(Aw p).length) c k).getD b false)/\((CR x.2).isSome=true\/(x.2= .l [] true/\EK p c k= []))/\(EK p c k).length<=4*k) ([(c:Int)],.l [] true) ?_ ⟨?_,.inr ⟨rfl,rfl⟩,by simp[EK]⟩ (DF hs 1) ?_
 .simp[Pp,get]
  exact⟨rfl,rfl,rfl⟩
 .intro b hb
  simp only[Hf];rw[E9 (by simp;omega)];by_cases hbc:b=c
  .subst hbc;simp
  .rw[if_neg hbc]
   have:((c:Int)==(b:Int))=false:=by simp;omega
   simp[DK,List.getElem?_replicate];split<;>simp<;>omega
 clear hs;rintro k ⟨M,v⟩ Z hk ⟨hMb,hv,hml⟩ hs;dsimp only at hMb hv hs;rcases Nat.lt_or_ge k (c - 2)with hlt|hge
 .have hkc:M.contains ((c:Int) - k)=GA (Aw p) c (c - k):=by
   have:=hMb (c - k) (by omega);rw[gX ho (by omega) (by omega)]at this;rw[<-this];congr 1;omega
  have hcl:p.AM[(IntKind.i64.wrap ((c:Int) - k - 3)).toNat]? =some (Jd p (c - k)):=by
   rw[wrap64 (by omega) (by omega),show((c:Int) - k - 3).toNat=c - k - 3 by omega,Jd,DK,Dp (by omega)];rfl
  have hwi:0<=IntKind.i64.wrap ((c:Int) - k - 3):=by rw[wrap64 (by omega) (by omega)];omega
  have hw1:IntKind.i64.wrap ((c:Int) - k - 1)=(c:Int) - (k+1:Nat):=by rw[wrap64 (by omega) (by omega)];omega
  have hmt:EK p c (k+1)=if GA (Aw p) c (c - k)then EK p c k++(Jd p (c - k)).AF else EK p c k:=rfl
  have hpar:(Jd p (c - k)).parents=par (Aw p) (c - k):=by
   unfold par Jd Aw;rw[if_neg (by omega),DK,DK,OU,Dp (by omega)];rfl
  have hcm:=hP.2 _ (Cm hcl);have hs4:=((FO _ _ hsl).2 _ (Cm hcl)).2;have hst:=fun b=>WB ho (show c<3+(Aw p).length by omega) k b
  rw[gX ho (by omega) (by omega),<-hpar]at hst;generalize Jd p (c - k)=cl at *;cases hb:GA (Aw p) c (c - k)
  .rw[hb]at hkc hmt hst
   rw[if_neg (by decide)]at hmt
   conv=>whnf
   repeat'((first|clear U K|apply st|(apply zk;intro K U)|refine zY ?_|refine ry hkc ?_|(refine zb (fun hc=>?_) (fun hc=>?_)<;>try exact⟨⟩)|fail)<;>conv=>whnf)
   all_goals try(exfalso;omega)
   rw[hw1];exact⟨hlt,(M,v),rfl,⟨fun b hb=>by rw[hMb b hb,hst b];simp,by rw[hmt];exact hv,by rw[hmt];omega⟩,by rw[hmt];exact hs⟩
  .rw [hb] at hkc hmt hst
   rw[if_pos rfl]at hmt
   conv=>whnf
   repeat'((first|clear U K|apply st|(apply zk;intro K U)|refine zY ?_|refine ry hkc ?_|(refine zb (fun hc=>?_) (fun hc=>?_)<;>try exact⟨⟩)|fail)<;>conv=>whnf)
   all_goals try(exfalso;omega)
   refine Xg (Kx hs 0 rfl (by omega) Cy fun v' Z hs hv'=>?_);rw[<-hmt]at hs;refine zz ?_;(repeat clear U K);repeat intro K U
   refine Cn cl.parents.length (fun j (_:List Int)=>[(38,eI (BR j))]) (fun _ M=>[.own v' 1 (iL (EK p c (k+1))),.map mm (TV M)]) (fun j M'=>M'=(cl.parents.take j).foldl Pr M) M rfl rfl hs ?_;clear hs;rintro j M' Z hj hM' hs;rcases BK cl.parents hj with⟨q,hq,hjlt⟩|hje
   .conv=>whnf
    repeat'((first|clear U K|apply st|(apply zk;intro K U)|refine zY ?_|refine msK (fun Z hs=>?_)|fail)<;>conv=>whnf)
    exact⟨hjlt,_,rfl,by rw[AU hq,List.foldl_append,<-hM'];rfl,hs⟩
   .rw [BI hje]at hM'
    refine zz ?_;(repeat clear U K);repeat intro K U
    rw[hw1];refine⟨hlt,(M',v'),rfl,⟨fun b hb=>?_,?_,?_⟩,hs⟩
    .rw[hM',RH,hMb b hb,hst b,Du]
    .rcases hv' with hv'|⟨rfl,he⟩
     .exact .inl hv'
     .rcases hv with hv|⟨hv,hm0⟩
      .exact .inl hv
      .refine .inr ⟨hv,?_⟩
       rw[hmt,hm0,List.map_eq_nil_iff.1 he];rfl
    .rw[hmt,Ri];omega
 .have hkk:k=c - 2:=by omega
  rw[hkk]at hs hv hml;clear hMb
  conv=>whnf
  repeat'((first|clear U K|apply st|(apply zk;intro K U)|refine zY ?_|(refine zb (fun hc=>?_) (fun hc=>?_)<;>try exact⟨⟩)|fail)<;>conv=>whnf)
  all_goals try(exfalso;omega)
  refine(ft hv).use (rest:=[_]) hs ?_;clear hs;rintro r post Z ⟨rfl,rfl⟩ hs
  conv=>whnf
  repeat'((first|clear U K|apply st|(apply zk;intro K U)|fail)<;>conv=>whnf)
  refine(QF _ v (by rw[List.length_mergeSort];omega)).use (rest:=[_]) hs ?_;clear hs;rintro r post Z ⟨rfl,rfl⟩ hs;refine zz ?_;(repeat clear U K);repeat intro K U
  exact Be gJ
def Q4 {p : Prog} {c:Nat} (s:Int): ∀k,s∈EK p c k↔ ∃j,j<k/\GA (Aw p) c (c - j)=true/\s∈(Jd p (c - j)).AF
 | 0=>by simp[EK]
 | k + 1 =>by
   rw[EK];have ih:=Q4 (p:=p) (c:=c) s k;constructor
   .intro h
    split at h
    .rename_i hu
     rcases Ds.1 h with h|h
     .obtain⟨j,h1,h2⟩:=ih.1 h
      exact⟨j,by omega,h2⟩
     .exact⟨k,by omega,hu,h⟩
    .obtain⟨j,h1,h2⟩:=ih.1 h
     exact⟨j,by omega,h2⟩
   .rintro⟨j,h1,h2,h3⟩
    by_cases hj:j=k
    .subst hj
     rw[if_pos h2];exact Ds.2 (.inr h3)
    .have:=ih.2 ⟨j,by omega,h2,h3⟩
     split
     .exact Ds.2 (.inl this)
     .exact this
def WR: ∀(l:List Int) (n s:Int),Lx n l=true->(s∈l↔n<=s/\s<n+l.length)
 | [],n,s,_=>by simp<;>omega
 | x::r,n,s,h=>by
   simp only[Lx,A4,C1]at h;obtain⟨rfl,h⟩:=h;have:=WR r (x+1) s h;rw[Fg,this,NM];omega
def Sj: ∀(cs:List Pn) (i:Nat) (n s:Int),Cs n cs=true->0<=n-> ∀(j:Nat) (c:Pn),cs[j]? =some c->(s∈c.AF↔n<=s/\s<n+(Bn cs:Int)/\(BJ i cs).getD (s - n).toNat 0=((i+j:Nat):Int)+3)
 | [],_,_,_,_,_,_,_,h=>by cases h
 | d ::r,i,n,s,h,h0,j,c,hj=>by
   simp only[Cs,A4,Cp]at h;obtain⟨-,-,hq,hr⟩:=h;have hm:=WR d.AF n s hq;have hml:(Bn (d::r):Int)=d.AF.length+Bn r:=by simp[Bn]
   have hgd:n<=s->(BJ i (d::r)).getD (s - n).toNat 0=if s<n+d.AF.length then(i:Int)+3 else(BJ (i+1) r).getD (s - (n+d.AF.length)).toNat 0:=fun hns=>by
    simp only[BJ,DK];split
    .rw[ec (by simp;omega),List.getElem?_replicate,if_pos (by omega)]
     rfl
    .rw[List.getElem?_append_right (by simp;omega)]
     congr 2;simp;omega
   have hout: ∀q,q∈BJ (i+1) r->(3:Int)+((i+1:Nat):Int)<=q:=fun q hq=>(GH hq).1
   cases j with
   | zero=>
     simp at hj;subst hj;rw[hm,hml];constructor
     .rintro⟨h1,h2⟩
      refine⟨h1,by omega,?_⟩;rw[hgd h1,if_pos h2];simp
     .rintro⟨h1,h2,h3⟩
      refine⟨h1,?_⟩;rw[hgd h1]at h3;by_cases hlt:s<n+d.AF.length
      .exact hlt
      .rw[if_neg hlt,DK]at h3
       have hlen:(s - (n+d.AF.length)).toNat<(BJ (i+1) r).length:=by rw[Cd];omega
       rw[Dp hlen]at h3;have:=hout _ (List.getElem_mem hlen);simp at h3;omega
   | succ j=>
     simp at hj;have ih:=Sj r (i+1) (n+d.AF.length) s hr (by omega) j c hj;rw[ih,hml];constructor
     .rintro⟨h1,h2,h3⟩
      refine⟨by omega,by omega,?_⟩;rw[hgd (by omega),if_neg (by omega),h3];omega
     .rintro⟨h1,h2,h3⟩
      rw[hgd h1]at h3;by_cases hlt:s<n+d.AF.length
      .rw[if_pos hlt]at h3;omega
      .rw[if_neg hlt]at h3
       exact⟨by omega,by omega,by rw[h3];omega⟩
def kK {p:Prog} {c:Nat} (hsl:Cs 0 p.AM=true) (ho:ordered (Aw p)) (hc3:3<=c) (hc:c<3+p.AM.length) (s:Int) :
    ((EK p c (c - 2)).mergeSort HZ).contains s=(decide (0<=s)&&(decide (s<(Bn p.AM:Int))&&hasB (AI p) (c:Int) s)):=by
 rw[Hb,List.contains_iff_mem,(List.mergeSort_perm _ HZ).mem_iff,Q4];simp only[A4,Cp,hasB]
 have hown: ∀j,j<c - 2->(s∈(Jd p (c - j)).AF↔0<=s/\s<(Bn p.AM:Int)/\Bh (AI p) s=((c - j:Nat):Int)):=fun j hj=>by
  have hcl:p.AM[c - j - 3]? =some (Jd p (c - j)):=by
   rw[Jd,DK,Dp (by omega)];rfl
  have:=Sj p.AM 0 0 s hsl (by omega) (c - j - 3) _ hcl;rw[this];simp only[Int.sub_zero,Int.zero_add,Bh,AI];constructor
  .rintro⟨h1,h2,h3⟩;exact⟨h1,h2,by rw[h3];omega⟩
  .rintro⟨h1,h2,h3⟩;exact⟨h1,h2,by rw[h3];omega⟩
 constructor
 .rintro⟨j,h1,h2,h3⟩
  obtain⟨h4,h5,h6⟩:=(hown j h1).1 h3;refine⟨h4,h5,by omega,?_⟩;rw[h6];simp only[Na,EP,A4,Cp];exact .inr (.inr ⟨by omega,by simpa[AI]using h2⟩)
 .rintro⟨h1,h2,h3,h4⟩
  have hmem:Bh (AI p) s∈BJ 0 p.AM:=by
   have hlen:s.toNat<(BJ 0 p.AM).length:=by rw[Cd];omega
   have:Bh (AI p) s=(BJ 0 p.AM)[s.toNat]:=by
    simp only[Bh,AI,DK,Dp hlen];rfl
   rw[this];exact List.getElem_mem hlen
  have hb:=GH hmem
  have hup:GA (Aw p) c (Bh (AI p) s).toNat=true:=by
   simp only[Na,EP,A4,Cp,C1]at h4;rcases h4 with h4|h4|⟨_,h4⟩
   .rw[<-h4,HX];exact ET ho c
   .omega
   .simpa[AI]using h4
  have hle:=gY ho _ _ hup;refine⟨c - (Bh (AI p) s).toNat,by omega,?_,?_⟩
  .rw[show c - (c - (Bh (AI p) s).toNat)=(Bh (AI p) s).toNat by omega]
   exact hup
  .refine(hown _ (by omega)).2 ⟨h1,h2,by omega⟩
def kJ {Z:AE}:Av zP 245 [.b false] Z fun r Z'=>r= .Bf D4/\Z'=Z:=by
 refine iU kZ ?_;refine zz ?_;(repeat clear U K);repeat intro K U
 exact DO ⟨rfl,rfl⟩
def Cx {x:Bool} {Z:AE} {k kp:V->AE->Prop} (h1:x=true->k (.t []) Z) (h2:x=false->kp D4 Z):Av zP 245 [.b x] Z (qk k kp):=by
 cases x
 .refine Av.mono kJ ?_
  rintro r Z' ⟨rfl,rfl⟩;exact h2 rfl
 .exact kI.use (h1 rfl)
def Fx:Int->List Pn->Bool
 | _,[]=>true
 | n,c::r=>decide (c.AF.length<=4)&&(Lx n c.AF&&Fx (n+c.AF.length) r)
def QM: ∀(cs:List Pn) (n:Int),Cs n cs=(Fx n cs&&cs.all fun c=>decide (c.parents.length<=3))
 | [],_=>rfl
 | c::r,n=>by
   simp only[Cs,Fx,Pg];rw[QM r];cases decide (c.AF.length<=4)<;>cases decide (c.parents.length<=3)<;>cases Lx n c.AF<;>simp
def SZ: ∀(cs:List Pn) (n:Int),Fx n cs=true->Bn cs<=4*cs.length
 | [],_,_=>IS _
 | c::r,n,h=>by
   simp only[Fx,A4,Cp]at h;have:=SZ r _ h.2.2;simp only[Bn,EZ,List.sum_cons,NM]at *;omega
def Wn {p:Prog} (h:Dy (Aw p)=true):(p.AM.all fun c=>decide (c.parents.length<=3))=true:=by
 rw[Dj];intro c hc;obtain⟨i,hi⟩:=List.getElem?_of_mem hc;have:=(D9 h).2 i c.parents (by rw[Aw,OU,hi];rfl);exact decide_eq_true this.1
def RQ (p:Prog):A7 p=(decide (p.AM.length<=10)&&(Fx 0 p.AM&&((Bn p.AM:Int)==p.AF&&(Dy (Aw p)&&GS (AI p) (Bn p.AM) 0 p.AM)))):=by
 rw[A7,QM];cases hg:Dy (Aw p)
 .simp
 .rw[Wn hg,Bool.and_true]
abbrev yM (p:Prog):R->AE->Prop:=fun r Z'=> ∃post:List At,(r=(if A7 p then R.ret (.t [])else R.Bf D4)/\post= [])/\Sat Z' post
def YA {p:Prog} {Z:AE} (h:A7 p=false):Af Z D4 (yM p):=DO ⟨_,⟨by rw[h];rfl,rfl⟩,Sat.nil⟩
def clsT {p:Prog} {Z:AE} {l:List At} (hs:Sat Z l) (h:A7 p=true):An Z (.t []) (yM p):=Ay hs (NQ _) (.refl _) fun Z' hs'=>⟨_,⟨by rw[h];rfl,rfl⟩,hs'⟩
def ZS (p : Prog):BO zP 244 [.a (BT p)] [] fun r post=>r=(if A7 p then R.ret (.t [])else R.Bf D4)/\post= []:=by
 intro Z hs;refine Av.fit (by kernel_rfl) fun hf=>?_
 have hP:=Oc hf.1;have hcl:=hP.1;have hM:=Mx;refine u9 kZ ?_;have hcb:=RQ p;by_cases h10:p.AM.length<=10
 rotate_left
 .conv=>whnf
  repeat'((first|clear U K|apply st|(apply zk;intro K U)|refine zY ?_|(refine Cx (fun hc=>?_) (fun hc=>?_)<;>(replace hc:=bp hc)<;>(try simp(disch:=omega) only[CW,wrap64,Ae]at hc)<;>(try(exfalso;omega)))|fail)<;>conv=>whnf)
  all_goals try(exfalso;omega)
  exact YA (by rw[hcb];simp[h10])
 rw[decide_eq_true h10,Du]at hcb
 conv=>whnf
 repeat'((first|clear U K|apply st|(apply zk;intro K U)|refine zY ?_|(refine Cx (fun hc=>?_) (fun hc=>?_)<;>(replace hc:=bp hc)<;>(try simp(disch:=omega) only[CW,wrap64,Ae]at hc)<;>(try(exfalso;omega)))|fail)<;>conv=>whnf)
 all_goals try(exfalso;omega)
 refine Cn p.AM.length (fun k (n:Int)=>[(2,eI n),(24,eI (BR k))]) (fun _ _=>[]) (fun k n=>Fx 0 p.AM=Fx n (p.AM.drop k)/\0<=n/\n+Bn (p.AM.drop k)=Bn p.AM/\n<=4*k) 0 rfl (by simp) hs ?_;clear hs;rintro k n Z hk ⟨hn,hn0,hn1,hn2⟩ hs;rcases BK p.AM hk with⟨c,hc,hlt⟩|hke
 .have hcm:=(hP.2 c (Cm hc)).2.1
  have hms:n+(c.AF.length:Int)+Bn (p.AM.drop (k+1))=Bn p.AM:=by
   rw[drop_cons hc]at hn1;simp only[Bn,EZ,List.sum_cons]at hn1 ⊢;omega
  rw[drop_cons hc,Fx]at hn;by_cases h4:c.AF.length<=4
  .rw [decide_eq_true h4,Du]at hn
   conv=>whnf
   repeat'((first|clear U K|apply st|(apply zk;intro K U)|refine zY ?_|refine zs fun Z hs=>?_|(refine Cx (fun hc=>?_) (fun hc=>?_)<;>(replace hc:=bp hc)<;>(try simp(disch:=omega) only[CW,wrap64,Ae]at hc)<;>(try(exfalso;omega)))|refine zo fun nn hnn Z hs=>?_|fail)<;>conv=>whnf)
   all_goals try(exfalso;omega)
   refine Cn c.AF.length (fun j (m:Int)=>[(2,eI m),(36,eI (BR j))]) (fun _ _=>[]) (fun j m=>Fx 0 p.AM=(Lx m (c.AF.drop j)&&Fx (n+c.AF.length) (p.AM.drop (k+1)))/\m=n+j) n rfl ⟨hn,by simp⟩ (hs.take 0) ?_;clear hs hn;rintro j m Z hj ⟨hm,he⟩ hs;rcases BK c.AF hj with⟨x,hx,hjlt⟩|hje
   .rw[drop_cons hx,Lx]at hm
    conv=>whnf
    repeat'((first|clear U K|apply st|(apply zk;intro K U)|refine zY ?_|(refine Cx (fun hc=>?_) (fun hc=>?_)<;>(replace hc:=bp hc))|fail)<;>conv=>whnf)
    .rw[wrap64 (by omega) (by omega)]
     rw[hc,beq_self_eq_true,Du]at hm;exact⟨hjlt,_,rfl,⟨by rw[<-hc];rw[<-hc]at hm;exact hm,by omega⟩,hs⟩
    .exact YA (by rw[hcb,hm];simp[hc])
   .rw[Au hje,Lx,Du]at hm
    refine zz ?_;(repeat clear U K);repeat intro K U
    exact⟨hlt,m,rfl,⟨by rw[hm];congr 1;omega,by omega,by omega,by omega⟩,hs⟩
  .conv=>whnf
   repeat'((first|clear U K|apply st|(apply zk;intro K U)|refine zY ?_|refine zs fun Z hs=>?_|(refine Cx (fun hc=>?_) (fun hc=>?_)<;>(replace hc:=bp hc)<;>(try simp(disch:=omega) only[CW,wrap64,Ae]at hc)<;>(try(exfalso;omega)))|refine zo fun nn hnn Z hs=>?_|fail)<;>conv=>whnf)
   all_goals try(exfalso;omega)
   exact YA (by rw[hcb,hn];simp[h4])
 .have hne:n=Bn p.AM:=by rw[Au hke]at hn1;simpa[Bn]using hn1
  rw[Au hke]at hn;have hsp:Fx 0 p.AM=true:=hn;have hml:=SZ _ _ hsp;rw[hsp,Du,<-hne]at hcb;cases hgd:Dy (Aw p)
  .rw[hgd]at hcb
   have hck:=W5 (Aw p) false;rw[hgd,if_neg (by decide)]at hck;have hcF:A7 p=false:=by rw[hcb];simp
   conv=>whnf
   repeat'((first|clear U K|apply st|(apply zk;intro K U)|refine zY ?_|(refine Cx (fun hc=>?_) (fun hc=>?_)<;>(replace hc:=bp hc)<;>(try simp(disch:=omega) only[CW,wrap64,Ae]at hc)<;>(try(exfalso;omega))<;>(try(cases hc;done)))|refine Pure.use (Mr _ (by omega)) ?_|refine Pure.use (by assumption) ?_|refine za (fun hc=>?_) fun hc=>?_|fail)<;>conv=>whnf)
   all_goals exact YA hcF
  .have hck:=W5 (Aw p) false
   rw[hgd,if_pos rfl]at hck;rw[hgd,Du]at hcb;by_cases hps:n=p.AF
   .rw [hps,beq_self_eq_true,Du,<-hps]at hcb
    have hslB:Cs 0 p.AM=true:=by rw[QM,hsp,Wn hgd];rfl
    have hG:=D9 hgd;have ho:=KY hG;have hgl:(Aw p).length=p.AM.length:=by simp[Aw]
    conv=>whnf
    repeat'((first|clear U K|apply st|(apply zk;intro K U)|refine zY ?_|(refine Cx (fun hc=>?_) (fun hc=>?_)<;>(replace hc:=bp hc)<;>(try simp(disch:=omega) only[CW,wrap64,Ae]at hc)<;>(try(exfalso;omega)))|refine Pure.use (Mr _ (by omega)) ?_|refine Pure.use (by assumption) ?_|(refine zb (fun hc=>?_) (fun hc=>?_)<;>try exact⟨⟩)|fail)<;>conv=>whnf)
    refine Cn p.AM.length (fun k (_:Unit)=>[(63,eI (BR k))]) (fun _ _=>[]) (fun k _=>A7 p=GS (AI p) n k (p.AM.drop k)) () rfl hcb hs ?_;clear hs;rintro i - Z hi hn' hs;rcases BK p.AM hi with⟨c,hc,hilt⟩|hie
    .rw [drop_cons hc,GS]at hn'
     have hci:BR i=i:=Ae (by omega);have hw3:IntKind.i64.wrap (BR i+3)=(i:Int)+3:=by rw[hci,wrap64 (by omega) (by omega)]
     have hlin:=tT (Aw p) false ((i:Int)+3) hgd (by omega) (by omega);have hinl:=(hP.2 c (Cm hc)).2.2;have hlb:mU (AI p).parents ((i:Int)+3)= !((B9 (Aw p)).getD ((i:Int)+3).toNat []).isEmpty:=rfl;cases hem:((B9 (Aw p)).getD ((i:Int)+3).toNat []).isEmpty
     .rw [hem]at hlb
      rw[hlb,Bool.not_false,Du]at hn';rw[hem,if_neg (by decide),<-hw3]at hlin;have hhas:=td p (i+3) h10 hslB hgd (by omega) (by omega);have hmh:=kK hslB ho (show 3<=i+3 by omega) (show i+3<3+p.AM.length by omega);have ei3:((i+3:Nat):Int)=(i:Int)+3:=by omega
      rw[ei3,<-hw3]at hhas;rw[ei3]at hmh;generalize (EK p (i+3) (i+3 - 2)).mergeSort HZ=mine at *
      conv=>whnf
      repeat'((first|clear U K|apply st|(apply zk;intro K U)|refine zY ?_|refine zs fun Z hs=>?_|(refine Cx (fun hc=>?_) (fun hc=>?_)<;>(replace hc:=bp hc)<;>(try simp(disch:=omega) only[CW,wrap64,Ae]at hc)<;>(try(exfalso;omega)))|refine Pure.use (by assumption) ?_|refine zo fun nn hnn Z hs=>?_|fail)<;>conv=>whnf)
      generalize nn=mm at *;replace hs:Sat Z [.map mm (TV [])]:=hs.take 1;refine Cn c.inits.length (fun j (_:List Int)=>[(86,eI (BR j))]) (fun _ M=>[.map mm (TV M)]) (fun j M=>A7 p=(EL (AI p) ((i:Int)+3) n (c.inits.take j) (c.inits.drop j)&&GS (AI p) n (i+1) (p.AM.drop (i+1)))/\ ∀s,M.contains s=(c.inits.take j).any fun y=>y.1==s) [] rfl ⟨hn',fun s=>rfl⟩ hs ?_;clear hs;rintro j M Z hj ⟨hm,hMs⟩ hs;rcases BK c.inits hj with⟨x,hx,hjlt⟩|hje
      .have hpa:((c.inits.take j).all fun y=>y.1 != x.1)= !M.contains x.1:=by
        rw[hMs,List.all_eq_not_any_not];congr 2;funext y;simp[bne]
       have hst:A7 p=((mine.contains x.1&&(!M.contains x.1&&Tn x.2))&&(EL (AI p) ((i:Int)+3) n (c.inits.take (j+1)) (c.inits.drop (j+1))&&GS (AI p) n (i+1) (p.AM.drop (i+1)))):=by
        rw[hm,drop_cons hx,EL,hpa,hmh,<-hne,AU hx];cases decide (0<=x.1)<;>cases decide (x.1<n)<;>cases hasB (AI p) ((i:Int)+3) x.1<;>cases Tn x.2<;>cases M.contains x.1<;>simp
       have hMs': ∀s,(Pr M x.1).contains s=(c.inits.take (j+1)).any fun y=>y.1==s:=fun s=>by
        rw[WY,hMs,AU hx,List.any_append];simp only[Rj,List.any_nil,Bool.or_false];congr 1;rw[Hb];simp;exact eq_comm
       have hct:=Cl mine false x.1;have hbt:=Ra x.2;clear hmh hpa hMs hm;cases eA:mine.contains x.1<;>cases eB:M.contains x.1<;>cases eD:Tn x.2<;>rw[eA]at hct<;>rw[eD]at hbt<;>rw[eA,eB,eD]at hst
       all_goals
        conv=>whnf
        repeat'((first|clear U K|apply st|(apply zk;intro K U)|refine zY ?_|refine zs fun Z hs=>?_|(refine Cx (fun hc=>?_) (fun hc=>?_)<;>(replace hc:=bp hc)<;>(try simp(disch:=omega) only[CW,wrap64,Ae]at hc)<;>(try(cases hc;done)))|refine ry eB ?_|refine msK (fun Z hs=>?_)|refine Pure.use (by assumption) ?_|refine zo fun nn hnn Z hs=>?_|fail)<;>conv=>whnf)
       all_goals first
        | exact⟨hjlt,_,rfl,⟨hst,hMs'⟩,hs.less (OS _ _)⟩
        | exact YA (by rw[hst];rfl)
      .rw[Au hje,EL,Du]at hm
       refine zz ?_;(repeat clear U K);repeat intro K U
       exact⟨hilt,(),rfl,hm,hs.take 0⟩
     .rw[hem]at hlb
      rw[hem,if_pos rfl,<-hw3]at hlin;have hcF:A7 p=false:=by rw[hn',hlb];rfl
      conv=>whnf
      repeat'((first|clear U K|apply st|(apply zk;intro K U)|refine zY ?_|refine zs fun Z hs=>?_|(refine Cx (fun hc=>?_) (fun hc=>?_)<;>(replace hc:=bp hc)<;>(try(exfalso;omega)))|refine Pure.use (by assumption) ?_|refine zo fun nn hnn Z hs=>?_|fail)<;>conv=>whnf)
      all_goals exact YA hcF
    .refine zz ?_;(repeat clear U K);repeat intro K U
     exact clsT hs (by rw[hn',Au hie];rfl)
   .have hcF:A7 p=false:=by rw[hcb];simp[hps]
    conv=>whnf
    repeat'((first|clear U K|apply st|(apply zk;intro K U)|refine zY ?_|(refine Cx (fun hc=>?_) (fun hc=>?_)<;>(replace hc:=bp hc)<;>(try simp(disch:=omega) only[CW,wrap64,Ae]at hc)<;>(try(cases hc;done)))|refine Pure.use (Mr _ (by omega)) ?_|(refine zb (fun hc=>?_) (fun hc=>?_)<;>try exact⟨⟩)|fail)<;>conv=>whnf)
    all_goals exact YA hcF
def cR (f : Fact):SL f=true->Pure zP 250 [.a (xF f)] (eI (GV f)):=by
 induction f using Fact.ind with
 | h f ih=>
   intro ha;refine Pure.fit (by kernel_rfl) fun hf=>?_
   have⟨h2,h3,h4⟩:=SH hf.1;have hM:=Mx;rw[Qh]at ha;simp only[A4,Cp,List.all_map,Dj]at ha;refine ux kZ ?_;have hs:=Sn;by_cases hlf:B4 f=true
   .have hlo:=FZ hlf
    have hw:IntKind.i64.wrap (f.arg+1)=f.arg+1:=wrap64 (by omega) (by omega)
    conv=>whnf
    repeat'((first|clear U K|apply st|(apply zk;intro K U)|refine zY ?_|(refine zb (fun hc=>?_) (fun hc=>?_)<;>try exact⟨⟩)|fail)<;>conv=>whnf)
    all_goals try(exfalso;omega)
    all_goals
     refine Cn f.kids.length (fun k (_:Unit)=>[(3,eI (((f.kids.take k).map GV).foldl Km (if B4 f then f.arg+1 else 0))),(25,eI (BR k))]) (fun _ _=>[]) (fun _ _=>True) () (by rw[hw,if_pos hlf];rfl) trivial hs ?_;clear hs;rintro k - Z hk - hs;rcases BK f.kids hk with⟨x,hx,hlt⟩|hke
     .have hxs:=ih x (Cm hx) (ha.2 x (Cm hx))
      conv=>whnf
      repeat'((first|clear U K|apply st|(apply zk;intro K U)|refine zY ?_|refine zs fun Z hs=>?_|refine zC ?_|refine zo fun nn hnn Z hs=>?_|fail)<;>conv=>whnf)
      exact⟨hlt,(),by rw[Gf _ _ _ hx];rfl,trivial,hs.take 0⟩
     .refine zz ?_;(repeat clear U K);repeat intro K U
      exact AJ (by rw[BI hke,<-KM])
   .have hlo:f.op≠2/\f.op≠3/\f.op≠4:=by
     simp only[B4,EP,C1]at hlf;omega
    conv=>whnf
    repeat'((first|clear U K|apply st|(apply zk;intro K U)|refine zY ?_|(refine zb (fun hc=>?_) (fun hc=>?_)<;>try exact⟨⟩)|fail)<;>conv=>whnf)
    all_goals try(exfalso;omega)
    all_goals
     refine Cn f.kids.length (fun k (_:Unit)=>[(3,eI (((f.kids.take k).map GV).foldl Km (if B4 f then f.arg+1 else 0))),(25,eI (BR k))]) (fun _ _=>[]) (fun _ _=>True) () (by rw[if_neg hlf];rfl) trivial hs ?_;clear hs;rintro k - Z hk - hs;rcases BK f.kids hk with⟨x,hx,hlt⟩|hke
     .have hxs:=ih x (Cm hx) (ha.2 x (Cm hx))
      conv=>whnf
      repeat'((first|clear U K|apply st|(apply zk;intro K U)|refine zY ?_|refine zs fun Z hs=>?_|refine zC ?_|refine zo fun nn hnn Z hs=>?_|fail)<;>conv=>whnf)
      exact⟨hlt,(),by rw[Gf _ _ _ hx];rfl,trivial,hs.take 0⟩
     .refine zz ?_;(repeat clear U K);repeat intro K U
      exact AJ (by rw[BI hke,<-KM])
def c9 (p:Prog) (x:Node) (size:Int):Pure zP 248 [.a (BT p),.a (JC x),eI size] (.b (NV p x size)):=by
 refine Pure.fit (by kernel_rfl) fun hf=>?_
 have⟨p1,p2,p3,p4⟩:=I9 hf.1;have hM:=Mx;have hw:IntKind.i64.wrap (3+((p.AM.map Gu).length:Nat))=3+(p.AM.length:Int):=by rw[CW,wrap64 (by omega) (by omega)]
 refine uz kZ ?_;have hs:=Sn
 conv=>whnf
 repeat'((first|clear U K|apply st|(apply zk;intro K U)|refine zY ?_|refine Pure.use (Ra _) ?_|refine za (fun hc=>?_) fun hc=>?_|fail)<;>conv=>whnf)
 all_goals first
  | (refine AJ ?_;simp[NV, *];done)
  | (refine AJ ?_;simp[NV, *];omega)
  | (refine AJ ?_;rw[hw];simp[NV, *];done)
  | (refine AJ ?_;congr 1;rw[Hb];simp[NV, *];omega)
def tM (n:Nat) (hn:n<=120):Pure zP 173 [.i .u64 1,eU n] (.t [.i .u64 0,eU n]):=by
 refine wF kZ ?_;have hs:=Sn
 conv=>whnf
 repeat'((first|clear U K|apply st|(apply zk;intro K U)|refine zY ?_|refine⟨(by decide:(0:Int)<=_),?_⟩|fail)<;>conv=>whnf)
 have ea: ∀m:Nat,m<=120->bits .and .u64 (m:Int) 4294967295=(m:Int):=fun m hm=>by
  have:=Fs (a:=m) (b:=4294967295) (by omega) (by decide)
  have e:m&&&4294967295=m:=by
   have:=Nat.and_two_pow_sub_one_eq_mod m 32;rw[show 2 ^ 32 - 1=4294967295 from rfl]at this;rw[this];omega
  rw[e]at this;exact this
 have e0:=ea 0 (by omega);have e1:=ea 1 (by omega);have en:=ea n hn
 have ef: ∀m:Nat,m<=120->(m:Int).fdiv (2 ^ min (Int.toNat 32) IntKind.u64.bits)=0:=fun m hm=>by
  have:=UM (a:=m) (c:=32) (by decide);rw[show(Int.toNat 32)=32 from rfl,this,Nat.shiftRight_eq_div_pow];have:m / 2 ^ 32=0:=Nat.div_eq_of_lt (by omega);rw[this];rfl
 have f0:=ef 0 (by omega);have f1:=ef 1 (by omega);have fn:=ef n hn;have w0:IntKind.u64.wrap 0=0:=rfl;have wn:IntKind.u64.wrap (n:Int)=n:=Hz (by omega);simp only[Int.natCast_zero,Int.natCast_one,Int.cast_ofNat_Int]at e0 e1 f0 f1;simp only[e0,e1,en,f0,f1,fn,w0,wn,Int.zero_mul,Int.mul_zero,Int.zero_add,Int.add_zero,Int.one_mul];exact AJ rfl
def tN (n:Nat) (hn:n<=120):Pure zP 109 [.i .u64 1,eU n] (.t [.i .u64 0,eU n]):=by
 refine xA kZ ?_;have hs:=Sn
 conv=>whnf
 repeat'((first|clear U K|apply st|(apply zk;intro K U)|refine Pure.use (tM n hn) ?_|fail)<;>conv=>whnf)
 all_goals exact AJ rfl
def SF (op:Int):V:=
 if op=5 then .FD 340 (.a [])else
 if op=1\/op=2\/op=3\/op=6\/op=18 then .FD 339 (eI 0)else
 if op=4\/op=8\/op=17 then .FD 339 (eI 1)else
 if op=7\/op=9\/op=11\/op=12\/op=13\/op=14\/op=15\/op=16 then .FD 339 (eI 2)else
 if op=10 then .FD 339 (eI 3)else .Dv
def dJ (op:Int):Pure zP 249 [eI op] (SF op):=by
 refine uy kZ ?_;have hs:=Sn
 conv=>whnf
 repeat'((first|clear U K|apply st|(apply zk;intro K U)|refine zY ?_|refine za (fun hc=>?_) fun hc=>?_|fail)<;>conv=>whnf)
 all_goals exact AJ (by simp[SF, *])
def yV (n:Int) (p:Prog) (x:Node):Pure zP 352 [eI n,.a (BT p),.a (JC x)] (eI n):=by
 refine tx kZ ?_;have hs:=Sn;exact zW
def pv (p:Prog) (x:Node) (h0:0<=x.n) (h1:x.n<p.Dr.length):Pure zP 353 [.a [],.a (BT p),.a (JC x)] (eI (p.Dr.getD x.n.toNat 0)):=by
 refine Pure.fit (by kernel_rfl) fun hf=>?_
 have⟨p1,p2,p3,p4⟩:=I9 hf.2.1
 have hx:p.Dr[x.n.toNat]? =some (p.Dr.getD x.n.toNat 0):=by
  rw[DK,Dp (by omega)];rfl
 refine tw kZ ?_;have hs:=Sn;exact zW
end Go.Gl
