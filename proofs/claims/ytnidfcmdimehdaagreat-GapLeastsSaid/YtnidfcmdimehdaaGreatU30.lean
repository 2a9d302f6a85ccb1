import Derived.Test.YtnidfcmdimehdaaGreatU14
import Derived.Test.YtnidfcmdimehdaaGreatU15
import Derived.Test.YtnidfcmdimehdaaGreatU18
import Derived.Test.YtnidfcmdimehdaaGreatU21
import Derived.Test.YtnidfcmdimehdaaGreatU23
import Derived.Test.YtnidfcmdimehdaaGreatU29
set_option linter.all false
set_option linter.defProp false
set_option maxHeartbeats 8000000
noncomputable section
namespace Go.Gl
open Go.Proofs
attribute [local irreducible] As Af AV AQ AI AU AP AR AJ AT AM AN Ag Ar Sat AS Ap AX W
def sU:Pure zP 285 [.i .u64 0] (eI 0):=by
 refine tk kZ ?_;have hs:=Sn
 conv=>whnf
 repeat'((first|clear U K|apply st|(apply zk;intro K U)|refine zY ?_|(refine zb (fun hc=>?_) (fun hc=>?_)<;>try exact⟨⟩)|fail)<;>conv=>whnf)
 refine⟨by decide,?_⟩;exact zW
def sV:Pure zP 237 [.i .u64 0] (eI 0):=by
 refine uW kZ ?_;have hs:=Sn
 conv=>whnf
 repeat'((first|clear U K|apply st|(apply zk;intro K U)|refine sU.use ?_|fail)<;>conv=>whnf)
 all_goals exact AF rfl
def sa:Pure zP 275 [.l [] true,eI 0,eI 0] (.t []):=by
 refine tl kZ ?_;have hs:=Sn;refine zz ?_;(repeat clear U K);repeat intro K U
 refine DD (fun(_:Unit)=>0) (fun _=>[(6,eI 1)]) (fun _=>[]) (fun _=>True) () rfl trivial hs ?_;clear hs;rintro - Z - hs;exact zW
def rh:Pure zP 236 [.l [] true,eI 0,eI 0,eI 0] (.t []):=by
 refine uX kZ ?_;have hs:=Sn;refine zz ?_;(repeat clear U K);repeat intro K U
 refine DD (fun(_:Unit)=>0) (fun _=>[]) (fun _=>[]) (fun _=>True) () rfl trivial hs ?_;clear hs;rintro - Z - hs
 conv=>whnf
 repeat'((first|clear U K|apply st|(apply zk;intro K U)|refine zY ?_|refine sa.use ?_|(refine zb (fun hc=>?_) (fun hc=>?_)<;>try exact⟨⟩)|fail)<;>conv=>whnf)
 all_goals exact AF rfl
def jD:Pure zP 190 [.l [] true] (.t []):=by
 refine vD kZ ?_;have hs:=Sn
 conv=>whnf
 repeat'((first|clear U K|apply st|(apply zk;intro K U)|refine sV.use ?_|refine rh.use ?_|fail)<;>conv=>whnf)
 all_goals exact AF rfl
def ei {xs:List Int} {v:V} (hv:(Bd v).isSome=true\/(v= .l [] true/\xs= [])):BL zP 190 [v] [.own v 1 (iL xs)] fun r post=>r= .ret (.t [])/\post= [.own v 1 (iL (xs.mergeSort Hq))]:=by
 rcases hv with hv|⟨rfl,rfl⟩
 .obtain⟨n,l,c,rfl⟩:=VW hv
  exact mL xs n l c
 .intro Z hs
  have:=jD.use (Z:=Z) (k:=fun v Z'=>v= .t []/\Z'=Z) (kp:=fun _ _=>False) ⟨rfl,rfl⟩;refine As.mono this ?_;rintro(u|u) Z' hq
  .obtain⟨rfl,rfl⟩:=hq
   exact⟨_,⟨rfl,rfl⟩,by simpa using hs⟩
  .exact hq.elim
def XR {b:Nat} {Z:AD} {sz:Nat} {v:V} {ys:List (List V)} {f:Bool} {K:V->AD->Prop} (h:AI b Z sz v (.l ys f) fun v' Z'=>((Bd v').isSome=true\/(v'=v/\ys= []))->K v' Z'):AI b Z sz v (.l ys f) K:=by
 unfold AI at *;obtain⟨h1,h2,h3⟩:=h;refine⟨h1,h2,?_⟩;cases v with
 | l es full=>exact⟨h3.1,h3.2.1,fun e=>h3.2.2.1 e (.inr ⟨rfl,e⟩),fun e=>⟨(h3.2.2.2 e).1,fun n cap hn hc=>(h3.2.2.2 e).2 n cap hn hc (.inl rfl)⟩⟩
 | sl n len cap=>
   simp only at h3 ⊢;split at h3
   .exact⟨h3.1,h3.2.1,h3.2.2.1,h3.2.2.2.1,fun n' cap' hn hc=>h3.2.2.2.2 n' cap' hn hc (.inl rfl)⟩
   .exact h3.elim
 | _=>exact h3.elim
def Te (M:List Int):List (V×V):=M.map fun k=>(eI k,.b true)
def Hw (M:List Int) (k:Int):List Int:=if M.contains k then M else M++[k]
def QF (M:List Int) (k b:Int):(Hw M k).contains b=(M.contains b||b==k):=by
 unfold Hw;split
 .rename_i h
  by_cases hb:b=k
  .subst hb;simpa using h
  .have:(b==k)=false:=by simpa using hb
   rw[this,Bool.or_false]
 .simp[List.contains_append]
  rfl
def aJ (M:List Int) (k:Int):Dy (eI k) (.b true) (Te M)=Te (Hw M k):=by
 induction M with
 | nil=>rfl
 | cons x r ih=>
   simp only[Te,Cn,Dy]at *;have he:D1 (eI k) (eI x)=(k==x):=rfl;rw[he];cases hx:k==x
   .rw[cond_false,ih]
    unfold Hw;have:(x::r).contains k=r.contains k:=by rw[List.contains_cons,hx,Bool.false_or]
    rw[this];split<;>simp
   .rw[cond_true]
    have hk:k=x:=by simpa using hx
    subst hk;unfold Hw;simp
def Mk (M:List Int) (k:Int):found (.b false) false (Cs (eI k) (Te M))= .b (M.contains k):=by
 induction M with
 | nil=>rfl
 | cons x r ih=>
   simp only[Te,Cn,Cs]at *;have he:D1 (eI k) (eI x)=(k==x):=rfl;rw[he,List.contains_cons];cases k==x
   .simpa using ih
   .rfl
def IH (M:List Int): ∀kv∈Te M,Bf (.i .i64) kv.1=true:=by
 intro kv h;obtain⟨e,_,rfl⟩:=GL.1 h;rfl
def lkK {Z:AD} {l:List At} {i mm:Nat} {M:List Int} {k:Int} {K:V->Prop} (hk:K (.b (M.contains k))) (h:Sat Z l:=by assumption)
    (hi:l[i]? =some (.map mm (Te M)):=by first|exact Ro|exact Rn|exact Rm|exact Rl|exact Rk|exact Rj):AM Z (.i .i64) (.b false) false (.m mm) (eI k) K:=
 HN h i hi rfl (IH M) (by rw[Mk];exact hk)
def msK {Z:AD} {l:List At} {i mm:Nat} {M:List Int} {k:Int} {K:AD->Prop} (hk: ∀Z',Sat Z' (l.set i (.map mm (Te (Hw M k))))->K Z') (h:Sat Z l:=by assumption)
    (hi:l[i]? =some (.map mm (Te M)):=by first|exact Ro|exact Rn|exact Rm|exact Rl|exact Rk|exact Rj):AN Z (.i .i64) (.m mm) (eI k) (.b true) K:=
 HM h i hi rfl (IH M) (fun Z' hs=>hk Z' (by rw[aJ]at hs;exact hs))
def Jt (p:Prog) (c:Nat):Rp:=p.AK.getD (c - 3) default
def EP (p:Prog) (c:Nat):Nat->List Int
 | 0=>[]
 | k+1=>if G3 (A0 p) c (c - k)then EP p c k++(Jt p (c - k)).AL else EP p c k
def ri {ps:List (List Int)} (ho:ordered ps) {n c:Nat} (hc:c<n) (k:Nat): ∀p∈par ps (c - k),0<=p/\p.toNat<(Hr ps n c k).length/\p.toNat<c - k:=fun p hp=>by
 have:=ho _ _ hp;rw[MG];omega
def Vu {ps:List (List Int)} (ho:ordered ps) {n c:Nat} (hc:c<n) (k b:Nat):(Hr ps n c (k+1)).getD b false=((Hr ps n c k).getD b false||((Hr ps n c k).getD (c - k) false&&(par ps (c - k)).contains (b:Int))):=by
 rw[Hr,Nx _ _ (ri ho hc k)]
def Vv {ps:List (List Int)} (ho:ordered ps) {n c:Nat} (hc:c<n) (k:Nat): ∀(m:Nat) (b:Nat),c - k<=b->(Hr ps n c (k+m)).getD b false=(Hr ps n c k).getD b false
 | 0,_,_=>rfl
 | m + 1,b,h=>by
   rw[<-Nat.add_assoc,Vu ho hc,Vv ho hc k m b h]
   have:(par ps (c - (k+m))).contains (b:Int)=false:=by
    cases hb:(par ps (c - (k+m))).contains (b:Int)
    .rfl
    .have:=ho _ _ (List.contains_iff_mem.1 hb)
     omega
   rw[this,Bool.and_false,Bool.or_false]
def fZ {ps:List (List Int)} (ho:ordered ps) {n c:Nat} (hc:c<n) {k:Nat} (hk:k<=c - 2):(Hr ps n c k).getD (c - k) false=G3 ps c (c - k):=by
 rw[<-Zk ho hc (c - k),<-Vv ho hc k (c - 2 - k) (c - k) (G0 _)];congr 2;omega
def RN (b:Int): ∀(l M:List Int),(l.foldl Hw M).contains b=(M.contains b||l.contains b)
 | [],M=>by simp
 | x::r,M=>by
   rw[List.foldl_cons,RN b r,QF,List.contains_cons,Bool.or_assoc]
def ql {Z:AD} {l:List At} {i mm:Nat} {M:List Int} {k:Int} {b:Bool} {K:V->Prop} (e:M.contains k=b) (hk:K (.b b)) (h:Sat Z l:=by assumption)
    (hi:l[i]? =some (.map mm (Te M)):=by first|exact Ro|exact Rn|exact Rm|exact Rl|exact Rk|exact Rj):AM Z (.i .i64) (.b false) false (.m mm) (eI k) K:=lkK (e ▸ hk) h hi
def sd (p : Prog) (c:Nat) (h10:p.AK.length<=10) (hsl:Ch 0 p.AK=true) (hg:Dz (A0 p)=true) (hc3:3<=c) (hc:c<3+p.AK.length) :
    Pure zP 291 [.a (A3 p),eI c] (.l (iL ((EP p c (c - 2)).mergeSort Hq)) false):=by
 refine Pure.fit (by kernel_rfl) fun hf=>?_
 have hP:=H6 hf.1;have hM:=Mx;have hG:=D8 hg;have ho:=Kl hG;have hgl:(A0 p).length=p.AK.length:=by simp[A0]
 refine tg kZ ?_;have hs:=Sn
 conv=>whnf
 repeat'((first|clear U K|apply st|(apply zk;intro K U)|refine zo fun nn hnn Z hs=>?_|fail)<;>conv=>whnf)
 replace hs:Sat Z [.map nn (Te [])]:=hs
 conv=>whnf
 repeat'((first|clear U K|apply st|(apply zk;intro K U)|refine msK (fun Z hs=>?_)|fail)<;>conv=>whnf)
 generalize nn=mm at *;replace hs:Sat Z [.map mm (Te [(c:Int)])]:=hs
 refine Ba (c - 2) (fun k (x:List Int×V)=>[(6,x.2),(7,eI ((c:Int) - k))]) (fun k x=>[.own x.2 1 (iL (EP p c k)),.map mm (Te x.1)])
  (fun k x=>(∀b:Nat,b<3+(A0 p).length->x.1.contains (b:Int)=(Hr (A0 p) (3+(A0 p).length) c k).getD b false)/\((Bd x.2).isSome=true\/(x.2= .l [] true/\EP p c k= []))/\(EP p c k).length<=4*k) ([(c:Int)],.l [] true) ?_ ⟨?_,.inr ⟨rfl,rfl⟩,by simp[EP]⟩ (CM hs 1) ?_
 .simp[Pb,get]
  exact⟨rfl,rfl,rfl⟩
 .intro b hb
  simp only[Hr];rw[Ea (by simp;omega)];by_cases hbc:b=c
  .subst hbc;simp
  .rw[if_neg hbc]
   have:((c:Int)==(b:Int))=false:=by simp;omega
   simp[Co,List.getElem?_replicate];split<;>simp<;>omega
 clear hs;rintro k ⟨M,v⟩ Z hk ⟨hMb,hv,hml⟩ hs;dsimp only at hMb hv hs;rcases Nat.lt_or_ge k (c - 2)with hlt|hge
 .have hkc:M.contains ((c:Int) - k)=G3 (A0 p) c (c - k):=by
   have:=hMb (c - k) (by omega);rw[fZ ho (by omega) (by omega)]at this;rw[<-this];congr 1;omega
  have hcl:p.AK[(IntKind.i64.wrap ((c:Int) - k - 3)).toNat]? =some (Jt p (c - k)):=by
   rw[wrap64 (by omega) (by omega),show((c:Int) - k - 3).toNat=c - k - 3 by omega,Jt,Co,CQ (by omega)];rfl
  have hwi:0<=IntKind.i64.wrap ((c:Int) - k - 3):=by rw[wrap64 (by omega) (by omega)];omega
  have hw1:IntKind.i64.wrap ((c:Int) - k - 1)=(c:Int) - (k+1:Nat):=by rw[wrap64 (by omega) (by omega)];omega
  have hmt:EP p c (k+1)=if G3 (A0 p) c (c - k)then EP p c k++(Jt p (c - k)).AL else EP p c k:=rfl
  have hpar:(Jt p (c - k)).parents=par (A0 p) (c - k):=by
   unfold par Jt A0;rw[if_neg (by omega),Co,Co,JV,CQ (by omega)];rfl
  have hcm:=hP.2 _ (BY hcl);have hs4:=((Fj _ _ hsl).2 _ (BY hcl)).2;have hst:=fun b=>Vu ho (show c<3+(A0 p).length by omega) k b
  rw[fZ ho (by omega) (by omega),<-hpar]at hst;generalize Jt p (c - k)=cl at *;cases hb:G3 (A0 p) c (c - k)
  .rw[hb]at hkc hmt hst
   rw[if_neg (by decide)]at hmt
   conv=>whnf
   repeat'((first|clear U K|apply st|(apply zk;intro K U)|refine zY ?_|refine ql hkc ?_|(refine zb (fun hc=>?_) (fun hc=>?_)<;>try exact⟨⟩)|fail)<;>conv=>whnf)
   all_goals try(exfalso;omega)
   rw[hw1];exact⟨hlt,(M,v),rfl,⟨fun b hb=>by rw[hMb b hb,hst b];simp,by rw[hmt];exact hv,by rw[hmt];omega⟩,by rw[hmt];exact hs⟩
  .rw [hb] at hkc hmt hst
   rw[if_pos rfl]at hmt
   conv=>whnf
   repeat'((first|clear U K|apply st|(apply zk;intro K U)|refine zY ?_|refine ql hkc ?_|(refine zb (fun hc=>?_) (fun hc=>?_)<;>try exact⟨⟩)|fail)<;>conv=>whnf)
   all_goals try(exfalso;omega)
   refine XR (EH hs 0 rfl (by omega) Bg fun v' Z hs hv'=>?_);rw[<-hmt]at hs;refine zz ?_;(repeat clear U K);repeat intro K U
   refine Ba cl.parents.length (fun j (_:List Int)=>[(38,eI (Au j))]) (fun _ M=>[.own v' 1 (iL (EP p c (k+1))),.map mm (Te M)]) (fun j M'=>M'=(cl.parents.take j).foldl Hw M) M rfl rfl hs ?_;clear hs;rintro j M' Z hj hM' hs;rcases Aw cl.parents hj with⟨q,hq,hjlt⟩|hje
   .conv=>whnf
    repeat'((first|clear U K|apply st|(apply zk;intro K U)|refine zY ?_|refine msK (fun Z hs=>?_)|fail)<;>conv=>whnf)
    exact⟨hjlt,_,rfl,by rw[AO hq,List.foldl_append,<-hM'];rfl,hs⟩
   .rw [Ak hje]at hM'
    refine zz ?_;(repeat clear U K);repeat intro K U
    rw[hw1];refine⟨hlt,(M',v'),rfl,⟨fun b hb=>?_,?_,?_⟩,hs⟩
    .rw[hM',RN,hMb b hb,hst b,Db]
    .rcases hv' with hv'|⟨rfl,he⟩
     .exact .inl hv'
     .rcases hv with hv|⟨hv,hm0⟩
      .exact .inl hv
      .refine .inr ⟨hv,?_⟩
       rw[hmt,hm0,List.map_eq_nil_iff.1 he];rfl
    .rw[hmt,Kt];omega
 .have hkk:k=c - 2:=by omega
  rw[hkk]at hs hv hml;clear hMb
  conv=>whnf
  repeat'((first|clear U K|apply st|(apply zk;intro K U)|refine zY ?_|(refine zb (fun hc=>?_) (fun hc=>?_)<;>try exact⟨⟩)|fail)<;>conv=>whnf)
  all_goals try(exfalso;omega)
  refine(ei hv).use (rest:=[_]) hs ?_;clear hs;rintro r post Z ⟨rfl,rfl⟩ hs
  conv=>whnf
  repeat'((first|clear U K|apply st|(apply zk;intro K U)|fail)<;>conv=>whnf)
  refine(P3 _ v (by rw[List.length_mergeSort];omega)).use (rest:=[_]) hs ?_;clear hs;rintro r post Z ⟨rfl,rfl⟩ hs;refine zz ?_;(repeat clear U K);repeat intro K U
  exact AY OJ
def Q9 {p : Prog} {c:Nat} (s:Int): ∀k,s∈EP p c k↔ ∃j,j<k/\G3 (A0 p) c (c - j)=true/\s∈(Jt p (c - j)).AL
 | 0=>by simp[EP]
 | k + 1 =>by
   rw[EP];have ih:=Q9 (p:=p) (c:=c) s k;constructor
   .intro h
    split at h
    .rename_i hu
     rcases Du.1 h with h|h
     .obtain⟨j,h1,h2⟩:=ih.1 h
      exact⟨j,by omega,h2⟩
     .exact⟨k,by omega,hu,h⟩
    .obtain⟨j,h1,h2⟩:=ih.1 h
     exact⟨j,by omega,h2⟩
   .rintro⟨j,h1,h2,h3⟩
    by_cases hj:j=k
    .subst hj
     rw[if_pos h2];exact Du.2 (.inr h3)
    .have:=ih.2 ⟨j,by omega,h2,h3⟩
     split
     .exact Du.2 (.inl this)
     .exact this
def V6: ∀(l:List Int) (n s:Int),Lz n l=true->(s∈l↔n<=s/\s<n+l.length)
 | [],n,s,_=>by simp<;>omega
 | x::r,n,s,h=>by
   simp only[Lz,A7,Cd]at h;obtain⟨rfl,h⟩:=h;have:=V6 r (x+1) s h;rw[Ff,this,JU];omega
def Ss: ∀(cs:List Rp) (i:Nat) (n s:Int),Ch n cs=true->0<=n-> ∀(j:Nat) (c:Rp),cs[j]? =some c->(s∈c.AL↔n<=s/\s<n+(Bl cs:Int)/\(BO i cs).getD (s - n).toNat 0=((i+j:Nat):Int)+3)
 | [],_,_,_,_,_,_,_,h=>by cases h
 | d ::r,i,n,s,h,h0,j,c,hj=>by
   simp only[Ch,A7,CF]at h;obtain⟨-,-,hq,hr⟩:=h;have hm:=V6 d.AL n s hq;have hml:(Bl (d::r):Int)=d.AL.length+Bl r:=by simp[Bl]
   have hgd:n<=s->(BO i (d::r)).getD (s - n).toNat 0=if s<n+d.AL.length then(i:Int)+3 else(BO (i+1) r).getD (s - (n+d.AL.length)).toNat 0:=fun hns=>by
    simp only[BO,Co];split
    .rw[Xm (by simp;omega),List.getElem?_replicate,if_pos (by omega)]
     rfl
    .rw[List.getElem?_append_right (by simp;omega)]
     congr 2;simp;omega
   have hout: ∀q,q∈BO (i+1) r->(3:Int)+((i+1:Nat):Int)<=q:=fun q hq=>(GQ hq).1
   cases j with
   | zero=>
     simp at hj;subst hj;rw[hm,hml];constructor
     .rintro⟨h1,h2⟩
      refine⟨h1,by omega,?_⟩;rw[hgd h1,if_pos h2];simp
     .rintro⟨h1,h2,h3⟩
      refine⟨h1,?_⟩;rw[hgd h1]at h3;by_cases hlt:s<n+d.AL.length
      .exact hlt
      .rw[if_neg hlt,Co]at h3
       have hlen:(s - (n+d.AL.length)).toNat<(BO (i+1) r).length:=by rw[CX];omega
       rw[CQ hlen]at h3;have:=hout _ (List.getElem_mem hlen);simp at h3;omega
   | succ j=>
     simp at hj;have ih:=Ss r (i+1) (n+d.AL.length) s hr (by omega) j c hj;rw[ih,hml];constructor
     .rintro⟨h1,h2,h3⟩
      refine⟨by omega,by omega,?_⟩;rw[hgd (by omega),if_neg (by omega),h3];omega
     .rintro⟨h1,h2,h3⟩
      rw[hgd h1]at h3;by_cases hlt:s<n+d.AL.length
      .rw[if_pos hlt]at h3;omega
      .rw[if_neg hlt]at h3
       exact⟨by omega,by omega,by rw[h3];omega⟩
def jh {p:Prog} {c:Nat} (hsl:Ch 0 p.AK=true) (ho:ordered (A0 p)) (hc3:3<=c) (hc:c<3+p.AK.length) (s:Int) :
    ((EP p c (c - 2)).mergeSort Hq).contains s=(decide (0<=s)&&(decide (s<(Bl p.AK:Int))&&hasB (AG p) (c:Int) s)):=by
 rw[KF,List.contains_iff_mem,(List.mergeSort_perm _ Hq).mem_iff,Q9];simp only[A7,CF,hasB]
 have hown: ∀j,j<c - 2->(s∈(Jt p (c - j)).AL↔0<=s/\s<(Bl p.AK:Int)/\Bb (AG p) s=((c - j:Nat):Int)):=fun j hj=>by
  have hcl:p.AK[c - j - 3]? =some (Jt p (c - j)):=by
   rw[Jt,Co,CQ (by omega)];rfl
  have:=Ss p.AK 0 0 s hsl (by omega) (c - j - 3) _ hcl;rw[this];simp only[Int.sub_zero,Int.zero_add,Bb,AG];constructor
  .rintro⟨h1,h2,h3⟩;exact⟨h1,h2,by rw[h3];omega⟩
  .rintro⟨h1,h2,h3⟩;exact⟨h1,h2,by rw[h3];omega⟩
 constructor
 .rintro⟨j,h1,h2,h3⟩
  obtain⟨h4,h5,h6⟩:=(hown j h1).1 h3;refine⟨h4,h5,by omega,?_⟩;rw[h6];simp only[Jk,Ew,A7,CF];exact .inr (.inr ⟨by omega,by simpa[AG]using h2⟩)
 .rintro⟨h1,h2,h3,h4⟩
  have hmem:Bb (AG p) s∈BO 0 p.AK:=by
   have hlen:s.toNat<(BO 0 p.AK).length:=by rw[CX];omega
   have:Bb (AG p) s=(BO 0 p.AK)[s.toNat]:=by
    simp only[Bb,AG,Co,CQ hlen];rfl
   rw[this];exact List.getElem_mem hlen
  have hb:=GQ hmem
  have hup:G3 (A0 p) c (Bb (AG p) s).toNat=true:=by
   simp only[Jk,Ew,A7,CF,Cd]at h4;rcases h4 with h4|h4|⟨_,h4⟩
   .rw[<-h4,FZ];exact FR ho c
   .omega
   .simpa[AG]using h4
  have hle:=fe ho _ _ hup;refine⟨c - (Bb (AG p) s).toNat,by omega,?_,?_⟩
  .rw[show c - (c - (Bb (AG p) s).toNat)=(Bb (AG p) s).toNat by omega]
   exact hup
  .refine(hown _ (by omega)).2 ⟨h1,h2,by omega⟩
def jg {Z:AD}:As zP 245 [.b false] Z fun r Z'=>r= .Cu D4/\Z'=Z:=by
 refine gU kZ ?_;refine zz ?_;(repeat clear U K);repeat intro K U
 exact DQ ⟨rfl,rfl⟩
def Cl {x:Bool} {Z:AD} {k kp:V->AD->Prop} (h1:x=true->k (.t []) Z) (h2:x=false->kp D4 Z):As zP 245 [.b x] Z (qk k kp):=by
 cases x
 .refine As.mono jg ?_
  rintro r Z' ⟨rfl,rfl⟩;exact h2 rfl
 .exact jf.use (h1 rfl)
def GC:Int->List Rp->Bool
 | _,[]=>true
 | n,c::r=>decide (c.AL.length<=4)&&(Lz n c.AL&&GC (n+c.AL.length) r)
def QC: ∀(cs:List Rp) (n:Int),Ch n cs=(GC n cs&&cs.all fun c=>decide (c.parents.length<=3))
 | [],_=>rfl
 | c::r,n=>by
   simp only[Ch,GC,Jd];rw[QC r];cases decide (c.AL.length<=4)<;>cases decide (c.parents.length<=3)<;>cases Lz n c.AL<;>simp
def Sf: ∀(cs:List Rp) (n:Int),GC n cs=true->Bl cs<=4*cs.length
 | [],_,_=>G0 _
 | c::r,n,h=>by
   simp only[GC,A7,CF]at h;have:=Sf r _ h.2.2;simp only[Bl,Cn,List.sum_cons,JU]at *;omega
def Wa {p:Prog} (h:Dz (A0 p)=true):(p.AK.all fun c=>decide (c.parents.length<=3))=true:=by
 rw[DT];intro c hc;obtain⟨i,hi⟩:=List.getElem?_of_mem hc;have:=(D8 h).2 i c.parents (by rw[A0,JV,hi];rfl);exact decide_eq_true this.1
def RV (p:Prog):BA p=(decide (p.AK.length<=10)&&(GC 0 p.AK&&((Bl p.AK:Int)==p.AL&&(Dz (A0 p)&&Gc (AG p) (Bl p.AK) 0 p.AK)))):=by
 rw[BA,QC];cases hg:Dz (A0 p)
 .simp
 .rw[Wa hg,Bool.and_true]
abbrev x3 (p:Prog):R->AD->Prop:=fun r Z'=> ∃post:List At,(r=(if BA p then R.ret (.t [])else R.Cu D4)/\post= [])/\Sat Z' post
def Xv {p:Prog} {Z:AD} (h:BA p=false):AV Z D4 (x3 p):=DQ ⟨_,⟨by rw[h];rfl,rfl⟩,Sat.nil⟩
def clsT {p:Prog} {Z:AD} {l:List At} (hs:Sat Z l) (h:BA p=true):Af Z (.t []) (x3 p):=Aj hs (Ie _) (.refl _) fun Z' hs'=>⟨_,⟨by rw[h];rfl,rfl⟩,hs'⟩
def ZF (p : Prog):BL zP 244 [.a (A3 p)] [] fun r post=>r=(if BA p then R.ret (.t [])else R.Cu D4)/\post= []:=by
 intro Z hs;refine As.fit (by kernel_rfl) fun hf=>?_
 have hP:=H6 hf.1;have hcl:=hP.1;have hM:=Mx;refine uS kZ ?_;have hcb:=RV p;by_cases h10:p.AK.length<=10
 rotate_left
 .conv=>whnf
  repeat'((first|clear U K|apply st|(apply zk;intro K U)|refine zY ?_|(refine Cl (fun hc=>?_) (fun hc=>?_)<;>(replace hc:=bp hc)<;>(try simp(disch:=omega) only[Bh,wrap64,AW]at hc)<;>(try(exfalso;omega)))|fail)<;>conv=>whnf)
  all_goals try(exfalso;omega)
  exact Xv (by rw[hcb];simp[h10])
 rw[decide_eq_true h10,Db]at hcb
 conv=>whnf
 repeat'((first|clear U K|apply st|(apply zk;intro K U)|refine zY ?_|(refine Cl (fun hc=>?_) (fun hc=>?_)<;>(replace hc:=bp hc)<;>(try simp(disch:=omega) only[Bh,wrap64,AW]at hc)<;>(try(exfalso;omega)))|fail)<;>conv=>whnf)
 all_goals try(exfalso;omega)
 refine Ba p.AK.length (fun k (n:Int)=>[(2,eI n),(24,eI (Au k))]) (fun _ _=>[]) (fun k n=>GC 0 p.AK=GC n (p.AK.drop k)/\0<=n/\n+Bl (p.AK.drop k)=Bl p.AK/\n<=4*k) 0 rfl (by simp) hs ?_;clear hs;rintro k n Z hk ⟨hn,hn0,hn1,hn2⟩ hs;rcases Aw p.AK hk with⟨c,hc,hlt⟩|hke
 .have hcm:=(hP.2 c (BY hc)).2.1
  have hms:n+(c.AL.length:Int)+Bl (p.AK.drop (k+1))=Bl p.AK:=by
   rw[drop_cons hc]at hn1;simp only[Bl,Cn,List.sum_cons]at hn1 ⊢;omega
  rw[drop_cons hc,GC]at hn;by_cases h4:c.AL.length<=4
  .rw [decide_eq_true h4,Db]at hn
   conv=>whnf
   repeat'((first|clear U K|apply st|(apply zk;intro K U)|refine zY ?_|refine zs fun Z hs=>?_|(refine Cl (fun hc=>?_) (fun hc=>?_)<;>(replace hc:=bp hc)<;>(try simp(disch:=omega) only[Bh,wrap64,AW]at hc)<;>(try(exfalso;omega)))|refine zo fun nn hnn Z hs=>?_|fail)<;>conv=>whnf)
   all_goals try(exfalso;omega)
   refine Ba c.AL.length (fun j (m:Int)=>[(2,eI m),(36,eI (Au j))]) (fun _ _=>[]) (fun j m=>GC 0 p.AK=(Lz m (c.AL.drop j)&&GC (n+c.AL.length) (p.AK.drop (k+1)))/\m=n+j) n rfl ⟨hn,by simp⟩ (hs.take 0) ?_;clear hs hn;rintro j m Z hj ⟨hm,he⟩ hs;rcases Aw c.AL hj with⟨x,hx,hjlt⟩|hje
   .rw[drop_cons hx,Lz]at hm
    conv=>whnf
    repeat'((first|clear U K|apply st|(apply zk;intro K U)|refine zY ?_|(refine Cl (fun hc=>?_) (fun hc=>?_)<;>(replace hc:=bp hc))|fail)<;>conv=>whnf)
    .rw[wrap64 (by omega) (by omega)]
     rw[hc,beq_self_eq_true,Db]at hm;exact⟨hjlt,_,rfl,⟨by rw[<-hc];rw[<-hc]at hm;exact hm,by omega⟩,hs⟩
    .exact Xv (by rw[hcb,hm];simp[hc])
   .rw[Ad hje,Lz,Db]at hm
    refine zz ?_;(repeat clear U K);repeat intro K U
    exact⟨hlt,m,rfl,⟨by rw[hm];congr 1;omega,by omega,by omega,by omega⟩,hs⟩
  .conv=>whnf
   repeat'((first|clear U K|apply st|(apply zk;intro K U)|refine zY ?_|refine zs fun Z hs=>?_|(refine Cl (fun hc=>?_) (fun hc=>?_)<;>(replace hc:=bp hc)<;>(try simp(disch:=omega) only[Bh,wrap64,AW]at hc)<;>(try(exfalso;omega)))|refine zo fun nn hnn Z hs=>?_|fail)<;>conv=>whnf)
   all_goals try(exfalso;omega)
   exact Xv (by rw[hcb,hn];simp[h4])
 .have hne:n=Bl p.AK:=by rw[Ad hke]at hn1;simpa[Bl]using hn1
  rw[Ad hke]at hn;have hsp:GC 0 p.AK=true:=hn;have hml:=Sf _ _ hsp;rw[hsp,Db,<-hne]at hcb;cases hgd:Dz (A0 p)
  .rw[hgd]at hcb
   have hck:=Wm (A0 p) false;rw[hgd,if_neg (by decide)]at hck;have hcF:BA p=false:=by rw[hcb];simp
   conv=>whnf
   repeat'((first|clear U K|apply st|(apply zk;intro K U)|refine zY ?_|(refine Cl (fun hc=>?_) (fun hc=>?_)<;>(replace hc:=bp hc)<;>(try simp(disch:=omega) only[Bh,wrap64,AW]at hc)<;>(try(exfalso;omega))<;>(try(cases hc;done)))|refine Pure.use (Mp _ (by omega)) ?_|refine Pure.use (by assumption) ?_|refine za (fun hc=>?_) fun hc=>?_|fail)<;>conv=>whnf)
   all_goals exact Xv hcF
  .have hck:=Wm (A0 p) false
   rw[hgd,if_pos rfl]at hck;rw[hgd,Db]at hcb;by_cases hps:n=p.AL
   .rw [hps,beq_self_eq_true,Db,<-hps]at hcb
    have hslB:Ch 0 p.AK=true:=by rw[QC,hsp,Wa hgd];rfl
    have hG:=D8 hgd;have ho:=Kl hG;have hgl:(A0 p).length=p.AK.length:=by simp[A0]
    conv=>whnf
    repeat'((first|clear U K|apply st|(apply zk;intro K U)|refine zY ?_|(refine Cl (fun hc=>?_) (fun hc=>?_)<;>(replace hc:=bp hc)<;>(try simp(disch:=omega) only[Bh,wrap64,AW]at hc)<;>(try(exfalso;omega)))|refine Pure.use (Mp _ (by omega)) ?_|refine Pure.use (by assumption) ?_|(refine zb (fun hc=>?_) (fun hc=>?_)<;>try exact⟨⟩)|fail)<;>conv=>whnf)
    refine Ba p.AK.length (fun k (_:Unit)=>[(63,eI (Au k))]) (fun _ _=>[]) (fun k _=>BA p=Gc (AG p) n k (p.AK.drop k)) () rfl hcb hs ?_;clear hs;rintro i - Z hi hn' hs;rcases Aw p.AK hi with⟨c,hc,hilt⟩|hie
    .rw [drop_cons hc,Gc]at hn'
     have hci:Au i=i:=AW (by omega);have hw3:IntKind.i64.wrap (Au i+3)=(i:Int)+3:=by rw[hci,wrap64 (by omega) (by omega)]
     have hlin:=sR (A0 p) false ((i:Int)+3) hgd (by omega) (by omega);have hinl:=(hP.2 c (BY hc)).2.2;have hlb:lg (AG p).parents ((i:Int)+3)= !((B6 (A0 p)).getD ((i:Int)+3).toNat []).isEmpty:=rfl;cases hem:((B6 (A0 p)).getD ((i:Int)+3).toNat []).isEmpty
     .rw [hem]at hlb
      rw[hlb,Bool.not_false,Db]at hn';rw[hem,if_neg (by decide),<-hw3]at hlin;have hhas:=sd p (i+3) h10 hslB hgd (by omega) (by omega);have hmh:=jh hslB ho (show 3<=i+3 by omega) (show i+3<3+p.AK.length by omega);have ei3:((i+3:Nat):Int)=(i:Int)+3:=by omega
      rw[ei3,<-hw3]at hhas;rw[ei3]at hmh;generalize (EP p (i+3) (i+3 - 2)).mergeSort Hq=mine at *
      conv=>whnf
      repeat'((first|clear U K|apply st|(apply zk;intro K U)|refine zY ?_|refine zs fun Z hs=>?_|(refine Cl (fun hc=>?_) (fun hc=>?_)<;>(replace hc:=bp hc)<;>(try simp(disch:=omega) only[Bh,wrap64,AW]at hc)<;>(try(exfalso;omega)))|refine Pure.use (by assumption) ?_|refine zo fun nn hnn Z hs=>?_|fail)<;>conv=>whnf)
      generalize nn=mm at *;replace hs:Sat Z [.map mm (Te [])]:=hs.take 1;refine Ba c.inits.length (fun j (_:List Int)=>[(86,eI (Au j))]) (fun _ M=>[.map mm (Te M)]) (fun j M=>BA p=(ER (AG p) ((i:Int)+3) n (c.inits.take j) (c.inits.drop j)&&Gc (AG p) n (i+1) (p.AK.drop (i+1)))/\ ∀s,M.contains s=(c.inits.take j).any fun y=>y.1==s) [] rfl ⟨hn',fun s=>rfl⟩ hs ?_;clear hs;rintro j M Z hj ⟨hm,hMs⟩ hs;rcases Aw c.inits hj with⟨x,hx,hjlt⟩|hje
      .have hpa:((c.inits.take j).all fun y=>y.1 != x.1)= !M.contains x.1:=by
        rw[hMs,List.all_eq_not_any_not];congr 2;funext y;simp[bne]
       have hst:BA p=((mine.contains x.1&&(!M.contains x.1&&Tp x.2))&&(ER (AG p) ((i:Int)+3) n (c.inits.take (j+1)) (c.inits.drop (j+1))&&Gc (AG p) n (i+1) (p.AK.drop (i+1)))):=by
        rw[hm,drop_cons hx,ER,hpa,hmh,<-hne,AO hx];cases decide (0<=x.1)<;>cases decide (x.1<n)<;>cases hasB (AG p) ((i:Int)+3) x.1<;>cases Tp x.2<;>cases M.contains x.1<;>simp
       have hMs': ∀s,(Hw M x.1).contains s=(c.inits.take (j+1)).any fun y=>y.1==s:=fun s=>by
        rw[QF,hMs,AO hx,List.any_append];simp only[Oj,List.any_nil,Bool.or_false];congr 1;rw[KF];simp;exact eq_comm
       have hct:=CP mine false x.1;have hbt:=Ra x.2;clear hmh hpa hMs hm;cases eA:mine.contains x.1<;>cases eB:M.contains x.1<;>cases eD:Tp x.2<;>rw[eA]at hct<;>rw[eD]at hbt<;>rw[eA,eB,eD]at hst
       all_goals
        conv=>whnf
        repeat'((first|clear U K|apply st|(apply zk;intro K U)|refine zY ?_|refine zs fun Z hs=>?_|(refine Cl (fun hc=>?_) (fun hc=>?_)<;>(replace hc:=bp hc)<;>(try simp(disch:=omega) only[Bh,wrap64,AW]at hc)<;>(try(cases hc;done)))|refine ql eB ?_|refine msK (fun Z hs=>?_)|refine Pure.use (by assumption) ?_|refine zo fun nn hnn Z hs=>?_|fail)<;>conv=>whnf)
       all_goals first
        | exact⟨hjlt,_,rfl,⟨hst,hMs'⟩,hs.less (HU _ _)⟩
        | exact Xv (by rw[hst];rfl)
      .rw[Ad hje,ER,Db]at hm
       refine zz ?_;(repeat clear U K);repeat intro K U
       exact⟨hilt,(),rfl,hm,hs.take 0⟩
     .rw[hem]at hlb
      rw[hem,if_pos rfl,<-hw3]at hlin;have hcF:BA p=false:=by rw[hn',hlb];rfl
      conv=>whnf
      repeat'((first|clear U K|apply st|(apply zk;intro K U)|refine zY ?_|refine zs fun Z hs=>?_|(refine Cl (fun hc=>?_) (fun hc=>?_)<;>(replace hc:=bp hc)<;>(try(exfalso;omega)))|refine Pure.use (by assumption) ?_|refine zo fun nn hnn Z hs=>?_|fail)<;>conv=>whnf)
      all_goals exact Xv hcF
    .refine zz ?_;(repeat clear U K);repeat intro K U
     exact clsT hs (by rw[hn',Ad hie];rfl)
   .have hcF:BA p=false:=by rw[hcb];simp[hps]
    conv=>whnf
    repeat'((first|clear U K|apply st|(apply zk;intro K U)|refine zY ?_|(refine Cl (fun hc=>?_) (fun hc=>?_)<;>(replace hc:=bp hc)<;>(try simp(disch:=omega) only[Bh,wrap64,AW]at hc)<;>(try(cases hc;done)))|refine Pure.use (Mp _ (by omega)) ?_|(refine zb (fun hc=>?_) (fun hc=>?_)<;>try exact⟨⟩)|fail)<;>conv=>whnf)
    all_goals exact Xv hcF
def b7 (f : Fact):SS f=true->Pure zP 250 [.a (xF f)] (eI (Gd f)):=by
 induction f using Fact.ind with
 | h f ih=>
   intro ha;refine Pure.fit (by kernel_rfl) fun hf=>?_
   have⟨h2,h3,h4⟩:=JK hf.1;have hM:=Mx;rw[Qk]at ha;simp only[A7,CF,List.all_map,DT]at ha;refine uN kZ ?_;have hs:=Sn;by_cases hlf:Bu f=true
   .have hlo:=Fs hlf
    have hw:IntKind.i64.wrap (f.arg+1)=f.arg+1:=wrap64 (by omega) (by omega)
    conv=>whnf
    repeat'((first|clear U K|apply st|(apply zk;intro K U)|refine zY ?_|(refine zb (fun hc=>?_) (fun hc=>?_)<;>try exact⟨⟩)|fail)<;>conv=>whnf)
    all_goals try(exfalso;omega)
    all_goals
     refine Ba f.kids.length (fun k (_:Unit)=>[(3,eI (((f.kids.take k).map Gd).foldl Ky (if Bu f then f.arg+1 else 0))),(25,eI (Au k))]) (fun _ _=>[]) (fun _ _=>True) () (by rw[hw,if_pos hlf];rfl) trivial hs ?_;clear hs;rintro k - Z hk - hs;rcases Aw f.kids hk with⟨x,hx,hlt⟩|hke
     .have hxs:=ih x (BY hx) (ha.2 x (BY hx))
      conv=>whnf
      repeat'((first|clear U K|apply st|(apply zk;intro K U)|refine zY ?_|refine zs fun Z hs=>?_|refine zC ?_|refine zo fun nn hnn Z hs=>?_|fail)<;>conv=>whnf)
      exact⟨hlt,(),by rw[Gq _ _ _ hx];rfl,trivial,hs.take 0⟩
     .refine zz ?_;(repeat clear U K);repeat intro K U
      exact AF (by rw[Ak hke,<-Kb])
   .have hlo:f.op≠2/\f.op≠3/\f.op≠4:=by
     simp only[Bu,Ew,Cd]at hlf;omega
    conv=>whnf
    repeat'((first|clear U K|apply st|(apply zk;intro K U)|refine zY ?_|(refine zb (fun hc=>?_) (fun hc=>?_)<;>try exact⟨⟩)|fail)<;>conv=>whnf)
    all_goals try(exfalso;omega)
    all_goals
     refine Ba f.kids.length (fun k (_:Unit)=>[(3,eI (((f.kids.take k).map Gd).foldl Ky (if Bu f then f.arg+1 else 0))),(25,eI (Au k))]) (fun _ _=>[]) (fun _ _=>True) () (by rw[if_neg hlf];rfl) trivial hs ?_;clear hs;rintro k - Z hk - hs;rcases Aw f.kids hk with⟨x,hx,hlt⟩|hke
     .have hxs:=ih x (BY hx) (ha.2 x (BY hx))
      conv=>whnf
      repeat'((first|clear U K|apply st|(apply zk;intro K U)|refine zY ?_|refine zs fun Z hs=>?_|refine zC ?_|refine zo fun nn hnn Z hs=>?_|fail)<;>conv=>whnf)
      exact⟨hlt,(),by rw[Gq _ _ _ hx];rfl,trivial,hs.take 0⟩
     .refine zz ?_;(repeat clear U K);repeat intro K U
      exact AF (by rw[Ak hke,<-Kb])
def cR (p:Prog) (x:Node) (size:Int):Pure zP 248 [.a (A3 p),.a (JL x),eI size] (.b (NO p x size)):=by
 refine Pure.fit (by kernel_rfl) fun hf=>?_
 have⟨p1,p2,p3,p4⟩:=F0 hf.1;have hM:=Mx;have hw:IntKind.i64.wrap (3+((p.AK.map LP).length:Nat))=3+(p.AK.length:Int):=by rw[Bh,wrap64 (by omega) (by omega)]
 refine uP kZ ?_;have hs:=Sn
 conv=>whnf
 repeat'((first|clear U K|apply st|(apply zk;intro K U)|refine zY ?_|refine Pure.use (Ra _) ?_|refine za (fun hc=>?_) fun hc=>?_|fail)<;>conv=>whnf)
 all_goals first
  | (refine AF ?_;simp[NO, *];done)
  | (refine AF ?_;simp[NO, *];omega)
  | (refine AF ?_;rw[hw];simp[NO, *];done)
  | (refine AF ?_;congr 1;rw[KF];simp[NO, *];omega)
def sK (n:Nat) (hn:n<=120):Pure zP 173 [.i .u64 1,eU n] (.t [.i .u64 0,eU n]):=by
 refine vQ kZ ?_;have hs:=Sn
 conv=>whnf
 repeat'((first|clear U K|apply st|(apply zk;intro K U)|refine zY ?_|refine⟨(by decide:(0:Int)<=_),?_⟩|fail)<;>conv=>whnf)
 have ea: ∀m:Nat,m<=120->bits .and .u64 (m:Int) 4294967295=(m:Int):=fun m hm=>by
  have:=F4 (a:=m) (b:=4294967295) (by omega) (by decide)
  have e:m&&&4294967295=m:=by
   have:=Nat.and_two_pow_sub_one_eq_mod m 32;rw[show 2 ^ 32 - 1=4294967295 from rfl]at this;rw[this];omega
  rw[e]at this;exact this
 have e0:=ea 0 (by omega);have e1:=ea 1 (by omega);have en:=ea n hn
 have ef: ∀m:Nat,m<=120->(m:Int).fdiv (2 ^ min (Int.toNat 32) IntKind.u64.bits)=0:=fun m hm=>by
  have:=UJ (a:=m) (c:=32) (by decide);rw[show(Int.toNat 32)=32 from rfl,this,Nat.shiftRight_eq_div_pow];have:m / 2 ^ 32=0:=Nat.div_eq_of_lt (by omega);rw[this];rfl
 have f0:=ef 0 (by omega);have f1:=ef 1 (by omega);have fn:=ef n hn;have w0:IntKind.u64.wrap 0=0:=rfl;have wn:IntKind.u64.wrap (n:Int)=n:=IB (by omega);simp only[Int.natCast_zero,Int.natCast_one,Int.cast_ofNat_Int]at e0 e1 f0 f1;simp only[e0,e1,en,f0,f1,fn,w0,wn,Int.zero_mul,Int.mul_zero,Int.zero_add,Int.add_zero,Int.one_mul];exact AF rfl
def sL (n:Nat) (hn:n<=120):Pure zP 109 [.i .u64 1,eU n] (.t [.i .u64 0,eU n]):=by
 refine wY kZ ?_;have hs:=Sn
 conv=>whnf
 repeat'((first|clear U K|apply st|(apply zk;intro K U)|refine Pure.use (sK n hn) ?_|fail)<;>conv=>whnf)
 all_goals exact AF rfl
def SM (op:Int):V:=
 if op=5 then .Lx 340 (.a [])else
 if op=1\/op=2\/op=3\/op=6\/op=18 then .Lx 339 (eI 0)else
 if op=4\/op=8\/op=17 then .Lx 339 (eI 1)else
 if op=7\/op=9\/op=11\/op=12\/op=13\/op=14\/op=15\/op=16 then .Lx 339 (eI 2)else
 if op=10 then .Lx 339 (eI 3)else .K0
def cj (op:Int):Pure zP 249 [eI op] (SM op):=by
 refine uO kZ ?_;have hs:=Sn
 conv=>whnf
 repeat'((first|clear U K|apply st|(apply zk;intro K U)|refine zY ?_|refine za (fun hc=>?_) fun hc=>?_|fail)<;>conv=>whnf)
 all_goals exact AF (by simp[SM, *])
def yF (n:Int) (p:Prog) (x:Node):Pure zP 352 [eI n,.a (A3 p),.a (JL x)] (eI n):=by
 refine s6 kZ ?_;have hs:=Sn;exact zW
def oa (p:Prog) (x:Node) (h0:0<=x.n) (h1:x.n<p.Cc.length):Pure zP 353 [.a [],.a (A3 p),.a (JL x)] (eI (p.Cc.getD x.n.toNat 0)):=by
 refine Pure.fit (by kernel_rfl) fun hf=>?_
 have⟨p1,p2,p3,p4⟩:=F0 hf.2.1
 have hx:p.Cc[x.n.toNat]? =some (p.Cc.getD x.n.toNat 0):=by
  rw[Co,CQ (by omega)];rfl
 refine s5 kZ ?_;have hs:=Sn;exact zW
end Go.Gl
