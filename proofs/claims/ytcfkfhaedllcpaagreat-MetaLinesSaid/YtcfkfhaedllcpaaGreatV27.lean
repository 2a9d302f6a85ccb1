import Derived.Test.YtcfkfhaedllcpaaGreatV14
import Derived.Test.YtcfkfhaedllcpaaGreatV15
import Derived.Test.YtcfkfhaedllcpaaGreatV18
import Derived.Test.YtcfkfhaedllcpaaGreatV19
import Derived.Test.YtcfkfhaedllcpaaGreatV22
import Derived.Test.YtcfkfhaedllcpaaGreatV23
import Derived.Test.YtcfkfhaedllcpaaGreatV26
set_option linter.all false
set_option linter.defProp false
set_option maxHeartbeats 8000000
noncomputable section
namespace Go.Gl
open Go.Proofs
attribute [local irreducible] A6 Ar Ah AR AI Ae AQ AT AK Ad AN AO Ay A7 Sat AY A5 Ai W
def lkK {Z:AE} {l:List At} {i mm:Nat} {M:List Int} {k:Int} {K:V->Prop} (hk:K (.b (M.contains k))) (h:Sat Z l:=by assumption)
    (hi:l[i]? =some (.map mm (TJ M)):=by first|exact RH|exact RG|exact RF|exact RD|exact RC|exact RA):AN Z (.i .i64) (.b false) false (.m mm) (eI k) K:=
 Jt h i hi rfl (Hm M) (by rw[MP];exact hk)
def zx {Z:AE} {l:List At} {i mm:Nat} {M:List Int} {k:Int} {K:AE->Prop} (hk: ∀Z',Sat Z' (l.set i (.map mm (TJ (PC M k))))->K Z') (h:Sat Z l:=by assumption)
    (hi:l[i]? =some (.map mm (TJ M)):=by first|exact RH|exact RG|exact RF|exact RD|exact RC|exact RA):AO Z (.i .i64) (.m mm) (eI k) (.b true) K:=
 Js h i hi rfl (Hm M) (fun Z' hs=>hk Z' (by rw[Z5]at hs;exact hs))
def JW (p:Prog) (c:Nat):RJ:=p.AJ.getD (c - 3) default
def D5 (p:Prog) (c:Nat):Nat->List Int
 | 0=>[]
 | k+1=>if KD (Ax p) c (c - k)then D5 p c k++(JW p (c - k)).AG else D5 p c k
def rS {ps:List (List Int)} (ho:ordered ps) {n c:Nat} (hc:c<n) (k:Nat): ∀p∈par ps (c - k),0<=p/\p.toNat<(HS ps n c k).length/\p.toNat<c - k:=fun p hp=>by
 have:=ho _ _ hp;rw[Lu];omega
def Vm {ps:List (List Int)} (ho:ordered ps) {n c:Nat} (hc:c<n) (k b:Nat):(HS ps n c (k+1)).getD b false=((HS ps n c k).getD b false||((HS ps n c k).getD (c - k) false&&(par ps (c - k)).contains (b:Int))):=by
 rw[HS,Ng _ _ (rS ho hc k)]
def Vn {ps:List (List Int)} (ho:ordered ps) {n c:Nat} (hc:c<n) (k:Nat): ∀(m:Nat) (b:Nat),c - k<=b->(HS ps n c (k+m)).getD b false=(HS ps n c k).getD b false
 | 0,_,_=>rfl
 | m + 1,b,h=>by
   rw[<-Nat.add_assoc,Vm ho hc,Vn ho hc k m b h]
   have:(par ps (c - (k+m))).contains (b:Int)=false:=by
    cases hb:(par ps (c - (k+m))).contains (b:Int)
    .rfl
    .have:=ho _ _ (List.contains_iff_mem.1 hb)
     omega
   rw[this,Bool.and_false,Bool.or_false]
def fp {ps:List (List Int)} (ho:ordered ps) {n c:Nat} (hc:c<n) {k:Nat} (hk:k<=c - 2):(HS ps n c k).getD (c - k) false=KD ps c (c - k):=by
 rw[<-ZZ ho hc (c - k),<-Vn ho hc k (c - 2 - k) (c - k) (I3 _)];congr 2;omega
def Qo (b:Int): ∀(l M:List Int),(l.foldl PC M).contains b=(M.contains b||l.contains b)
 | [],M=>by simp
 | x::r,M=>by
   rw[List.foldl_cons,Qo b r,Vz,List.contains_cons,Bool.or_assoc]
def qY {Z:AE} {l:List At} {i mm:Nat} {M:List Int} {k:Int} {b:Bool} {K:V->Prop} (e:M.contains k=b) (hk:K (.b b)) (h:Sat Z l:=by assumption)
    (hi:l[i]? =some (.map mm (TJ M)):=by first|exact RH|exact RG|exact RF|exact RD|exact RC|exact RA):AN Z (.i .i64) (.b false) false (.m mm) (eI k) K:=lkK (e ▸ hk) h hi
def sW (p : Prog) (c:Nat) (h10:p.AJ.length<=10) (hsl:Cj 0 p.AJ=true) (hg:Dh (Ax p)=true) (hc3:3<=c) (hc:c<3+p.AJ.length) :
    Pure zP 262 [.a (BK p),eI c] (.l (iL ((D5 p c (c - 2)).mergeSort HO)) false):=by
 refine Pure.fit (by kernel_rfl) fun hf=>?_
 have hP:=N9 hf.1;have hM:=Mx;have hG:=Ds hg;have ho:=Nl hG;have hgl:(Ax p).length=p.AJ.length:=by simp[Ax]
 refine ui kZ ?_;have hs:=Sn
 conv=>whnf
 repeat'((first|clear U K|apply st|(apply zk;intro K U)|refine zo fun nn hnn Z hs=>?_|fail)<;>conv=>whnf)
 replace hs:Sat Z [.map nn (TJ [])]:=hs
 conv=>whnf
 repeat'((first|clear U K|apply st|(apply zk;intro K U)|refine zx (fun Z hs=>?_)|fail)<;>conv=>whnf)
 generalize nn=mm at *;replace hs:Sat Z [.map mm (TJ [(c:Int)])]:=hs
 refine By (c - 2) (fun k (x:List Int×V)=>[(6,x.2),(7,eI ((c:Int) - k))]) (fun k x=>[.own x.2 1 (iL (D5 p c k)),.map mm (TJ x.1)])
  (fun k x=>(∀b:Nat,b<3+(Ax p).length->x.1.contains (b:Int)=(HS (Ax p) (3+(Ax p).length) c k).getD b false)/\((Bg x.2).isSome=true\/(x.2= .l [] true/\D5 p c k= []))/\(D5 p c k).length<=4*k) ([(c:Int)],.l [] true) ?_ ⟨?_,.inr ⟨rfl,rfl⟩,by simp[D5]⟩ (Ci hs 1) ?_
 .simp[PB,get]
  exact⟨rfl,rfl,rfl⟩
 .intro b hb
  simp only[HS];rw[EE (by simp;omega)];by_cases hbc:b=c
  .subst hbc;simp
  .rw[if_neg hbc]
   have:((c:Int)==(b:Int))=false:=by simp;omega
   simp[DL,List.getElem?_replicate];split<;>simp<;>omega
 clear hs;rintro k ⟨M,v⟩ Z hk ⟨hMb,hv,hml⟩ hs;dsimp only at hMb hv hs;rcases Nat.lt_or_ge k (c - 2)with hlt|hge
 .have hkc:M.contains ((c:Int) - k)=KD (Ax p) c (c - k):=by
   have:=hMb (c - k) (by omega);rw[fp ho (by omega) (by omega)]at this;rw[<-this];congr 1;omega
  have hcl:p.AJ[(IntKind.i64.wrap ((c:Int) - k - 3)).toNat]? =some (JW p (c - k)):=by
   rw[wrap64 (by omega) (by omega),show((c:Int) - k - 3).toNat=c - k - 3 by omega,JW,DL,Cw (by omega)];rfl
  have hwi:0<=IntKind.i64.wrap ((c:Int) - k - 3):=by rw[wrap64 (by omega) (by omega)];omega
  have hw1:IntKind.i64.wrap ((c:Int) - k - 1)=(c:Int) - (k+1:Nat):=by rw[wrap64 (by omega) (by omega)];omega
  have hmt:D5 p c (k+1)=if KD (Ax p) c (c - k)then D5 p c k++(JW p (c - k)).AG else D5 p c k:=rfl
  have hpar:(JW p (c - k)).parents=par (Ax p) (c - k):=by
   unfold par JW Ax;rw[if_neg (by omega),DL,DL,Mu,Cw (by omega)];rfl
  have hcm:=hP.2 _ (Bz hcl);have hs4:=((FT _ _ hsl).2 _ (Bz hcl)).2;have hst:=fun b=>Vm ho (show c<3+(Ax p).length by omega) k b
  rw[fp ho (by omega) (by omega),<-hpar]at hst;generalize JW p (c - k)=cl at *;cases hb:KD (Ax p) c (c - k)
  .rw[hb]at hkc hmt hst
   rw[if_neg (by decide)]at hmt
   conv=>whnf
   repeat'((first|clear U K|apply st|(apply zk;intro K U)|refine zY ?_|refine qY hkc ?_|(refine zb (fun hc=>?_) (fun hc=>?_)<;>try exact⟨⟩)|fail)<;>conv=>whnf)
   all_goals try(exfalso;omega)
   rw[hw1];exact⟨hlt,(M,v),rfl,⟨fun b hb=>by rw[hMb b hb,hst b];simp,by rw[hmt];exact hv,by rw[hmt];omega⟩,by rw[hmt];exact hs⟩
  .rw [hb] at hkc hmt hst
   rw[if_pos rfl]at hmt
   conv=>whnf
   repeat'((first|clear U K|apply st|(apply zk;intro K U)|refine zY ?_|refine qY hkc ?_|(refine zb (fun hc=>?_) (fun hc=>?_)<;>try exact⟨⟩)|fail)<;>conv=>whnf)
   all_goals try(exfalso;omega)
   refine W9 (GP hs 0 rfl (by omega) Bc fun v' Z hs hv'=>?_);rw[<-hmt]at hs;refine zz ?_;(repeat clear U K);repeat intro K U
   refine By cl.parents.length (fun j (_:List Int)=>[(38,eI (A9 j))]) (fun _ M=>[.own v' 1 (iL (D5 p c (k+1))),.map mm (TJ M)]) (fun j M'=>M'=(cl.parents.take j).foldl PC M) M rfl rfl hs ?_;clear hs;rintro j M' Z hj hM' hs;rcases A3 cl.parents hj with⟨q,hq,hjlt⟩|hje
   .conv=>whnf
    repeat'((first|clear U K|apply st|(apply zk;intro K U)|refine zY ?_|refine zx (fun Z hs=>?_)|fail)<;>conv=>whnf)
    exact⟨hjlt,_,rfl,by rw[AL hq,List.foldl_append,<-hM'];rfl,hs⟩
   .rw [Ap hje]at hM'
    refine zz ?_;(repeat clear U K);repeat intro K U
    rw[hw1];refine⟨hlt,(M',v'),rfl,⟨fun b hb=>?_,?_,?_⟩,hs⟩
    .rw[hM',Qo,hMb b hb,hst b,GJ]
    .rcases hv' with hv'|⟨rfl,he⟩
     .exact .inl hv'
     .rcases hv with hv|⟨hv,hm0⟩
      .exact .inl hv
      .refine .inr ⟨hv,?_⟩
       rw[hmt,hm0,List.map_eq_nil_iff.1 he];rfl
    .rw[hmt,Ro];omega
 .have hkk:k=c - 2:=by omega
  rw[hkk]at hs hv hml;clear hMb
  conv=>whnf
  repeat'((first|clear U K|apply st|(apply zk;intro K U)|refine zY ?_|(refine zb (fun hc=>?_) (fun hc=>?_)<;>try exact⟨⟩)|fail)<;>conv=>whnf)
  all_goals try(exfalso;omega)
  refine(fK hv).use (rest:=[_]) hs ?_;clear hs;rintro r post Z ⟨rfl,rfl⟩ hs
  conv=>whnf
  repeat'((first|clear U K|apply st|(apply zk;intro K U)|fail)<;>conv=>whnf)
  refine(Pj _ v (by rw[List.length_mergeSort];omega)).use (rest:=[_]) hs ?_;clear hs;rintro r post Z ⟨rfl,rfl⟩ hs;refine zz ?_;(repeat clear U K);repeat intro K U
  exact Ab fY
def Qd {p : Prog} {c:Nat} (s:Int): ∀k,s∈D5 p c k↔ ∃j,j<k/\KD (Ax p) c (c - j)=true/\s∈(JW p (c - j)).AG
 | 0=>by simp[D5]
 | k + 1 =>by
   rw[D5];have ih:=Qd (p:=p) (c:=c) s k;constructor
   .intro h
    split at h
    .rename_i hu
     rcases FC.1 h with h|h
     .obtain⟨j,h1,h2⟩:=ih.1 h
      exact⟨j,by omega,h2⟩
     .exact⟨k,by omega,hu,h⟩
    .obtain⟨j,h1,h2⟩:=ih.1 h
     exact⟨j,by omega,h2⟩
   .rintro⟨j,h1,h2,h3⟩
    by_cases hj:j=k
    .subst hj
     rw[if_pos h2];exact FC.2 (.inr h3)
    .have:=ih.2 ⟨j,by omega,h2,h3⟩
     split
     .exact FC.2 (.inl this)
     .exact this
def Vv: ∀(l:List Int) (n s:Int),Ld n l=true->(s∈l↔n<=s/\s<n+l.length)
 | [],n,s,_=>by simp<;>omega
 | x::r,n,s,h=>by
   simp only[Ld,BD,EZ]at h;obtain⟨rfl,h⟩:=h;have:=Vv r (x+1) s h;rw[GK,this,JD];omega
def SU: ∀(cs:List RJ) (i:Nat) (n s:Int),Cj n cs=true->0<=n-> ∀(j:Nat) (c:RJ),cs[j]? =some c->(s∈c.AG↔n<=s/\s<n+(Bl cs:Int)/\(BM i cs).getD (s - n).toNat 0=((i+j:Nat):Int)+3)
 | [],_,_,_,_,_,_,_,h=>by cases h
 | d ::r,i,n,s,h,h0,j,c,hj=>by
   simp only[Cj,BD,CD]at h;obtain⟨-,-,hq,hr⟩:=h;have hm:=Vv d.AG n s hq;have hml:(Bl (d::r):Int)=d.AG.length+Bl r:=by simp[Bl]
   have hgd:n<=s->(BM i (d::r)).getD (s - n).toNat 0=if s<n+d.AG.length then(i:Int)+3 else(BM (i+1) r).getD (s - (n+d.AG.length)).toNat 0:=fun hns=>by
    simp only[BM,DL];split
    .rw[k7 (by simp;omega),List.getElem?_replicate,if_pos (by omega)]
     rfl
    .rw[List.getElem?_append_right (by simp;omega)]
     congr 2;simp;omega
   have hout: ∀q,q∈BM (i+1) r->(3:Int)+((i+1:Nat):Int)<=q:=fun q hq=>(F9 hq).1
   cases j with
   | zero=>
     simp at hj;subst hj;rw[hm,hml];constructor
     .rintro⟨h1,h2⟩
      refine⟨h1,by omega,?_⟩;rw[hgd h1,if_pos h2];simp
     .rintro⟨h1,h2,h3⟩
      refine⟨h1,?_⟩;rw[hgd h1]at h3;by_cases hlt:s<n+d.AG.length
      .exact hlt
      .rw[if_neg hlt,DL]at h3
       have hlen:(s - (n+d.AG.length)).toNat<(BM (i+1) r).length:=by rw[CU];omega
       rw[Cw hlen]at h3;have:=hout _ (List.getElem_mem hlen);simp at h3;omega
   | succ j=>
     simp at hj;have ih:=SU r (i+1) (n+d.AG.length) s hr (by omega) j c hj;rw[ih,hml];constructor
     .rintro⟨h1,h2,h3⟩
      refine⟨by omega,by omega,?_⟩;rw[hgd (by omega),if_neg (by omega),h3];omega
     .rintro⟨h1,h2,h3⟩
      rw[hgd h1]at h3;by_cases hlt:s<n+d.AG.length
      .rw[if_pos hlt]at h3;omega
      .rw[if_neg hlt]at h3
       exact⟨by omega,by omega,by rw[h3];omega⟩
def jU {p:Prog} {c:Nat} (hsl:Cj 0 p.AJ=true) (ho:ordered (Ax p)) (hc3:3<=c) (hc:c<3+p.AJ.length) (s:Int) :
    ((D5 p c (c - 2)).mergeSort HO).contains s=(decide (0<=s)&&(decide (s<(Bl p.AJ:Int))&&hasB (AS p) (c:Int) s)):=by
 rw[KO,List.contains_iff_mem,(List.mergeSort_perm _ HO).mem_iff,Qd];simp only[BD,CD,hasB]
 have hown: ∀j,j<c - 2->(s∈(JW p (c - j)).AG↔0<=s/\s<(Bl p.AJ:Int)/\Cp (AS p) s=((c - j:Nat):Int)):=fun j hj=>by
  have hcl:p.AJ[c - j - 3]? =some (JW p (c - j)):=by
   rw[JW,DL,Cw (by omega)];rfl
  have:=SU p.AJ 0 0 s hsl (by omega) (c - j - 3) _ hcl;rw[this];simp only[Int.sub_zero,Int.zero_add,Cp,AS];constructor
  .rintro⟨h1,h2,h3⟩;exact⟨h1,h2,by rw[h3];omega⟩
  .rintro⟨h1,h2,h3⟩;exact⟨h1,h2,by rw[h3];omega⟩
 constructor
 .rintro⟨j,h1,h2,h3⟩
  obtain⟨h4,h5,h6⟩:=(hown j h1).1 h3;refine⟨h4,h5,by omega,?_⟩;rw[h6];simp only[VF,F1,BD,CD];exact .inr (.inr ⟨by omega,by simpa[AS]using h2⟩)
 .rintro⟨h1,h2,h3,h4⟩
  have hmem:Cp (AS p) s∈BM 0 p.AJ:=by
   have hlen:s.toNat<(BM 0 p.AJ).length:=by rw[CU];omega
   have:Cp (AS p) s=(BM 0 p.AJ)[s.toNat]:=by
    simp only[Cp,AS,DL,Cw hlen];rfl
   rw[this];exact List.getElem_mem hlen
  have hb:=F9 hmem
  have hup:KD (Ax p) c (Cp (AS p) s).toNat=true:=by
   simp only[VF,F1,BD,CD,EZ]at h4;rcases h4 with h4|h4|⟨_,h4⟩
   .rw[<-h4,JC];exact Hf ho c
   .omega
   .simpa[AS]using h4
  have hle:=fq ho _ _ hup;refine⟨c - (Cp (AS p) s).toNat,by omega,?_,?_⟩
  .rw[show c - (c - (Cp (AS p) s).toNat)=(Cp (AS p) s).toNat by omega]
   exact hup
  .refine(hown _ (by omega)).2 ⟨h1,h2,by omega⟩
def jT {Z:AE}:A6 zP 198 [.b false] Z fun r Z'=>r= .Bd Dp/\Z'=Z:=by
 refine gp kZ ?_;refine zz ?_;(repeat clear U K);repeat intro K U
 exact DJ ⟨rfl,rfl⟩
def Cm {x:Bool} {Z:AE} {k kp:V->AE->Prop} (h1:x=true->k (.t []) Z) (h2:x=false->kp Dp Z):A6 zP 198 [.b x] Z (qk k kp):=by
 cases x
 .refine A6.mono jT ?_
  rintro r Z' ⟨rfl,rfl⟩;exact h2 rfl
 .exact jS.use (h1 rfl)
def Fv:Int->List RJ->Bool
 | _,[]=>true
 | n,c::r=>decide (c.AG.length<=4)&&(Ld n c.AG&&Fv (n+c.AG.length) r)
def Pq: ∀(cs:List RJ) (n:Int),Cj n cs=(Fv n cs&&cs.all fun c=>decide (c.parents.length<=3))
 | [],_=>rfl
 | c::r,n=>by
   simp only[Cj,Fv,KK];rw[Pq r];cases decide (c.AG.length<=4)<;>cases decide (c.parents.length<=3)<;>cases Ld n c.AG<;>simp
def SG: ∀(cs:List RJ) (n:Int),Fv n cs=true->Bl cs<=4*cs.length
 | [],_,_=>I3 _
 | c::r,n,h=>by
   simp only[Fv,BD,CD]at h;have:=SG r _ h.2.2;simp only[Bl,E8,List.sum_cons,JD]at *;omega
def WI {p:Prog} (h:Dh (Ax p)=true):(p.AJ.all fun c=>decide (c.parents.length<=3))=true:=by
 rw[Er];intro c hc;obtain⟨i,hi⟩:=List.getElem?_of_mem hc;have:=(Ds h).2 i c.parents (by rw[Ax,Mu,hi];rfl);exact decide_eq_true this.1
def Qx (p:Prog):A8 p=(decide (p.AJ.length<=10)&&(Fv 0 p.AJ&&((Bl p.AJ:Int)==p.AG&&(Dh (Ax p)&&GQ (AS p) (Bl p.AJ) 0 p.AJ)))):=by
 rw[A8,Pq];cases hg:Dh (Ax p)
 .simp
 .rw[WI hg,Bool.and_true]
abbrev xn (p:Prog):R->AE->Prop:=fun r Z'=> ∃post:List At,(r=(if A8 p then R.ret (.t [])else R.Bd Dp)/\post= [])/\Sat Z' post
def Xg {p:Prog} {Z:AE} (h:A8 p=false):Ah Z Dp (xn p):=DJ ⟨_,⟨by rw[h];rfl,rfl⟩,Sat.nil⟩
def clsT {p:Prog} {Z:AE} {l:List At} (hs:Sat Z l) (h:A8 p=true):Ar Z (.t []) (xn p):=Am hs (Jm _) (.refl _) fun Z' hs'=>⟨_,⟨by rw[h];rfl,rfl⟩,hs'⟩
def Y0 (p : Prog):Be zP 197 [.a (BK p)] [] fun r post=>r=(if A8 p then R.ret (.t [])else R.Bd Dp)/\post= []:=by
 intro Z hs;refine A6.fit (by kernel_rfl) fun hf=>?_
 have hP:=N9 hf.1;have hcl:=hP.1;have hM:=Mx;refine vQ kZ ?_;have hcb:=Qx p;by_cases h10:p.AJ.length<=10
 rotate_left
 .conv=>whnf
  repeat'((first|clear U K|apply st|(apply zk;intro K U)|refine zY ?_|(refine Cm (fun hc=>?_) (fun hc=>?_)<;>(replace hc:=bp hc)<;>(try simp(disch:=omega) only[BL,wrap64,AM]at hc)<;>(try(exfalso;omega)))|fail)<;>conv=>whnf)
  all_goals try(exfalso;omega)
  exact Xg (by rw[hcb];simp[h10])
 rw[decide_eq_true h10,GJ]at hcb
 conv=>whnf
 repeat'((first|clear U K|apply st|(apply zk;intro K U)|refine zY ?_|(refine Cm (fun hc=>?_) (fun hc=>?_)<;>(replace hc:=bp hc)<;>(try simp(disch:=omega) only[BL,wrap64,AM]at hc)<;>(try(exfalso;omega)))|fail)<;>conv=>whnf)
 all_goals try(exfalso;omega)
 refine By p.AJ.length (fun k (n:Int)=>[(2,eI n),(24,eI (A9 k))]) (fun _ _=>[]) (fun k n=>Fv 0 p.AJ=Fv n (p.AJ.drop k)/\0<=n/\n+Bl (p.AJ.drop k)=Bl p.AJ/\n<=4*k) 0 rfl (by simp) hs ?_;clear hs;rintro k n Z hk ⟨hn,hn0,hn1,hn2⟩ hs;rcases A3 p.AJ hk with⟨c,hc,hlt⟩|hke
 .have hcm:=(hP.2 c (Bz hc)).2.1
  have hms:n+(c.AG.length:Int)+Bl (p.AJ.drop (k+1))=Bl p.AJ:=by
   rw[drop_cons hc]at hn1;simp only[Bl,E8,List.sum_cons]at hn1 ⊢;omega
  rw[drop_cons hc,Fv]at hn;by_cases h4:c.AG.length<=4
  .rw [decide_eq_true h4,GJ]at hn
   conv=>whnf
   repeat'((first|clear U K|apply st|(apply zk;intro K U)|refine zY ?_|refine zs fun Z hs=>?_|(refine Cm (fun hc=>?_) (fun hc=>?_)<;>(replace hc:=bp hc)<;>(try simp(disch:=omega) only[BL,wrap64,AM]at hc)<;>(try(exfalso;omega)))|refine zo fun nn hnn Z hs=>?_|fail)<;>conv=>whnf)
   all_goals try(exfalso;omega)
   refine By c.AG.length (fun j (m:Int)=>[(2,eI m),(36,eI (A9 j))]) (fun _ _=>[]) (fun j m=>Fv 0 p.AJ=(Ld m (c.AG.drop j)&&Fv (n+c.AG.length) (p.AJ.drop (k+1)))/\m=n+j) n rfl ⟨hn,by simp⟩ (hs.take 0) ?_;clear hs hn;rintro j m Z hj ⟨hm,he⟩ hs;rcases A3 c.AG hj with⟨x,hx,hjlt⟩|hje
   .rw[drop_cons hx,Ld]at hm
    conv=>whnf
    repeat'((first|clear U K|apply st|(apply zk;intro K U)|refine zY ?_|(refine Cm (fun hc=>?_) (fun hc=>?_)<;>(replace hc:=bp hc))|fail)<;>conv=>whnf)
    .rw[wrap64 (by omega) (by omega)]
     rw[hc,beq_self_eq_true,GJ]at hm;exact⟨hjlt,_,rfl,⟨by rw[<-hc];rw[<-hc]at hm;exact hm,by omega⟩,hs⟩
    .exact Xg (by rw[hcb,hm];simp[hc])
   .rw[Al hje,Ld,GJ]at hm
    refine zz ?_;(repeat clear U K);repeat intro K U
    exact⟨hlt,m,rfl,⟨by rw[hm];congr 1;omega,by omega,by omega,by omega⟩,hs⟩
  .conv=>whnf
   repeat'((first|clear U K|apply st|(apply zk;intro K U)|refine zY ?_|refine zs fun Z hs=>?_|(refine Cm (fun hc=>?_) (fun hc=>?_)<;>(replace hc:=bp hc)<;>(try simp(disch:=omega) only[BL,wrap64,AM]at hc)<;>(try(exfalso;omega)))|refine zo fun nn hnn Z hs=>?_|fail)<;>conv=>whnf)
   all_goals try(exfalso;omega)
   exact Xg (by rw[hcb,hn];simp[h4])
 .have hne:n=Bl p.AJ:=by rw[Al hke]at hn1;simpa[Bl]using hn1
  rw[Al hke]at hn;have hsp:Fv 0 p.AJ=true:=hn;have hml:=SG _ _ hsp;rw[hsp,GJ,<-hne]at hcb;cases hgd:Dh (Ax p)
  .rw[hgd]at hcb
   have hck:=WZ (Ax p) false;rw[hgd,if_neg (by decide)]at hck;have hcF:A8 p=false:=by rw[hcb];simp
   conv=>whnf
   repeat'((first|clear U K|apply st|(apply zk;intro K U)|refine zY ?_|(refine Cm (fun hc=>?_) (fun hc=>?_)<;>(replace hc:=bp hc)<;>(try simp(disch:=omega) only[BL,wrap64,AM]at hc)<;>(try(exfalso;omega))<;>(try(cases hc;done)))|refine Pure.use (MT _ (by omega)) ?_|refine Pure.use (by assumption) ?_|refine za (fun hc=>?_) fun hc=>?_|fail)<;>conv=>whnf)
   all_goals exact Xg hcF
  .have hck:=WZ (Ax p) false
   rw[hgd,if_pos rfl]at hck;rw[hgd,GJ]at hcb;by_cases hps:n=p.AG
   .rw [hps,beq_self_eq_true,GJ,<-hps]at hcb
    have hslB:Cj 0 p.AJ=true:=by rw[Pq,hsp,WI hgd];rfl
    have hG:=Ds hgd;have ho:=Nl hG;have hgl:(Ax p).length=p.AJ.length:=by simp[Ax]
    conv=>whnf
    repeat'((first|clear U K|apply st|(apply zk;intro K U)|refine zY ?_|(refine Cm (fun hc=>?_) (fun hc=>?_)<;>(replace hc:=bp hc)<;>(try simp(disch:=omega) only[BL,wrap64,AM]at hc)<;>(try(exfalso;omega)))|refine Pure.use (MT _ (by omega)) ?_|refine Pure.use (by assumption) ?_|(refine zb (fun hc=>?_) (fun hc=>?_)<;>try exact⟨⟩)|fail)<;>conv=>whnf)
    refine By p.AJ.length (fun k (_:Unit)=>[(63,eI (A9 k))]) (fun _ _=>[]) (fun k _=>A8 p=GQ (AS p) n k (p.AJ.drop k)) () rfl hcb hs ?_;clear hs;rintro i - Z hi hn' hs;rcases A3 p.AJ hi with⟨c,hc,hilt⟩|hie
    .rw [drop_cons hc,GQ]at hn'
     have hci:A9 i=i:=AM (by omega);have hw3:IntKind.i64.wrap (A9 i+3)=(i:Int)+3:=by rw[hci,wrap64 (by omega) (by omega)]
     have hlin:=sI (Ax p) false ((i:Int)+3) hgd (by omega) (by omega);have hinl:=(hP.2 c (Bz hc)).2.2;have hlb:lW (AS p).parents ((i:Int)+3)= !((B3 (Ax p)).getD ((i:Int)+3).toNat []).isEmpty:=rfl;cases hem:((B3 (Ax p)).getD ((i:Int)+3).toNat []).isEmpty
     .rw [hem]at hlb
      rw[hlb,Bool.not_false,GJ]at hn';rw[hem,if_neg (by decide),<-hw3]at hlin;have hhas:=sW p (i+3) h10 hslB hgd (by omega) (by omega);have hmh:=jU hslB ho (show 3<=i+3 by omega) (show i+3<3+p.AJ.length by omega);have ei3:((i+3:Nat):Int)=(i:Int)+3:=by omega
      rw[ei3,<-hw3]at hhas;rw[ei3]at hmh;generalize (D5 p (i+3) (i+3 - 2)).mergeSort HO=mine at *
      conv=>whnf
      repeat'((first|clear U K|apply st|(apply zk;intro K U)|refine zY ?_|refine zs fun Z hs=>?_|(refine Cm (fun hc=>?_) (fun hc=>?_)<;>(replace hc:=bp hc)<;>(try simp(disch:=omega) only[BL,wrap64,AM]at hc)<;>(try(exfalso;omega)))|refine Pure.use (by assumption) ?_|refine zo fun nn hnn Z hs=>?_|fail)<;>conv=>whnf)
      generalize nn=mm at *;replace hs:Sat Z [.map mm (TJ [])]:=hs.take 1;refine By c.inits.length (fun j (_:List Int)=>[(86,eI (A9 j))]) (fun _ M=>[.map mm (TJ M)]) (fun j M=>A8 p=(D6 (AS p) ((i:Int)+3) n (c.inits.take j) (c.inits.drop j)&&GQ (AS p) n (i+1) (p.AJ.drop (i+1)))/\ ∀s,M.contains s=(c.inits.take j).any fun y=>y.1==s) [] rfl ⟨hn',fun s=>rfl⟩ hs ?_;clear hs;rintro j M Z hj ⟨hm,hMs⟩ hs;rcases A3 c.inits hj with⟨x,hx,hjlt⟩|hje
      .have hpa:((c.inits.take j).all fun y=>y.1 != x.1)= !M.contains x.1:=by
        rw[hMs,List.all_eq_not_any_not];congr 2;funext y;simp[bne]
       have hst:A8 p=((mine.contains x.1&&(!M.contains x.1&&Tb x.2))&&(D6 (AS p) ((i:Int)+3) n (c.inits.take (j+1)) (c.inits.drop (j+1))&&GQ (AS p) n (i+1) (p.AJ.drop (i+1)))):=by
        rw[hm,drop_cons hx,D6,hpa,hmh,<-hne,AL hx];cases decide (0<=x.1)<;>cases decide (x.1<n)<;>cases hasB (AS p) ((i:Int)+3) x.1<;>cases Tb x.2<;>cases M.contains x.1<;>simp
       have hMs': ∀s,(PC M x.1).contains s=(c.inits.take (j+1)).any fun y=>y.1==s:=fun s=>by
        rw[Vz,hMs,AL hx,List.any_append];simp only[Q7,List.any_nil,Bool.or_false];congr 1;rw[KO];simp;exact eq_comm
       have hct:=Dt mine false x.1;have hbt:=Q1 x.2;clear hmh hpa hMs hm;cases eA:mine.contains x.1<;>cases eB:M.contains x.1<;>cases eD:Tb x.2<;>rw[eA]at hct<;>rw[eD]at hbt<;>rw[eA,eB,eD]at hst
       all_goals
        conv=>whnf
        repeat'((first|clear U K|apply st|(apply zk;intro K U)|refine zY ?_|refine zs fun Z hs=>?_|(refine Cm (fun hc=>?_) (fun hc=>?_)<;>(replace hc:=bp hc)<;>(try simp(disch:=omega) only[BL,wrap64,AM]at hc)<;>(try(cases hc;done)))|refine qY eB ?_|refine zx (fun Z hs=>?_)|refine Pure.use (by assumption) ?_|refine zo fun nn hnn Z hs=>?_|fail)<;>conv=>whnf)
       all_goals first
        | exact⟨hjlt,_,rfl,⟨hst,hMs'⟩,hs.less (LW _ _)⟩
        | exact Xg (by rw[hst];rfl)
      .rw[Al hje,D6,GJ]at hm
       refine zz ?_;(repeat clear U K);repeat intro K U
       exact⟨hilt,(),rfl,hm,hs.take 0⟩
     .rw[hem]at hlb
      rw[hem,if_pos rfl,<-hw3]at hlin;have hcF:A8 p=false:=by rw[hn',hlb];rfl
      conv=>whnf
      repeat'((first|clear U K|apply st|(apply zk;intro K U)|refine zY ?_|refine zs fun Z hs=>?_|(refine Cm (fun hc=>?_) (fun hc=>?_)<;>(replace hc:=bp hc)<;>(try(exfalso;omega)))|refine Pure.use (by assumption) ?_|refine zo fun nn hnn Z hs=>?_|fail)<;>conv=>whnf)
      all_goals exact Xg hcF
    .refine zz ?_;(repeat clear U K);repeat intro K U
     exact clsT hs (by rw[hn',Al hie];rfl)
   .have hcF:A8 p=false:=by rw[hcb];simp[hps]
    conv=>whnf
    repeat'((first|clear U K|apply st|(apply zk;intro K U)|refine zY ?_|(refine Cm (fun hc=>?_) (fun hc=>?_)<;>(replace hc:=bp hc)<;>(try simp(disch:=omega) only[BL,wrap64,AM]at hc)<;>(try(cases hc;done)))|refine Pure.use (MT _ (by omega)) ?_|(refine zb (fun hc=>?_) (fun hc=>?_)<;>try exact⟨⟩)|fail)<;>conv=>whnf)
    all_goals exact Xg hcF
def cF (f : Fact):R0 f=true->Pure zP 205 [.a (xF f)] (eI (GS f)):=by
 induction f using Fact.ind with
 | h f ih=>
   intro ha;refine Pure.fit (by kernel_rfl) fun hf=>?_
   have⟨h2,h3,h4⟩:=KZ hf.1;have hM:=Mx;rw[QF]at ha;simp only[BD,CD,List.all_map,Er]at ha;refine vJ kZ ?_;have hs:=Sn;by_cases hlf:B8 f=true
   .have hlo:=F5 hlf
    have hw:IntKind.i64.wrap (f.arg+1)=f.arg+1:=wrap64 (by omega) (by omega)
    conv=>whnf
    repeat'((first|clear U K|apply st|(apply zk;intro K U)|refine zY ?_|(refine zb (fun hc=>?_) (fun hc=>?_)<;>try exact⟨⟩)|fail)<;>conv=>whnf)
    all_goals try(exfalso;omega)
    all_goals
     refine By f.kids.length (fun k (_:Unit)=>[(3,eI (((f.kids.take k).map GS).foldl KH (if B8 f then f.arg+1 else 0))),(25,eI (A9 k))]) (fun _ _=>[]) (fun _ _=>True) () (by rw[hw,if_pos hlf];rfl) trivial hs ?_;clear hs;rintro k - Z hk - hs;rcases A3 f.kids hk with⟨x,hx,hlt⟩|hke
     .have hxs:=ih x (Bz hx) (ha.2 x (Bz hx))
      conv=>whnf
      repeat'((first|clear U K|apply st|(apply zk;intro K U)|refine zY ?_|refine zs fun Z hs=>?_|refine zC ?_|refine zo fun nn hnn Z hs=>?_|fail)<;>conv=>whnf)
      exact⟨hlt,(),by rw[Ga _ _ _ hx];rfl,trivial,hs.take 0⟩
     .refine zz ?_;(repeat clear U K);repeat intro K U
      exact AF (by rw[Ap hke,<-J3])
   .have hlo:f.op≠2/\f.op≠3/\f.op≠4:=by
     simp only[B8,F1,EZ]at hlf;omega
    conv=>whnf
    repeat'((first|clear U K|apply st|(apply zk;intro K U)|refine zY ?_|(refine zb (fun hc=>?_) (fun hc=>?_)<;>try exact⟨⟩)|fail)<;>conv=>whnf)
    all_goals try(exfalso;omega)
    all_goals
     refine By f.kids.length (fun k (_:Unit)=>[(3,eI (((f.kids.take k).map GS).foldl KH (if B8 f then f.arg+1 else 0))),(25,eI (A9 k))]) (fun _ _=>[]) (fun _ _=>True) () (by rw[if_neg hlf];rfl) trivial hs ?_;clear hs;rintro k - Z hk - hs;rcases A3 f.kids hk with⟨x,hx,hlt⟩|hke
     .have hxs:=ih x (Bz hx) (ha.2 x (Bz hx))
      conv=>whnf
      repeat'((first|clear U K|apply st|(apply zk;intro K U)|refine zY ?_|refine zs fun Z hs=>?_|refine zC ?_|refine zo fun nn hnn Z hs=>?_|fail)<;>conv=>whnf)
      exact⟨hlt,(),by rw[Ga _ _ _ hx];rfl,trivial,hs.take 0⟩
     .refine zz ?_;(repeat clear U K);repeat intro K U
      exact AF (by rw[Ap hke,<-J3])
def cV (p:Prog) (x:Node) (size:Int):Pure zP 201 [.a (BK p),.a (Iw x),eI size] (.b (M0 p x size)):=by
 refine Pure.fit (by kernel_rfl) fun hf=>?_
 have⟨p1,p2,p3,p4⟩:=Ev hf.1;have hM:=Mx;have hw:IntKind.i64.wrap (3+((p.AJ.map PG).length:Nat))=3+(p.AJ.length:Int):=by rw[BL,wrap64 (by omega) (by omega)]
 refine vN kZ ?_;have hs:=Sn
 conv=>whnf
 repeat'((first|clear U K|apply st|(apply zk;intro K U)|refine zY ?_|refine Pure.use (Q1 _) ?_|refine za (fun hc=>?_) fun hc=>?_|fail)<;>conv=>whnf)
 all_goals first
  | (refine AF ?_;simp[M0, *];done)
  | (refine AF ?_;simp[M0, *];omega)
  | (refine AF ?_;rw[hw];simp[M0, *];done)
  | (refine AF ?_;congr 1;rw[KO];simp[M0, *];omega)
def r9 (n:Nat) (hn:n<=120):Pure zP 227 [.i .u64 1,eU n] (.t [.i .u64 0,eU n]):=by
 refine vF kZ ?_;have hs:=Sn
 conv=>whnf
 repeat'((first|clear U K|apply st|(apply zk;intro K U)|refine zY ?_|refine⟨(by decide:(0:Int)<=_),?_⟩|fail)<;>conv=>whnf)
 have ea: ∀m:Nat,m<=120->bits .and .u64 (m:Int) 4294967295=(m:Int):=fun m hm=>by
  have:=MW (a:=m) (b:=4294967295) (by omega) (by decide)
  have e:m&&&4294967295=m:=by
   have:=Nat.and_two_pow_sub_one_eq_mod m 32;rw[show 2 ^ 32 - 1=4294967295 from rfl]at this;rw[this];omega
  rw[e]at this;exact this
 have e0:=ea 0 (by omega);have e1:=ea 1 (by omega);have en:=ea n hn
 have ef: ∀m:Nat,m<=120->(m:Int).fdiv (2 ^ min (Int.toNat 32) IntKind.u64.bits)=0:=fun m hm=>by
  have:=Zd (a:=m) (c:=32) (by decide);rw[show(Int.toNat 32)=32 from rfl,this,Nat.shiftRight_eq_div_pow];have:m / 2 ^ 32=0:=Nat.div_eq_of_lt (by omega);rw[this];rfl
 have f0:=ef 0 (by omega);have f1:=ef 1 (by omega);have fn:=ef n hn;have w0:IntKind.u64.wrap 0=0:=rfl;have wn:IntKind.u64.wrap (n:Int)=n:=Hg (by omega);simp only[Int.natCast_zero,Int.natCast_one,Int.cast_ofNat_Int]at e0 e1 f0 f1;simp only[e0,e1,en,f0,f1,fn,w0,wn,Int.zero_mul,Int.mul_zero,Int.zero_add,Int.add_zero,Int.one_mul];exact AF rfl
def sA (n:Nat) (hn:n<=120):Pure zP 159 [.i .u64 1,eU n] (.t [.i .u64 0,eU n]):=by
 refine wB kZ ?_;have hs:=Sn
 conv=>whnf
 repeat'((first|clear U K|apply st|(apply zk;intro K U)|refine Pure.use (r9 n hn) ?_|fail)<;>conv=>whnf)
 all_goals exact AF rfl
def Rv (op:Int):V:=
 if op=5 then .E9 272 (.a [])else
 if op=1\/op=2\/op=3\/op=6\/op=18 then .E9 271 (eI 0)else
 if op=4\/op=8\/op=17 then .E9 271 (eI 1)else
 if op=7\/op=9\/op=11\/op=12\/op=13\/op=14\/op=15\/op=16 then .E9 271 (eI 2)else
 if op=10 then .E9 271 (eI 3)else .De
def cu (op:Int):Pure zP 202 [eI op] (Rv op):=by
 refine vM kZ ?_;have hs:=Sn
 conv=>whnf
 repeat'((first|clear U K|apply st|(apply zk;intro K U)|refine zY ?_|refine za (fun hc=>?_) fun hc=>?_|fail)<;>conv=>whnf)
 all_goals exact AF (by simp[Rv, *])
def x4 (n:Int) (p:Prog) (x:Node):Pure zP 431 [eI n,.a (BK p),.a (Iw x)] (eI n):=by
 refine su kZ ?_;have hs:=Sn;exact zW
def oZ (p:Prog) (x:Node) (h0:0<=x.n) (h1:x.n<p.CW.length):Pure zP 432 [.a [],.a (BK p),.a (Iw x)] (eI (p.CW.getD x.n.toNat 0)):=by
 refine Pure.fit (by kernel_rfl) fun hf=>?_
 have⟨p1,p2,p3,p4⟩:=Ev hf.2.1
 have hx:p.CW[x.n.toNat]? =some (p.CW.getD x.n.toNat 0):=by
  rw[DL,Cw (by omega)];rfl
 refine ss kZ ?_;have hs:=Sn;exact zW
def FM (p:Prog) (next:Bool) (n size depth:Int) (s:List Int):Option (List Int):=
 if n<0\/(p.nodes.length:Int)<=n\/0<=s.getD n.toNat 0\/12<depth then none else
 match p.nodes[n.toNat]? with
 | none=>none
 | some x=>if D4 p next size x then some (s.set n.toNat size)else none
def er {S:Type}:Option S->Rd S
 | some s=> .go s
 | none=> .Bd Dp
abbrev z8 (y:Int×Int×Int):List V:=[eI y.1,.a [eI y.2.1,eI y.2.2]]
abbrev hOut (nO:Nat) (v:V) (s:List Int):List At:=[.box nO [v],.own v 1 (iL s)]
abbrev dP (p:Prog) (y:Int×Int×Int) (s:List Int):Prop:=0<=y.2.1/\y.2.1<=100/\1<=y.2.2/\y.2.2<=13/\s.length=p.nodes.length
abbrev Xi (p:Prog) (L nW:Nat):V:= .f (.func 265) [] [.rp [.f (.yield L) [] []],.rp (BK p),.p nW 0]
def YC {p:Prog} {next:Bool} {n size depth:Int} {s s':List Int} (h:FM p next n size depth s=some s'):0<=n/\n<(p.nodes.length:Int)/\s.getD n.toNat 0<0/\depth<=12/\ ∃x,p.nodes[n.toNat]? =some x/\D4 p next size x=true/\s'=s.set n.toNat size:=by
 unfold FM at h;split at h
 .cases h
 .rename_i hc
  split at h
  .cases h
  .rename_i x hx
   split at h
   .rename_i hok
    simp only[HR]at h;exact⟨by omega,by omega,by omega,by omega,x,hx,hok,h.symm⟩
   .cases h
def YB {p:Prog} {next:Bool} {d:Nat} {n size depth:Int} {s:List Int} (hd:depth=13 - (d+1:Nat)) (hd1:1<=depth):CK p next (d+1) n size s=match FM p next n size depth s with
    | none=>none
    | some s'=>match p.nodes[n.toNat]? with
      | none=>none
      | some x=>Fl (CK p next d) x.op size 0 x.kids s':=by
 unfold FM;simp only[CK];by_cases h:n<0\/(p.nodes.length:Int)<=n\/0<=s.getD n.toNat 0
 .rw[if_pos h,if_pos (by omega)]
 .rw[if_neg h,if_neg (by omega)]
  cases hx:p.nodes[n.toNat]? with
  | none=>rfl
  | some x=>
    simp only;split
    .rfl
    .rfl
def YD {p:Prog} {next:Bool} {n size depth:Int} {s:List Int} (hd:12<depth):FM p next n size depth s=none:=by
 unfold FM;rw[if_pos (by omega)]
def Se {f:Int->Int->List Int->Option (List Int)} (hf: ∀ {a b s s'},f a b s=some s'->s'.length=s.length) {op size:Int}: ∀(i:Nat) (l:List Int) {s s':List Int},Fl f op size i l s=some s'->s'.length=s.length
 | _,[],s,s',h=>by cases h;rfl
 | i,k::r,s,s',h=>by
   simp only[Fl]at h;split at h
   .cases h
   .rename_i s1 h1
    exact(Se hf (i+1) r h).trans (hf h1)
def J1 {p:Prog} {next:Bool}: ∀(d:Nat) {n size:Int} {s s':List Int},CK p next d n size s=some s'->s'.length=s.length
 | 0,_,_,_,_,h=>by cases h
 | d + 1,n,size,s,s',h=>by
   simp only[CK]at h;split at h
   .cases h
   .split at h
    .cases h
    .split at h
     .exact(Se (fun h=>J1 d h) 0 _ h).trans (by simp)
     .cases h
def ly (p : Prog) (next:Bool) {L:Nat} {E:Env} {ok:FuncId->Array Tmp->Code->Code->Nat->Prop} {v:V} {nO:Nat}
    (hY:NO zP L E ok z8 (hOut nO v) (fun s=>s.length=p.nodes.length) (fun y s=>er (FM p next y.1 y.2.1 y.2.2 s)) (dP p)) :
    ∀ d : Nat,d<=12-> ∀(n size depth:Int) (s:List Int),depth=13 - d->0<=size->size+d<=100->s.length=p.nodes.length-> ∀(nW:Nat) (rest:List At) (Z:AE),
      Sat Z (.obj L (.loop .ready E ok)::(hOut nO v s++(.box nW [Xi p L nW]::rest)))->
      A6 zP 265 [eI n,.a [eI size,eI depth],.rp [.f (.yield L) [] []],.rp (BK p),.p nW 0] Z
       (lO L E ok (hOut nO v) (fun s=>s.length=p.nodes.length) (.box nW [Xi p L nW]::rest) (.b true) (.b false) (er (CK p next d n size s))):=by
 intro d
 induction d with
 | zero=>
   intro _ n size depth s hd h0 h1 hl nW rest Z hs;refine gk kZ ?_;refine zz ?_;(repeat clear U K);repeat intro K U
   refine hY.use (y:=(n,size,depth)) (s:=s) ⟨h0,(by dsimp only;omega),(by dsimp only;omega),(by dsimp only;omega),hl⟩ hs ?_;rw[YD (by dsimp only;omega)];rintro r Z' ⟨rfl,s',hj,hs'⟩
   conv=>whnf
   repeat'((first|clear U K|apply st|fail)<;>conv=>whnf)
   exact DJ ⟨rfl,s',hj,hs'⟩
 | succ d ih =>
   intro hd12 n size depth s hd h0 h1 hl nW rest Z hs;refine A6.fit (by kernel_rfl) fun hf=>?_
   have hM:=Mx
   have hfp:Eu (.a (BK p)):=by
    have:=hf.2.2.2.1;simp only[UR]at this;simpa only[GV]using this
   have⟨p1,p2,p3,p4⟩:=Ev hfp;refine gk kZ ?_;refine zz ?_;(repeat clear U K);repeat intro K U
   refine hY.use (y:=(n,size,depth)) (s:=s) ⟨h0,(by dsimp only;omega),(by dsimp only;omega),(by dsimp only;omega),hl⟩ hs ?_;have hw:=YB (p:=p) (next:=next) (n:=n) (size:=size) (s:=s) hd (by omega);cases hv:FM p next n size depth s with
   | none=>
     rw[hv]at hw;rintro r Z' ⟨rfl,s',hj,hs'⟩
     conv=>whnf
     repeat'((first|clear U K|apply st|fail)<;>conv=>whnf)
     refine DJ ?_;rw[hw];exact⟨rfl,s',hj,hs'⟩
   | some s1 =>
     obtain⟨g0,g1,g2,g3,x,hx,hok,hs1⟩:=YC hv;rw[hv]at hw;simp only[hx]at hw;have hl1:s1.length=p.nodes.length:=by rw[hs1];simpa using hl
     have hkm:=gY hfp (Bz hx);clear hv hs1;rintro r Z1 ⟨rfl,hs⟩;refine zz ?_;(repeat clear U K);repeat intro K U
     refine By x.kids.length (fun k (_:List Int)=>[(23,eI (A9 k))]) (fun _ s'=> .obj L (.loop .ready E ok)::(hOut nO v s'++(.box nW [Xi p L nW]::rest))) (fun k s'=>s'.length=p.nodes.length/\CK p next (d+1) n size s=Fl (CK p next d) x.op size k (x.kids.drop k) s') s1 rfl ⟨hl1,by simpa using hw⟩ hs ?_;clear hs hw;rintro k s' Z hk ⟨hl',hkids⟩ hs;rcases A3 x.kids hk with⟨kid,hkid,hlt⟩|hke
     .have hck:A9 k=k:=AM (by omega)
      rw[drop_cons hkid,Fl]at hkids;have e0:IntKind.i64.wrap (depth+1)=depth+1:=wrap64 (by omega) (by omega);have e1:IntKind.i64.wrap (size+1)=size+1:=wrap64 (by omega) (by omega)
      have hrec: ∀(sz:Int) (Z:AE) (l:List At),0<=sz->sz+d<=100->Sat Z (l++(.obj L (.loop .ready E ok)::(hOut nO v s'++(.box nW [Xi p L nW]::rest))))->Ay zP (Xi p L nW) [eI kid,.a [eI sz,eI (depth+1)]] Z
       (lO L E ok (hOut nO v) (fun s=>s.length=p.nodes.length) (.box nW [Xi p L nW]::rest) (.b true) (.b false) (er (CK p next d kid sz s'))):=fun sz Z l h0 h1 hs=>
       Bh (ih (by omega) kid sz (depth+1) s' (by omega) h0 h1 hl' nW rest Z (hs.less (List.sublist_append_right _ _)))
      conv=>whnf
      repeat'((first|clear U K|apply st|(apply zk;intro K U)|refine zY ?_|refine zs fun Z hs=>?_|(refine zd (fun hc=>?_) (fun hc=>?_)<;>try exact⟨⟩)|refine zo fun nn hnn Z hs=>?_|fail)<;>conv=>whnf)
      all_goals
       simp only[e0,e1]
       first
        | rw[if_pos (by omega)]at hkids
          refine(hrec (size+1) _ [_] (by omega) (by omega) hs).mono ?_
        | rw[if_neg (by omega)]at hkids
          refine(hrec size _ [_] (by omega) (by omega) hs).mono ?_
       cases hw:CK p next d kid _ s' with
       | none=>
         rw[hw]at hkids;rintro r Z' ⟨rfl,s',hj,hs'⟩
         conv=>whnf
         repeat'((first|clear U K|apply st|fail)<;>conv=>whnf)
         refine DJ ?_;rw[hkids];exact⟨rfl,s',hj,hs'⟩
       | some s2=>
         rw[hw]at hkids;rintro r Z' ⟨rfl,hs'⟩;refine zz ?_;(repeat clear U K);repeat intro K U
         exact⟨hlt,s2,rfl,⟨(J1 _ hw).trans hl',hkids⟩,hs'⟩
     .rw[Al hke,Fl]at hkids
      refine zz ?_;(repeat clear U K);repeat intro K U
      refine AU ?_;rw[hkids];exact⟨rfl,hs⟩
end Go.Gl
