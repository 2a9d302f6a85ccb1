import Derived.Test.YtinppljblkpedaaGreatU14
import Derived.Test.YtinppljblkpedaaGreatU15
import Derived.Test.YtinppljblkpedaaGreatU18
import Derived.Test.YtinppljblkpedaaGreatU19
import Derived.Test.YtinppljblkpedaaGreatU20
import Derived.Test.YtinppljblkpedaaGreatU21
import Derived.Test.YtinppljblkpedaaGreatU24
import Derived.Test.YtinppljblkpedaaGreatU28
set_option linter.all false
set_option linter.defProp false
set_option maxHeartbeats 8000000
noncomputable section
namespace Go.Gl
open Go.Proofs
attribute [local irreducible] As Ag AY AQ AL AX AP AR AK AW AM AN Ai Ap Sat AT An AZ W
def lkK {Z:AE} {l:List At} {i mm:Nat} {M:List Int} {k:Int} {K:V->Prop} (hk:K (.b (M.contains k))) (h:Sat Z l:=by assumption)
    (hi:l[i]? =some (.map mm (Te M)):=by first|exact Ro|exact Rn|exact Rm|exact Rl|exact Rk|exact Rj):AM Z (.i .i64) (.b false) false (.m mm) (eI k) K:=
 Hc h i hi rfl (IP M) (by rw[My];exact hk)
def msK {Z:AE} {l:List At} {i mm:Nat} {M:List Int} {k:Int} {K:AE->Prop} (hk: ∀Z',Sat Z' (l.set i (.map mm (Te (H7 M k))))->K Z') (h:Sat Z l:=by assumption)
    (hi:l[i]? =some (.map mm (Te M)):=by first|exact Ro|exact Rn|exact Rm|exact Rl|exact Rk|exact Rj):AN Z (.i .i64) (.m mm) (eI k) (.b true) K:=
 Hb h i hi rfl (IP M) (fun Z' hs=>hk Z' (by rw[aw]at hs;exact hs))
def Jv (p:Prog) (c:Nat):Rp:=p.AO.getD (c - 3) default
def ER (p:Prog) (c:Nat):Nat->List Int
 | 0=>[]
 | k+1=>if FQ (Ay p) c (c - k)then ER p c k++(Jv p (c - k)).AI else ER p c k
def tE {ps:List (List Int)} (ho:ordered ps) {n c:Nat} (hc:c<n) (k:Nat): ∀p∈par ps (c - k),0<=p/\p.toNat<(H2 ps n c k).length/\p.toNat<c - k:=fun p hp=>by
 have:=ho _ _ hp;rw[MV];omega
def V0 {ps:List (List Int)} (ho:ordered ps) {n c:Nat} (hc:c<n) (k b:Nat):(H2 ps n c (k+1)).getD b false=((H2 ps n c k).getD b false||((H2 ps n c k).getD (c - k) false&&(par ps (c - k)).contains (b:Int))):=by
 rw[H2,N1 _ _ (tE ho hc k)]
def V1 {ps:List (List Int)} (ho:ordered ps) {n c:Nat} (hc:c<n) (k:Nat): ∀(m:Nat) (b:Nat),c - k<=b->(H2 ps n c (k+m)).getD b false=(H2 ps n c k).getD b false
 | 0,_,_=>rfl
 | m + 1,b,h=>by
   rw[<-Nat.add_assoc,V0 ho hc,V1 ho hc k m b h]
   have:(par ps (c - (k+m))).contains (b:Int)=false:=by
    cases hb:(par ps (c - (k+m))).contains (b:Int)
    .rfl
    .have:=ho _ _ (List.contains_iff_mem.1 hb)
     omega
   rw[this,Bool.and_false,Bool.or_false]
def gk {ps:List (List Int)} (ho:ordered ps) {n c:Nat} (hc:c<n) {k:Nat} (hk:k<=c - 2):(H2 ps n c k).getD (c - k) false=FQ ps c (c - k):=by
 rw[<-Z2 ho hc (c - k),<-V1 ho hc k (c - 2 - k) (c - k) (Ft _)];congr 2;omega
def RP (b:Int): ∀(l M:List Int),(l.foldl H7 M).contains b=(M.contains b||l.contains b)
 | [],M=>by simp
 | x::r,M=>by
   rw[List.foldl_cons,RP b r,QM,List.contains_cons,Bool.or_assoc]
def sG {Z:AE} {l:List At} {i mm:Nat} {M:List Int} {k:Int} {b:Bool} {K:V->Prop} (e:M.contains k=b) (hk:K (.b b)) (h:Sat Z l:=by assumption)
    (hi:l[i]? =some (.map mm (Te M)):=by first|exact Ro|exact Rn|exact Rm|exact Rl|exact Rk|exact Rj):AM Z (.i .i64) (.b false) false (.m mm) (eI k) K:=lkK (e ▸ hk) h hi
def uD (p : Prog) (c:Nat) (h10:p.AO.length<=10) (hsl:Ck 0 p.AO=true) (hg:Dv (Ay p)=true) (hc3:3<=c) (hc:c<3+p.AO.length) :
    Pure zP 225 [.a (BF p),eI c] (.l (iL ((ER p c (c - 2)).mergeSort H0)) false):=by
 refine Pure.fit (by kernel_rfl) fun hf=>?_
 have hP:=JM hf.1;have hM:=Mx;have hG:=D6 hg;have ho:=N4 hG;have hgl:(Ay p).length=p.AO.length:=by simp[Ay]
 refine wN kZ ?_;have hs:=Sn
 conv=>whnf
 repeat'((first|clear U K|apply st|(apply zk;intro K U)|refine zo fun nn hnn Z hs=>?_|fail)<;>conv=>whnf)
 replace hs:Sat Z [.map nn (Te [])]:=hs
 conv=>whnf
 repeat'((first|clear U K|apply st|(apply zk;intro K U)|refine msK (fun Z hs=>?_)|fail)<;>conv=>whnf)
 generalize nn=mm at *;replace hs:Sat Z [.map mm (Te [(c:Int)])]:=hs
 refine B4 (c - 2) (fun k (x:List Int×V)=>[(6,x.2),(7,eI ((c:Int) - k))]) (fun k x=>[.own x.2 1 (iL (ER p c k)),.map mm (Te x.1)])
  (fun k x=>(∀b:Nat,b<3+(Ay p).length->x.1.contains (b:Int)=(H2 (Ay p) (3+(Ay p).length) c k).getD b false)/\((Bi x.2).isSome=true\/(x.2= .l [] true/\ER p c k= []))/\(ER p c k).length<=4*k) ([(c:Int)],.l [] true) ?_ ⟨?_,.inr ⟨rfl,rfl⟩,by simp[ER]⟩ (Ch hs 1) ?_
 .simp[Pe,get]
  exact⟨rfl,rfl,rfl⟩
 .intro b hb
  simp only[H2];rw[FK (by simp;omega)];by_cases hbc:b=c
  .subst hbc;simp
  .rw[if_neg hbc]
   have:((c:Int)==(b:Int))=false:=by simp;omega
   simp[Cq,List.getElem?_replicate];split<;>simp<;>omega
 clear hs;rintro k ⟨M,v⟩ Z hk ⟨hMb,hv,hml⟩ hs;dsimp only at hMb hv hs;rcases Nat.lt_or_ge k (c - 2)with hlt|hge
 .have hkc:M.contains ((c:Int) - k)=FQ (Ay p) c (c - k):=by
   have:=hMb (c - k) (by omega);rw[gk ho (by omega) (by omega)]at this;rw[<-this];congr 1;omega
  have hcl:p.AO[(IntKind.i64.wrap ((c:Int) - k - 3)).toNat]? =some (Jv p (c - k)):=by
   rw[wrap64 (by omega) (by omega),show((c:Int) - k - 3).toNat=c - k - 3 by omega,Jv,Cq,Cd (by omega)];rfl
  have hwi:0<=IntKind.i64.wrap ((c:Int) - k - 3):=by rw[wrap64 (by omega) (by omega)];omega
  have hw1:IntKind.i64.wrap ((c:Int) - k - 1)=(c:Int) - (k+1:Nat):=by rw[wrap64 (by omega) (by omega)];omega
  have hmt:ER p c (k+1)=if FQ (Ay p) c (c - k)then ER p c k++(Jv p (c - k)).AI else ER p c k:=rfl
  have hpar:(Jv p (c - k)).parents=par (Ay p) (c - k):=by
   unfold par Jv Ay;rw[if_neg (by omega),Cq,Cq,LY,Cd (by omega)];rfl
  have hcm:=hP.2 _ (B6 hcl);have hs4:=((Fj _ _ hsl).2 _ (B6 hcl)).2;have hst:=fun b=>V0 ho (show c<3+(Ay p).length by omega) k b
  rw[gk ho (by omega) (by omega),<-hpar]at hst;generalize Jv p (c - k)=cl at *;cases hb:FQ (Ay p) c (c - k)
  .rw[hb]at hkc hmt hst
   rw[if_neg (by decide)]at hmt
   conv=>whnf
   repeat'((first|clear U K|apply st|(apply zk;intro K U)|refine zY ?_|refine sG hkc ?_|(refine zb (fun hc=>?_) (fun hc=>?_)<;>try exact⟨⟩)|fail)<;>conv=>whnf)
   all_goals try(exfalso;omega)
   rw[hw1];exact⟨hlt,(M,v),rfl,⟨fun b hb=>by rw[hMb b hb,hst b];simp,by rw[hmt];exact hv,by rw[hmt];omega⟩,by rw[hmt];exact hs⟩
  .rw [hb] at hkc hmt hst
   rw[if_pos rfl]at hmt
   conv=>whnf
   repeat'((first|clear U K|apply st|(apply zk;intro K U)|refine zY ?_|refine sG hkc ?_|(refine zb (fun hc=>?_) (fun hc=>?_)<;>try exact⟨⟩)|fail)<;>conv=>whnf)
   all_goals try(exfalso;omega)
   refine Xe (JI hs 0 rfl (by omega) Cs fun v' Z hs hv'=>?_);rw[<-hmt]at hs;refine zz ?_;(repeat clear U K);repeat intro K U
   refine B4 cl.parents.length (fun j (_:List Int)=>[(38,eI (A7 j))]) (fun _ M=>[.own v' 1 (iL (ER p c (k+1))),.map mm (Te M)]) (fun j M'=>M'=(cl.parents.take j).foldl H7 M) M rfl rfl hs ?_;clear hs;rintro j M' Z hj hM' hs;rcases A9 cl.parents hj with⟨q,hq,hjlt⟩|hje
   .conv=>whnf
    repeat'((first|clear U K|apply st|(apply zk;intro K U)|refine zY ?_|refine msK (fun Z hs=>?_)|fail)<;>conv=>whnf)
    exact⟨hjlt,_,rfl,by rw[AU hq,List.foldl_append,<-hM'];rfl,hs⟩
   .rw [BA hje]at hM'
    refine zz ?_;(repeat clear U K);repeat intro K U
    rw[hw1];refine⟨hlt,(M',v'),rfl,⟨fun b hb=>?_,?_,?_⟩,hs⟩
    .rw[hM',RP,hMb b hb,hst b,Cc]
    .rcases hv' with hv'|⟨rfl,he⟩
     .exact .inl hv'
     .rcases hv with hv|⟨hv,hm0⟩
      .exact .inl hv
      .refine .inr ⟨hv,?_⟩
       rw[hmt,hm0,List.map_eq_nil_iff.1 he];rfl
    .rw[hmt,HQ];omega
 .have hkk:k=c - 2:=by omega
  rw[hkk]at hs hv hml;clear hMb
  conv=>whnf
  repeat'((first|clear U K|apply st|(apply zk;intro K U)|refine zY ?_|(refine zb (fun hc=>?_) (fun hc=>?_)<;>try exact⟨⟩)|fail)<;>conv=>whnf)
  all_goals try(exfalso;omega)
  refine(fu hv).use (rest:=[_]) hs ?_;clear hs;rintro r post Z ⟨rfl,rfl⟩ hs
  conv=>whnf
  repeat'((first|clear U K|apply st|(apply zk;intro K U)|fail)<;>conv=>whnf)
  refine(QA _ v (by rw[List.length_mergeSort];omega)).use (rest:=[_]) hs ?_;clear hs;rintro r post Z ⟨rfl,rfl⟩ hs;refine zz ?_;(repeat clear U K);repeat intro K U
  exact Af OQ
def RF {p : Prog} {c:Nat} (s:Int): ∀k,s∈ER p c k↔ ∃j,j<k/\FQ (Ay p) c (c - j)=true/\s∈(Jv p (c - j)).AI
 | 0=>by simp[ER]
 | k + 1 =>by
   rw[ER];have ih:=RF (p:=p) (c:=c) s k;constructor
   .intro h
    split at h
    .rename_i hu
     rcases Dn.1 h with h|h
     .obtain⟨j,h1,h2⟩:=ih.1 h
      exact⟨j,by omega,h2⟩
     .exact⟨k,by omega,hu,h⟩
    .obtain⟨j,h1,h2⟩:=ih.1 h
     exact⟨j,by omega,h2⟩
   .rintro⟨j,h1,h2,h3⟩
    by_cases hj:j=k
    .subst hj
     rw[if_pos h2];exact Dn.2 (.inr h3)
    .have:=ih.2 ⟨j,by omega,h2,h3⟩
     split
     .exact Dn.2 (.inl this)
     .exact this
def WE: ∀(l:List Int) (n s:Int),MF n l=true->(s∈l↔n<=s/\s<n+l.length)
 | [],n,s,_=>by simp<;>omega
 | x::r,n,s,h=>by
   simp only[MF,A4,CF]at h;obtain⟨rfl,h⟩:=h;have:=WE r (x+1) s h;rw[Ep,this,HH];omega
def St: ∀(cs:List Rp) (i:Nat) (n s:Int),Ck n cs=true->0<=n-> ∀(j:Nat) (c:Rp),cs[j]? =some c->(s∈c.AI↔n<=s/\s<n+(Br cs:Int)/\(BN i cs).getD (s - n).toNat 0=((i+j:Nat):Int)+3)
 | [],_,_,_,_,_,_,_,h=>by cases h
 | d ::r,i,n,s,h,h0,j,c,hj=>by
   simp only[Ck,A4,B7]at h;obtain⟨-,-,hq,hr⟩:=h;have hm:=WE d.AI n s hq;have hml:(Br (d::r):Int)=d.AI.length+Br r:=by simp[Br]
   have hgd:n<=s->(BN i (d::r)).getD (s - n).toNat 0=if s<n+d.AI.length then(i:Int)+3 else(BN (i+1) r).getD (s - (n+d.AI.length)).toNat 0:=fun hns=>by
    simp only[BN,Cq];split
    .rw[X1 (by simp;omega),List.getElem?_replicate,if_pos (by omega)]
     rfl
    .rw[List.getElem?_append_right (by simp;omega)]
     congr 2;simp;omega
   have hout: ∀q,q∈BN (i+1) r->(3:Int)+((i+1:Nat):Int)<=q:=fun q hq=>(GV hq).1
   cases j with
   | zero=>
     simp at hj;subst hj;rw[hm,hml];constructor
     .rintro⟨h1,h2⟩
      refine⟨h1,by omega,?_⟩;rw[hgd h1,if_pos h2];simp
     .rintro⟨h1,h2,h3⟩
      refine⟨h1,?_⟩;rw[hgd h1]at h3;by_cases hlt:s<n+d.AI.length
      .exact hlt
      .rw[if_neg hlt,Cq]at h3
       have hlen:(s - (n+d.AI.length)).toNat<(BN (i+1) r).length:=by rw[CV];omega
       rw[Cd hlen]at h3;have:=hout _ (List.getElem_mem hlen);simp at h3;omega
   | succ j=>
     simp at hj;have ih:=St r (i+1) (n+d.AI.length) s hr (by omega) j c hj;rw[ih,hml];constructor
     .rintro⟨h1,h2,h3⟩
      refine⟨by omega,by omega,?_⟩;rw[hgd (by omega),if_neg (by omega),h3];omega
     .rintro⟨h1,h2,h3⟩
      rw[hgd h1]at h3;by_cases hlt:s<n+d.AI.length
      .rw[if_pos hlt]at h3;omega
      .rw[if_neg hlt]at h3
       exact⟨by omega,by omega,by rw[h3];omega⟩
def lE {p:Prog} {c:Nat} (hsl:Ck 0 p.AO=true) (ho:ordered (Ay p)) (hc3:3<=c) (hc:c<3+p.AO.length) (s:Int) :
    ((ER p c (c - 2)).mergeSort H0).contains s=(decide (0<=s)&&(decide (s<(Br p.AO:Int))&&hasB (AH p) (c:Int) s)):=by
 rw[Hl,List.contains_iff_mem,(List.mergeSort_perm _ H0).mem_iff,RF];simp only[A4,B7,hasB]
 have hown: ∀j,j<c - 2->(s∈(Jv p (c - j)).AI↔0<=s/\s<(Br p.AO:Int)/\BG (AH p) s=((c - j:Nat):Int)):=fun j hj=>by
  have hcl:p.AO[c - j - 3]? =some (Jv p (c - j)):=by
   rw[Jv,Cq,Cd (by omega)];rfl
  have:=St p.AO 0 0 s hsl (by omega) (c - j - 3) _ hcl;rw[this];simp only[Int.sub_zero,Int.zero_add,BG,AH];constructor
  .rintro⟨h1,h2,h3⟩;exact⟨h1,h2,by rw[h3];omega⟩
  .rintro⟨h1,h2,h3⟩;exact⟨h1,h2,by rw[h3];omega⟩
 constructor
 .rintro⟨j,h1,h2,h3⟩
  obtain⟨h4,h5,h6⟩:=(hown j h1).1 h3;refine⟨h4,h5,by omega,?_⟩;rw[h6];simp only[Gn,EW,A4,B7];exact .inr (.inr ⟨by omega,by simpa[AH]using h2⟩)
 .rintro⟨h1,h2,h3,h4⟩
  have hmem:BG (AH p) s∈BN 0 p.AO:=by
   have hlen:s.toNat<(BN 0 p.AO).length:=by rw[CV];omega
   have:BG (AH p) s=(BN 0 p.AO)[s.toNat]:=by
    simp only[BG,AH,Cq,Cd hlen];rfl
   rw[this];exact List.getElem_mem hlen
  have hb:=GV hmem
  have hup:FQ (Ay p) c (BG (AH p) s).toNat=true:=by
   simp only[Gn,EW,A4,B7,CF]at h4;rcases h4 with h4|h4|⟨_,h4⟩
   .rw[<-h4,GR];exact Cl ho c
   .omega
   .simpa[AH]using h4
  have hle:=gl ho _ _ hup;refine⟨c - (BG (AH p) s).toNat,by omega,?_,?_⟩
  .rw[show c - (c - (BG (AH p) s).toNat)=(BG (AH p) s).toNat by omega]
   exact hup
  .refine(hown _ (by omega)).2 ⟨h1,h2,by omega⟩
def lD {Z:AE}:As zP 239 [.b false] Z fun r Z'=>r= .C3 D2/\Z'=Z:=by
 refine ir kZ ?_;refine zz ?_;(repeat clear U K);repeat intro K U
 exact DX ⟨rfl,rfl⟩
def Cr {x:Bool} {Z:AE} {k kp:V->AE->Prop} (h1:x=true->k (.t []) Z) (h2:x=false->kp D2 Z):As zP 239 [.b x] Z (qk k kp):=by
 cases x
 .refine As.mono lD ?_
  rintro r Z' ⟨rfl,rfl⟩;exact h2 rfl
 .exact lC.use (h1 rfl)
def GH:Int->List Rp->Bool
 | _,[]=>true
 | n,c::r=>decide (c.AI.length<=4)&&(MF n c.AI&&GH (n+c.AI.length) r)
def QK: ∀(cs:List Rp) (n:Int),Ck n cs=(GH n cs&&cs.all fun c=>decide (c.parents.length<=3))
 | [],_=>rfl
 | c::r,n=>by
   simp only[Ck,GH,Ri];rw[QK r];cases decide (c.AI.length<=4)<;>cases decide (c.parents.length<=3)<;>cases MF n c.AI<;>simp
def Sf: ∀(cs:List Rp) (n:Int),GH n cs=true->Br cs<=4*cs.length
 | [],_,_=>Ft _
 | c::r,n,h=>by
   simp only[GH,A4,B7]at h;have:=Sf r _ h.2.2;simp only[Br,CK,List.sum_cons,HH]at *;omega
def Wm {p:Prog} (h:Dv (Ay p)=true):(p.AO.all fun c=>decide (c.parents.length<=3))=true:=by
 rw[Cu];intro c hc;obtain⟨i,hi⟩:=List.getElem?_of_mem hc;have:=(D6 h).2 i c.parents (by rw[Ay,LY,hi];rfl);exact decide_eq_true this.1
def RX (p:Prog):BE p=(decide (p.AO.length<=10)&&(GH 0 p.AO&&((Br p.AO:Int)==p.AI&&(Dv (Ay p)&&Gr (AH p) (Br p.AO) 0 p.AO)))):=by
 rw[BE,QK];cases hg:Dv (Ay p)
 .simp
 .rw[Wm hg,Bool.and_true]
abbrev yz (p:Prog):R->AE->Prop:=fun r Z'=> ∃post:List At,(r=(if BE p then R.ret (.t [])else R.C3 D2)/\post= [])/\Sat Z' post
def YB {p:Prog} {Z:AE} (h:BE p=false):AY Z D2 (yz p):=DX ⟨_,⟨by rw[h];rfl,rfl⟩,Sat.nil⟩
def clsT {p:Prog} {Z:AE} {l:List At} (hs:Sat Z l) (h:BE p=true):Ag Z (.t []) (yz p):=Au hs (Oq _) (.refl _) fun Z' hs'=>⟨_,⟨by rw[h];rfl,rfl⟩,hs'⟩
def ZZ (p : Prog):BL zP 238 [.a (BF p)] [] fun r post=>r=(if BE p then R.ret (.t [])else R.C3 D2)/\post= []:=by
 intro Z hs;refine As.fit (by kernel_rfl) fun hf=>?_
 have hP:=JM hf.1;have hcl:=hP.1;have hM:=Mx;refine wK kZ ?_;have hcb:=RX p;by_cases h10:p.AO.length<=10
 rotate_left
 .conv=>whnf
  repeat'((first|clear U K|apply st|(apply zk;intro K U)|refine zY ?_|(refine Cr (fun hc=>?_) (fun hc=>?_)<;>(replace hc:=bp hc)<;>(try simp(disch:=omega) only[Bc,wrap64,AS]at hc)<;>(try(exfalso;omega)))|fail)<;>conv=>whnf)
  all_goals try(exfalso;omega)
  exact YB (by rw[hcb];simp[h10])
 rw[decide_eq_true h10,Cc]at hcb
 conv=>whnf
 repeat'((first|clear U K|apply st|(apply zk;intro K U)|refine zY ?_|(refine Cr (fun hc=>?_) (fun hc=>?_)<;>(replace hc:=bp hc)<;>(try simp(disch:=omega) only[Bc,wrap64,AS]at hc)<;>(try(exfalso;omega)))|fail)<;>conv=>whnf)
 all_goals try(exfalso;omega)
 refine B4 p.AO.length (fun k (n:Int)=>[(2,eI n),(24,eI (A7 k))]) (fun _ _=>[]) (fun k n=>GH 0 p.AO=GH n (p.AO.drop k)/\0<=n/\n+Br (p.AO.drop k)=Br p.AO/\n<=4*k) 0 rfl (by simp) hs ?_;clear hs;rintro k n Z hk ⟨hn,hn0,hn1,hn2⟩ hs;rcases A9 p.AO hk with⟨c,hc,hlt⟩|hke
 .have hcm:=(hP.2 c (B6 hc)).2.1
  have hms:n+(c.AI.length:Int)+Br (p.AO.drop (k+1))=Br p.AO:=by
   rw[drop_cons hc]at hn1;simp only[Br,CK,List.sum_cons]at hn1 ⊢;omega
  rw[drop_cons hc,GH]at hn;by_cases h4:c.AI.length<=4
  .rw [decide_eq_true h4,Cc]at hn
   conv=>whnf
   repeat'((first|clear U K|apply st|(apply zk;intro K U)|refine zY ?_|refine zs fun Z hs=>?_|(refine Cr (fun hc=>?_) (fun hc=>?_)<;>(replace hc:=bp hc)<;>(try simp(disch:=omega) only[Bc,wrap64,AS]at hc)<;>(try(exfalso;omega)))|refine zo fun nn hnn Z hs=>?_|fail)<;>conv=>whnf)
   all_goals try(exfalso;omega)
   refine B4 c.AI.length (fun j (m:Int)=>[(2,eI m),(36,eI (A7 j))]) (fun _ _=>[]) (fun j m=>GH 0 p.AO=(MF m (c.AI.drop j)&&GH (n+c.AI.length) (p.AO.drop (k+1)))/\m=n+j) n rfl ⟨hn,by simp⟩ (hs.take 0) ?_;clear hs hn;rintro j m Z hj ⟨hm,he⟩ hs;rcases A9 c.AI hj with⟨x,hx,hjlt⟩|hje
   .rw[drop_cons hx,MF]at hm
    conv=>whnf
    repeat'((first|clear U K|apply st|(apply zk;intro K U)|refine zY ?_|(refine Cr (fun hc=>?_) (fun hc=>?_)<;>(replace hc:=bp hc))|fail)<;>conv=>whnf)
    .rw[wrap64 (by omega) (by omega)]
     rw[hc,beq_self_eq_true,Cc]at hm;exact⟨hjlt,_,rfl,⟨by rw[<-hc];rw[<-hc]at hm;exact hm,by omega⟩,hs⟩
    .exact YB (by rw[hcb,hm];simp[hc])
   .rw[Aj hje,MF,Cc]at hm
    refine zz ?_;(repeat clear U K);repeat intro K U
    exact⟨hlt,m,rfl,⟨by rw[hm];congr 1;omega,by omega,by omega,by omega⟩,hs⟩
  .conv=>whnf
   repeat'((first|clear U K|apply st|(apply zk;intro K U)|refine zY ?_|refine zs fun Z hs=>?_|(refine Cr (fun hc=>?_) (fun hc=>?_)<;>(replace hc:=bp hc)<;>(try simp(disch:=omega) only[Bc,wrap64,AS]at hc)<;>(try(exfalso;omega)))|refine zo fun nn hnn Z hs=>?_|fail)<;>conv=>whnf)
   all_goals try(exfalso;omega)
   exact YB (by rw[hcb,hn];simp[h4])
 .have hne:n=Br p.AO:=by rw[Aj hke]at hn1;simpa[Br]using hn1
  rw[Aj hke]at hn;have hsp:GH 0 p.AO=true:=hn;have hml:=Sf _ _ hsp;rw[hsp,Cc,<-hne]at hcb;cases hgd:Dv (Ay p)
  .rw[hgd]at hcb
   have hck:=W6 (Ay p) false;rw[hgd,if_neg (by decide)]at hck;have hcF:BE p=false:=by rw[hcb];simp
   conv=>whnf
   repeat'((first|clear U K|apply st|(apply zk;intro K U)|refine zY ?_|(refine Cr (fun hc=>?_) (fun hc=>?_)<;>(replace hc:=bp hc)<;>(try simp(disch:=omega) only[Bc,wrap64,AS]at hc)<;>(try(exfalso;omega))<;>(try(cases hc;done)))|refine Pure.use (M3 _ (by omega)) ?_|refine Pure.use (by assumption) ?_|refine za (fun hc=>?_) fun hc=>?_|fail)<;>conv=>whnf)
   all_goals exact YB hcF
  .have hck:=W6 (Ay p) false
   rw[hgd,if_pos rfl]at hck;rw[hgd,Cc]at hcb;by_cases hps:n=p.AI
   .rw [hps,beq_self_eq_true,Cc,<-hps]at hcb
    have hslB:Ck 0 p.AO=true:=by rw[QK,hsp,Wm hgd];rfl
    have hG:=D6 hgd;have ho:=N4 hG;have hgl:(Ay p).length=p.AO.length:=by simp[Ay]
    conv=>whnf
    repeat'((first|clear U K|apply st|(apply zk;intro K U)|refine zY ?_|(refine Cr (fun hc=>?_) (fun hc=>?_)<;>(replace hc:=bp hc)<;>(try simp(disch:=omega) only[Bc,wrap64,AS]at hc)<;>(try(exfalso;omega)))|refine Pure.use (M3 _ (by omega)) ?_|refine Pure.use (by assumption) ?_|(refine zb (fun hc=>?_) (fun hc=>?_)<;>try exact⟨⟩)|fail)<;>conv=>whnf)
    refine B4 p.AO.length (fun k (_:Unit)=>[(63,eI (A7 k))]) (fun _ _=>[]) (fun k _=>BE p=Gr (AH p) n k (p.AO.drop k)) () rfl hcb hs ?_;clear hs;rintro i - Z hi hn' hs;rcases A9 p.AO hi with⟨c,hc,hilt⟩|hie
    .rw [drop_cons hc,Gr]at hn'
     have hci:A7 i=i:=AS (by omega);have hw3:IntKind.i64.wrap (A7 i+3)=(i:Int)+3:=by rw[hci,wrap64 (by omega) (by omega)]
     have hlin:=tq (Ay p) false ((i:Int)+3) hgd (by omega) (by omega);have hinl:=(hP.2 c (B6 hc)).2.2;have hlb:nG (AH p).parents ((i:Int)+3)= !((B9 (Ay p)).getD ((i:Int)+3).toNat []).isEmpty:=rfl;cases hem:((B9 (Ay p)).getD ((i:Int)+3).toNat []).isEmpty
     .rw [hem]at hlb
      rw[hlb,Bool.not_false,Cc]at hn';rw[hem,if_neg (by decide),<-hw3]at hlin;have hhas:=uD p (i+3) h10 hslB hgd (by omega) (by omega);have hmh:=lE hslB ho (show 3<=i+3 by omega) (show i+3<3+p.AO.length by omega);have ei3:((i+3:Nat):Int)=(i:Int)+3:=by omega
      rw[ei3,<-hw3]at hhas;rw[ei3]at hmh;generalize (ER p (i+3) (i+3 - 2)).mergeSort H0=mine at *
      conv=>whnf
      repeat'((first|clear U K|apply st|(apply zk;intro K U)|refine zY ?_|refine zs fun Z hs=>?_|(refine Cr (fun hc=>?_) (fun hc=>?_)<;>(replace hc:=bp hc)<;>(try simp(disch:=omega) only[Bc,wrap64,AS]at hc)<;>(try(exfalso;omega)))|refine Pure.use (by assumption) ?_|refine zo fun nn hnn Z hs=>?_|fail)<;>conv=>whnf)
      generalize nn=mm at *;replace hs:Sat Z [.map mm (Te [])]:=hs.take 1;refine B4 c.inits.length (fun j (_:List Int)=>[(86,eI (A7 j))]) (fun _ M=>[.map mm (Te M)]) (fun j M=>BE p=(ES (AH p) ((i:Int)+3) n (c.inits.take j) (c.inits.drop j)&&Gr (AH p) n (i+1) (p.AO.drop (i+1)))/\ ∀s,M.contains s=(c.inits.take j).any fun y=>y.1==s) [] rfl ⟨hn',fun s=>rfl⟩ hs ?_;clear hs;rintro j M Z hj ⟨hm,hMs⟩ hs;rcases A9 c.inits hj with⟨x,hx,hjlt⟩|hje
      .have hpa:((c.inits.take j).all fun y=>y.1 != x.1)= !M.contains x.1:=by
        rw[hMs,List.all_eq_not_any_not];congr 2;funext y;simp[bne]
       have hst:BE p=((mine.contains x.1&&(!M.contains x.1&&Tq x.2))&&(ES (AH p) ((i:Int)+3) n (c.inits.take (j+1)) (c.inits.drop (j+1))&&Gr (AH p) n (i+1) (p.AO.drop (i+1)))):=by
        rw[hm,drop_cons hx,ES,hpa,hmh,<-hne,AU hx];cases decide (0<=x.1)<;>cases decide (x.1<n)<;>cases hasB (AH p) ((i:Int)+3) x.1<;>cases Tq x.2<;>cases M.contains x.1<;>simp
       have hMs': ∀s,(H7 M x.1).contains s=(c.inits.take (j+1)).any fun y=>y.1==s:=fun s=>by
        rw[QM,hMs,AU hx,List.any_append];simp only[Rq,List.any_nil,Bool.or_false];congr 1;rw[Hl];simp;exact eq_comm
       have hct:=B3 mine false x.1;have hbt:=Rb x.2;clear hmh hpa hMs hm;cases eA:mine.contains x.1<;>cases eB:M.contains x.1<;>cases eD:Tq x.2<;>rw[eA]at hct<;>rw[eD]at hbt<;>rw[eA,eB,eD]at hst
       all_goals
        conv=>whnf
        repeat'((first|clear U K|apply st|(apply zk;intro K U)|refine zY ?_|refine zs fun Z hs=>?_|(refine Cr (fun hc=>?_) (fun hc=>?_)<;>(replace hc:=bp hc)<;>(try simp(disch:=omega) only[Bc,wrap64,AS]at hc)<;>(try(cases hc;done)))|refine sG eB ?_|refine msK (fun Z hs=>?_)|refine Pure.use (by assumption) ?_|refine zo fun nn hnn Z hs=>?_|fail)<;>conv=>whnf)
       all_goals first
        | exact⟨hjlt,_,rfl,⟨hst,hMs'⟩,hs.less (Gg _ _)⟩
        | exact YB (by rw[hst];rfl)
      .rw[Aj hje,ES,Cc]at hm
       refine zz ?_;(repeat clear U K);repeat intro K U
       exact⟨hilt,(),rfl,hm,hs.take 0⟩
     .rw[hem]at hlb
      rw[hem,if_pos rfl,<-hw3]at hlin;have hcF:BE p=false:=by rw[hn',hlb];rfl
      conv=>whnf
      repeat'((first|clear U K|apply st|(apply zk;intro K U)|refine zY ?_|refine zs fun Z hs=>?_|(refine Cr (fun hc=>?_) (fun hc=>?_)<;>(replace hc:=bp hc)<;>(try(exfalso;omega)))|refine Pure.use (by assumption) ?_|refine zo fun nn hnn Z hs=>?_|fail)<;>conv=>whnf)
      all_goals exact YB hcF
    .refine zz ?_;(repeat clear U K);repeat intro K U
     exact clsT hs (by rw[hn',Aj hie];rfl)
   .have hcF:BE p=false:=by rw[hcb];simp[hps]
    conv=>whnf
    repeat'((first|clear U K|apply st|(apply zk;intro K U)|refine zY ?_|(refine Cr (fun hc=>?_) (fun hc=>?_)<;>(replace hc:=bp hc)<;>(try simp(disch:=omega) only[Bc,wrap64,AS]at hc)<;>(try(cases hc;done)))|refine Pure.use (M3 _ (by omega)) ?_|(refine zb (fun hc=>?_) (fun hc=>?_)<;>try exact⟨⟩)|fail)<;>conv=>whnf)
    all_goals exact YB hcF
def dA (f : Fact):Pz f=true->Pure zP 244 [.a (xF f)] (eI (Cj f)):=by
 induction f using Fact.ind with
 | h f ih=>
   intro ha;refine Pure.fit (by kernel_rfl) fun hf=>?_
   have⟨h2,h3,h4⟩:=JL hf.1;have hM:=Mx;rw[M9]at ha;simp only[A4,B7,List.all_map,Cu]at ha;refine wF kZ ?_;have hs:=Sn;by_cases hlf:Be f=true
   .have hlo:=Fw hlf
    have hw:IntKind.i64.wrap (f.arg+1)=f.arg+1:=wrap64 (by omega) (by omega)
    conv=>whnf
    repeat'((first|clear U K|apply st|(apply zk;intro K U)|refine zY ?_|(refine zb (fun hc=>?_) (fun hc=>?_)<;>try exact⟨⟩)|fail)<;>conv=>whnf)
    all_goals try(exfalso;omega)
    all_goals
     refine B4 f.kids.length (fun k (_:Unit)=>[(3,eI (((f.kids.take k).map Cj).foldl HN (if Be f then f.arg+1 else 0))),(25,eI (A7 k))]) (fun _ _=>[]) (fun _ _=>True) () (by rw[hw,if_pos hlf];rfl) trivial hs ?_;clear hs;rintro k - Z hk - hs;rcases A9 f.kids hk with⟨x,hx,hlt⟩|hke
     .have hxs:=ih x (B6 hx) (ha.2 x (B6 hx))
      conv=>whnf
      repeat'((first|clear U K|apply st|(apply zk;intro K U)|refine zY ?_|refine zs fun Z hs=>?_|refine zC ?_|refine zo fun nn hnn Z hs=>?_|fail)<;>conv=>whnf)
      exact⟨hlt,(),by rw[Ek _ _ _ hx];rfl,trivial,hs.take 0⟩
     .refine zz ?_;(repeat clear U K);repeat intro K U
      exact AG (by rw[BA hke,<-EE])
   .have hlo:f.op≠2/\f.op≠3/\f.op≠4:=by
     simp only[Be,EW,CF]at hlf;omega
    conv=>whnf
    repeat'((first|clear U K|apply st|(apply zk;intro K U)|refine zY ?_|(refine zb (fun hc=>?_) (fun hc=>?_)<;>try exact⟨⟩)|fail)<;>conv=>whnf)
    all_goals try(exfalso;omega)
    all_goals
     refine B4 f.kids.length (fun k (_:Unit)=>[(3,eI (((f.kids.take k).map Cj).foldl HN (if Be f then f.arg+1 else 0))),(25,eI (A7 k))]) (fun _ _=>[]) (fun _ _=>True) () (by rw[if_neg hlf];rfl) trivial hs ?_;clear hs;rintro k - Z hk - hs;rcases A9 f.kids hk with⟨x,hx,hlt⟩|hke
     .have hxs:=ih x (B6 hx) (ha.2 x (B6 hx))
      conv=>whnf
      repeat'((first|clear U K|apply st|(apply zk;intro K U)|refine zY ?_|refine zs fun Z hs=>?_|refine zC ?_|refine zo fun nn hnn Z hs=>?_|fail)<;>conv=>whnf)
      exact⟨hlt,(),by rw[Ek _ _ _ hx];rfl,trivial,hs.take 0⟩
     .refine zz ?_;(repeat clear U K);repeat intro K U
      exact AG (by rw[BA hke,<-EE])
def dZ (p:Prog) (x:Node) (size:Int):Pure zP 242 [.a (BF p),.a (JN x),eI size] (.b (NX p x size)):=by
 refine Pure.fit (by kernel_rfl) fun hf=>?_
 have⟨p1,p2,p3,p4⟩:=Gq hf.1;have hM:=Mx;have hw:IntKind.i64.wrap (3+((p.AO.map MG).length:Nat))=3+(p.AO.length:Int):=by rw[Bc,wrap64 (by omega) (by omega)]
 refine wH kZ ?_;have hs:=Sn
 conv=>whnf
 repeat'((first|clear U K|apply st|(apply zk;intro K U)|refine zY ?_|refine Pure.use (Rb _) ?_|refine za (fun hc=>?_) fun hc=>?_|fail)<;>conv=>whnf)
 all_goals first
  | (refine AG ?_;simp[NX, *];done)
  | (refine AG ?_;simp[NX, *];omega)
  | (refine AG ?_;rw[hw];simp[NX, *];done)
  | (refine AG ?_;congr 1;rw[Hl];simp[NX, *];omega)
def tf (n:Nat) (hn:n<=120):Pure zP 246 [.i .u64 1,eU n] (.t [.i .u64 0,eU n]):=by
 refine wE kZ ?_;have hs:=Sn
 conv=>whnf
 repeat'((first|clear U K|apply st|(apply zk;intro K U)|refine zY ?_|refine⟨(by decide:(0:Int)<=_),?_⟩|fail)<;>conv=>whnf)
 have ea: ∀m:Nat,m<=120->bits .and .u64 (m:Int) 4294967295=(m:Int):=fun m hm=>by
  have:=GA (a:=m) (b:=4294967295) (by omega) (by decide)
  have e:m&&&4294967295=m:=by
   have:=Nat.and_two_pow_sub_one_eq_mod m 32;rw[show 2 ^ 32 - 1=4294967295 from rfl]at this;rw[this];omega
  rw[e]at this;exact this
 have e0:=ea 0 (by omega);have e1:=ea 1 (by omega);have en:=ea n hn
 have ef: ∀m:Nat,m<=120->(m:Int).fdiv (2 ^ min (Int.toNat 32) IntKind.u64.bits)=0:=fun m hm=>by
  have:=UK (a:=m) (c:=32) (by decide);rw[show(Int.toNat 32)=32 from rfl,this,Nat.shiftRight_eq_div_pow];have:m / 2 ^ 32=0:=Nat.div_eq_of_lt (by omega);rw[this];rfl
 have f0:=ef 0 (by omega);have f1:=ef 1 (by omega);have fn:=ef n hn;have w0:IntKind.u64.wrap 0=0:=rfl;have wn:IntKind.u64.wrap (n:Int)=n:=IJ (by omega);simp only[Int.natCast_zero,Int.natCast_one,Int.cast_ofNat_Int]at e0 e1 f0 f1;simp only[e0,e1,en,f0,f1,fn,w0,wn,Int.zero_mul,Int.mul_zero,Int.zero_add,Int.add_zero,Int.one_mul];exact AG rfl
def tg (n:Nat) (hn:n<=120):Pure zP 166 [.i .u64 1,eU n] (.t [.i .u64 0,eU n]):=by
 refine xL kZ ?_;have hs:=Sn
 conv=>whnf
 repeat'((first|clear U K|apply st|(apply zk;intro K U)|refine Pure.use (tf n hn) ?_|fail)<;>conv=>whnf)
 all_goals exact AG rfl
def SP (op:Int):V:=
 if op=5 then .ME 354 (.a [])else
 if op=1\/op=2\/op=3\/op=6\/op=18 then .ME 353 (eI 0)else
 if op=4\/op=8\/op=17 then .ME 353 (eI 1)else
 if op=7\/op=9\/op=11\/op=12\/op=13\/op=14\/op=15\/op=16 then .ME 353 (eI 2)else
 if op=10 then .ME 353 (eI 3)else .K7
def dj (op:Int):Pure zP 243 [eI op] (SP op):=by
 refine wG kZ ?_;have hs:=Sn
 conv=>whnf
 repeat'((first|clear U K|apply st|(apply zk;intro K U)|refine zY ?_|refine za (fun hc=>?_) fun hc=>?_|fail)<;>conv=>whnf)
 all_goals exact AG (by simp[SP, *])
def zB (n:Int) (p:Prog) (x:Node):Pure zP 424 [eI n,.a (BF p),.a (JN x)] (eI n):=by
 refine uQ kZ ?_;have hs:=Sn;exact zW
def qM (p:Prog) (x:Node) (h0:0<=x.n) (h1:x.n<p.Ce.length):Pure zP 425 [.a [],.a (BF p),.a (JN x)] (eI (p.Ce.getD x.n.toNat 0)):=by
 refine Pure.fit (by kernel_rfl) fun hf=>?_
 have⟨p1,p2,p3,p4⟩:=Gq hf.2.1
 have hx:p.Ce[x.n.toNat]? =some (p.Ce.getD x.n.toNat 0):=by
  rw[Cq,Cd (by omega)];rfl
 refine uP kZ ?_;have hs:=Sn;exact zW
def Fg (p:Prog) (next:Bool) (n size depth:Int) (s:List Int):Option (List Int):=
 if n<0\/(p.nodes.length:Int)<=n\/0<=s.getD n.toNat 0\/12<depth then none else
 match p.nodes[n.toNat]? with
 | none=>none
 | some x=>if EP p next size x then some (s.set n.toNat size)else none
def fX {S:Type}:Option S->Rd S
 | some s=> .go s
 | none=> .C3 D2
abbrev eaP (y:Int×Int×Int):List V:=[eI y.1,.a [eI y.2.1,eI y.2.2]]
abbrev hOut (nO:Nat) (v:V) (s:List Int):List At:=[.box nO [v],.own v 1 (iL s)]
abbrev dP (p:Prog) (y:Int×Int×Int) (s:List Int):Prop:=0<=y.2.1/\y.2.1<=100/\1<=y.2.2/\y.2.2<=13/\s.length=p.nodes.length
abbrev YF (p:Prog) (L nW:Nat):V:= .f (.func 306) [] [.rp [.f (.yield L) [] []],.rp (BF p),.p nW 0]
def Ym {p:Prog} {next:Bool} {n size depth:Int} {s s':List Int} (h:Fg p next n size depth s=some s'):0<=n/\n<(p.nodes.length:Int)/\s.getD n.toNat 0<0/\depth<=12/\ ∃x,p.nodes[n.toNat]? =some x/\EP p next size x=true/\s'=s.set n.toNat size:=by
 unfold Fg at h;split at h
 .cases h
 .rename_i hc
  split at h
  .cases h
  .rename_i x hx
   split at h
   .rename_i hok
    simp only[Gh]at h;exact⟨by omega,by omega,by omega,by omega,x,hx,hok,h.symm⟩
   .cases h
def Yl {p:Prog} {next:Bool} {d:Nat} {n size depth:Int} {s:List Int} (hd:depth=13 - (d+1:Nat)) (hd1:1<=depth):CM p next (d+1) n size s=match Fg p next n size depth s with
    | none=>none
    | some s'=>match p.nodes[n.toNat]? with
      | none=>none
      | some x=>F6 (CM p next d) x.op size 0 x.kids s':=by
 unfold Fg;simp only[CM];by_cases h:n<0\/(p.nodes.length:Int)<=n\/0<=s.getD n.toNat 0
 .rw[if_pos h,if_pos (by omega)]
 .rw[if_neg h,if_neg (by omega)]
  cases hx:p.nodes[n.toNat]? with
  | none=>rfl
  | some x=>
    simp only;split
    .rfl
    .rfl
def Yn {p:Prog} {next:Bool} {n size depth:Int} {s:List Int} (hd:12<depth):Fg p next n size depth s=none:=by
 unfold Fg;rw[if_pos (by omega)]
def S0 {f:Int->Int->List Int->Option (List Int)} (hf: ∀ {a b s s'},f a b s=some s'->s'.length=s.length) {op size:Int}: ∀(i:Nat) (l:List Int) {s s':List Int},F6 f op size i l s=some s'->s'.length=s.length
 | _,[],s,s',h=>by cases h;rfl
 | i,k::r,s,s',h=>by
   simp only[F6]at h;split at h
   .cases h
   .rename_i s1 h1
    exact(S0 hf (i+1) r h).trans (hf h1)
def Kq {p:Prog} {next:Bool}: ∀(d:Nat) {n size:Int} {s s':List Int},CM p next d n size s=some s'->s'.length=s.length
 | 0,_,_,_,_,h=>by cases h
 | d + 1,n,size,s,s',h=>by
   simp only[CM]at h;split at h
   .cases h
   .split at h
    .cases h
    .split at h
     .exact(S0 (fun h=>Kq d h) 0 _ h).trans (by simp)
     .cases h
def nZ (p : Prog) (next:Bool) {L:Nat} {E:Env} {ok:FuncId->Array Tmp->Code->Code->Nat->Prop} {v:V} {nO:Nat}
    (hY:No zP L E ok eaP (hOut nO v) (fun s=>s.length=p.nodes.length) (fun y s=>fX (Fg p next y.1 y.2.1 y.2.2 s)) (dP p)) :
    ∀ d : Nat,d<=12-> ∀(n size depth:Int) (s:List Int),depth=13 - d->0<=size->size+d<=100->s.length=p.nodes.length-> ∀(nW:Nat) (rest:List At) (Z:AE),
      Sat Z (.obj L (.loop .ready E ok)::(hOut nO v s++(.box nW [YF p L nW]::rest)))->
      As zP 306 [eI n,.a [eI size,eI depth],.rp [.f (.yield L) [] []],.rp (BF p),.p nW 0] Z
       (mu L E ok (hOut nO v) (fun s=>s.length=p.nodes.length) (.box nW [YF p L nW]::rest) (.b true) (.b false) (fX (CM p next d n size s))):=by
 intro d
 induction d with
 | zero=>
   intro _ n size depth s hd h0 h1 hl nW rest Z hs;refine ic kZ ?_;refine zz ?_;(repeat clear U K);repeat intro K U
   refine hY.use (y:=(n,size,depth)) (s:=s) ⟨h0,(by dsimp only;omega),(by dsimp only;omega),(by dsimp only;omega),hl⟩ hs ?_;rw[Yn (by dsimp only;omega)];rintro r Z' ⟨rfl,s',hj,hs'⟩
   conv=>whnf
   repeat'((first|clear U K|apply st|fail)<;>conv=>whnf)
   exact DX ⟨rfl,s',hj,hs'⟩
 | succ d ih =>
   intro hd12 n size depth s hd h0 h1 hl nW rest Z hs;refine As.fit (by kernel_rfl) fun hf=>?_
   have hM:=Mx
   have hfp:Fc (.a (BF p)):=by
    have:=hf.2.2.2.1;simp only[Un]at this;simpa only[J0]using this
   have⟨p1,p2,p3,p4⟩:=Gq hfp;refine ic kZ ?_;refine zz ?_;(repeat clear U K);repeat intro K U
   refine hY.use (y:=(n,size,depth)) (s:=s) ⟨h0,(by dsimp only;omega),(by dsimp only;omega),(by dsimp only;omega),hl⟩ hs ?_;have hw:=Yl (p:=p) (next:=next) (n:=n) (size:=size) (s:=s) hd (by omega);cases hv:Fg p next n size depth s with
   | none=>
     rw[hv]at hw;rintro r Z' ⟨rfl,s',hj,hs'⟩
     conv=>whnf
     repeat'((first|clear U K|apply st|fail)<;>conv=>whnf)
     refine DX ?_;rw[hw];exact⟨rfl,s',hj,hs'⟩
   | some s1 =>
     obtain⟨g0,g1,g2,g3,x,hx,hok,hs1⟩:=Ym hv;rw[hv]at hw;simp only[hx]at hw;have hl1:s1.length=p.nodes.length:=by rw[hs1];simpa using hl
     have hkm:=iU hfp (B6 hx);clear hv hs1;rintro r Z1 ⟨rfl,hs⟩;refine zz ?_;(repeat clear U K);repeat intro K U
     refine B4 x.kids.length (fun k (_:List Int)=>[(23,eI (A7 k))]) (fun _ s'=> .obj L (.loop .ready E ok)::(hOut nO v s'++(.box nW [YF p L nW]::rest))) (fun k s'=>s'.length=p.nodes.length/\CM p next (d+1) n size s=F6 (CM p next d) x.op size k (x.kids.drop k) s') s1 rfl ⟨hl1,by simpa using hw⟩ hs ?_;clear hs hw;rintro k s' Z hk ⟨hl',hkids⟩ hs;rcases A9 x.kids hk with⟨kid,hkid,hlt⟩|hke
     .have hck:A7 k=k:=AS (by omega)
      rw[drop_cons hkid,F6]at hkids;have e0:IntKind.i64.wrap (depth+1)=depth+1:=wrap64 (by omega) (by omega);have e1:IntKind.i64.wrap (size+1)=size+1:=wrap64 (by omega) (by omega)
      have hrec: ∀(sz:Int) (Z:AE) (l:List At),0<=sz->sz+d<=100->Sat Z (l++(.obj L (.loop .ready E ok)::(hOut nO v s'++(.box nW [YF p L nW]::rest))))->Ai zP (YF p L nW) [eI kid,.a [eI sz,eI (depth+1)]] Z
       (mu L E ok (hOut nO v) (fun s=>s.length=p.nodes.length) (.box nW [YF p L nW]::rest) (.b true) (.b false) (fX (CM p next d kid sz s'))):=fun sz Z l h0 h1 hs=>
       A0 (ih (by omega) kid sz (depth+1) s' (by omega) h0 h1 hl' nW rest Z (hs.less (List.sublist_append_right _ _)))
      conv=>whnf
      repeat'((first|clear U K|apply st|(apply zk;intro K U)|refine zY ?_|refine zs fun Z hs=>?_|(refine zd (fun hc=>?_) (fun hc=>?_)<;>try exact⟨⟩)|refine zo fun nn hnn Z hs=>?_|fail)<;>conv=>whnf)
      all_goals
       simp only[e0,e1]
       first
        | rw[if_pos (by omega)]at hkids
          refine(hrec (size+1) _ [_] (by omega) (by omega) hs).mono ?_
        | rw[if_neg (by omega)]at hkids
          refine(hrec size _ [_] (by omega) (by omega) hs).mono ?_
       cases hw:CM p next d kid _ s' with
       | none=>
         rw[hw]at hkids;rintro r Z' ⟨rfl,s',hj,hs'⟩
         conv=>whnf
         repeat'((first|clear U K|apply st|fail)<;>conv=>whnf)
         refine DX ?_;rw[hkids];exact⟨rfl,s',hj,hs'⟩
       | some s2=>
         rw[hw]at hkids;rintro r Z' ⟨rfl,hs'⟩;refine zz ?_;(repeat clear U K);repeat intro K U
         exact⟨hlt,s2,rfl,⟨(Kq _ hw).trans hl',hkids⟩,hs'⟩
     .rw[Aj hke,F6]at hkids
      refine zz ?_;(repeat clear U K);repeat intro K U
      refine AJ ?_;rw[hkids];exact⟨rfl,hs⟩
end Go.Gl
