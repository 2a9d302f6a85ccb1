import Derived.Test.YtijbpgdmpejgoaaGreatU12
set_option linter.all false
set_option linter.defProp false
noncomputable section
namespace Go.Gl
open Go.Proofs
attribute [local irreducible] BJ A2 Ak AW AM Aj AV AX AN Ai AR AU A5 BF Sat Ad BD Al W
def w7 {σ:AH} {l:List At} {i mm:Nat} {M:List Int} {k:Int} {K:V→Prop} (hk:K (.b (M.contains k))) (h:Sat σ l:=by assumption)
    (hi:l[i]? =some (.map mm (Qy M)):=by first|exact Pk|exact Pj|exact Ph|exact Pg|exact Pf|exact Pe):AR σ (.i .i64) (.b false) false (.m mm) (eI k) K:=
 JD h i hi rfl (HZ M) (by rw[Ky];exact hk)
def uX {σ:AH} {l:List At} {i mm:Nat} {M:List Int} {k:Int} {K:AH→Prop} (hk: ∀σ',Sat σ' (l.set i (.map mm (Qy (NQ M k))))→K σ') (h:Sat σ l:=by assumption)
    (hi:l[i]? =some (.map mm (Qy M)):=by first|exact Pk|exact Pj|exact Ph|exact Pg|exact Pf|exact Pe):AU σ (.i .i64) (.m mm) (eI k) (.b true) K:=
 Hy h i hi rfl (HZ M) (fun σ' hs=>hk σ' (by rw[WX]at hs;exact hs))
def Iu (p:Prog) (c:Nat):PJ:=p.AP.getD (c - 3) default
def D8 (p:Prog) (c:Nat):Nat→List Int
 | 0=>[]
 | k+1=>if JR (A6 p) c (c - k)then D8 p c k++(Iu p (c - k)).AT else D8 p c k
def iY {ps:List (List Int)} (ho:ordered ps) {n c:Nat} (hc:c<n) (k:Nat): ∀p∈par ps (c - k),0≤p∧p.toNat<(HB ps n c k).length∧p.toNat<c - k:=fun p hp=>by
 have:=ho _ _ hp;rw[Kf];omega
def Ss {ps:List (List Int)} (ho:ordered ps) {n c:Nat} (hc:c<n) (k b:Nat):(HB ps n c (k+1)).getD b false=((HB ps n c k).getD b false||((HB ps n c k).getD (c - k) false&&(par ps (c - k)).contains (b:Int))):=by
 rw[HB,L5 _ _ (iY ho hc k)]
def St {ps:List (List Int)} (ho:ordered ps) {n c:Nat} (hc:c<n) (k:Nat): ∀(m:Nat) (b:Nat),c - k≤b→(HB ps n c (k+m)).getD b false=(HB ps n c k).getD b false
 | 0,_,_=>rfl
 | m + 1,b,h=>by
   rw[←Nat.add_assoc,Ss ho hc,St ho hc k m b h]
   have:(par ps (c - (k+m))).contains (b:Int)=false:=by
    cases hb:(par ps (c - (k+m))).contains (b:Int)
    ·rfl
    ·have:=ho _ _ (List.contains_iff_mem.1 hb)
     omega
   rw[this,Bool.and_false,Bool.or_false]
def ZO {ps:List (List Int)} (ho:ordered ps) {n c:Nat} (hc:c<n) {k:Nat} (hk:k≤c - 2):(HB ps n c k).getD (c - k) false=JR ps c (c - k):=by
 rw[←V2 ho hc (c - k),←St ho hc k (c - 2 - k) (c - k) (JT _)];congr 2;omega
def Oz (b:Int): ∀(l M:List Int),(l.foldl NQ M).contains b=(M.contains b||l.contains b)
 | [],M=>by simp
 | x::r,M=>by
   rw[List.foldl_cons,Oz b r,S9,List.contains_cons,Bool.or_assoc]
def gw {σ:AH} {l:List At} {i mm:Nat} {M:List Int} {k:Int} {b:Bool} {K:V→Prop} (e:M.contains k=b) (hk:K (.b b)) (h:Sat σ l:=by assumption)
    (hi:l[i]? =some (.map mm (Qy M)):=by first|exact Pk|exact Pj|exact Ph|exact Pg|exact Pf|exact Pe):AR σ (.i .i64) (.b false) false (.m mm) (eI k) K:=w7 (e ▸ hk) h hi
def jW (p : Prog) (c:Nat) (h10:p.AP.length≤10) (hsl:Co 0 p.AP=true) (hg:Dn (A6 p)=true) (hc3:3≤c) (hc:c<3+p.AP.length) :
    Pure Tryz.prog 210 [.a (BR p),eI c] (.l (iL ((D8 p c (c - 2)).mergeSort G8)) false):=by
 refine Pure.fit (by kernel_rfl) fun hf=>?_
 have F:=KY hf.1;have hM:=Mx;have hG:=Du hg;have ho:=JM hG;have hgl:(A6 p).length=p.AP.length:=by simp[A6]
 refine lE kZ ?_;have hs:=Sn
 conv=>whnf
 repeat'((first|(apply sq;intro K U)|(apply si;intro A B Y Z)|(apply Y;clear Z B Y A)|(apply U;clear U K)|(intro nn hnn;generalize hg:BA _ nn _=σ;refine Ct hg fun hs=>?_;clear hg)|fail)<;>conv=>whnf)
 replace hs:Sat σ [.map nn (Qy [])]:=hs
 conv=>whnf
 repeat'((first|apply st|(apply sq;intro K U)|(apply si;intro A B Y Z)|(apply Y;clear Z B Y A)|(apply U;clear U K)|refine uX (fun σ hs=>?_)|fail)<;>conv=>whnf)
 generalize nn=mm at *;replace hs:Sat σ [.map mm (Qy [(c:Int)])]:=hs
 refine B2 (c - 2) (fun k (x:List Int×V)=>[(6,x.2),(7,eI ((c:Int) - k))]) (fun k x=>[.own x.2 1 (iL (D8 p c k)),.map mm (Qy x.1)])
  (fun k x=>(∀b:Nat,b<3+(A6 p).length→x.1.contains (b:Int)=(HB (A6 p) (3+(A6 p).length) c k).getD b false)∧((B7 x.2).isSome=true∨(x.2= .l [] true∧D8 p c k= []))∧(D8 p c k).length≤4*k) ([(c:Int)],.l [] true) ?_ ⟨?_,.inr ⟨rfl,rfl⟩,by simp[D8]⟩ (C7 hs 1) ?_
 ·simp[NP,get]
  exact⟨rfl,rfl,rfl⟩
 ·intro b hb
  simp only[HB];rw[E2 (by simp;omega)];by_cases hbc:b=c
  ·subst hbc;simp
  ·rw[if_neg hbc]
   have:((c:Int)==(b:Int))=false:=by simp;omega
   simp[DY,List.getElem?_replicate];split<;>simp<;>omega
 clear hs;rintro k ⟨M,v⟩ σ hk ⟨hMb,hv,hml⟩ hs;dsimp only at hMb hv hs;rcases Nat.lt_or_ge k (c - 2)with hlt|hge
 ·have hkc:M.contains ((c:Int) - k)=JR (A6 p) c (c - k):=by
   have:=hMb (c - k) (by omega);rw[ZO ho (by omega) (by omega)]at this;rw[←this];congr 1;omega
  have hcl:p.AP[(IntKind.i64.wrap ((c:Int) - k - 3)).toNat]? =some (Iu p (c - k)):=by
   rw[wrap64 (by omega) (by omega),show((c:Int) - k - 3).toNat=c - k - 3 by omega,Iu,DY,DJ (by omega)];rfl
  have hwi:0≤IntKind.i64.wrap ((c:Int) - k - 3):=by rw[wrap64 (by omega) (by omega)];omega
  have hw1:IntKind.i64.wrap ((c:Int) - k - 1)=(c:Int) - (k+1:Nat):=by rw[wrap64 (by omega) (by omega)];omega
  have hmt:D8 p c (k+1)=if JR (A6 p) c (c - k)then D8 p c k++(Iu p (c - k)).AT else D8 p c k:=rfl
  have hpar:(Iu p (c - k)).parents=par (A6 p) (c - k):=by
   unfold par Iu A6;rw[if_neg (by omega),DY,DY,Pc,DJ (by omega)];rfl
  have hcm:=F.2 _ (B5 hcl);have hs4:=((FO _ _ hsl).2 _ (B5 hcl)).2;have hst:=fun b=>Ss ho (show c<3+(A6 p).length by omega) k b
  rw[ZO ho (by omega) (by omega),←hpar]at hst;generalize Iu p (c - k)=cl at *;cases hb:JR (A6 p) c (c - k)
  ·rw[hb]at hkc hmt hst
   rw[if_neg (by decide)]at hmt
   conv=>whnf
   repeat'((first|apply st|(apply sq;intro K U)|(apply si;intro A B Y Z)|(apply Y;clear Z B Y A)|(apply U;clear U K)|refine⟨rfl,?_⟩|refine gw hkc ?_|(constructor<;>intro hc<;>(try rw[hc])<;>(replace hc:=bp hc)<;>try(exfalso;omega))|clear U K)<;>conv=>whnf)
   all_goals try(exfalso;omega)
   rw[hw1];exact⟨hlt,(M,v),rfl,⟨fun b hb=>by rw[hMb b hb,hst b];simp,by rw[hmt];exact hv,by rw[hmt];omega⟩,by rw[hmt];exact hs⟩
  ·rw [hb] at hkc hmt hst
   rw[if_pos rfl]at hmt
   conv=>whnf
   repeat'((first|apply st|(apply sq;intro K U)|(apply si;intro A B Y Z)|(apply Y;clear Z B Y A)|(apply U;clear U K)|refine⟨rfl,?_⟩|refine GX ?_|refine gw hkc ?_|(constructor<;>intro hc<;>(try rw[hc])<;>(replace hc:=bp hc)<;>try(exfalso;omega))|fail)<;>conv=>whnf)
   all_goals try(exfalso;omega)
   refine Tv (Is hs 0 rfl (by omega) B0 fun v' σ hs hv'=>?_);rw[←hmt]at hs
   conv=>whnf
   repeat'((first|apply st|(apply sq;intro K U)|(apply si;intro A B Y Z)|(apply Y;clear Z B Y A)|(apply U;clear U K)|refine⟨rfl,?_⟩|refine GX ?_|fail)<;>conv=>whnf)
   refine B2 cl.parents.length (fun j (_:List Int)=>[(38,eI (A4 j))]) (fun _ M=>[.own v' 1 (iL (D8 p c (k+1))),.map mm (Qy M)]) (fun j M'=>M'=(cl.parents.take j).foldl NQ M) M rfl rfl hs ?_;clear hs;rintro j M' σ hj hM' hs;rcases BC cl.parents hj with⟨q,hq,hjlt⟩|hje
   ·conv=>whnf
    repeat'((first|apply st|(apply sq;intro K U)|(apply si;intro A B Y Z)|(apply Y;clear Z B Y A)|(apply U;clear U K)|refine⟨rfl,?_⟩|refine ix ?_|(refine CK (fun hc=>?_)<;>(try rw[hc])<;>clear hc)|refine uX (fun σ hs=>?_)|clear U K)<;>conv=>whnf)
    exact⟨hjlt,_,rfl,by rw[AO hq,List.foldl_append,←hM'];rfl,hs⟩
   ·rw [Ar hje]at hM'
    conv=>whnf
    repeat'((first|apply st|(apply sq;intro K U)|(apply si;intro A B Y Z)|(apply Y;clear Z B Y A)|(apply U;clear U K)|refine⟨rfl,?_⟩|(refine DR (fun hc=>?_)<;>(try rw[hc])<;>clear hc)|clear U K)<;>conv=>whnf)
    rw[hw1];refine⟨hlt,(M',v'),rfl,⟨fun b hb=>?_,?_,?_⟩,hs⟩
    ·rw[hM',Oz,hMb b hb,hst b,E7]
    ·rcases hv' with hv'|⟨rfl,he⟩
     ·exact .inl hv'
     ·rcases hv with hv|⟨hv,hm0⟩
      ·exact .inl hv
      ·refine .inr ⟨hv,?_⟩
       rw[hmt,hm0,List.map_eq_nil_iff.1 he];rfl
    ·rw[hmt,PK];omega
 ·have hkk:k=c - 2:=by omega
  rw[hkk]at hs hv hml;clear hMb
  conv=>whnf
  repeat'((first|apply st|(apply sq;intro K U)|(apply si;intro A B Y Z)|(apply Y;clear Z B Y A)|(apply U;clear U K)|refine⟨rfl,?_⟩|(constructor<;>intro hc<;>(try rw[hc])<;>(replace hc:=bp hc)<;>try(exfalso;omega))|clear U K)<;>conv=>whnf)
  all_goals try(exfalso;omega)
  refine(Y5 hv).use (rest:=[_]) hs ?_;clear hs;rintro r post σ ⟨rfl,rfl⟩ hs
  conv=>whnf
  repeat'((first|(apply sq;intro K U)|(apply si;intro A B Y Z)|(apply Y;clear Z B Y A)|(apply U;clear U K)|fail)<;>conv=>whnf)
  refine(Nt _ v (by rw[List.length_mergeSort];omega)).use (rest:=[_]) hs ?_;clear hs;rintro r post σ ⟨rfl,rfl⟩ hs
  conv=>whnf
  repeat'((first|apply st|(apply Y;clear Z B Y A)|(apply U;clear U K)|fail)<;>conv=>whnf)
  exact Bh Nf
def Oj {p : Prog} {c:Nat} (s:Int): ∀k,s∈D8 p c k↔ ∃j,j<k∧JR (A6 p) c (c - j)=true∧s∈(Iu p (c - j)).AT
 | 0=>by simp[D8]
 | k + 1 =>by
   rw[D8];have ih:=Oj (p:=p) (c:=c) s k;constructor
   ·intro h
    split at h
    ·rename_i hu
     rcases Fs.1 h with h|h
     ·obtain⟨j,h1,h2⟩:=ih.1 h
      exact⟨j,by omega,h2⟩
     ·exact⟨k,by omega,hu,h⟩
    ·obtain⟨j,h1,h2⟩:=ih.1 h
     exact⟨j,by omega,h2⟩
   ·rintro⟨j,h1,h2,h3⟩
    by_cases hj:j=k
    ·subst hj
     rw[if_pos h2];exact Fs.2 (.inr h3)
    ·have:=ih.2 ⟨j,by omega,h2,h3⟩
     split
     ·exact Fs.2 (.inl this)
     ·exact this
def S4: ∀(l:List Int) (n s:Int),KM n l=true→(s∈l↔n≤s∧s<n+l.length)
 | [],n,s,_=>by simp<;>omega
 | x::r,n,s,h=>by
   simp only[KM,BY,Dx]at h;obtain⟨rfl,h⟩:=h;have:=S4 r (x+1) s h;rw[GB,this,KH];omega
def QD: ∀(cs:List PJ) (i:Nat) (n s:Int),Co n cs=true→0≤n→ ∀(j:Nat) (c:PJ),cs[j]? =some c→(s∈c.AT↔n≤s∧s<n+(Bu cs:Int)∧(BW i cs).getD (s - n).toNat 0=((i+j:Nat):Int)+3)
 | [],_,_,_,_,_,_,_,h=>by cases h
 | d ::r,i,n,s,h,h0,j,c,hj=>by
   simp only[Co,BY,Ce]at h;obtain⟨-,-,hq,hr⟩:=h;have hm:=S4 d.AT n s hq;have hml:(Bu (d::r):Int)=d.AT.length+Bu r:=by simp[Bu]
   have hgd:n≤s→(BW i (d::r)).getD (s - n).toNat 0=if s<n+d.AT.length then(i:Int)+3 else(BW (i+1) r).getD (s - (n+d.AT.length)).toNat 0:=fun hns=>by
    simp only[BW,DY];split
    ·rw[gW (by simp;omega),List.getElem?_replicate,if_pos (by omega)]
     rfl
    ·rw[List.getElem?_append_right (by simp;omega)]
     congr 2;simp;omega
   have hout: ∀q,q∈BW (i+1) r→(3:Int)+((i+1:Nat):Int)≤q:=fun q hq=>(F5 hq).1
   cases j with
   | zero=>
     simp at hj;subst hj;rw[hm,hml];constructor
     ·rintro⟨h1,h2⟩
      refine⟨h1,by omega,?_⟩;rw[hgd h1,if_pos h2];simp
     ·rintro⟨h1,h2,h3⟩
      refine⟨h1,?_⟩;rw[hgd h1]at h3;by_cases hlt:s<n+d.AT.length
      ·exact hlt
      ·rw[if_neg hlt,DY]at h3
       have hlen:(s - (n+d.AT.length)).toNat<(BW (i+1) r).length:=by rw[Cd];omega
       rw[DJ hlen]at h3;have:=hout _ (List.getElem_mem hlen);simp at h3;omega
   | succ j=>
     simp at hj;have ih:=QD r (i+1) (n+d.AT.length) s hr (by omega) j c hj;rw[ih,hml];constructor
     ·rintro⟨h1,h2,h3⟩
      refine⟨by omega,by omega,?_⟩;rw[hgd (by omega),if_neg (by omega),h3];omega
     ·rintro⟨h1,h2,h3⟩
      rw[hgd h1]at h3;by_cases hlt:s<n+d.AT.length
      ·rw[if_pos hlt]at h3;omega
      ·rw[if_neg hlt]at h3
       exact⟨by omega,by omega,by rw[h3];omega⟩
def bE {p:Prog} {c:Nat} (hsl:Co 0 p.AP=true) (ho:ordered (A6 p)) (hc3:3≤c) (hc:c<3+p.AP.length) (s:Int) :
    ((D8 p c (c - 2)).mergeSort G8).contains s=(decide (0≤s)&&(decide (s<(Bu p.AP:Int))&&hasB (AS p) (c:Int) s)):=by
 rw[LW,List.contains_iff_mem,(List.mergeSort_perm _ G8).mem_iff,Oj];simp only[BY,Ce,hasB]
 have hown: ∀j,j<c - 2→(s∈(Iu p (c - j)).AT↔0≤s∧s<(Bu p.AP:Int)∧CV (AS p) s=((c - j:Nat):Int)):=fun j hj=>by
  have hcl:p.AP[c - j - 3]? =some (Iu p (c - j)):=by
   rw[Iu,DY,DJ (by omega)];rfl
  have:=QD p.AP 0 0 s hsl (by omega) (c - j - 3) _ hcl;rw[this];simp only[Int.sub_zero,Int.zero_add,CV,AS];constructor
  ·rintro⟨h1,h2,h3⟩;exact⟨h1,h2,by rw[h3];omega⟩
  ·rintro⟨h1,h2,h3⟩;exact⟨h1,h2,by rw[h3];omega⟩
 constructor
 ·rintro⟨j,h1,h2,h3⟩
  obtain⟨h4,h5,h6⟩:=(hown j h1).1 h3;refine⟨h4,h5,by omega,?_⟩;rw[h6];simp only[Mp,Fq,BY,Ce];exact .inr (.inr ⟨by omega,by simpa[AS]using h2⟩)
 ·rintro⟨h1,h2,h3,h4⟩
  have hmem:CV (AS p) s∈BW 0 p.AP:=by
   have hlen:s.toNat<(BW 0 p.AP).length:=by rw[Cd];omega
   have:CV (AS p) s=(BW 0 p.AP)[s.toNat]:=by
    simp only[CV,AS,DY,DJ hlen];rfl
   rw[this];exact List.getElem_mem hlen
  have hb:=F5 hmem
  have hup:JR (A6 p) c (CV (AS p) s).toNat=true:=by
   simp only[Mp,Fq,BY,Ce,Dx]at h4;rcases h4 with h4|h4|⟨_,h4⟩
   ·rw[←h4,KF];exact Fh ho c
   ·omega
   ·simpa[AS]using h4
  have hle:=ZP ho _ _ hup;refine⟨c - (CV (AS p) s).toNat,by omega,?_,?_⟩
  ·rw[show c - (c - (CV (AS p) s).toNat)=(CV (AS p) s).toNat by omega]
   exact hup
  ·refine(hown _ (by omega)).2 ⟨h1,h2,by omega⟩
def bD {σ:AH}:BJ Tryz.prog 164 [.b false] σ fun r σ'=>r= .C2 Dr∧σ'=σ:=by
 refine Zv kZ ?_
 conv=>whnf
 repeat'((first|apply st|(apply sq;intro K U)|(apply si;intro A B Y Z)|(apply Y;clear Z B Y A)|(refine Z _ _ _ ?_;clear Z B Y A)|(apply U;clear U K)|refine Er ?_|fail)<;>conv=>whnf)
 exact DO ⟨rfl,rfl⟩
def Cs {x:Bool} {σ:AH} {k kp:V→AH→Prop} (h1:x=true→k (.t []) σ) (h2:x=false→kp Dr σ):BJ Tryz.prog 164 [.b x] σ (qk k kp):=by
 cases x
 ·refine BJ.mono bD ?_
  rintro r σ' ⟨rfl,rfl⟩;exact h2 rfl
 ·exact bC.use (h1 rfl)
def Fp:Int→List PJ→Bool
 | _,[]=>true
 | n,c::r=>decide (c.AT.length≤4)&&(KM n c.AT&&Fp (n+c.AT.length) r)
def N0: ∀(cs:List PJ) (n:Int),Co n cs=(Fp n cs&&cs.all fun c=>decide (c.parents.length≤3))
 | [],_=>rfl
 | c::r,n=>by
   simp only[Co,Fp,My];rw[N0 r];cases decide (c.AT.length≤4)<;>cases decide (c.parents.length≤3)<;>cases KM n c.AT<;>simp
def P4: ∀(cs:List PJ) (n:Int),Fp n cs=true→Bu cs≤4*cs.length
 | [],_,_=>JT _
 | c::r,n,h=>by
   simp only[Fp,BY,Ce]at h;have:=P4 r _ h.2.2;simp only[Bu,E8,List.sum_cons,KH]at *;omega
def TM {p:Prog} (h:Dn (A6 p)=true):(p.AP.all fun c=>decide (c.parents.length≤3))=true:=by
 rw[EN];intro c hc;obtain⟨i,hi⟩:=List.getElem?_of_mem hc;have:=(Du h).2 i c.parents (by rw[A6,Pc,hi];rfl);exact decide_eq_true this.1
def O9 (p:Prog):BG p=(decide (p.AP.length≤10)&&(Fp 0 p.AP&&((Bu p.AP:Int)==p.AT&&(Dn (A6 p)&&GH (AS p) (Bu p.AP) 0 p.AP)))):=by
 rw[BG,N0];cases hg:Dn (A6 p)
 ·simp
 ·rw[TM hg,Bool.and_true]
abbrev oW (p:Prog):R→AH→Prop:=fun r σ'=> ∃post:List At,(r=(if BG p then R.ret (.t [])else R.C2 Dr)∧post= [])∧Sat σ' post
def UQ {p:Prog} {σ:AH} (h:BG p=false):Ak σ Dr (oW p):=DO ⟨_,⟨by rw[h];rfl,rfl⟩,Sat.nil⟩
def ux {p:Prog} {σ:AH} {l:List At} (hs:Sat σ l) (h:BG p=true):A2 σ (.t []) (oW p):=Ap hs (LR _) (.refl _) fun σ' hs'=>⟨_,⟨by rw[h];rfl,rfl⟩,hs'⟩
set_option maxHeartbeats 4000000 in
def Ve (p : Prog):Bk Tryz.prog 163 [.a (BR p)] [] fun r post=>r=(if BG p then R.ret (.t [])else R.C2 Dr)∧post= []:=by
 intro σ hs;refine BJ.fit (by kernel_rfl) fun hf=>?_
 have F:=KY hf.1;have hcl:=F.1;have hM:=Mx;refine l5 kZ ?_;have hcb:=O9 p;by_cases h10:p.AP.length≤10
 rotate_left
 ·conv=>whnf
  repeat'((first|apply st|(apply sq;intro K U)|(apply si;intro A B Y Z)|(apply Y;clear Z B Y A)|(refine Z _ _ _ ?_;clear Z B Y A)|(apply U;clear U K)|refine⟨rfl,?_⟩|(refine Cs (fun hc=>?_) (fun hc=>?_)<;>(replace hc:=bp hc)<;>(try simp(disch:=omega) only[BQ,wrap64,AL]at hc)<;>(try(exfalso;omega)))|clear U K)<;>conv=>whnf)
  all_goals try(exfalso;omega)
  exact UQ (by rw[hcb];simp[h10])
 rw[decide_eq_true h10,E7]at hcb
 conv=>whnf
 repeat'((first|apply st|(apply sq;intro K U)|(apply si;intro A B Y Z)|(apply Y;clear Z B Y A)|(apply U;clear U K)|refine⟨rfl,?_⟩|(refine Cs (fun hc=>?_) (fun hc=>?_)<;>(replace hc:=bp hc)<;>(try simp(disch:=omega) only[BQ,wrap64,AL]at hc)<;>(try(exfalso;omega)))|fail)<;>conv=>whnf)
 all_goals try(exfalso;omega)
 refine B2 p.AP.length (fun k (n:Int)=>[(2,eI n),(24,eI (A4 k))]) (fun _ _=>[]) (fun k n=>Fp 0 p.AP=Fp n (p.AP.drop k)∧0≤n∧n+Bu (p.AP.drop k)=Bu p.AP∧n≤4*k) 0 rfl (by simp) hs ?_;clear hs;rintro k n σ hk ⟨hn,hn0,hn1,hn2⟩ hs;rcases BC p.AP hk with⟨c,hc,hlt⟩|hke
 ·have hcm:=(F.2 c (B5 hc)).2.1
  have hms:n+(c.AT.length:Int)+Bu (p.AP.drop (k+1))=Bu p.AP:=by
   rw[drop_cons hc]at hn1;simp only[Bu,E8,List.sum_cons]at hn1 ⊢;omega
  rw[drop_cons hc,Fp]at hn;by_cases h4:c.AT.length≤4
  ·rw [decide_eq_true h4,E7]at hn
   conv=>whnf
   repeat'((first|apply st|(apply sq;intro K U)|(apply si;intro A B Y Z)|(apply Y;clear Z B Y A)|(apply U;clear U K)|refine⟨rfl,?_⟩|refine⟨kZ,?_⟩|refine ix ?_|refine ld ?_|refine Dy fun σ hs=>?_|(refine CK (fun hc=>?_)<;>(try rw[hc])<;>clear hc)|(refine Cs (fun hc=>?_) (fun hc=>?_)<;>(replace hc:=bp hc)<;>(try simp(disch:=omega) only[BQ,wrap64,AL]at hc)<;>(try(exfalso;omega)))|(intro nn hnn;generalize hg:BA _ nn _=σ;refine Ct hg fun hs=>?_;clear hg)|fail)<;>conv=>whnf)
   all_goals try(exfalso;omega)
   refine B2 c.AT.length (fun j (m:Int)=>[(2,eI m),(36,eI (A4 j))]) (fun _ _=>[]) (fun j m=>Fp 0 p.AP=(KM m (c.AT.drop j)&&Fp (n+c.AT.length) (p.AP.drop (k+1)))∧m=n+j) n rfl ⟨hn,by simp⟩ (hs.take 0) ?_;clear hs hn;rintro j m σ hj ⟨hm,he⟩ hs;rcases BC c.AT hj with⟨x,hx,hjlt⟩|hje
   ·rw[drop_cons hx,KM]at hm
    conv=>whnf
    repeat'((first|apply st|(apply sq;intro K U)|(apply si;intro A B Y Z)|(apply Y;clear Z B Y A)|(refine Z _ _ _ ?_;clear Z B Y A)|(apply U;clear U K)|refine⟨rfl,?_⟩|refine ix ?_|(refine CK (fun hc=>?_)<;>(try rw[hc])<;>clear hc)|(refine Cs (fun hc=>?_) (fun hc=>?_)<;>(replace hc:=bp hc))|clear U K)<;>conv=>whnf)
    ·rw[wrap64 (by omega) (by omega)]
     rw[hc,beq_self_eq_true,E7]at hm;exact⟨hjlt,_,rfl,⟨by rw[←hc];rw[←hc]at hm;exact hm,by omega⟩,hs⟩
    ·exact UQ (by rw[hcb,hm];simp[hc])
   ·rw[Ah hje,KM,E7]at hm
    conv=>whnf
    repeat'((first|apply st|(apply sq;intro K U)|(apply si;intro A B Y Z)|(apply Y;clear Z B Y A)|(apply U;clear U K)|refine⟨rfl,?_⟩|(refine DR (fun hc=>?_)<;>(try rw[hc])<;>clear hc)|clear U K)<;>conv=>whnf)
    exact⟨hlt,m,rfl,⟨by rw[hm];congr 1;omega,by omega,by omega,by omega⟩,hs⟩
  ·conv=>whnf
   repeat'((first|apply st|(apply sq;intro K U)|(apply si;intro A B Y Z)|(apply Y;clear Z B Y A)|(refine Z _ _ _ ?_;clear Z B Y A)|(apply U;clear U K)|refine⟨rfl,?_⟩|refine⟨kZ,?_⟩|refine ix ?_|refine ld ?_|refine Dy fun σ hs=>?_|(refine CK (fun hc=>?_)<;>(try rw[hc])<;>clear hc)|(refine Cs (fun hc=>?_) (fun hc=>?_)<;>(replace hc:=bp hc)<;>(try simp(disch:=omega) only[BQ,wrap64,AL]at hc)<;>(try(exfalso;omega)))|(intro nn hnn;generalize hg:BA _ nn _=σ;refine Ct hg fun hs=>?_;clear hg)|clear U K)<;>conv=>whnf)
   all_goals try(exfalso;omega)
   exact UQ (by rw[hcb,hn];simp[h4])
 ·have hne:n=Bu p.AP:=by rw[Ah hke]at hn1;simpa[Bu]using hn1
  rw[Ah hke]at hn;have hsp:Fp 0 p.AP=true:=hn;have hml:=P4 _ _ hsp;rw[hsp,E7,←hne]at hcb;cases hgd:Dn (A6 p)
  ·rw[hgd]at hcb
   have hck:=TU (A6 p) false;rw[hgd,if_neg (by decide)]at hck;have hcF:BG p=false:=by rw[hcb];simp
   conv=>whnf
   repeat'((first|apply st|(apply sq;intro K U)|(apply si;intro A B Y Z)|(apply Y;clear Z B Y A)|(refine Z _ _ _ ?_;clear Z B Y A)|(apply U;clear U K)|refine⟨rfl,?_⟩|refine⟨kZ,?_⟩|(refine DR (fun hc=>?_)<;>(try rw[hc])<;>clear hc)|(refine Cs (fun hc=>?_) (fun hc=>?_)<;>(replace hc:=bp hc)<;>(try simp(disch:=omega) only[BQ,wrap64,AL]at hc)<;>(try(exfalso;omega))<;>(try(cases hc;done)))|refine Pure.use (K2 _ (by omega)) ?_|(constructor<;>intro hc<;>(try rw[hc])<;>(replace hc:=bp hc))|refine Pure.use (by assumption) ?_|clear U K)<;>conv=>whnf)
   all_goals exact UQ hcF
  ·have hck:=TU (A6 p) false
   rw[hgd,if_pos rfl]at hck;rw[hgd,E7]at hcb;by_cases hps:n=p.AT
   ·rw [hps,beq_self_eq_true,E7,←hps]at hcb
    have hslB:Co 0 p.AP=true:=by rw[N0,hsp,TM hgd];rfl
    have hG:=Du hgd;have ho:=JM hG;have hgl:(A6 p).length=p.AP.length:=by simp[A6]
    conv=>whnf
    repeat'((first|apply st|(apply sq;intro K U)|(apply si;intro A B Y Z)|(apply Y;clear Z B Y A)|(apply U;clear U K)|refine⟨rfl,?_⟩|refine⟨kZ,?_⟩|(refine DR (fun hc=>?_)<;>(try rw[hc])<;>clear hc)|(refine Cs (fun hc=>?_) (fun hc=>?_)<;>(replace hc:=bp hc)<;>(try simp(disch:=omega) only[BQ,wrap64,AL]at hc)<;>(try(exfalso;omega)))|refine Pure.use (K2 _ (by omega)) ?_|(constructor<;>intro hc<;>(try rw[hc])<;>(replace hc:=bp hc)<;>try(exfalso;omega))|refine Pure.use (by assumption) ?_|clear U K)<;>conv=>whnf)
    refine B2 p.AP.length (fun k (_:Unit)=>[(63,eI (A4 k))]) (fun _ _=>[]) (fun k _=>BG p=GH (AS p) n k (p.AP.drop k)) () rfl hcb hs ?_;clear hs;rintro i - σ hi hn' hs;rcases BC p.AP hi with⟨c,hc,hilt⟩|hie
    ·rw [drop_cons hc,GH]at hn'
     have hci:A4 i=i:=AL (by omega);have hw3:IntKind.i64.wrap (A4 i+3)=(i:Int)+3:=by rw[hci,wrap64 (by omega) (by omega)]
     have hlin:=jL (A6 p) false ((i:Int)+3) hgd (by omega) (by omega);have hinl:=(F.2 c (B5 hc)).2.2;have hlb:c0 (AS p).parents ((i:Int)+3)= !((CA (A6 p)).getD ((i:Int)+3).toNat []).isEmpty:=rfl;cases hem:((CA (A6 p)).getD ((i:Int)+3).toNat []).isEmpty
     ·rw [hem]at hlb
      rw[hlb,Bool.not_false,E7]at hn';rw[hem,if_neg (by decide),←hw3]at hlin;have hhas:=jW p (i+3) h10 hslB hgd (by omega) (by omega);have hmh:=bE hslB ho (show 3≤i+3 by omega) (show i+3<3+p.AP.length by omega);have ei3:((i+3:Nat):Int)=(i:Int)+3:=by omega
      rw[ei3,←hw3]at hhas;rw[ei3]at hmh;generalize (D8 p (i+3) (i+3 - 2)).mergeSort G8=mine at *
      conv=>whnf
      repeat'((first|apply st|(apply sq;intro K U)|(apply si;intro A B Y Z)|(apply Y;clear Z B Y A)|(apply U;clear U K)|refine⟨rfl,?_⟩|refine⟨kZ,?_⟩|refine ix ?_|refine ld ?_|refine Dy fun σ hs=>?_|(refine CK (fun hc=>?_)<;>(try rw[hc])<;>clear hc)|(refine Cs (fun hc=>?_) (fun hc=>?_)<;>(replace hc:=bp hc)<;>(try simp(disch:=omega) only[BQ,wrap64,AL]at hc)<;>(try(exfalso;omega)))|(intro nn hnn;generalize hg:BA _ nn _=σ;refine Ct hg fun hs=>?_;clear hg)|refine Pure.use (by assumption) ?_|fail)<;>conv=>whnf)
      generalize nn=mm at *;replace hs:Sat σ [.map mm (Qy [])]:=hs.take 1;refine B2 c.inits.length (fun j (_:List Int)=>[(86,eI (A4 j))]) (fun _ M=>[.map mm (Qy M)]) (fun j M=>BG p=(EA (AS p) ((i:Int)+3) n (c.inits.take j) (c.inits.drop j)&&GH (AS p) n (i+1) (p.AP.drop (i+1)))∧ ∀s,M.contains s=(c.inits.take j).any fun y=>y.1==s) [] rfl ⟨hn',fun s=>rfl⟩ hs ?_;clear hs;rintro j M σ hj ⟨hm,hMs⟩ hs;rcases BC c.inits hj with⟨x,hx,hjlt⟩|hje
      ·have hpa:((c.inits.take j).all fun y=>y.1 != x.1)= !M.contains x.1:=by
        rw[hMs,List.all_eq_not_any_not];congr 2;funext y;simp[bne]
       have hst:BG p=((mine.contains x.1&&(!M.contains x.1&&Q9 x.2))&&(EA (AS p) ((i:Int)+3) n (c.inits.take (j+1)) (c.inits.drop (j+1))&&GH (AS p) n (i+1) (p.AP.drop (i+1)))):=by
        rw[hm,drop_cons hx,EA,hpa,hmh,←hne,AO hx];cases decide (0≤x.1)<;>cases decide (x.1<n)<;>cases hasB (AS p) ((i:Int)+3) x.1<;>cases Q9 x.2<;>cases M.contains x.1<;>simp
       have hMs': ∀s,(NQ M x.1).contains s=(c.inits.take (j+1)).any fun y=>y.1==s:=fun s=>by
        rw[S9,hMs,AO hx,List.any_append];simp only[Qw,List.any_nil,Bool.or_false];congr 1;rw[LW];simp;exact eq_comm
       have hct:=Dv mine false x.1;have hbt:=PB x.2;clear hmh hpa hMs hm;cases eA:mine.contains x.1<;>cases eB:M.contains x.1<;>cases eD:Q9 x.2<;>rw[eA]at hct<;>rw[eD]at hbt<;>rw[eA,eB,eD]at hst
       all_goals
        conv=>whnf
        repeat'((first|apply st|(apply sq;intro K U)|(apply si;intro A B Y Z)|(apply Y;clear Z B Y A)|(refine Z _ _ _ ?_;clear Z B Y A)|(apply U;clear U K)|refine⟨rfl,?_⟩|refine⟨kZ,?_⟩|refine ix ?_|refine ld ?_|refine Dy fun σ hs=>?_|refine Er ?_|refine De ?_|(refine CK (fun hc=>?_)<;>(try rw[hc])<;>clear hc)|(refine Cs (fun hc=>?_) (fun hc=>?_)<;>(replace hc:=bp hc)<;>(try simp(disch:=omega) only[BQ,wrap64,AL]at hc)<;>(try(cases hc;done)))|refine gw eB ?_|refine uX (fun σ hs=>?_)|(intro nn hnn;generalize hg:BA _ nn _=σ;refine Ct hg fun hs=>?_;clear hg)|refine Pure.use (by assumption) ?_|clear U K)<;>conv=>whnf)
       all_goals first
        | exact⟨hjlt,_,rfl,⟨hst,hMs'⟩,hs.less (Ji _ _)⟩
        | exact UQ (by rw[hst];rfl)
      ·rw[Ah hje,EA,E7]at hm
       conv=>whnf
       repeat'((first|apply st|(apply sq;intro K U)|(apply si;intro A B Y Z)|(apply Y;clear Z B Y A)|(apply U;clear U K)|refine⟨rfl,?_⟩|(refine DR (fun hc=>?_)<;>(try rw[hc])<;>clear hc)|clear U K)<;>conv=>whnf)
       exact⟨hilt,(),rfl,hm,hs.take 0⟩
     ·rw[hem]at hlb
      rw[hem,if_pos rfl,←hw3]at hlin;have hcF:BG p=false:=by rw[hn',hlb];rfl
      conv=>whnf
      repeat'((first|apply st|(apply sq;intro K U)|(apply si;intro A B Y Z)|(apply Y;clear Z B Y A)|(refine Z _ _ _ ?_;clear Z B Y A)|(apply U;clear U K)|refine⟨rfl,?_⟩|refine⟨kZ,?_⟩|refine ix ?_|refine Dy fun σ hs=>?_|(refine CK (fun hc=>?_)<;>(try rw[hc])<;>clear hc)|(refine Cs (fun hc=>?_) (fun hc=>?_)<;>(replace hc:=bp hc)<;>(try(exfalso;omega)))|(intro nn hnn;generalize hg:BA _ nn _=σ;refine Ct hg fun hs=>?_;clear hg)|refine Pure.use (by assumption) ?_|clear U K)<;>conv=>whnf)
      all_goals exact UQ hcF
    ·conv=>whnf
     repeat'((first|apply st|(apply sq;intro K U)|(apply si;intro A B Y Z)|(apply Y;clear Z B Y A)|(apply U;clear U K)|refine⟨rfl,?_⟩|(refine DR (fun hc=>?_)<;>(try rw[hc])<;>clear hc)|clear U K)<;>conv=>whnf)
     exact ux hs (by rw[hn',Ah hie];rfl)
   ·have hcF:BG p=false:=by rw[hcb];simp[hps]
    conv=>whnf
    repeat'((first|apply st|(apply sq;intro K U)|(apply si;intro A B Y Z)|(apply Y;clear Z B Y A)|(refine Z _ _ _ ?_;clear Z B Y A)|(apply U;clear U K)|refine⟨rfl,?_⟩|refine⟨kZ,?_⟩|(refine DR (fun hc=>?_)<;>(try rw[hc])<;>clear hc)|(refine Cs (fun hc=>?_) (fun hc=>?_)<;>(replace hc:=bp hc)<;>(try simp(disch:=omega) only[BQ,wrap64,AL]at hc)<;>(try(cases hc;done)))|refine Pure.use (K2 _ (by omega)) ?_|(constructor<;>intro hc<;>(try rw[hc])<;>(replace hc:=bp hc)<;>try(exfalso;omega))|clear U K)<;>conv=>whnf)
    all_goals exact UQ hcF
def Xa (f : Fact):Nk f=true→Pure Tryz.prog 171 [.a (xF f)] (eI (DL f)):=by
 induction f using Fact.ind with
 | h f ih=>
   intro ha;refine Pure.fit (by kernel_rfl) fun hf=>?_
   have⟨h2,h3,h4⟩:=IQ hf.1;have hM:=Mx;rw[K8]at ha;simp only[BY,Ce,List.all_map,EN]at ha;refine lj kZ ?_;have hs:=Sn;by_cases hlf:Bq f=true
   ·have hlo:=F2 hlf
    have hw:IntKind.i64.wrap (f.arg+1)=f.arg+1:=wrap64 (by omega) (by omega)
    conv=>whnf
    repeat'((first|apply st|(apply sq;intro K U)|(apply si;intro A B Y Z)|(apply Y;clear Z B Y A)|(apply U;clear U K)|refine⟨rfl,?_⟩|(constructor<;>intro hc<;>(try rw[hc])<;>(replace hc:=bp hc)<;>try(exfalso;omega))|fail)<;>conv=>whnf)
    all_goals try(exfalso;omega)
    all_goals
     refine B2 f.kids.length (fun k (_:Unit)=>[(3,eI (((f.kids.take k).map DL).foldl HH (if Bq f then f.arg+1 else 0))),(25,eI (A4 k))]) (fun _ _=>[]) (fun _ _=>True) () (by rw[hw,if_pos hlf];rfl) trivial hs ?_;clear hs;rintro k - σ hk - hs;rcases BC f.kids hk with⟨x,hx,hlt⟩|hke
     ·have hxs:=ih x (B5 hx) (ha.2 x (B5 hx))
      conv=>whnf
      repeat'((first|apply st|(apply sq;intro K U)|(apply si;intro A B Y Z)|(apply Y;clear Z B Y A)|(apply U;clear U K)|refine⟨rfl,?_⟩|refine⟨kZ,?_⟩|refine Mz ?_|refine ld ?_|refine Dy fun σ hs=>?_|(refine CK (fun hc=>?_)<;>(try rw[hc])<;>clear hc)|(intro nn hnn;generalize hg:BA _ nn _=σ;refine Ct hg fun hs=>?_;clear hg)|refine Pure.use (by assumption) ?_|clear U K)<;>conv=>whnf)
      exact⟨hlt,(),by rw[ET _ _ _ hx];rfl,trivial,hs.take 0⟩
     ·conv=>whnf
      repeat'((first|apply st|(apply sq;intro K U)|(apply si;intro A B Y Z)|(apply Y;clear Z B Y A)|(apply U;clear U K)|refine⟨rfl,?_⟩|(refine DR (fun hc=>?_)<;>(try rw[hc])<;>clear hc)|clear U K)<;>conv=>whnf)
      exact AI (by rw[Ar hke,←D2])
   ·have hlo:f.op≠2∧f.op≠3∧f.op≠4:=by
     simp only[Bq,Fq,Dx]at hlf;omega
    conv=>whnf
    repeat'((first|apply st|(apply sq;intro K U)|(apply si;intro A B Y Z)|(apply Y;clear Z B Y A)|(apply U;clear U K)|refine⟨rfl,?_⟩|(constructor<;>intro hc<;>(try rw[hc])<;>(replace hc:=bp hc)<;>try(exfalso;omega))|fail)<;>conv=>whnf)
    all_goals try(exfalso;omega)
    all_goals
     refine B2 f.kids.length (fun k (_:Unit)=>[(3,eI (((f.kids.take k).map DL).foldl HH (if Bq f then f.arg+1 else 0))),(25,eI (A4 k))]) (fun _ _=>[]) (fun _ _=>True) () (by rw[if_neg hlf];rfl) trivial hs ?_;clear hs;rintro k - σ hk - hs;rcases BC f.kids hk with⟨x,hx,hlt⟩|hke
     ·have hxs:=ih x (B5 hx) (ha.2 x (B5 hx))
      conv=>whnf
      repeat'((first|apply st|(apply sq;intro K U)|(apply si;intro A B Y Z)|(apply Y;clear Z B Y A)|(apply U;clear U K)|refine⟨rfl,?_⟩|refine⟨kZ,?_⟩|refine Mz ?_|refine ld ?_|refine Dy fun σ hs=>?_|(refine CK (fun hc=>?_)<;>(try rw[hc])<;>clear hc)|(intro nn hnn;generalize hg:BA _ nn _=σ;refine Ct hg fun hs=>?_;clear hg)|refine Pure.use (by assumption) ?_|clear U K)<;>conv=>whnf)
      exact⟨hlt,(),by rw[ET _ _ _ hx];rfl,trivial,hs.take 0⟩
     ·conv=>whnf
      repeat'((first|apply st|(apply sq;intro K U)|(apply si;intro A B Y Z)|(apply Y;clear Z B Y A)|(apply U;clear U K)|refine⟨rfl,?_⟩|(refine DR (fun hc=>?_)<;>(try rw[hc])<;>clear hc)|clear U K)<;>conv=>whnf)
      exact AI (by rw[Ar hke,←D2])
def Xr (p:Prog) (x:Node) (size:Int):Pure Tryz.prog 168 [.a (BR p),.a (It x),eI size] (.b (Lc p x size)):=by
 refine Pure.fit (by kernel_rfl) fun hf=>?_
 have⟨p1,p2,p3,p4⟩:=Ff hf.1;have hM:=Mx;have hw:IntKind.i64.wrap (3+((p.AP.map PS).length:Nat))=3+(p.AP.length:Int):=by rw[BQ,wrap64 (by omega) (by omega)]
 refine lr kZ ?_;have hs:=Sn
 conv=>whnf
 repeat'((first|apply st|(apply sq;intro K U)|(apply si;intro A B Y Z)|(apply Y;clear Z B Y A)|(apply U;clear U K)|refine⟨rfl,?_⟩|refine Pure.use (PB _) ?_|(constructor<;>intro hc<;>(try rw[hc])<;>(replace hc:=bp hc))|clear U K)<;>conv=>whnf)
 all_goals first
  | (refine AI ?_;simp[Lc, *];done)
  | (refine AI ?_;simp[Lc, *];omega)
  | (refine AI ?_;rw[hw];simp[Lc, *];done)
  | (refine AI ?_;congr 1;rw[LW];simp[Lc, *];omega)
def jE (n:Nat) (hn:n≤120):Pure Tryz.prog 252 [.i .u64 1,eU n] (.t [.i .u64 0,eU n]):=by
 refine kK kZ ?_;have hs:=Sn
 conv=>whnf
 repeat'((first|apply st|(apply sq;intro K U)|(apply si;intro A B Y Z)|(apply Y;clear Z B Y A)|(apply U;clear U K)|refine⟨rfl,?_⟩|refine⟨(by decide:(0:Int)≤_),?_⟩|fail)<;>conv=>whnf)
 have ea: ∀m:Nat,m≤120→bits .and .u64 (m:Int) 4294967295=(m:Int):=fun m hm=>by
  have:=K5 (a:=m) (b:=4294967295) (by omega) (by decide)
  have e:m&&&4294967295=m:=by
   have:=Nat.and_two_pow_sub_one_eq_mod m 32;rw[show 2 ^ 32 - 1=4294967295 from rfl]at this;rw[this];omega
  rw[e]at this;exact this
 have e0:=ea 0 (by omega);have e1:=ea 1 (by omega);have en:=ea n hn
 have ef: ∀m:Nat,m≤120→(m:Int).fdiv (2 ^ min (Int.toNat 32) IntKind.u64.bits)=0:=fun m hm=>by
  have:=V4 (a:=m) (c:=32) (by decide);rw[show(Int.toNat 32)=32 from rfl,this,Nat.shiftRight_eq_div_pow];have:m / 2 ^ 32=0:=Nat.div_eq_of_lt (by omega);rw[this];rfl
 have f0:=ef 0 (by omega);have f1:=ef 1 (by omega);have fn:=ef n hn;have w0:IntKind.u64.wrap 0=0:=rfl;have wn:IntKind.u64.wrap (n:Int)=n:=HT (by omega);simp only[Int.natCast_zero,Int.natCast_one,Int.cast_ofNat_Int]at e0 e1 f0 f1;simp only[e0,e1,en,f0,f1,fn,w0,wn,Int.zero_mul,Int.mul_zero,Int.zero_add,Int.add_zero,Int.one_mul];exact AI rfl
def jF (n:Nat) (hn:n≤120):Pure Tryz.prog 212 [.i .u64 1,eU n] (.t [.i .u64 0,eU n]):=by
 refine lC kZ ?_;have hs:=Sn
 conv=>whnf
 repeat'((first|apply st|(apply sq;intro K U)|(apply si;intro A B Y Z)|(apply Y;clear Z B Y A)|(apply U;clear U K)|refine Pure.use (jE n hn) ?_|fail)<;>conv=>whnf)
 all_goals exact AI rfl
end Go.Gl
namespace Go.Gl
variable {P:Program} {σ:AH}
def Yw {n sz len cap:Nat} {ki:IntKind} {j:Int} {K:V→AH→Prop} (h:K (.sv n sz j.toNat ((len:Int) - j).toNat) σ) (h0:0≤j:=by omega) (h1:j≤(len:Int):=by omega):AV σ sz (.sl n len cap) (some (.i ki j)) none none K:=by
 unfold AV;simp only[M0];exact⟨h0,h1,Int.le_refl _,h⟩
def gl {n sz len cap:Nat} {ki:IntKind} {j:Int} {K:V→AH→Prop} (h:K (.sv n sz 0 j.toNat) σ) (h0:0≤j:=by omega) (h1:j≤(len:Int):=by omega):AV σ sz (.sl n len cap) none (some (.i ki j)) none K:=by
 unfold AV;simp only[M0];refine⟨Int.le_refl _,h0,h1,?_⟩;simpa using h
def pF {l:List At} (h:Sat σ l) (i:Nat) {n len cap sz:Nat} {es ys:List (List V)} {f:Bool} {K:V→AH→Prop} (hi:l[i]? =some (.own (.sl n len cap) sz es)) (hle:ys.length≤es.length) (hys: ∀e∈ys,e.length=sz) (ho: ∀e∈ys,∀v∈e,DZ v=true)
    (hk: ∀σ',Sat σ' (l.set i (.own (.sl n len cap) sz (ys++es.drop ys.length)))→K (.i .i64 (ys.length:Nat)) σ'):Ai σ sz (.sl n len cap) (.l ys f) K:=by
 rcases h.get hi with⟨h1,_⟩|⟨n',cap',h1,hn⟩
 ·cases h1
 cases h1;unfold Ai;refine⟨hys,ho,?_⟩;simp only[Q5,hn];have hm:min ys.length es.length=ys.length:=Nat.min_eq_left hle;refine⟨trivial,by omega,?_⟩;rw[hm];refine hk _ ?_;simp only[List.take_zero,List.nil_append,List.take_length,HA];refine h.change hi (fun b hb ha=>FC hb fun m hm=>?_) (fun b hb ha m hm=>ha m hm) (.inr ⟨n,cap,by simp;omega,by simp[BA]⟩);rw[C3];intro e;subst e;exact ha m rfl hm
def pE {l:List At} (h:Sat σ l) (i:Nat) {n len cap sz a b c:Nat} {es:List (List V)} {K:V→AH→Prop} (hi:l[i]? =some (.own (.sl n len cap) sz es)) (hbc:a+b≤es.length) (hc:c≤es.length) (hys: ∀e∈es,e.length=sz) (ho: ∀e∈es,∀v∈e,DZ v=true)
    (hk: ∀σ',Sat σ' (l.set i (.own (.sl n len cap) sz (es.take a++((es.take c).take (min c b)++es.drop (a+min c b)))))→K (.i .i64 (min c b:Nat)) σ'):Ai σ sz (.sv n sz a b) (.sv n sz 0 c) K:=by
 rcases h.get hi with⟨h1,_⟩|⟨n',cap',h1,hn⟩
 ·cases h1
 cases h1;unfold Ai;simp only[rowsOf,hn];have hl:((es.drop 0).take c).length=c:=by simp;omega
 refine⟨trivial,trivial,by omega,fun e he v hv=>ho e (List.mem_of_mem_take (by simpa using he)) v hv,trivial,?_⟩;simp only[Q5,hn,List.drop_zero];refine⟨trivial,by omega,?_⟩;have hl2:(es.take c).length=c:=by simp;omega
 rw[hl2];refine hk _ ?_;refine h.change hi (fun b hb ha=>FC hb fun m hm=>?_) (fun b hb ha m hm=>ha m hm) (.inr ⟨n,cap,by simp;omega,by simp[BA]⟩);rw[C3];intro e;subst e;exact ha m rfl hm
end Go.Gl
namespace Go.Gl
open Go.Proofs
attribute [local irreducible] BJ A2 Ak AW AM Aj AV AX AN Ai AR AU A5 BF Sat Ad BD Al W
def Xh (n:Nat) (h1:1≤n) (hn:n≤120):Bk Tryz.prog 165 [.l [[eI (-1)]] true,eI n] [] fun r post=> ∃v,r= .ret v∧post= [.own v 1 (iL (List.replicate n (-1)))]∧(B7 v).isSome=true:=by
 intro σ hs;have hM:=Mx;have hw1:IntKind.u64.wrap 1=1:=rfl;have hwn:IntKind.u64.wrap (n:Int)=n:=HT (by omega);have hwi:IntKind.i64.wrap (n:Int)=n:=wrap64 (by omega) (by omega);refine lz kZ ?_
 conv=>whnf
 repeat'((first|apply st|(apply sq;intro K U)|(apply si;intro A B Y Z)|(apply Y;clear Z B Y A)|(apply U;clear U K)|refine⟨rfl,?_⟩|(constructor<;>intro hc<;>(try rw[hc])<;>(replace hc:=bp hc)<;>try(exfalso;omega))|fail)<;>conv=>whnf)
 rw[show IntKind.u64.wrap (([[eI (-1)]]:List (List V)).length:Nat)=1 from rfl,hwn];refine(jF n hn).use ?_
 conv=>whnf
 repeat'((first|apply st|(apply sq;intro K U)|(apply si;intro A B Y Z)|(apply Y;clear Z B Y A)|(apply U;clear U K)|refine⟨rfl,?_⟩|(constructor<;>intro hc<;>(try rw[hc])<;>(replace hc:=bp hc)<;>try(exfalso;omega))|fail)<;>conv=>whnf)
 all_goals try(exfalso;omega)
 rw[hwi];refine oR hs (JT n) (by omega) fun v σ hs hv=>?_
 obtain⟨id,rfl⟩:=hv
 conv=>whnf
 repeat'((first|(apply sq;intro K U)|(apply si;intro A B Y Z)|(apply Y;clear Z B Y A)|(apply U;clear U K)|fail)<;>conv=>whnf)
 refine pF hs 0 (ys:=[[eI (-1)]]) rfl (by simp;omega) (fun e he=>by simp at he;subst he;rfl) (fun e he v hv=>by simp at he;subst he;simp at hv;subst hv;rfl) fun σ hs=>?_
 have hst:([[eI (-1)]]:List (List V))++(List.replicate n [V.i .i64 0]).drop ([[eI (-1)]]:List (List V)).length=List.replicate 1 [eI (-1)]++List.replicate (n - 1) [eI 0]:=by simp[List.drop_replicate]
 rw[hst]at hs
 conv=>whnf
 repeat'((first|apply st|(apply sq;intro K U)|(apply Y;clear Z B Y A)|(apply U;clear U K)|fail)<;>conv=>whnf)
 refine Fo (fun m:Nat=>n - m) (fun m=>[(8,eI m)]) (fun m=>[.own (.sl id n n) 1 (List.replicate m [eI (-1)]++List.replicate (n - m) [eI 0])]) (fun m=>1≤m∧m≤n) 1 rfl ⟨by omega,h1⟩ hs ?_;clear hs hst;rintro m σ ⟨hm1,hmn⟩ hs
 have hgl: ∀e∈(List.replicate m [eI (-1)]++List.replicate (n - m) [eI 0]:List (List V)),e.length=1∧ ∀v∈e,DZ v=true:=fun e he=>by
  rcases Fs.1 he with he|he
  ·rw[(List.mem_replicate.1 he).2];exact⟨rfl,fun v hv=>by simp at hv;subst hv;rfl⟩
  ·rw[(List.mem_replicate.1 he).2];exact⟨rfl,fun v hv=>by simp at hv;subst hv;rfl⟩
 have hlen:(List.replicate m [eI (-1)]++List.replicate (n - m) [eI 0]:List (List V)).length=n:=by simp;omega
 rcases Nat.lt_or_ge m n with hlt|hge
 ·have hcpy:(List.replicate m [eI (-1)]++List.replicate (n - m) [eI 0]:List (List V)).take m++(((List.replicate m [eI (-1)]++List.replicate (n - m) [eI 0]:List (List V)).take m).take (min m (n - m))++(List.replicate m [eI (-1)]++List.replicate (n - m) [eI 0]:List (List V)).drop (m+min m (n - m)))=List.replicate (m+min m (n - m)) [eI (-1)]++List.replicate (n - (m+min m (n - m))) [eI 0]:=by
   have e1:(List.replicate m [eI (-1)]++List.replicate (n - m) [eI 0]:List (List V)).take m=List.replicate m [eI (-1)]:=by
    rw[List.take_append_of_le_length (by simp)];simp
   rw[e1,List.take_replicate,List.drop_append,List.drop_replicate,List.drop_replicate,List.length_replicate,←UC,List.replicate_append_replicate];have e2:m - (m+min m (n - m))=0:=by omega
   have e3:n - m - (m+min m (n - m) - m)=n - (m+min m (n - m)):=by omega
   rw[e2,e3,List.replicate_zero,List.nil_append];congr 2;omega
  conv=>whnf
  repeat'((first|apply st|(apply sq;intro K U)|(apply si;intro A B Y Z)|(apply Y;clear Z B Y A)|(apply U;clear U K)|apply dr|refine⟨rfl,?_⟩|refine lo ?_|(constructor<;>intro hc<;>(try rw[hc])<;>(replace hc:=bp hc)<;>try(exfalso;omega))|fail)<;>conv=>whnf)
  all_goals try(exfalso;omega)
  refine Yw ?_
  conv=>whnf
  repeat'((first|apply dr|fail)<;>conv=>whnf)
  refine gl ?_
  conv=>whnf
  repeat'((first|apply dr|fail)<;>conv=>whnf)
  rw[KF,show((n:Int) - m).toNat=n - m by omega];refine pE hs 0 rfl (by rw[hlen];omega) (by rw[hlen];omega) (fun e he=>(hgl e he).1) (fun e he=>(hgl e he).2) fun σ hs=>?_
  rw[hcpy]at hs
  conv=>whnf
  repeat'((first|(apply Y;clear Z B Y A)|apply dr|refine⟨rfl,?_⟩|clear U K)<;>conv=>whnf)
  refine⟨m+min m (n - m),by omega,?_,⟨by omega,by omega⟩,hs⟩;rw[wrap64 (by omega) (by omega)];rfl
 ·have hme:m=n:=by omega
  subst hme
  conv=>whnf
  repeat'((first|apply st|(apply sq;intro K U)|(apply si;intro A B Y Z)|(apply Y;clear Z B Y A)|(apply U;clear U K)|refine⟨rfl,?_⟩|refine lo ?_|(constructor<;>intro hc<;>(try rw[hc])<;>(replace hc:=bp hc)<;>try(exfalso;omega))|clear U K)<;>conv=>whnf)
  all_goals try(exfalso;omega)
  refine Ap hs (List.Sublist.refl _) (.refl _) fun σ' hs'=>⟨_,⟨_,rfl,?_,rfl⟩,hs'⟩
  simp[iL]
def Ps (op:Int):V:=
 if op=5 then .KJ 207 (.a [])else
 if op=1∨op=2∨op=3∨op=6∨op=18 then .KJ 205 (eI 0)else
 if op=4∨op=8∨op=17 then .KJ 205 (eI 1)else
 if op=7∨op=9∨op=11∨op=12∨op=13∨op=14∨op=15∨op=16 then .KJ 205 (eI 2)else
 if op=10 then .KJ 205 (eI 3)else .Ie
def X2 (op:Int):Pure Tryz.prog 169 [eI op] (Ps op):=by
 refine lq kZ ?_;have hs:=Sn
 conv=>whnf
 repeat'((first|apply st|(apply sq;intro K U)|(apply si;intro A B Y Z)|(apply Y;clear Z B Y A)|(apply U;clear U K)|refine⟨rfl,?_⟩|(constructor<;>intro hc<;>(try rw[hc])<;>(replace hc:=bp hc))|clear U K)<;>conv=>whnf)
 all_goals exact AI (by simp[Ps, *])
def og (n:Int) (p:Prog) (x:Node):Pure Tryz.prog 306 [eI n,.a (BR p),.a (It x)] (eI n):=by
 refine ji kZ ?_;have hs:=Sn
 conv=>whnf
 repeat'((first|apply st|(apply sq;intro K U)|(apply si;intro A B Y Z)|(apply Y;clear Z B Y A)|(apply U;clear U K)|fail)<;>conv=>whnf)
 all_goals exact AI rfl
def fI (p:Prog) (x:Node) (h0:0≤x.n) (h1:x.n<p.Cx.length):Pure Tryz.prog 307 [.a [],.a (BR p),.a (It x)] (eI (p.Cx.getD x.n.toNat 0)):=by
 refine Pure.fit (by kernel_rfl) fun hf=>?_
 have⟨p1,p2,p3,p4⟩:=Ff hf.2.1
 have hx:p.Cx[x.n.toNat]? =some (p.Cx.getD x.n.toNat 0):=by
  rw[DY,DJ (by omega)];rfl
 refine jh kZ ?_;have hs:=Sn
 conv=>whnf
 repeat'((first|apply st|(apply sq;intro K U)|(apply si;intro A B Y Z)|(apply Y;clear Z B Y A)|(apply U;clear U K)|refine GX ?_|fail)<;>conv=>whnf)
 all_goals exact AI rfl
end Go.Gl
namespace Go.Gl
variable {P:Program} {σ:AH}
def Sat.up {σ':AH} {l:List At} (h:Sat σ l) (hs:Sub σ σ'):Sat σ' l:=by
 refine⟨fun a ha=>?_,h.2⟩;have:=h.1 a ha;cases a with
 | obj n o=>exact hs n o this
 | own v sz es=>
   rcases this with h|⟨n,cap,e,hn⟩
   ·exact .inl h
   ·exact .inr ⟨n,cap,e,hs n _ hn⟩
def Sat.del {l:List At} {n:Nat} {o:O} (h:Sat σ (.obj n o::l)):Sat (del σ n) l:=by
 refine⟨fun b hb=>FC (h.1 b (.tail _ hb)) fun m hm=>?_,(List.pairwise_cons.1 h.2).2⟩;rw[G2];intro e;subst e;exact(List.pairwise_cons.1 h.2).1 b hb m rfl hm
def Sat.Jm {l:List At} {n:Nat} {o:O} (h:Sat σ l) (hn:σ n=none):Sat (BA σ n o) (.obj n o::l):=(Y1 h hn).nt
def Sat.new {l:List At} {n:Nat} {o o':O} (h:Sat σ (.obj n o::l)):Sat (BA σ n o') (.obj n o'::l):=gy (i:=0) h rfl o'
def AQ {v:V} {Q:R→AH→Prop} (h:Q (.ret v) σ):A2 σ v Q:=⟨v,σ,fun _ _ h=>h,.refl v,h⟩
inductive Rd (S:Type) where
 | go (s:S)
 | stop (st:nz) (s:S)
 | C2 (v:V)
def cn {S:Type} (L:Nat) (E:Env) (ok:FuncId→Array Tmp→Code→Code→Nat→Prop) (H:S→List At) (J:S→Prop) (rest:List At) (yes no:V):Rd S→R→AH→Prop
 | .go s,r,σ=>r= .ret yes∧Sat σ (.obj L (.loop .ready E ok)::(H s++rest))
 | .stop st s,r,σ=>r= .ret no∧Sat σ (.obj L (.loop st E ok)::(H s++rest))
 | .C2 v,r,σ=>r= .C2 v∧ ∃s,J s∧Sat (del σ L) (H s++rest)
def Lp {α S:Type} (P:Program) (L:Nat) (E:Env) (ok:FuncId→Array Tmp→Code→Code→Nat→Prop) (ea:α→List V) (H:S→List At) (J:S→Prop) (stp:α→S→Rd S) (D:α→S→Prop):Prop:=
 ∀y s,D y s→ ∀(rest:List At) (σ:AH),Sat σ (.obj L (.loop .ready E ok)::(H s++rest))→NZ P L (ea y) σ (cn L E ok H J rest (.b true) (.b false) (stp y s))
def Lp.use {α S:Type} {L:Nat} {E:Env} {ok:FuncId→Array Tmp→Code→Code→Nat→Prop} {ea:α→List V} {H:S→List At} {J:S→Prop} {stp:α→S→Rd S} {D:α→S→Prop} (h:Lp P L E ok ea H J stp D) {y:α} {s:S} (hd:D y s) {rest:List At} (hs:Sat σ (.obj L (.loop .ready E ok)::(H s++rest)))
    {Q:R→AH→Prop} (hk: ∀r σ',cn L E ok H J rest (.b true) (.b false) (stp y s) r σ'→Q r σ'):A5 P (.f (.yield L) [] []) (ea y) σ Q:=(h y s hd rest σ hs).mono hk
def O7 {L:Nat} {env:Env} {ps:List Nat} {a b:AJ} (hσ:σ L=some (.loop .ready env (B8 P ps a b))) {args:List V} (hl:args.length=ps.length) {Q:R→AH→Prop}
    (h:W P a (Cp (W P b fun ex env' σ'=>σ' L=none→RP L env (B8 P ps a b) Q ex env' σ')) (Jv ps args env) (del σ L)):NZ P L args σ Q:=
 VV hσ hl (Uj h (Jd fun _ _ h=>gg h))
def MW {α S:Type} {L:Nat} {E:Env} {ps:List Nat} {a b:AJ} {ea:α→List V} {H:S→List At} {J:S→Prop} {stp:α→S→Rd S} {D:α→S→Prop} (hl: ∀y,(ea y).length=ps.length)
    (h: ∀y s,D y s→ ∀(rest:List At) (σ:AH),Sat σ (H s++rest)→W P a (Cp (W P b fun ex env' σ'=>σ' L=none→RP L E (B8 P ps a b) (cn L E (B8 P ps a b) H J rest (.b true) (.b false) (stp y s)) ex env' σ')) (Jv ps (ea y) E) σ):Lp P L E (B8 P ps a b) ea H J stp D:=
 fun y s hd rest σ hs=>O7 (hs.get (i:=0) rfl) (hl y) (h y s hd rest _ hs.del)
def S7 {S:Type} {L:Nat} {E:Env} {ok:FuncId→Array Tmp→Code→Code→Nat→Prop} {H:S→List At} {J:S→Prop} {rest:List At} {o:Rd S} {s:S} (h:o= .go s) (hs:Sat σ (H s++rest)) (hn:σ L=none) :
    cn L E ok H J rest (.b true) (.b false) o (.ret (.b true)) (BA σ L (.loop .ready E ok)):=by
 subst h;exact⟨rfl,hs.Jm hn⟩
def Ut {S:Type} {L:Nat} {E:Env} {ok:FuncId→Array Tmp→Code→Code→Nat→Prop} {H:S→List At} {J:S→Prop} {rest:List At} {o:Rd S} {s:S} {st:nz} (h:o= .stop st s) (hs:Sat σ (H s++rest)) (hn:σ L=none) :
    cn L E ok H J rest (.b true) (.b false) o (.ret (.b false)) (BA σ L (.loop st E ok)):=by
 subst h;exact⟨rfl,hs.Jm hn⟩
def P8 {S:Type} {L:Nat} {E:Env} {ok:FuncId→Array Tmp→Code→Code→Nat→Prop} {H:S→List At} {J:S→Prop} {rest:List At} {o:Rd S} {s:S} {v:V} (h:o= .C2 v) (hj:J s) (hs:Sat σ (H s++rest)) (hn:σ L=none) :
    cn L E ok H J rest (.b true) (.b false) o (.C2 v) σ:=by
 subst h;refine⟨rfl,s,hj,fun a ha=>FC (hs.1 a ha) fun n hd=>?_,hs.2⟩;obtain⟨o,ho⟩:=Cz (hs.1 a ha) hd;rw[G2];intro e;subst e;rw[hn]at ho;cases ho
def Fi {L:Nat} {E env:Env} {ok:FuncId→Array Tmp→Code→Code→Nat→Prop} {Q:Ao→Env→AH→Prop} {l:List At} {v:V} (hs:Sat σ (.obj L (.loop .ready E ok)::l)) (hk: ∀σ',Sat σ' l→Q .normal env σ'):Jw L Q env (.ret v) σ:=
 ⟨_,_,_,hs.get (i:=0) rfl,hk _ hs.del⟩
def Uw {L id:Nat} {E env:Env} {ok:FuncId→Array Tmp→Code→Code→Nat→Prop} {Q:Ao→Env→AH→Prop} {l:List At} {v:V} (hs:Sat σ (.obj L (.loop (.exit id) E ok)::l)) (hk: ∀σ',Sat σ' l→Q (.exit id) env σ'):Jw L Q env (.ret v) σ:=
 ⟨_,_,_,hs.get (i:=0) rfl,hk _ hs.del⟩
end Go.Gl
namespace Go.Gl
open Go.Proofs
attribute [local irreducible] BJ A2 Ak AW AM Aj AV AX AN Ai AR AU A5 BF Sat Ad BD Al W
def FL (p:Prog) (next:Bool) (n size depth:Int) (s:List Int):Option (List Int):=
 if n<0∨(p.nodes.length:Int)≤n∨0≤s.getD n.toNat 0∨12<depth then none else
 match p.nodes[n.toNat]? with
 | none=>none
 | some x=>if D7 p next size x then some (s.set n.toNat size)else none
def Yz {S:Type}:Option S→Rd S
 | some s=> .go s
 | none=> .C2 Dr
abbrev ua (y:Int×Int×Int):List V:=[eI y.1,.a [eI y.2.1,eI y.2.2]]
abbrev hOut (nO:Nat) (v:V) (s:List Int):List At:=[.box nO [v],.own v 1 (iL s)]
abbrev dP (p:Prog) (y:Int×Int×Int) (s:List Int):Prop:=0≤y.2.1∧y.2.1≤100∧1≤y.2.2∧y.2.2≤13∧s.length=p.nodes.length
abbrev UT (p:Prog) (L nW:Nat):V:= .f (.func 214) [] [.rp [.f (.yield L) [] []],.rp (BR p),.p nW 0]
def Um {p:Prog} {next:Bool} {n size depth:Int} {s s':List Int} (h:FL p next n size depth s=some s'):0≤n∧n<(p.nodes.length:Int)∧s.getD n.toNat 0<0∧depth≤12∧ ∃x,p.nodes[n.toNat]? =some x∧D7 p next size x=true∧s'=s.set n.toNat size:=by
 unfold FL at h;split at h
 ·cases h
 ·rename_i hc
  split at h
  ·cases h
  ·rename_i x hx
   split at h
   ·rename_i hok
    simp only[IH]at h;exact⟨by omega,by omega,by omega,by omega,x,hx,hok,h.symm⟩
   ·cases h
def Ul {p:Prog} {next:Bool} {d:Nat} {n size depth:Int} {s:List Int} (hd:depth=13 - (d+1:Nat)) (hd1:1≤depth):CP p next (d+1) n size s=match FL p next n size depth s with
    | none=>none
    | some s'=>match p.nodes[n.toNat]? with
      | none=>none
      | some x=>Fe (CP p next d) x.op size 0 x.kids s':=by
 unfold FL;simp only[CP];by_cases h:n<0∨(p.nodes.length:Int)≤n∨0≤s.getD n.toNat 0
 ·rw[if_pos h,if_pos (by omega)]
 ·rw[if_neg h,if_neg (by omega)]
  cases hx:p.nodes[n.toNat]? with
  | none=>rfl
  | some x=>
    simp only;split
    ·rfl
    ·rfl
def Un {p:Prog} {next:Bool} {n size depth:Int} {s:List Int} (hd:12<depth):FL p next n size depth s=none:=by
 unfold FL;rw[if_pos (by omega)]
def QK {f:Int→Int→List Int→Option (List Int)} (hf: ∀ {a b s s'},f a b s=some s'→s'.length=s.length) {op size:Int}: ∀(i:Nat) (l:List Int) {s s':List Int},Fe f op size i l s=some s'→s'.length=s.length
 | _,[],s,s',h=>by cases h;rfl
 | i,k::r,s,s',h=>by
   simp only[Fe]at h;split at h
   ·cases h
   ·rename_i s1 h1
    exact(QK hf (i+1) r h).trans (hf h1)
def JG {p:Prog} {next:Bool}: ∀(d:Nat) {n size:Int} {s s':List Int},CP p next d n size s=some s'→s'.length=s.length
 | 0,_,_,_,_,h=>by cases h
 | d + 1,n,size,s,s',h=>by
   simp only[CP]at h;split at h
   ·cases h
   ·split at h
    ·cases h
    ·split at h
     ·exact(QK (fun h=>JG d h) 0 _ h).trans (by simp)
     ·cases h
set_option maxHeartbeats 4000000 in
def dF (p : Prog) (next:Bool) {L:Nat} {E:Env} {ok:FuncId→Array Tmp→Code→Code→Nat→Prop} {v:V} {nO:Nat}
    (hY:Lp Tryz.prog L E ok ua (hOut nO v) (fun s=>s.length=p.nodes.length) (fun y s=>Yz (FL p next y.1 y.2.1 y.2.2 s)) (dP p)) :
    ∀ d : Nat,d≤12→ ∀(n size depth:Int) (s:List Int),depth=13 - d→0≤size→size+d≤100→s.length=p.nodes.length→ ∀(nW:Nat) (rest:List At) (σ:AH),
      Sat σ (.obj L (.loop .ready E ok)::(hOut nO v s++(.box nW [UT p L nW]::rest)))→
      BJ Tryz.prog 214 [eI n,.a [eI size,eI depth],.rp [.f (.yield L) [] []],.rp (BR p),.p nW 0] σ
       (cn L E ok (hOut nO v) (fun s=>s.length=p.nodes.length) (.box nW [UT p L nW]::rest) (.b true) (.b false) (Yz (CP p next d n size s))):=by
 intro d
 induction d with
 | zero=>
   intro _ n size depth s hd h0 h1 hl nW rest σ hs;refine Zq kZ ?_
   conv=>whnf
   repeat'((first|apply st|(apply sq;intro K U)|(apply si;intro A B Y Z)|(apply Y;clear Z B Y A)|(apply U;clear U K)|refine⟨kZ,?_⟩|fail)<;>conv=>whnf)
   refine hY.use (y:=(n,size,depth)) (s:=s) ⟨h0,(by dsimp only;omega),(by dsimp only;omega),(by dsimp only;omega),hl⟩ hs ?_;rw[Un (by dsimp only;omega)];rintro r σ' ⟨rfl,s',hj,hs'⟩
   conv=>whnf
   repeat'((first|(refine Z _ _ _ ?_;clear Z B Y A)|clear U K)<;>conv=>whnf)
   exact DO ⟨rfl,s',hj,hs'⟩
 | succ d ih =>
   intro hd12 n size depth s hd h0 h1 hl nW rest σ hs;refine BJ.fit (by kernel_rfl) fun hf=>?_
   have hM:=Mx
   have hfp:FA (.a (BR p)):=by
    have:=hf.2.2.2.1;simp only[Rn]at this;simpa only[G0]using this
   have⟨p1,p2,p3,p4⟩:=Ff hfp;refine Zq kZ ?_
   conv=>whnf
   repeat'((first|apply st|(apply sq;intro K U)|(apply si;intro A B Y Z)|(apply Y;clear Z B Y A)|(apply U;clear U K)|refine⟨kZ,?_⟩|fail)<;>conv=>whnf)
   refine hY.use (y:=(n,size,depth)) (s:=s) ⟨h0,(by dsimp only;omega),(by dsimp only;omega),(by dsimp only;omega),hl⟩ hs ?_;have hw:=Ul (p:=p) (next:=next) (n:=n) (size:=size) (s:=s) hd (by omega);cases hv:FL p next n size depth s with
   | none=>
     rw[hv]at hw;rintro r σ' ⟨rfl,s',hj,hs'⟩
     conv=>whnf
     repeat'((first|(refine Z _ _ _ ?_;clear Z B Y A)|clear U K)<;>conv=>whnf)
     refine DO ?_;rw[hw];exact⟨rfl,s',hj,hs'⟩
   | some s1 =>
     obtain⟨g0,g1,g2,g3,x,hx,hok,hs1⟩:=Um hv;rw[hv]at hw;simp only[hx]at hw;have hl1:s1.length=p.nodes.length:=by rw[hs1];simpa using hl
     have hkm:=Zl hfp (B5 hx);clear hv hs1;rintro r σ1 ⟨rfl,hs⟩
     conv=>whnf
     repeat'((first|apply st|(apply sq;intro K U)|(apply si;intro A B Y Z)|(apply Y;clear Z B Y A)|(apply U;clear U K)|refine GX ?_|refine De ?_|fail)<;>conv=>whnf)
     refine B2 x.kids.length (fun k (_:List Int)=>[(23,eI (A4 k))]) (fun _ s'=> .obj L (.loop .ready E ok)::(hOut nO v s'++(.box nW [UT p L nW]::rest))) (fun k s'=>s'.length=p.nodes.length∧CP p next (d+1) n size s=Fe (CP p next d) x.op size k (x.kids.drop k) s') s1 rfl ⟨hl1,by simpa using hw⟩ hs ?_;clear hs hw;rintro k s' σ hk ⟨hl',hkids⟩ hs;rcases BC x.kids hk with⟨kid,hkid,hlt⟩|hke
     ·have hck:A4 k=k:=AL (by omega)
      rw[drop_cons hkid,Fe]at hkids;have e0:IntKind.i64.wrap (depth+1)=depth+1:=wrap64 (by omega) (by omega);have e1:IntKind.i64.wrap (size+1)=size+1:=wrap64 (by omega) (by omega)
      have hrec: ∀(sz:Int) (σ:AH) (l:List At),0≤sz→sz+d≤100→Sat σ (l++(.obj L (.loop .ready E ok)::(hOut nO v s'++(.box nW [UT p L nW]::rest))))→A5 Tryz.prog (UT p L nW) [eI kid,.a [eI sz,eI (depth+1)]] σ
       (cn L E ok (hOut nO v) (fun s=>s.length=p.nodes.length) (.box nW [UT p L nW]::rest) (.b true) (.b false) (Yz (CP p next d kid sz s'))):=fun sz σ l h0 h1 hs=>
       Bp (ih (by omega) kid sz (depth+1) s' (by omega) h0 h1 hl' nW rest σ (hs.less (List.sublist_append_right _ _)))
      conv=>whnf
      repeat'((first|apply st|(apply sq;intro K U)|(apply si;intro A B Y Z)|(apply Y;clear Z B Y A)|(apply U;clear U K)|refine⟨rfl,?_⟩|refine⟨kZ,?_⟩|refine ix ?_|refine GX ?_|refine ld ?_|refine FB fun σ hs=>?_|refine Dy fun σ hs=>?_|(refine CK (fun hc=>?_)<;>(try rw[hc])<;>clear hc)|(constructor<;>intro hc<;>(try rw[hc])<;>(replace hc:=bp hc)<;>(try simp(disch:=omega) only[BQ,wrap64,AL]at hc))|(intro nn hnn;generalize hg:BA _ nn _=σ;refine Ct hg fun hs=>?_;clear hg)|fail)<;>conv=>whnf)
      all_goals
       simp only[e0,e1]
       first
        | rw[if_pos (by omega)]at hkids
          refine(hrec (size+1) _ [_] (by omega) (by omega) hs).mono ?_
        | rw[if_neg (by omega)]at hkids
          refine(hrec size _ [_] (by omega) (by omega) hs).mono ?_
       cases hw:CP p next d kid _ s' with
       | none=>
         rw[hw]at hkids;rintro r σ' ⟨rfl,s',hj,hs'⟩
         conv=>whnf
         repeat'((first|(refine Z _ _ _ ?_;clear Z B Y A)|clear U K)<;>conv=>whnf)
         refine DO ?_;rw[hkids];exact⟨rfl,s',hj,hs'⟩
       | some s2=>
         rw[hw]at hkids;rintro r σ' ⟨rfl,hs'⟩
         conv=>whnf
         repeat'((first|apply st|(apply si;intro A B Y Z)|(apply Y;clear Z B Y A)|(apply U;clear U K)|refine⟨rfl,?_⟩|refine De ?_|clear U K)<;>conv=>whnf)
         exact⟨hlt,s2,rfl,⟨(JG _ hw).trans hl',hkids⟩,hs'⟩
     ·rw[Ah hke,Fe]at hkids
      conv=>whnf
      repeat'((first|apply st|(apply sq;intro K U)|(apply si;intro A B Y Z)|(apply Y;clear Z B Y A)|(apply U;clear U K)|refine⟨rfl,?_⟩|(refine DR (fun hc=>?_)<;>(try rw[hc])<;>clear hc)|clear U K)<;>conv=>whnf)
      refine AQ ?_;rw[hkids];exact⟨rfl,hs⟩
def gi {a b:Nat} {A B:Prop} (e:a=b) (h:A):(a=b→A)∧(a≠b→B):=⟨fun _=>h,fun n=>absurd e n⟩
def uh {a b:Nat} {A B:Prop} (e:a≠b) (h:B):(a=b→A)∧(a≠b→B):=⟨fun n=>absurd n e,fun _=>h⟩
def aL {P:Program} {σ:AH} {tab:List (TypeId×FuncId)} {t:TypeId} {f:FuncId} {v:V} {args:List V} {Q:R→AH→Prop} (h:look t tab=some f) (hc:BJ P f (v::args) σ Q):BF P tab (.KJ t v) args σ Q:=by
 unfold BF;simp only[h];exact hc
def cB (p:Prog) (n size depth:Int):Pure Tryz.prog 167 [.a (BR p),eI n,.a [eI size,eI depth]] (.f (.func 213) [] [.rp (BR p),.rp [eI n],.rp [eI size,eI depth]]):=by
 refine lu kZ ?_;have hs:=Sn
 conv=>whnf
 repeat'((first|apply st|(apply sq;intro K U)|(apply si;intro A B Y Z)|(apply Y;clear Z B Y A)|(apply U;clear U K)|fail)<;>conv=>whnf)
 all_goals exact AI rfl
set_option maxHeartbeats 4000000 in
def jb (p:Prog) (next:Bool) {L:Nat} {E:Env} {ok:FuncId→Array Tmp→Code→Code→Nat→Prop} {v:V} {nO:Nat}
    (hY:Lp Tryz.prog L E ok ua (hOut nO v) (fun s=>s.length=p.nodes.length) (fun y s=>Yz (FL p next y.1 y.2.1 y.2.2 s)) (dP p)) (n size:Int) (s:List Int) (h0:0≤size) (h1:size≤20) (hl:s.length=p.nodes.length) (rest:List At) (σ:AH)
    (hs : Sat σ (.obj L (.loop .ready E ok)::(hOut nO v s++rest))) :
     BJ Tryz.prog 213 [.f (.yield L) [] [],.rp (BR p),.rp [eI n],.rp [eI size,eI 1]] σ
      (cn L E ok (hOut nO v) (fun s=>s.length=p.nodes.length) rest (.t []) (.t []) (Yz (CP p next 12 n size s))):=by
 refine lB kZ ?_
 conv=>whnf
 repeat'((first|apply st|(apply sq;intro K U)|(apply si;intro A B Y Z)|(apply Y;clear Z B Y A)|(apply U;clear U K)|refine⟨kZ,?_⟩|refine ld ?_|refine FB fun σ hs=>?_|(intro nn hnn;generalize hg:BA _ nn _=σ;refine Ct hg fun hs=>?_;clear hg)|fail)<;>conv=>whnf)
 have hp:Sat σ (.obj L (.loop .ready E ok)::(hOut nO v s++(.box nn [UT p L nn]::rest))):=hs.perm (by
  refine(List.Perm.swap _ _ _).trans (.cons _ ?_)
  exact(List.perm_middle (l₁:=hOut nO v s)).symm)
 refine Bp ((dF p next hY 12 (JT _) n size 1 s rfl h0 (by omega) hl nn rest σ hp).mono ?_);cases hw:CP p next 12 n size s with
 | none=>
   rintro r σ' ⟨rfl,s',hj,hs'⟩
   conv=>whnf
   repeat'((first|(refine Z _ _ _ ?_;clear Z B Y A)|fail)<;>conv=>whnf)
   refine DO ?_;rw[hw];exact⟨rfl,s',hj,hs'.less (List.Sublist.append_left (Ji _ _) _)⟩
 | some s2=>
   rintro r σ' ⟨rfl,hs'⟩
   conv=>whnf
   repeat'((first|(apply Y;clear Z B Y A)|fail)<;>conv=>whnf)
   refine AQ ?_;rw[hw];exact⟨rfl,hs'.less (.cons₂ _ (List.Sublist.append_left (Ji _ _) _))⟩
def Tr (p:Prog) (x:Node):(x.op=5∧Ps x.op= .KJ 207 (.a []))∨(x.op≠5∧ ∃m:Int,Ps x.op= .KJ 205 (eI m)∧Ir p x=m)∨(Ps x.op= .Ie∧Ir p x= -1):=by
 unfold Ps Ir;by_cases h5:x.op=5
 ·exact .inl ⟨h5,by rw[if_pos h5]⟩
 ·rw[if_neg h5]
  split
  ·exact .inr (.inl ⟨h5,_,rfl,rfl⟩)
  split
  ·exact .inr (.inl ⟨h5,_,rfl,rfl⟩)
  split
  ·exact .inr (.inl ⟨h5,_,rfl,rfl⟩)
  split
  ·exact .inr (.inl ⟨h5,_,rfl,rfl⟩)
  ·exact .inr (.inr ⟨rfl,by rw[if_neg (by rintro⟨h,_⟩;exact h5 h)]⟩)
def Ri {p:Prog} {x:Node} (h:x.op=5) {size:Int} (hn:Lc p x size=true):0≤x.n∧x.n<p.Cx.length∧Ir p x=p.Cx.getD x.n.toNat 0:=by
 have h2:0≤x.n∧x.n<p.Cx.length:=by
  simp only[Lc,h]at hn;simpa using hn
 refine⟨h2.1,h2.2,?_⟩;unfold Ir;rw[h,if_neg (by decide),if_neg (by decide),if_neg (by decide),if_neg (by decide),if_pos ⟨rfl,h2.1,h2.2⟩]
def aR {p:Prog} {next:Bool} {n size depth:Int} {s:List Int} (h:n<0∨(p.nodes.length:Int)≤n∨0≤s.getD n.toNat 0∨12<depth):FL p next n size depth s=none:=by
 unfold FL;rw[if_pos h]
def aS {p:Prog} {next:Bool} {n size depth:Int} {s:List Int} {y:Int} {x:Node} (h0:0≤n) (h1:n<(p.nodes.length:Int)) (hy:s[n.toNat]? =some y) (hy0:y<0) (hd:depth≤12) (hx:p.nodes[n.toNat]? =some x):FL p next n size depth s=if D7 p next size x then some (s.set n.toNat size)else none:=by
 have e:s.getD n.toNat 0=y:=by rw[DY,hy];rfl
 unfold FL;rw[if_neg (by rw[e];omega),hx]
def qa (p:Prog) (nO:Nat) (v:V) (rest:List At) (o:Option (List Int)) (r:R) (σ:AH):Prop:=
 match o with
 | some s=>r= .ret (.t [])∧Sat σ (hOut nO v s++rest)
 | none=>r= .C2 Dr∧ ∃s:List Int,s.length=p.nodes.length∧Sat σ (hOut nO v s++rest)
set_option maxHeartbeats 4000000 in
def Rq (p:Prog) (next:Bool) {v:V} {nO:Nat} (hv:(B7 v).isSome=true) (n size:Int) (s:List Int) (h0:0≤size) (h1:size≤20) (hl:s.length=p.nodes.length) (rest:List At) (σ:AH) (hs:Sat σ (hOut nO v s++rest)) :
    BJ Tryz.prog 166 [eI n,eI size,.b next,.rp (BR p),.p nO 0] σ (qa p nO v rest (CP p next 12 n size s)):=by
 refine BJ.fit (by kernel_rfl) fun hf=>?_
 have hM:=Mx
 have hfp:FA (.a (BR p)):=by
  have:=hf.2.2.2.1;simp only[Rn]at this;simpa only[G0]using this
 have⟨p1,p2,p3,p4⟩:=Ff hfp;refine ly kZ ?_
 conv=>whnf
 repeat'((first|apply st|(apply sq;intro K U)|(apply si;intro A B Y Z)|(apply Y;clear Z B Y A)|(apply U;clear U K)|refine⟨kZ,?_⟩|refine Pure.use (cB _ _ _ _) ?_|(intro nn hnn;generalize hg:BA _ nn _=σ;refine Ct hg fun hs=>?_;clear hg)|fail)<;>conv=>whnf)
 refine BJ.mono (jb p next (L:=nn) (v:=v) (nO:=nO) ?_ n size s h0 h1 hl rest σ hs) ?_
 ·refine MW (fun y=>rfl) ?_
  clear hs hnn hl h0 h1;rintro⟨k,sz,dp⟩ s ⟨d0,d1,d2,d3,hl⟩ rest σ hs;dsimp only at d0 d1 d2 d3 hl;dsimp only;rw[show ua (k,sz,dp)= [eI k,.a [eI sz,eI dp]] from rfl]
  conv=>whnf
  repeat'((first|apply st|(apply sq;intro K U)|(apply si;intro A B Y Z)|(apply Y;clear Z B Y A)|(refine Z _ _ _ ?_;clear Z B Y A)|(refine Z _ _ fun σ hsub=>?_;clear Z B Y A)|(apply U;clear U K)|apply dr|refine rk ?_ ?_|exact fun s e=>by cases e;rfl|refine⟨rfl,?_⟩|refine⟨kZ,?_⟩|refine iq fun x hx=>?_|refine ld ?_|refine Dy fun σ hs=>?_|refine oi ?_|refine ol fun x hx=>?_|refine oset fun σ hs=>?_|refine Er ?_|refine De ?_|(refine Cs (fun hc=>?_) (fun hc=>?_)<;>(replace hc:=bp hc)<;>(try simp(disch:=omega) only[BQ,wrap64,AL]at hc)<;>(try(cases hc;done)))|refine Pure.use (Xr _ _ _) ?_|refine Pure.use (X2 _) ?_|(rcases Tr p (by assumption)with⟨e5,ek⟩|⟨e5,m,ek,hm⟩|⟨ek,hm⟩<;>rw[ek]<;>clear ek)|refine gi rfl ?_|refine uh (by decide) ?_|refine aL rfl (Pure.use (og _ _ _) ?_)|refine aL rfl (Pure.use (fI _ _ (Ri (by assumption) (by assumption)).1 (Ri (by assumption) (by assumption)).2.1) ?_)|(constructor<;>intro hc<;>(try rw[hc])<;>(replace hc:=bp hc)<;>(try simp(disch:=omega) only[BQ,wrap64,AL]at hc))|(intro nn hnn;generalize hg:BA _ nn _=σ;refine Ct hg fun hs=>?_;clear hg)|clear U K)<;>conv=>whnf)
  all_goals first
   | (intro hn;refine P8 (s:=s) (by rw[aR (by first|omega|(rw[DY,‹s[k.toNat]? =some _›];simp only[Option.getD_some];omega))];rfl) hl (hs.less (by repeat first|exact List.Sublist.refl _|apply List.Sublist.cons)) hn)
   | skip
  all_goals
   have hva:=aS (next:=next) (size:=sz) (depth:=dp) (show 0≤k by omega) (show k<(p.nodes.length:Int) by omega) ‹s[k.toNat]? =some _› (by assumption) (by omega) ‹p.nodes[k.toNat]? =some _›
   rename Node=>x
   have hk5:x.op=5→Lc p x sz=true→Ir p x=p.Cx.getD x.n.toNat 0:=fun h hn=>(Ri h hn).2.2
   intro hn
  all_goals first
   | (rw[if_neg (by first|(intro h;rw[D7,hk5 (by assumption) (by assumption)]at h;simp only[BY,Dx]at h;exact absurd h.1 (by assumption))|(simp[D7, *];done)|(simp[D7, *];omega)|(rw[D7,hk5 (by assumption) (by assumption)];simp[*];done)|(simp[D7, *];intros;omega))]at hva
      refine P8 (s:=s.set k.toNat sz) (by rw[hva];rfl) (by simpa using hl) ?_ hn
      first
       | exact hs.less (by repeat first|exact List.Sublist.refl _|apply List.Sublist.cons)
       | exact(hs.less (by repeat first|exact List.Sublist.refl _|apply List.Sublist.cons)).up (by assumption))
   | (rw[if_pos (by first|(simp[D7, *];done)|(rw[D7,hk5 (by assumption) (by assumption)];simp[*];done))]at hva
      exact S7 (s:=s.set k.toNat sz) (by rw[hva];rfl) (hs.less (by repeat first|exact List.Sublist.refl _|apply List.Sublist.cons)) hn)
 ·cases hw:CP p next 12 n size s with
  | none=>
    rintro r σ' ⟨rfl,s',hj,hs'⟩
    conv=>whnf
    exact DO ⟨rfl,s',hj,hs'⟩
  | some s2=>
    rintro r σ' ⟨rfl,hs'⟩;refine Fi hs' fun σ2 hs2=>?_
    conv=>whnf
    exact AQ ⟨rfl,hs2⟩
def CQ (w:AK):Prop:=IN w.parents∧w.owner.length≤40∧ ∀o∈w.owner,(3:Int)≤o∧o<3+(w.parents.length:Int)
def UK (us:List Nat) (l:List Int) (s:Nat):Nat:=l.foldl (fun s c=>s|||us.getD c.toNat 0) s
def Cj (g:List (List Int)):Nat→List Nat
 | 0=>[1,3,5]
 | k+1=>Cj g k++[UK (Cj g k) (g.getD k []) (1|||2 ^ (3+k))]
def CE (g:List (List Int)):List Nat:=Cj g g.length
def cw (us:List Nat):List V:=us.map eU++List.replicate (63 - us.length) (eU 0)
def wC (w:AK) (us:List Nat):List V:=BE w++cw us
def Eh (g:List (List Int)): ∀k,(Cj g k).length=3+k
 | 0=>rfl
 | k+1=>by simp[Cj,Eh g k];omega
def ZM (w:AK) {us:List Nat} (h:us.length≤63):(wC w us).length=65:=by
 simp only[wC,BE,cw,PK,KH,List.length_nil,BQ,List.length_replicate];omega
def ZL (w:AK) (us:List Nat) (s:Nat) (h:us.length<63):(wC w us).set (2+us.length) (eU s)=wC w (us++[s]):=by
 simp only[wC,cw];rw[List.set_append_right _ _ (by simp[BE])];congr 1;have e:2+us.length - (BE w).length=us.length:=by simp[BE]
 rw[e,List.set_append_right _ _ (by simp)];rw[BQ,Nat.sub_self,R9,UC];congr 1;rw[show 63 - us.length=(63 - (us++[s]).length)+1 by simp;omega,List.replicate_succ];rfl
def Vo (w:AK) (us:List Nat) {i:Nat} (h:i<us.length):(wC w us)[2+i]? =some (eU (us.getD i 0)):=by
 simp only[wC,cw];rw[List.getElem?_append_right (by simp[BE]),show 2+i - (BE w).length=i by simp[BE],gW (by simpa using h),Pc,DJ h,DY,DJ h];rfl
def nh (us:List Nat):Prop:= ∀u∈us,u<18446744073709551616
def Li {us:List Nat} (h:nh us) (i:Nat):us.getD i 0<18446744073709551616:=by
 rw[DY];cases hx:us[i]? with
 | none=>simp
 | some x=>exact h x (B5 hx)
def RU {us:List Nat} (h:nh us): ∀(l:List Int) (s:Nat),s<18446744073709551616→UK us l s<18446744073709551616
 | [],_,hs=>hs
 | c::r,s,hs=>RU h r _ (KV hs (Li h _))
def HS (g:List (List Int)): ∀k,k≤60→nh (Cj g k)
 | 0,_=>by intro u hu;simp[Cj]at hu;omega
 | k+1,hk=>by
   intro u hu;simp only[Cj,Fs,LV]at hu;rcases hu with hu|rfl
   ·exact HS g k (by omega) u hu
   ·exact RU (HS g k (by omega)) _ _ (KV (by decide) (Jp (by omega)))
def ib (w:AK) (us:List Nat) (c:Int) {n:Nat} (hM:w.parents.length≤60):Bk Tryz.prog 178 [.p n 0,eI c] [.box n (wC w us)] fun r post=>r= .ret (.b (decide (3≤c)&&decide (c<3+(w.parents.length:Int))))∧post= [.box n (wC w us)]:=by
 intro σ hs;have hw:IntKind.i64.wrap (3+((Ec w.parents).length:Nat))=3+(w.parents.length:Int):=by rw[BQ,wrap64 (by omega) (by omega)]
 refine Zs kZ ?_
 conv=>whnf
 repeat'((first|apply st|(apply sq;intro K U)|(apply si;intro A B Y Z)|(apply Y;clear Z B Y A)|(apply U;clear U K)|refine⟨rfl,?_⟩|refine ld ?_|(constructor<;>intro hc<;>(try rw[hc])<;>(replace hc:=bp hc))|fail)<;>conv=>whnf)
 ·refine AQ ⟨_,⟨?_,rfl⟩,hs⟩
  rw[hw,decide_eq_true (show 3≤c by omega)];rfl
 ·refine AQ ⟨_,⟨?_,rfl⟩,hs⟩
  rw[decide_eq_false (show¬3≤c by omega)];rfl
def dg (w:AK) (us:List Nat) (c:Int) (hM:w.parents.length≤60):Pure Tryz.prog 178 [.rp (wC w us),eI c] (.b (decide (3≤c)&&decide (c<3+(w.parents.length:Int)))):=by
 have hw:IntKind.i64.wrap (3+((Ec w.parents).length:Nat))=3+(w.parents.length:Int):=by rw[BQ,wrap64 (by omega) (by omega)]
 refine Zs kZ ?_;have hs:=Sn
 conv=>whnf
 repeat'((first|apply st|(apply sq;intro K U)|(apply si;intro A B Y Z)|(apply Y;clear Z B Y A)|(apply U;clear U K)|refine⟨rfl,?_⟩|(constructor<;>intro hc<;>(try rw[hc])<;>(replace hc:=bp hc))|fail)<;>conv=>whnf)
 ·refine AI ?_
  rw[hw,decide_eq_true (show 3≤c by omega)];rfl
 ·refine AI ?_
  rw[decide_eq_false (show¬3≤c by omega)];rfl
def bt (w:AK) (us:List Nat) (c:Int) (hM:w.parents.length≤60):Pure Tryz.prog 222 [.rp (wC w us),eI c] (.b (NT w c)):=by
 have hw:IntKind.i64.wrap (3+((Ec w.parents).length:Nat))=3+(w.parents.length:Int):=by rw[BQ,wrap64 (by omega) (by omega)]
 refine kx kZ ?_;have hs:=Sn
 conv=>whnf
 repeat'((first|apply st|(apply sq;intro K U)|(apply si;intro A B Y Z)|(apply Y;clear Z B Y A)|(apply U;clear U K)|refine⟨rfl,?_⟩|(constructor<;>intro hc<;>(try rw[hc])<;>(replace hc:=bp hc))|fail)<;>conv=>whnf)
 ·refine AI ?_
  rw[hw,NT,decide_eq_true (show 0≤c by omega)];rfl
 ·refine AI ?_
  rw[NT,decide_eq_false (show¬0≤c by omega)];rfl
def dS (w:AK) (us:List Nat) (c:Int) (hM:w.owner.length≤60):Pure Tryz.prog 254 [.rp (wC w us),eI c] (.b (HM w c)):=by
 refine kI kZ ?_;have hs:=Sn
 conv=>whnf
 repeat'((first|apply st|(apply sq;intro K U)|(apply si;intro A B Y Z)|(apply Y;clear Z B Y A)|(apply U;clear U K)|refine⟨rfl,?_⟩|(constructor<;>intro hc<;>(try rw[hc])<;>(replace hc:=bp hc))|fail)<;>conv=>whnf)
 ·refine AI ?_
  rw[HM,decide_eq_true (show 0≤c by omega),BQ];rfl
 ·refine AI ?_
  rw[HM,decide_eq_false (show¬0≤c by omega)];rfl
def dd (w:AK) (us:List Nat) (l:List Int) (f:Bool) (hM:w.owner.length≤60):Pure Tryz.prog 221 [.rp (wC w us),.l (iL l) f] (.b (Es w l)):=by
 have hall:=fM (g:=254) (fi:=[.rp (wC w us)]) (ca:=[]) (f:=HM w) (xs:=l) f (fun y _=>dS w us y hM);refine ky kZ ?_;have hs:=Sn
 conv=>whnf
 repeat'((first|apply st|(apply sq;intro K U)|(apply si;intro A B Y Z)|(apply Y;clear Z B Y A)|(apply U;clear U K)|refine⟨rfl,?_⟩|(constructor<;>intro hc<;>(try rw[hc])<;>(replace hc:=bp hc)<;>(try simp(disch:=omega) only[BQ,wrap64,AL]at hc))|refine Pure.use (by assumption) ?_|fail)<;>conv=>whnf)
 ·refine AI ?_
  rw[Es,decide_eq_true (show l.length≤2 by omega),Bool.and_true];rfl
 ·refine AI ?_
  rw[Es,decide_eq_false (show¬l.length≤2 by omega),Bool.and_false];rfl
def HR (s:Nat) (c:Int) (hs0:s<18446744073709551616) (h0:0≤c) (hc:c<64):Pure Tryz.prog 176 [eU s,eI c] (eU (s|||2 ^ c.toNat)):=by
 have:=V1 s c.toNat hs0 (by omega);rw[Int.toNat_of_nonneg h0]at this;exact this
def wu {k:Nat} (h:k<3):([1,3,5]:List Nat).take k++[1|||2 ^ k]= [1,3,5].take (k+1):=by
 rcases k with _|_|_|k
 ·rfl
 ·rfl
 ·rfl
 ·omega
set_option maxHeartbeats 4000000 in
def dk (w : AK) (hw:CQ w):Pure Tryz.prog 139 [.a (BE w)] (.t [.rp (wC w (CE w.parents)),.b true]):=by
 obtain⟨⟨hl,hrow⟩,ho,how⟩:=hw;have hM:=Mx;refine Pure.of ?_;refine mT kZ ?_;have hs:=Sn;have hi1:((Ec w.parents).length:Int)≤60:=by rw[BQ];omega
 have hi2:((iL w.owner).length:Int)≤40:=by rw[BQ];omega
 conv=>whnf
 repeat'((first|apply st|(apply sq;intro K U)|(apply si;intro A B Y Z)|(apply Y;clear Z B Y A)|(apply U;clear U K)|refine⟨rfl,?_⟩|refine⟨kZ,?_⟩|(constructor<;>intro hc<;>(try rw[hc])<;>(replace hc:=bp hc)<;>(try simp(disch:=omega) only[BQ,wrap64,AL]at hc)<;>try(exfalso;omega))|(intro nn hnn;generalize hg:BA _ nn _=σ;refine Ct hg fun hs=>?_;clear hg)|fail)<;>conv=>whnf)
 generalize nn=n0 at *;refine B2 3 (fun k (_:Unit)=>[(24,eI (A4 k))]) (fun k _=>[.box n0 (wC w ([1,3,5].take k))]) (fun k _=>True) () rfl trivial hs ?_;clear hs;rintro k - σ hk - hs;have hck:A4 k=k:=AL (by omega);have hlen:(([1,3,5]:List Nat).take k).length=k:=by simp;omega
 by_cases hlt:k<3
 ·have hst:=ZL w ([1,3,5].take k) (1|||2 ^ k) (by omega)
  rw[hlen,wu hlt]at hst
  conv=>whnf
  repeat'((first|apply st|(apply sq;intro K U)|(apply si;intro A B Y Z)|(apply Y;clear Z B Y A)|(apply U;clear U K)|apply dr|refine⟨rfl,?_⟩|refine UE ?_|refine Pure.use (HR 1 _ (by decide) (by omega) (by omega)) ?_|(constructor<;>intro hc<;>(try rw[hc])<;>(replace hc:=bp hc)<;>(try simp(disch:=omega) only[BQ,wrap64,AL]at hc)<;>try(exfalso;omega))|fail)<;>conv=>whnf)
  refine Kh hs 0 rfl rfl (by rw[ZM w (by omega)];omega) fun σ hs=>?_
  conv=>whnf
  repeat'((first|(apply si;intro A B Y Z)|(apply Y;clear Z B Y A)|(apply U;clear U K)|apply dr|refine⟨rfl,?_⟩|clear U K)<;>conv=>whnf)
  refine⟨hlt,(),rfl,trivial,?_⟩;rw[hck,KF,Nat.mul_one,HA]at hs;simp only[List.set_cons_zero]at hs;rw[hst]at hs;exact hs
 ·have hke:k=3:=by omega
  subst hke;clear hk hck hlen hlt
  conv=>whnf
  repeat'((first|apply st|(apply sq;intro K U)|(apply si;intro A B Y Z)|(apply Y;clear Z B Y A)|(apply U;clear U K)|refine⟨rfl,?_⟩|(constructor<;>intro hc<;>(try rw[hc])<;>(replace hc:=bp hc)<;>(try simp(disch:=omega) only[BQ,wrap64,AL]at hc)<;>try(exfalso;omega))|clear U K)<;>conv=>whnf)
  refine B2 w.parents.length (fun k (_:Unit)=>[(38,eI (A4 k))]) (fun k _=>[.box n0 (wC w (Cj w.parents k))]) (fun k _=>True) () rfl trivial hs ?_;clear hs;rintro k - σ hk - hs;have hck:A4 k=k:=AL (by omega);have hul:=Eh w.parents k;have huo:=HS w.parents k (by omega);have hw3:IntKind.i64.wrap (3+(k:Int))=3+(k:Int):=wrap64 (by omega) (by omega);rcases BC w.parents hk with⟨row,hr,hlt⟩|hke
  ·obtain⟨r1,r2,r3⟩:=hrow k row hr
   rw[←hck]at hw3
   conv=>whnf
   repeat'((first|apply st|(apply sq;intro K U)|(apply si;intro A B Y Z)|(apply Y;clear Z B Y A)|(apply U;clear U K)|refine⟨rfl,?_⟩|refine ix ?_|(refine CK (fun hc=>?_)<;>(try rw[hc])<;>clear hc)|refine Pure.use (HR 1 _ (by decide) (by omega) (by omega)) ?_|fail)<;>conv=>whnf)
   have hbig:nh (Cj w.parents k):=huo;have hst0:IntKind.i64.wrap (3+A4 k)=3+(k:Int):=by rw[hck];exact wrap64 (by omega) (by omega)
   have hs0lt:1|||2 ^ (3+k)<18446744073709551616:=KV (by decide) (Jp (by omega))
   have hs0e:1|||2 ^ (IntKind.i64.wrap (3+A4 k)).toNat=1|||2 ^ (3+k):=by rw[hst0,show(3+(k:Int)).toNat=3+k by omega]
   rw[hs0e];refine B2 row.length (fun j (s:Nat)=>[(48,eI (A4 j)),(8,eU s)]) (fun _ _=>[.box n0 (wC w (Cj w.parents k))]) (fun j s=>s=UK (Cj w.parents k) (row.take j) (1|||2 ^ (3+k))) (1|||2 ^ (3+k)) rfl rfl hs ?_;clear hs;rintro j s σ hj hse hs;rcases BC row hj with⟨c,hcj,hjlt⟩|hje
   ·obtain⟨q1,q2⟩:=r3 c (B5 hcj)
    have hload:(wC w (Cj w.parents k))[0+2+c.toNat*1]? =some (eU ((Cj w.parents k).getD c.toNat 0)):=by
     have:=Vo w (Cj w.parents k) (i:=c.toNat) (by omega);rw[←this];congr 1;omega
    have hnc:(row.take j).contains c=false:=by
     rw[←Bool.not_eq_true,List.contains_iff_mem];intro hm;obtain⟨i,hi,he⟩:=List.mem_iff_getElem.1 hm;have hi':i<j:=by rw[KG]at hi;omega
     rw[List.getElem_take]at he;have hcj':=(G7.1 hcj).2;exact absurd ((List.getElem_inj r2).1 (he.trans hcj'.symm)) (by omega)
    have hct: ∀b,Pure Tryz.prog 172 [.l (iL (row.take j)) b,eI c] (.b false):=fun b=>by
     have:=Dv (row.take j) b c
     rwa [hnc]at this
    conv=>whnf
    repeat'((first|apply st|(apply sq;intro K U)|(apply si;intro A B Y Z)|(apply Y;clear Z B Y A)|(apply U;clear U K)|refine⟨rfl,?_⟩|refine ix ?_|refine uU ?_|refine UE ?_|refine ld ?_|refine De ?_|(refine CK (fun hc=>?_)<;>(try rw[hc])<;>clear hc)|refine Pure.use (hct _) ?_|(rw[hload])|(constructor<;>intro hc<;>(try rw[hc])<;>(replace hc:=bp hc)<;>(try simp(disch:=omega) only[BQ,wrap64,AL]at hc)<;>try(exfalso;omega))|clear U K)<;>conv=>whnf)
    refine⟨hjlt,s|||(Cj w.parents k).getD c.toNat 0,?_,?_,hs⟩
    ·have hsl:s<18446744073709551616:=by rw[hse];exact RU huo _ _ hs0lt
     rw[Kl hsl (Li huo _)];rfl
    ·rw[hse,AO hcj]
     simp only[UK,List.foldl_append];rfl
   ·conv=>whnf
    repeat'((first|apply st|(apply sq;intro K U)|(apply si;intro A B Y Z)|(apply Y;clear Z B Y A)|(apply U;clear U K)|refine⟨rfl,?_⟩|refine UE ?_|(refine DR (fun hc=>?_)<;>(try rw[hc])<;>clear hc)|clear U K)<;>conv=>whnf)
    refine Kh hs 0 rfl rfl (by rw[ZM w (by omega),hst0];omega) fun σ hs=>?_
    conv=>whnf
    repeat'((first|(apply si;intro A B Y Z)|(apply Y;clear Z B Y A)|(apply U;clear U K)|refine⟨rfl,?_⟩|clear U K)<;>conv=>whnf)
    refine⟨hlt,(),rfl,trivial,?_⟩
    have e:Cj w.parents (k+1)=Cj w.parents k++[s]:=by
     rw[hse,Cj,DY,hr,hje,List.take_length];rfl
    have hst:=ZL w (Cj w.parents k) s (by omega);rw[e,←hst];have e2:0+2+(IntKind.i64.wrap (3+A4 k)).toNat*1=2+(Cj w.parents k).length:=by rw[hst0,hul];omega
    rw[e2]at hs;exact hs
  ·have hown:=Z6 178 [.p n0 0] [] (fun _=>[.box n0 (wC w (Cj w.parents k))]) (SZ fun c=>decide (3≤c)&&decide (c<3+(w.parents.length:Int))) (fun _ _=>True) (fun y s _ σ hs=>Bp (BJ.mono (ib w (Cj w.parents k) y (by omega) σ hs) (by
    rintro r σ' ⟨post,⟨h1,h2⟩,h3⟩;subst h2
    exact⟨h1,h3⟩))) w.owner false () (Gy fun _ _ _=>trivial)
   rw[JP]at hown
   have hall:(w.owner.all fun c=>decide (3≤c)&&decide (c<3+(w.parents.length:Int)))=true:=by
    rw[EN];intro o hoo;have:=how o hoo;simp only[BY,Ce];exact this
   rw[hall]at hown
   conv=>whnf
   repeat'((first|apply st|(apply sq;intro K U)|(apply si;intro A B Y Z)|(apply Y;clear Z B Y A)|(apply U;clear U K)|refine⟨rfl,?_⟩|(refine DR (fun hc=>?_)<;>(try rw[hc])<;>clear hc)|clear U K)<;>conv=>whnf)
   refine hown.use (rest:=[]) hs ?_;rintro r post σ ⟨rfl,rfl⟩ hs
   conv=>whnf
   repeat'((first|apply st|(apply Y;clear Z B Y A)|(apply U;clear U K)|fail)<;>conv=>whnf)
   rw[hke]at hs;exact F4 (σ2:=emp) (fun n o ho=>by cases ho) (.t (.cons (hs.uu 0 rfl (.refl _ _ _)) (.cons (.refl _) .nil))) rfl
end Go.Gl
