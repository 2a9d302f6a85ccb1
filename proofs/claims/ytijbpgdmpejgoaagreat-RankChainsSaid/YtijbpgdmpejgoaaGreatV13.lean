import Derived.Test.YtijbpgdmpejgoaaGreatV12
set_option linter.all false
noncomputable section
namespace Go.Gl
open Go.Proofs
attribute [local irreducible] BL A4 Aj AW AM Ai AV AX AN Ah AS AU A8 BJ Sat Ac BF Ak W
theorem xb {σ:AH} {l:List At} {i mm:Nat} {M:List Int} {k:Int} {K:V→Prop} (hk:K (.b (M.contains k))) (h:Sat σ l:=by assumption)
 (hi:l[i]? =some (.map mm (Q8 M)):=by first|exact Pw|exact Pv|exact Pu|exact Pt|exact Ps|exact Pr):AS σ (.i .i64) (.b false) false (.m mm) (eI k) K:=
 JF h i hi rfl (HV M) (by rw[K2];exact hk)
theorem vD {σ:AH} {l:List At} {i mm:Nat} {M:List Int} {k:Int} {K:AH→Prop} (hk: ∀σ',Sat σ' (l.set i (.map mm (Q8 (Nc M k))))→K σ') (h:Sat σ l:=by assumption)
 (hi:l[i]? =some (.map mm (Q8 M)):=by first|exact Pw|exact Pv|exact Pu|exact Pt|exact Ps|exact Pr):AU σ (.i .i64) (.m mm) (eI k) (.b true) K:=
 Hu h i hi rfl (HV M) (fun σ' hs=>hk σ' (by rw[Wr]at hs;exact hs))
def Iv (p:Prog) (c:Nat):PW:=p.AQ.getD (c - 3) default
def EH (p:Prog) (c:Nat):Nat→List Int
 | 0=>[]
 | k+1=>if JV (A7 p) c (c - k)then EH p c k++(Iv p (c - k)).AT else EH p c k
theorem jM {ps:List (List Int)} (ho:ordered ps) {n c:Nat} (hc:c<n) (k:Nat): ∀p∈par ps (c - k),0≤p∧p.toNat<(G7 ps n c k).length∧p.toNat<c - k:=fun p hp=>by
 have:=ho _ _ hp;rw[Kj];omega
theorem S2 {ps:List (List Int)} (ho:ordered ps) {n c:Nat} (hc:c<n) (k b:Nat):(G7 ps n c (k+1)).getD b false=((G7 ps n c k).getD b false||((G7 ps n c k).getD (c - k) false&&(par ps (c - k)).contains (b:Int))):=by
 rw[G7,MC _ _ (jM ho hc k)]
theorem S3 {ps:List (List Int)} (ho:ordered ps) {n c:Nat} (hc:c<n) (k:Nat): ∀(m:Nat) (b:Nat),c - k≤b→(G7 ps n c (k+m)).getD b false=(G7 ps n c k).getD b false
 | 0,_,_=>rfl
 | m + 1,b,h=>by
   rw[←Nat.add_assoc,S2 ho hc,S3 ho hc k m b h]
   have:(par ps (c - (k+m))).contains (b:Int)=false:=by
    cases hb:(par ps (c - (k+m))).contains (b:Int)
    ·rfl
    ·have:=ho _ _ (List.contains_iff_mem.1 hb)
     omega
   rw[this,Bool.and_false,Bool.or_false]
theorem Zm {ps:List (List Int)} (ho:ordered ps) {n c:Nat} (hc:c<n) {k:Nat} (hk:k≤c - 2):(G7 ps n c k).getD (c - k) false=JV ps c (c - k):=by
 rw[←WN ho hc (c - k),←S3 ho hc k (c - 2 - k) (c - k) (JU _)];congr 2;omega
theorem PC (b:Int): ∀(l M:List Int),(l.foldl Nc M).contains b=(M.contains b||l.contains b)
 | [],M=>by simp
 | x::r,M=>by
   rw[List.foldl_cons,PC b r,TJ,List.contains_cons,Bool.or_assoc]
theorem ia {σ:AH} {l:List At} {i mm:Nat} {M:List Int} {k:Int} {b:Bool} {K:V→Prop} (e:M.contains k=b) (hk:K (.b b)) (h:Sat σ l:=by assumption)
 (hi:l[i]? =some (.map mm (Q8 M)):=by first|exact Pw|exact Pv|exact Pu|exact Pt|exact Ps|exact Pr):AS σ (.i .i64) (.b false) false (.m mm) (eI k) K:=xb (e ▸ hk) h hi
theorem jx (p : Prog) (c:Nat) (h10:p.AQ.length≤10) (hsl:Cp 0 p.AQ=true) (hg:Dt (A7 p)=true) (hc3:3≤c) (hc:c<3+p.AQ.length) :
 Pure Tryz.prog 210 [.a (BK p),eI c] (.l (iL ((EH p c (c - 2)).mergeSort G5)) false):=by
 refine Pure.fit (by kernel_rfl) fun hf=>?_
 have F:=MY hf.1;have hM:=Mx;have hG:=Dy hg;have ho:=JP hG;have hgl:(A7 p).length=p.AQ.length:=by simp[A7]
 refine lr nb ?_;have hs:=Sn
 conv=>whnf
 repeat'((first|(apply sq;intro K U)|(apply si;intro A B Y Z)|(apply Y;clear Z B Y A)|(apply U;clear U K)|(intro nn hnn;generalize hg:BC _ nn _=σ;refine Cm hg fun hs=>?_;clear hg)|fail)<;>conv=>whnf)
 replace hs:Sat σ [.map nn (Q8 [])]:=hs
 conv=>whnf
 repeat'((first|apply st|(apply sq;intro K U)|(apply si;intro A B Y Z)|(apply Y;clear Z B Y A)|(apply U;clear U K)|refine vD (fun σ hs=>?_)|fail)<;>conv=>whnf)
 generalize nn=mm at *;replace hs:Sat σ [.map mm (Q8 [(c:Int)])]:=hs
 refine B4 (c - 2) (fun k (x:List Int×V)=>[(6,x.2),(7,eI ((c:Int) - k))]) (fun k x=>[.own x.2 1 (iL (EH p c k)),.map mm (Q8 x.1)])
  (fun k x=>(∀b:Nat,b<3+(A7 p).length→x.1.contains (b:Int)=(G7 (A7 p) (3+(A7 p).length) c k).getD b false)∧((B6 x.2).isSome=true∨(x.2= .l [] true∧EH p c k= []))∧(EH p c k).length≤4*k) ([(c:Int)],.l [] true) ?_ ⟨?_,.inr ⟨rfl,rfl⟩,by simp[EH]⟩ (Cv hs 1) ?_
 ·simp[Na,get]
  exact⟨rfl,rfl,rfl⟩
 ·intro b hb
  simp only[G7];rw[EV (by simp;omega)];by_cases hbc:b=c
  ·subst hbc;simp
  ·rw[if_neg hbc]
   have:((c:Int)==(b:Int))=false:=by simp;omega
   simp[DL,List.getElem?_replicate];split<;>simp<;>omega
 clear hs;rintro k ⟨M,v⟩ σ hk ⟨hMb,hv,hml⟩ hs;dsimp only at hMb hv hs;rcases Nat.lt_or_ge k (c - 2)with hlt|hge
 ·have hkc:M.contains ((c:Int) - k)=JV (A7 p) c (c - k):=by
   have:=hMb (c - k) (by omega);rw[Zm ho (by omega) (by omega)]at this;rw[←this];congr 1;omega
  have hcl:p.AQ[(IntKind.i64.wrap ((c:Int) - k - 3)).toNat]? =some (Iv p (c - k)):=by
   rw[wrap64 (by omega) (by omega),show((c:Int) - k - 3).toNat=c - k - 3 by omega,Iv,DL,Cu (by omega)];rfl
  have hwi:0≤IntKind.i64.wrap ((c:Int) - k - 3):=by rw[wrap64 (by omega) (by omega)];omega
  have hw1:IntKind.i64.wrap ((c:Int) - k - 1)=(c:Int) - (k+1:Nat):=by rw[wrap64 (by omega) (by omega)];omega
  have hmt:EH p c (k+1)=if JV (A7 p) c (c - k)then EH p c k++(Iv p (c - k)).AT else EH p c k:=rfl
  have hpar:(Iv p (c - k)).parents=par (A7 p) (c - k):=by
   unfold par Iv A7;rw[if_neg (by omega),DL,DL,LZ,Cu (by omega)];rfl
  have hcm:=F.2 _ (B2 hcl);have hs4:=((FO _ _ hsl).2 _ (B2 hcl)).2;have hst:=fun b=>S2 ho (show c<3+(A7 p).length by omega) k b
  rw[Zm ho (by omega) (by omega),←hpar]at hst;generalize Iv p (c - k)=cl at *;cases hb:JV (A7 p) c (c - k)
  ·rw[hb]at hkc hmt hst
   rw[if_neg (by decide)]at hmt
   conv=>whnf
   repeat'((first|apply st|(apply sq;intro K U)|(apply si;intro A B Y Z)|(apply Y;clear Z B Y A)|(apply U;clear U K)|refine⟨rfl,?_⟩|refine ia hkc ?_|(constructor<;>intro hc<;>(try rw[hc])<;>(replace hc:=bp hc)<;>try(exfalso;omega))|clear U K)<;>conv=>whnf)
   all_goals try(exfalso;omega)
   rw[hw1];exact⟨hlt,(M,v),rfl,⟨fun b hb=>by rw[hMb b hb,hst b];simp,by rw[hmt];exact hv,by rw[hmt];omega⟩,by rw[hmt];exact hs⟩
  ·rw [hb] at hkc hmt hst
   rw[if_pos rfl]at hmt
   conv=>whnf
   repeat'((first|apply st|(apply sq;intro K U)|(apply si;intro A B Y Z)|(apply Y;clear Z B Y A)|(apply U;clear U K)|refine⟨rfl,?_⟩|refine F6 ?_|refine ia hkc ?_|(constructor<;>intro hc<;>(try rw[hc])<;>(replace hc:=bp hc)<;>try(exfalso;omega))|fail)<;>conv=>whnf)
   all_goals try(exfalso;omega)
   refine T9 (HL hs 0 rfl (by omega) Bq fun v' σ hs hv'=>?_);rw[←hmt]at hs
   conv=>whnf
   repeat'((first|apply st|(apply sq;intro K U)|(apply si;intro A B Y Z)|(apply Y;clear Z B Y A)|(apply U;clear U K)|refine⟨rfl,?_⟩|refine F6 ?_|fail)<;>conv=>whnf)
   refine B4 cl.parents.length (fun j (_:List Int)=>[(38,eI (A6 j))]) (fun _ M=>[.own v' 1 (iL (EH p c (k+1))),.map mm (Q8 M)]) (fun j M'=>M'=(cl.parents.take j).foldl Nc M) M rfl rfl hs ?_;clear hs;rintro j M' σ hj hM' hs;rcases BH cl.parents hj with⟨q,hq,hjlt⟩|hje
   ·conv=>whnf
    repeat'((first|apply st|(apply sq;intro K U)|(apply si;intro A B Y Z)|(apply Y;clear Z B Y A)|(apply U;clear U K)|refine⟨rfl,?_⟩|refine ix ?_|(refine CS (fun hc=>?_)<;>(try rw[hc])<;>clear hc)|refine vD (fun σ hs=>?_)|clear U K)<;>conv=>whnf)
    exact⟨hjlt,_,rfl,by rw[AR hq,List.foldl_append,←hM'];rfl,hs⟩
   ·rw [Ar hje]at hM'
    conv=>whnf
    repeat'((first|apply st|(apply sq;intro K U)|(apply si;intro A B Y Z)|(apply Y;clear Z B Y A)|(apply U;clear U K)|refine⟨rfl,?_⟩|(refine Dh (fun hc=>?_)<;>(try rw[hc])<;>clear hc)|clear U K)<;>conv=>whnf)
    rw[hw1];refine⟨hlt,(M',v'),rfl,⟨fun b hb=>?_,?_,?_⟩,hs⟩
    ·rw[hM',PC,hMb b hb,hst b,Fm]
    ·rcases hv' with hv'|⟨rfl,he⟩
     ·exact .inl hv'
     ·rcases hv with hv|⟨hv,hm0⟩
      ·exact .inl hv
      ·refine .inr ⟨hv,?_⟩
       rw[hmt,hm0,List.map_eq_nil_iff.1 he];rfl
    ·rw[hmt,PT];omega
 ·have hkk:k=c - 2:=by omega
  rw[hkk]at hs hv hml;clear hMb
  conv=>whnf
  repeat'((first|apply st|(apply sq;intro K U)|(apply si;intro A B Y Z)|(apply Y;clear Z B Y A)|(apply U;clear U K)|refine⟨rfl,?_⟩|(constructor<;>intro hc<;>(try rw[hc])<;>(replace hc:=bp hc)<;>try(exfalso;omega))|clear U K)<;>conv=>whnf)
  all_goals try(exfalso;omega)
  refine(ZS hv).use (rest:=[_]) hs ?_;clear hs;rintro r post σ ⟨rfl,rfl⟩ hs
  conv=>whnf
  repeat'((first|(apply sq;intro K U)|(apply si;intro A B Y Z)|(apply Y;clear Z B Y A)|(apply U;clear U K)|fail)<;>conv=>whnf)
  refine(N3 _ v (by rw[List.length_mergeSort];omega)).use (rest:=[_]) hs ?_;clear hs;rintro r post σ ⟨rfl,rfl⟩ hs
  conv=>whnf
  repeat'((first|apply st|(apply Y;clear Z B Y A)|(apply U;clear U K)|fail)<;>conv=>whnf)
  exact BV Nr
theorem O0 {p:Prog} {c:Nat} (s:Int): ∀k,s∈EH p c k↔ ∃j,j<k∧JV (A7 p) c (c - j)=true∧s∈(Iv p (c - j)).AT
 | 0=>by simp[EH]
 | k + 1 =>by
   rw[EH];have ih:=O0 (p:=p) (c:=c) s k;constructor
   ·intro h
    split at h
    ·rename_i hu
     rcases Fk.1 h with h|h
     ·obtain⟨j,h1,h2⟩:=ih.1 h
      exact⟨j,by omega,h2⟩
     ·exact⟨k,by omega,hu,h⟩
    ·obtain⟨j,h1,h2⟩:=ih.1 h
     exact⟨j,by omega,h2⟩
   ·rintro⟨j,h1,h2,h3⟩
    by_cases hj:j=k
    ·subst hj
     rw[if_pos h2];exact Fk.2 (.inr h3)
    ·have:=ih.2 ⟨j,by omega,h2,h3⟩
     split
     ·exact Fk.2 (.inl this)
     ·exact this
theorem TE: ∀(l:List Int) (n s:Int),KU n l=true→(s∈l↔n≤s∧s<n+l.length)
 | [],n,s,_=>by simp<;>omega
 | x::r,n,s,h=>by
   simp only[KU,BZ,D1]at h;obtain⟨rfl,h⟩:=h;have:=TE r (x+1) s h;rw[GB,this,LX];omega
theorem QN: ∀(cs:List PW) (i:Nat) (n s:Int),Cp n cs=true→0≤n→ ∀(j:Nat) (c:PW),cs[j]? =some c→(s∈c.AT↔n≤s∧s<n+(Bx cs:Int)∧(BY i cs).getD (s - n).toNat 0=((i+j:Nat):Int)+3)
 | [],_,_,_,_,_,_,_,h=>by cases h
 | d ::r,i,n,s,h,h0,j,c,hj=>by
   simp only[Cp,BZ,CX]at h;obtain⟨-,-,hq,hr⟩:=h;have hm:=TE d.AT n s hq;have hml:(Bx (d::r):Int)=d.AT.length+Bx r:=by simp[Bx]
   have hgd:n≤s→(BY i (d::r)).getD (s - n).toNat 0=if s<n+d.AT.length then(i:Int)+3 else(BY (i+1) r).getD (s - (n+d.AT.length)).toNat 0:=fun hns=>by
    simp only[BY,DL];split
    ·rw[dF (by simp;omega),List.getElem?_replicate,if_pos (by omega)]
     rfl
    ·rw[List.getElem?_append_right (by simp;omega)]
     congr 2;simp;omega
   have hout: ∀q,q∈BY (i+1) r→(3:Int)+((i+1:Nat):Int)≤q:=fun q hq=>(F3 hq).1
   cases j with
   | zero=>
     simp at hj;subst hj;rw[hm,hml];constructor
     ·rintro⟨h1,h2⟩
      refine⟨h1,by omega,?_⟩;rw[hgd h1,if_pos h2];simp
     ·rintro⟨h1,h2,h3⟩
      refine⟨h1,?_⟩;rw[hgd h1]at h3;by_cases hlt:s<n+d.AT.length
      ·exact hlt
      ·rw[if_neg hlt,DL]at h3
       have hlen:(s - (n+d.AT.length)).toNat<(BY (i+1) r).length:=by rw[Cc];omega
       rw[Cu hlen]at h3;have:=hout _ (List.getElem_mem hlen);simp at h3;omega
   | succ j=>
     simp at hj;have ih:=QN r (i+1) (n+d.AT.length) s hr (by omega) j c hj;rw[ih,hml];constructor
     ·rintro⟨h1,h2,h3⟩
      refine⟨by omega,by omega,?_⟩;rw[hgd (by omega),if_neg (by omega),h3];omega
     ·rintro⟨h1,h2,h3⟩
      rw[hgd h1]at h3;by_cases hlt:s<n+d.AT.length
      ·rw[if_pos hlt]at h3;omega
      ·rw[if_neg hlt]at h3
       exact⟨by omega,by omega,by rw[h3];omega⟩
theorem bn {p:Prog} {c:Nat} (hsl:Cp 0 p.AQ=true) (ho:ordered (A7 p)) (hc3:3≤c) (hc:c<3+p.AQ.length) (s:Int) :
 ((EH p c (c - 2)).mergeSort G5).contains s=(decide (0≤s)&&(decide (s<(Bx p.AQ:Int))&&hasB (AP p) (c:Int) s)):=by
 rw[Lb,List.contains_iff_mem,(List.mergeSort_perm _ G5).mem_iff,O0];simp only[BZ,CX,hasB]
 have hown: ∀j,j<c - 2→(s∈(Iv p (c - j)).AT↔0≤s∧s<(Bx p.AQ:Int)∧CV (AP p) s=((c - j:Nat):Int)):=fun j hj=>by
  have hcl:p.AQ[c - j - 3]? =some (Iv p (c - j)):=by
   rw[Iv,DL,Cu (by omega)];rfl
  have:=QN p.AQ 0 0 s hsl (by omega) (c - j - 3) _ hcl;rw[this];simp only[Int.sub_zero,Int.zero_add,CV,AP];constructor
  ·rintro⟨h1,h2,h3⟩;exact⟨h1,h2,by rw[h3];omega⟩
  ·rintro⟨h1,h2,h3⟩;exact⟨h1,h2,by rw[h3];omega⟩
 constructor
 ·rintro⟨j,h1,h2,h3⟩
  obtain⟨h4,h5,h6⟩:=(hown j h1).1 h3;refine⟨h4,h5,by omega,?_⟩;rw[h6];simp only[M0,Fx,BZ,CX];exact .inr (.inr ⟨by omega,by simpa[AP]using h2⟩)
 ·rintro⟨h1,h2,h3,h4⟩
  have hmem:CV (AP p) s∈BY 0 p.AQ:=by
   have hlen:s.toNat<(BY 0 p.AQ).length:=by rw[Cc];omega
   have:CV (AP p) s=(BY 0 p.AQ)[s.toNat]:=by
    simp only[CV,AP,DL,Cu hlen];rfl
   rw[this];exact List.getElem_mem hlen
  have hb:=F3 hmem
  have hup:JV (A7 p) c (CV (AP p) s).toNat=true:=by
   simp only[M0,Fx,BZ,CX,D1]at h4;rcases h4 with h4|h4|⟨_,h4⟩
   ·rw[←h4,Ih];exact Fg ho c
   ·omega
   ·simpa[AP]using h4
  have hle:=Zn ho _ _ hup;refine⟨c - (CV (AP p) s).toNat,by omega,?_,?_⟩
  ·rw[show c - (c - (CV (AP p) s).toNat)=(CV (AP p) s).toNat by omega]
   exact hup
  ·refine(hown _ (by omega)).2 ⟨h1,h2,by omega⟩
theorem bk {σ:AH}:BL Tryz.prog 164 [.b false] σ fun r σ'=>r= .C8 Dw∧σ'=σ:=by
 refine aI nb ?_
 conv=>whnf
 repeat'((first|apply st|(apply sq;intro K U)|(apply si;intro A B Y Z)|(apply Y;clear Z B Y A)|(refine Z _ _ _ ?_;clear Z B Y A)|(apply U;clear U K)|refine E0 ?_|fail)<;>conv=>whnf)
 exact DR ⟨rfl,rfl⟩
theorem Cs {x:Bool} {σ:AH} {k kp:V→AH→Prop} (h1:x=true→k (.t []) σ) (h2:x=false→kp Dw σ):BL Tryz.prog 164 [.b x] σ (qk k kp):=by
 cases x
 ·refine BL.mono bk ?_
  rintro r σ' ⟨rfl,rfl⟩;exact h2 rfl
 ·exact bj.use (h1 rfl)
def Fp:Int→List PW→Bool
 | _,[]=>true
 | n,c::r=>decide (c.AT.length≤4)&&(KU n c.AT&&Fp (n+c.AT.length) r)
theorem OA: ∀(cs:List PW) (n:Int),Cp n cs=(Fp n cs&&cs.all fun c=>decide (c.parents.length≤3))
 | [],_=>rfl
 | c::r,n=>by
   simp only[Cp,Fp,NA];rw[OA r];cases decide (c.AT.length≤4)<;>cases decide (c.parents.length≤3)<;>cases KU n c.AT<;>simp
theorem QE: ∀(cs:List PW) (n:Int),Fp n cs=true→Bx cs≤4*cs.length
 | [],_,_=>JU _
 | c::r,n,h=>by
   simp only[Fp,BZ,CX]at h;have:=QE r _ h.2.2;simp only[Bx,FC,List.sum_cons,LX]at *;omega
theorem TW {p:Prog} (h:Dt (A7 p)=true):(p.AQ.all fun c=>decide (c.parents.length≤3))=true:=by
 rw[Em];intro c hc;obtain⟨i,hi⟩:=List.getElem?_of_mem hc;have:=(Dy h).2 i c.parents (by rw[A7,LZ,hi];rfl);exact decide_eq_true this.1
theorem PM (p:Prog):BI p=(decide (p.AQ.length≤10)&&(Fp 0 p.AQ&&((Bx p.AQ:Int)==p.AT&&(Dt (A7 p)&&GH (AP p) (Bx p.AQ) 0 p.AQ)))):=by
 rw[BI,OA];cases hg:Dt (A7 p)
 ·simp
 ·rw[TW hg,Bool.and_true]
abbrev pJ (p:Prog):R→AH→Prop:=fun r σ'=> ∃post:List At,(r=(if BI p then R.ret (.t [])else R.C8 Dw)∧post= [])∧Sat σ' post
theorem Uf {p:Prog} {σ:AH} (h:BI p=false):Aj σ Dw (pJ p):=DR ⟨_,⟨by rw[h];rfl,rfl⟩,Sat.nil⟩
theorem vU {p:Prog} {σ:AH} {l:List At} (hs:Sat σ l) (h:BI p=true):A4 σ (.t []) (pJ p):=Ao hs (MR _) (.refl _) fun σ' hs'=>⟨_,⟨by rw[h];rfl,rfl⟩,hs'⟩
set_option maxHeartbeats 4000000 in
theorem Vv (p : Prog):Bh Tryz.prog 163 [.a (BK p)] [] fun r post=>r=(if BI p then R.ret (.t [])else R.C8 Dw)∧post= []:=by
 intro σ hs;refine BL.fit (by kernel_rfl) fun hf=>?_
 have F:=MY hf.1;have hcl:=F.1;have hM:=Mx;refine mX nb ?_;have hcb:=PM p;by_cases h10:p.AQ.length≤10
 rotate_left
 ·conv=>whnf
  repeat'((first|apply st|(apply sq;intro K U)|(apply si;intro A B Y Z)|(apply Y;clear Z B Y A)|(refine Z _ _ _ ?_;clear Z B Y A)|(apply U;clear U K)|refine⟨rfl,?_⟩|(refine Cs (fun hc=>?_) (fun hc=>?_)<;>(replace hc:=bp hc)<;>(try simp(disch:=omega) only[BE,wrap64,AL]at hc)<;>(try(exfalso;omega)))|clear U K)<;>conv=>whnf)
  all_goals try(exfalso;omega)
  exact Uf (by rw[hcb];simp[h10])
 rw[decide_eq_true h10,Fm]at hcb
 conv=>whnf
 repeat'((first|apply st|(apply sq;intro K U)|(apply si;intro A B Y Z)|(apply Y;clear Z B Y A)|(apply U;clear U K)|refine⟨rfl,?_⟩|(refine Cs (fun hc=>?_) (fun hc=>?_)<;>(replace hc:=bp hc)<;>(try simp(disch:=omega) only[BE,wrap64,AL]at hc)<;>(try(exfalso;omega)))|fail)<;>conv=>whnf)
 all_goals try(exfalso;omega)
 refine B4 p.AQ.length (fun k (n:Int)=>[(2,eI n),(24,eI (A6 k))]) (fun _ _=>[]) (fun k n=>Fp 0 p.AQ=Fp n (p.AQ.drop k)∧0≤n∧n+Bx (p.AQ.drop k)=Bx p.AQ∧n≤4*k) 0 rfl (by simp) hs ?_;clear hs;rintro k n σ hk ⟨hn,hn0,hn1,hn2⟩ hs;rcases BH p.AQ hk with⟨c,hc,hlt⟩|hke
 ·have hcm:=(F.2 c (B2 hc)).2.1
  have hms:n+(c.AT.length:Int)+Bx (p.AQ.drop (k+1))=Bx p.AQ:=by
   rw[drop_cons hc]at hn1;simp only[Bx,FC,List.sum_cons]at hn1 ⊢;omega
  rw[drop_cons hc,Fp]at hn;by_cases h4:c.AT.length≤4
  ·rw [decide_eq_true h4,Fm]at hn
   conv=>whnf
   repeat'((first|apply st|(apply sq;intro K U)|(apply si;intro A B Y Z)|(apply Y;clear Z B Y A)|(apply U;clear U K)|refine⟨rfl,?_⟩|refine⟨nb,?_⟩|refine ix ?_|refine ld ?_|refine Dm fun σ hs=>?_|(refine CS (fun hc=>?_)<;>(try rw[hc])<;>clear hc)|(refine Cs (fun hc=>?_) (fun hc=>?_)<;>(replace hc:=bp hc)<;>(try simp(disch:=omega) only[BE,wrap64,AL]at hc)<;>(try(exfalso;omega)))|(intro nn hnn;generalize hg:BC _ nn _=σ;refine Cm hg fun hs=>?_;clear hg)|fail)<;>conv=>whnf)
   all_goals try(exfalso;omega)
   refine B4 c.AT.length (fun j (m:Int)=>[(2,eI m),(36,eI (A6 j))]) (fun _ _=>[]) (fun j m=>Fp 0 p.AQ=(KU m (c.AT.drop j)&&Fp (n+c.AT.length) (p.AQ.drop (k+1)))∧m=n+j) n rfl ⟨hn,by simp⟩ (hs.take 0) ?_;clear hs hn;rintro j m σ hj ⟨hm,he⟩ hs;rcases BH c.AT hj with⟨x,hx,hjlt⟩|hje
   ·rw[drop_cons hx,KU]at hm
    conv=>whnf
    repeat'((first|apply st|(apply sq;intro K U)|(apply si;intro A B Y Z)|(apply Y;clear Z B Y A)|(refine Z _ _ _ ?_;clear Z B Y A)|(apply U;clear U K)|refine⟨rfl,?_⟩|refine ix ?_|(refine CS (fun hc=>?_)<;>(try rw[hc])<;>clear hc)|(refine Cs (fun hc=>?_) (fun hc=>?_)<;>(replace hc:=bp hc))|clear U K)<;>conv=>whnf)
    ·rw[wrap64 (by omega) (by omega)]
     rw[hc,beq_self_eq_true,Fm]at hm;exact⟨hjlt,_,rfl,⟨by rw[←hc];rw[←hc]at hm;exact hm,by omega⟩,hs⟩
    ·exact Uf (by rw[hcb,hm];simp[hc])
   ·rw[Al hje,KU,Fm]at hm
    conv=>whnf
    repeat'((first|apply st|(apply sq;intro K U)|(apply si;intro A B Y Z)|(apply Y;clear Z B Y A)|(apply U;clear U K)|refine⟨rfl,?_⟩|(refine Dh (fun hc=>?_)<;>(try rw[hc])<;>clear hc)|clear U K)<;>conv=>whnf)
    exact⟨hlt,m,rfl,⟨by rw[hm];congr 1;omega,by omega,by omega,by omega⟩,hs⟩
  ·conv=>whnf
   repeat'((first|apply st|(apply sq;intro K U)|(apply si;intro A B Y Z)|(apply Y;clear Z B Y A)|(refine Z _ _ _ ?_;clear Z B Y A)|(apply U;clear U K)|refine⟨rfl,?_⟩|refine⟨nb,?_⟩|refine ix ?_|refine ld ?_|refine Dm fun σ hs=>?_|(refine CS (fun hc=>?_)<;>(try rw[hc])<;>clear hc)|(refine Cs (fun hc=>?_) (fun hc=>?_)<;>(replace hc:=bp hc)<;>(try simp(disch:=omega) only[BE,wrap64,AL]at hc)<;>(try(exfalso;omega)))|(intro nn hnn;generalize hg:BC _ nn _=σ;refine Cm hg fun hs=>?_;clear hg)|clear U K)<;>conv=>whnf)
   all_goals try(exfalso;omega)
   exact Uf (by rw[hcb,hn];simp[h4])
 ·have hne:n=Bx p.AQ:=by rw[Al hke]at hn1;simpa[Bx]using hn1
  rw[Al hke]at hn;have hsp:Fp 0 p.AQ=true:=hn;have hml:=QE _ _ hsp;rw[hsp,Fm,←hne]at hcb;cases hgd:Dt (A7 p)
  ·rw[hgd]at hcb
   have hck:=Te (A7 p) false;rw[hgd,if_neg (by decide)]at hck;have hcF:BI p=false:=by rw[hcb];simp
   conv=>whnf
   repeat'((first|apply st|(apply sq;intro K U)|(apply si;intro A B Y Z)|(apply Y;clear Z B Y A)|(refine Z _ _ _ ?_;clear Z B Y A)|(apply U;clear U K)|refine⟨rfl,?_⟩|refine⟨nb,?_⟩|(refine Dh (fun hc=>?_)<;>(try rw[hc])<;>clear hc)|(refine Cs (fun hc=>?_) (fun hc=>?_)<;>(replace hc:=bp hc)<;>(try simp(disch:=omega) only[BE,wrap64,AL]at hc)<;>(try(exfalso;omega))<;>(try(cases hc;done)))|refine Pure.use (K6 _ (by omega)) ?_|(constructor<;>intro hc<;>(try rw[hc])<;>(replace hc:=bp hc))|refine Pure.use (by assumption) ?_|clear U K)<;>conv=>whnf)
   all_goals exact Uf hcF
  ·have hck:=Te (A7 p) false
   rw[hgd,if_pos rfl]at hck;rw[hgd,Fm]at hcb;by_cases hps:n=p.AT
   ·rw [hps,beq_self_eq_true,Fm,←hps]at hcb
    have hslB:Cp 0 p.AQ=true:=by rw[OA,hsp,TW hgd];rfl
    have hG:=Dy hgd;have ho:=JP hG;have hgl:(A7 p).length=p.AQ.length:=by simp[A7]
    conv=>whnf
    repeat'((first|apply st|(apply sq;intro K U)|(apply si;intro A B Y Z)|(apply Y;clear Z B Y A)|(apply U;clear U K)|refine⟨rfl,?_⟩|refine⟨nb,?_⟩|(refine Dh (fun hc=>?_)<;>(try rw[hc])<;>clear hc)|(refine Cs (fun hc=>?_) (fun hc=>?_)<;>(replace hc:=bp hc)<;>(try simp(disch:=omega) only[BE,wrap64,AL]at hc)<;>(try(exfalso;omega)))|refine Pure.use (K6 _ (by omega)) ?_|(constructor<;>intro hc<;>(try rw[hc])<;>(replace hc:=bp hc)<;>try(exfalso;omega))|refine Pure.use (by assumption) ?_|clear U K)<;>conv=>whnf)
    refine B4 p.AQ.length (fun k (_:Unit)=>[(63,eI (A6 k))]) (fun _ _=>[]) (fun k _=>BI p=GH (AP p) n k (p.AQ.drop k)) () rfl hcb hs ?_;clear hs;rintro i - σ hi hn' hs;rcases BH p.AQ hi with⟨c,hc,hilt⟩|hie
    ·rw [drop_cons hc,GH]at hn'
     have hci:A6 i=i:=AL (by omega);have hw3:IntKind.i64.wrap (A6 i+3)=(i:Int)+3:=by rw[hci,wrap64 (by omega) (by omega)]
     have hlin:=jl (A7 p) false ((i:Int)+3) hgd (by omega) (by omega);have hinl:=(F.2 c (B2 hc)).2.2;have hlb:dc (AP p).parents ((i:Int)+3)= !((B9 (A7 p)).getD ((i:Int)+3).toNat []).isEmpty:=rfl;cases hem:((B9 (A7 p)).getD ((i:Int)+3).toNat []).isEmpty
     ·rw [hem]at hlb
      rw[hlb,Bool.not_false,Fm]at hn';rw[hem,if_neg (by decide),←hw3]at hlin;have hhas:=jx p (i+3) h10 hslB hgd (by omega) (by omega);have hmh:=bn hslB ho (show 3≤i+3 by omega) (show i+3<3+p.AQ.length by omega);have ei3:((i+3:Nat):Int)=(i:Int)+3:=by omega
      rw[ei3,←hw3]at hhas;rw[ei3]at hmh;generalize (EH p (i+3) (i+3 - 2)).mergeSort G5=mine at *
      conv=>whnf
      repeat'((first|apply st|(apply sq;intro K U)|(apply si;intro A B Y Z)|(apply Y;clear Z B Y A)|(apply U;clear U K)|refine⟨rfl,?_⟩|refine⟨nb,?_⟩|refine ix ?_|refine ld ?_|refine Dm fun σ hs=>?_|(refine CS (fun hc=>?_)<;>(try rw[hc])<;>clear hc)|(refine Cs (fun hc=>?_) (fun hc=>?_)<;>(replace hc:=bp hc)<;>(try simp(disch:=omega) only[BE,wrap64,AL]at hc)<;>(try(exfalso;omega)))|(intro nn hnn;generalize hg:BC _ nn _=σ;refine Cm hg fun hs=>?_;clear hg)|refine Pure.use (by assumption) ?_|fail)<;>conv=>whnf)
      generalize nn=mm at *;replace hs:Sat σ [.map mm (Q8 [])]:=hs.take 1;refine B4 c.inits.length (fun j (_:List Int)=>[(86,eI (A6 j))]) (fun _ M=>[.map mm (Q8 M)]) (fun j M=>BI p=(EK (AP p) ((i:Int)+3) n (c.inits.take j) (c.inits.drop j)&&GH (AP p) n (i+1) (p.AQ.drop (i+1)))∧ ∀s,M.contains s=(c.inits.take j).any fun y=>y.1==s) [] rfl ⟨hn',fun s=>rfl⟩ hs ?_;clear hs;rintro j M σ hj ⟨hm,hMs⟩ hs;rcases BH c.inits hj with⟨x,hx,hjlt⟩|hje
      ·have hpa:((c.inits.take j).all fun y=>y.1 != x.1)= !M.contains x.1:=by
        rw[hMs,List.all_eq_not_any_not];congr 2;funext y;simp[bne]
       have hst:BI p=((mine.contains x.1&&(!M.contains x.1&&RJ x.2))&&(EK (AP p) ((i:Int)+3) n (c.inits.take (j+1)) (c.inits.drop (j+1))&&GH (AP p) n (i+1) (p.AQ.drop (i+1)))):=by
        rw[hm,drop_cons hx,EK,hpa,hmh,←hne,AR hx];cases decide (0≤x.1)<;>cases decide (x.1<n)<;>cases hasB (AP p) ((i:Int)+3) x.1<;>cases RJ x.2<;>cases M.contains x.1<;>simp
       have hMs': ∀s,(Nc M x.1).contains s=(c.inits.take (j+1)).any fun y=>y.1==s:=fun s=>by
        rw[TJ,hMs,AR hx,List.any_append];simp only[Q6,List.any_nil,Bool.or_false];congr 1;rw[Lb];simp;exact eq_comm
       have hct:=Dz mine false x.1;have hbt:=PN x.2;clear hmh hpa hMs hm;cases eA:mine.contains x.1<;>cases eB:M.contains x.1<;>cases eD:RJ x.2<;>rw[eA]at hct<;>rw[eD]at hbt<;>rw[eA,eB,eD]at hst
       all_goals
        conv=>whnf
        repeat'((first|apply st|(apply sq;intro K U)|(apply si;intro A B Y Z)|(apply Y;clear Z B Y A)|(refine Z _ _ _ ?_;clear Z B Y A)|(apply U;clear U K)|refine⟨rfl,?_⟩|refine⟨nb,?_⟩|refine ix ?_|refine ld ?_|refine Dm fun σ hs=>?_|refine E0 ?_|refine D2 ?_|(refine CS (fun hc=>?_)<;>(try rw[hc])<;>clear hc)|(refine Cs (fun hc=>?_) (fun hc=>?_)<;>(replace hc:=bp hc)<;>(try simp(disch:=omega) only[BE,wrap64,AL]at hc)<;>(try(cases hc;done)))|refine ia eB ?_|refine vD (fun σ hs=>?_)|(intro nn hnn;generalize hg:BC _ nn _=σ;refine Cm hg fun hs=>?_;clear hg)|refine Pure.use (by assumption) ?_|clear U K)<;>conv=>whnf)
       all_goals first
        | exact⟨hjlt,_,rfl,⟨hst,hMs'⟩,hs.less (Jn _ _)⟩
        | exact Uf (by rw[hst];rfl)
      ·rw[Al hje,EK,Fm]at hm
       conv=>whnf
       repeat'((first|apply st|(apply sq;intro K U)|(apply si;intro A B Y Z)|(apply Y;clear Z B Y A)|(apply U;clear U K)|refine⟨rfl,?_⟩|(refine Dh (fun hc=>?_)<;>(try rw[hc])<;>clear hc)|clear U K)<;>conv=>whnf)
       exact⟨hilt,(),rfl,hm,hs.take 0⟩
     ·rw[hem]at hlb
      rw[hem,if_pos rfl,←hw3]at hlin;have hcF:BI p=false:=by rw[hn',hlb];rfl
      conv=>whnf
      repeat'((first|apply st|(apply sq;intro K U)|(apply si;intro A B Y Z)|(apply Y;clear Z B Y A)|(refine Z _ _ _ ?_;clear Z B Y A)|(apply U;clear U K)|refine⟨rfl,?_⟩|refine⟨nb,?_⟩|refine ix ?_|refine Dm fun σ hs=>?_|(refine CS (fun hc=>?_)<;>(try rw[hc])<;>clear hc)|(refine Cs (fun hc=>?_) (fun hc=>?_)<;>(replace hc:=bp hc)<;>(try(exfalso;omega)))|(intro nn hnn;generalize hg:BC _ nn _=σ;refine Cm hg fun hs=>?_;clear hg)|refine Pure.use (by assumption) ?_|clear U K)<;>conv=>whnf)
      all_goals exact Uf hcF
    ·conv=>whnf
     repeat'((first|apply st|(apply sq;intro K U)|(apply si;intro A B Y Z)|(apply Y;clear Z B Y A)|(apply U;clear U K)|refine⟨rfl,?_⟩|(refine Dh (fun hc=>?_)<;>(try rw[hc])<;>clear hc)|clear U K)<;>conv=>whnf)
     exact vU hs (by rw[hn',Al hie];rfl)
   ·have hcF:BI p=false:=by rw[hcb];simp[hps]
    conv=>whnf
    repeat'((first|apply st|(apply sq;intro K U)|(apply si;intro A B Y Z)|(apply Y;clear Z B Y A)|(refine Z _ _ _ ?_;clear Z B Y A)|(apply U;clear U K)|refine⟨rfl,?_⟩|refine⟨nb,?_⟩|(refine Dh (fun hc=>?_)<;>(try rw[hc])<;>clear hc)|(refine Cs (fun hc=>?_) (fun hc=>?_)<;>(replace hc:=bp hc)<;>(try simp(disch:=omega) only[BE,wrap64,AL]at hc)<;>(try(cases hc;done)))|refine Pure.use (K6 _ (by omega)) ?_|(constructor<;>intro hc<;>(try rw[hc])<;>(replace hc:=bp hc)<;>try(exfalso;omega))|clear U K)<;>conv=>whnf)
    all_goals exact Uf hcF
theorem Xu (f:Fact):Nw f=true→Pure Tryz.prog 171 [.a (xF f)] (eI (DM f)):=by
 induction f using Fact.ind with
 | h f ih=>
   intro ha;refine Pure.fit (by kernel_rfl) fun hf=>?_
   have⟨h2,h3,h4⟩:=IM hf.1;have hM:=Mx;rw[LF]at ha;simp only[BZ,CX,List.all_map,Em]at ha;refine mP nb ?_;have hs:=Sn;by_cases hlf:Br f=true
   ·have hlo:=Fz hlf
    have hw:IntKind.i64.wrap (f.arg+1)=f.arg+1:=wrap64 (by omega) (by omega)
    conv=>whnf
    repeat'((first|apply st|(apply sq;intro K U)|(apply si;intro A B Y Z)|(apply Y;clear Z B Y A)|(apply U;clear U K)|refine⟨rfl,?_⟩|(constructor<;>intro hc<;>(try rw[hc])<;>(replace hc:=bp hc)<;>try(exfalso;omega))|fail)<;>conv=>whnf)
    all_goals try(exfalso;omega)
    all_goals
     refine B4 f.kids.length (fun k (_:Unit)=>[(3,eI (((f.kids.take k).map DM).foldl HA (if Br f then f.arg+1 else 0))),(25,eI (A6 k))]) (fun _ _=>[]) (fun _ _=>True) () (by rw[hw,if_pos hlf];rfl) trivial hs ?_;clear hs;rintro k - σ hk - hs;rcases BH f.kids hk with⟨x,hx,hlt⟩|hke
     ·have hxs:=ih x (B2 hx) (ha.2 x (B2 hx))
      conv=>whnf
      repeat'((first|apply st|(apply sq;intro K U)|(apply si;intro A B Y Z)|(apply Y;clear Z B Y A)|(apply U;clear U K)|refine⟨rfl,?_⟩|refine⟨nb,?_⟩|refine NB ?_|refine ld ?_|refine Dm fun σ hs=>?_|(refine CS (fun hc=>?_)<;>(try rw[hc])<;>clear hc)|(intro nn hnn;generalize hg:BC _ nn _=σ;refine Cm hg fun hs=>?_;clear hg)|refine Pure.use (by assumption) ?_|clear U K)<;>conv=>whnf)
      exact⟨hlt,(),by rw[Ee _ _ _ hx];rfl,trivial,hs.take 0⟩
     ·conv=>whnf
      repeat'((first|apply st|(apply sq;intro K U)|(apply si;intro A B Y Z)|(apply Y;clear Z B Y A)|(apply U;clear U K)|refine⟨rfl,?_⟩|(refine Dh (fun hc=>?_)<;>(try rw[hc])<;>clear hc)|clear U K)<;>conv=>whnf)
      exact AI (by rw[Ar hke,←D7])
   ·have hlo:f.op≠2∧f.op≠3∧f.op≠4:=by
     simp only[Br,Fx,D1]at hlf;omega
    conv=>whnf
    repeat'((first|apply st|(apply sq;intro K U)|(apply si;intro A B Y Z)|(apply Y;clear Z B Y A)|(apply U;clear U K)|refine⟨rfl,?_⟩|(constructor<;>intro hc<;>(try rw[hc])<;>(replace hc:=bp hc)<;>try(exfalso;omega))|fail)<;>conv=>whnf)
    all_goals try(exfalso;omega)
    all_goals
     refine B4 f.kids.length (fun k (_:Unit)=>[(3,eI (((f.kids.take k).map DM).foldl HA (if Br f then f.arg+1 else 0))),(25,eI (A6 k))]) (fun _ _=>[]) (fun _ _=>True) () (by rw[if_neg hlf];rfl) trivial hs ?_;clear hs;rintro k - σ hk - hs;rcases BH f.kids hk with⟨x,hx,hlt⟩|hke
     ·have hxs:=ih x (B2 hx) (ha.2 x (B2 hx))
      conv=>whnf
      repeat'((first|apply st|(apply sq;intro K U)|(apply si;intro A B Y Z)|(apply Y;clear Z B Y A)|(apply U;clear U K)|refine⟨rfl,?_⟩|refine⟨nb,?_⟩|refine NB ?_|refine ld ?_|refine Dm fun σ hs=>?_|(refine CS (fun hc=>?_)<;>(try rw[hc])<;>clear hc)|(intro nn hnn;generalize hg:BC _ nn _=σ;refine Cm hg fun hs=>?_;clear hg)|refine Pure.use (by assumption) ?_|clear U K)<;>conv=>whnf)
      exact⟨hlt,(),by rw[Ee _ _ _ hx];rfl,trivial,hs.take 0⟩
     ·conv=>whnf
      repeat'((first|apply st|(apply sq;intro K U)|(apply si;intro A B Y Z)|(apply Y;clear Z B Y A)|(apply U;clear U K)|refine⟨rfl,?_⟩|(refine Dh (fun hc=>?_)<;>(try rw[hc])<;>clear hc)|clear U K)<;>conv=>whnf)
      exact AI (by rw[Ar hke,←D7])
theorem YB (p:Prog) (x:Node) (size:Int):Pure Tryz.prog 168 [.a (BK p),.a (Iu x),eI size] (.b (Lh p x size)):=by
 refine Pure.fit (by kernel_rfl) fun hf=>?_
 have⟨p1,p2,p3,p4⟩:=GG hf.1;have hM:=Mx;have hw:IntKind.i64.wrap (3+((p.AQ.map Pd).length:Nat))=3+(p.AQ.length:Int):=by rw[BE,wrap64 (by omega) (by omega)]
 refine mT nb ?_;have hs:=Sn
 conv=>whnf
 repeat'((first|apply st|(apply sq;intro K U)|(apply si;intro A B Y Z)|(apply Y;clear Z B Y A)|(apply U;clear U K)|refine⟨rfl,?_⟩|refine Pure.use (PN _) ?_|(constructor<;>intro hc<;>(try rw[hc])<;>(replace hc:=bp hc))|clear U K)<;>conv=>whnf)
 all_goals first
  | (refine AI ?_;simp[Lh, *];done)
  | (refine AI ?_;simp[Lh, *];omega)
  | (refine AI ?_;rw[hw];simp[Lh, *];done)
  | (refine AI ?_;congr 1;rw[Lb];simp[Lh, *];omega)
theorem jg (n:Nat) (hn:n≤120):Pure Tryz.prog 252 [.i .u64 1,eU n] (.t [.i .u64 0,eU n]):=by
 refine lA nb ?_;have hs:=Sn
 conv=>whnf
 repeat'((first|apply st|(apply sq;intro K U)|(apply si;intro A B Y Z)|(apply Y;clear Z B Y A)|(apply U;clear U K)|refine⟨rfl,?_⟩|refine⟨(by decide:(0:Int)≤_),?_⟩|fail)<;>conv=>whnf)
 have ea: ∀m:Nat,m≤120→bits .and .u64 (m:Int) 4294967295=(m:Int):=fun m hm=>by
  have:=K9 (a:=m) (b:=4294967295) (by omega) (by decide)
  have e:m&&&4294967295=m:=by
   have:=Nat.and_two_pow_sub_one_eq_mod m 32;rw[show 2 ^ 32 - 1=4294967295 from rfl]at this;rw[this];omega
  rw[e]at this;exact this
 have e0:=ea 0 (by omega);have e1:=ea 1 (by omega);have en:=ea n hn
 have ef: ∀m:Nat,m≤120→(m:Int).fdiv (2 ^ min (Int.toNat 32) IntKind.u64.bits)=0:=fun m hm=>by
  have:=WQ (a:=m) (c:=32) (by decide);rw[show(Int.toNat 32)=32 from rfl,this,Nat.shiftRight_eq_div_pow];have:m / 2 ^ 32=0:=Nat.div_eq_of_lt (by omega);rw[this];rfl
 have f0:=ef 0 (by omega);have f1:=ef 1 (by omega);have fn:=ef n hn;have w0:IntKind.u64.wrap 0=0:=rfl;have wn:IntKind.u64.wrap (n:Int)=n:=HQ (by omega);simp only[Int.natCast_zero,Int.natCast_one,Int.cast_ofNat_Int]at e0 e1 f0 f1;simp only[e0,e1,en,f0,f1,fn,w0,wn,Int.zero_mul,Int.mul_zero,Int.zero_add,Int.add_zero,Int.one_mul];exact AI rfl
theorem jh (n:Nat) (hn:n≤120):Pure Tryz.prog 212 [.i .u64 1,eU n] (.t [.i .u64 0,eU n]):=by
 refine lk nb ?_;have hs:=Sn
 conv=>whnf
 repeat'((first|apply st|(apply sq;intro K U)|(apply si;intro A B Y Z)|(apply Y;clear Z B Y A)|(apply U;clear U K)|refine Pure.use (jg n hn) ?_|fail)<;>conv=>whnf)
 all_goals exact AI rfl
end Go.Gl
namespace Go.Gl
variable {P:Program} {σ:AH}
theorem ZI {n sz len cap:Nat} {ki:IntKind} {j:Int} {K:V→AH→Prop} (h:K (.sv n sz j.toNat ((len:Int) - j).toNat) σ) (h0:0≤j:=by omega) (h1:j≤(len:Int):=by omega):AV σ sz (.sl n len cap) (some (.i ki j)) none none K:=by
 unfold AV;simp only[ND];exact⟨h0,h1,Int.le_refl _,h⟩
theorem iT {n sz len cap:Nat} {ki:IntKind} {j:Int} {K:V→AH→Prop} (h:K (.sv n sz 0 j.toNat) σ) (h0:0≤j:=by omega) (h1:j≤(len:Int):=by omega):AV σ sz (.sl n len cap) none (some (.i ki j)) none K:=by
 unfold AV;simp only[ND];refine⟨Int.le_refl _,h0,h1,?_⟩;simpa using h
theorem pq {l:List At} (h:Sat σ l) (i:Nat) {n len cap sz:Nat} {es ys:List (List V)} {f:Bool} {K:V→AH→Prop} (hi:l[i]? =some (.own (.sl n len cap) sz es)) (hle:ys.length≤es.length) (hys: ∀e∈ys,e.length=sz) (ho: ∀e∈ys,∀v∈e,Db v=true)
 (hk: ∀σ',Sat σ' (l.set i (.own (.sl n len cap) sz (ys++es.drop ys.length)))→K (.i .i64 (ys.length:Nat)) σ'):Ah σ sz (.sl n len cap) (.l ys f) K:=by
 rcases h.get hi with⟨h1,_⟩|⟨n',cap',h1,hn⟩
 ·cases h1
 cases h1;unfold Ah;refine⟨hys,ho,?_⟩;simp only[RE,hn];have hm:min ys.length es.length=ys.length:=Nat.min_eq_left hle;refine⟨trivial,by omega,?_⟩;rw[hm];refine hk _ ?_;simp only[List.take_zero,List.nil_append,List.take_length,G6];refine h.change hi (fun b hb ha=>FE hb fun m hm=>?_) (fun b hb ha m hm=>ha m hm) (.inr ⟨n,cap,by simp;omega,by simp[BC]⟩);rw[C4];intro e;subst e;exact ha m rfl hm
theorem po {l:List At} (h:Sat σ l) (i:Nat) {n len cap sz a b c:Nat} {es:List (List V)} {K:V→AH→Prop} (hi:l[i]? =some (.own (.sl n len cap) sz es)) (hbc:a+b≤es.length) (hc:c≤es.length) (hys: ∀e∈es,e.length=sz) (ho: ∀e∈es,∀v∈e,Db v=true)
 (hk: ∀σ',Sat σ' (l.set i (.own (.sl n len cap) sz (es.take a++((es.take c).take (min c b)++es.drop (a+min c b)))))→K (.i .i64 (min c b:Nat)) σ'):Ah σ sz (.sv n sz a b) (.sv n sz 0 c) K:=by
 rcases h.get hi with⟨h1,_⟩|⟨n',cap',h1,hn⟩
 ·cases h1
 cases h1;unfold Ah;simp only[rowsOf,hn];have hl:((es.drop 0).take c).length=c:=by simp;omega
 refine⟨trivial,trivial,by omega,fun e he v hv=>ho e (List.mem_of_mem_take (by simpa using he)) v hv,trivial,?_⟩;simp only[RE,hn,List.drop_zero];refine⟨trivial,by omega,?_⟩;have hl2:(es.take c).length=c:=by simp;omega
 rw[hl2];refine hk _ ?_;refine h.change hi (fun b hb ha=>FE hb fun m hm=>?_) (fun b hb ha m hm=>ha m hm) (.inr ⟨n,cap,by simp;omega,by simp[BC]⟩);rw[C4];intro e;subst e;exact ha m rfl hm
end Go.Gl
namespace Go.Gl
open Go.Proofs
attribute [local irreducible] BL A4 Aj AW AM Ai AV AX AN Ah AS AU A8 BJ Sat Ac BF Ak W
theorem X1 (n:Nat) (h1:1≤n) (hn:n≤120):Bh Tryz.prog 165 [.l [[eI (-1)]] true,eI n] [] fun r post=> ∃v,r= .ret v∧post= [.own v 1 (iL (List.replicate n (-1)))]∧(B6 v).isSome=true:=by
 intro σ hs;have hM:=Mx;have hw1:IntKind.u64.wrap 1=1:=rfl;have hwn:IntKind.u64.wrap (n:Int)=n:=HQ (by omega);have hwi:IntKind.i64.wrap (n:Int)=n:=wrap64 (by omega) (by omega);refine mW nb ?_
 conv=>whnf
 repeat'((first|apply st|(apply sq;intro K U)|(apply si;intro A B Y Z)|(apply Y;clear Z B Y A)|(apply U;clear U K)|refine⟨rfl,?_⟩|(constructor<;>intro hc<;>(try rw[hc])<;>(replace hc:=bp hc)<;>try(exfalso;omega))|fail)<;>conv=>whnf)
 rw[show IntKind.u64.wrap (([[eI (-1)]]:List (List V)).length:Nat)=1 from rfl,hwn];refine(jh n hn).use ?_
 conv=>whnf
 repeat'((first|apply st|(apply sq;intro K U)|(apply si;intro A B Y Z)|(apply Y;clear Z B Y A)|(apply U;clear U K)|refine⟨rfl,?_⟩|(constructor<;>intro hc<;>(try rw[hc])<;>(replace hc:=bp hc)<;>try(exfalso;omega))|fail)<;>conv=>whnf)
 all_goals try(exfalso;omega)
 rw[hwi];refine de hs (JU n) (by omega) fun v σ hs hv=>?_
 obtain⟨id,rfl⟩:=hv
 conv=>whnf
 repeat'((first|(apply sq;intro K U)|(apply si;intro A B Y Z)|(apply Y;clear Z B Y A)|(apply U;clear U K)|fail)<;>conv=>whnf)
 refine pq hs 0 (ys:=[[eI (-1)]]) rfl (by simp;omega) (fun e he=>by simp at he;subst he;rfl) (fun e he v hv=>by simp at he;subst he;simp at hv;subst hv;rfl) fun σ hs=>?_
 have hst:([[eI (-1)]]:List (List V))++(List.replicate n [V.i .i64 0]).drop ([[eI (-1)]]:List (List V)).length=List.replicate 1 [eI (-1)]++List.replicate (n - 1) [eI 0]:=by simp[List.drop_replicate]
 rw[hst]at hs
 conv=>whnf
 repeat'((first|apply st|(apply sq;intro K U)|(apply Y;clear Z B Y A)|(apply U;clear U K)|fail)<;>conv=>whnf)
 refine EF (fun m:Nat=>n - m) (fun m=>[(8,eI m)]) (fun m=>[.own (.sl id n n) 1 (List.replicate m [eI (-1)]++List.replicate (n - m) [eI 0])]) (fun m=>1≤m∧m≤n) 1 rfl ⟨by omega,h1⟩ hs ?_;clear hs hst;rintro m σ ⟨hm1,hmn⟩ hs
 have hgl: ∀e∈(List.replicate m [eI (-1)]++List.replicate (n - m) [eI 0]:List (List V)),e.length=1∧ ∀v∈e,Db v=true:=fun e he=>by
  rcases Fk.1 he with he|he
  ·rw[(List.mem_replicate.1 he).2];exact⟨rfl,fun v hv=>by simp at hv;subst hv;rfl⟩
  ·rw[(List.mem_replicate.1 he).2];exact⟨rfl,fun v hv=>by simp at hv;subst hv;rfl⟩
 have hlen:(List.replicate m [eI (-1)]++List.replicate (n - m) [eI 0]:List (List V)).length=n:=by simp;omega
 rcases Nat.lt_or_ge m n with hlt|hge
 ·have hcpy:(List.replicate m [eI (-1)]++List.replicate (n - m) [eI 0]:List (List V)).take m++(((List.replicate m [eI (-1)]++List.replicate (n - m) [eI 0]:List (List V)).take m).take (min m (n - m))++(List.replicate m [eI (-1)]++List.replicate (n - m) [eI 0]:List (List V)).drop (m+min m (n - m)))=List.replicate (m+min m (n - m)) [eI (-1)]++List.replicate (n - (m+min m (n - m))) [eI 0]:=by
   have e1:(List.replicate m [eI (-1)]++List.replicate (n - m) [eI 0]:List (List V)).take m=List.replicate m [eI (-1)]:=by
    rw[List.take_append_of_le_length (by simp)];simp
   rw[e1,List.take_replicate,List.drop_append,List.drop_replicate,List.drop_replicate,List.length_replicate,←SS,List.replicate_append_replicate];have e2:m - (m+min m (n - m))=0:=by omega
   have e3:n - m - (m+min m (n - m) - m)=n - (m+min m (n - m)):=by omega
   rw[e2,e3,List.replicate_zero,List.nil_append];congr 2;omega
  conv=>whnf
  repeat'((first|apply st|(apply sq;intro K U)|(apply si;intro A B Y Z)|(apply Y;clear Z B Y A)|(apply U;clear U K)|apply dr|refine⟨rfl,?_⟩|refine lo ?_|(constructor<;>intro hc<;>(try rw[hc])<;>(replace hc:=bp hc)<;>try(exfalso;omega))|fail)<;>conv=>whnf)
  all_goals try(exfalso;omega)
  refine ZI ?_
  conv=>whnf
  repeat'((first|apply dr|fail)<;>conv=>whnf)
  refine iT ?_
  conv=>whnf
  repeat'((first|apply dr|fail)<;>conv=>whnf)
  rw[Ih,show((n:Int) - m).toNat=n - m by omega];refine po hs 0 rfl (by rw[hlen];omega) (by rw[hlen];omega) (fun e he=>(hgl e he).1) (fun e he=>(hgl e he).2) fun σ hs=>?_
  rw[hcpy]at hs
  conv=>whnf
  repeat'((first|(apply Y;clear Z B Y A)|apply dr|refine⟨rfl,?_⟩|clear U K)<;>conv=>whnf)
  refine⟨m+min m (n - m),by omega,?_,⟨by omega,by omega⟩,hs⟩;rw[wrap64 (by omega) (by omega)];rfl
 ·have hme:m=n:=by omega
  subst hme
  conv=>whnf
  repeat'((first|apply st|(apply sq;intro K U)|(apply si;intro A B Y Z)|(apply Y;clear Z B Y A)|(apply U;clear U K)|refine⟨rfl,?_⟩|refine lo ?_|(constructor<;>intro hc<;>(try rw[hc])<;>(replace hc:=bp hc)<;>try(exfalso;omega))|clear U K)<;>conv=>whnf)
  all_goals try(exfalso;omega)
  refine Ao hs (List.Sublist.refl _) (.refl _) fun σ' hs'=>⟨_,⟨_,rfl,?_,rfl⟩,hs'⟩
  simp[iL]
def P1 (op:Int):V:=
 if op=5 then .KT 207 (.a [])else
 if op=1∨op=2∨op=3∨op=6∨op=18 then .KT 205 (eI 0)else
 if op=4∨op=8∨op=17 then .KT 205 (eI 1)else
 if op=7∨op=9∨op=11∨op=12∨op=13∨op=14∨op=15∨op=16 then .KT 205 (eI 2)else
 if op=10 then .KT 205 (eI 3)else .Ie
theorem YM (op:Int):Pure Tryz.prog 169 [eI op] (P1 op):=by
 refine mS nb ?_;have hs:=Sn
 conv=>whnf
 repeat'((first|apply st|(apply sq;intro K U)|(apply si;intro A B Y Z)|(apply Y;clear Z B Y A)|(apply U;clear U K)|refine⟨rfl,?_⟩|(constructor<;>intro hc<;>(try rw[hc])<;>(replace hc:=bp hc))|clear U K)<;>conv=>whnf)
 all_goals exact AI (by simp[P1, *])
theorem pO (n:Int) (p:Prog) (x:Node):Pure Tryz.prog 306 [eI n,.a (BK p),.a (Iu x)] (eI n):=by
 refine kD nb ?_;have hs:=Sn
 conv=>whnf
 repeat'((first|apply st|(apply sq;intro K U)|(apply si;intro A B Y Z)|(apply Y;clear Z B Y A)|(apply U;clear U K)|fail)<;>conv=>whnf)
 all_goals exact AI rfl
theorem fu (p:Prog) (x:Node) (h0:0≤x.n) (h1:x.n<p.DA.length):Pure Tryz.prog 307 [.a [],.a (BK p),.a (Iu x)] (eI (p.DA.getD x.n.toNat 0)):=by
 refine Pure.fit (by kernel_rfl) fun hf=>?_
 have⟨p1,p2,p3,p4⟩:=GG hf.2.1
 have hx:p.DA[x.n.toNat]? =some (p.DA.getD x.n.toNat 0):=by
  rw[DL,Cu (by omega)];rfl
 refine kC nb ?_;have hs:=Sn
 conv=>whnf
 repeat'((first|apply st|(apply sq;intro K U)|(apply si;intro A B Y Z)|(apply Y;clear Z B Y A)|(apply U;clear U K)|refine F6 ?_|fail)<;>conv=>whnf)
 all_goals exact AI rfl
end Go.Gl
namespace Go.Gl
variable {P:Program} {σ:AH}
theorem Sat.up {σ':AH} {l:List At} (h:Sat σ l) (hs:Sub σ σ'):Sat σ' l:=by
 refine⟨fun a ha=>?_,h.2⟩;have:=h.1 a ha;cases a with
 | obj n o=>exact hs n o this
 | own v sz es=>
   rcases this with h|⟨n,cap,e,hn⟩
   ·exact .inl h
   ·exact .inr ⟨n,cap,e,hs n _ hn⟩
theorem Sat.del {l:List At} {n:Nat} {o:O} (h:Sat σ (.obj n o::l)):Sat (del σ n) l:=by
 refine⟨fun b hb=>FE (h.1 b (.tail _ hb)) fun m hm=>?_,(List.pairwise_cons.1 h.2).2⟩;rw[G1];intro e;subst e;exact(List.pairwise_cons.1 h.2).1 b hb m rfl hm
theorem Sat.Js {l:List At} {n:Nat} {o:O} (h:Sat σ l) (hn:σ n=none):Sat (BC σ n o) (.obj n o::l):=(ZO h hn).oz
theorem Sat.new {l:List At} {n:Nat} {o o':O} (h:Sat σ (.obj n o::l)):Sat (BC σ n o') (.obj n o'::l):=ic (i:=0) h rfl o'
theorem AO {v:V} {Q:R→AH→Prop} (h:Q (.ret v) σ):A4 σ v Q:=⟨v,σ,fun _ _ h=>h,.refl v,h⟩
inductive Rd (S:Type) where
 | go (s:S)
 | stop (st:o6) (s:S)
 | C8 (v:V)
def dW {S:Type} (L:Nat) (E:Env) (ok:FuncId→Array Tmp→Code→Code→Nat→Prop) (H:S→List At) (J:S→Prop) (rest:List At) (yes no:V):Rd S→R→AH→Prop
 | .go s,r,σ=>r= .ret yes∧Sat σ (.obj L (.loop .ready E ok)::(H s++rest))
 | .stop st s,r,σ=>r= .ret no∧Sat σ (.obj L (.loop st E ok)::(H s++rest))
 | .C8 v,r,σ=>r= .C8 v∧ ∃s,J s∧Sat (del σ L) (H s++rest)
def Ly {α S:Type} (P:Program) (L:Nat) (E:Env) (ok:FuncId→Array Tmp→Code→Code→Nat→Prop) (ea:α→List V) (H:S→List At) (J:S→Prop) (stp:α→S→Rd S) (D:α→S→Prop):Prop:=
 ∀y s,D y s→ ∀(rest:List At) (σ:AH),Sat σ (.obj L (.loop .ready E ok)::(H s++rest))→Nl P L (ea y) σ (dW L E ok H J rest (.b true) (.b false) (stp y s))
theorem Ly.use {α S:Type} {L:Nat} {E:Env} {ok:FuncId→Array Tmp→Code→Code→Nat→Prop} {ea:α→List V} {H:S→List At} {J:S→Prop} {stp:α→S→Rd S} {D:α→S→Prop} (h:Ly P L E ok ea H J stp D) {y:α} {s:S} (hd:D y s) {rest:List At} (hs:Sat σ (.obj L (.loop .ready E ok)::(H s++rest)))
 {Q:R→AH→Prop} (hk: ∀r σ',dW L E ok H J rest (.b true) (.b false) (stp y s) r σ'→Q r σ'):A8 P (.f (.yield L) [] []) (ea y) σ Q:=(h y s hd rest σ hs).mono hk
theorem PK {L:Nat} {env:Env} {ps:List Nat} {a b:AJ} (hσ:σ L=some (.loop .ready env (B7 P ps a b))) {args:List V} (hl:args.length=ps.length) {Q:R→AH→Prop}
 (h:W P a (DI (W P b fun ex env' σ'=>σ' L=none→Ra L env (B7 P ps a b) Q ex env' σ')) (J3 ps args env) (del σ L)):Nl P L args σ Q:=
 Vm hσ hl (U0 h (Ji fun _ _ h=>iO h))
theorem Mh {α S:Type} {L:Nat} {E:Env} {ps:List Nat} {a b:AJ} {ea:α→List V} {H:S→List At} {J:S→Prop} {stp:α→S→Rd S} {D:α→S→Prop} (hl: ∀y,(ea y).length=ps.length)
 (h: ∀y s,D y s→ ∀(rest:List At) (σ:AH),Sat σ (H s++rest)→W P a (DI (W P b fun ex env' σ'=>σ' L=none→Ra L E (B7 P ps a b) (dW L E (B7 P ps a b) H J rest (.b true) (.b false) (stp y s)) ex env' σ')) (J3 ps (ea y) E) σ):Ly P L E (B7 P ps a b) ea H J stp D:=
 fun y s hd rest σ hs=>PK (hs.get (i:=0) rfl) (hl y) (h y s hd rest _ hs.del)
theorem TH {S:Type} {L:Nat} {E:Env} {ok:FuncId→Array Tmp→Code→Code→Nat→Prop} {H:S→List At} {J:S→Prop} {rest:List At} {o:Rd S} {s:S} (h:o= .go s) (hs:Sat σ (H s++rest)) (hn:σ L=none) :
 dW L E ok H J rest (.b true) (.b false) o (.ret (.b true)) (BC σ L (.loop .ready E ok)):=by
 subst h;exact⟨rfl,hs.Js hn⟩
theorem VA {S:Type} {L:Nat} {E:Env} {ok:FuncId→Array Tmp→Code→Code→Nat→Prop} {H:S→List At} {J:S→Prop} {rest:List At} {o:Rd S} {s:S} {st:o6} (h:o= .stop st s) (hs:Sat σ (H s++rest)) (hn:σ L=none) :
 dW L E ok H J rest (.b true) (.b false) o (.ret (.b false)) (BC σ L (.loop st E ok)):=by
 subst h;exact⟨rfl,hs.Js hn⟩
theorem QI {S:Type} {L:Nat} {E:Env} {ok:FuncId→Array Tmp→Code→Code→Nat→Prop} {H:S→List At} {J:S→Prop} {rest:List At} {o:Rd S} {s:S} {v:V} (h:o= .C8 v) (hj:J s) (hs:Sat σ (H s++rest)) (hn:σ L=none) :
 dW L E ok H J rest (.b true) (.b false) o (.C8 v) σ:=by
 subst h;refine⟨rfl,s,hj,fun a ha=>FE (hs.1 a ha) fun n hd=>?_,hs.2⟩;obtain⟨o,ho⟩:=Cz (hs.1 a ha) hd;rw[G1];intro e;subst e;rw[hn]at ho;cases ho
theorem Fh {L:Nat} {E env:Env} {ok:FuncId→Array Tmp→Code→Code→Nat→Prop} {Q:As→Env→AH→Prop} {l:List At} {v:V} (hs:Sat σ (.obj L (.loop .ready E ok)::l)) (hk: ∀σ',Sat σ' l→Q .normal env σ'):J4 L Q env (.ret v) σ:=
 ⟨_,_,_,hs.get (i:=0) rfl,hk _ hs.del⟩
theorem VD {L id:Nat} {E env:Env} {ok:FuncId→Array Tmp→Code→Code→Nat→Prop} {Q:As→Env→AH→Prop} {l:List At} {v:V} (hs:Sat σ (.obj L (.loop (.exit id) E ok)::l)) (hk: ∀σ',Sat σ' l→Q (.exit id) env σ'):J4 L Q env (.ret v) σ:=
 ⟨_,_,_,hs.get (i:=0) rfl,hk _ hs.del⟩
end Go.Gl
namespace Go.Gl
open Go.Proofs
attribute [local irreducible] BL A4 Aj AW AM Ai AV AX AN Ah AS AU A8 BJ Sat Ac BF Ak W
def FL (p:Prog) (next:Bool) (n size depth:Int) (s:List Int):Option (List Int):=
 if n<0∨(p.nodes.length:Int)≤n∨0≤s.getD n.toNat 0∨12<depth then none else
 match p.nodes[n.toNat]? with
 | none=>none
 | some x=>if EG p next size x then some (s.set n.toNat size)else none
def ZM {S:Type}:Option S→Rd S
 | some s=> .go s
 | none=> .C8 Dw
abbrev vG (y:Int×Int×Int):List V:=[eI y.1,.a [eI y.2.1,eI y.2.2]]
abbrev hOut (nO:Nat) (v:V) (s:List Int):List At:=[.box nO [v],.own v 1 (iL s)]
abbrev dP (p:Prog) (y:Int×Int×Int) (s:List Int):Prop:=0≤y.2.1∧y.2.1≤100∧1≤y.2.2∧y.2.2≤13∧s.length=p.nodes.length
abbrev Uh (p:Prog) (L nW:Nat):V:= .f (.func 214) [] [.rp [.f (.yield L) [] []],.rp (BK p),.p nW 0]
theorem U2 {p:Prog} {next:Bool} {n size depth:Int} {s s':List Int} (h:FL p next n size depth s=some s'):0≤n∧n<(p.nodes.length:Int)∧s.getD n.toNat 0<0∧depth≤12∧ ∃x,p.nodes[n.toNat]? =some x∧EG p next size x=true∧s'=s.set n.toNat size:=by
 unfold FL at h;split at h
 ·cases h
 ·rename_i hc
  split at h
  ·cases h
  ·rename_i x hx
   split at h
   ·rename_i hok
    simp only[IT]at h;exact⟨by omega,by omega,by omega,by omega,x,hx,hok,h.symm⟩
   ·cases h
theorem U1 {p:Prog} {next:Bool} {d:Nat} {n size depth:Int} {s:List Int} (hd:depth=13 - (d+1:Nat)) (hd1:1≤depth):CQ p next (d+1) n size s=match FL p next n size depth s with
 | none=>none
 | some s'=>match p.nodes[n.toNat]? with
   | none=>none
   | some x=>Fe (CQ p next d) x.op size 0 x.kids s':=by
 unfold FL;simp only[CQ];by_cases h:n<0∨(p.nodes.length:Int)≤n∨0≤s.getD n.toNat 0
 ·rw[if_pos h,if_pos (by omega)]
 ·rw[if_neg h,if_neg (by omega)]
  cases hx:p.nodes[n.toNat]? with
  | none=>rfl
  | some x=>
    simp only;split
    ·rfl
    ·rfl
theorem U3 {p:Prog} {next:Bool} {n size depth:Int} {s:List Int} (hd:12<depth):FL p next n size depth s=none:=by
 unfold FL;rw[if_pos (by omega)]
theorem QW {f:Int→Int→List Int→Option (List Int)} (hf: ∀ {a b s s'},f a b s=some s'→s'.length=s.length) {op size:Int}: ∀(i:Nat) (l:List Int) {s s':List Int},Fe f op size i l s=some s'→s'.length=s.length
 | _,[],s,s',h=>by cases h;rfl
 | i,k::r,s,s',h=>by
   simp only[Fe]at h;split at h
   ·cases h
   ·rename_i s1 h1
    exact(QW hf (i+1) r h).trans (hf h1)
theorem JJ {p:Prog} {next:Bool}: ∀(d:Nat) {n size:Int} {s s':List Int},CQ p next d n size s=some s'→s'.length=s.length
 | 0,_,_,_,_,h=>by cases h
 | d + 1,n,size,s,s',h=>by
   simp only[CQ]at h;split at h
   ·cases h
   ·split at h
    ·cases h
    ·split at h
     ·exact(QW (fun h=>JJ d h) 0 _ h).trans (by simp)
     ·cases h
set_option maxHeartbeats 4000000 in
theorem dn (p : Prog) (next:Bool) {L:Nat} {E:Env} {ok:FuncId→Array Tmp→Code→Code→Nat→Prop} {v:V} {nO:Nat}
 (hY:Ly Tryz.prog L E ok vG (hOut nO v) (fun s=>s.length=p.nodes.length) (fun y s=>ZM (FL p next y.1 y.2.1 y.2.2 s)) (dP p)) :
 ∀ d : Nat,d≤12→ ∀(n size depth:Int) (s:List Int),depth=13 - d→0≤size→size+d≤100→s.length=p.nodes.length→ ∀(nW:Nat) (rest:List At) (σ:AH),
   Sat σ (.obj L (.loop .ready E ok)::(hOut nO v s++(.box nW [Uh p L nW]::rest)))→
   BL Tryz.prog 214 [eI n,.a [eI size,eI depth],.rp [.f (.yield L) [] []],.rp (BK p),.p nW 0] σ
    (dW L E ok (hOut nO v) (fun s=>s.length=p.nodes.length) (.box nW [Uh p L nW]::rest) (.b true) (.b false) (ZM (CQ p next d n size s))):=by
 intro d
 induction d with
 | zero=>
   intro _ n size depth s hd h0 h1 hl nW rest σ hs;refine aD nb ?_
   conv=>whnf
   repeat'((first|apply st|(apply sq;intro K U)|(apply si;intro A B Y Z)|(apply Y;clear Z B Y A)|(apply U;clear U K)|refine⟨nb,?_⟩|fail)<;>conv=>whnf)
   refine hY.use (y:=(n,size,depth)) (s:=s) ⟨h0,(by dsimp only;omega),(by dsimp only;omega),(by dsimp only;omega),hl⟩ hs ?_;rw[U3 (by dsimp only;omega)];rintro r σ' ⟨rfl,s',hj,hs'⟩
   conv=>whnf
   repeat'((first|(refine Z _ _ _ ?_;clear Z B Y A)|clear U K)<;>conv=>whnf)
   exact DR ⟨rfl,s',hj,hs'⟩
 | succ d ih =>
   intro hd12 n size depth s hd h0 h1 hl nW rest σ hs;refine BL.fit (by kernel_rfl) fun hf=>?_
   have hM:=Mx
   have hfp:FD (.a (BK p)):=by
    have:=hf.2.2.2.1;simp only[Ry]at this;simpa only[G0]using this
   have⟨p1,p2,p3,p4⟩:=GG hfp;refine aD nb ?_
   conv=>whnf
   repeat'((first|apply st|(apply sq;intro K U)|(apply si;intro A B Y Z)|(apply Y;clear Z B Y A)|(apply U;clear U K)|refine⟨nb,?_⟩|fail)<;>conv=>whnf)
   refine hY.use (y:=(n,size,depth)) (s:=s) ⟨h0,(by dsimp only;omega),(by dsimp only;omega),(by dsimp only;omega),hl⟩ hs ?_;have hw:=U1 (p:=p) (next:=next) (n:=n) (size:=size) (s:=s) hd (by omega);cases hv:FL p next n size depth s with
   | none=>
     rw[hv]at hw;rintro r σ' ⟨rfl,s',hj,hs'⟩
     conv=>whnf
     repeat'((first|(refine Z _ _ _ ?_;clear Z B Y A)|clear U K)<;>conv=>whnf)
     refine DR ?_;rw[hw];exact⟨rfl,s',hj,hs'⟩
   | some s1 =>
     obtain⟨g0,g1,g2,g3,x,hx,hok,hs1⟩:=U2 hv;rw[hv]at hw;simp only[hx]at hw;have hl1:s1.length=p.nodes.length:=by rw[hs1];simpa using hl
     have hkm:=Z6 hfp (B2 hx);clear hv hs1;rintro r σ1 ⟨rfl,hs⟩
     conv=>whnf
     repeat'((first|apply st|(apply sq;intro K U)|(apply si;intro A B Y Z)|(apply Y;clear Z B Y A)|(apply U;clear U K)|refine F6 ?_|refine D2 ?_|fail)<;>conv=>whnf)
     refine B4 x.kids.length (fun k (_:List Int)=>[(23,eI (A6 k))]) (fun _ s'=> .obj L (.loop .ready E ok)::(hOut nO v s'++(.box nW [Uh p L nW]::rest))) (fun k s'=>s'.length=p.nodes.length∧CQ p next (d+1) n size s=Fe (CQ p next d) x.op size k (x.kids.drop k) s') s1 rfl ⟨hl1,by simpa using hw⟩ hs ?_;clear hs hw;rintro k s' σ hk ⟨hl',hkids⟩ hs;rcases BH x.kids hk with⟨kid,hkid,hlt⟩|hke
     ·have hck:A6 k=k:=AL (by omega)
      rw[drop_cons hkid,Fe]at hkids;have e0:IntKind.i64.wrap (depth+1)=depth+1:=wrap64 (by omega) (by omega);have e1:IntKind.i64.wrap (size+1)=size+1:=wrap64 (by omega) (by omega)
      have hrec: ∀(sz:Int) (σ:AH) (l:List At),0≤sz→sz+d≤100→Sat σ (l++(.obj L (.loop .ready E ok)::(hOut nO v s'++(.box nW [Uh p L nW]::rest))))→A8 Tryz.prog (Uh p L nW) [eI kid,.a [eI sz,eI (depth+1)]] σ
       (dW L E ok (hOut nO v) (fun s=>s.length=p.nodes.length) (.box nW [Uh p L nW]::rest) (.b true) (.b false) (ZM (CQ p next d kid sz s'))):=fun sz σ l h0 h1 hs=>
       Bp (ih (by omega) kid sz (depth+1) s' (by omega) h0 h1 hl' nW rest σ (hs.less (List.sublist_append_right _ _)))
      conv=>whnf
      repeat'((first|apply st|(apply sq;intro K U)|(apply si;intro A B Y Z)|(apply Y;clear Z B Y A)|(apply U;clear U K)|refine⟨rfl,?_⟩|refine⟨nb,?_⟩|refine ix ?_|refine F6 ?_|refine ld ?_|refine FB fun σ hs=>?_|refine Dm fun σ hs=>?_|(refine CS (fun hc=>?_)<;>(try rw[hc])<;>clear hc)|(constructor<;>intro hc<;>(try rw[hc])<;>(replace hc:=bp hc)<;>(try simp(disch:=omega) only[BE,wrap64,AL]at hc))|(intro nn hnn;generalize hg:BC _ nn _=σ;refine Cm hg fun hs=>?_;clear hg)|fail)<;>conv=>whnf)
      all_goals
       simp only[e0,e1]
       first
        | rw[if_pos (by omega)]at hkids
          refine(hrec (size+1) _ [_] (by omega) (by omega) hs).mono ?_
        | rw[if_neg (by omega)]at hkids
          refine(hrec size _ [_] (by omega) (by omega) hs).mono ?_
       cases hw:CQ p next d kid _ s' with
       | none=>
         rw[hw]at hkids;rintro r σ' ⟨rfl,s',hj,hs'⟩
         conv=>whnf
         repeat'((first|(refine Z _ _ _ ?_;clear Z B Y A)|clear U K)<;>conv=>whnf)
         refine DR ?_;rw[hkids];exact⟨rfl,s',hj,hs'⟩
       | some s2=>
         rw[hw]at hkids;rintro r σ' ⟨rfl,hs'⟩
         conv=>whnf
         repeat'((first|apply st|(apply si;intro A B Y Z)|(apply Y;clear Z B Y A)|(apply U;clear U K)|refine⟨rfl,?_⟩|refine D2 ?_|clear U K)<;>conv=>whnf)
         exact⟨hlt,s2,rfl,⟨(JJ _ hw).trans hl',hkids⟩,hs'⟩
     ·rw[Al hke,Fe]at hkids
      conv=>whnf
      repeat'((first|apply st|(apply sq;intro K U)|(apply si;intro A B Y Z)|(apply Y;clear Z B Y A)|(apply U;clear U K)|refine⟨rfl,?_⟩|(refine Dh (fun hc=>?_)<;>(try rw[hc])<;>clear hc)|clear U K)<;>conv=>whnf)
      refine AO ?_;rw[hkids];exact⟨rfl,hs⟩
theorem iQ {a b:Nat} {A B:Prop} (e:a=b) (h:A):(a=b→A)∧(a≠b→B):=⟨fun _=>h,fun n=>absurd e n⟩
theorem vL {a b:Nat} {A B:Prop} (e:a≠b) (h:B):(a=b→A)∧(a≠b→B):=⟨fun n=>absurd n e,fun _=>h⟩
theorem av {P:Program} {σ:AH} {tab:List (TypeId×FuncId)} {t:TypeId} {f:FuncId} {v:V} {args:List V} {Q:R→AH→Prop} (h:look t tab=some f) (hc:BL P f (v::args) σ Q):BJ P tab (.KT t v) args σ Q:=by
 unfold BJ;simp only[h];exact hc
theorem cn (p:Prog) (n size depth:Int):Pure Tryz.prog 167 [.a (BK p),eI n,.a [eI size,eI depth]] (.f (.func 213) [] [.rp (BK p),.rp [eI n],.rp [eI size,eI depth]]):=by
 refine mU nb ?_;have hs:=Sn
 conv=>whnf
 repeat'((first|apply st|(apply sq;intro K U)|(apply si;intro A B Y Z)|(apply Y;clear Z B Y A)|(apply U;clear U K)|fail)<;>conv=>whnf)
 all_goals exact AI rfl
set_option maxHeartbeats 4000000 in
theorem j5 (p:Prog) (next:Bool) {L:Nat} {E:Env} {ok:FuncId→Array Tmp→Code→Code→Nat→Prop} {v:V} {nO:Nat}
 (hY:Ly Tryz.prog L E ok vG (hOut nO v) (fun s=>s.length=p.nodes.length) (fun y s=>ZM (FL p next y.1 y.2.1 y.2.2 s)) (dP p)) (n size:Int) (s:List Int) (h0:0≤size) (h1:size≤20) (hl:s.length=p.nodes.length) (rest:List At) (σ:AH)
 (hs : Sat σ (.obj L (.loop .ready E ok)::(hOut nO v s++rest))) :
  BL Tryz.prog 213 [.f (.yield L) [] [],.rp (BK p),.rp [eI n],.rp [eI size,eI 1]] σ
   (dW L E ok (hOut nO v) (fun s=>s.length=p.nodes.length) rest (.t []) (.t []) (ZM (CQ p next 12 n size s))):=by
 refine lj nb ?_
 conv=>whnf
 repeat'((first|apply st|(apply sq;intro K U)|(apply si;intro A B Y Z)|(apply Y;clear Z B Y A)|(apply U;clear U K)|refine⟨nb,?_⟩|refine ld ?_|refine FB fun σ hs=>?_|(intro nn hnn;generalize hg:BC _ nn _=σ;refine Cm hg fun hs=>?_;clear hg)|fail)<;>conv=>whnf)
 have hp:Sat σ (.obj L (.loop .ready E ok)::(hOut nO v s++(.box nn [Uh p L nn]::rest))):=hs.perm (by
  refine(List.Perm.swap _ _ _).trans (.cons _ ?_)
  exact(List.perm_middle (l₁:=hOut nO v s)).symm)
 refine Bp ((dn p next hY 12 (JU _) n size 1 s rfl h0 (by omega) hl nn rest σ hp).mono ?_);cases hw:CQ p next 12 n size s with
 | none=>
   rintro r σ' ⟨rfl,s',hj,hs'⟩
   conv=>whnf
   repeat'((first|(refine Z _ _ _ ?_;clear Z B Y A)|fail)<;>conv=>whnf)
   refine DR ?_;rw[hw];exact⟨rfl,s',hj,hs'.less (List.Sublist.append_left (Jn _ _) _)⟩
 | some s2=>
   rintro r σ' ⟨rfl,hs'⟩
   conv=>whnf
   repeat'((first|(apply Y;clear Z B Y A)|fail)<;>conv=>whnf)
   refine AO ?_;rw[hw];exact⟨rfl,hs'.less (.cons₂ _ (List.Sublist.append_left (Jn _ _) _))⟩
theorem T5 (p:Prog) (x:Node):(x.op=5∧P1 x.op= .KT 207 (.a []))∨(x.op≠5∧ ∃m:Int,P1 x.op= .KT 205 (eI m)∧It p x=m)∨(P1 x.op= .Ie∧It p x= -1):=by
 unfold P1 It;by_cases h5:x.op=5
 ·exact .inl ⟨h5,by rw[if_pos h5]⟩
 ·rw[if_neg h5]
  split
  ·exact .inr (.inl ⟨h5,_,rfl,rfl⟩)
  split
  ·exact .inr (.inl ⟨h5,_,rfl,rfl⟩)
  split
  ·exact .inr (.inl ⟨h5,_,rfl,rfl⟩)
  split
  ·exact .inr (.inl ⟨h5,_,rfl,rfl⟩)
  ·exact .inr (.inr ⟨rfl,by rw[if_neg (by rintro⟨h,_⟩;exact h5 h)]⟩)
theorem Rt {p:Prog} {x:Node} (h:x.op=5) {size:Int} (hn:Lh p x size=true):0≤x.n∧x.n<p.DA.length∧It p x=p.DA.getD x.n.toNat 0:=by
 have h2:0≤x.n∧x.n<p.DA.length:=by
  simp only[Lh,h]at hn;simpa using hn
 refine⟨h2.1,h2.2,?_⟩;unfold It;rw[h,if_neg (by decide),if_neg (by decide),if_neg (by decide),if_neg (by decide),if_pos ⟨rfl,h2.1,h2.2⟩]
theorem bD {p:Prog} {next:Bool} {n size depth:Int} {s:List Int} (h:n<0∨(p.nodes.length:Int)≤n∨0≤s.getD n.toNat 0∨12<depth):FL p next n size depth s=none:=by
 unfold FL;rw[if_pos h]
theorem bE {p:Prog} {next:Bool} {n size depth:Int} {s:List Int} {y:Int} {x:Node} (h0:0≤n) (h1:n<(p.nodes.length:Int)) (hy:s[n.toNat]? =some y) (hy0:y<0) (hd:depth≤12) (hx:p.nodes[n.toNat]? =some x):FL p next n size depth s=if EG p next size x then some (s.set n.toNat size)else none:=by
 have e:s.getD n.toNat 0=y:=by rw[DL,hy];rfl
 unfold FL;rw[if_neg (by rw[e];omega),hx]
def qw (p:Prog) (nO:Nat) (v:V) (rest:List At) (o:Option (List Int)) (r:R) (σ:AH):Prop:=
 match o with
 | some s=>r= .ret (.t [])∧Sat σ (hOut nO v s++rest)
 | none=>r= .C8 Dw∧ ∃s:List Int,s.length=p.nodes.length∧Sat σ (hOut nO v s++rest)
set_option maxHeartbeats 4000000 in
theorem R1 (p:Prog) (next:Bool) {v:V} {nO:Nat} (hv:(B6 v).isSome=true) (n size:Int) (s:List Int) (h0:0≤size) (h1:size≤20) (hl:s.length=p.nodes.length) (rest:List At) (σ:AH) (hs:Sat σ (hOut nO v s++rest)) :
 BL Tryz.prog 166 [eI n,eI size,.b next,.rp (BK p),.p nO 0] σ (qw p nO v rest (CQ p next 12 n size s)):=by
 refine BL.fit (by kernel_rfl) fun hf=>?_
 have hM:=Mx
 have hfp:FD (.a (BK p)):=by
  have:=hf.2.2.2.1;simp only[Ry]at this;simpa only[G0]using this
 have⟨p1,p2,p3,p4⟩:=GG hfp;refine mV nb ?_
 conv=>whnf
 repeat'((first|apply st|(apply sq;intro K U)|(apply si;intro A B Y Z)|(apply Y;clear Z B Y A)|(apply U;clear U K)|refine⟨nb,?_⟩|refine Pure.use (cn _ _ _ _) ?_|(intro nn hnn;generalize hg:BC _ nn _=σ;refine Cm hg fun hs=>?_;clear hg)|fail)<;>conv=>whnf)
 refine BL.mono (j5 p next (L:=nn) (v:=v) (nO:=nO) ?_ n size s h0 h1 hl rest σ hs) ?_
 ·refine Mh (fun y=>rfl) ?_
  clear hs hnn hl h0 h1;rintro⟨k,sz,dp⟩ s ⟨d0,d1,d2,d3,hl⟩ rest σ hs;dsimp only at d0 d1 d2 d3 hl;dsimp only;rw[show vG (k,sz,dp)= [eI k,.a [eI sz,eI dp]] from rfl]
  conv=>whnf
  repeat'((first|apply st|(apply sq;intro K U)|(apply si;intro A B Y Z)|(apply Y;clear Z B Y A)|(refine Z _ _ _ ?_;clear Z B Y A)|(refine Z _ _ fun σ hsub=>?_;clear Z B Y A)|(apply U;clear U K)|apply dr|refine rk ?_ ?_|exact fun s e=>by cases e;rfl|refine⟨rfl,?_⟩|refine⟨nb,?_⟩|refine iq fun x hx=>?_|refine ld ?_|refine Dm fun σ hs=>?_|refine oi ?_|refine ol fun x hx=>?_|refine oset fun σ hs=>?_|refine E0 ?_|refine D2 ?_|(refine Cs (fun hc=>?_) (fun hc=>?_)<;>(replace hc:=bp hc)<;>(try simp(disch:=omega) only[BE,wrap64,AL]at hc)<;>(try(cases hc;done)))|refine Pure.use (YB _ _ _) ?_|refine Pure.use (YM _) ?_|(rcases T5 p (by assumption)with⟨e5,ek⟩|⟨e5,m,ek,hm⟩|⟨ek,hm⟩<;>rw[ek]<;>clear ek)|refine iQ rfl ?_|refine vL (by decide) ?_|refine av rfl (Pure.use (pO _ _ _) ?_)|refine av rfl (Pure.use (fu _ _ (Rt (by assumption) (by assumption)).1 (Rt (by assumption) (by assumption)).2.1) ?_)|(constructor<;>intro hc<;>(try rw[hc])<;>(replace hc:=bp hc)<;>(try simp(disch:=omega) only[BE,wrap64,AL]at hc))|(intro nn hnn;generalize hg:BC _ nn _=σ;refine Cm hg fun hs=>?_;clear hg)|clear U K)<;>conv=>whnf)
  all_goals first
   | (intro hn;refine QI (s:=s) (by rw[bD (by first|omega|(rw[DL,‹s[k.toNat]? =some _›];simp only[Option.getD_some];omega))];rfl) hl (hs.less (by repeat first|exact List.Sublist.refl _|apply List.Sublist.cons)) hn)
   | skip
  all_goals
   have hva:=bE (next:=next) (size:=sz) (depth:=dp) (show 0≤k by omega) (show k<(p.nodes.length:Int) by omega) ‹s[k.toNat]? =some _› (by assumption) (by omega) ‹p.nodes[k.toNat]? =some _›
   rename Node=>x
   have hk5:x.op=5→Lh p x sz=true→It p x=p.DA.getD x.n.toNat 0:=fun h hn=>(Rt h hn).2.2
   intro hn
  all_goals first
   | (rw[if_neg (by first|(intro h;rw[EG,hk5 (by assumption) (by assumption)]at h;simp only[BZ,D1]at h;exact absurd h.1 (by assumption))|(simp[EG, *];done)|(simp[EG, *];omega)|(rw[EG,hk5 (by assumption) (by assumption)];simp[*];done)|(simp[EG, *];intros;omega))]at hva
      refine QI (s:=s.set k.toNat sz) (by rw[hva];rfl) (by simpa using hl) ?_ hn
      first
       | exact hs.less (by repeat first|exact List.Sublist.refl _|apply List.Sublist.cons)
       | exact(hs.less (by repeat first|exact List.Sublist.refl _|apply List.Sublist.cons)).up (by assumption))
   | (rw[if_pos (by first|(simp[EG, *];done)|(rw[EG,hk5 (by assumption) (by assumption)];simp[*];done))]at hva
      exact TH (s:=s.set k.toNat sz) (by rw[hva];rfl) (hs.less (by repeat first|exact List.Sublist.refl _|apply List.Sublist.cons)) hn)
 ·cases hw:CQ p next 12 n size s with
  | none=>
    rintro r σ' ⟨rfl,s',hj,hs'⟩
    conv=>whnf
    exact DR ⟨rfl,s',hj,hs'⟩
  | some s2=>
    rintro r σ' ⟨rfl,hs'⟩;refine Fh hs' fun σ2 hs2=>?_
    conv=>whnf
    exact AO ⟨rfl,hs2⟩
def CR (w:AK):Prop:=IK w.parents∧w.owner.length≤40∧ ∀o∈w.owner,(3:Int)≤o∧o<3+(w.parents.length:Int)
def UZ (us:List Nat) (l:List Int) (s:Nat):Nat:=l.foldl (fun s c=>s|||us.getD c.toNat 0) s
def Ck (g:List (List Int)):Nat→List Nat
 | 0=>[1,3,5]
 | k+1=>Ck g k++[UZ (Ck g k) (g.getD k []) (1|||2 ^ (3+k))]
def CE (g:List (List Int)):List Nat:=Ck g g.length
def db (us:List Nat):List V:=us.map eU++List.replicate (63 - us.length) (eU 0)
def wC (w:AK) (us:List Nat):List V:=A2 w++db us
theorem Er (g:List (List Int)): ∀k,(Ck g k).length=3+k
 | 0=>rfl
 | k+1=>by simp[Ck,Er g k];omega
theorem Zl (w:AK) {us:List Nat} (h:us.length≤63):(wC w us).length=65:=by
 simp only[wC,A2,db,PT,LX,List.length_nil,BE,List.length_replicate];omega
theorem Zk (w:AK) (us:List Nat) (s:Nat) (h:us.length<63):(wC w us).set (2+us.length) (eU s)=wC w (us++[s]):=by
 simp only[wC,db];rw[List.set_append_right _ _ (by simp[A2])];congr 1;have e:2+us.length - (A2 w).length=us.length:=by simp[A2]
 rw[e,List.set_append_right _ _ (by simp)];rw[BE,Nat.sub_self,SN,SS];congr 1;rw[show 63 - us.length=(63 - (us++[s]).length)+1 by simp;omega,List.replicate_succ];rfl
theorem V6 (w:AK) (us:List Nat) {i:Nat} (h:i<us.length):(wC w us)[2+i]? =some (eU (us.getD i 0)):=by
 simp only[wC,db];rw[List.getElem?_append_right (by simp[A2]),show 2+i - (A2 w).length=i by simp[A2],dF (by simpa using h),LZ,Cu h,DL,Cu h];rfl
def ot (us:List Nat):Prop:= ∀u∈us,u<18446744073709551616
theorem Lp {us:List Nat} (h:ot us) (i:Nat):us.getD i 0<18446744073709551616:=by
 rw[DL];cases hx:us[i]? with
 | none=>simp
 | some x=>exact h x (B2 hx)
theorem Rg {us:List Nat} (h:ot us): ∀(l:List Int) (s:Nat),s<18446744073709551616→UZ us l s<18446744073709551616
 | [],_,hs=>hs
 | c::r,s,hs=>Rg h r _ (KZ hs (Lp h _))
theorem HP (g:List (List Int)): ∀k,k≤60→ot (Ck g k)
 | 0,_=>by intro u hu;simp[Ck]at hu;omega
 | k+1,hk=>by
   intro u hu;simp only[Ck,Fk,KN]at hu;rcases hu with hu|rfl
   ·exact HP g k (by omega) u hu
   ·exact Rg (HP g k (by omega)) _ _ (KZ (by decide) (Jv (by omega)))
theorem jP (w:AK) (us:List Nat) (c:Int) {n:Nat} (hM:w.parents.length≤60):Bh Tryz.prog 178 [.p n 0,eI c] [.box n (wC w us)] fun r post=>r= .ret (.b (decide (3≤c)&&decide (c<3+(w.parents.length:Int))))∧post= [.box n (wC w us)]:=by
 intro σ hs;have hw:IntKind.i64.wrap (3+((En w.parents).length:Nat))=3+(w.parents.length:Int):=by rw[BE,wrap64 (by omega) (by omega)]
 refine aF nb ?_
 conv=>whnf
 repeat'((first|apply st|(apply sq;intro K U)|(apply si;intro A B Y Z)|(apply Y;clear Z B Y A)|(apply U;clear U K)|refine⟨rfl,?_⟩|refine ld ?_|(constructor<;>intro hc<;>(try rw[hc])<;>(replace hc:=bp hc))|fail)<;>conv=>whnf)
 ·refine AO ⟨_,⟨?_,rfl⟩,hs⟩
  rw[hw,decide_eq_true (show 3≤c by omega)];rfl
 ·refine AO ⟨_,⟨?_,rfl⟩,hs⟩
  rw[decide_eq_false (show¬3≤c by omega)];rfl
theorem eT (w:AK) (us:List Nat) (c:Int) (hM:w.parents.length≤60):Pure Tryz.prog 178 [.rp (wC w us),eI c] (.b (decide (3≤c)&&decide (c<3+(w.parents.length:Int)))):=by
 have hw:IntKind.i64.wrap (3+((En w.parents).length:Nat))=3+(w.parents.length:Int):=by rw[BE,wrap64 (by omega) (by omega)]
 refine aF nb ?_;have hs:=Sn
 conv=>whnf
 repeat'((first|apply st|(apply sq;intro K U)|(apply si;intro A B Y Z)|(apply Y;clear Z B Y A)|(apply U;clear U K)|refine⟨rfl,?_⟩|(constructor<;>intro hc<;>(try rw[hc])<;>(replace hc:=bp hc))|fail)<;>conv=>whnf)
 ·refine AI ?_
  rw[hw,decide_eq_true (show 3≤c by omega)];rfl
 ·refine AI ?_
  rw[decide_eq_false (show¬3≤c by omega)];rfl
theorem cZ (w:AK) (us:List Nat) (c:Int) (hM:w.parents.length≤60):Pure Tryz.prog 222 [.rp (wC w us),eI c] (.b (Nh w c)):=by
 have hw:IntKind.i64.wrap (3+((En w.parents).length:Nat))=3+(w.parents.length:Int):=by rw[BE,wrap64 (by omega) (by omega)]
 refine lV nb ?_;have hs:=Sn
 conv=>whnf
 repeat'((first|apply st|(apply sq;intro K U)|(apply si;intro A B Y Z)|(apply Y;clear Z B Y A)|(apply U;clear U K)|refine⟨rfl,?_⟩|(constructor<;>intro hc<;>(try rw[hc])<;>(replace hc:=bp hc))|fail)<;>conv=>whnf)
 ·refine AI ?_
  rw[hw,Nh,decide_eq_true (show 0≤c by omega)];rfl
 ·refine AI ?_
  rw[Nh,decide_eq_false (show¬0≤c by omega)];rfl
theorem eE (w:AK) (us:List Nat) (c:Int) (hM:w.owner.length≤60):Pure Tryz.prog 254 [.rp (wC w us),eI c] (.b (HF w c)):=by
 refine k8 nb ?_;have hs:=Sn
 conv=>whnf
 repeat'((first|apply st|(apply sq;intro K U)|(apply si;intro A B Y Z)|(apply Y;clear Z B Y A)|(apply U;clear U K)|refine⟨rfl,?_⟩|(constructor<;>intro hc<;>(try rw[hc])<;>(replace hc:=bp hc))|fail)<;>conv=>whnf)
 ·refine AI ?_
  rw[HF,decide_eq_true (show 0≤c by omega),BE];rfl
 ·refine AI ?_
  rw[HF,decide_eq_false (show¬0≤c by omega)];rfl
theorem eQ (w:AK) (us:List Nat) (l:List Int) (f:Bool) (hM:w.owner.length≤60):Pure Tryz.prog 221 [.rp (wC w us),.l (iL l) f] (.b (E3 w l)):=by
 have hall:=fw (g:=254) (fi:=[.rp (wC w us)]) (ca:=[]) (f:=HF w) (xs:=l) f (fun y _=>eE w us y hM);refine lW nb ?_;have hs:=Sn
 conv=>whnf
 repeat'((first|apply st|(apply sq;intro K U)|(apply si;intro A B Y Z)|(apply Y;clear Z B Y A)|(apply U;clear U K)|refine⟨rfl,?_⟩|(constructor<;>intro hc<;>(try rw[hc])<;>(replace hc:=bp hc)<;>(try simp(disch:=omega) only[BE,wrap64,AL]at hc))|refine Pure.use (by assumption) ?_|fail)<;>conv=>whnf)
 ·refine AI ?_
  rw[E3,decide_eq_true (show l.length≤2 by omega),Bool.and_true];rfl
 ·refine AI ?_
  rw[E3,decide_eq_false (show¬l.length≤2 by omega),Bool.and_false];rfl
theorem HO (s:Nat) (c:Int) (hs0:s<18446744073709551616) (h0:0≤c) (hc:c<64):Pure Tryz.prog 176 [eU s,eI c] (eU (s|||2 ^ c.toNat)):=by
 have:=WL s c.toNat hs0 (by omega);rw[Int.toNat_of_nonneg h0]at this;exact this
theorem xX {k:Nat} (h:k<3):([1,3,5]:List Nat).take k++[1|||2 ^ k]= [1,3,5].take (k+1):=by
 rcases k with _|_|_|k
 ·rfl
 ·rfl
 ·rfl
 ·omega
set_option maxHeartbeats 4000000 in
theorem eY (w:AK) (hw:CR w):Pure Tryz.prog 139 [.a (A2 w)] (.t [.rp (wC w (CE w.parents)),.b true]):=by
 obtain⟨⟨hl,hrow⟩,ho,how⟩:=hw;have hM:=Mx;refine Pure.of ?_;refine nA nb ?_;have hs:=Sn;have hi1:((En w.parents).length:Int)≤60:=by rw[BE];omega
 have hi2:((iL w.owner).length:Int)≤40:=by rw[BE];omega
 conv=>whnf
 repeat'((first|apply st|(apply sq;intro K U)|(apply si;intro A B Y Z)|(apply Y;clear Z B Y A)|(apply U;clear U K)|refine⟨rfl,?_⟩|refine⟨nb,?_⟩|(constructor<;>intro hc<;>(try rw[hc])<;>(replace hc:=bp hc)<;>(try simp(disch:=omega) only[BE,wrap64,AL]at hc)<;>try(exfalso;omega))|(intro nn hnn;generalize hg:BC _ nn _=σ;refine Cm hg fun hs=>?_;clear hg)|fail)<;>conv=>whnf)
 generalize nn=n0 at *;refine B4 3 (fun k (_:Unit)=>[(24,eI (A6 k))]) (fun k _=>[.box n0 (wC w ([1,3,5].take k))]) (fun k _=>True) () rfl trivial hs ?_;clear hs;rintro k - σ hk - hs;have hck:A6 k=k:=AL (by omega);have hlen:(([1,3,5]:List Nat).take k).length=k:=by simp;omega
 by_cases hlt:k<3
 ·have hst:=Zk w ([1,3,5].take k) (1|||2 ^ k) (by omega)
  rw[hlen,xX hlt]at hst
  conv=>whnf
  repeat'((first|apply st|(apply sq;intro K U)|(apply si;intro A B Y Z)|(apply Y;clear Z B Y A)|(apply U;clear U K)|apply dr|refine⟨rfl,?_⟩|refine UR ?_|refine Pure.use (HO 1 _ (by decide) (by omega) (by omega)) ?_|(constructor<;>intro hc<;>(try rw[hc])<;>(replace hc:=bp hc)<;>(try simp(disch:=omega) only[BE,wrap64,AL]at hc)<;>try(exfalso;omega))|fail)<;>conv=>whnf)
  refine Kl hs 0 rfl rfl (by rw[Zl w (by omega)];omega) fun σ hs=>?_
  conv=>whnf
  repeat'((first|(apply si;intro A B Y Z)|(apply Y;clear Z B Y A)|(apply U;clear U K)|apply dr|refine⟨rfl,?_⟩|clear U K)<;>conv=>whnf)
  refine⟨hlt,(),rfl,trivial,?_⟩;rw[hck,Ih,Nat.mul_one,G6]at hs;simp only[List.set_cons_zero]at hs;rw[hst]at hs;exact hs
 ·have hke:k=3:=by omega
  subst hke;clear hk hck hlen hlt
  conv=>whnf
  repeat'((first|apply st|(apply sq;intro K U)|(apply si;intro A B Y Z)|(apply Y;clear Z B Y A)|(apply U;clear U K)|refine⟨rfl,?_⟩|(constructor<;>intro hc<;>(try rw[hc])<;>(replace hc:=bp hc)<;>(try simp(disch:=omega) only[BE,wrap64,AL]at hc)<;>try(exfalso;omega))|clear U K)<;>conv=>whnf)
  refine B4 w.parents.length (fun k (_:Unit)=>[(38,eI (A6 k))]) (fun k _=>[.box n0 (wC w (Ck w.parents k))]) (fun k _=>True) () rfl trivial hs ?_;clear hs;rintro k - σ hk - hs;have hck:A6 k=k:=AL (by omega);have hul:=Er w.parents k;have huo:=HP w.parents k (by omega);have hw3:IntKind.i64.wrap (3+(k:Int))=3+(k:Int):=wrap64 (by omega) (by omega);rcases BH w.parents hk with⟨row,hr,hlt⟩|hke
  ·obtain⟨r1,r2,r3⟩:=hrow k row hr
   rw[←hck]at hw3
   conv=>whnf
   repeat'((first|apply st|(apply sq;intro K U)|(apply si;intro A B Y Z)|(apply Y;clear Z B Y A)|(apply U;clear U K)|refine⟨rfl,?_⟩|refine ix ?_|(refine CS (fun hc=>?_)<;>(try rw[hc])<;>clear hc)|refine Pure.use (HO 1 _ (by decide) (by omega) (by omega)) ?_|fail)<;>conv=>whnf)
   have hbig:ot (Ck w.parents k):=huo;have hst0:IntKind.i64.wrap (3+A6 k)=3+(k:Int):=by rw[hck];exact wrap64 (by omega) (by omega)
   have hs0lt:1|||2 ^ (3+k)<18446744073709551616:=KZ (by decide) (Jv (by omega))
   have hs0e:1|||2 ^ (IntKind.i64.wrap (3+A6 k)).toNat=1|||2 ^ (3+k):=by rw[hst0,show(3+(k:Int)).toNat=3+k by omega]
   rw[hs0e];refine B4 row.length (fun j (s:Nat)=>[(48,eI (A6 j)),(8,eU s)]) (fun _ _=>[.box n0 (wC w (Ck w.parents k))]) (fun j s=>s=UZ (Ck w.parents k) (row.take j) (1|||2 ^ (3+k))) (1|||2 ^ (3+k)) rfl rfl hs ?_;clear hs;rintro j s σ hj hse hs;rcases BH row hj with⟨c,hcj,hjlt⟩|hje
   ·obtain⟨q1,q2⟩:=r3 c (B2 hcj)
    have hload:(wC w (Ck w.parents k))[0+2+c.toNat*1]? =some (eU ((Ck w.parents k).getD c.toNat 0)):=by
     have:=V6 w (Ck w.parents k) (i:=c.toNat) (by omega);rw[←this];congr 1;omega
    have hnc:(row.take j).contains c=false:=by
     rw[←Bool.not_eq_true,List.contains_iff_mem];intro hm;obtain⟨i,hi,he⟩:=List.mem_iff_getElem.1 hm;have hi':i<j:=by rw[LW]at hi;omega
     rw[List.getElem_take]at he;have hcj':=(Hi.1 hcj).2;exact absurd ((List.getElem_inj r2).1 (he.trans hcj'.symm)) (by omega)
    have hct: ∀b,Pure Tryz.prog 172 [.l (iL (row.take j)) b,eI c] (.b false):=fun b=>by
     have:=Dz (row.take j) b c
     rwa [hnc]at this
    conv=>whnf
    repeat'((first|apply st|(apply sq;intro K U)|(apply si;intro A B Y Z)|(apply Y;clear Z B Y A)|(apply U;clear U K)|refine⟨rfl,?_⟩|refine ix ?_|refine vA ?_|refine UR ?_|refine ld ?_|refine D2 ?_|(refine CS (fun hc=>?_)<;>(try rw[hc])<;>clear hc)|refine Pure.use (hct _) ?_|(rw[hload])|(constructor<;>intro hc<;>(try rw[hc])<;>(replace hc:=bp hc)<;>(try simp(disch:=omega) only[BE,wrap64,AL]at hc)<;>try(exfalso;omega))|clear U K)<;>conv=>whnf)
    refine⟨hjlt,s|||(Ck w.parents k).getD c.toNat 0,?_,?_,hs⟩
    ·have hsl:s<18446744073709551616:=by rw[hse];exact Rg huo _ _ hs0lt
     rw[Kp hsl (Lp huo _)];rfl
    ·rw[hse,AR hcj]
     simp only[UZ,List.foldl_append];rfl
   ·conv=>whnf
    repeat'((first|apply st|(apply sq;intro K U)|(apply si;intro A B Y Z)|(apply Y;clear Z B Y A)|(apply U;clear U K)|refine⟨rfl,?_⟩|refine UR ?_|(refine Dh (fun hc=>?_)<;>(try rw[hc])<;>clear hc)|clear U K)<;>conv=>whnf)
    refine Kl hs 0 rfl rfl (by rw[Zl w (by omega),hst0];omega) fun σ hs=>?_
    conv=>whnf
    repeat'((first|(apply si;intro A B Y Z)|(apply Y;clear Z B Y A)|(apply U;clear U K)|refine⟨rfl,?_⟩|clear U K)<;>conv=>whnf)
    refine⟨hlt,(),rfl,trivial,?_⟩
    have e:Ck w.parents (k+1)=Ck w.parents k++[s]:=by
     rw[hse,Ck,DL,hr,hje,List.take_length];rfl
    have hst:=Zk w (Ck w.parents k) s (by omega);rw[e,←hst];have e2:0+2+(IntKind.i64.wrap (3+A6 k)).toNat*1=2+(Ck w.parents k).length:=by rw[hst0,hul];omega
    rw[e2]at hs;exact hs
  ·have hown:=aU 178 [.p n0 0] [] (fun _=>[.box n0 (wC w (Ck w.parents k))]) (Sl fun c=>decide (3≤c)&&decide (c<3+(w.parents.length:Int))) (fun _ _=>True) (fun y s _ σ hs=>Bp (BL.mono (jP w (Ck w.parents k) y (by omega) σ hs) (by
    rintro r σ' ⟨post,⟨h1,h2⟩,h3⟩;subst h2
    exact⟨h1,h3⟩))) w.owner false () (Gz fun _ _ _=>trivial)
   rw[JS]at hown
   have hall:(w.owner.all fun c=>decide (3≤c)&&decide (c<3+(w.parents.length:Int)))=true:=by
    rw[Em];intro o hoo;have:=how o hoo;simp only[BZ,CX];exact this
   rw[hall]at hown
   conv=>whnf
   repeat'((first|apply st|(apply sq;intro K U)|(apply si;intro A B Y Z)|(apply Y;clear Z B Y A)|(apply U;clear U K)|refine⟨rfl,?_⟩|(refine Dh (fun hc=>?_)<;>(try rw[hc])<;>clear hc)|clear U K)<;>conv=>whnf)
   refine hown.use (rest:=[]) hs ?_;rintro r post σ ⟨rfl,rfl⟩ hs
   conv=>whnf
   repeat'((first|apply st|(apply Y;clear Z B Y A)|(apply U;clear U K)|fail)<;>conv=>whnf)
   rw[hke]at hs;exact F2 (σ2:=emp) (fun n o ho=>by cases ho) (.t (.cons (hs.vR 0 rfl (.refl _ _ _)) (.cons (.refl _) .nil))) rfl
end Go.Gl
