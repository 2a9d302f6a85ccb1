import Derived.Test.YtijbpgdmpejgoaaGreatS11
set_option linter.all false
noncomputable section
namespace Go.Gl
open Go.Proofs
attribute [local irreducible] Be BQ BH Ae AR BC Af Ag AT A7 AZ Ad Bk Bx Sat Au Bs BI W
theorem lkK {σ:AH} {l:List At} {i mm:Nat} {M:List Int} {k:Int} {K:V→Prop} (hk:K (.b (M.contains k))) (h:Sat σ l:=by assumption)
 (hi:l[i]? =some (.map mm (Vm M)):=by first|exact R0|exact Rz|exact Ry|exact Rx|exact Rw|exact Rv):AZ σ (.i .i64) (.b false) false (.m mm) (eI k) K:=
 S2 h i hi rfl (Uk M) (by rw[dj];exact hk)
theorem msK {σ:AH} {l:List At} {i mm:Nat} {M:List Int} {k:Int} {K:AH→Prop} (hk: ∀σ',Sat σ' (l.set i (.map mm (Vm (R3 M k))))→K σ') (h:Sat σ l:=by assumption)
 (hi:l[i]? =some (.map mm (Vm M)):=by first|exact R0|exact Rz|exact Ry|exact Rx|exact Rw|exact Rv):Ad σ (.i .i64) (.m mm) (eI k) (.b true) K:=
 Lg h i hi rfl (Uk M) (fun σ' hs=>hk σ' (by rw[gx]at hs;exact hs))
def JO (p:Prog) (c:Nat):QM:=p.AL.getD (c - 3) default
def EV (p:Prog) (c:Nat):Nat→List Int
 | 0=>[]
 | k+1=>if KA (A1 p) c (c - k)then EV p c k++(JO p (c - k)).AK else EV p c k
theorem tx {ps:List (List Int)} (ho:ordered ps) {n c:Nat} (hc:c<n) (k:Nat): ∀p∈par ps (c - k),0≤p∧p.toNat<(HY ps n c k).length∧p.toNat<c - k:=fun p hp=>by
 have:=ho _ _ hp;rw[Lb];omega
theorem UM {ps:List (List Int)} (ho:ordered ps) {n c:Nat} (hc:c<n) (k b:Nat):(HY ps n c (k+1)).getD b false=((HY ps n c k).getD b false||((HY ps n c k).getD (c - k) false&&(par ps (c - k)).contains (b:Int))):=by
 rw[HY,M3 _ _ (tx ho hc k)]
theorem UN {ps:List (List Int)} (ho:ordered ps) {n c:Nat} (hc:c<n) (k:Nat): ∀(m:Nat) (b:Nat),c - k≤b→(HY ps n c (k+m)).getD b false=(HY ps n c k).getD b false
 | 0,_,_=>rfl
 | m + 1,b,h=>by
   rw[←Nat.add_assoc,UM ho hc,UN ho hc k m b h]
   have:(par ps (c - (k+m))).contains (b:Int)=false:=by
    cases hb:(par ps (c - (k+m))).contains (b:Int)
    ·rfl
    ·have:=ho _ _ (List.contains_iff_mem.1 hb)
     omega
   rw[this,Bool.and_false,Bool.or_false]
theorem bT {ps:List (List Int)} (ho:ordered ps) {n c:Nat} (hc:c<n) {k:Nat} (hk:k≤c - 2):(HY ps n c k).getD (c - k) false=KA ps c (c - k):=by
 rw[←Xf ho hc (c - k),←UN ho hc k (c - 2 - k) (c - k) (J1 _)];congr 2;omega
theorem P3 (b:Int): ∀(l M:List Int),(l.foldl R3 M).contains b=(M.contains b||l.contains b)
 | [],M=>by simp
 | x::r,M=>by
   rw[List.foldl_cons,P3 b r,Ub,List.contains_cons,Bool.or_assoc]
theorem tS {σ:AH} {l:List At} {i mm:Nat} {M:List Int} {k:Int} {b:Bool} {K:V→Prop} (e:M.contains k=b) (hk:K (.b b)) (h:Sat σ l:=by assumption)
 (hi:l[i]? =some (.map mm (Vm M)):=by first|exact R0|exact Rz|exact Ry|exact Rx|exact Rw|exact Rv):AZ σ (.i .i64) (.b false) false (.m mm) (eI k) K:=lkK (e ▸ hk) h hi
theorem ur (p : Prog) (c:Nat) (h10:p.AL.length≤10) (hsl:C0 0 p.AL=true) (hg:EA (A1 p)=true) (hc3:3≤c) (hc:c<3+p.AL.length) :
 Pure Tryz.prog 210 [.a (Bd p),eI c] (.l (iL ((EV p c (c - 2)).mergeSort Oe)) false):=by
 refine Pure.fit (by kernel_rfl) fun hf=>?_
 have F:=NS hf.1;have hM:=Mx;have hG:=EF hg;have ho:=Jw hG;have hgl:(A1 p).length=p.AL.length:=by simp[A1]
 refine xY nb ?_;have hs:=Sn
 conv=>whnf
 repeat'((first|(apply sq;intro K U)|(apply si;intro A B Y Z)|(apply Y;clear Z B Y A)|(apply U;clear U K)|(intro nn hnn;generalize hg:BE _ nn _=σ;refine E3 hg fun hs=>?_;clear hg)|fail)<;>conv=>whnf)
 replace hs:Sat σ [.map nn (Vm [])]:=hs
 conv=>whnf
 repeat'((first|apply st|(apply sq;intro K U)|(apply si;intro A B Y Z)|(apply Y;clear Z B Y A)|(apply U;clear U K)|refine msK (fun σ hs=>?_)|fail)<;>conv=>whnf)
 generalize nn=mm at *;replace hs:Sat σ [.map mm (Vm [(c:Int)])]:=hs
 refine Cn (c - 2) (fun k (x:List Int×V)=>[(6,x.2),(7,eI ((c:Int) - k))]) (fun k x=>[.own x.2 1 (iL (EV p c k)),.map mm (Vm x.1)])
  (fun k x=>(∀b:Nat,b<3+(A1 p).length→x.1.contains (b:Int)=(HY (A1 p) (3+(A1 p).length) c k).getD b false)∧((Eg x.2).isSome=true∨(x.2= .l [] true∧EV p c k= []))∧(EV p c k).length≤4*k) ([(c:Int)],.l [] true) ?_ ⟨?_,.inr ⟨rfl,rfl⟩,by simp[EV]⟩ (GA hs 1) ?_
 ·simp[Og,get]
  exact⟨rfl,rfl,rfl⟩
 ·intro b hb
  simp only[HY];rw[Gc (by simp;omega)];by_cases hbc:b=c
  ·subst hbc;simp
  ·rw[if_neg hbc]
   have:((c:Int)==(b:Int))=false:=by simp;omega
   simp[FM,List.getElem?_replicate];split<;>simp<;>omega
 clear hs;rintro k ⟨M,v⟩ σ hk ⟨hMb,hv,hml⟩ hs;dsimp only at hMb hv hs;rcases Nat.lt_or_ge k (c - 2)with hlt|hge
 ·have hkc:M.contains ((c:Int) - k)=KA (A1 p) c (c - k):=by
   have:=hMb (c - k) (by omega);rw[bT ho (by omega) (by omega)]at this;rw[←this];congr 1;omega
  have hcl:p.AL[(IntKind.i64.wrap ((c:Int) - k - 3)).toNat]? =some (JO p (c - k)):=by
   rw[wrap64 (by omega) (by omega),show((c:Int) - k - 3).toNat=c - k - 3 by omega,JO,FM,FD (by omega)];rfl
  have hwi:0≤IntKind.i64.wrap ((c:Int) - k - 3):=by rw[wrap64 (by omega) (by omega)];omega
  have hw1:IntKind.i64.wrap ((c:Int) - k - 1)=(c:Int) - (k+1:Nat):=by rw[wrap64 (by omega) (by omega)];omega
  have hmt:EV p c (k+1)=if KA (A1 p) c (c - k)then EV p c k++(JO p (c - k)).AK else EV p c k:=rfl
  have hpar:(JO p (c - k)).parents=par (A1 p) (c - k):=by
   unfold par JO A1;rw[if_neg (by omega),FM,FM,Qf,FD (by omega)];rfl
  have hcm:=F.2 _ (DM hcl);have hs4:=((FR _ _ hsl).2 _ (DM hcl)).2;have hst:=fun b=>UM ho (show c<3+(A1 p).length by omega) k b
  rw[bT ho (by omega) (by omega),←hpar]at hst;generalize JO p (c - k)=cl at *;cases hb:KA (A1 p) c (c - k)
  ·rw[hb]at hkc hmt hst
   rw[if_neg (by decide)]at hmt
   conv=>whnf
   repeat'((first|apply st|(apply sq;intro K U)|(apply si;intro A B Y Z)|(apply Y;clear Z B Y A)|(apply U;clear U K)|refine⟨rfl,?_⟩|refine tS hkc ?_|(constructor<;>intro hc<;>(try rw[hc])<;>(replace hc:=bp hc)<;>try(exfalso;omega))|clear U K)<;>conv=>whnf)
   all_goals try(exfalso;omega)
   rw[hw1];exact⟨hlt,(M,v),rfl,⟨fun b hb=>by rw[hMb b hb,hst b];simp,by rw[hmt];exact hv,by rw[hmt];omega⟩,by rw[hmt];exact hs⟩
  ·rw [hb] at hkc hmt hst
   rw[if_pos rfl]at hmt
   conv=>whnf
   repeat'((first|apply st|(apply sq;intro K U)|(apply si;intro A B Y Z)|(apply Y;clear Z B Y A)|(apply U;clear U K)|refine⟨rfl,?_⟩|refine Tb ?_|refine tS hkc ?_|(constructor<;>intro hc<;>(try rw[hc])<;>(replace hc:=bp hc)<;>try(exfalso;omega))|fail)<;>conv=>whnf)
   all_goals try(exfalso;omega)
   refine VV (LR hs 0 rfl (by omega) DC fun v' σ hs hv'=>?_);rw[←hmt]at hs
   conv=>whnf
   repeat'((first|apply st|(apply sq;intro K U)|(apply si;intro A B Y Z)|(apply Y;clear Z B Y A)|(apply U;clear U K)|refine⟨rfl,?_⟩|refine Tb ?_|fail)<;>conv=>whnf)
   refine Cn cl.parents.length (fun j (_:List Int)=>[(38,eI (BJ j))]) (fun _ M=>[.own v' 1 (iL (EV p c (k+1))),.map mm (Vm M)]) (fun j M'=>M'=(cl.parents.take j).foldl R3 M) M rfl rfl hs ?_;clear hs;rintro j M' σ hj hM' hs;rcases Bo cl.parents hj with⟨q,hq,hjlt⟩|hje
   ·conv=>whnf
    repeat'((first|apply st|(apply sq;intro K U)|(apply si;intro A B Y Z)|(apply Y;clear Z B Y A)|(apply U;clear U K)|refine⟨rfl,?_⟩|refine ix ?_|(refine D0 (fun hc=>?_)<;>(try rw[hc])<;>clear hc)|refine msK (fun σ hs=>?_)|clear U K)<;>conv=>whnf)
    exact⟨hjlt,_,rfl,by rw[AO hq,List.foldl_append,←hM'];rfl,hs⟩
   ·rw [A2 hje]at hM'
    conv=>whnf
    repeat'((first|apply st|(apply sq;intro K U)|(apply si;intro A B Y Z)|(apply Y;clear Z B Y A)|(apply U;clear U K)|refine⟨rfl,?_⟩|(refine Fh (fun hc=>?_)<;>(try rw[hc])<;>clear hc)|clear U K)<;>conv=>whnf)
    rw[hw1];refine⟨hlt,(M',v'),rfl,⟨fun b hb=>?_,?_,?_⟩,hs⟩
    ·rw[hM',P3,hMb b hb,hst b,I7]
    ·rcases hv' with hv'|⟨rfl,he⟩
     ·exact .inl hv'
     ·rcases hv with hv|⟨hv,hm0⟩
      ·exact .inl hv
      ·refine .inr ⟨hv,?_⟩
       rw[hmt,hm0,List.map_eq_nil_iff.1 he];rfl
    ·rw[hmt,QJ];omega
 ·have hkk:k=c - 2:=by omega
  rw[hkk]at hs hv hml;clear hMb
  conv=>whnf
  repeat'((first|apply st|(apply sq;intro K U)|(apply si;intro A B Y Z)|(apply Y;clear Z B Y A)|(apply U;clear U K)|refine⟨rfl,?_⟩|(constructor<;>intro hc<;>(try rw[hc])<;>(replace hc:=bp hc)<;>try(exfalso;omega))|clear U K)<;>conv=>whnf)
  all_goals try(exfalso;omega)
  refine(mo hv).use (rest:=[_]) hs ?_;clear hs;rintro r post σ ⟨rfl,rfl⟩ hs
  conv=>whnf
  repeat'((first|(apply sq;intro K U)|(apply si;intro A B Y Z)|(apply Y;clear Z B Y A)|(apply U;clear U K)|fail)<;>conv=>whnf)
  refine(yk _ v (by rw[List.length_mergeSort];omega)).use (rest:=[_]) hs ?_;clear hs;rintro r post σ ⟨rfl,rfl⟩ hs
  conv=>whnf
  repeat'((first|apply st|(apply Y;clear Z B Y A)|(apply U;clear U K)|fail)<;>conv=>whnf)
  exact B0 bH
theorem Pu {p:Prog} {c:Nat} (s:Int): ∀k,s∈EV p c k↔ ∃j,j<k∧KA (A1 p) c (c - j)=true∧s∈(JO p (c - j)).AK
 | 0=>by simp[EV]
 | k + 1 =>by
   rw[EV];have ih:=Pu (p:=p) (c:=c) s k;constructor
   ·intro h
    split at h
    ·rename_i hu
     rcases F8.1 h with h|h
     ·obtain⟨j,h1,h2⟩:=ih.1 h
      exact⟨j,by omega,h2⟩
     ·exact⟨k,by omega,hu,h⟩
    ·obtain⟨j,h1,h2⟩:=ih.1 h
     exact⟨j,by omega,h2⟩
   ·rintro⟨j,h1,h2,h3⟩
    by_cases hj:j=k
    ·subst hj
     rw[if_pos h2];exact F8.2 (.inr h3)
    ·have:=ih.2 ⟨j,by omega,h2,h3⟩
     split
     ·exact F8.2 (.inl this)
     ·exact this
theorem UU: ∀(l:List Int) (n s:Int),LJ n l=true→(s∈l↔n≤s∧s<n+l.length)
 | [],n,s,_=>by simp<;>omega
 | x::r,n,s,h=>by
   simp only[LJ,Bj,FL]at h;obtain⟨rfl,h⟩:=h;have:=UU r (x+1) s h;rw[IC,this,OB];omega
theorem Q8: ∀(cs:List QM) (i:Nat) (n s:Int),C0 n cs=true→0≤n→ ∀(j:Nat) (c:QM),cs[j]? =some c→(s∈c.AK↔n≤s∧s<n+(B2 cs:Int)∧(BY i cs).getD (s - n).toNat 0=((i+j:Nat):Int)+3)
 | [],_,_,_,_,_,_,_,h=>by cases h
 | d ::r,i,n,s,h,h0,j,c,hj=>by
   simp only[C0,Bj,D4]at h;obtain⟨-,-,hq,hr⟩:=h;have hm:=UU d.AK n s hq;have hml:(B2 (d::r):Int)=d.AK.length+B2 r:=by simp[B2]
   have hgd:n≤s→(BY i (d::r)).getD (s - n).toNat 0=if s<n+d.AK.length then(i:Int)+3 else(BY (i+1) r).getD (s - (n+d.AK.length)).toNat 0:=fun hns=>by
    simp only[BY,FM];split
    ·rw[tC (by simp;omega),List.getElem?_replicate,if_pos (by omega)]
     rfl
    ·rw[List.getElem?_append_right (by simp;omega)]
     congr 2;simp;omega
   have hout: ∀q,q∈BY (i+1) r→(3:Int)+((i+1:Nat):Int)≤q:=fun q hq=>(GL hq).1
   cases j with
   | zero=>
     simp at hj;subst hj;rw[hm,hml];constructor
     ·rintro⟨h1,h2⟩
      refine⟨h1,by omega,?_⟩;rw[hgd h1,if_pos h2];simp
     ·rintro⟨h1,h2,h3⟩
      refine⟨h1,?_⟩;rw[hgd h1]at h3;by_cases hlt:s<n+d.AK.length
      ·exact hlt
      ·rw[if_neg hlt,FM]at h3
       have hlen:(s - (n+d.AK.length)).toNat<(BY (i+1) r).length:=by rw[Cl];omega
       rw[FD hlen]at h3;have:=hout _ (List.getElem_mem hlen);simp at h3;omega
   | succ j=>
     simp at hj;have ih:=Q8 r (i+1) (n+d.AK.length) s hr (by omega) j c hj;rw[ih,hml];constructor
     ·rintro⟨h1,h2,h3⟩
      refine⟨by omega,by omega,?_⟩;rw[hgd (by omega),if_neg (by omega),h3];omega
     ·rintro⟨h1,h2,h3⟩
      rw[hgd h1]at h3;by_cases hlt:s<n+d.AK.length
      ·rw[if_pos hlt]at h3;omega
      ·rw[if_neg hlt]at h3
       exact⟨by omega,by omega,by rw[h3];omega⟩
theorem dc {p:Prog} {c:Nat} (hsl:C0 0 p.AL=true) (ho:ordered (A1 p)) (hc3:3≤c) (hc:c<3+p.AL.length) (s:Int) :
 ((EV p c (c - 2)).mergeSort Oe).contains s=(decide (0≤s)&&(decide (s<(B2 p.AL:Int))&&hasB (Ab p) (c:Int) s)):=by
 rw[KZ,List.contains_iff_mem,(List.mergeSort_perm _ Oe).mem_iff,Pu];simp only[Bj,D4,hasB]
 have hown: ∀j,j<c - 2→(s∈(JO p (c - j)).AK↔0≤s∧s<(B2 p.AL:Int)∧EK (Ab p) s=((c - j:Nat):Int)):=fun j hj=>by
  have hcl:p.AL[c - j - 3]? =some (JO p (c - j)):=by
   rw[JO,FM,FD (by omega)];rfl
  have:=Q8 p.AL 0 0 s hsl (by omega) (c - j - 3) _ hcl;rw[this];simp only[Int.sub_zero,Int.zero_add,EK,Ab];constructor
  ·rintro⟨h1,h2,h3⟩;exact⟨h1,h2,by rw[h3];omega⟩
  ·rintro⟨h1,h2,h3⟩;exact⟨h1,h2,by rw[h3];omega⟩
 constructor
 ·rintro⟨j,h1,h2,h3⟩
  obtain⟨h4,h5,h6⟩:=(hown j h1).1 h3;refine⟨h4,h5,by omega,?_⟩;rw[h6];simp only[Tt,HW,Bj,D4];exact .inr (.inr ⟨by omega,by simpa[Ab]using h2⟩)
 ·rintro⟨h1,h2,h3,h4⟩
  have hmem:EK (Ab p) s∈BY 0 p.AL:=by
   have hlen:s.toNat<(BY 0 p.AL).length:=by rw[Cl];omega
   have:EK (Ab p) s=(BY 0 p.AL)[s.toNat]:=by
    simp only[EK,Ab,FM,FD hlen];rfl
   rw[this];exact List.getElem_mem hlen
  have hb:=GL hmem
  have hup:KA (A1 p) c (EK (Ab p) s).toNat=true:=by
   simp only[Tt,HW,Bj,D4,FL]at h4;rcases h4 with h4|h4|⟨_,h4⟩
   ·rw[←h4,LG];exact Hn ho c
   ·omega
   ·simpa[Ab]using h4
  have hle:=bU ho _ _ hup;refine⟨c - (EK (Ab p) s).toNat,by omega,?_,?_⟩
  ·rw[show c - (c - (EK (Ab p) s).toNat)=(EK (Ab p) s).toNat by omega]
   exact hup
  ·refine(hown _ (by omega)).2 ⟨h1,h2,by omega⟩
theorem db {σ:AH}:Be Tryz.prog 164 [.b false] σ fun r σ'=>r= .By ED∧σ'=σ:=by
 refine cQ nb ?_
 conv=>whnf
 repeat'((first|apply st|(apply sq;intro K U)|(apply si;intro A B Y Z)|(apply Y;clear Z B Y A)|(refine Z _ _ _ ?_;clear Z B Y A)|(apply U;clear U K)|refine IE ?_|fail)<;>conv=>whnf)
 exact Da ⟨rfl,rfl⟩
theorem C4 {x:Bool} {σ:AH} {k kp:V→AH→Prop} (h1:x=true→k (.t []) σ) (h2:x=false→kp ED σ):Be Tryz.prog 164 [.b x] σ (qk k kp):=by
 cases x
 ·refine Be.mono db ?_
  rintro r σ' ⟨rfl,rfl⟩;exact h2 rfl
 ·exact da.use (h1 rfl)
def F5:Int→List QM→Bool
 | _,[]=>true
 | n,c::r=>decide (c.AK.length≤4)&&(LJ n c.AK&&F5 (n+c.AK.length) r)
theorem PI: ∀(cs:List QM) (n:Int),C0 n cs=(F5 n cs&&cs.all fun c=>decide (c.parents.length≤3))
 | [],_=>rfl
 | c::r,n=>by
   simp only[C0,F5,OA];rw[PI r];cases decide (c.AK.length≤4)<;>cases decide (c.parents.length≤3)<;>cases LJ n c.AK<;>simp
theorem Qx: ∀(cs:List QM) (n:Int),F5 n cs=true→B2 cs≤4*cs.length
 | [],_,_=>J1 _
 | c::r,n,h=>by
   simp only[F5,Bj,D4]at h;have:=Qx r _ h.2.2;simp only[B2,Fa,List.sum_cons,OB]at *;omega
theorem Up {p:Prog} (h:EA (A1 p)=true):(p.AL.all fun c=>decide (c.parents.length≤3))=true:=by
 rw[I0];intro c hc;obtain⟨i,hi⟩:=List.getElem?_of_mem hc;have:=(EF h).2 i c.parents (by rw[A1,Qf,hi];rfl);exact decide_eq_true this.1
theorem QB (p:Prog):A9 p=(decide (p.AL.length≤10)&&(F5 0 p.AL&&((B2 p.AL:Int)==p.AK&&(EA (A1 p)&&GX (Ab p) (B2 p.AL) 0 p.AL)))):=by
 rw[A9,PI];cases hg:EA (A1 p)
 ·simp
 ·rw[Up hg,Bool.and_true]
abbrev AAN (p:Prog):R→AH→Prop:=fun r σ'=> ∃post:List At,(r=(if A9 p then R.ret (.t [])else R.By ED)∧post= [])∧Sat σ' post
theorem V3 {p:Prog} {σ:AH} (h:A9 p=false):BH σ ED (AAN p):=Da ⟨_,⟨by rw[h];rfl,rfl⟩,Sat.nil⟩
theorem clsT {p:Prog} {σ:AH} {l:List At} (hs:Sat σ l) (h:A9 p=true):BQ σ (.t []) (AAN p):=BD hs (QN _) (.refl _) fun σ' hs'=>⟨_,⟨by rw[h];rfl,rfl⟩,hs'⟩
set_option maxHeartbeats 4000000 in
theorem XI (p : Prog):B9 Tryz.prog 163 [.a (Bd p)] [] fun r post=>r=(if A9 p then R.ret (.t [])else R.By ED)∧post= []:=by
 intro σ hs;refine Be.fit (by kernel_rfl) fun hf=>?_
 have F:=NS hf.1;have hcl:=F.1;have hM:=Mx;refine x4 nb ?_;have hcb:=QB p;by_cases h10:p.AL.length≤10
 rotate_left
 ·conv=>whnf
  repeat'((first|apply st|(apply sq;intro K U)|(apply si;intro A B Y Z)|(apply Y;clear Z B Y A)|(refine Z _ _ _ ?_;clear Z B Y A)|(apply U;clear U K)|refine⟨rfl,?_⟩|(refine C4 (fun hc=>?_) (fun hc=>?_)<;>(replace hc:=bp hc)<;>(try simp(disch:=omega) only[Bz,wrap64,AP]at hc)<;>(try(exfalso;omega)))|clear U K)<;>conv=>whnf)
  all_goals try(exfalso;omega)
  exact V3 (by rw[hcb];simp[h10])
 rw[decide_eq_true h10,I7]at hcb
 conv=>whnf
 repeat'((first|apply st|(apply sq;intro K U)|(apply si;intro A B Y Z)|(apply Y;clear Z B Y A)|(apply U;clear U K)|refine⟨rfl,?_⟩|(refine C4 (fun hc=>?_) (fun hc=>?_)<;>(replace hc:=bp hc)<;>(try simp(disch:=omega) only[Bz,wrap64,AP]at hc)<;>(try(exfalso;omega)))|fail)<;>conv=>whnf)
 all_goals try(exfalso;omega)
 refine Cn p.AL.length (fun k (n:Int)=>[(2,eI n),(24,eI (BJ k))]) (fun _ _=>[]) (fun k n=>F5 0 p.AL=F5 n (p.AL.drop k)∧0≤n∧n+B2 (p.AL.drop k)=B2 p.AL∧n≤4*k) 0 rfl (by simp) hs ?_;clear hs;rintro k n σ hk ⟨hn,hn0,hn1,hn2⟩ hs;rcases Bo p.AL hk with⟨c,hc,hlt⟩|hke
 ·have hcm:=(F.2 c (DM hc)).2.1
  have hms:n+(c.AK.length:Int)+B2 (p.AL.drop (k+1))=B2 p.AL:=by
   rw[drop_cons hc]at hn1;simp only[B2,Fa,List.sum_cons]at hn1 ⊢;omega
  rw[drop_cons hc,F5]at hn;by_cases h4:c.AK.length≤4
  ·rw [decide_eq_true h4,I7]at hn
   conv=>whnf
   repeat'((first|apply st|(apply sq;intro K U)|(apply si;intro A B Y Z)|(apply Y;clear Z B Y A)|(apply U;clear U K)|refine⟨rfl,?_⟩|refine⟨nb,?_⟩|refine ix ?_|refine ld ?_|refine HZ fun σ hs=>?_|(refine D0 (fun hc=>?_)<;>(try rw[hc])<;>clear hc)|(refine C4 (fun hc=>?_) (fun hc=>?_)<;>(replace hc:=bp hc)<;>(try simp(disch:=omega) only[Bz,wrap64,AP]at hc)<;>(try(exfalso;omega)))|(intro nn hnn;generalize hg:BE _ nn _=σ;refine E3 hg fun hs=>?_;clear hg)|fail)<;>conv=>whnf)
   all_goals try(exfalso;omega)
   refine Cn c.AK.length (fun j (m:Int)=>[(2,eI m),(36,eI (BJ j))]) (fun _ _=>[]) (fun j m=>F5 0 p.AL=(LJ m (c.AK.drop j)&&F5 (n+c.AK.length) (p.AL.drop (k+1)))∧m=n+j) n rfl ⟨hn,by simp⟩ (hs.take 0) ?_;clear hs hn;rintro j m σ hj ⟨hm,he⟩ hs;rcases Bo c.AK hj with⟨x,hx,hjlt⟩|hje
   ·rw[drop_cons hx,LJ]at hm
    conv=>whnf
    repeat'((first|apply st|(apply sq;intro K U)|(apply si;intro A B Y Z)|(apply Y;clear Z B Y A)|(refine Z _ _ _ ?_;clear Z B Y A)|(apply U;clear U K)|refine⟨rfl,?_⟩|refine ix ?_|(refine D0 (fun hc=>?_)<;>(try rw[hc])<;>clear hc)|(refine C4 (fun hc=>?_) (fun hc=>?_)<;>(replace hc:=bp hc))|clear U K)<;>conv=>whnf)
    ·rw[wrap64 (by omega) (by omega)]
     rw[hc,beq_self_eq_true,I7]at hm;exact⟨hjlt,_,rfl,⟨by rw[←hc];rw[←hc]at hm;exact hm,by omega⟩,hs⟩
    ·exact V3 (by rw[hcb,hm];simp[hc])
   ·rw[As hje,LJ,I7]at hm
    conv=>whnf
    repeat'((first|apply st|(apply sq;intro K U)|(apply si;intro A B Y Z)|(apply Y;clear Z B Y A)|(apply U;clear U K)|refine⟨rfl,?_⟩|(refine Fh (fun hc=>?_)<;>(try rw[hc])<;>clear hc)|clear U K)<;>conv=>whnf)
    exact⟨hlt,m,rfl,⟨by rw[hm];congr 1;omega,by omega,by omega,by omega⟩,hs⟩
  ·conv=>whnf
   repeat'((first|apply st|(apply sq;intro K U)|(apply si;intro A B Y Z)|(apply Y;clear Z B Y A)|(refine Z _ _ _ ?_;clear Z B Y A)|(apply U;clear U K)|refine⟨rfl,?_⟩|refine⟨nb,?_⟩|refine ix ?_|refine ld ?_|refine HZ fun σ hs=>?_|(refine D0 (fun hc=>?_)<;>(try rw[hc])<;>clear hc)|(refine C4 (fun hc=>?_) (fun hc=>?_)<;>(replace hc:=bp hc)<;>(try simp(disch:=omega) only[Bz,wrap64,AP]at hc)<;>(try(exfalso;omega)))|(intro nn hnn;generalize hg:BE _ nn _=σ;refine E3 hg fun hs=>?_;clear hg)|clear U K)<;>conv=>whnf)
   all_goals try(exfalso;omega)
   exact V3 (by rw[hcb,hn];simp[h4])
 ·have hne:n=B2 p.AL:=by rw[As hke]at hn1;simpa[B2]using hn1
  rw[As hke]at hn;have hsp:F5 0 p.AL=true:=hn;have hml:=Qx _ _ hsp;rw[hsp,I7,←hne]at hcb;cases hgd:EA (A1 p)
  ·rw[hgd]at hcb
   have hck:=U2 (A1 p) false;rw[hgd,if_neg (by decide)]at hck;have hcF:A9 p=false:=by rw[hcb];simp
   conv=>whnf
   repeat'((first|apply st|(apply sq;intro K U)|(apply si;intro A B Y Z)|(apply Y;clear Z B Y A)|(refine Z _ _ _ ?_;clear Z B Y A)|(apply U;clear U K)|refine⟨rfl,?_⟩|refine⟨nb,?_⟩|(refine Fh (fun hc=>?_)<;>(try rw[hc])<;>clear hc)|(refine C4 (fun hc=>?_) (fun hc=>?_)<;>(replace hc:=bp hc)<;>(try simp(disch:=omega) only[Bz,wrap64,AP]at hc)<;>(try(exfalso;omega))<;>(try(cases hc;done)))|refine Pure.use (L3 _ (by omega)) ?_|(constructor<;>intro hc<;>(try rw[hc])<;>(replace hc:=bp hc))|refine Pure.use (by assumption) ?_|clear U K)<;>conv=>whnf)
   all_goals exact V3 hcF
  ·have hck:=U2 (A1 p) false
   rw[hgd,if_pos rfl]at hck;rw[hgd,I7]at hcb;by_cases hps:n=p.AK
   ·rw [hps,beq_self_eq_true,I7,←hps]at hcb
    have hslB:C0 0 p.AL=true:=by rw[PI,hsp,Up hgd];rfl
    have hG:=EF hgd;have ho:=Jw hG;have hgl:(A1 p).length=p.AL.length:=by simp[A1]
    conv=>whnf
    repeat'((first|apply st|(apply sq;intro K U)|(apply si;intro A B Y Z)|(apply Y;clear Z B Y A)|(apply U;clear U K)|refine⟨rfl,?_⟩|refine⟨nb,?_⟩|(refine Fh (fun hc=>?_)<;>(try rw[hc])<;>clear hc)|(refine C4 (fun hc=>?_) (fun hc=>?_)<;>(replace hc:=bp hc)<;>(try simp(disch:=omega) only[Bz,wrap64,AP]at hc)<;>(try(exfalso;omega)))|refine Pure.use (L3 _ (by omega)) ?_|(constructor<;>intro hc<;>(try rw[hc])<;>(replace hc:=bp hc)<;>try(exfalso;omega))|refine Pure.use (by assumption) ?_|clear U K)<;>conv=>whnf)
    refine Cn p.AL.length (fun k (_:Unit)=>[(63,eI (BJ k))]) (fun _ _=>[]) (fun k _=>A9 p=GX (Ab p) n k (p.AL.drop k)) () rfl hcb hs ?_;clear hs;rintro i - σ hi hn' hs;rcases Bo p.AL hi with⟨c,hc,hilt⟩|hie
    ·rw [drop_cons hc,GX]at hn'
     have hci:BJ i=i:=AP (by omega);have hw3:IntKind.i64.wrap (BJ i+3)=(i:Int)+3:=by rw[hci,wrap64 (by omega) (by omega)]
     have hlin:=uc (A1 p) false ((i:Int)+3) hgd (by omega) (by omega);have hinl:=(F.2 c (DM hc)).2.2;have hlb:fS (Ab p).parents ((i:Int)+3)= !((CJ (A1 p)).getD ((i:Int)+3).toNat []).isEmpty:=rfl;cases hem:((CJ (A1 p)).getD ((i:Int)+3).toNat []).isEmpty
     ·rw [hem]at hlb
      rw[hlb,Bool.not_false,I7]at hn';rw[hem,if_neg (by decide),←hw3]at hlin;have hhas:=ur p (i+3) h10 hslB hgd (by omega) (by omega);have hmh:=dc hslB ho (show 3≤i+3 by omega) (show i+3<3+p.AL.length by omega);have ei3:((i+3:Nat):Int)=(i:Int)+3:=by omega
      rw[ei3,←hw3]at hhas;rw[ei3]at hmh;generalize (EV p (i+3) (i+3 - 2)).mergeSort Oe=mine at *
      conv=>whnf
      repeat'((first|apply st|(apply sq;intro K U)|(apply si;intro A B Y Z)|(apply Y;clear Z B Y A)|(apply U;clear U K)|refine⟨rfl,?_⟩|refine⟨nb,?_⟩|refine ix ?_|refine ld ?_|refine HZ fun σ hs=>?_|(refine D0 (fun hc=>?_)<;>(try rw[hc])<;>clear hc)|(refine C4 (fun hc=>?_) (fun hc=>?_)<;>(replace hc:=bp hc)<;>(try simp(disch:=omega) only[Bz,wrap64,AP]at hc)<;>(try(exfalso;omega)))|(intro nn hnn;generalize hg:BE _ nn _=σ;refine E3 hg fun hs=>?_;clear hg)|refine Pure.use (by assumption) ?_|fail)<;>conv=>whnf)
      generalize nn=mm at *;replace hs:Sat σ [.map mm (Vm [])]:=hs.take 1;refine Cn c.inits.length (fun j (_:List Int)=>[(86,eI (BJ j))]) (fun _ M=>[.map mm (Vm M)]) (fun j M=>A9 p=(EW (Ab p) ((i:Int)+3) n (c.inits.take j) (c.inits.drop j)&&GX (Ab p) n (i+1) (p.AL.drop (i+1)))∧ ∀s,M.contains s=(c.inits.take j).any fun y=>y.1==s) [] rfl ⟨hn',fun s=>rfl⟩ hs ?_;clear hs;rintro j M σ hj ⟨hm,hMs⟩ hs;rcases Bo c.inits hj with⟨x,hx,hjlt⟩|hje
      ·have hpa:((c.inits.take j).all fun y=>y.1 != x.1)= !M.contains x.1:=by
        rw[hMs,List.all_eq_not_any_not];congr 2;funext y;simp[bne]
       have hst:A9 p=((mine.contains x.1&&(!M.contains x.1&&SC x.2))&&(EW (Ab p) ((i:Int)+3) n (c.inits.take (j+1)) (c.inits.drop (j+1))&&GX (Ab p) n (i+1) (p.AL.drop (i+1)))):=by
        rw[hm,drop_cons hx,EW,hpa,hmh,←hne,AO hx];cases decide (0≤x.1)<;>cases decide (x.1<n)<;>cases hasB (Ab p) ((i:Int)+3) x.1<;>cases SC x.2<;>cases M.contains x.1<;>simp
       have hMs': ∀s,(R3 M x.1).contains s=(c.inits.take (j+1)).any fun y=>y.1==s:=fun s=>by
        rw[Ub,hMs,AO hx,List.any_append];simp only[Qe,List.any_nil,Bool.or_false];congr 1;rw[KZ];simp;exact eq_comm
       have hct:=EH mine false x.1;have hbt:=QD x.2;clear hmh hpa hMs hm;cases eA:mine.contains x.1<;>cases eB:M.contains x.1<;>cases eD:SC x.2<;>rw[eA]at hct<;>rw[eD]at hbt<;>rw[eA,eB,eD]at hst
       all_goals
        conv=>whnf
        repeat'((first|apply st|(apply sq;intro K U)|(apply si;intro A B Y Z)|(apply Y;clear Z B Y A)|(refine Z _ _ _ ?_;clear Z B Y A)|(apply U;clear U K)|refine⟨rfl,?_⟩|refine⟨nb,?_⟩|refine ix ?_|refine ld ?_|refine HZ fun σ hs=>?_|refine IE ?_|refine GH ?_|(refine D0 (fun hc=>?_)<;>(try rw[hc])<;>clear hc)|(refine C4 (fun hc=>?_) (fun hc=>?_)<;>(replace hc:=bp hc)<;>(try simp(disch:=omega) only[Bz,wrap64,AP]at hc)<;>(try(cases hc;done)))|refine tS eB ?_|refine msK (fun σ hs=>?_)|(intro nn hnn;generalize hg:BE _ nn _=σ;refine E3 hg fun hs=>?_;clear hg)|refine Pure.use (by assumption) ?_|clear U K)<;>conv=>whnf)
       all_goals first
        | exact⟨hjlt,_,rfl,⟨hst,hMs'⟩,hs.less (Oa _ _)⟩
        | exact V3 (by rw[hst];rfl)
      ·rw[As hje,EW,I7]at hm
       conv=>whnf
       repeat'((first|apply st|(apply sq;intro K U)|(apply si;intro A B Y Z)|(apply Y;clear Z B Y A)|(apply U;clear U K)|refine⟨rfl,?_⟩|(refine Fh (fun hc=>?_)<;>(try rw[hc])<;>clear hc)|clear U K)<;>conv=>whnf)
       exact⟨hilt,(),rfl,hm,hs.take 0⟩
     ·rw[hem]at hlb
      rw[hem,if_pos rfl,←hw3]at hlin;have hcF:A9 p=false:=by rw[hn',hlb];rfl
      conv=>whnf
      repeat'((first|apply st|(apply sq;intro K U)|(apply si;intro A B Y Z)|(apply Y;clear Z B Y A)|(refine Z _ _ _ ?_;clear Z B Y A)|(apply U;clear U K)|refine⟨rfl,?_⟩|refine⟨nb,?_⟩|refine ix ?_|refine HZ fun σ hs=>?_|(refine D0 (fun hc=>?_)<;>(try rw[hc])<;>clear hc)|(refine C4 (fun hc=>?_) (fun hc=>?_)<;>(replace hc:=bp hc)<;>(try(exfalso;omega)))|(intro nn hnn;generalize hg:BE _ nn _=σ;refine E3 hg fun hs=>?_;clear hg)|refine Pure.use (by assumption) ?_|clear U K)<;>conv=>whnf)
      all_goals exact V3 hcF
    ·conv=>whnf
     repeat'((first|apply st|(apply sq;intro K U)|(apply si;intro A B Y Z)|(apply Y;clear Z B Y A)|(apply U;clear U K)|refine⟨rfl,?_⟩|(refine Fh (fun hc=>?_)<;>(try rw[hc])<;>clear hc)|clear U K)<;>conv=>whnf)
     exact clsT hs (by rw[hn',As hie];rfl)
   ·have hcF:A9 p=false:=by rw[hcb];simp[hps]
    conv=>whnf
    repeat'((first|apply st|(apply sq;intro K U)|(apply si;intro A B Y Z)|(apply Y;clear Z B Y A)|(refine Z _ _ _ ?_;clear Z B Y A)|(apply U;clear U K)|refine⟨rfl,?_⟩|refine⟨nb,?_⟩|(refine Fh (fun hc=>?_)<;>(try rw[hc])<;>clear hc)|(refine C4 (fun hc=>?_) (fun hc=>?_)<;>(replace hc:=bp hc)<;>(try simp(disch:=omega) only[Bz,wrap64,AP]at hc)<;>(try(cases hc;done)))|refine Pure.use (L3 _ (by omega)) ?_|(constructor<;>intro hc<;>(try rw[hc])<;>(replace hc:=bp hc)<;>try(exfalso;omega))|clear U K)<;>conv=>whnf)
    all_goals exact V3 hcF
theorem ZA (f:Fact):Qo f=true→Pure Tryz.prog 171 [.a (xF f)] (eI (HK f)):=by
 induction f using Fact.ind with
 | h f ih=>
   intro ha;refine Pure.fit (by kernel_rfl) fun hf=>?_
   have⟨h2,h3,h4⟩:=KM hf.1;have hM:=Mx;rw[PY]at ha;simp only[Bj,D4,List.all_map,I0]at ha;refine xu nb ?_;have hs:=Sn;by_cases hlf:CO f=true
   ·have hlo:=G5 hlf
    have hw:IntKind.i64.wrap (f.arg+1)=f.arg+1:=wrap64 (by omega) (by omega)
    conv=>whnf
    repeat'((first|apply st|(apply sq;intro K U)|(apply si;intro A B Y Z)|(apply Y;clear Z B Y A)|(apply U;clear U K)|refine⟨rfl,?_⟩|(constructor<;>intro hc<;>(try rw[hc])<;>(replace hc:=bp hc)<;>try(exfalso;omega))|fail)<;>conv=>whnf)
    all_goals try(exfalso;omega)
    all_goals
     refine Cn f.kids.length (fun k (_:Unit)=>[(3,eI (((f.kids.take k).map HK).foldl J7 (if CO f then f.arg+1 else 0))),(25,eI (BJ k))]) (fun _ _=>[]) (fun _ _=>True) () (by rw[hw,if_pos hlf];rfl) trivial hs ?_;clear hs;rintro k - σ hk - hs;rcases Bo f.kids hk with⟨x,hx,hlt⟩|hke
     ·have hxs:=ih x (DM hx) (ha.2 x (DM hx))
      conv=>whnf
      repeat'((first|apply st|(apply sq;intro K U)|(apply si;intro A B Y Z)|(apply Y;clear Z B Y A)|(apply U;clear U K)|refine⟨rfl,?_⟩|refine⟨nb,?_⟩|refine Ru ?_|refine ld ?_|refine HZ fun σ hs=>?_|(refine D0 (fun hc=>?_)<;>(try rw[hc])<;>clear hc)|(intro nn hnn;generalize hg:BE _ nn _=σ;refine E3 hg fun hs=>?_;clear hg)|refine Pure.use (by assumption) ?_|clear U K)<;>conv=>whnf)
      exact⟨hlt,(),by rw[Gf _ _ _ hx];rfl,trivial,hs.take 0⟩
     ·conv=>whnf
      repeat'((first|apply st|(apply sq;intro K U)|(apply si;intro A B Y Z)|(apply Y;clear Z B Y A)|(apply U;clear U K)|refine⟨rfl,?_⟩|(refine Fh (fun hc=>?_)<;>(try rw[hc])<;>clear hc)|clear U K)<;>conv=>whnf)
      exact AJ (by rw[A2 hke,←Js])
   ·have hlo:f.op≠2∧f.op≠3∧f.op≠4:=by
     simp only[CO,HW,FL]at hlf;omega
    conv=>whnf
    repeat'((first|apply st|(apply sq;intro K U)|(apply si;intro A B Y Z)|(apply Y;clear Z B Y A)|(apply U;clear U K)|refine⟨rfl,?_⟩|(constructor<;>intro hc<;>(try rw[hc])<;>(replace hc:=bp hc)<;>try(exfalso;omega))|fail)<;>conv=>whnf)
    all_goals try(exfalso;omega)
    all_goals
     refine Cn f.kids.length (fun k (_:Unit)=>[(3,eI (((f.kids.take k).map HK).foldl J7 (if CO f then f.arg+1 else 0))),(25,eI (BJ k))]) (fun _ _=>[]) (fun _ _=>True) () (by rw[if_neg hlf];rfl) trivial hs ?_;clear hs;rintro k - σ hk - hs;rcases Bo f.kids hk with⟨x,hx,hlt⟩|hke
     ·have hxs:=ih x (DM hx) (ha.2 x (DM hx))
      conv=>whnf
      repeat'((first|apply st|(apply sq;intro K U)|(apply si;intro A B Y Z)|(apply Y;clear Z B Y A)|(apply U;clear U K)|refine⟨rfl,?_⟩|refine⟨nb,?_⟩|refine Ru ?_|refine ld ?_|refine HZ fun σ hs=>?_|(refine D0 (fun hc=>?_)<;>(try rw[hc])<;>clear hc)|(intro nn hnn;generalize hg:BE _ nn _=σ;refine E3 hg fun hs=>?_;clear hg)|refine Pure.use (by assumption) ?_|clear U K)<;>conv=>whnf)
      exact⟨hlt,(),by rw[Gf _ _ _ hx];rfl,trivial,hs.take 0⟩
     ·conv=>whnf
      repeat'((first|apply st|(apply sq;intro K U)|(apply si;intro A B Y Z)|(apply Y;clear Z B Y A)|(apply U;clear U K)|refine⟨rfl,?_⟩|(refine Fh (fun hc=>?_)<;>(try rw[hc])<;>clear hc)|clear U K)<;>conv=>whnf)
      exact AJ (by rw[A2 hke,←Js])
theorem ZO (p:Prog) (x:Node) (size:Int):Pure Tryz.prog 168 [.a (Bd p),.a (JN x),eI size] (.b (MT p x size)):=by
 refine Pure.fit (by kernel_rfl) fun hf=>?_
 have⟨p1,p2,p3,p4⟩:=GD hf.1;have hM:=Mx;have hw:IntKind.i64.wrap (3+((p.AL.map Tn).length:Nat))=3+(p.AL.length:Int):=by rw[Bz,wrap64 (by omega) (by omega)]
 refine xx nb ?_;have hs:=Sn
 conv=>whnf
 repeat'((first|apply st|(apply sq;intro K U)|(apply si;intro A B Y Z)|(apply Y;clear Z B Y A)|(apply U;clear U K)|refine⟨rfl,?_⟩|refine Pure.use (QD _) ?_|(constructor<;>intro hc<;>(try rw[hc])<;>(replace hc:=bp hc))|clear U K)<;>conv=>whnf)
 all_goals first
  | (refine AJ ?_;simp[MT, *];done)
  | (refine AJ ?_;simp[MT, *];omega)
  | (refine AJ ?_;rw[hw];simp[MT, *];done)
  | (refine AJ ?_;congr 1;rw[KZ];simp[MT, *];omega)
theorem uR (n:Nat) (hn:n≤120):Pure Tryz.prog 252 [.i .u64 1,eU n] (.t [.i .u64 0,eU n]):=by
 refine wy nb ?_;have hs:=Sn
 conv=>whnf
 repeat'((first|apply st|(apply sq;intro K U)|(apply si;intro A B Y Z)|(apply Y;clear Z B Y A)|(apply U;clear U K)|refine⟨rfl,?_⟩|refine⟨(by decide:(0:Int)≤_),?_⟩|fail)<;>conv=>whnf)
 have ea: ∀m:Nat,m≤120→bits .and .u64 (m:Int) 4294967295=(m:Int):=fun m hm=>by
  have:=L5 (a:=m) (b:=4294967295) (by omega) (by decide)
  have e:m&&&4294967295=m:=by
   have:=Nat.and_two_pow_sub_one_eq_mod m 32;rw[show 2 ^ 32 - 1=4294967295 from rfl]at this;rw[this];omega
  rw[e]at this;exact this
 have e0:=ea 0 (by omega);have e1:=ea 1 (by omega);have en:=ea n hn
 have ef: ∀m:Nat,m≤120→(m:Int).fdiv (2 ^ min (Int.toNat 32) IntKind.u64.bits)=0:=fun m hm=>by
  have:=Xg (a:=m) (c:=32) (by decide);rw[show(Int.toNat 32)=32 from rfl,this,Nat.shiftRight_eq_div_pow];have:m / 2 ^ 32=0:=Nat.div_eq_of_lt (by omega);rw[this];rfl
 have f0:=ef 0 (by omega);have f1:=ef 1 (by omega);have fn:=ef n hn;have w0:IntKind.u64.wrap 0=0:=rfl;have wn:IntKind.u64.wrap (n:Int)=n:=Ho (by omega);simp only[Int.natCast_zero,Int.natCast_one,Int.cast_ofNat_Int]at e0 e1 f0 f1;simp only[e0,e1,en,f0,f1,fn,w0,wn,Int.zero_mul,Int.mul_zero,Int.zero_add,Int.add_zero,Int.one_mul];exact AJ rfl
theorem uS (n:Nat) (hn:n≤120):Pure Tryz.prog 212 [.i .u64 1,eU n] (.t [.i .u64 0,eU n]):=by
 refine xW nb ?_;have hs:=Sn
 conv=>whnf
 repeat'((first|apply st|(apply sq;intro K U)|(apply si;intro A B Y Z)|(apply Y;clear Z B Y A)|(apply U;clear U K)|refine Pure.use (uR n hn) ?_|fail)<;>conv=>whnf)
 all_goals exact AJ rfl
end Go.Gl
namespace Go.Gl
variable {P:Program} {σ:AH}
theorem slLo {n sz len cap:Nat} {ki:IntKind} {j:Int} {K:V→AH→Prop} (h:K (.sv n sz j.toNat ((len:Int) - j).toNat) σ) (h0:0≤j:=by omega) (h1:j≤(len:Int):=by omega):Af σ sz (.sl n len cap) (some (.i ki j)) none none K:=by
 unfold Af;simp only[QL];exact⟨h0,h1,Int.le_refl _,h⟩
theorem slHi {n sz len cap:Nat} {ki:IntKind} {j:Int} {K:V→AH→Prop} (h:K (.sv n sz 0 j.toNat) σ) (h0:0≤j:=by omega) (h1:j≤(len:Int):=by omega):Af σ sz (.sl n len cap) none (some (.i ki j)) none K:=by
 unfold Af;simp only[QL];refine⟨Int.le_refl _,h0,h1,?_⟩;simpa using h
theorem AAz {l:List At} (h:Sat σ l) (i:Nat) {n len cap sz:Nat} {es ys:List (List V)} {f:Bool} {K:V→AH→Prop} (hi:l[i]? =some (.own (.sl n len cap) sz es)) (hle:ys.length≤es.length) (hys: ∀e∈ys,e.length=sz) (ho: ∀e∈ys,∀v∈e,CY v=true)
 (hk: ∀σ',Sat σ' (l.set i (.own (.sl n len cap) sz (ys++es.drop ys.length)))→K (.i .i64 (ys.length:Nat)) σ'):A7 σ sz (.sl n len cap) (.l ys f) K:=by
 rcases h.get hi with⟨h1,_⟩|⟨n',cap',h1,hn⟩
 ·cases h1
 cases h1;unfold A7;refine⟨hys,ho,?_⟩;simp only[Oj,hn];have hm:min ys.length es.length=ys.length:=Nat.min_eq_left hle;refine⟨trivial,by omega,?_⟩;rw[hm];refine hk _ ?_;simp only[List.take_zero,List.nil_append,List.take_length,HV];refine h.change hi (fun b hb ha=>Fm hb fun m hm=>?_) (fun b hb ha m hm=>ha m hm) (.inr ⟨n,cap,by simp;omega,by simp[BE]⟩);rw[Cz];intro e;subst e;exact ha m rfl hm
theorem AAy {l:List At} (h:Sat σ l) (i:Nat) {n len cap sz a b c:Nat} {es:List (List V)} {K:V→AH→Prop} (hi:l[i]? =some (.own (.sl n len cap) sz es)) (hbc:a+b≤es.length) (hc:c≤es.length) (hys: ∀e∈es,e.length=sz) (ho: ∀e∈es,∀v∈e,CY v=true)
 (hk: ∀σ',Sat σ' (l.set i (.own (.sl n len cap) sz (es.take a++((es.take c).take (min c b)++es.drop (a+min c b)))))→K (.i .i64 (min c b:Nat)) σ'):A7 σ sz (.sv n sz a b) (.sv n sz 0 c) K:=by
 rcases h.get hi with⟨h1,_⟩|⟨n',cap',h1,hn⟩
 ·cases h1
 cases h1;unfold A7;simp only[rowsOf,hn];have hl:((es.drop 0).take c).length=c:=by simp;omega
 refine⟨trivial,trivial,by omega,fun e he v hv=>ho e (List.mem_of_mem_take (by simpa using he)) v hv,trivial,?_⟩;simp only[Oj,hn,List.drop_zero];refine⟨trivial,by omega,?_⟩;have hl2:(es.take c).length=c:=by simp;omega
 rw[hl2];refine hk _ ?_;refine h.change hi (fun b hb ha=>Fm hb fun m hm=>?_) (fun b hb ha m hm=>ha m hm) (.inr ⟨n,cap,by simp;omega,by simp[BE]⟩);rw[Cz];intro e;subst e;exact ha m rfl hm
end Go.Gl
namespace Go.Gl
open Go.Proofs
attribute [local irreducible] Be BQ BH Ae AR BC Af Ag AT A7 AZ Ad Bk Bx Sat Au Bs BI W
theorem ZE (n:Nat) (h1:1≤n) (hn:n≤120):B9 Tryz.prog 165 [.l [[eI (-1)]] true,eI n] [] fun r post=> ∃v,r= .ret v∧post= [.own v 1 (iL (List.replicate n (-1)))]∧(Eg v).isSome=true:=by
 intro σ hs;have hM:=Mx;have hw1:IntKind.u64.wrap 1=1:=rfl;have hwn:IntKind.u64.wrap (n:Int)=n:=Ho (by omega);have hwi:IntKind.i64.wrap (n:Int)=n:=wrap64 (by omega) (by omega);refine x3 nb ?_
 conv=>whnf
 repeat'((first|apply st|(apply sq;intro K U)|(apply si;intro A B Y Z)|(apply Y;clear Z B Y A)|(apply U;clear U K)|refine⟨rfl,?_⟩|(constructor<;>intro hc<;>(try rw[hc])<;>(replace hc:=bp hc)<;>try(exfalso;omega))|fail)<;>conv=>whnf)
 rw[show IntKind.u64.wrap (([[eI (-1)]]:List (List V)).length:Nat)=1 from rfl,hwn];refine(uS n hn).use ?_
 conv=>whnf
 repeat'((first|apply st|(apply sq;intro K U)|(apply si;intro A B Y Z)|(apply Y;clear Z B Y A)|(apply U;clear U K)|refine⟨rfl,?_⟩|(constructor<;>intro hc<;>(try rw[hc])<;>(replace hc:=bp hc)<;>try(exfalso;omega))|fail)<;>conv=>whnf)
 all_goals try(exfalso;omega)
 rw[hwi];refine zU hs (J1 n) (by omega) fun v σ hs hv=>?_
 obtain⟨id,rfl⟩:=hv
 conv=>whnf
 repeat'((first|(apply sq;intro K U)|(apply si;intro A B Y Z)|(apply Y;clear Z B Y A)|(apply U;clear U K)|fail)<;>conv=>whnf)
 refine AAz hs 0 (ys:=[[eI (-1)]]) rfl (by simp;omega) (fun e he=>by simp at he;subst he;rfl) (fun e he v hv=>by simp at he;subst he;simp at hv;subst hv;rfl) fun σ hs=>?_
 have hst:([[eI (-1)]]:List (List V))++(List.replicate n [V.i .i64 0]).drop ([[eI (-1)]]:List (List V)).length=List.replicate 1 [eI (-1)]++List.replicate (n - 1) [eI 0]:=by simp[List.drop_replicate]
 rw[hst]at hs
 conv=>whnf
 repeat'((first|apply st|(apply sq;intro K U)|(apply Y;clear Z B Y A)|(apply U;clear U K)|fail)<;>conv=>whnf)
 refine Ke (fun m:Nat=>n - m) (fun m=>[(8,eI m)]) (fun m=>[.own (.sl id n n) 1 (List.replicate m [eI (-1)]++List.replicate (n - m) [eI 0])]) (fun m=>1≤m∧m≤n) 1 rfl ⟨by omega,h1⟩ hs ?_;clear hs hst;rintro m σ ⟨hm1,hmn⟩ hs
 have hgl: ∀e∈(List.replicate m [eI (-1)]++List.replicate (n - m) [eI 0]:List (List V)),e.length=1∧ ∀v∈e,CY v=true:=fun e he=>by
  rcases F8.1 he with he|he
  ·rw[(List.mem_replicate.1 he).2];exact⟨rfl,fun v hv=>by simp at hv;subst hv;rfl⟩
  ·rw[(List.mem_replicate.1 he).2];exact⟨rfl,fun v hv=>by simp at hv;subst hv;rfl⟩
 have hlen:(List.replicate m [eI (-1)]++List.replicate (n - m) [eI 0]:List (List V)).length=n:=by simp;omega
 rcases Nat.lt_or_ge m n with hlt|hge
 ·have hcpy:(List.replicate m [eI (-1)]++List.replicate (n - m) [eI 0]:List (List V)).take m++(((List.replicate m [eI (-1)]++List.replicate (n - m) [eI 0]:List (List V)).take m).take (min m (n - m))++(List.replicate m [eI (-1)]++List.replicate (n - m) [eI 0]:List (List V)).drop (m+min m (n - m)))=List.replicate (m+min m (n - m)) [eI (-1)]++List.replicate (n - (m+min m (n - m))) [eI 0]:=by
   have e1:(List.replicate m [eI (-1)]++List.replicate (n - m) [eI 0]:List (List V)).take m=List.replicate m [eI (-1)]:=by
    rw[List.take_append_of_le_length (by simp)];simp
   rw[e1,List.take_replicate,List.drop_append,List.drop_replicate,List.drop_replicate,List.length_replicate,←TV,List.replicate_append_replicate];have e2:m - (m+min m (n - m))=0:=by omega
   have e3:n - m - (m+min m (n - m) - m)=n - (m+min m (n - m)):=by omega
   rw[e2,e3,List.replicate_zero,List.nil_append];congr 2;omega
  conv=>whnf
  repeat'((first|apply st|(apply sq;intro K U)|(apply si;intro A B Y Z)|(apply Y;clear Z B Y A)|(apply U;clear U K)|apply dr|refine⟨rfl,?_⟩|refine lo ?_|(constructor<;>intro hc<;>(try rw[hc])<;>(replace hc:=bp hc)<;>try(exfalso;omega))|fail)<;>conv=>whnf)
  all_goals try(exfalso;omega)
  refine slLo ?_
  conv=>whnf
  repeat'((first|apply dr|fail)<;>conv=>whnf)
  refine slHi ?_
  conv=>whnf
  repeat'((first|apply dr|fail)<;>conv=>whnf)
  rw[LG,show((n:Int) - m).toNat=n - m by omega];refine AAy hs 0 rfl (by rw[hlen];omega) (by rw[hlen];omega) (fun e he=>(hgl e he).1) (fun e he=>(hgl e he).2) fun σ hs=>?_
  rw[hcpy]at hs
  conv=>whnf
  repeat'((first|(apply Y;clear Z B Y A)|apply dr|refine⟨rfl,?_⟩|clear U K)<;>conv=>whnf)
  refine⟨m+min m (n - m),by omega,?_,⟨by omega,by omega⟩,hs⟩;rw[wrap64 (by omega) (by omega)];rfl
 ·have hme:m=n:=by omega
  subst hme
  conv=>whnf
  repeat'((first|apply st|(apply sq;intro K U)|(apply si;intro A B Y Z)|(apply Y;clear Z B Y A)|(apply U;clear U K)|refine⟨rfl,?_⟩|refine lo ?_|(constructor<;>intro hc<;>(try rw[hc])<;>(replace hc:=bp hc)<;>try(exfalso;omega))|clear U K)<;>conv=>whnf)
  all_goals try(exfalso;omega)
  refine BD hs (List.Sublist.refl _) (.refl _) fun σ' hs'=>⟨_,⟨_,rfl,?_,rfl⟩,hs'⟩
  simp[iL]
def Qk (op:Int):V:=
 if op=5 then .FE 207 (.a [])else
 if op=1∨op=2∨op=3∨op=6∨op=18 then .FE 205 (eI 0)else
 if op=4∨op=8∨op=17 then .FE 205 (eI 1)else
 if op=7∨op=9∨op=11∨op=12∨op=13∨op=14∨op=15∨op=16 then .FE 205 (eI 2)else
 if op=10 then .FE 205 (eI 3)else .Du
theorem ZX (op:Int):Pure Tryz.prog 169 [eI op] (Qk op):=by
 refine xw nb ?_;have hs:=Sn
 conv=>whnf
 repeat'((first|apply st|(apply sq;intro K U)|(apply si;intro A B Y Z)|(apply Y;clear Z B Y A)|(apply U;clear U K)|refine⟨rfl,?_⟩|(constructor<;>intro hc<;>(try rw[hc])<;>(replace hc:=bp hc))|clear U K)<;>conv=>whnf)
 all_goals exact AJ (by simp[Qk, *])
theorem AAf (n:Int) (p:Prog) (x:Node):Pure Tryz.prog 306 [eI n,.a (Bd p),.a (JN x)] (eI n):=by
 refine wF nb ?_;have hs:=Sn
 conv=>whnf
 repeat'((first|apply st|(apply sq;intro K U)|(apply si;intro A B Y Z)|(apply Y;clear Z B Y A)|(apply U;clear U K)|fail)<;>conv=>whnf)
 all_goals exact AJ rfl
theorem mN (p:Prog) (x:Node) (h0:0≤x.n) (h1:x.n<p.D6.length):Pure Tryz.prog 307 [.a [],.a (Bd p),.a (JN x)] (eI (p.D6.getD x.n.toNat 0)):=by
 refine Pure.fit (by kernel_rfl) fun hf=>?_
 have⟨p1,p2,p3,p4⟩:=GD hf.2.1
 have hx:p.D6[x.n.toNat]? =some (p.D6.getD x.n.toNat 0):=by
  rw[FM,FD (by omega)];rfl
 refine wE nb ?_;have hs:=Sn
 conv=>whnf
 repeat'((first|apply st|(apply sq;intro K U)|(apply si;intro A B Y Z)|(apply Y;clear Z B Y A)|(apply U;clear U K)|refine Tb ?_|fail)<;>conv=>whnf)
 all_goals exact AJ rfl
end Go.Gl
namespace Go.Gl
variable {P:Program} {σ:AH}
theorem Sat.up {σ':AH} {l:List At} (h:Sat σ l) (hs:Sub σ σ'):Sat σ' l:=by
 refine⟨fun a ha=>?_,h.2⟩;have:=h.1 a ha;cases a with
 | obj n o=>exact hs n o this
 | own v sz es=>
   rcases this with h|⟨n,cap,e,hn⟩
   ·exact .inl h
   ·exact .inr ⟨n,cap,e,hs n _ hn⟩
theorem Sat.del {l:List At} {n:Nat} {o:O} (h:Sat σ (.obj n o::l)):Sat (del σ n) l:=by
 refine⟨fun b hb=>Fm (h.1 b (.tail _ hb)) fun m hm=>?_,(List.pairwise_cons.1 h.2).2⟩;rw[HQ];intro e;subst e;exact(List.pairwise_cons.1 h.2).1 b hb m rfl hm
theorem Sat.MZ {l:List At} {n:Nat} {o:O} (h:Sat σ l) (hn:σ n=none):Sat (BE σ n o) (.obj n o::l):=(an h hn).zB
theorem Sat.new {l:List At} {n:Nat} {o o':O} (h:Sat σ (.obj n o::l)):Sat (BE σ n o') (.obj n o'::l):=tW (i:=0) h rfl o'
theorem AQ {v:V} {Q:R→AH→Prop} (h:Q (.ret v) σ):BQ σ v Q:=⟨v,σ,fun _ _ h=>h,.refl v,h⟩
inductive Rd (S:Type) where
 | go (s:S)
 | stop (st:y8) (s:S)
 | By (v:V)
def fM {S:Type} (L:Nat) (E:Env) (ok:FuncId→Array Tmp→Code→Code→Nat→Prop) (H:S→List At) (J:S→Prop) (rest:List At) (yes no:V):Rd S→R→AH→Prop
 | .go s,r,σ=>r= .ret yes∧Sat σ (.obj L (.loop .ready E ok)::(H s++rest))
 | .stop st s,r,σ=>r= .ret no∧Sat σ (.obj L (.loop st E ok)::(H s++rest))
 | .By v,r,σ=>r= .By v∧ ∃s,J s∧Sat (del σ L) (H s++rest)
def Mo {α S:Type} (P:Program) (L:Nat) (E:Env) (ok:FuncId→Array Tmp→Code→Code→Nat→Prop) (ea:α→List V) (H:S→List At) (J:S→Prop) (stp:α→S→Rd S) (D:α→S→Prop):Prop:=
 ∀y s,D y s→ ∀(rest:List At) (σ:AH),Sat σ (.obj L (.loop .ready E ok)::(H s++rest))→N6 P L (ea y) σ (fM L E ok H J rest (.b true) (.b false) (stp y s))
theorem Mo.use {α S:Type} {L:Nat} {E:Env} {ok:FuncId→Array Tmp→Code→Code→Nat→Prop} {ea:α→List V} {H:S→List At} {J:S→Prop} {stp:α→S→Rd S} {D:α→S→Prop} (h:Mo P L E ok ea H J stp D) {y:α} {s:S} (hd:D y s) {rest:List At} (hs:Sat σ (.obj L (.loop .ready E ok)::(H s++rest)))
 {Q:R→AH→Prop} (hk: ∀r σ',fM L E ok H J rest (.b true) (.b false) (stp y s) r σ'→Q r σ'):Bk P (.f (.yield L) [] []) (ea y) σ Q:=(h y s hd rest σ hs).mono hk
theorem P8 {L:Nat} {env:Env} {ps:List Nat} {a b:AI} (hσ:σ L=some (.loop .ready env (CI P ps a b))) {args:List V} (hl:args.length=ps.length) {Q:R→AH→Prop}
 (h:W P a (DE (W P b fun ex env' σ'=>σ' L=none→Sf L env (CI P ps a b) Q ex env' σ')) (E7 ps args env) (del σ L)):N6 P L args σ Q:=
 P9 hσ hl (WQ h (KQ fun _ _ h=>mf h))
theorem Nb {α S:Type} {L:Nat} {E:Env} {ps:List Nat} {a b:AI} {ea:α→List V} {H:S→List At} {J:S→Prop} {stp:α→S→Rd S} {D:α→S→Prop} (hl: ∀y,(ea y).length=ps.length)
 (h: ∀y s,D y s→ ∀(rest:List At) (σ:AH),Sat σ (H s++rest)→W P a (DE (W P b fun ex env' σ'=>σ' L=none→Sf L E (CI P ps a b) (fM L E (CI P ps a b) H J rest (.b true) (.b false) (stp y s)) ex env' σ')) (E7 ps (ea y) E) σ):Mo P L E (CI P ps a b) ea H J stp D:=
 fun y s hd rest σ hs=>P8 (hs.get (i:=0) rfl) (hl y) (h y s hd rest _ hs.del)
theorem UY {S:Type} {L:Nat} {E:Env} {ok:FuncId→Array Tmp→Code→Code→Nat→Prop} {H:S→List At} {J:S→Prop} {rest:List At} {o:Rd S} {s:S} (h:o= .go s) (hs:Sat σ (H s++rest)) (hn:σ L=none) :
 fM L E ok H J rest (.b true) (.b false) o (.ret (.b true)) (BE σ L (.loop .ready E ok)):=by
 subst h;exact⟨rfl,hs.MZ hn⟩
theorem WY {S:Type} {L:Nat} {E:Env} {ok:FuncId→Array Tmp→Code→Code→Nat→Prop} {H:S→List At} {J:S→Prop} {rest:List At} {o:Rd S} {s:S} {st:y8} (h:o= .stop st s) (hs:Sat σ (H s++rest)) (hn:σ L=none) :
 fM L E ok H J rest (.b true) (.b false) o (.ret (.b false)) (BE σ L (.loop st E ok)):=by
 subst h;exact⟨rfl,hs.MZ hn⟩
theorem Q3 {S:Type} {L:Nat} {E:Env} {ok:FuncId→Array Tmp→Code→Code→Nat→Prop} {H:S→List At} {J:S→Prop} {rest:List At} {o:Rd S} {s:S} {v:V} (h:o= .By v) (hj:J s) (hs:Sat σ (H s++rest)) (hn:σ L=none) :
 fM L E ok H J rest (.b true) (.b false) o (.By v) σ:=by
 subst h;refine⟨rfl,s,hj,fun a ha=>Fm (hs.1 a ha) fun n hd=>?_,hs.2⟩;obtain⟨o,ho⟩:=DF (hs.1 a ha) hd;rw[HQ];intro e;subst e;rw[hn]at ho;cases ho
theorem Hq {L:Nat} {E env:Env} {ok:FuncId→Array Tmp→Code→Code→Nat→Prop} {Q:Ah→Env→AH→Prop} {l:List At} {v:V} (hs:Sat σ (.obj L (.loop .ready E ok)::l)) (hk: ∀σ',Sat σ' l→Q .normal env σ'):Ku L Q env (.ret v) σ:=
 ⟨_,_,_,hs.get (i:=0) rfl,hk _ hs.del⟩
theorem Wc {L id:Nat} {E env:Env} {ok:FuncId→Array Tmp→Code→Code→Nat→Prop} {Q:Ah→Env→AH→Prop} {l:List At} {v:V} (hs:Sat σ (.obj L (.loop (.exit id) E ok)::l)) (hk: ∀σ',Sat σ' l→Q (.exit id) env σ'):Ku L Q env (.ret v) σ:=
 ⟨_,_,_,hs.get (i:=0) rfl,hk _ hs.del⟩
end Go.Gl
namespace Go.Gl
open Go.Proofs
attribute [local irreducible] Be BQ BH Ae AR BC Af Ag AT A7 AZ Ad Bk Bx Sat Au Bs BI W
def FP (p:Prog) (next:Bool) (n size depth:Int) (s:List Int):Option (List Int):=
 if n<0∨(p.nodes.length:Int)≤n∨0≤s.getD n.toNat 0∨12<depth then none else
 match p.nodes[n.toNat]? with
 | none=>none
 | some x=>if EU p next size x then some (s.set n.toNat size)else none
def af {S:Type}:Option S→Rd S
 | some s=> .go s
 | none=> .By ED
abbrev eaP (y:Int×Int×Int):List V:=[eI y.1,.a [eI y.2.1,eI y.2.2]]
abbrev hOut (nO:Nat) (v:V) (s:List Int):List At:=[.box nO [v],.own v 1 (iL s)]
abbrev dP (p:Prog) (y:Int×Int×Int) (s:List Int):Prop:=0≤y.2.1∧y.2.1≤100∧1≤y.2.2∧y.2.2≤13∧s.length=p.nodes.length
abbrev V5 (p:Prog) (L nW:Nat):V:= .f (.func 214) [] [.rp [.f (.yield L) [] []],.rp (Bd p),.p nW 0]
theorem WS {p:Prog} {next:Bool} {n size depth:Int} {s s':List Int} (h:FP p next n size depth s=some s'):0≤n∧n<(p.nodes.length:Int)∧s.getD n.toNat 0<0∧depth≤12∧ ∃x,p.nodes[n.toNat]? =some x∧EU p next size x=true∧s'=s.set n.toNat size:=by
 unfold FP at h;split at h
 ·cases h
 ·rename_i hc
  split at h
  ·cases h
  ·rename_i x hx
   split at h
   ·rename_i hok
    simp only[J2]at h;exact⟨by omega,by omega,by omega,by omega,x,hx,hok,h.symm⟩
   ·cases h
theorem WR {p:Prog} {next:Bool} {d:Nat} {n size depth:Int} {s:List Int} (hd:depth=13 - (d+1:Nat)) (hd1:1≤depth):Cb p next (d+1) n size s=match FP p next n size depth s with
 | none=>none
 | some s'=>match p.nodes[n.toNat]? with
   | none=>none
   | some x=>Fq (Cb p next d) x.op size 0 x.kids s':=by
 unfold FP;simp only[Cb];by_cases h:n<0∨(p.nodes.length:Int)≤n∨0≤s.getD n.toNat 0
 ·rw[if_pos h,if_pos (by omega)]
 ·rw[if_neg h,if_neg (by omega)]
  cases hx:p.nodes[n.toNat]? with
  | none=>rfl
  | some x=>
    simp only;split
    ·rfl
    ·rfl
theorem WU {p:Prog} {next:Bool} {n size depth:Int} {s:List Int} (hd:12<depth):FP p next n size depth s=none:=by
 unfold FP;rw[if_pos (by omega)]
theorem RH {f:Int→Int→List Int→Option (List Int)} (hf: ∀ {a b s s'},f a b s=some s'→s'.length=s.length) {op size:Int}: ∀(i:Nat) (l:List Int) {s s':List Int},Fq f op size i l s=some s'→s'.length=s.length
 | _,[],s,s',h=>by cases h;rfl
 | i,k::r,s,s',h=>by
   simp only[Fq]at h;split at h
   ·cases h
   ·rename_i s1 h1
    exact(RH hf (i+1) r h).trans (hf h1)
theorem Jq {p:Prog} {next:Bool}: ∀(d:Nat) {n size:Int} {s s':List Int},Cb p next d n size s=some s'→s'.length=s.length
 | 0,_,_,_,_,h=>by cases h
 | d + 1,n,size,s,s',h=>by
   simp only[Cb]at h;split at h
   ·cases h
   ·split at h
    ·cases h
    ·split at h
     ·exact(RH (fun h=>Jq d h) 0 _ h).trans (by simp)
     ·cases h
set_option maxHeartbeats 4000000 in
theorem fq (p : Prog) (next:Bool) {L:Nat} {E:Env} {ok:FuncId→Array Tmp→Code→Code→Nat→Prop} {v:V} {nO:Nat}
 (hY:Mo Tryz.prog L E ok eaP (hOut nO v) (fun s=>s.length=p.nodes.length) (fun y s=>af (FP p next y.1 y.2.1 y.2.2 s)) (dP p)) :
 ∀ d : Nat,d≤12→ ∀(n size depth:Int) (s:List Int),depth=13 - d→0≤size→size+d≤100→s.length=p.nodes.length→ ∀(nW:Nat) (rest:List At) (σ:AH),
   Sat σ (.obj L (.loop .ready E ok)::(hOut nO v s++(.box nW [V5 p L nW]::rest)))→
   Be Tryz.prog 214 [eI n,.a [eI size,eI depth],.rp [.f (.yield L) [] []],.rp (Bd p),.p nW 0] σ
    (fM L E ok (hOut nO v) (fun s=>s.length=p.nodes.length) (.box nW [V5 p L nW]::rest) (.b true) (.b false) (af (Cb p next d n size s))):=by
 intro d
 induction d with
 | zero=>
   intro _ n size depth s hd h0 h1 hl nW rest σ hs;refine cM nb ?_
   conv=>whnf
   repeat'((first|apply st|(apply sq;intro K U)|(apply si;intro A B Y Z)|(apply Y;clear Z B Y A)|(apply U;clear U K)|refine⟨nb,?_⟩|fail)<;>conv=>whnf)
   refine hY.use (y:=(n,size,depth)) (s:=s) ⟨h0,(by dsimp only;omega),(by dsimp only;omega),(by dsimp only;omega),hl⟩ hs ?_;rw[WU (by dsimp only;omega)];rintro r σ' ⟨rfl,s',hj,hs'⟩
   conv=>whnf
   repeat'((first|(refine Z _ _ _ ?_;clear Z B Y A)|clear U K)<;>conv=>whnf)
   exact Da ⟨rfl,s',hj,hs'⟩
 | succ d ih =>
   intro hd12 n size depth s hd h0 h1 hl nW rest σ hs;refine Be.fit (by kernel_rfl) fun hf=>?_
   have hM:=Mx
   have hfp:FG (.a (Bd p)):=by
    have:=hf.2.2.2.1;simp only[S7]at this;simpa only[HO]using this
   have⟨p1,p2,p3,p4⟩:=GD hfp;refine cM nb ?_
   conv=>whnf
   repeat'((first|apply st|(apply sq;intro K U)|(apply si;intro A B Y Z)|(apply Y;clear Z B Y A)|(apply U;clear U K)|refine⟨nb,?_⟩|fail)<;>conv=>whnf)
   refine hY.use (y:=(n,size,depth)) (s:=s) ⟨h0,(by dsimp only;omega),(by dsimp only;omega),(by dsimp only;omega),hl⟩ hs ?_;have hw:=WR (p:=p) (next:=next) (n:=n) (size:=size) (s:=s) hd (by omega);cases hv:FP p next n size depth s with
   | none=>
     rw[hv]at hw;rintro r σ' ⟨rfl,s',hj,hs'⟩
     conv=>whnf
     repeat'((first|(refine Z _ _ _ ?_;clear Z B Y A)|clear U K)<;>conv=>whnf)
     refine Da ?_;rw[hw];exact⟨rfl,s',hj,hs'⟩
   | some s1 =>
     obtain⟨g0,g1,g2,g3,x,hx,hok,hs1⟩:=WS hv;rw[hv]at hw;simp only[hx]at hw;have hl1:s1.length=p.nodes.length:=by rw[hs1];simpa using hl
     have hkm:=cF hfp (DM hx);clear hv hs1;rintro r σ1 ⟨rfl,hs⟩
     conv=>whnf
     repeat'((first|apply st|(apply sq;intro K U)|(apply si;intro A B Y Z)|(apply Y;clear Z B Y A)|(apply U;clear U K)|refine Tb ?_|refine GH ?_|fail)<;>conv=>whnf)
     refine Cn x.kids.length (fun k (_:List Int)=>[(23,eI (BJ k))]) (fun _ s'=> .obj L (.loop .ready E ok)::(hOut nO v s'++(.box nW [V5 p L nW]::rest))) (fun k s'=>s'.length=p.nodes.length∧Cb p next (d+1) n size s=Fq (Cb p next d) x.op size k (x.kids.drop k) s') s1 rfl ⟨hl1,by simpa using hw⟩ hs ?_;clear hs hw;rintro k s' σ hk ⟨hl',hkids⟩ hs;rcases Bo x.kids hk with⟨kid,hkid,hlt⟩|hke
     ·have hck:BJ k=k:=AP (by omega)
      rw[drop_cons hkid,Fq]at hkids;have e0:IntKind.i64.wrap (depth+1)=depth+1:=wrap64 (by omega) (by omega);have e1:IntKind.i64.wrap (size+1)=size+1:=wrap64 (by omega) (by omega)
      have hrec: ∀(sz:Int) (σ:AH) (l:List At),0≤sz→sz+d≤100→Sat σ (l++(.obj L (.loop .ready E ok)::(hOut nO v s'++(.box nW [V5 p L nW]::rest))))→Bk Tryz.prog (V5 p L nW) [eI kid,.a [eI sz,eI (depth+1)]] σ
       (fM L E ok (hOut nO v) (fun s=>s.length=p.nodes.length) (.box nW [V5 p L nW]::rest) (.b true) (.b false) (af (Cb p next d kid sz s'))):=fun sz σ l h0 h1 hs=>
       C1 (ih (by omega) kid sz (depth+1) s' (by omega) h0 h1 hl' nW rest σ (hs.less (List.sublist_append_right _ _)))
      conv=>whnf
      repeat'((first|apply st|(apply sq;intro K U)|(apply si;intro A B Y Z)|(apply Y;clear Z B Y A)|(apply U;clear U K)|refine⟨rfl,?_⟩|refine⟨nb,?_⟩|refine ix ?_|refine Tb ?_|refine ld ?_|refine IB fun σ hs=>?_|refine HZ fun σ hs=>?_|(refine D0 (fun hc=>?_)<;>(try rw[hc])<;>clear hc)|(constructor<;>intro hc<;>(try rw[hc])<;>(replace hc:=bp hc)<;>(try simp(disch:=omega) only[Bz,wrap64,AP]at hc))|(intro nn hnn;generalize hg:BE _ nn _=σ;refine E3 hg fun hs=>?_;clear hg)|fail)<;>conv=>whnf)
      all_goals
       simp only[e0,e1]
       first
        | rw[if_pos (by omega)]at hkids
          refine(hrec (size+1) _ [_] (by omega) (by omega) hs).mono ?_
        | rw[if_neg (by omega)]at hkids
          refine(hrec size _ [_] (by omega) (by omega) hs).mono ?_
       cases hw:Cb p next d kid _ s' with
       | none=>
         rw[hw]at hkids;rintro r σ' ⟨rfl,s',hj,hs'⟩
         conv=>whnf
         repeat'((first|(refine Z _ _ _ ?_;clear Z B Y A)|clear U K)<;>conv=>whnf)
         refine Da ?_;rw[hkids];exact⟨rfl,s',hj,hs'⟩
       | some s2=>
         rw[hw]at hkids;rintro r σ' ⟨rfl,hs'⟩
         conv=>whnf
         repeat'((first|apply st|(apply si;intro A B Y Z)|(apply Y;clear Z B Y A)|(apply U;clear U K)|refine⟨rfl,?_⟩|refine GH ?_|clear U K)<;>conv=>whnf)
         exact⟨hlt,s2,rfl,⟨(Jq _ hw).trans hl',hkids⟩,hs'⟩
     ·rw[As hke,Fq]at hkids
      conv=>whnf
      repeat'((first|apply st|(apply sq;intro K U)|(apply si;intro A B Y Z)|(apply Y;clear Z B Y A)|(apply U;clear U K)|refine⟨rfl,?_⟩|(refine Fh (fun hc=>?_)<;>(try rw[hc])<;>clear hc)|clear U K)<;>conv=>whnf)
      refine AQ ?_;rw[hkids];exact⟨rfl,hs⟩
theorem tJ {a b:Nat} {A B:Prop} (e:a=b) (h:A):(a=b→A)∧(a≠b→B):=⟨fun _=>h,fun n=>absurd e n⟩
theorem tasN {a b:Nat} {A B:Prop} (e:a≠b) (h:B):(a=b→A)∧(a≠b→B):=⟨fun n=>absurd n e,fun _=>h⟩
theorem c8 {P:Program} {σ:AH} {tab:List (TypeId×FuncId)} {t:TypeId} {f:FuncId} {v:V} {args:List V} {Q:R→AH→Prop} (h:look t tab=some f) (hc:Be P f (v::args) σ Q):Bx P tab (.FE t v) args σ Q:=by
 unfold Bx;simp only[h];exact hc
theorem eY (p:Prog) (n size depth:Int):Pure Tryz.prog 167 [.a (Bd p),eI n,.a [eI size,eI depth]] (.f (.func 213) [] [.rp (Bd p),.rp [eI n],.rp [eI size,eI depth]]):=by
 refine xy nb ?_;have hs:=Sn
 conv=>whnf
 repeat'((first|apply st|(apply sq;intro K U)|(apply si;intro A B Y Z)|(apply Y;clear Z B Y A)|(apply U;clear U K)|fail)<;>conv=>whnf)
 all_goals exact AJ rfl
set_option maxHeartbeats 4000000 in
theorem uy (p:Prog) (next:Bool) {L:Nat} {E:Env} {ok:FuncId→Array Tmp→Code→Code→Nat→Prop} {v:V} {nO:Nat}
 (hY:Mo Tryz.prog L E ok eaP (hOut nO v) (fun s=>s.length=p.nodes.length) (fun y s=>af (FP p next y.1 y.2.1 y.2.2 s)) (dP p)) (n size:Int) (s:List Int) (h0:0≤size) (h1:size≤20) (hl:s.length=p.nodes.length) (rest:List At) (σ:AH)
 (hs : Sat σ (.obj L (.loop .ready E ok)::(hOut nO v s++rest))) :
  Be Tryz.prog 213 [.f (.yield L) [] [],.rp (Bd p),.rp [eI n],.rp [eI size,eI 1]] σ
   (fM L E ok (hOut nO v) (fun s=>s.length=p.nodes.length) rest (.t []) (.t []) (af (Cb p next 12 n size s))):=by
 refine xV nb ?_
 conv=>whnf
 repeat'((first|apply st|(apply sq;intro K U)|(apply si;intro A B Y Z)|(apply Y;clear Z B Y A)|(apply U;clear U K)|refine⟨nb,?_⟩|refine ld ?_|refine IB fun σ hs=>?_|(intro nn hnn;generalize hg:BE _ nn _=σ;refine E3 hg fun hs=>?_;clear hg)|fail)<;>conv=>whnf)
 have hp:Sat σ (.obj L (.loop .ready E ok)::(hOut nO v s++(.box nn [V5 p L nn]::rest))):=hs.perm (by
  refine(List.Perm.swap _ _ _).trans (.cons _ ?_)
  exact(List.perm_middle (l₁:=hOut nO v s)).symm)
 refine C1 ((fq p next hY 12 (J1 _) n size 1 s rfl h0 (by omega) hl nn rest σ hp).mono ?_);cases hw:Cb p next 12 n size s with
 | none=>
   rintro r σ' ⟨rfl,s',hj,hs'⟩
   conv=>whnf
   repeat'((first|(refine Z _ _ _ ?_;clear Z B Y A)|fail)<;>conv=>whnf)
   refine Da ?_;rw[hw];exact⟨rfl,s',hj,hs'.less (List.Sublist.append_left (Oa _ _) _)⟩
 | some s2=>
   rintro r σ' ⟨rfl,hs'⟩
   conv=>whnf
   repeat'((first|(apply Y;clear Z B Y A)|fail)<;>conv=>whnf)
   refine AQ ?_;rw[hw];exact⟨rfl,hs'.less (.cons₂ _ (List.Sublist.append_left (Oa _ _) _))⟩
theorem VR (p:Prog) (x:Node):(x.op=5∧Qk x.op= .FE 207 (.a []))∨(x.op≠5∧ ∃m:Int,Qk x.op= .FE 205 (eI m)∧JL p x=m)∨(Qk x.op= .Du∧JL p x= -1):=by
 unfold Qk JL;by_cases h5:x.op=5
 ·exact .inl ⟨h5,by rw[if_pos h5]⟩
 ·rw[if_neg h5]
  split
  ·exact .inr (.inl ⟨h5,_,rfl,rfl⟩)
  split
  ·exact .inr (.inl ⟨h5,_,rfl,rfl⟩)
  split
  ·exact .inr (.inl ⟨h5,_,rfl,rfl⟩)
  split
  ·exact .inr (.inl ⟨h5,_,rfl,rfl⟩)
  ·exact .inr (.inr ⟨rfl,by rw[if_neg (by rintro⟨h,_⟩;exact h5 h)]⟩)
theorem S0 {p:Prog} {x:Node} (h:x.op=5) {size:Int} (hn:MT p x size=true):0≤x.n∧x.n<p.D6.length∧JL p x=p.D6.getD x.n.toNat 0:=by
 have h2:0≤x.n∧x.n<p.D6.length:=by
  simp only[MT,h]at hn;simpa using hn
 refine⟨h2.1,h2.2,?_⟩;unfold JL;rw[h,if_neg (by decide),if_neg (by decide),if_neg (by decide),if_neg (by decide),if_pos ⟨rfl,h2.1,h2.2⟩]
theorem dE {p:Prog} {next:Bool} {n size depth:Int} {s:List Int} (h:n<0∨(p.nodes.length:Int)≤n∨0≤s.getD n.toNat 0∨12<depth):FP p next n size depth s=none:=by
 unfold FP;rw[if_pos h]
theorem dF {p:Prog} {next:Bool} {n size depth:Int} {s:List Int} {y:Int} {x:Node} (h0:0≤n) (h1:n<(p.nodes.length:Int)) (hy:s[n.toNat]? =some y) (hy0:y<0) (hd:depth≤12) (hx:p.nodes[n.toNat]? =some x):FP p next n size depth s=if EU p next size x then some (s.set n.toNat size)else none:=by
 have e:s.getD n.toNat 0=y:=by rw[FM,hy];rfl
 unfold FP;rw[if_neg (by rw[e];omega),hx]
def ABV (p:Prog) (nO:Nat) (v:V) (rest:List At) (o:Option (List Int)) (r:R) (σ:AH):Prop:=
 match o with
 | some s=>r= .ret (.t [])∧Sat σ (hOut nO v s++rest)
 | none=>r= .By ED∧ ∃s:List Int,s.length=p.nodes.length∧Sat σ (hOut nO v s++rest)
set_option maxHeartbeats 4000000 in
theorem TB (p:Prog) (next:Bool) {v:V} {nO:Nat} (hv:(Eg v).isSome=true) (n size:Int) (s:List Int) (h0:0≤size) (h1:size≤20) (hl:s.length=p.nodes.length) (rest:List At) (σ:AH) (hs:Sat σ (hOut nO v s++rest)) :
 Be Tryz.prog 166 [eI n,eI size,.b next,.rp (Bd p),.p nO 0] σ (ABV p nO v rest (Cb p next 12 n size s)):=by
 refine Be.fit (by kernel_rfl) fun hf=>?_
 have hM:=Mx
 have hfp:FG (.a (Bd p)):=by
  have:=hf.2.2.2.1;simp only[S7]at this;simpa only[HO]using this
 have⟨p1,p2,p3,p4⟩:=GD hfp;refine xz nb ?_
 conv=>whnf
 repeat'((first|apply st|(apply sq;intro K U)|(apply si;intro A B Y Z)|(apply Y;clear Z B Y A)|(apply U;clear U K)|refine⟨nb,?_⟩|refine Pure.use (eY _ _ _ _) ?_|(intro nn hnn;generalize hg:BE _ nn _=σ;refine E3 hg fun hs=>?_;clear hg)|fail)<;>conv=>whnf)
 refine Be.mono (uy p next (L:=nn) (v:=v) (nO:=nO) ?_ n size s h0 h1 hl rest σ hs) ?_
 ·refine Nb (fun y=>rfl) ?_
  clear hs hnn hl h0 h1;rintro⟨k,sz,dp⟩ s ⟨d0,d1,d2,d3,hl⟩ rest σ hs;dsimp only at d0 d1 d2 d3 hl;dsimp only;rw[show eaP (k,sz,dp)= [eI k,.a [eI sz,eI dp]] from rfl]
  conv=>whnf
  repeat'((first|apply st|(apply sq;intro K U)|(apply si;intro A B Y Z)|(apply Y;clear Z B Y A)|(refine Z _ _ _ ?_;clear Z B Y A)|(refine Z _ _ fun σ hsub=>?_;clear Z B Y A)|(apply U;clear U K)|apply dr|refine rk ?_ ?_|exact fun s e=>by cases e;rfl|refine⟨rfl,?_⟩|refine⟨nb,?_⟩|refine iq fun x hx=>?_|refine ld ?_|refine HZ fun σ hs=>?_|refine oi ?_|refine ol fun x hx=>?_|refine oset fun σ hs=>?_|refine IE ?_|refine GH ?_|(refine C4 (fun hc=>?_) (fun hc=>?_)<;>(replace hc:=bp hc)<;>(try simp(disch:=omega) only[Bz,wrap64,AP]at hc)<;>(try(cases hc;done)))|refine Pure.use (ZO _ _ _) ?_|refine Pure.use (ZX _) ?_|(rcases VR p (by assumption)with⟨e5,ek⟩|⟨e5,m,ek,hm⟩|⟨ek,hm⟩<;>rw[ek]<;>clear ek)|refine tJ rfl ?_|refine tasN (by decide) ?_|refine c8 rfl (Pure.use (AAf _ _ _) ?_)|refine c8 rfl (Pure.use (mN _ _ (S0 (by assumption) (by assumption)).1 (S0 (by assumption) (by assumption)).2.1) ?_)|(constructor<;>intro hc<;>(try rw[hc])<;>(replace hc:=bp hc)<;>(try simp(disch:=omega) only[Bz,wrap64,AP]at hc))|(intro nn hnn;generalize hg:BE _ nn _=σ;refine E3 hg fun hs=>?_;clear hg)|clear U K)<;>conv=>whnf)
  all_goals first
   | (intro hn;refine Q3 (s:=s) (by rw[dE (by first|omega|(rw[FM,‹s[k.toNat]? =some _›];simp only[Option.getD_some];omega))];rfl) hl (hs.less (by repeat first|exact List.Sublist.refl _|apply List.Sublist.cons)) hn)
   | skip
  all_goals
   have hva:=dF (next:=next) (size:=sz) (depth:=dp) (show 0≤k by omega) (show k<(p.nodes.length:Int) by omega) ‹s[k.toNat]? =some _› (by assumption) (by omega) ‹p.nodes[k.toNat]? =some _›
   rename Node=>x
   have hk5:x.op=5→MT p x sz=true→JL p x=p.D6.getD x.n.toNat 0:=fun h hn=>(S0 h hn).2.2
   intro hn
  all_goals first
   | (rw[if_neg (by first|(intro h;rw[EU,hk5 (by assumption) (by assumption)]at h;simp only[Bj,FL]at h;exact absurd h.1 (by assumption))|(simp[EU, *];done)|(simp[EU, *];omega)|(rw[EU,hk5 (by assumption) (by assumption)];simp[*];done)|(simp[EU, *];intros;omega))]at hva
      refine Q3 (s:=s.set k.toNat sz) (by rw[hva];rfl) (by simpa using hl) ?_ hn
      first
       | exact hs.less (by repeat first|exact List.Sublist.refl _|apply List.Sublist.cons)
       | exact(hs.less (by repeat first|exact List.Sublist.refl _|apply List.Sublist.cons)).up (by assumption))
   | (rw[if_pos (by first|(simp[EU, *];done)|(rw[EU,hk5 (by assumption) (by assumption)];simp[*];done))]at hva
      exact UY (s:=s.set k.toNat sz) (by rw[hva];rfl) (hs.less (by repeat first|exact List.Sublist.refl _|apply List.Sublist.cons)) hn)
 ·cases hw:Cb p next 12 n size s with
  | none=>
    rintro r σ' ⟨rfl,s',hj,hs'⟩
    conv=>whnf
    exact Da ⟨rfl,s',hj,hs'⟩
  | some s2=>
    rintro r σ' ⟨rfl,hs'⟩;refine Hq hs' fun σ2 hs2=>?_
    conv=>whnf
    exact AQ ⟨rfl,hs2⟩
def Fs (w:AM):Prop:=Is w.parents∧w.owner.length≤40∧ ∀o∈w.owner,(3:Int)≤o∧o<3+(w.parents.length:Int)
def Vt (us:List Nat) (l:List Int) (s:Nat):Nat:=l.foldl (fun s c=>s|||us.getD c.toNat 0) s
def Cv (g:List (List Int)):Nat→List Nat
 | 0=>[1,3,5]
 | k+1=>Cv g k++[Vt (Cv g k) (g.getD k []) (1|||2 ^ (3+k))]
def E5 (g:List (List Int)):List Nat:=Cv g g.length
def fR (us:List Nat):List V:=us.map eU++List.replicate (63 - us.length) (eU 0)
def wC (w:AM) (us:List Nat):List V:=BR w++fR us
theorem GN (g:List (List Int)): ∀k,(Cv g k).length=3+k
 | 0=>rfl
 | k+1=>by simp[Cv,GN g k];omega
theorem bS (w:AM) {us:List Nat} (h:us.length≤63):(wC w us).length=65:=by
 simp only[wC,BR,fR,QJ,OB,List.length_nil,Bz,List.length_replicate];omega
theorem bR (w:AM) (us:List Nat) (s:Nat) (h:us.length<63):(wC w us).set (2+us.length) (eU s)=wC w (us++[s]):=by
 simp only[wC,fR];rw[List.set_append_right _ _ (by simp[BR])];congr 1;have e:2+us.length - (BR w).length=us.length:=by simp[BR]
 rw[e,List.set_append_right _ _ (by simp)];rw[Bz,Nat.sub_self,TR,TV];congr 1;rw[show 63 - us.length=(63 - (us++[s]).length)+1 by simp;omega,List.replicate_succ];rfl
theorem mj (w:AM) (us:List Nat) {i:Nat} (h:i<us.length):(wC w us)[2+i]? =some (eU (us.getD i 0)):=by
 simp only[wC,fR];rw[List.getElem?_append_right (by simp[BR]),show 2+i - (BR w).length=i by simp[BR],tC (by simpa using h),Qf,FD h,FM,FD h];rfl
def zC (us:List Nat):Prop:= ∀u∈us,u<18446744073709551616
theorem SJ {us:List Nat} (h:zC us) (i:Nat):us.getD i 0<18446744073709551616:=by
 rw[FM];cases hx:us[i]? with
 | none=>simp
 | some x=>exact h x (DM hx)
theorem Sk {us:List Nat} (h:zC us): ∀(l:List Int) (s:Nat),s<18446744073709551616→Vt us l s<18446744073709551616
 | [],_,hs=>hs
 | c::r,s,hs=>Sk h r _ (LO hs (SJ h _))
theorem Lr (g:List (List Int)): ∀k,k≤60→zC (Cv g k)
 | 0,_=>by intro u hu;simp[Cv]at hu;omega
 | k+1,hk=>by
   intro u hu;simp only[Cv,F8,OZ]at hu;rcases hu with hu|rfl
   ·exact Lr g k (by omega) u hu
   ·exact Sk (Lr g k (by omega)) _ _ (LO (by decide) (Kj (by omega)))
theorem uA (w:AM) (us:List Nat) (c:Int) {n:Nat} (hM:w.parents.length≤60):B9 Tryz.prog 178 [.p n 0,eI c] [.box n (wC w us)] fun r post=>r= .ret (.b (decide (3≤c)&&decide (c<3+(w.parents.length:Int))))∧post= [.box n (wC w us)]:=by
 intro σ hs;have hw:IntKind.i64.wrap (3+((Ev w.parents).length:Nat))=3+(w.parents.length:Int):=by rw[Bz,wrap64 (by omega) (by omega)]
 refine xm nb ?_
 conv=>whnf
 repeat'((first|apply st|(apply sq;intro K U)|(apply si;intro A B Y Z)|(apply Y;clear Z B Y A)|(apply U;clear U K)|refine⟨rfl,?_⟩|refine ld ?_|(constructor<;>intro hc<;>(try rw[hc])<;>(replace hc:=bp hc))|fail)<;>conv=>whnf)
 ·refine AQ ⟨_,⟨?_,rfl⟩,hs⟩
  rw[hw,decide_eq_true (show 3≤c by omega)];rfl
 ·refine AQ ⟨_,⟨?_,rfl⟩,hs⟩
  rw[decide_eq_false (show¬3≤c by omega)];rfl
theorem eO (w:AM) (us:List Nat) (c:Int) (hM:w.parents.length≤60):Pure Tryz.prog 222 [.rp (wC w us),eI c] (.b (QS w c)):=by
 have hw:IntKind.i64.wrap (3+((Ev w.parents).length:Nat))=3+(w.parents.length:Int):=by rw[Bz,wrap64 (by omega) (by omega)]
 refine xO nb ?_;have hs:=Sn
 conv=>whnf
 repeat'((first|apply st|(apply sq;intro K U)|(apply si;intro A B Y Z)|(apply Y;clear Z B Y A)|(apply U;clear U K)|refine⟨rfl,?_⟩|(constructor<;>intro hc<;>(try rw[hc])<;>(replace hc:=bp hc))|fail)<;>conv=>whnf)
 ·refine AJ ?_
  rw[hw,QS,decide_eq_true (show 0≤c by omega)];rfl
 ·refine AJ ?_
  rw[QS,decide_eq_false (show¬0≤c by omega)];rfl
theorem gB (w:AM) (us:List Nat) (c:Int) (hM:w.owner.length≤60):Pure Tryz.prog 254 [.rp (wC w us),eI c] (.b (JK w c)):=by
 refine wu nb ?_;have hs:=Sn
 conv=>whnf
 repeat'((first|apply st|(apply sq;intro K U)|(apply si;intro A B Y Z)|(apply Y;clear Z B Y A)|(apply U;clear U K)|refine⟨rfl,?_⟩|(constructor<;>intro hc<;>(try rw[hc])<;>(replace hc:=bp hc))|fail)<;>conv=>whnf)
 ·refine AJ ?_
  rw[JK,decide_eq_true (show 0≤c by omega),Bz];rfl
 ·refine AJ ?_
  rw[JK,decide_eq_false (show¬0≤c by omega)];rfl
theorem gW (w:AM) (us:List Nat) (l:List Int) (f:Bool) (hM:w.owner.length≤60):Pure Tryz.prog 221 [.rp (wC w us),.l (iL l) f] (.b (Fl w l)):=by
 have hall:=mT (g:=254) (fi:=[.rp (wC w us)]) (ca:=[]) (f:=JK w) (xs:=l) f (fun y _=>gB w us y hM);refine xP nb ?_;have hs:=Sn
 conv=>whnf
 repeat'((first|apply st|(apply sq;intro K U)|(apply si;intro A B Y Z)|(apply Y;clear Z B Y A)|(apply U;clear U K)|refine⟨rfl,?_⟩|(constructor<;>intro hc<;>(try rw[hc])<;>(replace hc:=bp hc)<;>(try simp(disch:=omega) only[Bz,wrap64,AP]at hc))|refine Pure.use (by assumption) ?_|fail)<;>conv=>whnf)
 ·refine AJ ?_
  rw[Fl,decide_eq_true (show l.length≤2 by omega),Bool.and_true];rfl
 ·refine AJ ?_
  rw[Fl,decide_eq_false (show¬l.length≤2 by omega),Bool.and_false];rfl
theorem Hm (s:Nat) (c:Int) (hs0:s<18446744073709551616) (h0:0≤c) (hc:c<64):Pure Tryz.prog 176 [eU s,eI c] (eU (s|||2 ^ c.toNat)):=by
 have:=Xe s c.toNat hs0 (by omega);rw[Int.toNat_of_nonneg h0]at this;exact this
theorem up3 {k:Nat} (h:k<3):([1,3,5]:List Nat).take k++[1|||2 ^ k]= [1,3,5].take (k+1):=by
 rcases k with _|_|_|k
 ·rfl
 ·rfl
 ·rfl
 ·omega
set_option maxHeartbeats 4000000 in
theorem gg (w:AM) (hw:Fs w):Pure Tryz.prog 139 [.a (BR w)] (.t [.rp (wC w (E5 w.parents)),.b true]):=by
 obtain⟨⟨hl,hrow⟩,ho,how⟩:=hw;have hM:=Mx;refine Pure.of ?_;refine yN nb ?_;have hs:=Sn;have hi1:((Ev w.parents).length:Int)≤60:=by rw[Bz];omega
 have hi2:((iL w.owner).length:Int)≤40:=by rw[Bz];omega
 conv=>whnf
 repeat'((first|apply st|(apply sq;intro K U)|(apply si;intro A B Y Z)|(apply Y;clear Z B Y A)|(apply U;clear U K)|refine⟨rfl,?_⟩|refine⟨nb,?_⟩|(constructor<;>intro hc<;>(try rw[hc])<;>(replace hc:=bp hc)<;>(try simp(disch:=omega) only[Bz,wrap64,AP]at hc)<;>try(exfalso;omega))|(intro nn hnn;generalize hg:BE _ nn _=σ;refine E3 hg fun hs=>?_;clear hg)|fail)<;>conv=>whnf)
 generalize nn=n0 at *;refine Cn 3 (fun k (_:Unit)=>[(24,eI (BJ k))]) (fun k _=>[.box n0 (wC w ([1,3,5].take k))]) (fun k _=>True) () rfl trivial hs ?_;clear hs;rintro k - σ hk - hs;have hck:BJ k=k:=AP (by omega);have hlen:(([1,3,5]:List Nat).take k).length=k:=by simp;omega
 by_cases hlt:k<3
 ·have hst:=bR w ([1,3,5].take k) (1|||2 ^ k) (by omega)
  rw[hlen,up3 hlt]at hst
  conv=>whnf
  repeat'((first|apply st|(apply sq;intro K U)|(apply si;intro A B Y Z)|(apply Y;clear Z B Y A)|(apply U;clear U K)|apply dr|refine⟨rfl,?_⟩|refine tH ?_|refine Pure.use (Hm 1 _ (by decide) (by omega) (by omega)) ?_|(constructor<;>intro hc<;>(try rw[hc])<;>(replace hc:=bp hc)<;>(try simp(disch:=omega) only[Bz,wrap64,AP]at hc)<;>try(exfalso;omega))|fail)<;>conv=>whnf)
  refine Lf hs 0 rfl rfl (by rw[bS w (by omega)];omega) fun σ hs=>?_
  conv=>whnf
  repeat'((first|(apply si;intro A B Y Z)|(apply Y;clear Z B Y A)|(apply U;clear U K)|apply dr|refine⟨rfl,?_⟩|clear U K)<;>conv=>whnf)
  refine⟨hlt,(),rfl,trivial,?_⟩;rw[hck,LG,Nat.mul_one,HV]at hs;simp only[List.set_cons_zero]at hs;rw[hst]at hs;exact hs
 ·have hke:k=3:=by omega
  subst hke;clear hk hck hlen hlt
  conv=>whnf
  repeat'((first|apply st|(apply sq;intro K U)|(apply si;intro A B Y Z)|(apply Y;clear Z B Y A)|(apply U;clear U K)|refine⟨rfl,?_⟩|(constructor<;>intro hc<;>(try rw[hc])<;>(replace hc:=bp hc)<;>(try simp(disch:=omega) only[Bz,wrap64,AP]at hc)<;>try(exfalso;omega))|clear U K)<;>conv=>whnf)
  refine Cn w.parents.length (fun k (_:Unit)=>[(38,eI (BJ k))]) (fun k _=>[.box n0 (wC w (Cv w.parents k))]) (fun k _=>True) () rfl trivial hs ?_;clear hs;rintro k - σ hk - hs;have hck:BJ k=k:=AP (by omega);have hul:=GN w.parents k;have huo:=Lr w.parents k (by omega);have hw3:IntKind.i64.wrap (3+(k:Int))=3+(k:Int):=wrap64 (by omega) (by omega);rcases Bo w.parents hk with⟨row,hr,hlt⟩|hke
  ·obtain⟨r1,r2,r3⟩:=hrow k row hr
   rw[←hck]at hw3
   conv=>whnf
   repeat'((first|apply st|(apply sq;intro K U)|(apply si;intro A B Y Z)|(apply Y;clear Z B Y A)|(apply U;clear U K)|refine⟨rfl,?_⟩|refine ix ?_|(refine D0 (fun hc=>?_)<;>(try rw[hc])<;>clear hc)|refine Pure.use (Hm 1 _ (by decide) (by omega) (by omega)) ?_|fail)<;>conv=>whnf)
   have hbig:zC (Cv w.parents k):=huo;have hst0:IntKind.i64.wrap (3+BJ k)=3+(k:Int):=by rw[hck];exact wrap64 (by omega) (by omega)
   have hs0lt:1|||2 ^ (3+k)<18446744073709551616:=LO (by decide) (Kj (by omega))
   have hs0e:1|||2 ^ (IntKind.i64.wrap (3+BJ k)).toNat=1|||2 ^ (3+k):=by rw[hst0,show(3+(k:Int)).toNat=3+k by omega]
   rw[hs0e];refine Cn row.length (fun j (s:Nat)=>[(48,eI (BJ j)),(8,eU s)]) (fun _ _=>[.box n0 (wC w (Cv w.parents k))]) (fun j s=>s=Vt (Cv w.parents k) (row.take j) (1|||2 ^ (3+k))) (1|||2 ^ (3+k)) rfl rfl hs ?_;clear hs;rintro j s σ hj hse hs;rcases Bo row hj with⟨c,hcj,hjlt⟩|hje
   ·obtain⟨q1,q2⟩:=r3 c (DM hcj)
    have hload:(wC w (Cv w.parents k))[0+2+c.toNat*1]? =some (eU ((Cv w.parents k).getD c.toNat 0)):=by
     have:=mj w (Cv w.parents k) (i:=c.toNat) (by omega);rw[←this];congr 1;omega
    have hnc:(row.take j).contains c=false:=by
     rw[←Bool.not_eq_true,List.contains_iff_mem];intro hm;obtain⟨i,hi,he⟩:=List.mem_iff_getElem.1 hm;have hi':i<j:=by rw[QI]at hi;omega
     rw[List.getElem_take]at he;have hcj':=(Nu.1 hcj).2;exact absurd ((List.getElem_inj r2).1 (he.trans hcj'.symm)) (by omega)
    have hct: ∀b,Pure Tryz.prog 172 [.l (iL (row.take j)) b,eI c] (.b false):=fun b=>by
     have:=EH (row.take j) b c
     rwa [hnc]at this
    conv=>whnf
    repeat'((first|apply st|(apply sq;intro K U)|(apply si;intro A B Y Z)|(apply Y;clear Z B Y A)|(apply U;clear U K)|refine⟨rfl,?_⟩|refine ix ?_|refine sk1 ?_|refine tH ?_|refine ld ?_|refine GH ?_|(refine D0 (fun hc=>?_)<;>(try rw[hc])<;>clear hc)|refine Pure.use (hct _) ?_|(rw[hload])|(constructor<;>intro hc<;>(try rw[hc])<;>(replace hc:=bp hc)<;>(try simp(disch:=omega) only[Bz,wrap64,AP]at hc)<;>try(exfalso;omega))|clear U K)<;>conv=>whnf)
    refine⟨hjlt,s|||(Cv w.parents k).getD c.toNat 0,?_,?_,hs⟩
    ·have hsl:s<18446744073709551616:=by rw[hse];exact Sk huo _ _ hs0lt
     rw[Lo hsl (SJ huo _)];rfl
    ·rw[hse,AO hcj]
     simp only[Vt,List.foldl_append];rfl
   ·conv=>whnf
    repeat'((first|apply st|(apply sq;intro K U)|(apply si;intro A B Y Z)|(apply Y;clear Z B Y A)|(apply U;clear U K)|refine⟨rfl,?_⟩|refine tH ?_|(refine Fh (fun hc=>?_)<;>(try rw[hc])<;>clear hc)|clear U K)<;>conv=>whnf)
    refine Lf hs 0 rfl rfl (by rw[bS w (by omega),hst0];omega) fun σ hs=>?_
    conv=>whnf
    repeat'((first|(apply si;intro A B Y Z)|(apply Y;clear Z B Y A)|(apply U;clear U K)|refine⟨rfl,?_⟩|clear U K)<;>conv=>whnf)
    refine⟨hlt,(),rfl,trivial,?_⟩
    have e:Cv w.parents (k+1)=Cv w.parents k++[s]:=by
     rw[hse,Cv,FM,hr,hje,List.take_length];rfl
    have hst:=bR w (Cv w.parents k) s (by omega);rw[e,←hst];have e2:0+2+(IntKind.i64.wrap (3+BJ k)).toNat*1=2+(Cv w.parents k).length:=by rw[hst0,hul];omega
    rw[e2]at hs;exact hs
  ·have hown:=cb 178 [.p n0 0] [] (fun _=>[.box n0 (wC w (Cv w.parents k))]) (T2 fun c=>decide (3≤c)&&decide (c<3+(w.parents.length:Int))) (fun _ _=>True) (fun y s _ σ hs=>C1 (Be.mono (uA w (Cv w.parents k) y (by omega) σ hs) (by
    rintro r σ' ⟨post,⟨h1,h2⟩,h3⟩;subst h2
    exact⟨h1,h3⟩))) w.owner false () (Md fun _ _ _=>trivial)
   rw[Jz]at hown
   have hall:(w.owner.all fun c=>decide (3≤c)&&decide (c<3+(w.parents.length:Int)))=true:=by
    rw[I0];intro o hoo;have:=how o hoo;simp only[Bj,D4];exact this
   rw[hall]at hown
   conv=>whnf
   repeat'((first|apply st|(apply sq;intro K U)|(apply si;intro A B Y Z)|(apply Y;clear Z B Y A)|(apply U;clear U K)|refine⟨rfl,?_⟩|(refine Fh (fun hc=>?_)<;>(try rw[hc])<;>clear hc)|clear U K)<;>conv=>whnf)
   refine hown.use (rest:=[]) hs ?_;rintro r post σ ⟨rfl,rfl⟩ hs
   conv=>whnf
   repeat'((first|apply st|(apply Y;clear Z B Y A)|(apply U;clear U K)|fail)<;>conv=>whnf)
   rw[hke]at hs;exact IX (σ2:=emp) (fun n o ho=>by cases ho) (.t (.cons (hs.frzB 0 rfl (.refl _ _ _)) (.cons (.refl _) .nil))) rfl
end Go.Gl
