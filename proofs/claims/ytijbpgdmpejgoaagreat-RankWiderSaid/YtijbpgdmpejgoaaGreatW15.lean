import Derived.Test.YtijbpgdmpejgoaaGreatRows
import Derived.HandedShaped
import Derived.Test.YtijbpgdmpejgoaaGreatW6
import Derived.Test.YtijbpgdmpejgoaaGreatW10
import Derived.Test.YtijbpgdmpejgoaaGreatW11
import Derived.Test.YtijbpgdmpejgoaaGreatW13
import Derived.Test.YtijbpgdmpejgoaaGreatW14
set_option linter.all false
set_option linter.defProp false
noncomputable section
namespace Go.Gl
open Go.Proofs
attribute [local irreducible] BD Aw Ai AU AO Ah AV AW AN Ag AS AT Ay A9 Sat Ab A4 Aj W
abbrev pI (p:Int×Int):List V:=[eI p.1,eI p.2]
abbrev pP (l:List (Int×Int)):List (List V):=l.map pI
def LP:EE pI 2:=fun x=>⟨rfl,fun v hv=>by
 simp only[pI,FE,List.not_mem_nil,or_false]at hv
 rcases hv with rfl|rfl<;>rfl⟩
def I8 (p:Prog) (g:Int):Bool:=decide (0≤g)&&decide (g<(p.CM.length:Int))
def L0 (k:Int):Bool:=decide (1≤k)&&decide (k≤4)
def JS (n:Nat) (f:Nat→Nat→Bool) (i:Nat):List (Int×Int):=((List.range n).filter (f i)).map fun(j:Nat)=>((i:Int),(j:Int))
def Ej (n:Nat) (f:Nat→Nat→Bool):List (Int×Int):=(List.range n).flatMap (JS n f)
def FJ (p:Prog) (gen kind:Int) (i j:Nat):Bool:=(BL p i).gen==gen&&((BL p i).kind==kind&&(Cq p i j&&Al p i j))
def Dx (p:Prog) (gen kind:Int):List (Int×Int)×Int:=if(BA p).isSome&&(I8 p gen&&L0 kind)then(Ej p.methods.length (FJ p gen kind),0)else([],2)
def oY (p:Prog) (g:Int):Pure Tryz.prog 52 [.a (BN p),eI g] (.b (I8 p g)):=by
 refine Pure.fit (by kernel_rfl) fun hf=>?_
 have⟨p1,p2,p3,p4⟩:=GQ hf.1;refine pQ kZ ?_;have hs:=Sn
 conv=>whnf
 repeat'((first|apply st|(apply sq;intro K U)|(apply si;intro A B Y Z)|(apply Y;clear Z B Y A)|(apply U;clear U K)|refine⟨rfl,?_⟩|(constructor<;>intro hc<;>(try rw[hc])<;>(replace hc:=bp hc))|fail)<;>conv=>whnf)
 all_goals exact AI (by simp[I8, *]<;>omega)
def HK (n:Nat) (f:Nat→Nat→Bool) (k:Nat):(List.range (k+1)).flatMap (JS n f)=(List.range k).flatMap (JS n f)++JS n f k:=by
 rw[List.range_succ,List.flatMap_append];simp
def LB (f:Nat→Nat→Bool) (i k:Nat):List (Int×Int):=((List.range k).filter (f i)).map fun(j:Nat)=>((i:Int),(j:Int))
def Ix (f:Nat→Nat→Bool) (i k:Nat):LB f i (k+1)=LB f i k++(if f i k then [((i:Int),(k:Int))]else []):=by
 rw[LB,List.range_succ,List.filter_append,Tu,LB];cases h:f i k<;>simp[h]
def Qz (f:Nat→Nat→Bool) (i k:Nat):(LB f i k).length≤k:=by
 rw[LB,BR];exact Nat.le_trans (Oy _ _) (by simp)
def KN (n:Nat) (f:Nat→Nat→Bool) (k:Nat):((List.range k).flatMap (JS n f)).length≤k*n:=by
 induction k with
 | zero=>simp
 | succ k ih=>
   rw[HK,QP,Nat.succ_mul];have:=Qz f k n;have e:JS n f k=LB f k n:=rfl;rw[e];omega
def Rj (p:Prog) (gen:Int) (i j:Nat):Bool:=decide (i<j)&&((BL p i).gen==gen&&(Cq p i j&&(EC p i j&&EC p j i)))
def LJ (p:Prog) (gen:Int):List (Int×Int)×Int:=if(BA p).isSome&&I8 p gen then(Ej p.methods.length (Rj p gen),0)else([],2)
def MC (xs ys:List (Int×Int)) (f g:Bool) (hl:xs.length≤1000) (hm:ys.length≤1000):Pure Tryz.prog 19 [.l (pP xs) f,.l (pP ys) g] (.b (xs==ys)):=by
 have hM:=Mx;refine pd kZ ?_;have hs:=Sn;by_cases hlen:xs.length=ys.length
 ·conv=>whnf
  repeat'((first|apply st|(apply sq;intro K U)|(apply si;intro A B Y Z)|(apply Y;clear Z B Y A)|(apply U;clear U K)|refine⟨rfl,?_⟩|(constructor<;>intro hc<;>(try rw[hc])<;>(replace hc:=bp hc)<;>(try simp(disch:=omega) only[BR,wrap64,AM]at hc)<;>try(exfalso;omega))|fail)<;>conv=>whnf)
  refine CZ xs.length (fun k (_:Unit)=>[(5,eI (BH k))]) (fun _ _=>[]) (fun k _=>(xs==ys)=(xs.drop k==ys.drop k)) () rfl rfl Sat.nil ?_;clear hs;rintro k - σ hk hn hs;rcases BM xs hk with⟨x,hx,hlt⟩|hke
  ·obtain⟨y,hy⟩: ∃y,ys[k]? =some y:=⟨_,DZ (by omega)⟩
   rw[drop_cons hx,drop_cons hy]at hn
   conv=>whnf
   repeat'((first|apply st|(apply sq;intro K U)|(apply si;intro A B Y Z)|(apply Y;clear Z B Y A)|(apply U;clear U K)|apply dr|refine⟨rfl,?_⟩|refine⟨kZ,?_⟩|refine ix ?_|(refine Cv (fun hc=>?_)<;>(try rw[hc])<;>clear hc)|(constructor<;>intro hc<;>(try rw[hc])<;>(replace hc:=bp hc)<;>(try simp(disch:=omega) only[BR,wrap64,AM]at hc))|clear U K)<;>conv=>whnf)
   ·refine AI ?_
    rw[hn];congr 1;rw[Bool.and_true]at hc;rw[List.cons_beq_cons,show(x==y)=(x.1==y.1&&x.2==y.2) from rfl,hc];rfl
   ·refine⟨hlt,(),rfl,?_,hs⟩
    rw[Bool.and_true]at hc;rw[hn,List.cons_beq_cons,show(x==y)=(x.1==y.1&&x.2==y.2) from rfl,hc,Ev]
  ·conv=>whnf
   repeat'((first|apply st|(apply sq;intro K U)|(apply si;intro A B Y Z)|(apply Y;clear Z B Y A)|(apply U;clear U K)|refine⟨rfl,?_⟩|(refine EI (fun hc=>?_)<;>(try rw[hc])<;>clear hc)|clear U K)<;>conv=>whnf)
   exact AI (by rw[hn,Ap hke,Ap (by omega)];rfl)
 ·conv=>whnf
  repeat'((first|apply st|(apply sq;intro K U)|(apply si;intro A B Y Z)|(apply Y;clear Z B Y A)|(apply U;clear U K)|refine⟨rfl,?_⟩|(constructor<;>intro hc<;>(try rw[hc])<;>(replace hc:=bp hc)<;>(try simp(disch:=omega) only[BR,wrap64,AM]at hc)<;>try(exfalso;omega))|clear U K)<;>conv=>whnf)
  exact AI (by(have:(xs==ys)=false:=by(simp;intro e;subst e;exact hlen rfl));rw[this])
def ZI (p:Prog) (L:Nat) (g:Int):Pure Tryz.prog 49 [Ff p L,eI g] (.b (I8 p g)):=by
 refine Pure.fit (by kernel_rfl) fun hf=>?_
 have hM:=Mx;refine gM kZ ?_;have hs:=Sn
 conv=>whnf
 repeat'((first|apply st|(apply sq;intro K U)|(apply si;intro A B Y Z)|(apply Y;clear Z B Y A)|(apply U;clear U K)|refine⟨rfl,?_⟩|(constructor<;>intro hc<;>(try rw[hc])<;>(replace hc:=bp hc))|fail)<;>conv=>whnf)
 all_goals exact AI (by simp[I8, *]<;>omega)
def UR (g:Int):Pure Tryz.prog 49 [.pn,eI g] (.b false):=by
 refine gM kZ ?_;have hs:=Sn
 conv=>whnf
 repeat'((first|apply st|(apply sq;intro K U)|(apply si;intro A B Y Z)|(apply Y;clear Z B Y A)|(apply U;clear U K)|refine EM ?_|fail)<;>conv=>whnf)
 all_goals exact AI rfl
def XD (p:Prog) (L:Nat) (g:Int):Pure Tryz.prog 50 [Ff p L,eI g] (.f (.func 75) [] [.rp [Ff p L],.rp [eI g]]):=by
 refine pS kZ ?_;have hs:=Sn
 conv=>whnf
 repeat'((first|apply st|(apply sq;intro K U)|(apply si;intro A B Y Z)|(apply Y;clear Z B Y A)|(apply U;clear U K)|fail)<;>conv=>whnf)
 all_goals exact AI rfl
def Z1 (xs:List (Int×Int)) (v:V) (hl:xs.length≤Ac):Bc Tryz.prog 51 [v] [.own v 2 (pP xs)] fun r post=>r= .ret (.l (pP xs) true)∧post= []:=by
 intro σ hs;have hg:=DV LP xs;refine pR kZ ?_
 conv=>whnf
 repeat'((first|(apply sq;intro K U)|(apply si;intro A B Y Z)|(apply Y;clear Z B Y A)|(apply U;clear U K)|refine lo ?_|fail)<;>conv=>whnf)
 refine Vq (i:=0) hs rfl hg.1 (by simpa using hl) fun σ hs=>?_
 conv=>whnf
 repeat'((first|apply st|(apply Y;clear Z B Y A)|(apply U;clear U K)|fail)<;>conv=>whnf)
 exact Aq hs (List.Sublist.refl _) (.refl _) fun σ' hs'=>⟨_,⟨rfl,rfl⟩,hs'⟩
def Bt (gv:Int) (v:Int×Int):Bool:=
 if v.1=1 then decide (-1000000000≤v.2)&&decide (v.2≤1000000000)else if v.1=2 then v.2==0 else if v.1=3 then decide (0≤v.2)&&decide (v.2<gv)else false
def dE (v:Int×Int) (n:Int):Pure Tryz.prog 80 [.a (pI v),eI n] (.b (Bt n v)):=by
 obtain⟨k,x⟩:=v;refine o8 kZ ?_;have hs:=Sn
 conv=>whnf
 repeat'((first|apply st|(apply sq;intro K U)|(apply si;intro A B Y Z)|(apply Y;clear Z B Y A)|(apply U;clear U K)|refine⟨rfl,?_⟩|(constructor<;>intro hc<;>(try rw[hc])<;>(replace hc:=bp hc)<;>(try simp(disch:=omega) only[BR,wrap64,AM]at hc))|clear U K)<;>conv=>whnf)
 all_goals exact AI (by simp[Bt, *]<;>omega)
def nZ (v:Int×Int) (n:Int):Pure Tryz.prog 92 [.a (pI v),eI n] (.b (Bt n v)):=by
 obtain⟨k,x⟩:=v;refine ox kZ ?_;have hs:=Sn
 conv=>whnf
 repeat'((first|apply st|(apply sq;intro K U)|(apply si;intro A B Y Z)|(apply Y;clear Z B Y A)|(apply U;clear U K)|refine⟨rfl,?_⟩|(constructor<;>intro hc<;>(try rw[hc])<;>(replace hc:=bp hc)<;>(try simp(disch:=omega) only[BR,wrap64,AM]at hc))|clear U K)<;>conv=>whnf)
 all_goals exact AI (by simp[Bt, *]<;>omega)
def ZQ (l:List (Int×Int)) (f:Bool) (n:Int):Pure Tryz.prog 63 [.l (pP l) f,eI n] (.b (l.all (Bt n))):=by
 refine Pure.fit (by kernel_rfl) fun hf=>?_
 have hl:l.length≤Ac:=by
  have:=hf.1;simp only[D7,BR]at this;exact this.1
 have hM:=Mx;refine pJ kZ ?_;have hs:=Sn
 conv=>whnf
 repeat'((first|apply st|(apply sq;intro K U)|(apply si;intro A B Y Z)|(apply Y;clear Z B Y A)|(apply U;clear U K)|fail)<;>conv=>whnf)
 refine CZ l.length (fun k (_:Unit)=>[(9,eI (BH k))]) (fun _ _=>[]) (fun k _=>l.all (Bt n)=(l.drop k).all (Bt n)) () rfl rfl hs ?_;clear hs;rintro k - σ hk hn hs;rcases BM l hk with⟨x,hx,hlt⟩|hke
 ·have c1:=nZ x n
  rw[drop_cons hx,Rs]at hn;cases hv:Bt n x<;>rw[hv]at c1 hn
  ·conv=>whnf
   repeat'((first|apply st|(apply sq;intro K U)|(apply si;intro A B Y Z)|(apply Y;clear Z B Y A)|(apply U;clear U K)|refine⟨rfl,?_⟩|refine⟨kZ,?_⟩|refine ix ?_|refine ld ?_|refine DT fun σ hs=>?_|refine FI ?_|(refine Cv (fun hc=>?_)<;>(try rw[hc])<;>clear hc)|refine c1.use ?_|(intro nn hnn;generalize hg:A7 _ nn _=σ;refine CY hg fun hs=>?_;clear hg)|clear U K)<;>conv=>whnf)
   exact AI (by rw[hn];rfl)
  ·conv=>whnf
   repeat'((first|apply st|(apply sq;intro K U)|(apply si;intro A B Y Z)|(apply Y;clear Z B Y A)|(apply U;clear U K)|refine⟨rfl,?_⟩|refine⟨kZ,?_⟩|refine ix ?_|refine ld ?_|refine DT fun σ hs=>?_|refine EM ?_|(refine Cv (fun hc=>?_)<;>(try rw[hc])<;>clear hc)|refine c1.use ?_|(intro nn hnn;generalize hg:A7 _ nn _=σ;refine CY hg fun hs=>?_;clear hg)|clear U K)<;>conv=>whnf)
   exact⟨hlt,(),rfl,hn,hs.less (Lr _)⟩
 ·conv=>whnf
  repeat'((first|apply st|(apply sq;intro K U)|(apply si;intro A B Y Z)|(apply Y;clear Z B Y A)|(apply U;clear U K)|refine⟨rfl,?_⟩|(refine EI (fun hc=>?_)<;>(try rw[hc])<;>clear hc)|clear U K)<;>conv=>whnf)
  exact AI (by rw[hn,Ap hke];rfl)
def O2 (w:AK) (c:Int):Bool:=decide (3≤c)&&decide (c<3+(w.parents.length:Int))
def CN (w:AK) (c:Int):List Int:=(Bj w.owner.length).filter (hasB w c)
abbrev Ob:=Int×List (Int×Int)
abbrev FY (o:Ob):List V:=[eI o.1,.l (pP o.2) false]
def J4 (w:AK) (n:Int) (o:Ob):Bool:=O2 w o.1&&(o.2.length==(CN w o.1).length&&o.2.all (Bt n))
def EY (w:AK) (os:List Ob):Bool:=decide (os.length≤40)&&os.all (J4 w os.length)
def nq (w:AK) (c:Int) (hw:Jy w):Pure Tryz.prog 89 [.a (BE w),eI c] (.b (O2 w c)):=by
 have hl:=hw.len;have hw3:IntKind.i64.wrap (3+(w.parents.length:Int))=3+w.parents.length:=wrap64 (by omega) (by omega);refine o0 kZ ?_;have hs:=Sn
 conv=>whnf
 repeat'((first|apply st|(apply sq;intro K U)|(apply si;intro A B Y Z)|(apply Y;clear Z B Y A)|(apply U;clear U K)|refine⟨rfl,?_⟩|(constructor<;>intro hc<;>(try rw[hc])<;>(replace hc:=bp hc))|fail)<;>conv=>whnf)
 all_goals try rw[hw3]at hc
 all_goals exact AI (by simp only[hw3,O2];simp[*]<;>omega)
def dQ (w:AK) (c:Int) (hw:Jy w) (hc0:0≤c) (hc1:c<3+w.parents.length):Pure Tryz.prog 90 [.a (BE w),eI c] (.l (iL (CN w c)) false):=by
 have hM:=Mx;have hol:=hw.gr;refine oz kZ ?_;have hs:=Sn
 conv=>whnf
 repeat'((first|apply st|(apply sq;intro K U)|(apply si;intro A B Y Z)|(apply Y;clear Z B Y A)|(apply U;clear U K)|fail)<;>conv=>whnf)
 refine CZ w.owner.length (fun k v=>[(5,v),(10,eI (BH k))]) (fun k v=>[.own v 1 (iL ((Bj k).filter (hasB w c)))]) (fun _ _=>True) (.l [] true) rfl trivial (Fl Sat.nil 1) ?_;clear hs;rintro k v σ hk - hs;have hfl:=Oy (hasB w c) (Bj k);rw[He]at hfl;rcases BM w.owner hk with⟨s,hso,hlt⟩|hke
 ·have hck:BH k=k:=AM (by omega)
  have c1:Pure Tryz.prog 122 [.a (BE w),eI c,eI (BH k)] (.b (hasB w c k)):=by rw[hck];exact Zm w c k hw hc0 hc1 (by omega) (by omega)
  have hst:(Bj (k+1)).filter (hasB w c)=if hasB w c k then(Bj k).filter (hasB w c)++[(k:Int)]else(Bj k).filter (hasB w c):=by
   rw[Gd,List.filter_append];cases hp:hasB w c k<;>simp[hp]
  generalize (Bj k).filter (hasB w c)=zs at *;have hll:zs.length<Ac∧(zs.length+1)*8≤140737488355328:=by omega
  cases hh:hasB w c k<;>rw[hh]at c1 hst
  ·conv=>whnf
   repeat'((first|apply st|(apply sq;intro K U)|(apply si;intro A B Y Z)|(apply Y;clear Z B Y A)|(apply U;clear U K)|refine⟨rfl,?_⟩|refine⟨kZ,?_⟩|(refine Cv (fun hc=>?_)<;>(try rw[hc])<;>clear hc)|refine c1.use ?_|clear U K)<;>conv=>whnf)
   exact⟨hlt,_,rfl,trivial,by rw[hst];exact hs⟩
  ·conv=>whnf
   repeat'((first|apply st|(apply sq;intro K U)|(apply si;intro A B Y Z)|(apply Y;clear Z B Y A)|(apply U;clear U K)|refine⟨rfl,?_⟩|refine⟨kZ,?_⟩|refine aq fun v σ hs hsl=>?_|(refine Cv (fun hc=>?_)<;>(try rw[hc])<;>clear hc)|refine c1.use ?_|clear U K)<;>conv=>whnf)
   exact⟨hlt,_,rfl,trivial,by rw[hst,←hck];exact hs⟩
 ·rw[hke]at hs
  conv=>whnf
  repeat'((first|apply st|(apply sq;intro K U)|(apply si;intro A B Y Z)|(apply Y;clear Z B Y A)|(apply U;clear U K)|refine⟨rfl,?_⟩|(refine EI (fun hc=>?_)<;>(try rw[hc])<;>clear hc)|clear U K)<;>conv=>whnf)
  exact Bu (hs.QU 0 rfl)
set_option maxHeartbeats 1000000 in
def ie (w : AK) (os:List Ob) (f:Bool) (hw:Jy w):Pure Tryz.prog 61 [.a (BE w),.l (os.map FY) f] (.b (EY w os)):=by
 refine Pure.fit (by kernel_rfl) fun hf=>?_
 have hM:=Mx
 have hol:os.length≤Ac:=by
  have:=hf.2.1;simp only[D7,BR]at this;exact this.1
 refine pM kZ ?_;have hs:=Sn;by_cases h40:os.length≤40
 ·have e0 : EY w os=os.all (J4 w os.length):=by rw[EY,decide_eq_true h40,Ev]
  rw[e0]
  conv=>whnf
  repeat'((first|apply st|(apply sq;intro K U)|(apply si;intro A B Y Z)|(apply Y;clear Z B Y A)|(apply U;clear U K)|refine⟨rfl,?_⟩|(constructor<;>intro hc<;>(try rw[hc])<;>(replace hc:=bp hc)<;>(try simp(disch:=omega) only[BR,wrap64,AM]at hc)<;>try(exfalso;omega))|fail)<;>conv=>whnf)
  refine CZ os.length (fun k (_:Unit)=>[(12,eI (BH k))]) (fun _ _=>[]) (fun k _=>os.all (J4 w os.length)=(os.drop k).all (J4 w os.length)) () rfl rfl hs ?_;clear hs;rintro k - σ hk hn hs;rcases BM os hk with⟨x,hx,hlt⟩|hke
  ·rw [drop_cons hx,Rs]at hn
   have c1:=nq w x.1 hw;cases ho:O2 w x.1<;>rw[ho]at c1
   ·conv=>whnf
    repeat'((first|apply st|(apply sq;intro K U)|(apply si;intro A B Y Z)|(apply Y;clear Z B Y A)|(apply U;clear U K)|apply dr|refine rk ?_ ?_|exact fun s e=>by cases e;rfl|refine⟨rfl,?_⟩|refine⟨kZ,?_⟩|refine ix ?_|refine ld ?_|refine DT fun σ hs=>?_|refine UC ?_|(refine Cv (fun hc=>?_)<;>(try rw[hc])<;>clear hc)|refine c1.use ?_|(intro nn hnn;generalize hg:A7 _ nn _=σ;refine CY hg fun hs=>?_;clear hg)|clear U K)<;>conv=>whnf)
    all_goals exact AI (by rw[hn,J4,ho];rfl)
   ·have ho':=ho
    simp only[O2,BV,CL]at ho';have c2:=dQ w x.1 hw (by omega) (by omega);have e3:((os.map FY).length:Int)=os.length:=by simp
    have c3:Pure Tryz.prog 63 [.l (pP x.2) false,eI ((os.map FY).length:Int)] (.b (x.2.all (Bt os.length))):=by rw[e3];exact ZQ x.2 false os.length
    have hob:J4 w os.length x=(x.2.length==(CN w x.1).length&&x.2.all (Bt os.length)):=by rw[J4,ho,Ev]
    rw[hob]at hn;by_cases he:x.2.length=(CN w x.1).length
    ·rw [Du.2 he,Ev]at hn
     cases hv:x.2.all (Bt os.length)<;>rw[hv]at c3 hn
     ·conv=>whnf
      repeat'((first|apply st|(apply sq;intro K U)|(apply si;intro A B Y Z)|(apply Y;clear Z B Y A)|(apply U;clear U K)|apply dr|refine rk ?_ ?_|exact fun s e=>by cases e;rfl|refine⟨rfl,?_⟩|refine⟨kZ,?_⟩|refine ix ?_|refine ld ?_|refine DT fun σ hs=>?_|refine FI ?_|refine JU ?_|(refine Cv (fun hc=>?_)<;>(try rw[hc])<;>clear hc)|refine c1.use ?_|refine c2.use ?_|refine c3.use ?_|(constructor<;>intro hc<;>(try rw[hc])<;>(replace hc:=bp hc)<;>(try simp(disch:=omega) only[BR,wrap64,AM]at hc))|(intro nn hnn;generalize hg:A7 _ nn _=σ;refine CY hg fun hs=>?_;clear hg)|clear U K)<;>conv=>whnf)
      all_goals first
       | exact AI (by rw[hn];rfl)
       | (exfalso;simp[he]at hc;done)
     ·conv=>whnf
      repeat'((first|apply st|(apply sq;intro K U)|(apply si;intro A B Y Z)|(apply Y;clear Z B Y A)|(apply U;clear U K)|apply dr|refine rk ?_ ?_|exact fun s e=>by cases e;rfl|refine⟨rfl,?_⟩|refine⟨kZ,?_⟩|refine ix ?_|refine ld ?_|refine DT fun σ hs=>?_|refine EM ?_|refine JU ?_|(refine Cv (fun hc=>?_)<;>(try rw[hc])<;>clear hc)|refine c1.use ?_|refine c2.use ?_|refine c3.use ?_|(constructor<;>intro hc<;>(try rw[hc])<;>(replace hc:=bp hc)<;>(try simp(disch:=omega) only[BR,wrap64,AM]at hc))|(intro nn hnn;generalize hg:A7 _ nn _=σ;refine CY hg fun hs=>?_;clear hg)|clear U K)<;>conv=>whnf)
      all_goals first
       | exact⟨hlt,(),rfl,hn,hs.less (Lr _)⟩
       | (exfalso;simp[he]at hc;done)
    ·rw[beq_eq_false_iff_ne.2 he,Bool.false_and,Bool.false_and]at hn
     cases hv:x.2.all (Bt os.length)<;>rw[hv]at c3
     all_goals
      conv=>whnf
      repeat'((first|apply st|(apply sq;intro K U)|(apply si;intro A B Y Z)|(apply Y;clear Z B Y A)|(apply U;clear U K)|apply dr|refine rk ?_ ?_|exact fun s e=>by cases e;rfl|refine⟨rfl,?_⟩|refine⟨kZ,?_⟩|refine ix ?_|refine ld ?_|refine DT fun σ hs=>?_|refine FI ?_|refine EM ?_|refine JU ?_|(refine Cv (fun hc=>?_)<;>(try rw[hc])<;>clear hc)|refine c1.use ?_|refine c2.use ?_|refine c3.use ?_|(constructor<;>intro hc<;>(try rw[hc])<;>(replace hc:=bp hc)<;>(try simp(disch:=omega) only[BR,wrap64,AM]at hc))|(intro nn hnn;generalize hg:A7 _ nn _=σ;refine CY hg fun hs=>?_;clear hg)|clear U K)<;>conv=>whnf)
     all_goals first
      | exact AI (by rw[hn])
      | (exfalso;have q:(bif !true then true else(x.2.length:Int) != ((CN w x.1).length:Int))=false:=(by assumption);simp at q;omega)
      | (exfalso;simp at hc;omega)
  ·conv=>whnf
   repeat'((first|apply st|(apply sq;intro K U)|(apply si;intro A B Y Z)|(apply Y;clear Z B Y A)|(apply U;clear U K)|refine⟨rfl,?_⟩|(refine EI (fun hc=>?_)<;>(try rw[hc])<;>clear hc)|clear U K)<;>conv=>whnf)
   exact AI (by rw[hn,Ap hke];rfl)
 ·conv=>whnf
  repeat'((first|apply st|(apply sq;intro K U)|(apply si;intro A B Y Z)|(apply Y;clear Z B Y A)|(apply U;clear U K)|refine⟨rfl,?_⟩|(constructor<;>intro hc<;>(try rw[hc])<;>(replace hc:=bp hc)<;>(try simp(disch:=omega) only[BR,wrap64,AM]at hc)<;>try(exfalso;omega))|clear U K)<;>conv=>whnf)
  exact AI (by rw[EY,decide_eq_false h40];rfl)
end Go.Gl
namespace Go.Gl
open Go.Proofs
section
variable {H:Type} {enc:TypeId×Value→H} {W:World}
def nh:Oz enc Tryz.prog W 79 pI:=fun n=>
 GY (E9 Tryz.underlying79
  (fun n=>BX (c:=1) rfl (by kernel_rfl) (fun _=>rfl) (NP Tryz.underlying77 n) (BX (c:=1) rfl (by kernel_rfl) (fun _=>rfl) (LC n) GZ)) (fun _=>(show _=2 from rfl).trans (by kernel_rfl)) n) (fun x=>(x.1,x.2.1)) fun _=>rfl
def ZU:Oz enc Tryz.prog W 42 fun l:List (Int×Int)=>[V.l (pP l) false]:=F8 (sz:=2) Tryz.underlying42 (by kernel_rfl) (by decide) (b8 (by kernel_rfl)) (fun _=>rfl) nh
def tf:Oz enc Tryz.prog W 81 FY:=fun n=>
 GY (E9 Tryz.underlying81
  (fun n=>BX (c:=1) rfl (by kernel_rfl) (fun _=>rfl) (LC n) (BX (c:=1) rfl (by kernel_rfl) (fun _=>rfl) (ZU n) GZ)) (fun _=>(show _=2 from rfl).trans (by kernel_rfl)) n) (fun x=>(x.1,x.2.1)) fun _=>rfl
def ni:Oz enc Tryz.prog W 41 fun l:List Ob=>[V.l (l.map FY) false]:=F8 (sz:=2) Tryz.underlying41 (by kernel_rfl) (by decide) (b8 (by kernel_rfl)) (fun _=>rfl) tf
end
end Go.Gl
namespace Go.Proofs.YtijbpgdmpejgoaaGreat
open Go.Gl Go.ChangeShapes Go.WideShapes Go.ChangeAt Go.RowKit
theorem own:ownKnob Tryz.prog.godebug=none:=by kernel_rfl
def laidOut:laidOutB Tryz.prog=true:=by kernel_rfl
def Ef {a b:Bool} (h1:a=true) (h2:b=true):(a&&b)=true:=by rw[h1,h2];rfl
abbrev HE (w:World):=Hh (fun _=>False) emp w
def nI {w:World} {n:Int} (h:(Lit.int .i64 n).wf=true):AY (HE w) (eI n) (.int .i64 n):=by
 simp only[Lit.wf,BV,CL]at h;simp only[AY];exact⟨trivial,h⟩
def fb {w:World} {cs:Array Value} {p:Prog} (hp:cs.toList.length=(BN p).length∧BZ (HE w) (fun i=>cs.toList[i]?) 0 (BN p)):AY (HE w) (.a (BN p)) (.agg cs):=by
 simp only[AY];exact⟨cs,rfl,by simpa using hp.1,by simpa using hp.2⟩
end Go.Proofs.YtijbpgdmpejgoaaGreat
namespace Go.Gl
open Go.Proofs
attribute [local irreducible] BD Aw Ai AU AO Ah AV AW AN Ag AS AT Ay A9 Sat Ab A4 Aj W
def TA (g:FuncId) (fi ca:List V) (q:Int→Bool) (xs:List Int) (hpf: ∀y∈xs,Pure Tryz.prog g (fi++[eI y]++ca) (.b (q y))) (f:Bool) (hxl:xs.length≤1000):Pure Tryz.prog 83 [.l (iL xs) f,.f (.func g) fi ca] (.l (iL (xs.filter q)) true):=by
 refine Pure.of ?_;have hM:=Mx;refine o6 kZ ?_;have hs:=Sn
 conv=>whnf
 repeat'((first|apply st|(apply sq;intro K U)|(apply si;intro A B Y Z)|(apply Y;clear Z B Y A)|(apply U;clear U K)|fail)<;>conv=>whnf)
 refine CZ xs.length (fun k v=>[(5,v),(10,eI (BH k))]) (fun k v=>[.own v 1 (iL ((xs.take k).filter q))]) (fun _ _=>True) (.l [] true) rfl trivial (Fl hs 1) ?_;clear hs;rintro k v σ hk - hs;have hfl:=Oy q (xs.take k);rw[K6]at hfl;rcases BM xs hk with⟨y,hy,hlt⟩|hke
 ·have hpy:=hpf y (Cg hy)
  have hst:(xs.take (k+1)).filter q=if q y then(xs.take k).filter q++[y]else(xs.take k).filter q:=by
   rw[AX hy,List.filter_append];cases hp:q y<;>simp[hp]
  generalize (xs.take k).filter q=zs at *;have hll:zs.length<Ac∧(zs.length+1)*8≤140737488355328:=by omega
  conv=>whnf
  repeat'((first|apply st|(apply sq;intro K U)|(apply si;intro A B Y Z)|(apply Y;clear Z B Y A)|(apply U;clear U K)|refine⟨rfl,?_⟩|refine ix ?_|refine aq fun v σ hs hsl=>?_|(refine Cv (fun hc=>?_)<;>(try rw[hc])<;>clear hc)|refine Bk (hpy.use ?_)|(constructor<;>intro hc<;>(try rw[hc])<;>(replace hc:=bp hc))|clear U K)<;>conv=>whnf)
  ·rw[if_pos (by assumption)]at hst
   exact⟨hlt,_,rfl,trivial,by rw[hst];exact hs⟩
  ·rw[if_neg (by simp[*])]at hst
   exact⟨hlt,_,rfl,trivial,by rw[hst];exact hs⟩
 ·rw[BC hke]at hs
  conv=>whnf
  repeat'((first|apply st|(apply sq;intro K U)|(apply si;intro A B Y Z)|(apply Y;clear Z B Y A)|(apply U;clear U K)|refine⟨rfl,?_⟩|(refine EI (fun hc=>?_)<;>(try rw[hc])<;>clear hc)|clear U K)<;>conv=>whnf)
  refine(NV (xs.filter q) v (by have:=Oy q xs;omega)).use (rest:=[]) (by simpa using hs) ?_;clear hs;rintro r post σ ⟨rfl,rfl⟩ hs
  conv=>whnf
  repeat'((first|apply st|(apply Y;clear Z B Y A)|(apply U;clear U K)|fail)<;>conv=>whnf)
  exact AQ (by rfl)
def n6 (x y:Int):Pure Tryz.prog 132 [eI y,.rp [eI x]] (.b (y != x)):=by
 refine mG kZ ?_;have hs:=Sn
 conv=>whnf
 repeat'((first|apply st|(apply sq;intro K U)|(apply si;intro A B Y Z)|(apply Y;clear Z B Y A)|(apply U;clear U K)|refine⟨rfl,?_⟩|fail)<;>conv=>whnf)
 all_goals exact AI (by rfl)
def LU (xs:List Int) (f:Bool) (x:Int) (hxl:xs.length≤1000):Pure Tryz.prog 98 [.l (iL xs) f,eI x] (.l (iL (xs.filter (· != x))) true):=by
 have c1:=TA 132 [] [.rp [eI x]] (· != x) xs (fun y _=>n6 x y) f hxl;refine oq kZ ?_;have hs:=Sn
 conv=>whnf
 repeat'((first|apply st|(apply sq;intro K U)|(apply si;intro A B Y Z)|(apply Y;clear Z B Y A)|(apply U;clear U K)|refine c1.use ?_|fail)<;>conv=>whnf)
 all_goals exact AI (by rfl)
end Go.Gl
namespace Go.Gl
open Go.Proofs
attribute [local irreducible] BD Aw Ai AU AO Ah AV AW AN Ag AS AT Ay A9 Sat Ab A4 Aj W
def du (l:List Int) (f kd:Bool):Pure Tryz.prog 66 [.pn,.l (iL l) f,.b kd] (.b false):=by
 have c1:=Zj l f;refine ZK kZ ?_;have hs:=Sn
 conv=>whnf
 repeat'((first|apply st|(apply sq;intro K U)|(apply si;intro A B Y Z)|(apply Y;clear Z B Y A)|(apply U;clear U K)|refine FI ?_|refine Pure.use (by assumption) ?_|clear U K)<;>conv=>whnf)
 all_goals exact AI rfl
def aj {M:List Int} {x:Int} (h:M.contains x=false):Mz M x=M++[x]:=by
 rw[Mz,if_neg (by rw[h];decide)]
set_option maxHeartbeats 2000000 in
def jL (p : Prog) (L:Nat) (l:List Int) (f kd:Bool) (hl:l.length≤1000):Pure Tryz.prog 66 [Ff p L,.l (iL l) f,.b kd] (.b (G1 p l kd)):=by
 refine Pure.fit (by kernel_rfl) fun hf=>?_
 have hM:=Mx;have c1:=gA p L l f;cases hm:l.all (A5 p)<;>rw[hm]at c1
 ·have hb:G1 p l kd=false:=by
   rw[←Bool.not_eq_true];intro h;rw[G1,BV,EL]at h;rw[←Bool.not_eq_true,EL]at hm;refine hm fun x hx=>?_
   have:=h.1 x hx;simp only[fW,BV]at this;exact this.1
  refine ZK kZ ?_;have hs:=Sn
  conv=>whnf
  repeat'((first|apply st|(apply sq;intro K U)|(apply si;intro A B Y Z)|(apply Y;clear Z B Y A)|(apply U;clear U K)|refine FI ?_|refine c1.use ?_|clear U K)<;>conv=>whnf)
  all_goals exact AI (by rw[hb])
 rw[EL]at hm;refine ZK kZ ?_;have hs:=Sn
 conv=>whnf
 repeat'((first|apply st|(apply sq;intro K U)|(apply si;intro A B Y Z)|(apply Y;clear Z B Y A)|(apply U;clear U K)|refine EM ?_|refine c1.use ?_|(intro nn hnn;generalize hg:A7 _ nn _=σ;refine CY hg fun hs=>?_;clear hg)|fail)<;>conv=>whnf)
 clear c1;replace hs:Sat σ [.map nn (QT [])]:=hs;refine CZ l.length (fun i (_:Unit)=>[(17,eI (BH i))]) (fun i _=>[.map nn (QT (l.take i))]) (fun i _=>(∀k y,k<i→l[k]? =some y→fW p l kd y=true)∧(l.take i).Nodup) () rfl ⟨fun k y h=>by omega,by simp⟩ hs ?_;clear hs;rintro i - σ hi ⟨ho,hn⟩ hs;rcases BM l hi with⟨x,hx,hlt⟩|hie
 ·have hci : BH i=i:=AM (by omega)
  obtain⟨z,hz⟩: ∃z,l[0]? =some z:=⟨_,DZ (by omega)⟩
  have hz0:=FF hz;have hmx:=hm x (Cg hx);have hmz:=hm z (Cg hz);have hbad:=fun h=>Xy (p:=p) (kd:=kd) hx h
  rw[fW,hz0]at hbad;have hxP:=B7 hmx;have hzP:=B7 hmz;have c2:=Ms p L x z hmx hmz;have hxr:=hmx;have hzr:=hmz;simp only[A5,BV,CL]at hxr hzr;cases hcon:(l.take i).contains x
  ·have hne : ∀k y,k<i→l[k]? =some y→y≠x:=fun k y h h2 e=>by
    rw[←Bool.not_eq_true,List.contains_iff_mem]at hcon;exact hcon (Cg (i:=k) (by rw[List.getElem?_take,if_pos h,h2,e]))
   have hnd:=U0 hx hn hne;have hput:=aj hcon;rw[←AX hx]at hput;by_cases hg:(BL p x).gen=(BL p z).gen
   ·have hoxF:(!kd||Cq p x z)=true→fW p l kd x=true:=fun h=>by rw[fW,hz0,hmx,hg,h];simp
    cases hal:Cq p x z<;>rw[hal]at c2 hoxF<;>cases kd
    all_goals
     conv=>whnf
     repeat'((first|apply st|(apply sq;intro K U)|(apply si;intro A B Y Z)|(apply Y;clear Z B Y A)|(apply U;clear U K)|apply dr|refine⟨rfl,?_⟩|refine ix ?_|refine ID ?_|refine FI ?_|refine EM ?_|(refine Cv (fun hc=>?_)<;>(try rw[hc])<;>clear hc)|refine c2.use ?_|(refine Io hs 0 rfl rfl (HA _) ?_;rw[Kf,hcon])|(refine Ha hs 0 rfl rfl (HA _) fun σ hs=>?_)|(constructor<;>intro hc<;>(try rw[hc])<;>(replace hc:=bp hc)<;>try(exfalso;omega))|clear U K)<;>conv=>whnf)
    all_goals first
     | exact AI (by rw[hbad (by simp[hal,hg])])
     | (exfalso;simp[hg]at hc;done)
     | (have hox:=hoxF rfl
        refine⟨hlt,(),rfl,⟨fun k' y' h h2=>?_,hnd⟩,?_⟩
        ·rcases Nat.lt_or_ge k' i with h'|h'
         ·exact ho k' y' h' h2
         ·rw[show k'=i by omega,hx]at h2
          rw[←Option.some.inj h2];exact hox
        ·replace hs:Sat σ [.map nn (ED (eI x) (.b true) (QT (l.take i)))]:=hs
         rw[WO,hput]at hs
         exact hs)
   ·conv=>whnf
    repeat'((first|apply st|(apply sq;intro K U)|(apply si;intro A B Y Z)|(apply Y;clear Z B Y A)|(apply U;clear U K)|apply dr|refine⟨rfl,?_⟩|refine ix ?_|refine ID ?_|(refine Cv (fun hc=>?_)<;>(try rw[hc])<;>clear hc)|(refine Io hs 0 rfl rfl (HA _) ?_;rw[Kf,hcon])|(constructor<;>intro hc<;>(try rw[hc])<;>(replace hc:=bp hc)<;>try(exfalso;omega))|clear U K)<;>conv=>whnf)
    all_goals first
     | exact AI (by rw[hbad (by simp[hg])])
     | (exfalso;have q:(BL p x).gen=(BL p z).gen:=(by assumption);exact hg q)
     | (exfalso;simp[hg]at hc;done)
  ·obtain⟨k,hk⟩:=List.getElem?_of_mem (List.contains_iff_mem.1 hcon)
   rw[List.getElem?_take]at hk;split at hk
   ·conv=>whnf
    repeat'((first|apply st|(apply sq;intro K U)|(apply si;intro A B Y Z)|(apply Y;clear Z B Y A)|(apply U;clear U K)|apply dr|refine⟨rfl,?_⟩|refine ix ?_|(refine Cv (fun hc=>?_)<;>(try rw[hc])<;>clear hc)|(refine Io hs 0 rfl rfl (HA _) ?_;rw[Kf,hcon])|clear U K)<;>conv=>whnf)
    all_goals exact AI (by rw[Xx hx hk (by assumption)])
   ·cases hk
 ·conv=>whnf
  repeat'((first|apply st|(apply sq;intro K U)|(apply si;intro A B Y Z)|(apply Y;clear Z B Y A)|(apply U;clear U K)|refine⟨rfl,?_⟩|(refine EI (fun hc=>?_)<;>(try rw[hc])<;>clear hc)|clear U K)<;>conv=>whnf)
  have hall:G1 p l kd=true:=by
   rw[G1,BV,EL];refine⟨fun y hy=>?_,decide_eq_true (by rw[hie,List.take_length]at hn;exact hn)⟩;obtain⟨k,hk⟩:=List.getElem?_of_mem hy;exact ho k y (by rw[hie];exact(H4.1 hk).1) hk
  exact AI (by rw[hall])
def LH (M:List (Int×Int)) (x:Int×Int):List (Int×Int):=if M.contains x then M else M++[x]
def M7 (p:Prog) (M:List (Int×Int)) (m n:Int):List (Int×Int):=if EC p m n then LH (LH M (m,n)) (n,m)else LH M (m,n)
def Hk (p:Prog) (L:Nat) (m n:Int) (hk:DE p) (hgw:CH (AR p)) (hfm: ∀x∈p.methods,CW (AR p) x.fact=true) (hm:A5 p m=true) (hn:A5 p n=true) (M:List (Int×Int)) :
    Bc Tryz.prog 54 [Ff p L,eI m,eI n] [.map L (E2 p M)] fun r post=>r= .ret (.b (EC p m n))∧post= [.map L (E2 p (LH M (m,n)))]:=by
 intro σ hs;have hxm:=B7 hm;have hxn:=B7 hn;have hmm:=Cg hxm;have hmn:=Cg hxn;have hip:=QM (AR p) hgw (BL p m).fact (BL p n).fact (hfm _ hmm) (hfm _ hmn) (hk.facts _ hmm).1 (hk.facts _ hmn).1 (by have:=(hk.facts _ hmm).2;have:=(hk.facts _ hmn).2;omega);simp only[A5,BV,CL]at hm hn;have hfd:=Nk p (m,n) M;refine gL kZ ?_;cases hc:M.contains (m,n)
 ·rw[hc,if_neg (by decide)]at hfd
  conv=>whnf
  repeat'((first|apply st|(apply sq;intro K U)|(apply si;intro A B Y Z)|(apply Y;clear Z B Y A)|(apply U;clear U K)|apply dr|refine⟨kZ,?_⟩|refine ID ?_|refine ld ?_|refine DT fun σ hs=>?_|refine FI ?_|refine LO hs 1 rfl rfl (G9 _ _) hfd ?_|refine Ha hs 1 rfl rfl (G9 _ _) fun σ hs=>?_|refine hip.use ?_|(intro nn hnn;generalize hg:A7 _ nn _=σ;refine CY hg fun hs=>?_;clear hg)|fail)<;>conv=>whnf)
  replace hs:Sat σ [.box nn [eI m,eI n],.map L (ED (kM (m,n)) (.b (EC p m n)) (E2 p M))]:=hs;rw[RA p (m,n) M hc]at hs;exact AQ ⟨_,⟨rfl,rfl⟩,by rw[LH,hc];exact hs.less (JR _ _)⟩
 ·rw[hc,if_pos rfl]at hfd
  conv=>whnf
  repeat'((first|apply st|(apply sq;intro K U)|(apply si;intro A B Y Z)|(apply Y;clear Z B Y A)|(apply U;clear U K)|apply dr|refine⟨kZ,?_⟩|refine ld ?_|refine DT fun σ hs=>?_|refine EM ?_|refine LO hs 1 rfl rfl (G9 _ _) hfd ?_|(intro nn hnn;generalize hg:A7 _ nn _=σ;refine CY hg fun hs=>?_;clear hg)|fail)<;>conv=>whnf)
  exact AQ ⟨_,⟨rfl,rfl⟩,by rw[LH,hc];exact hs.less (JR _ _)⟩
def N3 (p:Prog) (L:Nat) (m n:Int) (hk:DE p) (hgw:CH (AR p)) (hfm: ∀x∈p.methods,CW (AR p) x.fact=true) (hm:A5 p m=true) (hn:A5 p n=true) (M:List (Int×Int)) :
    Bc Tryz.prog 45 [Ff p L,eI m,eI n] [.map L (E2 p M)] fun r post=>r= .ret (.b (Al p m n))∧post= [.map L (E2 p (M7 p M m n))]:=by
 intro σ hs;have h1:=fun M=>Hk p L m n hk hgw hfm hm hn M
 have h2:=fun M=>Hk p L n m hk hgw hfm hn hm M
 unfold Al M7;cases hb1:EC p m n<;>cases hb2:EC p n m<;>rw[hb1]at h1<;>rw[hb2]at h2
 all_goals
  refine gN kZ ?_
  conv=>whnf
  repeat'((first|(apply sq;intro K U)|(apply si;intro A B Y Z)|(apply Y;clear Z B Y A)|(apply U;clear U K)|fail)<;>conv=>whnf)
  refine(h1 M).use (rest:=[]) (by simpa using hs) ?_;clear hs;rintro r post σ ⟨rfl,rfl⟩ hs
  conv=>whnf
  repeat'((first|apply st|(apply Y;clear Z B Y A)|(apply U;clear U K)|fail)<;>conv=>whnf)
 ·exact AQ ⟨_,⟨rfl,rfl⟩,hs⟩
 ·exact AQ ⟨_,⟨rfl,rfl⟩,hs⟩
 all_goals
  refine(h2 _).use (rest:=[]) (by simpa using hs) ?_;clear hs;rintro r post σ ⟨rfl,rfl⟩ hs
  conv=>whnf
  repeat'((first|apply st|(apply Y;clear Z B Y A)|(apply U;clear U K)|fail)<;>conv=>whnf)
  exact AQ ⟨_,⟨rfl,rfl⟩,hs⟩
def Fs: ∀ {l:List Int} {i:Nat} {x:Int},l.Nodup→l[i]? =some x→l.filter (· != x)=l.eraseIdx i
 | y::r,0,x,hn,hx=>by
   obtain rfl:y=x:=by simpa using hx
   rw[List.nodup_cons]at hn;rw[List.filter_cons,if_neg (by simp),List.eraseIdx_cons_zero];exact List.filter_eq_self.2 fun z hz=>by rw[nC];rintro rfl;exact hn.1 hz
 | y::r,i+1,x,hn,hx=>by
   rw[List.nodup_cons]at hn;rw[mz]at hx;have hyx:y≠x:=fun e=>hn.1 (e ▸ Cg hx)
   rw[List.filter_cons,if_pos (by simpa using hyx),List.eraseIdx_cons_succ,Fs hn.2 hx]
def YM {A:Int→Int→Bool} {l:List Int} {i:Nat} (hi:i<l.length) (h:I4 A l i l.length=true) (hn: ∀j,j<i→I4 A l j l.length=false):IW A l=some i:=by
 rw[IW,List.find?_range_eq_some];exact⟨h,List.mem_range.2 hi,fun j hj=>by rw[hn j hj];rfl⟩
def YL {A:Int→Int→Bool} {l:List Int} (hn: ∀j,j<l.length→I4 A l j l.length=false):IW A l=none:=by
 rw[IW,List.find?_range_eq_none];exact fun j hj=>by rw[hn j hj];rfl
def dK {A:Int→Int→Bool} {l:List Int} {i k n:Nat} (hk:k<n) (h:(k==i||A (l.getD i 0) (l.getD k 0))=false):I4 A l i n=false:=by
 rw[I4,←Bool.not_eq_true,EL];intro h2;rw[h2 k (List.mem_range.2 hk)]at h;cases h
def bA {l:List Int} (hn:l.Nodup) {i k:Nat} {x y:Int} (hx:l[i]? =some x) (hy:l[k]? =some y) (h:k≠i):x≠y:=by
 rintro rfl;have hi:=(H4.1 hx)
 have hj:=(H4.1 hy)
 have:=(List.nodup_iff_pairwise_ne.1 hn)
 rw[List.pairwise_iff_getElem]at this;rcases Nat.lt_or_gt_of_ne h with h'|h'
 ·exact this k i hj.1 hi.1 h' (by rw[hj.2,hi.2])
 ·exact this i k hi.1 hj.1 h' (by rw[hj.2,hi.2])
set_option maxHeartbeats 4000000 in
def RJ (p : Prog) (L:Nat) (l:List Int) (f:Bool) (hok:DE p) (hgw:CH (AR p)) (hfm: ∀x∈p.methods,CW (AR p) x.fact=true) (hl:NR p l) (hnd:l.Nodup) (M:List (Int×Int)) :
    Bc Tryz.prog 67 [Ff p L,.l (iL l) f] [.map L (E2 p M)] fun r post=>r= .ret (.t [.l (iL (CI (Al p) l.length l).1) true,.b (CI (Al p) l.length l).2])∧ ∃M',post= [.map L (E2 p M')]:=by
 intro σ hs;have hM:=Mx;refine pF kZ ?_
 conv=>whnf
 repeat'((first|apply st|(apply sq;intro K U)|(apply si;intro A B Y Z)|(apply Y;clear Z B Y A)|(apply U;clear U K)|fail)<;>conv=>whnf)
 refine Gh (fun(x:List Int×Bool×V×List Int×List (Int×Int))=>x.1.length) (fun x=>[(1,.l (iL x.1) x.2.1),(6,x.2.2.1)]) (fun x=>[.own x.2.2.1 1 (iL x.2.2.2.1),.map L (E2 p x.2.2.2.2)])
  (fun x=>(∀y∈x.1,A5 p y=true)∧x.1.Nodup∧x.2.2.2.1.length+x.1.length≤16∧CI (Al p) l.length l=(x.2.2.2.1++(CI (Al p) x.1.length x.1).1,(CI (Al p) x.1.length x.1).2)) (l,f,.l [] true,[],M) rfl ⟨hl.Ly,hnd,by simpa using hl.many,by simp⟩ (DN hs 1) ?_
 clear hs;rintro⟨l',f',v,out,M⟩ σ ⟨hme,hn,hlen,hm⟩ hs;dsimp only at hme hn hlen hm hs;dsimp only;have hll:out.length<Ac∧(out.length+1)*8≤140737488355328:=by omega
 by_cases hz:l'.length=0
 ·rw[hz]at hm
  simp only[CI,H3]at hm
  conv=>whnf
  repeat'((first|apply st|(apply sq;intro K U)|(apply si;intro A B Y Z)|(apply Y;clear Z B Y A)|(apply U;clear U K)|refine⟨rfl,?_⟩|(constructor<;>intro hc<;>(try rw[hc])<;>(replace hc:=bp hc)<;>(try simp(disch:=omega) only[BR,wrap64,AM]at hc)<;>try(exfalso;omega))|clear U K)<;>conv=>whnf)
  refine(NV out v (by omega)).use (rest:=[_]) hs ?_;clear hs;rintro r post σ ⟨rfl,rfl⟩ hs
  conv=>whnf
  repeat'((first|apply st|(apply Y;clear Z B Y A)|(apply U;clear U K)|fail)<;>conv=>whnf)
  exact AQ ⟨_,⟨by rw[hm],M,rfl⟩,hs⟩
 ·obtain ⟨n,hnn⟩: ∃n,l'.length=n+1:=⟨l'.length - 1,by omega⟩
  have hne:l'.isEmpty=false:=by cases l' with
   | nil=>simp at hz
   | cons=>rfl
  rw[hnn,CI]at hm
  conv=>whnf
  repeat'((first|apply st|(apply sq;intro K U)|(apply si;intro A B Y Z)|(apply Y;clear Z B Y A)|(apply U;clear U K)|refine⟨rfl,?_⟩|(constructor<;>intro hc<;>(try rw[hc])<;>(replace hc:=bp hc)<;>(try simp(disch:=omega) only[BR,wrap64,AM]at hc)<;>try(exfalso;omega))|fail)<;>conv=>whnf)
  refine CZ l'.length (fun i (_:List (Int×Int))=>[(16,eI (BH i))]) (fun _ M=>[.own v 1 (iL out),.map L (E2 p M)]) (fun i _=> ∀j,j<i→I4 (Al p) l' j l'.length=false) M rfl (fun j h=>by omega) hs ?_;clear hs;rintro i M σ hi hno hs;rcases BM l' hi with⟨x,hx,hlt⟩|hie
  ·have hmx:=hme x (Cg hx)
   conv=>whnf
   repeat'((first|apply st|(apply sq;intro K U)|(apply si;intro A B Y Z)|(apply Y;clear Z B Y A)|(apply U;clear U K)|refine⟨rfl,?_⟩|refine ix ?_|(refine Cv (fun hc=>?_)<;>(try rw[hc])<;>clear hc)|fail)<;>conv=>whnf)
   refine CZ l'.length (fun k (_:List (Int×Int))=>[(22,eI (BH k))]) (fun _ M=>[.own v 1 (iL out),.map L (E2 p M)]) (fun k _=>I4 (Al p) l' i k=true) M rfl rfl hs ?_;clear hs;rintro k M σ hk htop hs;rcases BM l' hk with⟨y,hy,hklt⟩|hke
   ·have hmy:=hme y (Cg hy)
    have hsu:=XO (Al p) l' i k;rw[FF hx,FF hy,htop,Ev]at hsu;by_cases hki:k=i
    ·obtain rfl:x=y:=by
      rw[hki,hx]at hy;exact Option.some.inj hy
     conv=>whnf
     repeat'((first|apply st|(apply sq;intro K U)|(apply si;intro A B Y Z)|(apply Y;clear Z B Y A)|(apply U;clear U K)|refine⟨rfl,?_⟩|refine ix ?_|(refine Cv (fun hc=>?_)<;>(try rw[hc])<;>clear hc)|(constructor<;>intro hc<;>(try rw[hc])<;>(replace hc:=bp hc)<;>(try simp(disch:=omega) only[BR,wrap64,AM]at hc)<;>try(exfalso;omega))|clear U K)<;>conv=>whnf)
     exact⟨hklt,M,rfl,by rw[hsu,hki];simp,hs⟩
    ·have hxy:=bA hn hx hy hki
     have c5:=N3 p L x y hok hgw hfm hmx hmy M;cases hah:Al p x y<;>rw[hah]at c5
     all_goals
      conv=>whnf
      repeat'((first|apply st|(apply sq;intro K U)|(apply si;intro A B Y Z)|(apply Y;clear Z B Y A)|(apply U;clear U K)|refine⟨rfl,?_⟩|refine ix ?_|(refine Cv (fun hc=>?_)<;>(try rw[hc])<;>clear hc)|(constructor<;>intro hc<;>(try rw[hc])<;>(replace hc:=bp hc)<;>try(exfalso;omega))|fail)<;>conv=>whnf)
      refine c5.use (rest:=[_]) (hs.perm (.swap _ _ _)) ?_;clear hs;rintro r post σ ⟨rfl,rfl⟩ hs
      conv=>whnf
      repeat'((first|apply st|(apply si;intro A B Y Z)|(apply Y;clear Z B Y A)|(apply U;clear U K)|refine⟨rfl,?_⟩|refine FI ?_|refine EM ?_|clear U K)<;>conv=>whnf)
     ·refine⟨hlt,_,rfl,fun j hj=>?_,hs.perm (.swap _ _ _)⟩
      rcases Nat.lt_or_ge j i with h'|h'
      ·exact hno j h'
      ·rw[show j=i by omega]
       exact dK hklt (by rw[FF hx,FF hy,hah];simpa using hki)
     ·exact⟨hklt,_,rfl,by rw[hsu,hah];simp,hs.perm (.swap _ _ _)⟩
   ·have c1:=LU l' f' x (by omega)
    rw[Fs hn hx]at c1;have hel:=List.length_eraseIdx_of_lt hlt;rw[YM hlt (hke ▸ htop) hno]at hm;dsimp only at hm;rw[FF hx]at hm
    conv=>whnf
    repeat'((first|apply st|(apply sq;intro K U)|(apply si;intro A B Y Z)|(apply Y;clear Z B Y A)|(apply U;clear U K)|refine⟨rfl,?_⟩|refine aq fun v σ hs hsl=>?_|(refine EI (fun hc=>?_)<;>(try rw[hc])<;>clear hc)|refine c1.use ?_|clear U K)<;>conv=>whnf)
    refine⟨(l'.eraseIdx i,true,v,out++[x],M),by dsimp only;omega,rfl,⟨fun y hy=>hme y (List.mem_of_mem_eraseIdx hy),hn.sublist (List.eraseIdx_sublist _ _),by simp;omega,?_⟩,hs⟩;dsimp only;rw[hm,hel,show l'.length - 1=n by omega];simp
  ·rw[YL fun j hj=>hno j (by omega)]at hm
   dsimp only at hm;rw[hne,H3]at hm
   conv=>whnf
   repeat'((first|apply st|(apply sq;intro K U)|(apply si;intro A B Y Z)|(apply Y;clear Z B Y A)|(apply U;clear U K)|refine⟨rfl,?_⟩|(refine EI (fun hc=>?_)<;>(try rw[hc])<;>clear hc)|clear U K)<;>conv=>whnf)
   refine(NV out v (by omega)).use (rest:=[_]) hs ?_;clear hs;rintro r post σ ⟨rfl,rfl⟩ hs
   conv=>whnf
   repeat'((first|apply st|(apply Y;clear Z B Y A)|(apply U;clear U K)|clear U K)<;>conv=>whnf)
   exact AQ ⟨_,⟨by rw[hm];rfl,M,rfl⟩,hs⟩
def fC (p:Prog) (l:List Int) (f:Bool) (hl:l.length≤1000):Pure Tryz.prog 31 [.a (BN p),.l (iL l) f] (.t [.l (iL (Hb p l).1.1) true,.b (Hb p l).1.2,eI (Hb p l).2]):=by
 refine Pure.of ?_;have hr:=IZ p;refine pV kZ ?_;have hs:=Sn
 conv=>whnf
 repeat'((first|apply st|(apply sq;intro K U)|(apply si;intro A B Y Z)|(apply Y;clear Z B Y A)|(apply U;clear U K)|refine⟨kZ,?_⟩|fail)<;>conv=>whnf)
 refine hr.use (rest:=[]) (by simpa using hs) ?_;clear hs;cases h:(BA p).isSome
 ·have c1:=du l f true
  rintro r post σ ⟨rfl,rfl⟩ hs
  conv=>whnf
  repeat'((first|apply st|(apply sq;intro K U)|(apply si;intro A B Y Z)|(apply Y;clear Z B Y A)|(apply U;clear U K)|refine FI ?_|refine c1.use ?_|clear U K)<;>conv=>whnf)
  exact AQ (by simp[Hb,h])
 ·rintro r post σ ⟨L,rfl,rfl⟩ hs
  have c1:=jL p L l f true hl;have hok:=look_ok h;cases h2:G1 p l true<;>rw[h2]at c1
  ·conv=>whnf
   repeat'((first|apply st|(apply sq;intro K U)|(apply si;intro A B Y Z)|(apply Y;clear Z B Y A)|(apply U;clear U K)|refine FI ?_|refine c1.use ?_|clear U K)<;>conv=>whnf)
   exact AQ (by simp[Hb,h,h2])
  ·have ho:=bK hok h2
   conv=>whnf
   repeat'((first|apply st|(apply sq;intro K U)|(apply si;intro A B Y Z)|(apply Y;clear Z B Y A)|(apply U;clear U K)|refine EM ?_|refine c1.use ?_|fail)<;>conv=>whnf)
   refine(RJ p L l f hok (NG h) (KM h) ho.1 ho.2 []).use (rest:=[]) hs ?_;clear hs;rintro r post σ ⟨rfl,M',rfl⟩ hs
   conv=>whnf
   repeat'((first|apply st|(apply sq;intro K U)|(apply si;intro A B Y Z)|(apply Y;clear Z B Y A)|(apply U;clear U K)|fail)<;>conv=>whnf)
   exact AQ (by simp[Hb,h,h2])
end Go.Gl
namespace Go.Gl
open Go.Proofs
inductive J2 where
 | int (n:Int)
 | QS
 | obj (AF:Nat→Bool) (kid:Int→J2)
def H8 (w:AK):J2→Prop
 | .int n=> -1000000000≤n∧n≤1000000000
 | .QS=>True
 | .obj AF kid=>(∀c,3≤c→AF c=true→ ∀q∈par w.parents c,AF q.toNat=true)∧ ∀s,H8 w (kid s)
def GP (t:J2) (f:Fact):Bool:=match t with
 | .int n=>if f.op=2 then !decide (f.cls > 1)else if f.op=3 then decide (n<f.n)else decide (n=f.n)
 | .QS=>f.op==2&&(f.cls==0||f.cls==2)
 | .obj AF _=>f.op==2&&(f.cls==0||(decide (3≤f.cls)&&AF f.cls.toNat))
def MT (w:AK):J2→List Int→Fact→Bool
 | t,[],f=>GP t f
 | .obj AF kid,s::r,f=>AF (CA w s).toNat&&MT w (kid s) r f
 | _,_::_,_=>false
structure H9 (w:AK) (l:Fact):Prop where
 op:(A8 l).1.op=2∨(A8 l).1.op=3∨(A8 l).1.op=4
 cls:(A8 l).1.op=2→0≤(A8 l).1.cls∧(A8 l).1.cls<3+w.parents.length
 arg:0≤(A8 l).1.arg∧(A8 l).1.arg<3
 path: ∀s∈(A8 l).1.path,(0:Int)≤s∧s<w.owner.length
 short:(A8 l).1.path.length≤2
def WJ {w:AK} {l:Fact} (h:IA w l):H9 w l:=by
 obtain⟨-,hn,hl⟩:=G8 h;have hlo:=Fo hl;have q:=Ke (w:=w) (l:=[l]) (fun x hx=>by rw[K8.1 hx];exact h);rw[CK,BV]at hn;have hn:=hn.1;simp only[C1,BV,CL]at hn;obtain⟨ho,-,ha1,ha2,hp,-⟩:=hn;simp only[EX,BV,EL,Gx,CL]at hp;exact⟨hlo,q.2.1 l (.head _),⟨ha1,ha2⟩,fun s hs=>hp.1 s hs,hp.2⟩
def gh (t:Int×Int×List Int) (m:Int):Prop:=t.1≤m∧m≤t.2.1∧m∉t.2.2
def XT {w:AK} {l:Fact} (hl:H9 w l) (t:Int×Int×List Int) (m:Int):(∃t',SE (A8 l) t=some t'∧gh t' m)↔gh t m∧GP (.int m) (A8 l).1= !(A8 l).2:=by
 have h1:=hl.op;generalize A8 l=x at *;obtain⟨f,b⟩:=x;obtain⟨lo,hi,no⟩:=t;simp only[SE,gh,GP]at *;rcases h1 with h|h|h
 ·rw[if_pos h,if_pos h]
  by_cases hc:f.cls > 1<;>cases b<;>simp[hc]
 ·have h2: ¬f.op=2:=by omega
  rw[if_neg h2,if_pos h,if_neg h2,if_pos h];cases b
  ·simp only[Lu,if_false,Hp,exists_eq_left',Bool.not_false,CL]
   split<;>constructor<;>rintro⟨h3,h4⟩
   ·exact⟨⟨h3,by omega,h4.2⟩,by omega⟩
   ·exact⟨h3.1,by omega,h3.2.2⟩
   ·exact⟨⟨h3,h4⟩,by omega⟩
   ·exact h3
  ·simp only[if_true,Hp,exists_eq_left',Bool.not_true,decide_eq_false_iff_not]
   split<;>constructor<;>rintro⟨h3,h4⟩
   ·exact⟨⟨by omega,h4⟩,by omega⟩
   ·exact⟨by omega,h3.2⟩
   ·exact⟨⟨h3,h4⟩,by omega⟩
   ·exact h3
 ·have h2: ¬f.op=2:=by omega
  have h3: ¬f.op=3:=by omega
  rw[if_neg h2,if_neg h3,if_neg h2,if_neg h3];cases b
  ·simp only[Lu,if_false,Hp,exists_eq_left',Bool.not_false,CL]
   constructor
   ·rintro⟨h3,h4,h5⟩
    split at h3<;>split at h4<;>exact⟨⟨by omega,by omega,h5⟩,by omega⟩
   ·rintro⟨⟨h3,h4,h5⟩,rfl⟩
    refine⟨?_,?_,h5⟩
    ·split<;>omega
    ·split<;>omega
  ·simp only[if_true,Hp,exists_eq_left',Bool.not_true,decide_eq_false_iff_not,FX,K8,not_or]
   constructor
   ·rintro⟨h3,h4,h5,h6⟩
    exact⟨⟨h3,h4,h5⟩,h6⟩
   ·rintro⟨⟨h3,h4,h5⟩,h6⟩
    exact⟨h3,h4,h5,h6⟩
def Iz {w:AK} (m:Int): ∀(os:List Fact) (t:Int×Int×List Int),(∀l∈os,H9 w l)→((∃t',foldI os t=some t'∧gh t' m)↔gh t m∧ ∀l∈os,GP (.int m) (A8 l).1= !(A8 l).2)
 | [],t,_=>by simp[foldI]
 | x ::r,t,h=>by
   have h1:=XT (h x (.head _)) t m;constructor
   ·rintro⟨t',h2,h3⟩
    rw[foldI,Option.bind_eq_some_iff]at h2;obtain⟨u,h4,h5⟩:=h2;obtain⟨h6,h7⟩:=(Iz m r u fun l hl=>h l (.tail _ hl)).1 ⟨t',h5,h3⟩;obtain⟨h8,h9⟩:=h1.1 ⟨u,h4,h6⟩;refine⟨h8,fun l hl=>?_⟩;rcases FE.1 hl with rfl|hl
    ·exact h9
    ·exact h7 l hl
   ·rintro⟨h2,h3⟩
    obtain⟨u,h4,h5⟩:=h1.2 ⟨h2,h3 x (.head _)⟩;obtain⟨t',h6,h7⟩:=(Iz m r u fun l hl=>h l (.tail _ hl)).2 ⟨h5,fun l hl=>h3 l (.tail _ hl)⟩;exact⟨t',by rw[foldI,h4];exact h6,h7⟩
def PU (t:Int×Int×List Int):(SF t).isSome=true↔ ∃m,gh t m:=by
 obtain⟨lo,hi,no⟩:=t;rw[SF,LZ];constructor
 ·rintro⟨j,h1,h2⟩
  exact⟨lo+j,by simp only[gh]at *;omega,by simp only[]at *;omega,h2⟩
 ·rintro⟨m,h1,h2,h3⟩
  dsimp only at h1 h2 h3 ⊢;exact⟨(m - lo).toNat,by omega,by rw[show lo+((m - lo).toNat:Int)=m by omega];exact h3⟩
def HW {a:Int} {p:List Int} {l:Fact}:Lv a p l=true↔(A8 l).1.arg=a∧(A8 l).1.path=p:=by
 rw[Lv,BV,Du,Du]
def bR {w:AK} {ls:List Fact} (hl: ∀l∈ls,H9 w l) (a:Int) (p:List Int):(R4 ls a p).isSome=true↔ ∃m,(-1000000000≤m∧m≤1000000000)∧ ∀l∈ls,(A8 l).1.arg=a→(A8 l).1.path=p→GP (.int m) (A8 l).1= !(A8 l).2:=by
 have hL: ∀l∈ls.filter (Lv a p),H9 w l:=fun l h=>hl l (K9.1 h).1
 rw[R4];constructor
 ·intro h
  cases hf:foldI (ls.filter (Lv a p)) t0 with
  | none=>rw[hf]at h;cases h
  | some t=>
    rw[hf]at h;obtain⟨m,hm⟩:=(PU t).1 h;obtain⟨h1,h2⟩:=(Iz m _ t0 hL).1 ⟨t,hf,hm⟩;exact⟨m,⟨h1.1,h1.2.1⟩,fun l h3 h4 h5=>h2 l (K9.2 ⟨h3,HW.2 ⟨h4,h5⟩⟩)⟩
 ·rintro⟨m,h1,h2⟩
  obtain⟨t,h3,h4⟩:=(Iz m (ls.filter (Lv a p)) t0 hL).2 ⟨⟨h1.1,h1.2,by simp[t0]⟩,fun l h=>by
   obtain⟨h5,h6⟩:=K9.1 h
   exact h2 l h5 (HW.1 h6).1 (HW.1 h6).2⟩
  rw[h3];exact(PU t).2 ⟨m,h4⟩
def Km {ls:List Fact} {a:Int} {p:List Int}:FO ls a p=true↔ ∀l∈ls,(A8 l).1.arg=a→ ∀q,(A8 l).1.path=p++q→(A8 l).2=true:=by
 rw[FO,EL];constructor
 ·intro h l hl ha q hq
  have:=h l hl;rw[Fj]at this;rcases this with h1|h1
  ·exact h1
  ·rw[ha,hq]at h1
   have h2:B4 (p++q) p=true:=CR.2 ⟨q,rfl⟩;simp[h2]at h1
 ·intro h l hl
  rw[Fj];by_cases h1:(A8 l).1.arg=a∧B4 (A8 l).1.path p=true
  ·obtain⟨q,hq⟩:=CR.1 h1.2
   exact .inl (h l hl h1.1 q hq)
  ·right
   simp only[Bool.not_eq_true',Bool.and_eq_false_iff,beq_eq_false_iff_ne];rcases Classical.em ((A8 l).1.arg=a)with e|e
   ·exact .inr (by simpa[e]using h1)
   ·exact .inl e
def PZ {w:AK} {ls:List Fact} (hl: ∀l∈ls,H9 w l) {a:Int} {p:List Int} {s:Int}:s∈Dl w.owner.length ls a p↔ ∃l∈ls,(A8 l).1.arg=a∧ ∃q,(A8 l).1.path=p++s::q:=by
 rw[Dl,K9,JA,Dq];constructor
 ·rintro⟨-,l,h1,h2⟩
  rw[fY,BV,Du]at h2;obtain⟨q,hq⟩:=CR.1 h2.2;exact⟨l,h1,h2.1,q,by rw[hq];simp⟩
 ·rintro⟨l,h1,h2,q,hq⟩
  refine⟨(hl l h1).path s (by rw[hq];simp),l,h1,?_⟩;rw[fY,BV,Du];exact⟨h2,CR.2 ⟨q,by rw[hq];simp⟩⟩
def TB {w:AK} {ls:List Fact} (hl: ∀l∈ls,H9 w l) {a:Int} {p:List Int}:JJ w.owner.length ls a p=true↔ ∀l∈ls,(A8 l).1.arg=a→ ∀s q,(A8 l).1.path=p++s::q→(A8 l).2=true:=by
 rw[JJ,EL];constructor
 ·intro h l h1 h2 s q hq
  exact Km.1 (h s ((PZ hl).2 ⟨l,h1,h2,q,hq⟩)) l h1 h2 q (by rw[hq];simp)
 ·intro h s _
  exact Km.2 fun l h1 h2 q hq=>h l h1 h2 s q (by rw[hq];simp)
def NQ {w:AK} (hw:Jy w) {s:Int} (h:0≤s∧s<(w.owner.length:Int)):3≤CA w s∧CA w s<3+w.parents.length:=by
 have hs:s.toNat<w.owner.length:=by omega
 have:CA w s=w.owner[s.toNat]:=by rw[CA,DS,DZ hs];rfl
 rw[this];exact hw.own _ (List.getElem_mem hs)
def fZ (t:BB) (AF:Nat→Bool):Prop:=(∀c,t.1.getD c false=true→c=0∨AF c=true)∧ ∀c,t.2.getD c false=true→c≠0∧AF c=false
def QV (t t':BB):Prop:=t.1.length=t'.1.length∧t.2.length=t'.2.length∧(∀c,t.1.getD c false=true→t'.1.getD c false=true)∧ ∀c,t.2.getD c false=true→t'.2.getD c false=true
def QV.cq {t:BB}:QV t t:=⟨rfl,rfl,fun _ h=>h,fun _ h=>h⟩
def QV.trans {t u v:BB} (h:QV t u) (k:QV u v):QV t v:=⟨h.1.trans k.1,h.2.1.trans k.2.1,fun c hc=>k.2.2.1 c (h.2.2.1 c hc),fun c hc=>k.2.2.2 c (h.2.2.2 c hc)⟩
def KV {l:List Bool} {c b:Nat} (h:(l.set c true).getD b false=true):l.getD b false=true∨b=c:=by
 by_cases e:b=c
 ·exact .inr e
 ·rw[DS,List.getElem?_set_ne (fun h=>e h.symm),←DS]at h
  exact .inl h
def KX {l:List Bool} {c b:Nat} (h:l.getD b false=true):(l.set c true).getD b false=true:=by
 by_cases e:c<l.length
 ·rw[Ep e]
  split
  ·rfl
  ·exact h
 ·rw[List.set_eq_of_length_le (by omega)];exact h
def KW {l:List Bool} {c:Nat} (h:c<l.length):(l.set c true).getD c false=true:=by
 rw[Ep h,if_pos rfl]
def QV.td {t:BB} (c:Nat):QV t (t.1.set c true,t.2):=⟨by simp,rfl,fun _ h=>KX h,fun _ h=>h⟩
def QV.tc {t:BB} (c:Nat):QV t (t.1,t.2.set c true):=⟨rfl,by simp,fun _ h=>h,fun _ h=>KX h⟩
def UD (t:BB) (f:Fact) (b:Bool):Prop:=if f.op≠2∨f.cls=1∨f.cls=2 then b=true else if b then t.2.getD f.cls.toNat false=true else t.1.getD f.cls.toNat false=true
def QE {t t':BB} (h:QV t t') {f:Fact} {b:Bool} (k:UD t f b):UD t' f b:=by
 unfold UD at *;split
 ·rename_i h1;rw[if_pos h1]at k;exact k
 ·rename_i h1;rw[if_neg h1]at k
  split
  ·rename_i h2;rw[if_pos h2]at k;exact h.2.2.2 _ k
  ·rename_i h2;rw[if_neg h2]at k;exact h.2.2.1 _ k
def aV {w:AK} {l:Fact} (hl:H9 w l) {t t':BB} (hn:t.1.length=3+w.parents.length∧t.2.length=3+w.parents.length) (h:Lw (A8 l) t=some t'):QV t t'∧UD t' (A8 l).1 (A8 l).2:=by
 have hc:=hl.cls;generalize A8 l=x at *;obtain⟨f,b⟩:=x;simp only[Lw,UD]at *;split at h
 ·rename_i h1
  rw[if_pos h1];cases b
  ·cases h
  ·obtain rfl:=Option.some.inj h
   exact⟨QV.cq,rfl⟩
 ·rename_i h1
  rw[if_neg h1]
  have h2:f.op=2:=by
   rcases Classical.em (f.op=2)with e|e
   ·exact e
   ·exact absurd (Or.inl e) h1
  have:=hc h2;cases b
  ·obtain rfl:=Option.some.inj h
   exact⟨.td _,by rw[if_neg (by decide)];exact KW (by omega)⟩
  ·obtain rfl:=Option.some.inj h
   exact⟨.tc _,by rw[if_pos rfl];exact KW (by omega)⟩
def XQ {w:AK} {l:Fact} (hl:H9 w l) {t:BB} {AF:Nat→Bool} {kid:Int→J2} (hi:fZ t AF) (h:GP (.obj AF kid) (A8 l).1= !(A8 l).2): ∃t',Lw (A8 l) t=some t'∧fZ t' AF:=by
 have hc:=hl.cls;generalize A8 l=x at *;obtain⟨f,b⟩:=x;simp only[Lw,GP]at *;by_cases h1:f.op≠2∨f.cls=1∨f.cls=2
 ·rw[if_pos h1]
  have h2:(f.op==2&&(f.cls==0||(decide (3≤f.cls)&&AF f.cls.toNat)))=false:=by
   rcases h1 with h1|h1|h1
   ·simp[h1]
   ·simp[h1]
   ·simp[h1]
  rw[h2]at h;cases b
  ·cases h
  ·exact⟨t,rfl,hi⟩
 ·rw [if_neg h1]
  have h2:f.op=2:=by
   rcases Classical.em (f.op=2)with e|e
   ·exact e
   ·exact absurd (Or.inl e) h1
  have hr:=hc h2;have h3:f.cls≠1∧f.cls≠2:=⟨fun e=>h1 (.inr (.inl e)),fun e=>h1 (.inr (.inr e))⟩
  have h4:(f.op==2&&(f.cls==0||(decide (3≤f.cls)&&AF f.cls.toNat)))=(decide (f.cls=0)||AF f.cls.toNat):=by
   rw[h2];rcases Classical.em (f.cls=0)with e|e
   ·simp[e]
   ·have:3≤f.cls:=by omega
    simp[e,this]
  rw[h4]at h;cases b
  ·refine⟨_,rfl,fun c hh=>?_,hi.2⟩
   rcases KV hh with hh|rfl
   ·exact hi.1 c hh
   ·simp only[Bool.not_false,Fj,CL]at h
    rcases h with h|h
    ·exact .inl (by omega)
    ·exact .inr h
  ·refine⟨_,rfl,hi.1,fun c hh=>?_⟩
   rcases KV hh with hh|rfl
   ·exact hi.2 c hh
   ·simp only[Bool.not_true,Bool.or_eq_false_iff,decide_eq_false_iff_not]at h
    exact⟨by omega,h.2⟩
def Nt {w:AK}: ∀(os:List Fact) {t t':BB},(∀l∈os,H9 w l)→(t.1.length=3+w.parents.length∧t.2.length=3+w.parents.length)→JH os t=some t'→QV t t'∧ ∀l∈os,UD t' (A8 l).1 (A8 l).2
 | [],t,t',_,_,h=>by
   obtain rfl:=Option.some.inj h;exact⟨QV.cq,fun l hl=>by cases hl⟩
 | x::r,t,t',hl,hn,h=>by
   rw[JH,Option.bind_eq_some_iff]at h;obtain⟨u,h1,h2⟩:=h;obtain⟨h3,h4⟩:=aV (hl x (.head _)) hn h1;obtain⟨h5,h6⟩:=Nt r (fun l h=>hl l (.tail _ h)) ⟨by rw[←h3.1];exact hn.1,by rw[←h3.2.1];exact hn.2⟩ h2;refine⟨h3.trans h5,fun l h=>?_⟩;rcases FE.1 h with rfl|h
   ·exact QE h5 h4
   ·exact h6 l h
def P2 {w:AK} {AF:Nat→Bool} {kid:Int→J2}: ∀(os:List Fact) {t:BB},(∀l∈os,H9 w l)→fZ t AF→(∀l∈os,GP (.obj AF kid) (A8 l).1= !(A8 l).2)→ ∃t',JH os t=some t'∧fZ t' AF
 | [],t,_,hi,_=>⟨t,rfl,hi⟩
 | x::r,t,hl,hi,h=>by
   obtain⟨u,h1,h2⟩:=XQ (hl x (.head _)) hi (h x (.head _));obtain⟨t',h3,h4⟩:=P2 r (fun l h=>hl l (.tail _ h)) h2 fun l hh=>h l (.tail _ hh)
   exact⟨t',by rw[JH,h1];exact h3,h4⟩
def iC (w:AK) (ls:List Fact) (a:Int) (p:List Int) (can:Int→Bool) (s:Int) (t:BB):Prop:=
 (FO ls a (p++[s])=false→t.1.getD (CA w s).toNat false=true∧can s=true)∧(can s=false→t.2.getD (CA w s).toNat false=true)
def Ns {w:AK} (hw:Jy w) {ls:List Fact} {a:Int} {p:List Int} {can:Int→Bool}: ∀(sl:List Int) {t t':BB},(∀s∈sl,0≤s∧s<(w.owner.length:Int))→(t.1.length=3+w.parents.length∧t.2.length=3+w.parents.length)→JG w ls a p can sl t=some t'→QV t t'∧ ∀s∈sl,iC w ls a p can s t'
 | [],t,t',_,_,h=>by
   obtain rfl:=Option.some.inj h;exact⟨QV.cq,fun l hl=>by cases hl⟩
 | s ::r,t,t',hs,hn,h=>by
   rw[JG,Option.bind_eq_some_iff]at h;obtain⟨u,h1,h2⟩:=h;have ho:=NQ hw (hs s (.head _))
   have h3:QV t u∧iC w ls a p can s u:=by
    rw[SD]at h1;split at h1
    ·cases h1
    ·rename_i hne
     obtain rfl:=Option.some.inj h1;simp only[iC];cases hb:FO ls a (p++[s])<;>cases hc:can s
     ·simp[hb,hc]at hne
     ·exact⟨⟨by simp,rfl,fun c h=>KX h,fun c h=>h⟩,fun _=>⟨KW (by omega),rfl⟩,fun h=>(by cases h)⟩
     ·exact⟨⟨rfl,by simp,fun c h=>h,fun c h=>KX h⟩,fun h=>(by cases h),fun _=>KW (by omega)⟩
     ·exact⟨QV.cq,fun h=>(by cases h),fun h=>(by cases h)⟩
   obtain⟨h5,h6⟩:=Ns hw r (fun l h=>hs l (.tail _ h)) ⟨by rw[←h3.1.1];exact hn.1,by rw[←h3.1.2.1];exact hn.2⟩ h2;refine⟨h3.1.trans h5,fun l h=>?_⟩;rcases FE.1 h with rfl|h
   ·exact⟨fun hb=>⟨h5.2.2.1 _ (h3.2.1 hb).1,(h3.2.1 hb).2⟩,fun hc=>h5.2.2.2 _ (h3.2.2 hc)⟩
   ·exact h6 l h
def P1 {w : AK} (hw:Jy w) {ls:List Fact} {a:Int} {p:List Int} {can:Int→Bool} {AF:Nat→Bool}: ∀(sl:List Int) {t:BB},(∀s∈sl,0≤s∧s<(w.owner.length:Int))→fZ t AF→
    (∀s∈sl,(FO ls a (p++[s])=false→AF (CA w s).toNat=true)∧(AF (CA w s).toNat=true→can s=true))→ ∃t',JG w ls a p can sl t=some t'∧fZ t' AF
 | [],t,_,hi,_=>⟨t,rfl,hi⟩
 | s :: r, t,hs,hi,h=>by
   have ho:=NQ hw (hs s (.head _));obtain⟨k1,k2⟩:=h s (.head _)
   have h1 : ∃u,SD w ls a p can s t=some u∧fZ u AF:=by
    rw[SD];cases hb:FO ls a (p++[s])
    ·rw[k2 (k1 hb)]
     refine⟨_,rfl,fun c hh=>?_,hi.2⟩;rcases KV hh with hh|rfl
     ·exact hi.1 c hh
     ·exact .inr (k1 hb)
    ·cases hc:can s
     ·refine⟨_,rfl,hi.1,fun c hh=>?_⟩
      rcases KV hh with hh|rfl
      ·exact hi.2 c hh
      ·refine⟨by omega,?_⟩
       rw[←Bool.not_eq_true];intro e;rw[k2 e]at hc;cases hc
     ·exact⟨_,rfl,hi⟩
   obtain⟨u,h2,h3⟩:=h1;obtain⟨t',h4,h5⟩:=P1 hw r (fun l h=>hs l (.tail _ h)) h3 fun l hh=>h l (.tail _ hh)
   exact⟨t',by rw[JG,h2];exact h4,h5⟩
def dd {w:AK} {AF:Nat→Bool}:fZ (tO w) AF:=by
 have: ∀c,(List.replicate (3+w.parents.length) false).getD c false=false:=fun c=>by
  rw[DS];cases h:(List.replicate (3+w.parents.length) false)[c]? with
  | none=>rfl
  | some b=>rw[List.eq_of_mem_replicate (Cg h)];rfl
 exact⟨fun c h=>absurd ((this c).symm.trans h) (by decide),fun c h=>absurd ((this c).symm.trans h) (by decide)⟩
def YY {g:List (List Int)} (ho:ordered g) {AF:Nat→Bool} (hC: ∀c,3≤c→AF c=true→ ∀q∈par g c,AF q.toNat=true): ∀d b:Nat,3≤d→AF d=true→IC g d b=true→AF b=true:=by
 intro d
 induction d using Nat.strongRecOn with
 | _ d ih=>
   intro b h3 hd h;rw[D3 ho]at h;simp only[Fj,Du,JA]at h;rcases h with rfl|⟨p,hp,h⟩
   ·exact hd
   ·have:=ho d p hp
    exact ih p.toNat (by omega) b (by omega) (hC d h3 hd p hp) h
def a8 {w : AK} (hw : Jy w) {ls:List Fact} (hl: ∀l∈ls,H9 w l) {a:Int} {p:List Int} {can:Int→Bool} {T:Int→J2→Prop} (hcan: ∀s,s∈Dl w.owner.length ls a p→(can s=true↔ ∃t,H8 w t∧T s t))
    (hT: ∀s t,T s t↔ ∀l∈ls,(A8 l).1.arg=a→ ∀q,(A8 l).1.path=p++s::q→MT w t q (A8 l).1= !(A8 l).2) :
    (R0 w ls a p can).isSome=true↔ ∃AF kid,H8 w (.obj AF kid)∧ ∀l∈ls,(A8 l).1.arg=a→ ∀q,(A8 l).1.path=p++q→MT w (.obj AF kid) q (A8 l).1= !(A8 l).2:=by
 have hL: ∀l∈ls.filter (Lv a p),H9 w l:=fun l h=>hl l (K9.1 h).1
 have hS: ∀s∈Dl w.owner.length ls a p,0≤s∧s<(w.owner.length:Int):=fun s h=>Lb h
 have hn0:(tO w).1.length=3+w.parents.length∧(tO w).2.length=3+w.parents.length:=by simp[tO]
 constructor
 ·intro h
  rw[R0]at h;cases h1:JH (ls.filter (Lv a p)) (tO w)with
  | none=>rw[h1]at h;cases h
  | some t=>
    rw[h1,Option.bind_some]at h;obtain⟨g1,g2⟩:=Nt _ hL hn0 h1;have hn1:t.1.length=3+w.parents.length∧t.2.length=3+w.parents.length:=⟨by rw[←g1.1];exact hn0.1,by rw[←g1.2.1];exact hn0.2⟩
    cases h2:JG w ls a p can (Dl w.owner.length ls a p) t with
    | none=>rw[h2]at h;cases h
    | some u=>
      rw[h2,Option.bind_some,Y6]at h;obtain⟨g3,g4⟩:=Ns hw _ hS hn1 h2;have hn2:u.1.length=3+w.parents.length∧u.2.length=3+w.parents.length:=⟨by rw[←g3.1];exact hn1.1,by rw[←g3.2.1];exact hn1.2⟩
      split at h
      ·cases h
      ·rename_i h0
       split at h
       ·cases h
       ·rename_i h3
        clear h;have hSl:(u.1.set 0 false).length=3+w.parents.length:=by simpa using hn2.1
        generalize hSd:Cp w.parents (3+w.parents.length) w.parents.length (u.1.set 0 false)=S at *
        have hin: ∀c,3≤c→u.1.getD c false=true→S.getD c false=true:=fun c hc h=>by
         rw[←hSd];refine Ig hw.ord hSl _ _ ?_;rw[DS,List.getElem?_set_ne (by omega),←DS];exact h
        have hdis: ∀c,S.getD c false=true→u.2.getD c false=true→False:=fun c k1 k2=>by
         have hc:c<3+w.parents.length:=by
          rcases Nat.lt_or_ge c (3+w.parents.length)with h|h
          ·exact h
          ·rw[DS,List.getElem?_eq_none (by omega)]at k2
           cases k2
         refine h3 (JA.2 ⟨c,List.mem_range.2 hc,?_⟩);rw[k1,k2];rfl
        have hkid: ∀s,∃t,H8 w t∧((∃t,H8 w t∧T s t)→T s t):=fun s=>by
         rcases Classical.em (∃t,H8 w t∧T s t)with⟨t,k1,k2⟩|k
         ·exact⟨t,k1,fun _=>k2⟩
         ·exact⟨.QS,trivial,fun h=>absurd h k⟩
        refine⟨fun c=>S.getD c false,fun s=>Classical.choose (hkid s),⟨fun c hc h q hq=>?_,fun s=>(Classical.choose_spec (hkid s)).1⟩,fun l h1 h2 q hq=>?_⟩
        ·change S.getD c false=true at h
         change S.getD q.toNat false=true
         have hcl:c<3+w.parents.length:=by
          rcases Nat.lt_or_ge c (3+w.parents.length)with h'|h'
          ·exact h'
          ·rw[DS,List.getElem?_eq_none (by rw[←hSd,FD];omega)]at h
           cases h
         rw[←hSd]at h ⊢;exact Gp hw.ord hSl _ c (by omega) (by omega) h q hq
        ·cases q with
         | nil =>
           have k:=g2 l (K9.2 ⟨h1,HW.2 ⟨h2,by simpa using hq⟩⟩);have k:=QE g3 k;have hc:=(hl l h1).cls;generalize A8 l=x at *;obtain⟨f,b⟩:=x;simp only[MT,GP,UD]at *;by_cases e1:f.op≠2∨f.cls=1∨f.cls=2
           ·rw[if_pos e1]at k
            subst k;rcases e1 with e1|e1|e1
            ·simp[e1]
            ·simp[e1]
            ·simp[e1]
           ·rw [if_neg e1]at k
            have e2:f.op=2:=by
             rcases Classical.em (f.op=2)with e|e
             ·exact e
             ·exact absurd (Or.inl e) e1
            have hr:=hc e2;have e3:f.cls≠1∧f.cls≠2:=⟨fun e=>e1 (.inr (.inl e)),fun e=>e1 (.inr (.inr e))⟩
            rw[e2];rcases Classical.em (f.cls=0)with e|e
            ·rw[e]at k ⊢
             cases b
             ·rfl
             ·exfalso;exact h0 k
            ·have e4:(f.cls==0)=false:=by simpa using e
             have e5:decide (3≤f.cls)=true:=decide_eq_true (by omega);rw[e4,e5];cases b
             ·rw[if_neg (by decide)]at k
              rw[hin _ (by omega) k];rfl
             ·rw[if_pos rfl]at k
              have:S.getD f.cls.toNat false=false:=by
               rw[←Bool.not_eq_true];exact fun e=>hdis _ e k
              rw[this];rfl
         | cons s q=>
           have hs:s∈Dl w.owner.length ls a p:=(PZ hl).2 ⟨l,h1,h2,q,hq⟩;have hso:=NQ hw (hS s hs);obtain⟨k1,k2⟩:=g4 s hs;simp only[MT];cases hm:S.getD (CA w s).toNat false
           ·rw[Bool.false_and]
            cases hb:FO ls a (p++[s])
            ·have:=hin _ (by omega) (k1 hb).1
             rw[hm]at this;cases this
            ·rw[Km.1 hb l h1 h2 q (by rw[hq];simp)];rfl
           ·rw[Ev]
            cases hc:can s
            ·exact absurd (k2 hc) fun e=>hdis _ hm e
            ·exact(hT s _).1 ((Classical.choose_spec (hkid s)).2 ((hcan s hs).1 hc)) l h1 h2 q hq
 ·rintro ⟨AF,kid,⟨hC,U⟩,h⟩
  obtain⟨t,h1,h2⟩:=P2 (AF:=AF) (kid:=kid) (ls.filter (Lv a p)) (t:=tO w) hL dd fun l k=>by
   obtain⟨k1,k2⟩:=K9.1 k;obtain⟨k3,k4⟩:=HW.1 k2;exact h l k1 k3 [] (by simpa using k4)
  obtain ⟨u,h3,h4⟩:=P1 hw (AF:=AF) (can:=can) (ls:=ls) (a:=a) (p:=p) (Dl w.owner.length ls a p) (t:=t) hS h2 fun s hs=>by
   constructor
   ·intro hb
    cases e:AF (CA w s).toNat
    ·rw[Km.2 fun l k1 k2 q hq=>by
      have:=h l k1 k2 (s::q) (by rw[hq];simp);simp only[MT,e,Bool.false_and]at this
      simpa using this.symm]at hb
     cases hb
    ·rfl
   ·intro e
    refine(hcan s hs).2 ⟨kid s,U s,(hT s _).2 fun l k1 k2 q hq=>?_⟩;have:=h l k1 k2 (s::q) hq;simpa only[MT,e,Ev]using this
  rw[R0,h1,Option.bind_some,h3,Option.bind_some,Y6]
  have h0:u.2.getD 0 false=false:=by
   rw[←Bool.not_eq_true];exact fun e=>(h4.2 0 e).1 rfl
  rw[h0,if_neg (by decide),if_neg]
  ·rfl
  ·rw [JA]
   rintro⟨c,-,hc⟩;rw[BV]at hc;have q1:=(Nt _ hL hn0 h1).1;have q2:=(Ns hw _ hS ⟨by rw[←q1.1];exact hn0.1,by rw[←q1.2.1];exact hn0.2⟩ h3).1;have hlen:(u.1.set 0 false).length=3+w.parents.length:=by rw[List.length_set,←q2.1,←q1.1];exact hn0.1
   obtain⟨d,k1,k2⟩:=Ft hw.ord hlen _ _ hc.1
   have hd0:d≠0:=by
    rintro rfl;rw[DS,List.getElem?_set_self (by rw[List.length_set]at hlen;omega)]at k1;cases k1
   rw[DS,List.getElem?_set_ne (fun e=>hd0 e.symm),←DS]at k1;have hCd:AF d=true:=(h4.1 d k1).resolve_left hd0
   have hCc:AF c=true:=by
    rcases Nat.lt_or_ge d 3 with hd|hd
    ·rw[D3 hw.ord,show par w.parents d= [] from if_pos hd]at k2
     simp only[List.any_nil,Bool.or_false,Du]at k2;subst k2;exact hCd
    ·exact YY hw.ord hC d c hd hCd k2
   have:=(h4.2 c hc.2).2;rw[hCc]at this;cases this
def TT (w:AK) (ls:List Fact) (a:Int) (p:List Int) (t:J2):Prop:= ∀l∈ls,(A8 l).1.arg=a→ ∀q,(A8 l).1.path=p++q→MT w t q (A8 l).1= !(A8 l).2
def Xr {w:AK} {ls:List Fact} (hl: ∀l∈ls,H9 w l) {a:Int} {p:List Int}:NA w.owner.length ls a p=true↔TT w ls a p .QS:=by
 rw[NA,BV,EL,TB hl];constructor
 ·rintro⟨h1,h2⟩ l k1 k2 q hq
  cases q with
  | nil=>
    have:=h1 l (K9.2 ⟨k1,HW.2 ⟨k2,by simpa using hq⟩⟩);simp only[MT,GP,PG]at *
    revert this
    cases((A8 l).1.op==2&&((A8 l).1.cls==0||(A8 l).1.cls==2))<;>cases(A8 l).2<;>decide
  | cons s q=>simp[MT,h2 l k1 k2 s q hq]
 ·intro h
  refine⟨fun l k=>?_,fun l k1 k2 s q hq=>?_⟩
  ·obtain⟨k1,k2⟩:=K9.1 k
   obtain⟨k3,k4⟩:=HW.1 k2;have:=h l k1 k3 [] (by simpa using k4);simp only[MT,GP,PG]at *
   revert this
   cases((A8 l).1.op==2&&((A8 l).1.cls==0||(A8 l).1.cls==2))<;>cases(A8 l).2<;>decide
  ·have:=h l k1 k2 (s::q) hq
   simpa[MT]using this.symm
def bS {w:AK} {ls:List Fact} (hl: ∀l∈ls,H9 w l) {a:Int} {p:List Int}:((R4 ls a p).isSome&&JJ w.owner.length ls a p)=true↔ ∃m,H8 w (.int m)∧TT w ls a p (.int m):=by
 rw[BV,TB hl,bR hl];constructor
 ·rintro⟨⟨m,h1,h2⟩,h3⟩
  refine⟨m,h1,fun l k1 k2 q hq=>?_⟩;cases q with
  | nil=>exact h2 l k1 k2 (by simpa using hq)
  | cons s q=>simp[MT,h3 l k1 k2 s q hq]
 ·rintro⟨m,h1,h2⟩
  refine⟨⟨m,h1,fun l k1 k2 k3=>h2 l k1 k2 [] (by simpa using k3)⟩,fun l k1 k2 s q hq=>?_⟩;have:=h2 l k1 k2 (s::q) hq;simpa[MT]using this.symm
def Wv {w:AK} (hw:Jy w) {ls:List Fact} (hl: ∀l∈ls,H9 w l) {a:Int} {p:List Int} {can:Int→Bool} (hcan: ∀s,s∈Dl w.owner.length ls a p→(can s=true↔ ∃t,H8 w t∧TT w ls a (p++[s]) t)) :
    (((R4 ls a p).isSome&&JJ w.owner.length ls a p)||(NA w.owner.length ls a p||(R0 w ls a p can).isSome))=true↔ ∃t,H8 w t∧TT w ls a p t:=by
 rw[Fj,Fj,bS hl,Xr hl,a8 hw hl (T:=fun s t=>TT w ls a (p++[s]) t) hcan fun s t=>by simp only[TT,T0,List.singleton_append]];constructor
 ·rintro(⟨m,h1,h2⟩|h|⟨AF,kid,h1,h2⟩)
  ·exact⟨_,h1,h2⟩
  ·exact⟨.QS,trivial,h⟩
  ·exact⟨_,h1,h2⟩
 ·rintro⟨t,h1,h2⟩
  cases t with
  | int m=>exact .inl ⟨m,h1,h2⟩
  | QS=>exact .inr (.inl h2)
  | obj AF kid=>exact .inr (.inr ⟨AF,kid,h1,h2⟩)
def Nw {w:AK} (hw:Jy w) {ls:List Fact} (hl: ∀l∈ls,H9 w l) (a:Int): ∀(d:Nat) (p:List Int),p.length+d=2→(Qe w ls a d p=true↔ ∃t,H8 w t∧TT w ls a p t)
 | 0,p,hp=>by
   rw[Qe];refine Wv hw hl fun s hs=>?_
   rw[PY (m:=2) (fun l h=>(hl l h).short) (by omega)]at hs;cases hs
 | d+1,p,hp=>by
   rw[Qe];exact Wv hw hl fun s hs=>Nw hw hl a d (p++[s]) (by simp;omega)
def Qa (w:AK) (M:Int→J2) (l:Fact):Prop:=MT w (M (A8 l).1.arg) (A8 l).1.path (A8 l).1= !(A8 l).2
def Sd {w:AK} (hw:Jy w) {ls:List Fact} (hl: ∀l∈ls,H9 w l):I5 w ls=true↔ ∃M:Int→J2,(∀a,H8 w (M a))∧ ∀l∈ls,Qa w M l:=by
 rw[I5,EL];constructor
 ·intro h
  have hk: ∀a:Int,∃t,H8 w t∧(0≤a∧a<3→TT w ls a [] t):=fun a=>by
   rcases Classical.em (0≤a∧a<3)with e|e
   ·obtain⟨t,h1,h2⟩:=(Nw hw hl a 2 [] rfl).1 (h a (Dq.2 e))
    exact⟨t,h1,fun _=>h2⟩
   ·exact⟨.QS,trivial,fun k=>absurd k e⟩
  exact⟨fun a=>Classical.choose (hk a),fun a=>(Classical.choose_spec (hk a)).1,fun l k=>(Classical.choose_spec (hk (A8 l).1.arg)).2 (hl l k).arg l k rfl _ rfl⟩
 ·rintro⟨M,h1,h2⟩ a _
  refine(Nw hw hl a 2 [] rfl).2 ⟨M a,h1 a,fun l k1 k2 q hq=>?_⟩;have:=h2 l k1;rw[Qa,k2]at this;rw[List.nil_append]at hq;rw[←hq];exact this
def Tz (w:AK) (M:Int→J2) (f:Fact) (l:List Bool):Bool:=
 if f.op=1 then true else if f.op=5 then !l.getD 0 false else if f.op=6 then l.getD 0 false&&l.getD 1 false else if f.op=7 then l.getD 0 false||l.getD 1 false else MT w (M f.arg) f.path f
def Rr (w:AK) (M:Int→J2) (f:Fact):Bool:=f.Gw (Tz w M)
def Jb (w:AK) (M:Int→J2) (f:Fact):Rr w M f=Tz w M f (f.kids.map (Rr w M)):=Fact.Df (Tz w M) f
def S3 (a:List Fact) (Q:Fact→Prop): ∀b:List Fact,(∀x∈Cr a b,Q x)↔(∀x∈a,Q x)∧ ∀x∈b,Q x:=by
 intro b
 induction b generalizing a with
 | nil=>simp[Cr]
 | cons y r ih=>
   rw[Cr,ih];split
   ·rename_i h
    obtain⟨z,h1,h2⟩:=JA.1 h;have:=(Lc y z).1 h2;subst this;simp only[List.forall_mem_cons];constructor
    ·rintro⟨h3,h4⟩;exact⟨h3,h3 _ h1,h4⟩
    ·rintro⟨h3,_,h4⟩;exact⟨h3,h4⟩
   ·simp only[List.forall_mem_append,List.forall_mem_cons,List.forall_mem_nil]
    constructor
    ·rintro⟨⟨h1,h2,_⟩,h3⟩;exact⟨h1,h2,h3⟩
    ·rintro⟨h1,h2,h3⟩;exact⟨⟨h1,h2,fun _ h=>by cases h⟩,h3⟩
def QB {w : AK} {M:Int→J2} (f:Fact):BW w f=true→ ∀c,(∃l∈Bg f c,∀x∈l,Qa w M x)↔Rr w M f= !c:=by
 induction f using Fact.ind with
 | h f ih=>
   intro h c;have har:=DD f h;have h':=h;rw[CK,BV,EL]at h';rw[HM,IX,Jb,Tz];by_cases h1:f.op=1
   ·rw[if_pos h1,if_pos h1]
    cases c<;>simp
   rw[if_neg h1,if_neg h1];by_cases h5:f.op=5
   ·obtain⟨a,ha,hb⟩:=It har h5
    rw[if_pos h5,if_pos h5,ha];have:=ih a (by rw[ha];exact .head _) (h'.2 a (by rw[ha];exact .head _)) (!c);simp only[EA,List.map_nil,List.getD_cons_zero];rw[this];cases Rr w M a<;>cases c<;>decide
   rw[if_neg h5,if_neg h5];by_cases h6:f.op=6∨f.op=7
   ·obtain⟨a,b,ha,hb1,hb2⟩:=Is har h6
    rw[if_pos h6,ha];have i1:=ih a (by rw[ha];exact .head _) (h'.2 a (by rw[ha];exact .head _)) c;have j1:=ih b (by rw[ha];exact .tail _ (.head _)) (h'.2 b (by rw[ha];exact .tail _ (.head _))) c;simp only[EA,List.map_nil,List.getD_cons_zero,List.getD_cons_succ]
    have happ:(∃l∈Bg a c++Bg b c,∀x∈l,Qa w M x)↔Rr w M a= !c∨Rr w M b= !c:=by
     rw[←i1,←j1];constructor
     ·rintro⟨l,hl,hx⟩
      rcases FX.1 hl with hl|hl
      ·exact .inl ⟨l,hl,hx⟩
      ·exact .inr ⟨l,hl,hx⟩
     ·rintro(⟨l,hl,hx⟩|⟨l,hl,hx⟩)
      ·exact⟨l,Mt _ hl,hx⟩
      ·exact⟨l,LA _ hl,hx⟩
    have hprod:(∃l∈F3 (Bg a c) (Bg b c),∀x∈l,Qa w M x)↔Rr w M a= !c∧Rr w M b= !c:=by
     rw[←i1,←j1];simp only[F3,List.mem_flatMap,Ls];constructor
     ·rintro⟨l,⟨y,hy,z,hz,rfl⟩,hx⟩
      rw[S3]at hx;exact⟨⟨y,hy,hx.1⟩,z,hz,hx.2⟩
     ·rintro⟨⟨y,hy,h1⟩,z,hz,h2⟩
      exact⟨_,⟨y,hy,z,hz,rfl⟩,(S3 y _ z).2 ⟨h1,h2⟩⟩
    rcases h6 with h6|h6
    ·rw[if_pos h6,h6]
     cases c
     ·rw[if_neg (by decide),hprod]
      simp
     ·rw[if_pos (by decide),happ]
      simp only[Bool.not_true,Bool.and_eq_false_iff]
    ·rw[if_neg (by omega: ¬f.op=6),if_pos h6,h6]
     cases c
     ·rw[if_pos (by decide),happ]
      simp
     ·rw[if_neg (by decide),hprod]
      simp only[Bool.not_true,Bool.or_eq_false_iff]
   ·rw[if_neg h6,if_neg (fun e=>h6 (.inl e)),if_neg (fun e=>h6 (.inr e))]
    have e1:Qa w M f↔MT w (M f.arg) f.path f=true:=by rw[Qa,A8,if_neg h5];exact Iff.rfl
    have e2:Qa w M (F2 f)↔MT w (M f.arg) f.path f=false:=by
     rw[Qa,show A8 (F2 f)=(f,true) from rfl];exact Iff.rfl
    cases c
    ·simp[e1]
    ·simp[e2]
def an {w:AK} (hw:Jy w) {f:Fact} (hn:BW w f=true):T6 w f=true↔ ∃M:Int→J2,(∀a,H8 w (M a))∧Rr w M f=true:=by
 rw[T6,JA];constructor
 ·rintro⟨l,h1,h2⟩
  obtain⟨M,h3,h4⟩:=(Sd hw fun x hx=>WJ (FW f hn false l h1 x hx)).1 h2;exact⟨M,h3,(QB f hn false).1 ⟨l,h1,h4⟩⟩
 ·rintro⟨M,h1,h2⟩
  obtain⟨l,h3,h4⟩:=(QB f hn false).2 h2;exact⟨l,h3,(Sd hw fun x hx=>WJ (FW f hn false l h3 x hx)).2 ⟨M,h1,h4⟩⟩
def Ia {w:AK} (hw:Jy w) {a b:Fact} (ha:BW w a=true) (hb:BW w b=true):O4 w a b=true↔ ∀M:Int→J2,(∀x,H8 w (M x))→Rr w M a=true→Rr w M b=true:=by
 have he: ∀M,Rr w M (O6 a (F2 b))=(Rr w M a&& !Rr w M b):=fun M=>by
  rw[Jb];simp only[Tz,O6,Fact.op,Fact.kids,EA,List.map_nil,List.getD_cons_zero,List.getD_cons_succ];rw[Jb w M (F2 b)];simp[Tz,F2,Fact.op,Fact.kids]
 rw[O4,Bool.not_eq_true',←Bool.not_eq_true,an hw (Sw ha hb)];constructor
 ·intro h M h1 h2
  rw[←Bool.not_eq_false];exact fun h3=>h ⟨M,h1,by rw[he,h2,h3];rfl⟩
 ·rintro h ⟨M,h1,h2⟩
  rw[he,BV]at h2;rw[h M h1 h2.1]at h2;simp at h2
def imp_trans {w:AK} (hw:Jy w) {a b c:Fact} (ha:BW w a=true) (hb:BW w b=true) (hc:BW w c=true) (h1:O4 w a b=true) (h2:O4 w b c=true):O4 w a c=true:=
 (Ia hw ha hc).2 fun M hM h=>(Ia hw hb hc).1 h2 M hM ((Ia hw ha hb).1 h1 M hM h)
def OX {p:Prog} (hok:DE p) {i j k:Int} (hi:A5 p i=true) (hj:A5 p j=true) (hk:A5 p k=true) (h1:EC p i j=true) (h2:EC p j k=true):EC p i k=true:=
 imp_trans hok.Yq (hok.facts _ (Cg (B7 hi))).1 (hok.facts _ (Cg (B7 hj))).1 (hok.facts _ (Cg (B7 hk))).1 h1 h2
def Vc {p:Prog} {i j:Int}:Al p i j=true↔EC p i j=true∧EC p j i=false:=by
 rw[Al,BV,Bool.not_eq_true']
def On {p:Prog} (i:Int):Al p i i=false:=by
 rw[Al];cases EC p i i<;>rfl
def Rh {p:Prog} (hok:DE p) {i j k:Int} (hi:A5 p i=true) (hj:A5 p j=true) (hk:A5 p k=true) (h1:Al p i j=true) (h2:Al p j k=true):Al p i k=true:=by
 rw[Vc]at *;refine⟨OX hok hi hj hk h1.1 h2.1,?_⟩;rw[←Bool.not_eq_true];intro e;have:=OX hok hk hi hj e h1.1;rw[h2.2]at this;cases this
def Sx {p:Prog} {i:Nat} (h:i<p.methods.length):A5 p (i:Int)=true:=by
 simp only[A5,BV,CL];omega
def av {p:Prog} {gen kind:Int} {i j:Nat}:FJ p gen kind i j=true↔((BL p i).gen=gen∧(BL p i).kind=kind)∧((BL p j).gen=gen∧(BL p j).kind=kind)∧Al p i j=true:=by
 simp only[FJ,Cq,BV,Du];constructor
 ·rintro⟨h1,h2,⟨h3,h4⟩,h5⟩
  exact⟨⟨h1,h2⟩,⟨by rw[←h3,h1],by rw[←h4,h2]⟩,h5⟩
 ·rintro⟨⟨h1,h2⟩,⟨h3,h4⟩,h5⟩
  exact⟨h1,h2,⟨by rw[h1,h3],by rw[h2,h4]⟩,h5⟩
def dJ {p:Prog} {gen:Int} {i j:Nat} (h:Rj p gen i j=true):((BL p i).gen=gen∧(BL p j).gen=gen)∧(BL p i).kind=(BL p j).kind∧EC p i j=true∧EC p j i=true:=by
 simp only[Rj,Cq,BV,Du]at h;obtain⟨-,h1,⟨h2,h3⟩,h4,h5⟩:=h;exact⟨⟨h1,by rw[←h2,h1]⟩,h3,h4,h5⟩
end Go.Gl
namespace Go.Gl
open Go.Proofs
attribute [local irreducible] BD Aw Ai AU AO Ah AV AW AN Ag AS AT Ay A9 Sat Ab A4 Aj W
def dM (p:Prog) (L:Nat) (m:Int) (hok:DE p) (hgw:CH (AR p)) (hfm: ∀x∈p.methods,CW (AR p) x.fact=true) (hm:A5 p m=true) :
    C5 Tryz.prog (.f (.func 105) [] [.rp [Ff p L],.rp [eI m]]) eI (fun M=>[.map L (E2 p M)]) (fun y M=>(Al p y m,M7 p M y m)) (fun y _=>A5 p y=true):=by
 intro y M hy σ hs;refine Bk ?_;show BD Tryz.prog 105 ([]++[eI y]++[.rp [Ff p L],.rp [eI m]]) σ _;refine mZ kZ ?_
 conv=>whnf
 repeat'((first|apply st|(apply sq;intro K U)|(apply si;intro A B Y Z)|(apply Y;clear Z B Y A)|(apply U;clear U K)|fail)<;>conv=>whnf)
 refine(N3 p L y m hok hgw hfm hy hm M).use (rest:=[]) (by simpa using hs) ?_;clear hs;rintro r post σ ⟨rfl,rfl⟩ hs
 conv=>whnf
 repeat'((first|apply st|(apply Y;clear Z B Y A)|(apply U;clear U K)|fail)<;>conv=>whnf)
 exact Aq hs (List.sublist_append_left _ _) (.refl _) fun σ' hs'=>⟨rfl,hs'⟩
def P5 {S:Type} {stp:Int→S→Bool×S} {q:Int→Bool}: ∀(xs:List Int) (k:Nat) (s:S),(∀y∈xs,∀s,(stp y s).1=q y)→(Bh stp xs k s).1=match(List.range xs.length).find? fun i=>q (xs.getD i 0)with|some i=>((k+i:Nat):Int)|none=> -1
 | [],_,_,_=>rfl
 | y ::r,k,s,h=>by
   rw[Bh,h y (.head _)];have ih:=P5 r (k+1) (stp y s).2 fun z hz=>h z (.tail _ hz)
   rw[Lt,List.range_succ_eq_map,List.find?_cons,List.getD_cons_zero];cases hq:q y
   ·rw[if_neg (by decide),ih]
    simp only[List.find?_map,Function.comp_def,Nat.succ_eq_add_one,List.getD_cons_succ];cases(List.range r.length).find? fun i=>q (r.getD i 0)with
    | none=>rfl
    | some i=>simp only[Ym];congr 1;omega
   ·rw[if_pos rfl];simp
def nK (p:Prog) (l:List Int) (m:Int) (M:List (Int×Int)):List (Int×Int):=(Bh (fun y M=>(Al p y m,M7 p M y m)) l 0 M).2
def Vx (p:Prog) (L nb:Nat) (l:List Int) (f:Bool) (hok:DE p) (hgw:CH (AR p)) (hfm: ∀x∈p.methods,CW (AR p) x.fact=true) (hl: ∀x∈l,A5 p x=true) :
    C5 Tryz.prog (.f (.func 104) [] [.p nb 0,.rp [Ff p L]]) eI (fun M=>[.box nb [.l (iL l) f],.map L (E2 p M)]) (fun m M=>(!(decide ((Bh (fun y M=>(Al p y m,M7 p M y m)) l 0 M).1≥0)),nK p l m M)) (fun m _=>A5 p m=true):=by
 intro m M hm σ hs;refine Bk ?_;show BD Tryz.prog 104 ([]++[eI m]++[.p nb 0,.rp [Ff p L]]) σ _;refine ma kZ ?_
 conv=>whnf
 repeat'((first|(apply sq;intro K U)|(apply si;intro A B Y Z)|(apply Y;clear Z B Y A)|(apply U;clear U K)|refine ld ?_|fail)<;>conv=>whnf)
 refine(GH 105 [] [.rp [Ff p L],.rp [eI m]] (fun M=>[.map L (E2 p M)]) _ _ (dM p L m hok hgw hfm hm) l f M (Gk fun y hy _=>hl y hy)).use (rest:=[_]) (hs.perm (.swap _ _ _)) ?_;clear hs;rintro r post σ ⟨rfl,rfl⟩ hs
 conv=>whnf
 repeat'((first|apply st|(apply Y;clear Z B Y A)|(apply U;clear U K)|fail)<;>conv=>whnf)
 exact Aq (hs.perm (.swap _ _ _)) (List.Sublist.refl _) (.refl _) fun σ' hs'=>⟨rfl,hs'⟩
def Za {p:Prog} (hok:DE p): ∀(l:List Int),l≠[]→(∀x∈l,A5 p x=true)→ ∃x∈l,∀y∈l,Al p y x=false
 | [],h,_=>absurd rfl h
 | x ::r,_,h=>by
   by_cases hr:r= []
   ·subst hr
    exact⟨x,.head _,fun y hy=>by rw[K8.1 hy];exact On x⟩
   obtain⟨z,hz,hz2⟩:=Za hok r hr fun y hy=>h y (.tail _ hy)
   cases hxz:Al p x z
   ·refine⟨z,.tail _ hz,fun y hy=>?_⟩
    rcases FE.1 hy with rfl|hy
    ·exact hxz
    ·exact hz2 y hy
   ·refine⟨x,.head _,fun y hy=>?_⟩
    rcases FE.1 hy with rfl|hy
    ·exact On y
    ·rw[←Bool.not_eq_true]
     intro e;have:=Rh hok (h y (.tail _ hy)) (h x (.head _)) (h z (.tail _ hz)) e hxz;rw[hz2 y hy]at this;cases this
def Pn {p:Prog} (hok:DE p) {l:List Int} (hl:l≠[]) (h: ∀x∈l,A5 p x=true): ∃i,QZ (Al p) l=some i:=by
 obtain⟨x,hx,hx2⟩:=Za hok l hl h;obtain⟨i,hi⟩:=List.getElem?_of_mem hx;cases hm:QZ (Al p) l with
 | some i=>exact⟨i,rfl⟩
 | none=>
   rw[QZ,List.find?_range_eq_none]at hm;have h1:=hm i (H4.1 hi).1
   have h2:R1 (Al p) l i l.length=true:=by
    rw[R1,EL];intro k hk;rw[FF hi,hx2 _ (Fv (List.mem_range.1 hk))];rfl
   rw[h2]at h1;cases h1
end Go.Gl
namespace Go.Gl
variable {P:Program} {σ:AH}
def aO {L:Nat} {args:List V} {Q:R→AH→Prop} (h:M9 P L args σ Q):Ay P (.f (.yield L) [] []) args σ Q:=h
def Ec {L:Nat} {E:Env} {ps:List Nat} {a b:AJ} {args:List V} {l:List At} (hl:args.length=ps.length) (hs:Sat σ (.obj L (.loop .ready E (Bx P ps a b))::l)) {Q:R→AH→Prop}
    (h: ∀σ,Sat σ l→W P a (Ck (W P b fun ex env' σ'=>σ' L=none→Qr L E (Bx P ps a b) Q ex env' σ')) (Je ps args E) σ):M9 P L args σ Q:=
 Oh (hs.get (i:=0) rfl) hl (h _ hs.del)
end Go.Gl
