import Derived.Test.YtijbpgdmpejgoaaGreatRows
import Derived.HandedShaped
import Derived.Test.YtijbpgdmpejgoaaGreatZ6
import Derived.Test.YtijbpgdmpejgoaaGreatZ10
import Derived.Test.YtijbpgdmpejgoaaGreatZ11
import Derived.Test.YtijbpgdmpejgoaaGreatZ13
import Derived.Test.YtijbpgdmpejgoaaGreatZ14
set_option linter.all false
set_option linter.defProp false
noncomputable section
namespace Go.Gl
open Go.Proofs
attribute [local irreducible] BC Ax Ai AU AO Ag AV AW AM Af AR AT A0 A9 Sat Ab A6 Ak W
abbrev pI (p:Int×Int):List V:=[eI p.1,eI p.2]
abbrev pP (l:List (Int×Int)):List (List V):=l.map pI
def Mz:Er pI 2:=fun x=>⟨rfl,fun v hv=>by
 simp only[pI,Fh,List.not_mem_nil,or_false]at hv
 rcases hv with rfl|rfl<;>rfl⟩
def I9 (p:Prog) (g:Int):Bool:=decide (0≤g)&&decide (g<(p.Cl.length:Int))
def Rl (k:Int):Bool:=decide (1≤k)&&decide (k≤4)
def Jf (n:Nat) (f:Nat→Nat→Bool) (i:Nat):List (Int×Int):=((List.range n).filter (f i)).map fun(j:Nat)=>((i:Int),(j:Int))
def P9 (n:Nat) (f:Nat→Nat→Bool):List (Int×Int):=(List.range n).flatMap (Jf n f)
def Hm (p:Prog) (gen kind:Int) (i j:Nat):Bool:=(BI p i).gen==gen&&((BI p i).kind==kind&&(Cw p i j&&Ap p i j))
def GK (p:Prog) (gen kind:Int):List (Int×Int)×Int:=if(BM p).isSome&&(I9 p gen&&Rl kind)then(P9 p.methods.length (Hm p gen kind),0)else([],2)
def ma (p:Prog) (g:Int):Pure Tryz.prog 52 [.a (BU p),eI g] (.b (I9 p g)):=by
 refine Pure.fit (by kernel_rfl) fun hf=>?_
 have⟨p1,p2,p3,p4⟩:=Gq hf.1;refine nS kZ ?_;have hs:=Sn
 conv=>whnf
 repeat'((first|apply st|(apply sq;intro K U)|(apply si;intro A B Y Z)|(apply Y;clear Z B Y A)|(apply U;clear U K)|refine⟨rfl,?_⟩|(constructor<;>intro hc<;>(try rw[hc])<;>(replace hc:=bp hc))|fail)<;>conv=>whnf)
 all_goals exact AI (by simp[I9, *]<;>omega)
def G7 (n:Nat) (f:Nat→Nat→Bool) (k:Nat):(List.range (k+1)).flatMap (Jf n f)=(List.range k).flatMap (Jf n f)++Jf n f k:=by
 rw[List.range_succ,List.flatMap_append];simp
def Ko (f:Nat→Nat→Bool) (i k:Nat):List (Int×Int):=((List.range k).filter (f i)).map fun(j:Nat)=>((i:Int),(j:Int))
def Ia (f:Nat→Nat→Bool) (i k:Nat):Ko f i (k+1)=Ko f i k++(if f i k then [((i:Int),(k:Int))]else []):=by
 rw[Ko,List.range_succ,List.filter_append,TN,Ko];cases h:f i k<;>simp[h]
def QR (f:Nat→Nat→Bool) (i k:Nat):(Ko f i k).length≤k:=by
 rw[Ko,BQ];exact Nat.le_trans (OJ _ _) (by simp)
def MP (n:Nat) (f:Nat→Nat→Bool) (k:Nat):((List.range k).flatMap (Jf n f)).length≤k*n:=by
 induction k with
 | zero=>simp
 | succ k ih=>
   rw[G7,RA,Nat.succ_mul];have:=QR f k n;have e:Jf n f k=Ko f k n:=rfl;rw[e];omega
def Q4 (p:Prog) (gen:Int) (i j:Nat):Bool:=decide (i<j)&&((BI p i).gen==gen&&(Cw p i j&&(ES p i j&&ES p j i)))
def Ky (p:Prog) (gen:Int):List (Int×Int)×Int:=if(BM p).isSome&&I9 p gen then(P9 p.methods.length (Q4 p gen),0)else([],2)
def Sr (xs ys:List (Int×Int)) (f g:Bool) (hl:xs.length≤1000) (hm:ys.length≤1000):Pure Tryz.prog 19 [.l (pP xs) f,.l (pP ys) g] (.b (xs==ys)):=by
 have hM:=Mx;refine ni kZ ?_;have hs:=Sn;by_cases hlen:xs.length=ys.length
 ·conv=>whnf
  repeat'((first|apply st|(apply sq;intro K U)|(apply si;intro A B Y Z)|(apply Y;clear Z B Y A)|(apply U;clear U K)|refine⟨rfl,?_⟩|(constructor<;>intro hc<;>(try rw[hc])<;>(replace hc:=bp hc)<;>(try simp(disch:=omega) only[BQ,wrap64,AL]at hc)<;>try(exfalso;omega))|fail)<;>conv=>whnf)
  refine CZ xs.length (fun k (_:Unit)=>[(5,eI (BL k))]) (fun _ _=>[]) (fun k _=>(xs==ys)=(xs.drop k==ys.drop k)) () rfl rfl Sat.nil ?_;clear hs;rintro k - σ hk hn hs;rcases BS xs hk with⟨x,hx,hlt⟩|hke
  ·obtain⟨y,hy⟩: ∃y,ys[k]? =some y:=⟨_,Da (by omega)⟩
   rw[drop_cons hx,drop_cons hy]at hn
   conv=>whnf
   repeat'((first|apply st|(apply sq;intro K U)|(apply si;intro A B Y Z)|(apply Y;clear Z B Y A)|(apply U;clear U K)|apply dr|refine⟨rfl,?_⟩|refine⟨kZ,?_⟩|refine ix ?_|(refine Cs (fun hc=>?_)<;>(try rw[hc])<;>clear hc)|(constructor<;>intro hc<;>(try rw[hc])<;>(replace hc:=bp hc)<;>(try simp(disch:=omega) only[BQ,wrap64,AL]at hc))|clear U K)<;>conv=>whnf)
   ·refine AI ?_
    rw[hn];congr 1;rw[Bool.and_true]at hc;rw[List.cons_beq_cons,show(x==y)=(x.1==y.1&&x.2==y.2) from rfl,hc];rfl
   ·refine⟨hlt,(),rfl,?_,hs⟩
    rw[Bool.and_true]at hc;rw[hn,List.cons_beq_cons,show(x==y)=(x.1==y.1&&x.2==y.2) from rfl,hc,EW]
  ·conv=>whnf
   repeat'((first|apply st|(apply sq;intro K U)|(apply si;intro A B Y Z)|(apply Y;clear Z B Y A)|(apply U;clear U K)|refine⟨rfl,?_⟩|(refine EV (fun hc=>?_)<;>(try rw[hc])<;>clear hc)|clear U K)<;>conv=>whnf)
   exact AI (by rw[hn,An hke,An (by omega)];rfl)
 ·conv=>whnf
  repeat'((first|apply st|(apply sq;intro K U)|(apply si;intro A B Y Z)|(apply Y;clear Z B Y A)|(apply U;clear U K)|refine⟨rfl,?_⟩|(constructor<;>intro hc<;>(try rw[hc])<;>(replace hc:=bp hc)<;>(try simp(disch:=omega) only[BQ,wrap64,AL]at hc)<;>try(exfalso;omega))|clear U K)<;>conv=>whnf)
  exact AI (by(have:(xs==ys)=false:=by(simp;intro e;subst e;exact hlen rfl));rw[this])
def YQ (p:Prog) (L:Nat) (g:Int):Pure Tryz.prog 49 [FR p L,eI g] (.b (I9 p g)):=by
 refine Pure.fit (by kernel_rfl) fun hf=>?_
 have hM:=Mx;refine eQ kZ ?_;have hs:=Sn
 conv=>whnf
 repeat'((first|apply st|(apply sq;intro K U)|(apply si;intro A B Y Z)|(apply Y;clear Z B Y A)|(apply U;clear U K)|refine⟨rfl,?_⟩|(constructor<;>intro hc<;>(try rw[hc])<;>(replace hc:=bp hc))|fail)<;>conv=>whnf)
 all_goals exact AI (by simp[I9, *]<;>omega)
def Tq (g:Int):Pure Tryz.prog 49 [.pn,eI g] (.b false):=by
 refine eQ kZ ?_;have hs:=Sn
 conv=>whnf
 repeat'((first|apply st|(apply sq;intro K U)|(apply si;intro A B Y Z)|(apply Y;clear Z B Y A)|(apply U;clear U K)|refine EA ?_|fail)<;>conv=>whnf)
 all_goals exact AI rfl
def WI (p:Prog) (L:Nat) (g:Int):Pure Tryz.prog 50 [FR p L,eI g] (.f (.func 75) [] [.rp [FR p L],.rp [eI g]]):=by
 refine nU kZ ?_;have hs:=Sn
 conv=>whnf
 repeat'((first|apply st|(apply sq;intro K U)|(apply si;intro A B Y Z)|(apply Y;clear Z B Y A)|(apply U;clear U K)|fail)<;>conv=>whnf)
 all_goals exact AI rfl
def Y4 (xs:List (Int×Int)) (v:V) (hl:xs.length≤Ae):Bd Tryz.prog 51 [v] [.own v 2 (pP xs)] fun r post=>r= .ret (.l (pP xs) true)∧post= []:=by
 intro σ hs;have hg:=DQ Mz xs;refine nT kZ ?_
 conv=>whnf
 repeat'((first|(apply sq;intro K U)|(apply si;intro A B Y Z)|(apply Y;clear Z B Y A)|(apply U;clear U K)|refine lo ?_|fail)<;>conv=>whnf)
 refine U9 (i:=0) hs rfl hg.1 (by simpa using hl) fun σ hs=>?_
 conv=>whnf
 repeat'((first|apply st|(apply Y;clear Z B Y A)|(apply U;clear U K)|fail)<;>conv=>whnf)
 exact Ar hs (List.Sublist.refl _) (.refl _) fun σ' hs'=>⟨_,⟨rfl,rfl⟩,hs'⟩
def Bt (fI:Int) (v:Int×Int):Bool:=
 if v.1=1 then decide (-1000000000≤v.2)&&decide (v.2≤1000000000)else if v.1=2 then v.2==0 else if v.1=3 then decide (0≤v.2)&&decide (v.2<fI)else false
def bW (v:Int×Int) (n:Int):Pure Tryz.prog 80 [.a (pI v),eI n] (.b (Bt n v)):=by
 obtain⟨k,x⟩:=v;refine m9 kZ ?_;have hs:=Sn
 conv=>whnf
 repeat'((first|apply st|(apply sq;intro K U)|(apply si;intro A B Y Z)|(apply Y;clear Z B Y A)|(apply U;clear U K)|refine⟨rfl,?_⟩|(constructor<;>intro hc<;>(try rw[hc])<;>(replace hc:=bp hc)<;>(try simp(disch:=omega) only[BQ,wrap64,AL]at hc))|clear U K)<;>conv=>whnf)
 all_goals exact AI (by simp[Bt, *]<;>omega)
def l6 (v:Int×Int) (n:Int):Pure Tryz.prog 92 [.a (pI v),eI n] (.b (Bt n v)):=by
 obtain⟨k,x⟩:=v;refine my kZ ?_;have hs:=Sn
 conv=>whnf
 repeat'((first|apply st|(apply sq;intro K U)|(apply si;intro A B Y Z)|(apply Y;clear Z B Y A)|(apply U;clear U K)|refine⟨rfl,?_⟩|(constructor<;>intro hc<;>(try rw[hc])<;>(replace hc:=bp hc)<;>(try simp(disch:=omega) only[BQ,wrap64,AL]at hc))|clear U K)<;>conv=>whnf)
 all_goals exact AI (by simp[Bt, *]<;>omega)
def YY (l:List (Int×Int)) (f:Bool) (n:Int):Pure Tryz.prog 63 [.l (pP l) f,eI n] (.b (l.all (Bt n))):=by
 refine Pure.fit (by kernel_rfl) fun hf=>?_
 have hl:l.length≤Ae:=by
  have:=hf.1;simp only[Ed,BQ]at this;exact this.1
 have hM:=Mx;refine nJ kZ ?_;have hs:=Sn
 conv=>whnf
 repeat'((first|apply st|(apply sq;intro K U)|(apply si;intro A B Y Z)|(apply Y;clear Z B Y A)|(apply U;clear U K)|fail)<;>conv=>whnf)
 refine CZ l.length (fun k (_:Unit)=>[(9,eI (BL k))]) (fun _ _=>[]) (fun k _=>l.all (Bt n)=(l.drop k).all (Bt n)) () rfl rfl hs ?_;clear hs;rintro k - σ hk hn hs;rcases BS l hk with⟨x,hx,hlt⟩|hke
 ·have c1:=l6 x n
  rw[drop_cons hx,TV]at hn;cases hv:Bt n x<;>rw[hv]at c1 hn
  ·conv=>whnf
   repeat'((first|apply st|(apply sq;intro K U)|(apply si;intro A B Y Z)|(apply Y;clear Z B Y A)|(apply U;clear U K)|refine⟨rfl,?_⟩|refine⟨kZ,?_⟩|refine ix ?_|refine ld ?_|refine DJ fun σ hs=>?_|refine E7 ?_|(refine Cs (fun hc=>?_)<;>(try rw[hc])<;>clear hc)|refine c1.use ?_|(intro nn hnn;generalize hg:A8 _ nn _=σ;refine CW hg fun hs=>?_;clear hg)|clear U K)<;>conv=>whnf)
   exact AI (by rw[hn];rfl)
  ·conv=>whnf
   repeat'((first|apply st|(apply sq;intro K U)|(apply si;intro A B Y Z)|(apply Y;clear Z B Y A)|(apply U;clear U K)|refine⟨rfl,?_⟩|refine⟨kZ,?_⟩|refine ix ?_|refine ld ?_|refine DJ fun σ hs=>?_|refine EA ?_|(refine Cs (fun hc=>?_)<;>(try rw[hc])<;>clear hc)|refine c1.use ?_|(intro nn hnn;generalize hg:A8 _ nn _=σ;refine CW hg fun hs=>?_;clear hg)|clear U K)<;>conv=>whnf)
   exact⟨hlt,(),rfl,hn,hs.less (Lx _)⟩
 ·conv=>whnf
  repeat'((first|apply st|(apply sq;intro K U)|(apply si;intro A B Y Z)|(apply Y;clear Z B Y A)|(apply U;clear U K)|refine⟨rfl,?_⟩|(refine EV (fun hc=>?_)<;>(try rw[hc])<;>clear hc)|clear U K)<;>conv=>whnf)
  exact AI (by rw[hn,An hke];rfl)
def Pz (w:AK) (c:Int):Bool:=decide (3≤c)&&decide (c<3+(w.parents.length:Int))
def CG (w:AK) (c:Int):List Int:=(Bk w.owner.length).filter (hasB w c)
abbrev Ob:=Int×List (Int×Int)
abbrev E6 (o:Ob):List V:=[eI o.1,.l (pP o.2) false]
def Kr (w:AK) (n:Int) (o:Ob):Bool:=Pz w o.1&&(o.2.length==(CG w o.1).length&&o.2.all (Bt n))
def FC (w:AK) (os:List Ob):Bool:=decide (os.length≤40)&&os.all (Kr w os.length)
def mH (w:AK) (c:Int) (hw:Km w):Pure Tryz.prog 89 [.a (A2 w),eI c] (.b (Pz w c)):=by
 have hl:=hw.len;have hw3:IntKind.i64.wrap (3+(w.parents.length:Int))=3+w.parents.length:=wrap64 (by omega) (by omega);refine m5 kZ ?_;have hs:=Sn
 conv=>whnf
 repeat'((first|apply st|(apply sq;intro K U)|(apply si;intro A B Y Z)|(apply Y;clear Z B Y A)|(apply U;clear U K)|refine⟨rfl,?_⟩|(constructor<;>intro hc<;>(try rw[hc])<;>(replace hc:=bp hc))|fail)<;>conv=>whnf)
 all_goals try rw[hw3]at hc
 all_goals exact AI (by simp only[hw3,Pz];simp[*]<;>omega)
def VH (w:AK) (c:Int) (hw:Km w) (hc0:0≤c) (hc1:c<3+w.parents.length):Pure Tryz.prog 90 [.a (A2 w),eI c] (.l (iL (CG w c)) false):=by
 have hM:=Mx;have hol:=hw.bN;refine m4 kZ ?_;have hs:=Sn
 conv=>whnf
 repeat'((first|apply st|(apply sq;intro K U)|(apply si;intro A B Y Z)|(apply Y;clear Z B Y A)|(apply U;clear U K)|fail)<;>conv=>whnf)
 refine CZ w.owner.length (fun k v=>[(5,v),(10,eI (BL k))]) (fun k v=>[.own v 1 (iL ((Bk k).filter (hasB w c)))]) (fun _ _=>True) (.l [] true) rfl trivial (Gg Sat.nil 1) ?_;clear hs;rintro k v σ hk - hs;have hfl:=OJ (hasB w c) (Bk k);rw[Fx]at hfl;rcases BS w.owner hk with⟨s,hso,hlt⟩|hke
 ·have hck:BL k=k:=AL (by omega)
  have c1:Pure Tryz.prog 122 [.a (A2 w),eI c,eI (BL k)] (.b (hasB w c k)):=by rw[hck];exact To w c k hw hc0 hc1 (by omega) (by omega)
  have hst:(Bk (k+1)).filter (hasB w c)=if hasB w c k then(Bk k).filter (hasB w c)++[(k:Int)]else(Bk k).filter (hasB w c):=by
   rw[GO,List.filter_append];cases hp:hasB w c k<;>simp[hp]
  generalize (Bk k).filter (hasB w c)=zs at *;have hll:zs.length<Ae∧(zs.length+1)*8≤140737488355328:=by omega
  cases hh:hasB w c k<;>rw[hh]at c1 hst
  ·conv=>whnf
   repeat'((first|apply st|(apply sq;intro K U)|(apply si;intro A B Y Z)|(apply Y;clear Z B Y A)|(apply U;clear U K)|refine⟨rfl,?_⟩|refine⟨kZ,?_⟩|(refine Cs (fun hc=>?_)<;>(try rw[hc])<;>clear hc)|refine c1.use ?_|clear U K)<;>conv=>whnf)
   exact⟨hlt,_,rfl,trivial,by rw[hst];exact hs⟩
  ·conv=>whnf
   repeat'((first|apply st|(apply sq;intro K U)|(apply si;intro A B Y Z)|(apply Y;clear Z B Y A)|(apply U;clear U K)|refine⟨rfl,?_⟩|refine⟨kZ,?_⟩|refine aq fun v σ hs hsl=>?_|(refine Cs (fun hc=>?_)<;>(try rw[hc])<;>clear hc)|refine c1.use ?_|clear U K)<;>conv=>whnf)
   exact⟨hlt,_,rfl,trivial,by rw[hst,←hck];exact hs⟩
 ·rw[hke]at hs
  conv=>whnf
  repeat'((first|apply st|(apply sq;intro K U)|(apply si;intro A B Y Z)|(apply Y;clear Z B Y A)|(apply U;clear U K)|refine⟨rfl,?_⟩|(refine EV (fun hc=>?_)<;>(try rw[hc])<;>clear hc)|clear U K)<;>conv=>whnf)
  exact Bu (hs.RL 0 rfl)
set_option maxHeartbeats 1000000 in
def gC (w : AK) (os:List Ob) (f:Bool) (hw:Km w):Pure Tryz.prog 61 [.a (A2 w),.l (os.map E6) f] (.b (FC w os)):=by
 refine Pure.fit (by kernel_rfl) fun hf=>?_
 have hM:=Mx
 have hol:os.length≤Ae:=by
  have:=hf.2.1;simp only[Ed,BQ]at this;exact this.1
 refine nM kZ ?_;have hs:=Sn;by_cases h40:os.length≤40
 ·have e0 : FC w os=os.all (Kr w os.length):=by rw[FC,decide_eq_true h40,EW]
  rw[e0]
  conv=>whnf
  repeat'((first|apply st|(apply sq;intro K U)|(apply si;intro A B Y Z)|(apply Y;clear Z B Y A)|(apply U;clear U K)|refine⟨rfl,?_⟩|(constructor<;>intro hc<;>(try rw[hc])<;>(replace hc:=bp hc)<;>(try simp(disch:=omega) only[BQ,wrap64,AL]at hc)<;>try(exfalso;omega))|fail)<;>conv=>whnf)
  refine CZ os.length (fun k (_:Unit)=>[(12,eI (BL k))]) (fun _ _=>[]) (fun k _=>os.all (Kr w os.length)=(os.drop k).all (Kr w os.length)) () rfl rfl hs ?_;clear hs;rintro k - σ hk hn hs;rcases BS os hk with⟨x,hx,hlt⟩|hke
  ·rw [drop_cons hx,TV]at hn
   have c1:=mH w x.1 hw;cases ho:Pz w x.1<;>rw[ho]at c1
   ·conv=>whnf
    repeat'((first|apply st|(apply sq;intro K U)|(apply si;intro A B Y Z)|(apply Y;clear Z B Y A)|(apply U;clear U K)|apply dr|refine rk ?_ ?_|exact fun s e=>by cases e;rfl|refine⟨rfl,?_⟩|refine⟨kZ,?_⟩|refine ix ?_|refine ld ?_|refine DJ fun σ hs=>?_|refine WU ?_|(refine Cs (fun hc=>?_)<;>(try rw[hc])<;>clear hc)|refine c1.use ?_|(intro nn hnn;generalize hg:A8 _ nn _=σ;refine CW hg fun hs=>?_;clear hg)|clear U K)<;>conv=>whnf)
    all_goals exact AI (by rw[hn,Kr,ho];rfl)
   ·have ho':=ho
    simp only[Pz,BY,CY]at ho';have c2:=VH w x.1 hw (by omega) (by omega);have e3:((os.map E6).length:Int)=os.length:=by simp
    have c3:Pure Tryz.prog 63 [.l (pP x.2) false,eI ((os.map E6).length:Int)] (.b (x.2.all (Bt os.length))):=by rw[e3];exact YY x.2 false os.length
    have hob:Kr w os.length x=(x.2.length==(CG w x.1).length&&x.2.all (Bt os.length)):=by rw[Kr,ho,EW]
    rw[hob]at hn;by_cases he:x.2.length=(CG w x.1).length
    ·rw [Dn.2 he,EW]at hn
     cases hv:x.2.all (Bt os.length)<;>rw[hv]at c3 hn
     ·conv=>whnf
      repeat'((first|apply st|(apply sq;intro K U)|(apply si;intro A B Y Z)|(apply Y;clear Z B Y A)|(apply U;clear U K)|apply dr|refine rk ?_ ?_|exact fun s e=>by cases e;rfl|refine⟨rfl,?_⟩|refine⟨kZ,?_⟩|refine ix ?_|refine ld ?_|refine DJ fun σ hs=>?_|refine E7 ?_|refine Ku ?_|(refine Cs (fun hc=>?_)<;>(try rw[hc])<;>clear hc)|refine c1.use ?_|refine c2.use ?_|refine c3.use ?_|(constructor<;>intro hc<;>(try rw[hc])<;>(replace hc:=bp hc)<;>(try simp(disch:=omega) only[BQ,wrap64,AL]at hc))|(intro nn hnn;generalize hg:A8 _ nn _=σ;refine CW hg fun hs=>?_;clear hg)|clear U K)<;>conv=>whnf)
      all_goals first
       | exact AI (by rw[hn];rfl)
       | (exfalso;simp[he]at hc;done)
     ·conv=>whnf
      repeat'((first|apply st|(apply sq;intro K U)|(apply si;intro A B Y Z)|(apply Y;clear Z B Y A)|(apply U;clear U K)|apply dr|refine rk ?_ ?_|exact fun s e=>by cases e;rfl|refine⟨rfl,?_⟩|refine⟨kZ,?_⟩|refine ix ?_|refine ld ?_|refine DJ fun σ hs=>?_|refine EA ?_|refine Ku ?_|(refine Cs (fun hc=>?_)<;>(try rw[hc])<;>clear hc)|refine c1.use ?_|refine c2.use ?_|refine c3.use ?_|(constructor<;>intro hc<;>(try rw[hc])<;>(replace hc:=bp hc)<;>(try simp(disch:=omega) only[BQ,wrap64,AL]at hc))|(intro nn hnn;generalize hg:A8 _ nn _=σ;refine CW hg fun hs=>?_;clear hg)|clear U K)<;>conv=>whnf)
      all_goals first
       | exact⟨hlt,(),rfl,hn,hs.less (Lx _)⟩
       | (exfalso;simp[he]at hc;done)
    ·rw[beq_eq_false_iff_ne.2 he,Bool.false_and,Bool.false_and]at hn
     cases hv:x.2.all (Bt os.length)<;>rw[hv]at c3
     all_goals
      conv=>whnf
      repeat'((first|apply st|(apply sq;intro K U)|(apply si;intro A B Y Z)|(apply Y;clear Z B Y A)|(apply U;clear U K)|apply dr|refine rk ?_ ?_|exact fun s e=>by cases e;rfl|refine⟨rfl,?_⟩|refine⟨kZ,?_⟩|refine ix ?_|refine ld ?_|refine DJ fun σ hs=>?_|refine E7 ?_|refine EA ?_|refine Ku ?_|(refine Cs (fun hc=>?_)<;>(try rw[hc])<;>clear hc)|refine c1.use ?_|refine c2.use ?_|refine c3.use ?_|(constructor<;>intro hc<;>(try rw[hc])<;>(replace hc:=bp hc)<;>(try simp(disch:=omega) only[BQ,wrap64,AL]at hc))|(intro nn hnn;generalize hg:A8 _ nn _=σ;refine CW hg fun hs=>?_;clear hg)|clear U K)<;>conv=>whnf)
     all_goals first
      | exact AI (by rw[hn])
      | (exfalso;have q:(bif !true then true else(x.2.length:Int) != ((CG w x.1).length:Int))=false:=(by assumption);simp at q;omega)
      | (exfalso;simp at hc;omega)
  ·conv=>whnf
   repeat'((first|apply st|(apply sq;intro K U)|(apply si;intro A B Y Z)|(apply Y;clear Z B Y A)|(apply U;clear U K)|refine⟨rfl,?_⟩|(refine EV (fun hc=>?_)<;>(try rw[hc])<;>clear hc)|clear U K)<;>conv=>whnf)
   exact AI (by rw[hn,An hke];rfl)
 ·conv=>whnf
  repeat'((first|apply st|(apply sq;intro K U)|(apply si;intro A B Y Z)|(apply Y;clear Z B Y A)|(apply U;clear U K)|refine⟨rfl,?_⟩|(constructor<;>intro hc<;>(try rw[hc])<;>(replace hc:=bp hc)<;>(try simp(disch:=omega) only[BQ,wrap64,AL]at hc)<;>try(exfalso;omega))|clear U K)<;>conv=>whnf)
  exact AI (by rw[FC,decide_eq_false h40];rfl)
end Go.Gl
namespace Go.Gl
open Go.Proofs
section
variable {H:Type} {enc:TypeId×Value→H} {W:World}
def mB:Oi enc Tryz.prog W 79 pI:=fun n=>
 GI (Ez Tryz.underlying79
  (fun n=>BV (c:=1) rfl (by kernel_rfl) (fun _=>rfl) (Mu Tryz.underlying77 n) (BV (c:=1) rfl (by kernel_rfl) (fun _=>rfl) (Kp n) GJ)) (fun _=>(show _=2 from rfl).trans (by kernel_rfl)) n) (fun x=>(x.1,x.2.1)) fun _=>rfl
def Ye:Oi enc Tryz.prog W 42 fun l:List (Int×Int)=>[V.l (pP l) false]:=Fu (sz:=2) Tryz.underlying42 (by kernel_rfl) (by decide) (b8 (by kernel_rfl)) (fun _=>rfl) mB
def sI:Oi enc Tryz.prog W 81 E6:=fun n=>
 GI (Ez Tryz.underlying81
  (fun n=>BV (c:=1) rfl (by kernel_rfl) (fun _=>rfl) (Kp n) (BV (c:=1) rfl (by kernel_rfl) (fun _=>rfl) (Ye n) GJ)) (fun _=>(show _=2 from rfl).trans (by kernel_rfl)) n) (fun x=>(x.1,x.2.1)) fun _=>rfl
def mC:Oi enc Tryz.prog W 41 fun l:List Ob=>[V.l (l.map E6) false]:=Fu (sz:=2) Tryz.underlying41 (by kernel_rfl) (by decide) (b8 (by kernel_rfl)) (fun _=>rfl) sI
end
end Go.Gl
namespace Go.Proofs.YtijbpgdmpejgoaaGreat
open Go.Gl Go.ChangeShapes Go.WideShapes Go.ChangeAt Go.RowKit
theorem own:ownKnob Tryz.prog.godebug=none:=by kernel_rfl
def laidOut:laidOutB Tryz.prog=true:=by kernel_rfl
def ET {a b:Bool} (h1:a=true) (h2:b=true):(a&&b)=true:=by rw[h1,h2];rfl
abbrev HE (w:World):=Hh (fun _=>False) emp w
def sA {w:World} {n:Int} (h:(Lit.int .i64 n).wf=true):Aa (HE w) (eI n) (.int .i64 n):=by
 simp only[Lit.wf,BY,CY]at h;simp only[Aa];exact⟨trivial,h⟩
def l7 {w:World} {cs:Array Value} {p:Prog} (hp:cs.toList.length=(BU p).length∧BZ (HE w) (fun i=>cs.toList[i]?) 0 (BU p)):Aa (HE w) (.a (BU p)) (.agg cs):=by
 simp only[Aa];exact⟨cs,rfl,by simpa using hp.1,by simpa using hp.2⟩
end Go.Proofs.YtijbpgdmpejgoaaGreat
namespace Go.Gl
open Go.Proofs
attribute [local irreducible] BC Ax Ai AU AO Ag AV AW AM Af AR AT A0 A9 Sat Ab A6 Ak W
def SZ (g:FuncId) (fi ca:List V) (q:Int→Bool) (xs:List Int) (hpf: ∀y∈xs,Pure Tryz.prog g (fi++[eI y]++ca) (.b (q y))) (f:Bool) (hxl:xs.length≤1000):Pure Tryz.prog 83 [.l (iL xs) f,.f (.func g) fi ca] (.l (iL (xs.filter q)) true):=by
 refine Pure.of ?_;have hM:=Mx;refine m7 kZ ?_;have hs:=Sn
 conv=>whnf
 repeat'((first|apply st|(apply sq;intro K U)|(apply si;intro A B Y Z)|(apply Y;clear Z B Y A)|(apply U;clear U K)|fail)<;>conv=>whnf)
 refine CZ xs.length (fun k v=>[(5,v),(10,eI (BL k))]) (fun k v=>[.own v 1 (iL ((xs.take k).filter q))]) (fun _ _=>True) (.l [] true) rfl trivial (Gg hs 1) ?_;clear hs;rintro k v σ hk - hs;have hfl:=OJ q (xs.take k);rw[MS]at hfl;rcases BS xs hk with⟨y,hy,hlt⟩|hke
 ·have hpy:=hpf y (Cj hy)
  have hst:(xs.take (k+1)).filter q=if q y then(xs.take k).filter q++[y]else(xs.take k).filter q:=by
   rw[AX hy,List.filter_append];cases hp:q y<;>simp[hp]
  generalize (xs.take k).filter q=zs at *;have hll:zs.length<Ae∧(zs.length+1)*8≤140737488355328:=by omega
  conv=>whnf
  repeat'((first|apply st|(apply sq;intro K U)|(apply si;intro A B Y Z)|(apply Y;clear Z B Y A)|(apply U;clear U K)|refine⟨rfl,?_⟩|refine ix ?_|refine aq fun v σ hs hsl=>?_|(refine Cs (fun hc=>?_)<;>(try rw[hc])<;>clear hc)|refine Bl (hpy.use ?_)|(constructor<;>intro hc<;>(try rw[hc])<;>(replace hc:=bp hc))|clear U K)<;>conv=>whnf)
  ·rw[if_pos (by assumption)]at hst
   exact⟨hlt,_,rfl,trivial,by rw[hst];exact hs⟩
  ·rw[if_neg (by simp[*])]at hst
   exact⟨hlt,_,rfl,trivial,by rw[hst];exact hs⟩
 ·rw[BK hke]at hs
  conv=>whnf
  repeat'((first|apply st|(apply sq;intro K U)|(apply si;intro A B Y Z)|(apply Y;clear Z B Y A)|(apply U;clear U K)|refine⟨rfl,?_⟩|(refine EV (fun hc=>?_)<;>(try rw[hc])<;>clear hc)|clear U K)<;>conv=>whnf)
  refine(M3 (xs.filter q) v (by have:=OJ q xs;omega)).use (rest:=[]) (by simpa using hs) ?_;clear hs;rintro r post σ ⟨rfl,rfl⟩ hs
  conv=>whnf
  repeat'((first|apply st|(apply Y;clear Z B Y A)|(apply U;clear U K)|fail)<;>conv=>whnf)
  exact AP (by rfl)
def mN (x y:Int):Pure Tryz.prog 132 [eI y,.rp [eI x]] (.b (y != x)):=by
 refine kP kZ ?_;have hs:=Sn
 conv=>whnf
 repeat'((first|apply st|(apply sq;intro K U)|(apply si;intro A B Y Z)|(apply Y;clear Z B Y A)|(apply U;clear U K)|refine⟨rfl,?_⟩|fail)<;>conv=>whnf)
 all_goals exact AI (by rfl)
def K7 (xs:List Int) (f:Bool) (x:Int) (hxl:xs.length≤1000):Pure Tryz.prog 98 [.l (iL xs) f,eI x] (.l (iL (xs.filter (· != x))) true):=by
 have c1:=SZ 132 [] [.rp [eI x]] (· != x) xs (fun y _=>mN x y) f hxl;refine mo kZ ?_;have hs:=Sn
 conv=>whnf
 repeat'((first|apply st|(apply sq;intro K U)|(apply si;intro A B Y Z)|(apply Y;clear Z B Y A)|(apply U;clear U K)|refine c1.use ?_|fail)<;>conv=>whnf)
 all_goals exact AI (by rfl)
end Go.Gl
namespace Go.Gl
open Go.Proofs
attribute [local irreducible] BC Ax Ai AU AO Ag AV AW AM Af AR AT A0 A9 Sat Ab A6 Ak W
def cM (l:List Int) (f kd:Bool):Pure Tryz.prog 66 [.pn,.l (iL l) f,.b kd] (.b false):=by
 have c1:=Yn l f;refine YS kZ ?_;have hs:=Sn
 conv=>whnf
 repeat'((first|apply st|(apply sq;intro K U)|(apply si;intro A B Y Z)|(apply Y;clear Z B Y A)|(apply U;clear U K)|refine E7 ?_|refine Pure.use (by assumption) ?_|clear U K)<;>conv=>whnf)
 all_goals exact AI rfl
def Ze {M:List Int} {x:Int} (h:M.contains x=false):MX M x=M++[x]:=by
 rw[MX,if_neg (by rw[h];decide)]
set_option maxHeartbeats 2000000 in
def ga (p : Prog) (L:Nat) (l:List Int) (f kd:Bool) (hl:l.length≤1000):Pure Tryz.prog 66 [FR p L,.l (iL l) f,.b kd] (.b (Gp p l kd)):=by
 refine Pure.fit (by kernel_rfl) fun hf=>?_
 have hM:=Mx;have c1:=eE p L l f;cases hm:l.all (BE p)<;>rw[hm]at c1
 ·have hb:Gp p l kd=false:=by
   rw[←Bool.not_eq_true];intro h;rw[Gp,BY,EY]at h;rw[←Bool.not_eq_true,EY]at hm;refine hm fun x hx=>?_
   have:=h.1 x hx;simp only[dc,BY]at this;exact this.1
  refine YS kZ ?_;have hs:=Sn
  conv=>whnf
  repeat'((first|apply st|(apply sq;intro K U)|(apply si;intro A B Y Z)|(apply Y;clear Z B Y A)|(apply U;clear U K)|refine E7 ?_|refine c1.use ?_|clear U K)<;>conv=>whnf)
  all_goals exact AI (by rw[hb])
 rw[EY]at hm;refine YS kZ ?_;have hs:=Sn
 conv=>whnf
 repeat'((first|apply st|(apply sq;intro K U)|(apply si;intro A B Y Z)|(apply Y;clear Z B Y A)|(apply U;clear U K)|refine EA ?_|refine c1.use ?_|(intro nn hnn;generalize hg:A8 _ nn _=σ;refine CW hg fun hs=>?_;clear hg)|fail)<;>conv=>whnf)
 clear c1;replace hs:Sat σ [.map nn (Px [])]:=hs;refine CZ l.length (fun i (_:Unit)=>[(17,eI (BL i))]) (fun i _=>[.map nn (Px (l.take i))]) (fun i _=>(∀k y,k<i→l[k]? =some y→dc p l kd y=true)∧(l.take i).Nodup) () rfl ⟨fun k y h=>by omega,by simp⟩ hs ?_;clear hs;rintro i - σ hi ⟨ho,hn⟩ hs;rcases BS l hi with⟨x,hx,hlt⟩|hie
 ·have hci : BL i=i:=AL (by omega)
  obtain⟨z,hz⟩: ∃z,l[0]? =some z:=⟨_,Da (by omega)⟩
  have hz0:=E8 hz;have hmx:=hm x (Cj hx);have hmz:=hm z (Cj hz);have hbad:=fun h=>XB (p:=p) (kd:=kd) hx h
  rw[dc,hz0]at hbad;have hxP:=CQ hmx;have hzP:=CQ hmz;have c2:=MR p L x z hmx hmz;have hxr:=hmx;have hzr:=hmz;simp only[BE,BY,CY]at hxr hzr;cases hcon:(l.take i).contains x
  ·have hne : ∀k y,k<i→l[k]? =some y→y≠x:=fun k y h h2 e=>by
    rw[←Bool.not_eq_true,List.contains_iff_mem]at hcon;exact hcon (Cj (i:=k) (by rw[List.getElem?_take,if_pos h,h2,e]))
   have hnd:=UL hx hn hne;have hput:=Ze hcon;rw[←AX hx]at hput;by_cases hg:(BI p x).gen=(BI p z).gen
   ·have hoxF:(!kd||Cw p x z)=true→dc p l kd x=true:=fun h=>by rw[dc,hz0,hmx,hg,h];simp
    cases hal:Cw p x z<;>rw[hal]at c2 hoxF<;>cases kd
    all_goals
     conv=>whnf
     repeat'((first|apply st|(apply sq;intro K U)|(apply si;intro A B Y Z)|(apply Y;clear Z B Y A)|(apply U;clear U K)|apply dr|refine⟨rfl,?_⟩|refine ix ?_|refine F8 ?_|refine E7 ?_|refine EA ?_|(refine Cs (fun hc=>?_)<;>(try rw[hc])<;>clear hc)|refine c2.use ?_|(refine IQ hs 0 rfl rfl (G0 _) ?_;rw[KE,hcon])|(refine HL hs 0 rfl rfl (G0 _) fun σ hs=>?_)|(constructor<;>intro hc<;>(try rw[hc])<;>(replace hc:=bp hc)<;>try(exfalso;omega))|clear U K)<;>conv=>whnf)
    all_goals first
     | exact AI (by rw[hbad (by simp[hal,hg])])
     | (exfalso;simp[hg]at hc;done)
     | (have hox:=hoxF rfl
        refine⟨hlt,(),rfl,⟨fun k' y' h h2=>?_,hnd⟩,?_⟩
        ·rcases Nat.lt_or_ge k' i with h'|h'
         ·exact ho k' y' h' h2
         ·rw[show k'=i by omega,hx]at h2
          rw[←Option.some.inj h2];exact hox
        ·replace hs:Sat σ [.map nn (D5 (eI x) (.b true) (Px (l.take i)))]:=hs
         rw[Vd,hput]at hs
         exact hs)
   ·conv=>whnf
    repeat'((first|apply st|(apply sq;intro K U)|(apply si;intro A B Y Z)|(apply Y;clear Z B Y A)|(apply U;clear U K)|apply dr|refine⟨rfl,?_⟩|refine ix ?_|refine F8 ?_|(refine Cs (fun hc=>?_)<;>(try rw[hc])<;>clear hc)|(refine IQ hs 0 rfl rfl (G0 _) ?_;rw[KE,hcon])|(constructor<;>intro hc<;>(try rw[hc])<;>(replace hc:=bp hc)<;>try(exfalso;omega))|clear U K)<;>conv=>whnf)
    all_goals first
     | exact AI (by rw[hbad (by simp[hg])])
     | (exfalso;have q:(BI p x).gen=(BI p z).gen:=(by assumption);exact hg q)
     | (exfalso;simp[hg]at hc;done)
  ·obtain⟨k,hk⟩:=List.getElem?_of_mem (List.contains_iff_mem.1 hcon)
   rw[List.getElem?_take]at hk;split at hk
   ·conv=>whnf
    repeat'((first|apply st|(apply sq;intro K U)|(apply si;intro A B Y Z)|(apply Y;clear Z B Y A)|(apply U;clear U K)|apply dr|refine⟨rfl,?_⟩|refine ix ?_|(refine Cs (fun hc=>?_)<;>(try rw[hc])<;>clear hc)|(refine IQ hs 0 rfl rfl (G0 _) ?_;rw[KE,hcon])|clear U K)<;>conv=>whnf)
    all_goals exact AI (by rw[XA hx hk (by assumption)])
   ·cases hk
 ·conv=>whnf
  repeat'((first|apply st|(apply sq;intro K U)|(apply si;intro A B Y Z)|(apply Y;clear Z B Y A)|(apply U;clear U K)|refine⟨rfl,?_⟩|(refine EV (fun hc=>?_)<;>(try rw[hc])<;>clear hc)|clear U K)<;>conv=>whnf)
  have hall:Gp p l kd=true:=by
   rw[Gp,BY,EY];refine⟨fun y hy=>?_,decide_eq_true (by rw[hie,List.take_length]at hn;exact hn)⟩;obtain⟨k,hk⟩:=List.getElem?_of_mem hy;exact ho k y (by rw[hie];exact(Hr.1 hk).1) hk
  exact AI (by rw[hall])
def Kv (M:List (Int×Int)) (x:Int×Int):List (Int×Int):=if M.contains x then M else M++[x]
def Md (p:Prog) (M:List (Int×Int)) (m n:Int):List (Int×Int):=if ES p m n then Kv (Kv M (m,n)) (n,m)else Kv M (m,n)
def HT (p:Prog) (L:Nat) (m n:Int) (hk:EC p) (hgw:CE (AQ p)) (hfm: ∀x∈p.methods,CN (AQ p) x.fact=true) (hm:BE p m=true) (hn:BE p n=true) (M:List (Int×Int)) :
    Bd Tryz.prog 54 [FR p L,eI m,eI n] [.map L (Eu p M)] fun r post=>r= .ret (.b (ES p m n))∧post= [.map L (Eu p (Kv M (m,n)))]:=by
 intro σ hs;have hxm:=CQ hm;have hxn:=CQ hn;have hmm:=Cj hxm;have hmn:=Cj hxn;have hip:=Pu (AQ p) hgw (BI p m).fact (BI p n).fact (hfm _ hmm) (hfm _ hmn) (hk.facts _ hmm).1 (hk.facts _ hmn).1 (by have:=(hk.facts _ hmm).2;have:=(hk.facts _ hmn).2;omega);simp only[BE,BY,CY]at hm hn;have hfd:=NF p (m,n) M;refine eP kZ ?_;cases hc:M.contains (m,n)
 ·rw[hc,if_neg (by decide)]at hfd
  conv=>whnf
  repeat'((first|apply st|(apply sq;intro K U)|(apply si;intro A B Y Z)|(apply Y;clear Z B Y A)|(apply U;clear U K)|apply dr|refine⟨kZ,?_⟩|refine F8 ?_|refine ld ?_|refine DJ fun σ hs=>?_|refine E7 ?_|refine K3 hs 1 rfl rfl (Gz _ _) hfd ?_|refine HL hs 1 rfl rfl (Gz _ _) fun σ hs=>?_|refine hip.use ?_|(intro nn hnn;generalize hg:A8 _ nn _=σ;refine CW hg fun hs=>?_;clear hg)|fail)<;>conv=>whnf)
  replace hs:Sat σ [.box nn [eI m,eI n],.map L (D5 (kM (m,n)) (.b (ES p m n)) (Eu p M))]:=hs;rw[Qa p (m,n) M hc]at hs;exact AP ⟨_,⟨rfl,rfl⟩,by rw[Kv,hc];exact hs.less (Kh _ _)⟩
 ·rw[hc,if_pos rfl]at hfd
  conv=>whnf
  repeat'((first|apply st|(apply sq;intro K U)|(apply si;intro A B Y Z)|(apply Y;clear Z B Y A)|(apply U;clear U K)|apply dr|refine⟨kZ,?_⟩|refine ld ?_|refine DJ fun σ hs=>?_|refine EA ?_|refine K3 hs 1 rfl rfl (Gz _ _) hfd ?_|(intro nn hnn;generalize hg:A8 _ nn _=σ;refine CW hg fun hs=>?_;clear hg)|fail)<;>conv=>whnf)
  exact AP ⟨_,⟨rfl,rfl⟩,by rw[Kv,hc];exact hs.less (Kh _ _)⟩
def NV (p:Prog) (L:Nat) (m n:Int) (hk:EC p) (hgw:CE (AQ p)) (hfm: ∀x∈p.methods,CN (AQ p) x.fact=true) (hm:BE p m=true) (hn:BE p n=true) (M:List (Int×Int)) :
    Bd Tryz.prog 45 [FR p L,eI m,eI n] [.map L (Eu p M)] fun r post=>r= .ret (.b (Ap p m n))∧post= [.map L (Eu p (Md p M m n))]:=by
 intro σ hs;have h1:=fun M=>HT p L m n hk hgw hfm hm hn M
 have h2:=fun M=>HT p L n m hk hgw hfm hn hm M
 unfold Ap Md;cases hb1:ES p m n<;>cases hb2:ES p n m<;>rw[hb1]at h1<;>rw[hb2]at h2
 all_goals
  refine eR kZ ?_
  conv=>whnf
  repeat'((first|(apply sq;intro K U)|(apply si;intro A B Y Z)|(apply Y;clear Z B Y A)|(apply U;clear U K)|fail)<;>conv=>whnf)
  refine(h1 M).use (rest:=[]) (by simpa using hs) ?_;clear hs;rintro r post σ ⟨rfl,rfl⟩ hs
  conv=>whnf
  repeat'((first|apply st|(apply Y;clear Z B Y A)|(apply U;clear U K)|fail)<;>conv=>whnf)
 ·exact AP ⟨_,⟨rfl,rfl⟩,hs⟩
 ·exact AP ⟨_,⟨rfl,rfl⟩,hs⟩
 all_goals
  refine(h2 _).use (rest:=[]) (by simpa using hs) ?_;clear hs;rintro r post σ ⟨rfl,rfl⟩ hs
  conv=>whnf
  repeat'((first|apply st|(apply Y;clear Z B Y A)|(apply U;clear U K)|fail)<;>conv=>whnf)
  exact AP ⟨_,⟨rfl,rfl⟩,hs⟩
def Fb: ∀ {l:List Int} {i:Nat} {x:Int},l.Nodup→l[i]? =some x→l.filter (· != x)=l.eraseIdx i
 | y::r,0,x,hn,hx=>by
   obtain rfl:y=x:=by simpa using hx
   rw[List.nodup_cons]at hn;rw[List.filter_cons,if_neg (by simp),List.eraseIdx_cons_zero];exact List.filter_eq_self.2 fun z hz=>by rw[rU];rintro rfl;exact hn.1 hz
 | y::r,i+1,x,hn,hx=>by
   rw[List.nodup_cons]at hn;rw[lN]at hx;have hyx:y≠x:=fun e=>hn.1 (e ▸ Cj hx)
   rw[List.filter_cons,if_pos (by simpa using hyx),List.eraseIdx_cons_succ,Fb hn.2 hx]
def XU {A:Int→Int→Bool} {l:List Int} {i:Nat} (hi:i<l.length) (h:Lz A l i l.length=true) (hn: ∀j,j<i→Lz A l j l.length=false):M0 A l=some i:=by
 rw[M0,List.find?_range_eq_some];exact⟨h,List.mem_range.2 hi,fun j hj=>by rw[hn j hj];rfl⟩
def XT {A:Int→Int→Bool} {l:List Int} (hn: ∀j,j<l.length→Lz A l j l.length=false):M0 A l=none:=by
 rw[M0,List.find?_range_eq_none];exact fun j hj=>by rw[hn j hj];rfl
def bb {A:Int→Int→Bool} {l:List Int} {i k n:Nat} (hk:k<n) (h:(k==i||A (l.getD i 0) (l.getD k 0))=false):Lz A l i n=false:=by
 rw[Lz,←Bool.not_eq_true,EY];intro h2;rw[h2 k (List.mem_range.2 hk)]at h;cases h
def Zn {l:List Int} (hn:l.Nodup) {i k:Nat} {x y:Int} (hx:l[i]? =some x) (hy:l[k]? =some y) (h:k≠i):x≠y:=by
 rintro rfl;have hi:=(Hr.1 hx)
 have hj:=(Hr.1 hy)
 have:=(List.nodup_iff_pairwise_ne.1 hn)
 rw[List.pairwise_iff_getElem]at this;rcases Nat.lt_or_gt_of_ne h with h'|h'
 ·exact this k i hj.1 hi.1 h' (by rw[hj.2,hi.2])
 ·exact this i k hi.1 hj.1 h' (by rw[hj.2,hi.2])
set_option maxHeartbeats 4000000 in
def Qi (p : Prog) (L:Nat) (l:List Int) (f:Bool) (hok:EC p) (hgw:CE (AQ p)) (hfm: ∀x∈p.methods,CN (AQ p) x.fact=true) (hl:Mv p l) (hnd:l.Nodup) (M:List (Int×Int)) :
    Bd Tryz.prog 67 [FR p L,.l (iL l) f] [.map L (Eu p M)] fun r post=>r= .ret (.t [.l (iL (C7 (Ap p) l.length l).1) true,.b (C7 (Ap p) l.length l).2])∧ ∃M',post= [.map L (Eu p M')]:=by
 intro σ hs;have hM:=Mx;refine nH kZ ?_
 conv=>whnf
 repeat'((first|apply st|(apply sq;intro K U)|(apply si;intro A B Y Z)|(apply Y;clear Z B Y A)|(apply U;clear U K)|fail)<;>conv=>whnf)
 refine GS (fun(x:List Int×Bool×V×List Int×List (Int×Int))=>x.1.length) (fun x=>[(1,.l (iL x.1) x.2.1),(6,x.2.2.1)]) (fun x=>[.own x.2.2.1 1 (iL x.2.2.2.1),.map L (Eu p x.2.2.2.2)])
  (fun x=>(∀y∈x.1,BE p y=true)∧x.1.Nodup∧x.2.2.2.1.length+x.1.length≤16∧C7 (Ap p) l.length l=(x.2.2.2.1++(C7 (Ap p) x.1.length x.1).1,(C7 (Ap p) x.1.length x.1).2)) (l,f,.l [] true,[],M) rfl ⟨hl.Om,hnd,by simpa using hl.many,by simp⟩ (DK hs 1) ?_
 clear hs;rintro⟨l',f',v,out,M⟩ σ ⟨hme,hn,hlen,hm⟩ hs;dsimp only at hme hn hlen hm hs;dsimp only;have hll:out.length<Ae∧(out.length+1)*8≤140737488355328:=by omega
 by_cases hz:l'.length=0
 ·rw[hz]at hm
  simp only[C7,Hs]at hm
  conv=>whnf
  repeat'((first|apply st|(apply sq;intro K U)|(apply si;intro A B Y Z)|(apply Y;clear Z B Y A)|(apply U;clear U K)|refine⟨rfl,?_⟩|(constructor<;>intro hc<;>(try rw[hc])<;>(replace hc:=bp hc)<;>(try simp(disch:=omega) only[BQ,wrap64,AL]at hc)<;>try(exfalso;omega))|clear U K)<;>conv=>whnf)
  refine(M3 out v (by omega)).use (rest:=[_]) hs ?_;clear hs;rintro r post σ ⟨rfl,rfl⟩ hs
  conv=>whnf
  repeat'((first|apply st|(apply Y;clear Z B Y A)|(apply U;clear U K)|fail)<;>conv=>whnf)
  exact AP ⟨_,⟨by rw[hm],M,rfl⟩,hs⟩
 ·obtain ⟨n,hnn⟩: ∃n,l'.length=n+1:=⟨l'.length - 1,by omega⟩
  have hne:l'.isEmpty=false:=by cases l' with
   | nil=>simp at hz
   | cons=>rfl
  rw[hnn,C7]at hm
  conv=>whnf
  repeat'((first|apply st|(apply sq;intro K U)|(apply si;intro A B Y Z)|(apply Y;clear Z B Y A)|(apply U;clear U K)|refine⟨rfl,?_⟩|(constructor<;>intro hc<;>(try rw[hc])<;>(replace hc:=bp hc)<;>(try simp(disch:=omega) only[BQ,wrap64,AL]at hc)<;>try(exfalso;omega))|fail)<;>conv=>whnf)
  refine CZ l'.length (fun i (_:List (Int×Int))=>[(16,eI (BL i))]) (fun _ M=>[.own v 1 (iL out),.map L (Eu p M)]) (fun i _=> ∀j,j<i→Lz (Ap p) l' j l'.length=false) M rfl (fun j h=>by omega) hs ?_;clear hs;rintro i M σ hi hno hs;rcases BS l' hi with⟨x,hx,hlt⟩|hie
  ·have hmx:=hme x (Cj hx)
   conv=>whnf
   repeat'((first|apply st|(apply sq;intro K U)|(apply si;intro A B Y Z)|(apply Y;clear Z B Y A)|(apply U;clear U K)|refine⟨rfl,?_⟩|refine ix ?_|(refine Cs (fun hc=>?_)<;>(try rw[hc])<;>clear hc)|fail)<;>conv=>whnf)
   refine CZ l'.length (fun k (_:List (Int×Int))=>[(22,eI (BL k))]) (fun _ M=>[.own v 1 (iL out),.map L (Eu p M)]) (fun k _=>Lz (Ap p) l' i k=true) M rfl rfl hs ?_;clear hs;rintro k M σ hk htop hs;rcases BS l' hk with⟨y,hy,hklt⟩|hke
   ·have hmy:=hme y (Cj hy)
    have hsu:=WZ (Ap p) l' i k;rw[E8 hx,E8 hy,htop,EW]at hsu;by_cases hki:k=i
    ·obtain rfl:x=y:=by
      rw[hki,hx]at hy;exact Option.some.inj hy
     conv=>whnf
     repeat'((first|apply st|(apply sq;intro K U)|(apply si;intro A B Y Z)|(apply Y;clear Z B Y A)|(apply U;clear U K)|refine⟨rfl,?_⟩|refine ix ?_|(refine Cs (fun hc=>?_)<;>(try rw[hc])<;>clear hc)|(constructor<;>intro hc<;>(try rw[hc])<;>(replace hc:=bp hc)<;>(try simp(disch:=omega) only[BQ,wrap64,AL]at hc)<;>try(exfalso;omega))|clear U K)<;>conv=>whnf)
     exact⟨hklt,M,rfl,by rw[hsu,hki];simp,hs⟩
    ·have hxy:=Zn hn hx hy hki
     have c5:=NV p L x y hok hgw hfm hmx hmy M;cases hah:Ap p x y<;>rw[hah]at c5
     all_goals
      conv=>whnf
      repeat'((first|apply st|(apply sq;intro K U)|(apply si;intro A B Y Z)|(apply Y;clear Z B Y A)|(apply U;clear U K)|refine⟨rfl,?_⟩|refine ix ?_|(refine Cs (fun hc=>?_)<;>(try rw[hc])<;>clear hc)|(constructor<;>intro hc<;>(try rw[hc])<;>(replace hc:=bp hc)<;>try(exfalso;omega))|fail)<;>conv=>whnf)
      refine c5.use (rest:=[_]) (hs.perm (.swap _ _ _)) ?_;clear hs;rintro r post σ ⟨rfl,rfl⟩ hs
      conv=>whnf
      repeat'((first|apply st|(apply si;intro A B Y Z)|(apply Y;clear Z B Y A)|(apply U;clear U K)|refine⟨rfl,?_⟩|refine E7 ?_|refine EA ?_|clear U K)<;>conv=>whnf)
     ·refine⟨hlt,_,rfl,fun j hj=>?_,hs.perm (.swap _ _ _)⟩
      rcases Nat.lt_or_ge j i with h'|h'
      ·exact hno j h'
      ·rw[show j=i by omega]
       exact bb hklt (by rw[E8 hx,E8 hy,hah];simpa using hki)
     ·exact⟨hklt,_,rfl,by rw[hsu,hah];simp,hs.perm (.swap _ _ _)⟩
   ·have c1:=K7 l' f' x (by omega)
    rw[Fb hn hx]at c1;have hel:=List.length_eraseIdx_of_lt hlt;rw[XU hlt (hke ▸ htop) hno]at hm;dsimp only at hm;rw[E8 hx]at hm
    conv=>whnf
    repeat'((first|apply st|(apply sq;intro K U)|(apply si;intro A B Y Z)|(apply Y;clear Z B Y A)|(apply U;clear U K)|refine⟨rfl,?_⟩|refine aq fun v σ hs hsl=>?_|(refine EV (fun hc=>?_)<;>(try rw[hc])<;>clear hc)|refine c1.use ?_|clear U K)<;>conv=>whnf)
    refine⟨(l'.eraseIdx i,true,v,out++[x],M),by dsimp only;omega,rfl,⟨fun y hy=>hme y (List.mem_of_mem_eraseIdx hy),hn.sublist (List.eraseIdx_sublist _ _),by simp;omega,?_⟩,hs⟩;dsimp only;rw[hm,hel,show l'.length - 1=n by omega];simp
  ·rw[XT fun j hj=>hno j (by omega)]at hm
   dsimp only at hm;rw[hne,Hs]at hm
   conv=>whnf
   repeat'((first|apply st|(apply sq;intro K U)|(apply si;intro A B Y Z)|(apply Y;clear Z B Y A)|(apply U;clear U K)|refine⟨rfl,?_⟩|(refine EV (fun hc=>?_)<;>(try rw[hc])<;>clear hc)|clear U K)<;>conv=>whnf)
   refine(M3 out v (by omega)).use (rest:=[_]) hs ?_;clear hs;rintro r post σ ⟨rfl,rfl⟩ hs
   conv=>whnf
   repeat'((first|apply st|(apply Y;clear Z B Y A)|(apply U;clear U K)|clear U K)<;>conv=>whnf)
   exact AP ⟨_,⟨by rw[hm];rfl,M,rfl⟩,hs⟩
def dL (p:Prog) (l:List Int) (f:Bool) (hl:l.length≤1000):Pure Tryz.prog 31 [.a (BU p),.l (iL l) f] (.t [.l (iL (HM p l).1.1) true,.b (HM p l).1.2,eI (HM p l).2]):=by
 refine Pure.of ?_;have hr:=Gw p;refine nZ kZ ?_;have hs:=Sn
 conv=>whnf
 repeat'((first|apply st|(apply sq;intro K U)|(apply si;intro A B Y Z)|(apply Y;clear Z B Y A)|(apply U;clear U K)|refine⟨kZ,?_⟩|fail)<;>conv=>whnf)
 refine hr.use (rest:=[]) (by simpa using hs) ?_;clear hs;cases h:(BM p).isSome
 ·have c1:=cM l f true
  rintro r post σ ⟨rfl,rfl⟩ hs
  conv=>whnf
  repeat'((first|apply st|(apply sq;intro K U)|(apply si;intro A B Y Z)|(apply Y;clear Z B Y A)|(apply U;clear U K)|refine E7 ?_|refine c1.use ?_|clear U K)<;>conv=>whnf)
  exact AP (by simp[HM,h])
 ·rintro r post σ ⟨L,rfl,rfl⟩ hs
  have c1:=ga p L l f true hl;have hok:=look_ok h;cases h2:Gp p l true<;>rw[h2]at c1
  ·conv=>whnf
   repeat'((first|apply st|(apply sq;intro K U)|(apply si;intro A B Y Z)|(apply Y;clear Z B Y A)|(apply U;clear U K)|refine E7 ?_|refine c1.use ?_|clear U K)<;>conv=>whnf)
   exact AP (by simp[HM,h,h2])
  ·have ho:=Zx hok h2
   conv=>whnf
   repeat'((first|apply st|(apply sq;intro K U)|(apply si;intro A B Y Z)|(apply Y;clear Z B Y A)|(apply U;clear U K)|refine EA ?_|refine c1.use ?_|fail)<;>conv=>whnf)
   refine(Qi p L l f hok (Mk h) (Jz h) ho.1 ho.2 []).use (rest:=[]) hs ?_;clear hs;rintro r post σ ⟨rfl,M',rfl⟩ hs
   conv=>whnf
   repeat'((first|apply st|(apply sq;intro K U)|(apply si;intro A B Y Z)|(apply Y;clear Z B Y A)|(apply U;clear U K)|fail)<;>conv=>whnf)
   exact AP (by simp[HM,h,h2])
end Go.Gl
namespace Go.Gl
open Go.Proofs
inductive TU where
 | int (n:Int)
 | Xz
 | obj (AF:Nat→Bool) (kid:Int→TU)
def Jg (w:AK):TU→Prop
 | .int n=> -1000000000≤n∧n≤1000000000
 | .Xz=>True
 | .obj AF kid=>(∀c,3≤c→AF c=true→ ∀q∈par w.parents c,AF q.toNat=true)∧ ∀s,Jg w (kid s)
def H3 (t:TU) (f:Fact):Bool:=match t with
 | .int n=>if f.op=2 then !decide (f.cls > 1)else if f.op=3 then decide (n<f.n)else decide (n=f.n)
 | .Xz=>f.op==2&&(f.cls==0||f.cls==2)
 | .obj AF _=>f.op==2&&(f.cls==0||(decide (3≤f.cls)&&AF f.cls.toNat))
def Q6 (w:AK):TU→List Int→Fact→Bool
 | t,[],f=>H3 t f
 | .obj AF kid,s::r,f=>AF (CX w s).toNat&&Q6 w (kid s) r f
 | _,_::_,_=>false
structure Ho (w:AK) (l:Fact):Prop where
 op:(A5 l).1.op=2∨(A5 l).1.op=3∨(A5 l).1.op=4
 cls:(A5 l).1.op=2→0≤(A5 l).1.cls∧(A5 l).1.cls<3+w.parents.length
 arg:0≤(A5 l).1.arg∧(A5 l).1.arg<3
 path: ∀s∈(A5 l).1.path,(0:Int)≤s∧s<w.owner.length
 short:(A5 l).1.path.length≤2
def Vb {w:AK} {l:Fact} (h:Hp w l):Ho w l:=by
 obtain⟨-,hn,hl⟩:=Gy h;have hlo:=FX hl;have q:=KD (w:=w) (l:=[l]) (fun x hx=>by rw[Kj.1 hx];exact h);rw[CP,BY]at hn;have hn:=hn.1;simp only[C1,BY,CY]at hn;obtain⟨ho,-,ha1,ha2,hp,-⟩:=hn;simp only[Ea,BY,EY,Gj,CY]at hp;exact⟨hlo,q.2.1 l (.head _),⟨ha1,ha2⟩,fun s hs=>hp.1 s hs,hp.2⟩
def e9 (t:Int×Int×List Int) (m:Int):Prop:=t.1≤m∧m≤t.2.1∧m∉t.2.2
def We {w:AK} {l:Fact} (hl:Ho w l) (t:Int×Int×List Int) (m:Int):(∃t',Rf (A5 l) t=some t'∧e9 t' m)↔e9 t m∧H3 (.int m) (A5 l).1= !(A5 l).2:=by
 have h1:=hl.op;generalize A5 l=x at *;obtain⟨f,b⟩:=x;obtain⟨lo,hi,no⟩:=t;simp only[Rf,e9,H3]at *;rcases h1 with h|h|h
 ·rw[if_pos h,if_pos h]
  by_cases hc:f.cls > 1<;>cases b<;>simp[hc]
 ·have h2: ¬f.op=2:=by omega
  rw[if_neg h2,if_pos h,if_neg h2,if_pos h];cases b
  ·simp only[LU,if_false,Hg,exists_eq_left',Bool.not_false,CY]
   split<;>constructor<;>rintro⟨h3,h4⟩
   ·exact⟨⟨h3,by omega,h4.2⟩,by omega⟩
   ·exact⟨h3.1,by omega,h3.2.2⟩
   ·exact⟨⟨h3,h4⟩,by omega⟩
   ·exact h3
  ·simp only[if_true,Hg,exists_eq_left',Bool.not_true,decide_eq_false_iff_not]
   split<;>constructor<;>rintro⟨h3,h4⟩
   ·exact⟨⟨by omega,h4⟩,by omega⟩
   ·exact⟨by omega,h3.2⟩
   ·exact⟨⟨h3,h4⟩,by omega⟩
   ·exact h3
 ·have h2: ¬f.op=2:=by omega
  have h3: ¬f.op=3:=by omega
  rw[if_neg h2,if_neg h3,if_neg h2,if_neg h3];cases b
  ·simp only[LU,if_false,Hg,exists_eq_left',Bool.not_false,CY]
   constructor
   ·rintro⟨h3,h4,h5⟩
    split at h3<;>split at h4<;>exact⟨⟨by omega,by omega,h5⟩,by omega⟩
   ·rintro⟨⟨h3,h4,h5⟩,rfl⟩
    refine⟨?_,?_,h5⟩
    ·split<;>omega
    ·split<;>omega
  ·simp only[if_true,Hg,exists_eq_left',Bool.not_true,decide_eq_false_iff_not,FQ,Kj,not_or]
   constructor
   ·rintro⟨h3,h4,h5,h6⟩
    exact⟨⟨h3,h4,h5⟩,h6⟩
   ·rintro⟨⟨h3,h4,h5⟩,h6⟩
    exact⟨h3,h4,h5,h6⟩
def Ic {w:AK} (m:Int): ∀(os:List Fact) (t:Int×Int×List Int),(∀l∈os,Ho w l)→((∃t',foldI os t=some t'∧e9 t' m)↔e9 t m∧ ∀l∈os,H3 (.int m) (A5 l).1= !(A5 l).2)
 | [],t,_=>by simp[foldI]
 | x ::r,t,h=>by
   have h1:=We (h x (.head _)) t m;constructor
   ·rintro⟨t',h2,h3⟩
    rw[foldI,Option.bind_eq_some_iff]at h2;obtain⟨u,h4,h5⟩:=h2;obtain⟨h6,h7⟩:=(Ic m r u fun l hl=>h l (.tail _ hl)).1 ⟨t',h5,h3⟩;obtain⟨h8,h9⟩:=h1.1 ⟨u,h4,h6⟩;refine⟨h8,fun l hl=>?_⟩;rcases Fh.1 hl with rfl|hl
    ·exact h9
    ·exact h7 l hl
   ·rintro⟨h2,h3⟩
    obtain⟨u,h4,h5⟩:=h1.2 ⟨h2,h3 x (.head _)⟩;obtain⟨t',h6,h7⟩:=(Ic m r u fun l hl=>h l (.tail _ hl)).2 ⟨h5,fun l hl=>h3 l (.tail _ hl)⟩;exact⟨t',by rw[foldI,h4];exact h6,h7⟩
def O2 (t:Int×Int×List Int):(Rg t).isSome=true↔ ∃m,e9 t m:=by
 obtain⟨lo,hi,no⟩:=t;rw[Rg,LB];constructor
 ·rintro⟨j,h1,h2⟩
  exact⟨lo+j,by simp only[e9]at *;omega,by simp only[]at *;omega,h2⟩
 ·rintro⟨m,h1,h2,h3⟩
  dsimp only at h1 h2 h3 ⊢;exact⟨(m - lo).toNat,by omega,by rw[show lo+((m - lo).toNat:Int)=m by omega];exact h3⟩
def HI {a:Int} {p:List Int} {l:Fact}:LV a p l=true↔(A5 l).1.arg=a∧(A5 l).1.path=p:=by
 rw[LV,BY,Dn,Dn]
def Z2 {w:AK} {ls:List Fact} (hl: ∀l∈ls,Ho w l) (a:Int) (p:List Int):(RT ls a p).isSome=true↔ ∃m,(-1000000000≤m∧m≤1000000000)∧ ∀l∈ls,(A5 l).1.arg=a→(A5 l).1.path=p→H3 (.int m) (A5 l).1= !(A5 l).2:=by
 have hL: ∀l∈ls.filter (LV a p),Ho w l:=fun l h=>hl l (Kl.1 h).1
 rw[RT];constructor
 ·intro h
  cases hf:foldI (ls.filter (LV a p)) t0 with
  | none=>rw[hf]at h;cases h
  | some t=>
    rw[hf]at h;obtain⟨m,hm⟩:=(O2 t).1 h;obtain⟨h1,h2⟩:=(Ic m _ t0 hL).1 ⟨t,hf,hm⟩;exact⟨m,⟨h1.1,h1.2.1⟩,fun l h3 h4 h5=>h2 l (Kl.2 ⟨h3,HI.2 ⟨h4,h5⟩⟩)⟩
 ·rintro⟨m,h1,h2⟩
  obtain⟨t,h3,h4⟩:=(Ic m (ls.filter (LV a p)) t0 hL).2 ⟨⟨h1.1,h1.2,by simp[t0]⟩,fun l h=>by
   obtain⟨h5,h6⟩:=Kl.1 h
   exact h2 l h5 (HI.1 h6).1 (HI.1 h6).2⟩
  rw[h3];exact(O2 t).2 ⟨m,h4⟩
def KM {ls:List Fact} {a:Int} {p:List Int}:FG ls a p=true↔ ∀l∈ls,(A5 l).1.arg=a→ ∀q,(A5 l).1.path=p++q→(A5 l).2=true:=by
 rw[FG,EY];constructor
 ·intro h l hl ha q hq
  have:=h l hl;rw[FU]at this;rcases this with h1|h1
  ·exact h1
  ·rw[ha,hq]at h1
   have h2:B2 (p++q) p=true:=CK.2 ⟨q,rfl⟩;simp[h2]at h1
 ·intro h l hl
  rw[FU];by_cases h1:(A5 l).1.arg=a∧B2 (A5 l).1.path p=true
  ·obtain⟨q,hq⟩:=CK.1 h1.2
   exact .inl (h l hl h1.1 q hq)
  ·right
   simp only[Bool.not_eq_true',Bool.and_eq_false_iff,beq_eq_false_iff_ne];rcases Classical.em ((A5 l).1.arg=a)with e|e
   ·exact .inr (by simpa[e]using h1)
   ·exact .inl e
def O6 {w:AK} {ls:List Fact} (hl: ∀l∈ls,Ho w l) {a:Int} {p:List Int} {s:Int}:s∈Dg w.owner.length ls a p↔ ∃l∈ls,(A5 l).1.arg=a∧ ∃q,(A5 l).1.path=p++s::q:=by
 rw[Dg,Kl,Ip,E2];constructor
 ·rintro⟨-,l,h1,h2⟩
  rw[de,BY,Dn]at h2;obtain⟨q,hq⟩:=CK.1 h2.2;exact⟨l,h1,h2.1,q,by rw[hq];simp⟩
 ·rintro⟨l,h1,h2,q,hq⟩
  refine⟨(hl l h1).path s (by rw[hq];simp),l,h1,?_⟩;rw[de,BY,Dn];exact⟨h2,CK.2 ⟨q,by rw[hq];simp⟩⟩
def Sa {w:AK} {ls:List Fact} (hl: ∀l∈ls,Ho w l) {a:Int} {p:List Int}:Iz w.owner.length ls a p=true↔ ∀l∈ls,(A5 l).1.arg=a→ ∀s q,(A5 l).1.path=p++s::q→(A5 l).2=true:=by
 rw[Iz,EY];constructor
 ·intro h l h1 h2 s q hq
  exact KM.1 (h s ((O6 hl).2 ⟨l,h1,h2,q,hq⟩)) l h1 h2 q (by rw[hq];simp)
 ·intro h s _
  exact KM.2 fun l h1 h2 q hq=>h l h1 h2 s q (by rw[hq];simp)
def QA {w:AK} (hw:Km w) {s:Int} (h:0≤s∧s<(w.owner.length:Int)):3≤CX w s∧CX w s<3+w.parents.length:=by
 have hs:s.toNat<w.owner.length:=by omega
 have:CX w s=w.owner[s.toNat]:=by rw[CX,Dc,Da hs];rfl
 rw[this];exact hw.own _ (List.getElem_mem hs)
def df (t:BB) (AF:Nat→Bool):Prop:=(∀c,t.1.getD c false=true→c=0∨AF c=true)∧ ∀c,t.2.getD c false=true→c≠0∧AF c=false
def Py (t t':BB):Prop:=t.1.length=t'.1.length∧t.2.length=t'.2.length∧(∀c,t.1.getD c false=true→t'.1.getD c false=true)∧ ∀c,t.2.getD c false=true→t'.2.getD c false=true
def Py.bI {t:BB}:Py t t:=⟨rfl,rfl,fun _ h=>h,fun _ h=>h⟩
def Py.trans {t u v:BB} (h:Py t u) (k:Py u v):Py t v:=⟨h.1.trans k.1,h.2.1.trans k.2.1,fun c hc=>k.2.2.1 c (h.2.2.1 c hc),fun c hc=>k.2.2.2 c (h.2.2.2 c hc)⟩
def J5 {l:List Bool} {c b:Nat} (h:(l.set c true).getD b false=true):l.getD b false=true∨b=c:=by
 by_cases e:b=c
 ·exact .inr e
 ·rw[Dc,List.getElem?_set_ne (fun h=>e h.symm),←Dc]at h
  exact .inl h
def J7 {l:List Bool} {c b:Nat} (h:l.getD b false=true):(l.set c true).getD b false=true:=by
 by_cases e:c<l.length
 ·rw[Eg e]
  split
  ·rfl
  ·exact h
 ·rw[List.set_eq_of_length_le (by omega)];exact h
def J6 {l:List Bool} {c:Nat} (h:c<l.length):(l.set c true).getD c false=true:=by
 rw[Eg h,if_pos rfl]
def Py.sG {t:BB} (c:Nat):Py t (t.1.set c true,t.2):=⟨by simp,rfl,fun _ h=>J7 h,fun _ h=>h⟩
def Py.sF {t:BB} (c:Nat):Py t (t.1,t.2.set c true):=⟨rfl,by simp,fun _ h=>h,fun _ h=>J7 h⟩
def Tg (t:BB) (f:Fact) (b:Bool):Prop:=if f.op≠2∨f.cls=1∨f.cls=2 then b=true else if b then t.2.getD f.cls.toNat false=true else t.1.getD f.cls.toNat false=true
def Pm {t t':BB} (h:Py t t') {f:Fact} {b:Bool} (k:Tg t f b):Tg t' f b:=by
 unfold Tg at *;split
 ·rename_i h1;rw[if_pos h1]at k;exact k
 ·rename_i h1;rw[if_neg h1]at k
  split
  ·rename_i h2;rw[if_pos h2]at k;exact h.2.2.2 _ k
  ·rename_i h2;rw[if_neg h2]at k;exact h.2.2.1 _ k
def ZW {w:AK} {l:Fact} (hl:Ho w l) {t t':BB} (hn:t.1.length=3+w.parents.length∧t.2.length=3+w.parents.length) (h:LX (A5 l) t=some t'):Py t t'∧Tg t' (A5 l).1 (A5 l).2:=by
 have hc:=hl.cls;generalize A5 l=x at *;obtain⟨f,b⟩:=x;simp only[LX,Tg]at *;split at h
 ·rename_i h1
  rw[if_pos h1];cases b
  ·cases h
  ·obtain rfl:=Option.some.inj h
   exact⟨Py.bI,rfl⟩
 ·rename_i h1
  rw[if_neg h1]
  have h2:f.op=2:=by
   rcases Classical.em (f.op=2)with e|e
   ·exact e
   ·exact absurd (Or.inl e) h1
  have:=hc h2;cases b
  ·obtain rfl:=Option.some.inj h
   exact⟨.sG _,by rw[if_neg (by decide)];exact J6 (by omega)⟩
  ·obtain rfl:=Option.some.inj h
   exact⟨.sF _,by rw[if_pos rfl];exact J6 (by omega)⟩
def Wb {w:AK} {l:Fact} (hl:Ho w l) {t:BB} {AF:Nat→Bool} {kid:Int→TU} (hi:df t AF) (h:H3 (.obj AF kid) (A5 l).1= !(A5 l).2): ∃t',LX (A5 l) t=some t'∧df t' AF:=by
 have hc:=hl.cls;generalize A5 l=x at *;obtain⟨f,b⟩:=x;simp only[LX,H3]at *;by_cases h1:f.op≠2∨f.cls=1∨f.cls=2
 ·rw[if_pos h1]
  have h2:(f.op==2&&(f.cls==0||(decide (3≤f.cls)&&AF f.cls.toNat)))=false:=by
   rcases h1 with h1|h1|h1
   ·simp[h1]
   ·simp[h1]
   ·simp[h1]
  rw[h2]at h;cases b
  ·cases h
  ·exact⟨t,rfl,hi⟩
 ·rw [if_neg h1]
  have h2:f.op=2:=by
   rcases Classical.em (f.op=2)with e|e
   ·exact e
   ·exact absurd (Or.inl e) h1
  have hr:=hc h2;have h3:f.cls≠1∧f.cls≠2:=⟨fun e=>h1 (.inr (.inl e)),fun e=>h1 (.inr (.inr e))⟩
  have h4:(f.op==2&&(f.cls==0||(decide (3≤f.cls)&&AF f.cls.toNat)))=(decide (f.cls=0)||AF f.cls.toNat):=by
   rw[h2];rcases Classical.em (f.cls=0)with e|e
   ·simp[e]
   ·have:3≤f.cls:=by omega
    simp[e,this]
  rw[h4]at h;cases b
  ·refine⟨_,rfl,fun c hh=>?_,hi.2⟩
   rcases J5 hh with hh|rfl
   ·exact hi.1 c hh
   ·simp only[Bool.not_false,FU,CY]at h
    rcases h with h|h
    ·exact .inl (by omega)
    ·exact .inr h
  ·refine⟨_,rfl,hi.1,fun c hh=>?_⟩
   rcases J5 hh with hh|rfl
   ·exact hi.2 c hh
   ·simp only[Bool.not_true,Bool.or_eq_false_iff,decide_eq_false_iff_not]at h
    exact⟨by omega,h.2⟩
def NN {w:AK}: ∀(os:List Fact) {t t':BB},(∀l∈os,Ho w l)→(t.1.length=3+w.parents.length∧t.2.length=3+w.parents.length)→Ix os t=some t'→Py t t'∧ ∀l∈os,Tg t' (A5 l).1 (A5 l).2
 | [],t,t',_,_,h=>by
   obtain rfl:=Option.some.inj h;exact⟨Py.bI,fun l hl=>by cases hl⟩
 | x::r,t,t',hl,hn,h=>by
   rw[Ix,Option.bind_eq_some_iff]at h;obtain⟨u,h1,h2⟩:=h;obtain⟨h3,h4⟩:=ZW (hl x (.head _)) hn h1;obtain⟨h5,h6⟩:=NN r (fun l h=>hl l (.tail _ h)) ⟨by rw[←h3.1];exact hn.1,by rw[←h3.2.1];exact hn.2⟩ h2;refine⟨h3.trans h5,fun l h=>?_⟩;rcases Fh.1 h with rfl|h
   ·exact Pm h5 h4
   ·exact h6 l h
def PY {w:AK} {AF:Nat→Bool} {kid:Int→TU}: ∀(os:List Fact) {t:BB},(∀l∈os,Ho w l)→df t AF→(∀l∈os,H3 (.obj AF kid) (A5 l).1= !(A5 l).2)→ ∃t',Ix os t=some t'∧df t' AF
 | [],t,_,hi,_=>⟨t,rfl,hi⟩
 | x::r,t,hl,hi,h=>by
   obtain⟨u,h1,h2⟩:=Wb (hl x (.head _)) hi (h x (.head _));obtain⟨t',h3,h4⟩:=PY r (fun l h=>hl l (.tail _ h)) h2 fun l hh=>h l (.tail _ hh)
   exact⟨t',by rw[Ix,h1];exact h3,h4⟩
def fT (w:AK) (ls:List Fact) (a:Int) (p:List Int) (can:Int→Bool) (s:Int) (t:BB):Prop:=
 (FG ls a (p++[s])=false→t.1.getD (CX w s).toNat false=true∧can s=true)∧(can s=false→t.2.getD (CX w s).toNat false=true)
def NM {w:AK} (hw:Km w) {ls:List Fact} {a:Int} {p:List Int} {can:Int→Bool}: ∀(sl:List Int) {t t':BB},(∀s∈sl,0≤s∧s<(w.owner.length:Int))→(t.1.length=3+w.parents.length∧t.2.length=3+w.parents.length)→Iw w ls a p can sl t=some t'→Py t t'∧ ∀s∈sl,fT w ls a p can s t'
 | [],t,t',_,_,h=>by
   obtain rfl:=Option.some.inj h;exact⟨Py.bI,fun l hl=>by cases hl⟩
 | s ::r,t,t',hs,hn,h=>by
   rw[Iw,Option.bind_eq_some_iff]at h;obtain⟨u,h1,h2⟩:=h;have ho:=QA hw (hs s (.head _))
   have h3:Py t u∧fT w ls a p can s u:=by
    rw[Re]at h1;split at h1
    ·cases h1
    ·rename_i hne
     obtain rfl:=Option.some.inj h1;simp only[fT];cases hb:FG ls a (p++[s])<;>cases hc:can s
     ·simp[hb,hc]at hne
     ·exact⟨⟨by simp,rfl,fun c h=>J7 h,fun c h=>h⟩,fun _=>⟨J6 (by omega),rfl⟩,fun h=>(by cases h)⟩
     ·exact⟨⟨rfl,by simp,fun c h=>h,fun c h=>J7 h⟩,fun h=>(by cases h),fun _=>J6 (by omega)⟩
     ·exact⟨Py.bI,fun h=>(by cases h),fun h=>(by cases h)⟩
   obtain⟨h5,h6⟩:=NM hw r (fun l h=>hs l (.tail _ h)) ⟨by rw[←h3.1.1];exact hn.1,by rw[←h3.1.2.1];exact hn.2⟩ h2;refine⟨h3.1.trans h5,fun l h=>?_⟩;rcases Fh.1 h with rfl|h
   ·exact⟨fun hb=>⟨h5.2.2.1 _ (h3.2.1 hb).1,(h3.2.1 hb).2⟩,fun hc=>h5.2.2.2 _ (h3.2.2 hc)⟩
   ·exact h6 l h
def PX {w : AK} (hw:Km w) {ls:List Fact} {a:Int} {p:List Int} {can:Int→Bool} {AF:Nat→Bool}: ∀(sl:List Int) {t:BB},(∀s∈sl,0≤s∧s<(w.owner.length:Int))→df t AF→
    (∀s∈sl,(FG ls a (p++[s])=false→AF (CX w s).toNat=true)∧(AF (CX w s).toNat=true→can s=true))→ ∃t',Iw w ls a p can sl t=some t'∧df t' AF
 | [],t,_,hi,_=>⟨t,rfl,hi⟩
 | s :: r, t,hs,hi,h=>by
   have ho:=QA hw (hs s (.head _));obtain⟨k1,k2⟩:=h s (.head _)
   have h1 : ∃u,Re w ls a p can s t=some u∧df u AF:=by
    rw[Re];cases hb:FG ls a (p++[s])
    ·rw[k2 (k1 hb)]
     refine⟨_,rfl,fun c hh=>?_,hi.2⟩;rcases J5 hh with hh|rfl
     ·exact hi.1 c hh
     ·exact .inr (k1 hb)
    ·cases hc:can s
     ·refine⟨_,rfl,hi.1,fun c hh=>?_⟩
      rcases J5 hh with hh|rfl
      ·exact hi.2 c hh
      ·refine⟨by omega,?_⟩
       rw[←Bool.not_eq_true];intro e;rw[k2 e]at hc;cases hc
     ·exact⟨_,rfl,hi⟩
   obtain⟨u,h2,h3⟩:=h1;obtain⟨t',h4,h5⟩:=PX hw r (fun l h=>hs l (.tail _ h)) h3 fun l hh=>h l (.tail _ hh)
   exact⟨t',by rw[Iw,h2];exact h4,h5⟩
def b9 {w:AK} {AF:Nat→Bool}:df (tO w) AF:=by
 have: ∀c,(List.replicate (3+w.parents.length) false).getD c false=false:=fun c=>by
  rw[Dc];cases h:(List.replicate (3+w.parents.length) false)[c]? with
  | none=>rfl
  | some b=>rw[List.eq_of_mem_replicate (Cj h)];rfl
 exact⟨fun c h=>absurd ((this c).symm.trans h) (by decide),fun c h=>absurd ((this c).symm.trans h) (by decide)⟩
def Xg {g:List (List Int)} (ho:ordered g) {AF:Nat→Bool} (hC: ∀c,3≤c→AF c=true→ ∀q∈par g c,AF q.toNat=true): ∀d b:Nat,3≤d→AF d=true→Ik g d b=true→AF b=true:=by
 intro d
 induction d using Nat.strongRecOn with
 | _ d ih=>
   intro b h3 hd h;rw[Eb ho]at h;simp only[FU,Dn,Ip]at h;rcases h with rfl|⟨p,hp,h⟩
   ·exact hd
   ·have:=ho d p hp
    exact ih p.toNat (by omega) b (by omega) (hC d h3 hd p hp) h
def Zm {w : AK} (hw : Km w) {ls:List Fact} (hl: ∀l∈ls,Ho w l) {a:Int} {p:List Int} {can:Int→Bool} {T:Int→TU→Prop} (hcan: ∀s,s∈Dg w.owner.length ls a p→(can s=true↔ ∃t,Jg w t∧T s t))
    (hT: ∀s t,T s t↔ ∀l∈ls,(A5 l).1.arg=a→ ∀q,(A5 l).1.path=p++s::q→Q6 w t q (A5 l).1= !(A5 l).2) :
    (RP w ls a p can).isSome=true↔ ∃AF kid,Jg w (.obj AF kid)∧ ∀l∈ls,(A5 l).1.arg=a→ ∀q,(A5 l).1.path=p++q→Q6 w (.obj AF kid) q (A5 l).1= !(A5 l).2:=by
 have hL: ∀l∈ls.filter (LV a p),Ho w l:=fun l h=>hl l (Kl.1 h).1
 have hS: ∀s∈Dg w.owner.length ls a p,0≤s∧s<(w.owner.length:Int):=fun s h=>LC h
 have hn0:(tO w).1.length=3+w.parents.length∧(tO w).2.length=3+w.parents.length:=by simp[tO]
 constructor
 ·intro h
  rw[RP]at h;cases h1:Ix (ls.filter (LV a p)) (tO w)with
  | none=>rw[h1]at h;cases h
  | some t=>
    rw[h1,Option.bind_some]at h;obtain⟨g1,g2⟩:=NN _ hL hn0 h1;have hn1:t.1.length=3+w.parents.length∧t.2.length=3+w.parents.length:=⟨by rw[←g1.1];exact hn0.1,by rw[←g1.2.1];exact hn0.2⟩
    cases h2:Iw w ls a p can (Dg w.owner.length ls a p) t with
    | none=>rw[h2]at h;cases h
    | some u=>
      rw[h2,Option.bind_some,YG]at h;obtain⟨g3,g4⟩:=NM hw _ hS hn1 h2;have hn2:u.1.length=3+w.parents.length∧u.2.length=3+w.parents.length:=⟨by rw[←g3.1];exact hn1.1,by rw[←g3.2.1];exact hn1.2⟩
      split at h
      ·cases h
      ·rename_i h0
       split at h
       ·cases h
       ·rename_i h3
        clear h;have hSl:(u.1.set 0 false).length=3+w.parents.length:=by simpa using hn2.1
        generalize hSd:Ck w.parents (3+w.parents.length) w.parents.length (u.1.set 0 false)=S at *
        have hin: ∀c,3≤c→u.1.getD c false=true→S.getD c false=true:=fun c hc h=>by
         rw[←hSd];refine IJ hw.ord hSl _ _ ?_;rw[Dc,List.getElem?_set_ne (by omega),←Dc];exact h
        have hdis: ∀c,S.getD c false=true→u.2.getD c false=true→False:=fun c k1 k2=>by
         have hc:c<3+w.parents.length:=by
          rcases Nat.lt_or_ge c (3+w.parents.length)with h|h
          ·exact h
          ·rw[Dc,List.getElem?_eq_none (by omega)]at k2
           cases k2
         refine h3 (Ip.2 ⟨c,List.mem_range.2 hc,?_⟩);rw[k1,k2];rfl
        have hkid: ∀s,∃t,Jg w t∧((∃t,Jg w t∧T s t)→T s t):=fun s=>by
         rcases Classical.em (∃t,Jg w t∧T s t)with⟨t,k1,k2⟩|k
         ·exact⟨t,k1,fun _=>k2⟩
         ·exact⟨.Xz,trivial,fun h=>absurd h k⟩
        refine⟨fun c=>S.getD c false,fun s=>Classical.choose (hkid s),⟨fun c hc h q hq=>?_,fun s=>(Classical.choose_spec (hkid s)).1⟩,fun l h1 h2 q hq=>?_⟩
        ·change S.getD c false=true at h
         change S.getD q.toNat false=true
         have hcl:c<3+w.parents.length:=by
          rcases Nat.lt_or_ge c (3+w.parents.length)with h'|h'
          ·exact h'
          ·rw[Dc,List.getElem?_eq_none (by rw[←hSd,E5];omega)]at h
           cases h
         rw[←hSd]at h ⊢;exact GZ hw.ord hSl _ c (by omega) (by omega) h q hq
        ·cases q with
         | nil =>
           have k:=g2 l (Kl.2 ⟨h1,HI.2 ⟨h2,by simpa using hq⟩⟩);have k:=Pm g3 k;have hc:=(hl l h1).cls;generalize A5 l=x at *;obtain⟨f,b⟩:=x;simp only[Q6,H3,Tg]at *;by_cases e1:f.op≠2∨f.cls=1∨f.cls=2
           ·rw[if_pos e1]at k
            subst k;rcases e1 with e1|e1|e1
            ·simp[e1]
            ·simp[e1]
            ·simp[e1]
           ·rw [if_neg e1]at k
            have e2:f.op=2:=by
             rcases Classical.em (f.op=2)with e|e
             ·exact e
             ·exact absurd (Or.inl e) e1
            have hr:=hc e2;have e3:f.cls≠1∧f.cls≠2:=⟨fun e=>e1 (.inr (.inl e)),fun e=>e1 (.inr (.inr e))⟩
            rw[e2];rcases Classical.em (f.cls=0)with e|e
            ·rw[e]at k ⊢
             cases b
             ·rfl
             ·exfalso;exact h0 k
            ·have e4:(f.cls==0)=false:=by simpa using e
             have e5:decide (3≤f.cls)=true:=decide_eq_true (by omega);rw[e4,e5];cases b
             ·rw[if_neg (by decide)]at k
              rw[hin _ (by omega) k];rfl
             ·rw[if_pos rfl]at k
              have:S.getD f.cls.toNat false=false:=by
               rw[←Bool.not_eq_true];exact fun e=>hdis _ e k
              rw[this];rfl
         | cons s q=>
           have hs:s∈Dg w.owner.length ls a p:=(O6 hl).2 ⟨l,h1,h2,q,hq⟩;have hso:=QA hw (hS s hs);obtain⟨k1,k2⟩:=g4 s hs;simp only[Q6];cases hm:S.getD (CX w s).toNat false
           ·rw[Bool.false_and]
            cases hb:FG ls a (p++[s])
            ·have:=hin _ (by omega) (k1 hb).1
             rw[hm]at this;cases this
            ·rw[KM.1 hb l h1 h2 q (by rw[hq];simp)];rfl
           ·rw[EW]
            cases hc:can s
            ·exact absurd (k2 hc) fun e=>hdis _ hm e
            ·exact(hT s _).1 ((Classical.choose_spec (hkid s)).2 ((hcan s hs).1 hc)) l h1 h2 q hq
 ·rintro ⟨AF,kid,⟨hC,U⟩,h⟩
  obtain⟨t,h1,h2⟩:=PY (AF:=AF) (kid:=kid) (ls.filter (LV a p)) (t:=tO w) hL b9 fun l k=>by
   obtain⟨k1,k2⟩:=Kl.1 k;obtain⟨k3,k4⟩:=HI.1 k2;exact h l k1 k3 [] (by simpa using k4)
  obtain ⟨u,h3,h4⟩:=PX hw (AF:=AF) (can:=can) (ls:=ls) (a:=a) (p:=p) (Dg w.owner.length ls a p) (t:=t) hS h2 fun s hs=>by
   constructor
   ·intro hb
    cases e:AF (CX w s).toNat
    ·rw[KM.2 fun l k1 k2 q hq=>by
      have:=h l k1 k2 (s::q) (by rw[hq];simp);simp only[Q6,e,Bool.false_and]at this
      simpa using this.symm]at hb
     cases hb
    ·rfl
   ·intro e
    refine(hcan s hs).2 ⟨kid s,U s,(hT s _).2 fun l k1 k2 q hq=>?_⟩;have:=h l k1 k2 (s::q) hq;simpa only[Q6,e,EW]using this
  rw[RP,h1,Option.bind_some,h3,Option.bind_some,YG]
  have h0:u.2.getD 0 false=false:=by
   rw[←Bool.not_eq_true];exact fun e=>(h4.2 0 e).1 rfl
  rw[h0,if_neg (by decide),if_neg]
  ·rfl
  ·rw [Ip]
   rintro⟨c,-,hc⟩;rw[BY]at hc;have q1:=(NN _ hL hn0 h1).1;have q2:=(NM hw _ hS ⟨by rw[←q1.1];exact hn0.1,by rw[←q1.2.1];exact hn0.2⟩ h3).1;have hlen:(u.1.set 0 false).length=3+w.parents.length:=by rw[List.length_set,←q2.1,←q1.1];exact hn0.1
   obtain⟨d,k1,k2⟩:=Fc hw.ord hlen _ _ hc.1
   have hd0:d≠0:=by
    rintro rfl;rw[Dc,List.getElem?_set_self (by rw[List.length_set]at hlen;omega)]at k1;cases k1
   rw[Dc,List.getElem?_set_ne (fun e=>hd0 e.symm),←Dc]at k1;have hCd:AF d=true:=(h4.1 d k1).resolve_left hd0
   have hCc:AF c=true:=by
    rcases Nat.lt_or_ge d 3 with hd|hd
    ·rw[Eb hw.ord,show par w.parents d= [] from if_pos hd]at k2
     simp only[List.any_nil,Bool.or_false,Dn]at k2;subst k2;exact hCd
    ·exact Xg hw.ord hC d c hd hCd k2
   have:=(h4.2 c hc.2).2;rw[hCc]at this;cases this
def TT (w:AK) (ls:List Fact) (a:Int) (p:List Int) (t:TU):Prop:= ∀l∈ls,(A5 l).1.arg=a→ ∀q,(A5 l).1.path=p++q→Q6 w t q (A5 l).1= !(A5 l).2
def W4 {w:AK} {ls:List Fact} (hl: ∀l∈ls,Ho w l) {a:Int} {p:List Int}:Mg w.owner.length ls a p=true↔TT w ls a p .Xz:=by
 rw[Mg,BY,EY,Sa hl];constructor
 ·rintro⟨h1,h2⟩ l k1 k2 q hq
  cases q with
  | nil=>
    have:=h1 l (Kl.2 ⟨k1,HI.2 ⟨k2,by simpa using hq⟩⟩);simp only[Q6,H3,Oj]at *
    revert this
    cases((A5 l).1.op==2&&((A5 l).1.cls==0||(A5 l).1.cls==2))<;>cases(A5 l).2<;>decide
  | cons s q=>simp[Q6,h2 l k1 k2 s q hq]
 ·intro h
  refine⟨fun l k=>?_,fun l k1 k2 s q hq=>?_⟩
  ·obtain⟨k1,k2⟩:=Kl.1 k
   obtain⟨k3,k4⟩:=HI.1 k2;have:=h l k1 k3 [] (by simpa using k4);simp only[Q6,H3,Oj]at *
   revert this
   cases((A5 l).1.op==2&&((A5 l).1.cls==0||(A5 l).1.cls==2))<;>cases(A5 l).2<;>decide
  ·have:=h l k1 k2 (s::q) hq
   simpa[Q6]using this.symm
def Z3 {w:AK} {ls:List Fact} (hl: ∀l∈ls,Ho w l) {a:Int} {p:List Int}:((RT ls a p).isSome&&Iz w.owner.length ls a p)=true↔ ∃m,Jg w (.int m)∧TT w ls a p (.int m):=by
 rw[BY,Sa hl,Z2 hl];constructor
 ·rintro⟨⟨m,h1,h2⟩,h3⟩
  refine⟨m,h1,fun l k1 k2 q hq=>?_⟩;cases q with
  | nil=>exact h2 l k1 k2 (by simpa using hq)
  | cons s q=>simp[Q6,h3 l k1 k2 s q hq]
 ·rintro⟨m,h1,h2⟩
  refine⟨⟨m,h1,fun l k1 k2 k3=>h2 l k1 k2 [] (by simpa using k3)⟩,fun l k1 k2 s q hq=>?_⟩;have:=h2 l k1 k2 (s::q) hq;simpa[Q6]using this.symm
def V1 {w:AK} (hw:Km w) {ls:List Fact} (hl: ∀l∈ls,Ho w l) {a:Int} {p:List Int} {can:Int→Bool} (hcan: ∀s,s∈Dg w.owner.length ls a p→(can s=true↔ ∃t,Jg w t∧TT w ls a (p++[s]) t)) :
    (((RT ls a p).isSome&&Iz w.owner.length ls a p)||(Mg w.owner.length ls a p||(RP w ls a p can).isSome))=true↔ ∃t,Jg w t∧TT w ls a p t:=by
 rw[FU,FU,Z3 hl,W4 hl,Zm hw hl (T:=fun s t=>TT w ls a (p++[s]) t) hcan fun s t=>by simp only[TT,TW,List.singleton_append]];constructor
 ·rintro(⟨m,h1,h2⟩|h|⟨AF,kid,h1,h2⟩)
  ·exact⟨_,h1,h2⟩
  ·exact⟨.Xz,trivial,h⟩
  ·exact⟨_,h1,h2⟩
 ·rintro⟨t,h1,h2⟩
  cases t with
  | int m=>exact .inl ⟨m,h1,h2⟩
  | Xz=>exact .inr (.inl h2)
  | obj AF kid=>exact .inr (.inr ⟨AF,kid,h1,h2⟩)
def NQ {w:AK} (hw:Km w) {ls:List Fact} (hl: ∀l∈ls,Ho w l) (a:Int): ∀(d:Nat) (p:List Int),p.length+d=2→(P5 w ls a d p=true↔ ∃t,Jg w t∧TT w ls a p t)
 | 0,p,hp=>by
   rw[P5];refine V1 hw hl fun s hs=>?_
   rw[O5 (m:=2) (fun l h=>(hl l h).short) (by omega)]at hs;cases hs
 | d+1,p,hp=>by
   rw[P5];exact V1 hw hl fun s hs=>NQ hw hl a d (p++[s]) (by simp;omega)
def P2 (w:AK) (M:Int→TU) (l:Fact):Prop:=Q6 w (M (A5 l).1.arg) (A5 l).1.path (A5 l).1= !(A5 l).2
def R3 {w:AK} (hw:Km w) {ls:List Fact} (hl: ∀l∈ls,Ho w l):Il w ls=true↔ ∃M:Int→TU,(∀a,Jg w (M a))∧ ∀l∈ls,P2 w M l:=by
 rw[Il,EY];constructor
 ·intro h
  have hk: ∀a:Int,∃t,Jg w t∧(0≤a∧a<3→TT w ls a [] t):=fun a=>by
   rcases Classical.em (0≤a∧a<3)with e|e
   ·obtain⟨t,h1,h2⟩:=(NQ hw hl a 2 [] rfl).1 (h a (E2.2 e))
    exact⟨t,h1,fun _=>h2⟩
   ·exact⟨.Xz,trivial,fun k=>absurd k e⟩
  exact⟨fun a=>Classical.choose (hk a),fun a=>(Classical.choose_spec (hk a)).1,fun l k=>(Classical.choose_spec (hk (A5 l).1.arg)).2 (hl l k).arg l k rfl _ rfl⟩
 ·rintro⟨M,h1,h2⟩ a _
  refine(NQ hw hl a 2 [] rfl).2 ⟨M a,h1 a,fun l k1 k2 q hq=>?_⟩;have:=h2 l k1;rw[P2,k2]at this;rw[List.nil_append]at hq;rw[←hq];exact this
def lT (w:AK) (M:Int→TU) (f:Fact) (l:List Bool):Bool:=
 if f.op=1 then true else if f.op=5 then !l.getD 0 false else if f.op=6 then l.getD 0 false&&l.getD 1 false else if f.op=7 then l.getD 0 false||l.getD 1 false else Q6 w (M f.arg) f.path f
def Uz (w:AK) (M:Int→TU) (f:Fact):Bool:=f.Gi (lT w M)
def Tt (w:AK) (M:Int→TU) (f:Fact):Uz w M f=lT w M f (f.kids.map (Uz w M)):=Fact.DX (lT w M) f
def SQ (a:List Fact) (Q:Fact→Prop): ∀b:List Fact,(∀x∈Cm a b,Q x)↔(∀x∈a,Q x)∧ ∀x∈b,Q x:=by
 intro b
 induction b generalizing a with
 | nil=>simp[Cm]
 | cons y r ih=>
   rw[Cm,ih];split
   ·rename_i h
    obtain⟨z,h1,h2⟩:=Ip.1 h;have:=(LD y z).1 h2;subst this;simp only[List.forall_mem_cons];constructor
    ·rintro⟨h3,h4⟩;exact⟨h3,h3 _ h1,h4⟩
    ·rintro⟨h3,_,h4⟩;exact⟨h3,h4⟩
   ·simp only[List.forall_mem_append,List.forall_mem_cons,List.forall_mem_nil]
    constructor
    ·rintro⟨⟨h1,h2,_⟩,h3⟩;exact⟨h1,h2,h3⟩
    ·rintro⟨h1,h2,h3⟩;exact⟨⟨h1,h2,fun _ h=>by cases h⟩,h3⟩
def Ph {w : AK} {M:Int→TU} (f:Fact):Be w f=true→ ∀c,(∃l∈Bh f c,∀x∈l,P2 w M x)↔Uz w M f= !c:=by
 induction f using Fact.ind with
 | h f ih=>
   intro h c;have har:=DB f h;have h':=h;rw[CP,BY,EY]at h';rw[G9,ID,Tt,lT];by_cases h1:f.op=1
   ·rw[if_pos h1,if_pos h1]
    cases c<;>simp
   rw[if_neg h1,if_neg h1];by_cases h5:f.op=5
   ·obtain⟨a,ha,hb⟩:=IW har h5
    rw[if_pos h5,if_pos h5,ha];have:=ih a (by rw[ha];exact .head _) (h'.2 a (by rw[ha];exact .head _)) (!c);simp only[Et,List.map_nil,List.getD_cons_zero];rw[this];cases Uz w M a<;>cases c<;>decide
   rw[if_neg h5,if_neg h5];by_cases h6:f.op=6∨f.op=7
   ·obtain⟨a,b,ha,hb1,hb2⟩:=IV har h6
    rw[if_pos h6,ha];have i1:=ih a (by rw[ha];exact .head _) (h'.2 a (by rw[ha];exact .head _)) c;have j1:=ih b (by rw[ha];exact .tail _ (.head _)) (h'.2 b (by rw[ha];exact .tail _ (.head _))) c;simp only[Et,List.map_nil,List.getD_cons_zero,List.getD_cons_succ]
    have happ:(∃l∈Bh a c++Bh b c,∀x∈l,P2 w M x)↔Uz w M a= !c∨Uz w M b= !c:=by
     rw[←i1,←j1];constructor
     ·rintro⟨l,hl,hx⟩
      rcases FQ.1 hl with hl|hl
      ·exact .inl ⟨l,hl,hx⟩
      ·exact .inr ⟨l,hl,hx⟩
     ·rintro(⟨l,hl,hx⟩|⟨l,hl,hx⟩)
      ·exact⟨l,OO _ hl,hx⟩
      ·exact⟨l,OK _ hl,hx⟩
    have hprod:(∃l∈Fl (Bh a c) (Bh b c),∀x∈l,P2 w M x)↔Uz w M a= !c∧Uz w M b= !c:=by
     rw[←i1,←j1];simp only[Fl,List.mem_flatMap,MT];constructor
     ·rintro⟨l,⟨y,hy,z,hz,rfl⟩,hx⟩
      rw[SQ]at hx;exact⟨⟨y,hy,hx.1⟩,z,hz,hx.2⟩
     ·rintro⟨⟨y,hy,h1⟩,z,hz,h2⟩
      exact⟨_,⟨y,hy,z,hz,rfl⟩,(SQ y _ z).2 ⟨h1,h2⟩⟩
    rcases h6 with h6|h6
    ·rw[if_pos h6,h6]
     cases c
     ·rw[if_neg (by decide),hprod]
      simp
     ·rw[if_pos (by decide),happ]
      simp only[Bool.not_true,Bool.and_eq_false_iff]
    ·rw[if_neg (by omega: ¬f.op=6),if_pos h6,h6]
     cases c
     ·rw[if_pos (by decide),happ]
      simp
     ·rw[if_neg (by decide),hprod]
      simp only[Bool.not_true,Bool.or_eq_false_iff]
   ·rw[if_neg h6,if_neg (fun e=>h6 (.inl e)),if_neg (fun e=>h6 (.inr e))]
    have e1:P2 w M f↔Q6 w (M f.arg) f.path f=true:=by rw[P2,A5,if_neg h5];exact Iff.rfl
    have e2:P2 w M (Fj f)↔Q6 w (M f.arg) f.path f=false:=by
     rw[P2,show A5 (Fj f)=(f,true) from rfl];exact Iff.rfl
    cases c
    ·simp[e1]
    ·simp[e2]
def Zg {w:AK} (hw:Km w) {f:Fact} (hn:Be w f=true):Ta w f=true↔ ∃M:Int→TU,(∀a,Jg w (M a))∧Uz w M f=true:=by
 rw[Ta,Ip];constructor
 ·rintro⟨l,h1,h2⟩
  obtain⟨M,h3,h4⟩:=(R3 hw fun x hx=>Vb (FN f hn false l h1 x hx)).1 h2;exact⟨M,h3,(Ph f hn false).1 ⟨l,h1,h4⟩⟩
 ·rintro⟨M,h1,h2⟩
  obtain⟨l,h3,h4⟩:=(Ph f hn false).2 h2;exact⟨l,h3,(R3 hw fun x hx=>Vb (FN f hn false l h3 x hx)).2 ⟨M,h1,h4⟩⟩
def NI {w:AK} (hw:Km w) {a b:Fact} (ha:Be w a=true) (hb:Be w b=true):RU w a b=true↔ ∀M:Int→TU,(∀x,Jg w (M x))→Uz w M a=true→Uz w M b=true:=by
 have he: ∀M,Uz w M (OX a (Fj b))=(Uz w M a&& !Uz w M b):=fun M=>by
  rw[Tt];simp only[lT,OX,Fact.op,Fact.kids,Et,List.map_nil,List.getD_cons_zero,List.getD_cons_succ];rw[Tt w M (Fj b)];simp[lT,Fj,Fact.op,Fact.kids]
 rw[RU,Bool.not_eq_true',←Bool.not_eq_true,Zg hw (SK ha hb)];constructor
 ·intro h M h1 h2
  rw[←Bool.not_eq_false];exact fun h3=>h ⟨M,h1,by rw[he,h2,h3];rfl⟩
 ·rintro h ⟨M,h1,h2⟩
  rw[he,BY]at h2;rw[h M h1 h2.1]at h2;simp at h2
def imp_trans {w:AK} (hw:Km w) {a b c:Fact} (ha:Be w a=true) (hb:Be w b=true) (hc:Be w c=true) (h1:RU w a b=true) (h2:RU w b c=true):RU w a c=true:=
 (NI hw ha hc).2 fun M hM h=>(NI hw hb hc).1 h2 M hM ((NI hw ha hb).1 h1 M hM h)
def N2 {p:Prog} (hok:EC p) {i j k:Int} (hi:BE p i=true) (hj:BE p j=true) (hk:BE p k=true) (h1:ES p i j=true) (h2:ES p j k=true):ES p i k=true:=
 imp_trans hok.lO (hok.facts _ (Cj (CQ hi))).1 (hok.facts _ (Cj (CQ hj))).1 (hok.facts _ (Cj (CQ hk))).1 h1 h2
def Ux {p:Prog} {i j:Int}:Ap p i j=true↔ES p i j=true∧ES p j i=false:=by
 rw[Ap,BY,Bool.not_eq_true']
def OF {p:Prog} (i:Int):Ap p i i=false:=by
 rw[Ap];cases ES p i i<;>rfl
def Q2 {p:Prog} (hok:EC p) {i j k:Int} (hi:BE p i=true) (hj:BE p j=true) (hk:BE p k=true) (h1:Ap p i j=true) (h2:Ap p j k=true):Ap p i k=true:=by
 rw[Ux]at *;refine⟨N2 hok hi hj hk h1.1 h2.1,?_⟩;rw[←Bool.not_eq_true];intro e;have:=N2 hok hk hi hj e h1.1;rw[h2.2]at this;cases this
def Zi {p:Prog} {gen kind:Int} {i j:Nat}:Hm p gen kind i j=true↔((BI p i).gen=gen∧(BI p i).kind=kind)∧((BI p j).gen=gen∧(BI p j).kind=kind)∧Ap p i j=true:=by
 simp only[Hm,Cw,BY,Dn];constructor
 ·rintro⟨h1,h2,⟨h3,h4⟩,h5⟩
  exact⟨⟨h1,h2⟩,⟨by rw[←h3,h1],by rw[←h4,h2]⟩,h5⟩
 ·rintro⟨⟨h1,h2⟩,⟨h3,h4⟩,h5⟩
  exact⟨h1,h2,⟨by rw[h1,h3],by rw[h2,h4]⟩,h5⟩
def ba {p:Prog} {gen:Int} {i j:Nat} (h:Q4 p gen i j=true):((BI p i).gen=gen∧(BI p j).gen=gen)∧(BI p i).kind=(BI p j).kind∧ES p i j=true∧ES p j i=true:=by
 simp only[Q4,Cw,BY,Dn]at h;obtain⟨-,h1,⟨h2,h3⟩,h4,h5⟩:=h;exact⟨⟨h1,by rw[←h2,h1]⟩,h3,h4,h5⟩
end Go.Gl
namespace Go.Gl
open Go.Proofs
attribute [local irreducible] BC Ax Ai AU AO Ag AV AW AM Af AR AT A0 A9 Sat Ab A6 Ak W
def bf (p:Prog) (L:Nat) (m:Int) (hok:EC p) (hgw:CE (AQ p)) (hfm: ∀x∈p.methods,CN (AQ p) x.fact=true) (hm:BE p m=true) :
    C2 Tryz.prog (.f (.func 105) [] [.rp [FR p L],.rp [eI m]]) eI (fun M=>[.map L (Eu p M)]) (fun y M=>(Ap p y m,Md p M y m)) (fun y _=>BE p y=true):=by
 intro y M hy σ hs;refine Bl ?_;show BC Tryz.prog 105 ([]++[eI y]++[.rp [FR p L],.rp [eI m]]) σ _;refine k7 kZ ?_
 conv=>whnf
 repeat'((first|apply st|(apply sq;intro K U)|(apply si;intro A B Y Z)|(apply Y;clear Z B Y A)|(apply U;clear U K)|fail)<;>conv=>whnf)
 refine(NV p L y m hok hgw hfm hy hm M).use (rest:=[]) (by simpa using hs) ?_;clear hs;rintro r post σ ⟨rfl,rfl⟩ hs
 conv=>whnf
 repeat'((first|apply st|(apply Y;clear Z B Y A)|(apply U;clear U K)|fail)<;>conv=>whnf)
 exact Ar hs (List.sublist_append_left _ _) (.refl _) fun σ' hs'=>⟨rfl,hs'⟩
def Pb {S:Type} {stp:Int→S→Bool×S} {q:Int→Bool}: ∀(xs:List Int) (k:Nat) (s:S),(∀y∈xs,∀s,(stp y s).1=q y)→(Bj stp xs k s).1=match(List.range xs.length).find? fun i=>q (xs.getD i 0)with|some i=>((k+i:Nat):Int)|none=> -1
 | [],_,_,_=>rfl
 | y ::r,k,s,h=>by
   rw[Bj,h y (.head _)];have ih:=Pb r (k+1) (stp y s).2 fun z hz=>h z (.tail _ hz)
   rw[MC,List.range_succ_eq_map,List.find?_cons,List.getD_cons_zero];cases hq:q y
   ·rw[if_neg (by decide),ih]
    simp only[List.find?_map,Function.comp_def,Nat.succ_eq_add_one,List.getD_cons_succ];cases(List.range r.length).find? fun i=>q (r.getD i 0)with
    | none=>rfl
    | some i=>simp only[Xx];congr 1;omega
   ·rw[if_pos rfl];simp
def lh (p:Prog) (l:List Int) (m:Int) (M:List (Int×Int)):List (Int×Int):=(Bj (fun y M=>(Ap p y m,Md p M y m)) l 0 M).2
def VG (p:Prog) (L nb:Nat) (l:List Int) (f:Bool) (hok:EC p) (hgw:CE (AQ p)) (hfm: ∀x∈p.methods,CN (AQ p) x.fact=true) (hl: ∀x∈l,BE p x=true) :
    C2 Tryz.prog (.f (.func 104) [] [.p nb 0,.rp [FR p L]]) eI (fun M=>[.box nb [.l (iL l) f],.map L (Eu p M)]) (fun m M=>(!(decide ((Bj (fun y M=>(Ap p y m,Md p M y m)) l 0 M).1≥0)),lh p l m M)) (fun m _=>BE p m=true):=by
 intro m M hm σ hs;refine Bl ?_;show BC Tryz.prog 104 ([]++[eI m]++[.p nb 0,.rp [FR p L]]) σ _;refine k8 kZ ?_
 conv=>whnf
 repeat'((first|(apply sq;intro K U)|(apply si;intro A B Y Z)|(apply Y;clear Z B Y A)|(apply U;clear U K)|refine ld ?_|fail)<;>conv=>whnf)
 refine(F2 105 [] [.rp [FR p L],.rp [eI m]] (fun M=>[.map L (Eu p M)]) _ _ (bf p L m hok hgw hfm hm) l f M (GW fun y hy _=>hl y hy)).use (rest:=[_]) (hs.perm (.swap _ _ _)) ?_;clear hs;rintro r post σ ⟨rfl,rfl⟩ hs
 conv=>whnf
 repeat'((first|apply st|(apply Y;clear Z B Y A)|(apply U;clear U K)|fail)<;>conv=>whnf)
 exact Ar (hs.perm (.swap _ _ _)) (List.Sublist.refl _) (.refl _) fun σ' hs'=>⟨rfl,hs'⟩
def Yg {p:Prog} (hok:EC p): ∀(l:List Int),l≠[]→(∀x∈l,BE p x=true)→ ∃x∈l,∀y∈l,Ap p y x=false
 | [],h,_=>absurd rfl h
 | x ::r,_,h=>by
   by_cases hr:r= []
   ·subst hr
    exact⟨x,.head _,fun y hy=>by rw[Kj.1 hy];exact OF x⟩
   obtain⟨z,hz,hz2⟩:=Yg hok r hr fun y hy=>h y (.tail _ hy)
   cases hxz:Ap p x z
   ·refine⟨z,.tail _ hz,fun y hy=>?_⟩
    rcases Fh.1 hy with rfl|hy
    ·exact hxz
    ·exact hz2 y hy
   ·refine⟨x,.head _,fun y hy=>?_⟩
    rcases Fh.1 hy with rfl|hy
    ·exact OF y
    ·rw[←Bool.not_eq_true]
     intro e;have:=Q2 hok (h y (.tail _ hy)) (h x (.head _)) (h z (.tail _ hz)) e hxz;rw[hz2 y hy]at this;cases this
def PI {p:Prog} (hok:EC p) {l:List Int} (hl:l≠[]) (h: ∀x∈l,BE p x=true): ∃i,Tc (Ap p) l=some i:=by
 obtain⟨x,hx,hx2⟩:=Yg hok l hl h;obtain⟨i,hi⟩:=List.getElem?_of_mem hx;cases hm:Tc (Ap p) l with
 | some i=>exact⟨i,rfl⟩
 | none=>
   rw[Tc,List.find?_range_eq_none]at hm;have h1:=hm i (Hr.1 hi).1
   have h2:WL (Ap p) l i l.length=true:=by
    rw[WL,EY];intro k hk;rw[E8 hi,hx2 _ (PV (List.mem_range.1 hk))];rfl
   rw[h2]at h1;cases h1
end Go.Gl
namespace Go.Gl
variable {P:Program} {σ:AH}
def ZO {L:Nat} {args:List V} {Q:R→AH→Prop} (h:Me P L args σ Q):A0 P (.f (.yield L) [] []) args σ Q:=h
def ER {L:Nat} {E:Env} {ps:List Nat} {a b:AJ} {args:List V} {l:List At} (hl:args.length=ps.length) (hs:Sat σ (.obj L (.loop .ready E (Bw P ps a b))::l)) {Q:R→AH→Prop}
    (h: ∀σ,Sat σ l→W P a (C8 (W P b fun ex env' σ'=>σ' L=none→QK L E (Bw P ps a b) Q ex env' σ')) (JH ps args E) σ):Me P L args σ Q:=
 OB (hs.get (i:=0) rfl) hl (h _ hs.del)
end Go.Gl
