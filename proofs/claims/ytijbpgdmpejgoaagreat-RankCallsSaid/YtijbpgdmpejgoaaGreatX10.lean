import Derived.Test.YtijbpgdmpejgoaaGreatX9
set_option linter.all false
set_option linter.defProp false
noncomputable section
namespace Go.Gl
open Go.Proofs
attribute [local irreducible] BL A5 Aj AW AN Ai AV AX AO Ah AS AU BA BK Sat Ad BH Al W
def e8 (xs:List Int) (f:Bool) (x:Int):Pure Tryz.prog 154 [.l (iL xs) f,eI x] (.b (xs.contains x)):=Pure.fit (by kernel_rfl) fun hf=>Zz xs f x (Iu hf.1)
def Cg (w:AK) (f:Fact):Bool:=decide (Cc f 24≤24)&&(decide (EI f≤12)&&Bi w f)
def cA (w:AK) (f:Fact):Pure Tryz.prog 94 [.a (Aq w),.a (xF f)] (.b (Cg w f)):=by
 refine qE kZ ?_
 conv=>whnf
 repeat'((first|apply st|(apply sq;intro K U)|(apply si;intro A B Y Z)|(apply Y;clear Z B Y A)|(apply U;clear U K)|refine⟨rfl,?_⟩|refine⟨kZ,?_⟩|refine Pure.use (bU _) ?_|(constructor<;>intro hc<;>(try rw[hc])<;>(replace hc:=bp hc))|fail)<;>conv=>whnf)
 ·have:=KC f 24 (by omega) hc
  refine(cK f (by simp only[Ac];omega)).use ?_
  conv=>whnf
  repeat'((first|apply st|(apply Y;clear Z B Y A)|(apply U;clear U K)|refine⟨rfl,?_⟩|refine⟨kZ,?_⟩|refine Pure.use (eS _ _) ?_|(constructor<;>intro hc<;>(try rw[hc])<;>(replace hc:=bp hc))|fail)<;>conv=>whnf)
  ·exact AI (by simp[Cg,hc,‹Cc f 24≤24›])
  ·exact AI (by simp[Cg, *];intros;omega)
 ·exact AI (by simp[Cg];intros;omega)
def iG (i:Nat) (pre:List Int) (c:Int):Bool:=decide (3≤c)&&(decide (c<3+i)&& !pre.contains c)
def Lp (i:Nat):List Int→List Int→Bool
 | _,[]=>true
 | pre,c::r=>iG i pre c&&Lp i (pre++[c]) r
def IJ:Nat→List (List Int)→Bool
 | _,[]=>true
 | i,l::r=>decide (l.length≤3)&&(Lp i [] l&&IJ (i+1) r)
def Dt (g:List (List Int)):Bool:=decide (g.length≤16)&&IJ 0 g
def RU {ls:List (List Int)} {g:Bool} (h:FD (.l (Ej ls) g)):ls.length≤Ac∧ ∀l∈ls,l.length≤Ac:=by
 simp only[EZ,BD,I5,Dc]at h;exact⟨h.1,fun l hl=>(h.2 l hl).1.1⟩
def fC (g:List (List Int)) (f:Bool):Pure Tryz.prog 123 [.l (Ej g) f] (.b (Dt g)):=by
 refine Pure.fit (by kernel_rfl) fun hf=>?_
 have⟨g1,g2⟩:=RU hf.1;have hM:=Mx;refine nS kZ ?_
 conv=>whnf
 repeat'((first|apply st|(apply sq;intro K U)|(apply si;intro A B Y Z)|(apply Y;clear Z B Y A)|(apply U;clear U K)|refine⟨rfl,?_⟩|(constructor<;>intro hc<;>(try rw[hc])<;>(replace hc:=bp hc)<;>(try simp(disch:=omega) only[BD,wrap64,AL]at hc))|clear U K)<;>conv=>whnf)
 ·exact AI (by simp[Dt];intros;omega)
 ·refine B4 g.length (fun k (_:Unit)=>[(3,eI (A3 k))]) (fun _ _=>[]) (fun k _=>Dt g=IJ k (g.drop k)) () rfl (by simp[Dt];omega) Sat.nil ?_
  rintro k - σ hk hn hs
  conv=>whnf
  repeat'((first|apply st|(apply sq;intro K U)|(apply si;intro A B Y Z)|(apply Y;clear Z B Y A)|(apply U;clear U K)|refine⟨rfl,?_⟩|refine ix ?_|(refine fc (fun x hx hlt hc=>?_) (fun hk hc=>?_)<;>(try rw[hc])<;>clear hc)|(constructor<;>intro hc<;>(try rw[hc])<;>(replace hc:=bp hc)<;>(try simp(disch:=omega) only[BD,wrap64,AL]at hc))|clear U K)<;>conv=>whnf)
  ·exact AI (by rw[hn,drop_cons hx,IJ];simp;intros;omega)
  ·revert x
   rintro l hl hl3;have hll:=g2 l (B1 hl);have hn':Dt g=(Lp k [] l&&IJ (k+1) (g.drop (k+1))):=by rw[hn,drop_cons hl,IJ];simp;intros;omega
   refine B4 l.length (fun j (_:Unit)=>[(4,eI (A3 j))]) (fun _ _=>[]) (fun j _=>Dt g=(Lp k (l.take j) (l.drop j)&&IJ (k+1) (g.drop (k+1)))) () rfl (by rw[hn'];rfl) Sat.nil ?_;rintro j - σ hj hm hs
   conv=>whnf
   repeat'((first|apply st|(apply sq;intro K U)|(apply si;intro A B Y Z)|(apply Y;clear Z B Y A)|(apply U;clear U K)|apply dr|refine⟨rfl,?_⟩|refine ix ?_|refine vG ?_|(refine fc (fun x hx hlt hc=>?_) (fun hk hc=>?_)<;>(try rw[hc])<;>clear hc)|refine Pure.use (e8 _ _ _) ?_|(constructor<;>intro hc<;>(try rw[hc])<;>(replace hc:=bp hc)<;>(try simp(disch:=omega) only[BD,wrap64,AL]at hc))|clear U K)<;>conv=>whnf)
   ·exact AI (by rw[hm,drop_cons hx,Lp,iG,hc];simp)
   ·refine⟨hlt,(),rfl,?_,Sat.nil⟩
    rw[hm,drop_cons hx,Lp,iG,hc,AQ hx];simp[*]
   ·exact AI (by rw[hm,drop_cons hx,Lp,iG];simp;intros;omega)
   ·exact AI (by rw[hm,drop_cons hx,Lp,iG];simp;intros;omega)
   ·refine⟨by assumption,(),rfl,?_,Sat.nil⟩
    rw[hm,Ag hk,Lp,Ey]
  ·exact AI (by rw[hn,Ag hk];rfl)
def KU:Int→List Int→Bool
 | _,[]=>true
 | n,s::r=>s==n&&KU (n+1) r
def Cp:Int→List PT→Bool
 | _,[]=>true
 | n,c::r=>decide (c.AT.length≤4)&&(decide (c.parents.length≤3)&&(KU n c.AT&&Cp (n+c.AT.length) r))
def EH (w:AK) (c n:Int):List (Int×Int)→List (Int×Int)→Bool
 | _,[]=>true
 | pre,x::r=>decide (0≤x.1)&&(decide (x.1<n)&&(hasB w c x.1&&(RK x.2&&(pre.all (fun y=>y.1 != x.1)&&EH w c n (pre++[x]) r))))
def dT (g:List (List Int)) (c:Int):Bool:= !((B9 g).getD c.toNat []).isEmpty
def GJ (w:AK) (n:Int):Nat→List PT→Bool
 | _,[]=>true
 | i,c::r=>dT w.parents ((i:Int)+3)&&(EH w ((i:Int)+3) n [] c.inits&&GJ w n (i+1) r)
def BI (p:Prog):Bool:=decide (p.AP.length≤10)&&(Cp 0 p.AP&&((Bu p.AP:Int)==p.AT&&(Dt (A8 p)&&GJ (AM p) (Bu p.AP) 0 p.AP)))
def py {c:PT} (h:Hl (Pa c)):c.parents.length≤Ac∧c.AT.length≤Ac∧c.inits.length≤Ac:=by
 simp only[Pa,Dc,EZ,BD]at h;exact⟨h.1.1,h.2.1.1,h.2.2.1.1⟩
def Jg {p:Prog} (h:FD (.a (BV p))):iY p:=by
 refine⟨(GI h).1,fun c hc=>?_⟩;simp only[BV,G4,Dc,EZ,I5]at h;exact py (h.1.2 c hc)
def b7 (p:Prog) (hk0:p.AP.length≤1000):Pure Tryz.prog 91 [.a (BV p)] (.l (Ej (A8 p)) false):=Pure.fit (by kernel_rfl) fun hf=>Ww p (Jg hf.1) hk0
def FP: ∀(cs:List PT) (n:Int),Cp n cs=true→Bu cs≤4*cs.length∧ ∀c∈cs,c.parents.length≤3∧c.AT.length≤4
 | [],_,_=>⟨JU _,fun _ h=>by cases h⟩
 | c::r,n,h=>by
   simp only[Cp,BZ,CY]at h;have⟨h1,h2⟩:=FP r _ h.2.2.2;refine⟨by simp only[Bu,FC,List.sum_cons,La]at *;omega,fun d hd=>?_⟩;rcases GB.1 hd with rfl|hd
   ·exact⟨h.2.1,h.1⟩
   ·exact h2 d hd
def Qp {i:Nat}: ∀(r pre:List Int),Lp i pre r=true→pre.Nodup→(pre++r).Nodup∧ ∀c∈r,(3:Int)≤c∧c<3+(i:Int)
 | [],pre,_,h=>⟨by simpa using h,fun _ h=>by cases h⟩
 | c::r,pre,h,hn=>by
   simp only[Lp,iG,BZ,CY,Bool.not_eq_true']at h;have hc:c∉pre:=by simpa using h.1.2.2
   obtain⟨h1,h2⟩:=Qp r (pre++[c]) h.2 (List.nodup_append.2 ⟨hn,by simp,fun a ha b hb=>by simp at hb;subst hb;exact fun e=>hc (e ▸ ha)⟩);refine⟨by simpa using h1,fun d hd=>?_⟩;rcases GB.1 hd with rfl|hd
   ·exact⟨h.1.1,h.1.2.1⟩
   ·exact h2 d hd
def Oj: ∀(g:List (List Int)) (k:Nat),IJ k g=true→ ∀(i:Nat) (l:List Int),g[i]? =some l→l.length≤3∧l.Nodup∧ ∀c∈l,(3:Int)≤c∧c<3+((k+i:Nat):Int)
 | [],_,_,_,_,h=>by cases h
 | l ::r,k,h,i,l',hi=>by
   simp only[IJ,BZ,CY]at h;cases i with
   | zero=>
     simp at hi;subst hi;obtain⟨h1,h2⟩:=Qp l [] h.2.1 .nil;exact⟨h.1,by simpa using h1,by simpa using h2⟩
   | succ i=>
     simp at hi;have:=Oj r (k+1) h.2.2 i l' hi;rw[show k+(i+1)=k+1+i by omega];exact this
def Dz {g:List (List Int)} (h:Dt g=true):IL g:=by
 simp only[Dt,BZ,CY]at h;refine⟨h.1,fun i l hi=>?_⟩;have:=Oj g 0 h.2 i l hi;simpa using this
def JP {g:List (List Int)} (h:IL g):ordered g:=by
 intro c p hp;unfold par at hp;split at hp
 ·cases hp
 ·rename_i h3
  rw[DK]at hp;cases hq:g[c - 3]? with
  | none=>rw[hq]at hp;cases hp
  | some l=>
    rw[hq]at hp;have:=(h.2 _ _ hq).2.2 p hp;omega
def F4 {i:Nat} {cs:List PT} {c:Int} (h:c∈BY i cs):(3:Int)+i≤c∧c<3+i+cs.length:=by
 induction cs generalizing i with
 | nil=>cases h
 | cons d r ih=>
   simp only[BY,Fo,List.mem_replicate]at h;simp only[La];rcases h with⟨_,rfl⟩|h
   ·omega
   ·have:=ih h;omega
def OY {p:Prog} (h1:p.AP.length≤10) (h2:Cp 0 p.AP=true) (h3:Dt (A8 p)=true):Ja (AM p):=by
 have hl:(AM p).parents.length=p.AP.length:=by simp[AM,A8]
 refine⟨by omega,JP (Dz h3),fun c hc=>?_,?_⟩
 ·have:=F4 hc
  rw[hl];omega
 ·have:=(FP _ _ h2).1
  simp only[AM,Cf];omega
def Yq (p : Prog):Pure Tryz.prog 93 [.a (BV p)] (.b (BI p)):=by
 refine Pure.fit (by kernel_rfl) fun hf=>?_
 have F:=Jg hf.1;have hcl:=F.1;have hM:=Mx;refine qF kZ ?_
 conv=>whnf
 repeat'((first|apply st|(apply sq;intro K U)|(apply si;intro A B Y Z)|(apply Y;clear Z B Y A)|(apply U;clear U K)|refine⟨rfl,?_⟩|(constructor<;>intro hc<;>(try rw[hc])<;>(replace hc:=bp hc)<;>(try simp(disch:=omega) only[BD,wrap64,AL]at hc))|clear U K)<;>conv=>whnf)
 ·exact AI (by simp[BI];intros;omega)
 have h10:p.AP.length≤10:=by omega
 refine B4 p.AP.length (fun k (n:Int)=>[(3,eI n),(4,eI (A3 k))]) (fun _ _=>[]) (fun k n=>Cp 0 p.AP=Cp n (p.AP.drop k)∧0≤n∧n+Bu (p.AP.drop k)=Bu p.AP∧n≤4*k) 0 rfl (by simp) Sat.nil ?_;rintro k n σ hk ⟨hn,hn0,hn1,hn2⟩ hs
 conv=>whnf
 repeat'((first|apply st|(apply sq;intro K U)|(apply si;intro A B Y Z)|(apply Y;clear Z B Y A)|(apply U;clear U K)|refine⟨rfl,?_⟩|refine⟨kZ,?_⟩|refine ix ?_|(refine fc (fun x hx hlt hc=>?_) (fun hk hc=>?_)<;>(try rw[hc])<;>clear hc)|refine Pure.use (b7 _ (by omega)) ?_|refine Pure.use (fC _ _) ?_|(constructor<;>intro hc<;>(try rw[hc])<;>(replace hc:=bp hc)<;>(try simp(disch:=omega) only[BD,wrap64,AL]at hc))|clear U K)<;>conv=>whnf)
 ·exact AI (by simp only[BI];rw[hn,drop_cons hx,Cp];simp;intros;omega)
 ·have hms:n+(x.AT.length:Int)+Bu (p.AP.drop (k+1))=Bu p.AP:=by
   rw[drop_cons hx]at hn1;simp only[Bu,FC,List.sum_cons]at hn1 ⊢;omega
  have hsl:=(F.2 x (B1 hx)).2.1
  have hn':Cp 0 p.AP=(KU n x.AT&&Cp (n+x.AT.length) (p.AP.drop (k+1))):=by
   have a1:x.AT.length≤4:=by omega
   have a2:x.parents.length≤3:=by omega
   rw[hn,drop_cons hx,Cp];simp only[a1,a2,decide_true,Ey]
  revert x
  rintro c hx hcs h3 hms hsl hn';refine B4 c.AT.length (fun j (m:Int)=>[(3,eI m),(6,eI (A3 j))]) (fun _ _=>[]) (fun j m=>Cp 0 p.AP=(KU m (c.AT.drop j)&&Cp (n+c.AT.length) (p.AP.drop (k+1)))∧m=n+j) n rfl ⟨hn',by simp⟩ Sat.nil ?_;rintro j m σ hj ⟨hm,he⟩ hs
  conv=>whnf
  repeat'((first|apply st|(apply sq;intro K U)|(apply si;intro A B Y Z)|(apply Y;clear Z B Y A)|(apply U;clear U K)|refine⟨rfl,?_⟩|refine ix ?_|(refine fc (fun x hx hlt hc=>?_) (fun hk hc=>?_)<;>(try rw[hc])<;>clear hc)|(constructor<;>intro hc<;>(try rw[hc])<;>(replace hc:=bp hc))|clear U K)<;>conv=>whnf)
  ·exact AI (by simp only[BI];rw[hm,drop_cons (by assumption),KU];simp[hc])
  ·refine⟨hlt,_,rfl,⟨?_,?_⟩,hs⟩
   ·rw[hm,drop_cons (by assumption),KU,wrap64 (by omega) (by omega)];simp[hc]
   ·rw[wrap64 (by omega) (by omega)];omega
  ·refine⟨by assumption,m,rfl,⟨?_,by omega,by omega,by omega⟩,hs⟩
   rw[hm,Ag (by assumption),KU,Ey,he];congr 1;omega
 ·exact AI (by simp only[BI];rw[hn,drop_cons hx,Cp];simp;intros;omega)
 ·have hne:n=Bu p.AP:=by rw[Ag hk]at hn1;simpa[Bu]using hn1
  exact AI (by simp only[BI];rw[hc];simp)
 ·have hne:n=Bu p.AP:=by rw[Ag hk]at hn1;simpa[Bu]using hn1
  have hsb:Cp 0 p.AP=true:=by rw[hn,Ag hk];rfl
  have hms:=(FP _ _ hsb).1;have hok:=OY h10 hsb hc
  have hcb:BI p=GJ (AM p) n 0 p.AP:=by
   simp only[BI,hsb,hc,←hne];simp[*]
  refine(Kj p F (by omega) (by omega)).use ?_
  conv=>whnf
  repeat'((first|apply st|(apply sq;intro K U)|(apply si;intro A B Y Z)|(apply Y;clear Z B Y A)|(apply U;clear U K)|refine sn fun σ hs=>?_|(intro nn hnn;generalize hg:A6 _ nn _=σ;refine al hg fun hs=>?_;clear hg)|fail)<;>conv=>whnf)
  refine B4 p.AP.length (fun k (_:Unit)=>[(9,eI (A3 k))]) (fun _ _=>[.box nn (Aq (AM p))]) (fun k _=>BI p=GJ (AM p) n k (p.AP.drop k)) () rfl (by rw[hcb];rfl) hs ?_;rintro k - σ hk hn hs
  conv=>whnf
  repeat'((first|apply st|(apply sq;intro K U)|(apply si;intro A B Y Z)|(apply Y;clear Z B Y A)|(apply U;clear U K)|refine⟨rfl,?_⟩|(refine fc (fun x hx hlt hc=>?_) (fun hk hc=>?_)<;>(try rw[hc])<;>clear hc)|clear U K)<;>conv=>whnf)
  ·have e3 : IntKind.i64.wrap (A3 k+3)=(k:Int)+3:=by rw[AL (by omega),wrap64 (by omega) (by omega)]
   rw[e3];have hgl:(A8 p).length=p.AP.length:=by simp[A8]
   refine(jk (A8 p) false ((k:Int)+3) (Dz hc) (by omega) (by omega)).use ?_
   conv=>whnf
   repeat'((first|apply st|(apply sq;intro K U)|(apply si;intro A B Y Z)|(apply Y;clear Z B Y A)|(apply U;clear U K)|refine ix ?_|(constructor<;>intro hc<;>(try rw[hc])<;>(replace hc:=bp hc))|clear U K)<;>conv=>whnf)
   ·have hlb:dT (AM p).parents ((k:Int)+3)=false:=by
     show(!((B9 (A8 p)).getD ((k:Int)+3).toNat []).isEmpty)=false;rw[hc];rfl
    exact AI (by rw[hn,drop_cons hx,GJ,hlb];rfl)
   ·have hil:=(F.2 x (B1 hx)).2.2
    have hn':BI p=(EH (AM p) ((k:Int)+3) n [] x.inits&&GJ (AM p) n (k+1) (p.AP.drop (k+1))):=by
     have hlb:dT (AM p).parents ((k:Int)+3)=true:=by
      show(!((B9 (A8 p)).getD ((k:Int)+3).toNat []).isEmpty)=true;rw[hc];rfl
     rw[hn,drop_cons hx,GJ,hlb];rfl
    revert x
    rintro c hx hil hn';refine B4 c.inits.length (fun j (_:Unit)=>[(14,eI (A3 j))]) (fun _ _=>[.box nn (Aq (AM p))]) (fun j _=>BI p=(EH (AM p) ((k:Int)+3) n (c.inits.take j) (c.inits.drop j)&&GJ (AM p) n (k+1) (p.AP.drop (k+1)))) () rfl (by rw[hn'];rfl) hs ?_;rintro j - σ hj hm hs
    conv=>whnf
    repeat'((first|apply st|(apply sq;intro K U)|(apply si;intro A B Y Z)|(apply Y;clear Z B Y A)|(apply U;clear U K)|apply dr|refine⟨rfl,?_⟩|refine⟨kZ,?_⟩|refine ix ?_|refine ld ?_|(refine fc (fun x hx hlt hc=>?_) (fun hk hc=>?_)<;>(try rw[hc])<;>clear hc)|(constructor<;>intro hc<;>(try rw[hc])<;>(replace hc:=bp hc))|clear U K)<;>conv=>whnf)
    ·refine(Un (AM p) ((k:Int)+3) x.1 hok (by omega) (by rw[show(AM p).parents=A8 p from rfl];omega) (by omega) (by rw[show(AM p).owner=BY 0 p.AP from rfl,Cf];omega)).use ?_
     conv=>whnf
     repeat'((first|apply st|(apply sq;intro K U)|(apply si;intro A B Y Z)|(apply Y;clear Z B Y A)|(apply U;clear U K)|apply dr|refine ix ?_|refine Pure.use (gV _) ?_|(constructor<;>intro hc<;>(try rw[hc])<;>(replace hc:=bp hc))|clear U K)<;>conv=>whnf)
     ·exact AI (by rw[hm,drop_cons hx,EH];simp[*])
     ·have hm':BI p=((c.inits.take j).all (fun y=>y.1 != x.1)&&(EH (AM p) ((k:Int)+3) n (c.inits.take (j+1)) (c.inits.drop (j+1))&&GJ (AM p) n (k+1) (p.AP.drop (k+1)))):=by
       have b1:decide (0≤x.1)=true:=decide_eq_true (by assumption);have b2:decide (x.1<n)=true:=decide_eq_true (by assumption);rw[hm,drop_cons hx,EH,AQ hx,b1,b2,‹hasB _ _ _=true›,hc];simp only[Ey,Bool.and_assoc]
      revert x
      rintro x hxj hx0 hx1 hhb hbt hm';refine B4 j (fun i (_:Unit)=>[(15,eI (A3 i))]) (fun _ _=>[.box nn (Aq (AM p))]) (fun i _=>BI p=(((c.inits.take j).drop i).all (fun y=>y.1 != x.1)&&(EH (AM p) ((k:Int)+3) n (c.inits.take (j+1)) (c.inits.drop (j+1))&&GJ (AM p) n (k+1) (p.AP.drop (k+1))))) () rfl (by rw[hm'];rfl) hs ?_;rintro i - σ hi hl hs;rcases Nat.lt_or_ge i j with hij|hij
      ·obtain⟨y,hy⟩: ∃y,c.inits[i]? =some y:=⟨_,Ct (by omega)⟩
       have hy':(c.inits.take j)[i]? =some y:=by rw[List.getElem?_take,if_pos hij,hy]
       conv=>whnf
       repeat'((first|apply st|(apply sq;intro K U)|(apply si;intro A B Y Z)|(apply Y;clear Z B Y A)|(apply U;clear U K)|apply dr|refine⟨rfl,?_⟩|refine ix ?_|(constructor<;>intro hc<;>(try rw[hc])<;>(replace hc:=bp hc)<;>(try simp(disch:=omega) only[BD,wrap64,AL]at hc)<;>try(exfalso;omega))|clear U K)<;>conv=>whnf)
       ·exact AI (by rw[hl,drop_cons hy',MU,hc];simp)
       ·refine⟨hij,(),rfl,?_,hs⟩
        have hc':(y.1 != x.1)=true:=by simpa using hc
        rw[hl,drop_cons hy',MU,hc',Ey]
      ·conv=>whnf
       repeat'((first|apply st|(apply sq;intro K U)|(apply si;intro A B Y Z)|(apply Y;clear Z B Y A)|(apply U;clear U K)|refine⟨rfl,?_⟩|(constructor<;>intro hc<;>(try rw[hc])<;>(replace hc:=bp hc)<;>(try simp(disch:=omega) only[BD,wrap64,AL]at hc)<;>try(exfalso;omega))|clear U K)<;>conv=>whnf)
       refine⟨by assumption,(),rfl,?_,hs⟩;rw[hl,List.drop_of_length_le (by rw[LZ];omega),List.all_nil,Ey]
     ·exact AI (by rw[hm,drop_cons hx,EH];simp[*])
    ·exact AI (by rw[hm,drop_cons hx,EH];simp;intros;omega)
    ·exact AI (by rw[hm,drop_cons hx,EH];simp;intros;omega)
    ·refine⟨by assumption,(),rfl,?_,hs⟩
     rw[hm,Ag hk,EH,Ey]
  ·exact AI (by rw[hn,Ag hk];rfl)
 ·have hne:n=Bu p.AP:=by rw[Ag hk]at hn1;simpa[Bu]using hn1
  exact AI (by simp only[BI];rw[←hne];simp[hc])
def Fh (f:Int→Int→List Int→Option (List Int)) (op size:Int):Nat→List Int→List Int→Option (List Int)
 | _,[],s=>some s
 | i,k::r,s=>match f k (if op=9∧i=1 then size+1 else size) s with
   | none=>none
   | some s'=>Fh f op size (i+1) r s'
def EE (p:Prog) (next:Bool) (size:Int) (x:Node):Bool:=((x.kids.length:Int)==It p x)&&(Ll p x size&&(x.op != 18||next))
def CR (p:Prog) (next:Bool):Nat→Int→Int→List Int→Option (List Int)
 | 0,_,_,_=>none
 | d+1,n,size,s=>
   if n<0∨(p.nodes.length:Int)≤n∨0≤s.getD n.toNat 0 then none else
   match p.nodes[n.toNat]? with
   | none=>none
   | some x=>if EE p next size x then Fh (CR p next d) x.op size 0 x.kids (s.set n.toNat size)else none
def S0 (v:V) (s:List Int) (o:Option (List Int)) (r:R) (post:List At):Prop:=
 ∃s':List Int,s'.length=s.length∧post= [.own v 1 (iL s')]∧((o=some s'∧r= .ret (.b true))∨(o=none∧r= .ret (.b false)))
def Ns {v:V} {s s':List Int} {o:Option (List Int)} {σ:AH} {rest:List At} (hs:Sat σ (.own v 1 (iL s')::rest)) (hl:s'.length=s.length) (ho:o=none):A5 σ (.b false) fun r σ'=> ∃post,S0 v s o r post∧Sat σ' post:=
 Ap hs (.cons₂ _ (LY _)) (.refl _) fun σ' hs'=>⟨_,⟨s',hl,rfl,.inr ⟨ho,rfl⟩⟩,hs'⟩
def Z1 {p:Prog} (h:FD (.a (BV p))) {x:Node} (hx:x∈p.nodes):x.kids.length≤Ac:=by
 simp only[BV,G4,Dc,EZ,I5]at h
 have h2:Hl (Iv x):=by
  first|exact h.2.2.2.2.1.2 x hx|exact h.2.2.2.2.2.1.2 x hx|exact h.2.2.2.1.2 x hx|exact h.2.2.1.2 x hx|exact h.2.1.2 x hx
 simp only[Iv,Dc,EZ,BD]at h2
 first|exact h2.2.2.1.1|exact h2.2.2.1|exact h2.1
def NF {p:Prog} {next:Bool} {d:Nat} {n size:Int} {s:List Int} {x:Node} {y:Int} (h0:0≤n) (h1:n<(p.nodes.length:Int)) (hs:s[n.toNat]? =some y) (hy:y<0) (hx:p.nodes[n.toNat]? =some x) :
    CR p next (d+1) n size s=if EE p next size x then Fh (CR p next d) x.op size 0 x.kids (s.set n.toNat size)else none:=by
 have e:s.getD n.toNat 0=y:=by rw[DK,hs];rfl
 simp only[CR];rw[if_neg (by rw[e];omega),hx]
def L6 {p:Prog} {next:Bool} {d:Nat} {n size:Int} {s:List Int} (h:n<0∨(p.nodes.length:Int)≤n∨0≤s.getD n.toNat 0):CR p next (d+1) n size s=none:=by
 simp only[CR];rw[if_pos h]
set_option maxHeartbeats 4000000 in
def Ze (p : Prog) (next:Bool): ∀d:Nat,d≤12→ ∀(n size depth:Int) (s:List Int) (v:V),depth=13 - d→0≤size→size+d≤100→s.length=p.nodes.length→(B6 v).isSome=true→
    Bj Tryz.prog 96 [.a (BV p),eI n,eI size,eI depth,.b next,v] [.own v 1 (iL s)] (S0 v s (CR p next d n size s)):=by
 intro d
 induction d with
 | zero=>
   intro _ n size depth s v hd h0 h1 hl hv σ hs;refine BL.fit (by kernel_rfl) fun hf=>?_
   have⟨p1,p2,p3,p4⟩:=GI hf.1;have hM:=Mx;refine ga kZ ?_
   conv=>whnf
   repeat'((first|apply st|(apply sq;intro K U)|(apply si;intro A B Y Z)|(apply Y;clear Z B Y A)|(apply U;clear U K)|refine⟨rfl,?_⟩|refine oi ?_|refine ol fun x hx=>?_|(constructor<;>intro hc<;>(try rw[hc])<;>(replace hc:=bp hc)<;>(try simp(disch:=omega) only[BD,wrap64,AL]at hc)<;>try(exfalso;omega))|clear U K)<;>conv=>whnf)
   all_goals exact Ap hs (.refl _) (.refl _) fun σ' hs'=>⟨_,⟨s,rfl,rfl,.inr ⟨rfl,rfl⟩⟩,hs'⟩
 | succ d ih =>
   intro hd12 n size depth s v hd h0 h1 hl hv σ hs;refine BL.fit (by kernel_rfl) fun hf=>?_
   have⟨p1,p2,p3,p4⟩:=GI hf.1;have hM:=Mx;refine ga kZ ?_
   conv=>whnf
   repeat'((first|apply st|(apply sq;intro K U)|(apply si;intro A B Y Z)|(apply Y;clear Z B Y A)|(apply U;clear U K)|apply dr|refine rk ?_ ?_|exact fun s e=>by cases e;rfl|refine⟨rfl,?_⟩|refine⟨kZ,?_⟩|refine iq fun x hx=>?_|refine ld ?_|refine sn fun σ hs=>?_|refine oi ?_|refine ol fun x hx=>?_|refine oset fun σ hs=>?_|refine Pure.use (er _ _) ?_|refine Pure.use (X8 _ _ _) ?_|(constructor<;>intro hc<;>(try rw[hc])<;>(replace hc:=bp hc)<;>(try simp(disch:=omega) only[BD,wrap64,AL]at hc)<;>try(exfalso;omega))|(intro nn hnn;generalize hg:A6 _ nn _=σ;refine al hg fun hs=>?_;clear hg)|clear U K)<;>conv=>whnf)
   ·exact Ns hs (by simp) (by rw[NF (by assumption) (by assumption) (by assumption) (by assumption) hx];simp[EE, *])
   rotate_left
   ·cases hc
   rotate_left
   ·exact Ns hs (by simp) (by rw[NF (by assumption) (by assumption) (by assumption) (by assumption) hx];simp[EE, *])
   ·exact Ns hs (by simp) (by rw[NF (by assumption) (by assumption) (by assumption) (by assumption) hx];simp[EE, *])
   ·exact Ns hs rfl (L6 (.inr (.inr (by rw[DK,hx];exact hc))))
   ·exact Ns hs rfl (L6 (.inr (.inl hc)))
   ·exact Ns hs rfl (L6 (.inl hc))
   all_goals
    have hW:CR p next (d+1) n size s=Fh (CR p next d) x.op size 0 x.kids (s.set n.toNat size):=by
     rw[NF (by assumption) (by assumption) (by assumption) (by assumption) hx];simp[EE, *]
    rw[hW]
    rename Node=>nd
    refine B4 nd.kids.length (fun k (_:List Int)=>[(14,eI (A3 k))]) (fun _ s'=>[.own v 1 (iL s'),.obj nn (.cs (Iv nd))]) (fun k s'=>s'.length=s.length∧Fh (CR p next d) nd.op size 0 nd.kids (s.set n.toNat size)=Fh (CR p next d) nd.op size k (nd.kids.drop k) s') (s.set n.toNat size) rfl ⟨by simp,by simp⟩ hs ?_;clear hs;rintro k s' σ hk ⟨hl',hkids⟩ hs;have hkm:=Z1 hf.1 (B1 hx);have hck:A3 k=k:=AL (by omega);by_cases hlt:k<nd.kids.length
    ·obtain⟨kid,hkid⟩: ∃kid,nd.kids[k]? =some kid:=⟨_,Ct hlt⟩
     have hrec:=fun kid sz h0 h1=>ih (by omega) kid sz (depth+1) s' v (by omega) h0 h1 (by omega) hv
     conv=>whnf
     repeat'((first|apply st|(apply sq;intro K U)|(apply si;intro A B Y Z)|(apply Y;clear Z B Y A)|(apply U;clear U K)|apply dr|refine⟨rfl,?_⟩|refine⟨kZ,?_⟩|refine ix ?_|refine ld ?_|(refine fc (fun x hx hlt hc=>?_) (fun hk hc=>?_)<;>(try rw[hc])<;>clear hc)|(constructor<;>intro hc<;>(try rw[hc])<;>(replace hc:=bp hc)<;>(try simp(disch:=omega) only[BD,wrap64,AL]at hc)<;>try(exfalso;omega))|clear U K)<;>conv=>whnf)
     all_goals try(exfalso;omega)
     all_goals try refine Im (enc:=fun i:Int=>[V.i .i64 i]) hkid hkm rfl ?_
     conv=>whnf
     all_goals try(exfalso;omega)
     all_goals
      have hK2:=hkids;rw[drop_cons hx,Fh]at hK2
      first
       | rw[if_pos (by omega)]at hK2
         rw[wrap64 (by omega) (by omega),wrap64 (by omega) (by omega)];refine(hrec x (size+1) (by omega) (by omega)).use hs ?_
       | rw[if_neg (by omega)]at hK2
         rw[wrap64 (by omega) (by omega)];refine(hrec x size (by omega) (by omega)).use hs ?_
      rintro r post σ' ⟨s2,hl2,rfl,⟨ho,rfl⟩|⟨ho,rfl⟩⟩ hs
      ·rw[ho]at hK2
       conv=>whnf
       repeat'((first|apply st|(apply sq;intro K U)|(apply si;intro A B Y Z)|(apply Y;clear Z B Y A)|(apply U;clear U K)|apply dr|refine⟨rfl,?_⟩|(constructor<;>intro hc<;>(try rw[hc])<;>(replace hc:=bp hc)<;>(try simp(disch:=omega) only[BD,wrap64,AL]at hc))|clear U K)<;>conv=>whnf)
       all_goals first|(exfalso;cases hc;done)|exact⟨hlt,s2,rfl,⟨by omega,hK2⟩,hs⟩
      ·rw[ho]at hK2
       conv=>whnf
       repeat'((first|apply st|(apply sq;intro K U)|(apply si;intro A B Y Z)|(apply Y;clear Z B Y A)|(apply U;clear U K)|apply dr|refine⟨rfl,?_⟩|(constructor<;>intro hc<;>(try rw[hc])<;>(replace hc:=bp hc)<;>(try simp(disch:=omega) only[BD,wrap64,AL]at hc))|clear U K)<;>conv=>whnf)
       all_goals first|exact Ns hs (by omega) hK2|(exfalso;cases hc;done)
    ·have hke:k=nd.kids.length:=by omega
     conv=>whnf
     repeat'((first|apply st|(apply sq;intro K U)|(apply si;intro A B Y Z)|(apply Y;clear Z B Y A)|(apply U;clear U K)|refine⟨rfl,?_⟩|refine ld ?_|(refine fc (fun x hx hlt hc=>?_) (fun hk hc=>?_)<;>(try rw[hc])<;>clear hc)|(constructor<;>intro hc<;>(try rw[hc])<;>(replace hc:=bp hc)<;>try(exfalso;omega))|clear U K)<;>conv=>whnf)
     all_goals try(exfalso;omega)
     rw[hke,Ag rfl]at hkids;exact Ap hs (.cons₂ _ (LY _)) (.refl _) fun σ' hs'=>⟨_,⟨s',hl',rfl,.inl ⟨(by first|rw[hW,hkids,Fh]|rw[hkids,Fh]),rfl⟩⟩,hs'⟩
end Go.Gl
namespace Go.Gl
variable {P:Program} {σ:AH} {env:Env}
def xp {xs:List Fact} {f:Bool} {K:V→Prop} {ki:IntKind} {j:Int} (h: ∀x,xs[j.toNat]? =some x→K (.rp (xF x))) (h0:0≤j:=by omega) (h1:j<xs.length:=by omega):AW 6 none (.l (xs.map Fx) f) (.i ki j) K:=by
 refine iq (fun x hx=>?_) h0 h1 (by intro x;rw[Be];rfl);rw[Be];exact h x hx
def lo {l:List At} {i:Nat} {v:V} {sz:Nat} {es:List (List V)} {K:V→Prop} (hk:K (.i .i64 es.length)) (h:Sat σ l:=by assumption)
    (hi:l[i]? =some (.own v sz es):=by first|exact Pv|exact Pu|exact Pt|exact Ps|exact Pr|exact Pq) (hm:es.length≤Ac:=by first|omega|(simp only[BD,List.length_replicate,List.length_set,Ac]at *;omega)):BH v K:=pC h i hi hm hk
def vF {α:Type} {enc:α→List V} {xs:List α} {f:Bool} {sz:Nat} {ki:IntKind} {j:Int} {K:V→AH→Prop} (h:K (.l ((xs.take j.toNat).map enc) (f&&decide (j=((xs.map enc).length:Nat)))) σ) (h0:0≤j:=by omega) (h1:j≤xs.length:=by first|omega|(simp only[BD]at *;omega)) (hs: ∀x,(enc x).length=sz:=by intro x;first|rfl|simp|(rw[Be];rfl)) :
    AV σ sz (.l (xs.map enc) f) none (some (.i ki j)) none K:=by
 refine⟨fun e he=>?_,?_⟩
 ·obtain⟨x,_,rfl⟩:=Lf.1 he
  exact hs x
 ·simp only[ND,BD]
  refine⟨by omega,by omega,by omega,?_⟩;simpa[List.map_take]using h
def Sat.take {l:List At} (h:Sat σ l) (n:Nat):Sat σ (l.take n):=h.less (List.take_sublist _ _)
def CI {b:Bool} {σ σ':AH}:Gt σ σ' (.l [] b) (.l [] false):= .l (fun h=>by cases h) .nil
def Np {b:Bool} {σ σ':AH} {es:List (List V)}:Gt σ σ' (.l es b) (.l es false):= .l (fun h=>by cases h) (Fs.refl _ _ _)
mutual
def Q6 {σ σ':AH}: ∀vs:List V,Dq σ σ' vs vs
 | []=> .nil
 | v::r=> .cons (.refl v) (Q6 r)
end
def Ep {σ σ':AH}: ∀es:List (List V),Fs σ σ' es es
 | []=> .nil
 | e::r=> .cons (Q6 e) (Ep r)
def dH {α:Type} {enc:α→List V} {xs:List α} {y:α} {l:List At} {i:Nat} {v x:V} {sz k:Nat} {vc:List V} {K:AH→Prop} (hk: ∀σ',Sat σ' (l.set i (.own v sz ((xs.set k y).map enc)))→K σ') (h:Sat σ l:=by assumption)
    (hi:l[i]? =some (.own v sz (xs.map enc)):=by first|exact Pv|exact Pu|exact Pt|exact Ps|exact Pr|exact Pq) (hc:cellsOf x=some vc:=by rfl) (he:vc=enc y:=by rfl) (hg:EO enc sz:=by first|exact Bq|exact DJ|exact NQ|exact J0|exact Ko)
    (hv:(B6 v).isSome=true:=by rfl) (h1:k<xs.length:=by first|omega|(simp only[BD]at *;omega)):AX σ sz (Fw v sz k) x K:=oset hk h hi hc he hg hv h1
def BE {α:Type} (xs:List α) {k:Nat} (hk:k≤xs.length):(∃x,xs[k]? =some x∧k<xs.length)∨k=xs.length:=by
 rcases Nat.lt_or_ge k xs.length with h|h
 ·exact .inl ⟨_,Ct h,h⟩
 ·exact .inr (by omega)
def CA {α:Type} {enc:α→List V} {xs:List α} {k:Nat} {x:α} {A B:Prop} (h1:decide (A3 k<((xs.map enc).length:Nat))=true→A) (hx:xs[k]? =some x:=by assumption) (hm:xs.length≤Ac:=by first|assumption|omega|simp[Ac]<;>omega) :
    (decide (A3 k<((xs.map enc).length:Nat))=true→A)∧(decide (A3 k<((xs.map enc).length:Nat))=false→B):=by
 refine⟨h1,fun h=>?_⟩;have hlt:=(Hk.1 hx).1;rw[AL (by omega),BD]at h;have:=of_decide_eq_false h;omega
def DU {α:Type} {enc:α→List V} {xs:List α} {k:Nat} {A B:Prop} (h1:decide (A3 k<((xs.map enc).length:Nat))=false→B) (hx:k=xs.length:=by assumption) (hm:xs.length≤Ac:=by first|assumption|omega|simp[Ac]<;>omega) :
    (decide (A3 k<((xs.map enc).length:Nat))=true→A)∧(decide (A3 k<((xs.map enc).length:Nat))=false→B):=by
 refine⟨fun h=>?_,h1⟩;rw[AL (by omega),BD]at h;have:=of_decide_eq_true h;omega
def FE {α:Type} {enc:α→List V} {xs:List α} {f:Bool} {sz:Nat} {K:V→Prop} {ki:IntKind} {j:Int} {x:α} (h:K (.rp (enc x))) (hx:xs[j.toNat]? =some x:=by assumption) (h0:0≤j:=by omega) (hs:(enc x).length=sz:=by first|rfl|simp|(rw[Be];rfl)) :
    AW sz none (.l (xs.map enc) f) (.i ki j) K:=Se j.toNat hx (by omega) hs h
def Lo {xs:List Fact} {f:Bool} {K:V→Prop} {ki:IntKind} {j:Int} {x:Fact} (h:K (.rp (xF x))) (hx:xs[j.toNat]? =some x:=by assumption) (h0:0≤j:=by omega):AW 6 none (.l (xs.map Fx) f) (.i ki j) K:=by
 refine FE ?_ hx h0;rw[Be];exact h
class CB (b:Bool) (v:outParam Bool):Prop where
 h:b=v
instance :CB true true:=⟨rfl⟩
instance :CB false false:=⟨rfl⟩
instance {b:Bool} [i:CB b true]:CB (!b) false:=⟨by rw[i.h];rfl⟩
instance {b:Bool} [i:CB b false]:CB (!b) true:=⟨by rw[i.h];rfl⟩
instance {b x y v:Bool} [i:CB b true] [j:CB x v]:CB (bif b then x else y) v:=⟨by rw[i.h,j.h];rfl⟩
instance {b x y v:Bool} [i:CB b false] [j:CB y v]:CB (bif b then x else y) v:=⟨by rw[i.h,j.h];rfl⟩
instance {a b:Bool} [i:CB a true] [j:CB b true]:CB (a==b) true:=⟨by rw[i.h,j.h];rfl⟩
instance {a b:Bool} [i:CB a true] [j:CB b false]:CB (a==b) false:=⟨by rw[i.h,j.h];rfl⟩
instance {a b:Bool} [i:CB a false] [j:CB b true]:CB (a==b) false:=⟨by rw[i.h,j.h];rfl⟩
instance {a b:Bool} [i:CB a false] [j:CB b false]:CB (a==b) true:=⟨by rw[i.h,j.h];rfl⟩
instance {a b:Bool} [i:CB a true] [j:CB b true]:CB (a != b) false:=⟨by rw[i.h,j.h];rfl⟩
instance {a b:Bool} [i:CB a true] [j:CB b false]:CB (a != b) true:=⟨by rw[i.h,j.h];rfl⟩
instance {a b:Bool} [i:CB a false] [j:CB b true]:CB (a != b) true:=⟨by rw[i.h,j.h];rfl⟩
instance {a b:Bool} [i:CB a false] [j:CB b false]:CB (a != b) false:=⟨by rw[i.h,j.h];rfl⟩
def E2 {A B:Prop} {b:Bool} [i:CB b true] (h:A):(b=true→A)∧(b=false→B):=⟨fun _=>h,fun e=>(by rw[i.h]at e;cases e)⟩
def D2 {A B:Prop} {b:Bool} [i:CB b false] (h:B):(b=true→A)∧(b=false→B):=⟨fun e=>(by rw[i.h]at e;cases e),fun _=>h⟩
def Xf {A B:Prop} {b:Bool} [i:CB b true] (h:B):(b=false→A)∧(b=true→B):=⟨fun e=>(by rw[i.h]at e;cases e),fun _=>h⟩
def Lq {A B:Prop} {b:Bool} [i:CB b false] (h:A):(b=false→A)∧(b=true→B):=⟨fun _=>h,fun e=>(by rw[i.h]at e;cases e)⟩
def xm {l:List At} {i:Nat} {v:V} {sz:Nat} {es:List (List V)} {ki:IntKind} {j:Int} {K:V→Prop} (hk:K (Fw v sz j.toNat)) (h:Sat σ l:=by assumption)
    (hi:l[i]? =some (.own v sz es):=by first|exact Pv|exact Pu|exact Pt|exact Ps|exact Pr|exact Pq) (h0:0≤j:=by omega) (h1:j<es.length:=by(simp only[BD,List.length_set];omega)):AW sz none v (.i ki j) K:=
 dB h i j.toNat hi (by omega) (by omega) hk
def NX {α:Type} {enc:α→List V} {xs:List α} {x:α} {l:List At} {i:Nat} {v:V} {sz k:Nat} {agg:Option Nat} {K:V→Prop} (hk:cut agg (enc x) 0 K) (h:Sat σ l:=by assumption)
    (hi:l[i]? =some (.own v sz (xs.map enc)):=by first|exact Pv|exact Pu|exact Pt|exact Ps|exact Pr|exact Pq) (hx:xs[k]? =some x:=by assumption):Ad σ agg (Fw v sz k) K:=
 Hw h i hi (by rw[Lc,hx];rfl) hk
def o9 {xs:List Fact} {x:Fact} {l:List At} {i:Nat} {v:V} {k:Nat} {agg:Option Nat} {K:V→Prop} (hk:cut agg (xF x) 0 K) (h:Sat σ l:=by assumption)
    (hi:l[i]? =some (.own v 6 (facts xs)):=by first|exact Pv|exact Pu|exact Pt|exact Ps|exact Pr|exact Pq) (hx:xs[k]? =some x:=by assumption):Ad σ agg (Fw v 6 k) K:=
 Hw h i hi (by rw[Lc,hx];exact congrArg some (Be x)) hk
def ZQ {v:V} (h:(B6 v).isSome=true): ∃n l c,v= .sl n l c:=by
 cases v<;>first|(cases h;done)|exact⟨_,_,_,rfl⟩
def xg {l:List At} {i:Nat} {xs:List Fact} {x:Fact} {v:V} {f:Bool} {e:List V} {K:V→AH→Prop} (hk: ∀v' σ',Sat σ' (l.set i (.own v' 6 (facts (xs++[x]))))→(B6 v').isSome=true→K v' σ') (h:Sat σ l:=by assumption)
    (hi:l[i]? =some (.own v 6 (facts xs)):=by first|exact Pv|exact Pu|exact Pt|exact Ps|exact Pr|exact Pq)
    (he:e=xF x:=by rfl)
    {b:Nat} (hl:xs.length<Ac∧(xs.length+1)*b≤140737488355328:=by first|assumption|omega|(simp only[PR,BD,La,List.length_nil,LZ,hZ,List.length_replicate,Ac]at *;omega)):AN b σ 6 v (.l [e] f) K:=
 GQ (Fv h i hi hl J0 hk (by rw[he,Be]))
end Go.Gl
namespace Go.Gl
open Go.Proofs
attribute [local irreducible] BL A5 Aj AW AN Ai AV AX AO Ah AS AU BA BK Sat Ad BH Al W
def Ov {w:AK} (f:Fact):Bi w f=true→Nt f=true:=by
 induction f using Fact.ind with
 | h f ih=>
   intro h;rw[Ci]at h;simp only[DC,BZ,E0,CY]at h;rw[LH];simp only[BZ,CY,List.all_map,E0,Function.comp_apply,id];exact⟨⟨h.1.2.2.1,h.1.2.2.2.1⟩,fun k hk=>ih k hk (h.2 k hk)⟩
def NY (p:Prog) (m:M7):Bool:=decide (1≤m.kind)&&(decide (m.kind≤4)&&(decide (0≤m.gen)&&(decide (m.gen<(p.Cz.length:Int))&&(Cg (AM p) m.fact&&decide (DF m.fact≤p.Cz.getD m.gen.toNat 0)))))
def runM (p:Prog):List M7→List Int→Option (List Int)
 | [],s=>some s
 | m::r,s=>if NY p m then match CR p (Jd m.kind) 12 m.node (p.Cz.getD m.gen.toNat 0) s with
   | none=>none
   | some s'=>runM p r s' else none
def C0 (p:Prog):Bool:=BI p&&(decide (p.Cz.length≤8)&&(decide (p.methods.length≤16)&&(decide (1≤p.nodes.length)&&(decide (p.nodes.length≤120)&&p.Cz.all fun g=>decide (1≤g)&&decide (g≤3)))))
def BX (p:Prog):Option (List Int):=if C0 p then match runM p p.methods (List.replicate p.nodes.length (-1))with
 | none=>none
 | some s=>match CR p false 12 p.main 0 s with
   | none=>none
   | some s=>if s.all fun n=>decide (0≤n)then some s else none else none
def Je (p:Prog):Option (List Int)→Option (List Int)
 | none=>none
 | some s=>match CR p false 12 p.main 0 s with
   | none=>none
   | some s=>if s.all fun n=>decide (0≤n)then some s else none
def MZ (p:Prog):V:=match BX p with
 | none=> .t [.l [] true,.b false]
 | some s=> .t [.l (iL s) false,.b true]
def gS {p:Prog} (h:BX p=none):MZ p= .t [.l [] true,.b false]:=by simp only[MZ,h]
def pd {p:Prog} (h:C0 p=false):MZ p= .t [.l [] true,.b false]:=gS (by unfold BX;rw[h];rfl)
def Ke {p:Prog} {σ:AH} (h:BX p=none):A5 σ (.t [.l [] true,.b false]) fun r σ'=>r=R.ret (MZ p)∧σ'=emp:=by
 rw[gS h];exact AI rfl
def Nr {p:Prog} {σ:AH} (h:C0 p=false):A5 σ (.t [.l [] true,.b false]) fun r σ'=>r=R.ret (MZ p)∧σ'=emp:=by
 rw[pd h];exact AI rfl
def Wn {p:Prog} (h:C0 p=true):BX p=Je p (runM p p.methods (List.replicate p.nodes.length (-1))):=by
 unfold BX;rw[if_pos h];rfl
def Da {p:Prog} {k:Nat} {x:M7} {s:List Int} (hx:p.methods[k]? =some x) (hn:BX p=Je p (runM p (p.methods.drop k) s)) (hok:NY p x=false):BX p=none:=by
 rw[hn,drop_cons hx,runM,if_neg (by simp[hok])];rfl
def QJ {p:Prog} {k:Nat} {x:M7} {s:List Int} (hx:p.methods[k]? =some x) (hn:BX p=Je p (runM p (p.methods.drop k) s)) (hok:NY p x=true) (hw:CR p (Jd x.kind) 12 x.node (p.Cz.getD x.gen.toNat 0) s=none):BX p=none:=by
 rw[hn,drop_cons hx,runM,if_pos hok,hw];rfl
def WV {p:Prog} {k:Nat} {x:M7} {s s':List Int} (hx:p.methods[k]? =some x) (hn:BX p=Je p (runM p (p.methods.drop k) s)) (hok:NY p x=true) (hw:CR p (Jd x.kind) 12 x.node (p.Cz.getD x.gen.toNat 0) s=some s'):BX p=Je p (runM p (p.methods.drop (k+1)) s'):=by
 rw[hn,drop_cons hx,runM,if_pos hok,hw]
def Qc {p:Prog} (h:C0 p=true) {k:Nat} {x:Int} (hx:p.Cz[k]? =some x):1≤x∧x≤3:=by
 simp only[C0,BZ,E0,CY]at h;exact h.2.2.2.2.2 x (B1 hx)
set_option maxHeartbeats 4000000 in
def jh (p:Prog):Pure Tryz.prog 65 [.a (BV p)] (MZ p):=by
 refine Pure.fit (by kernel_rfl) fun hf=>?_
 have⟨p1,p2,p3,p4⟩:=GI hf.1;have hM:=Mx;refine qY kZ ?_;have hs:=Sn
 conv=>whnf
 repeat'((first|apply st|(apply sq;intro K U)|(apply si;intro A B Y Z)|(apply Y;clear Z B Y A)|(apply U;clear U K)|refine⟨rfl,?_⟩|refine⟨kZ,?_⟩|refine Pure.use (Yq _) ?_|(constructor<;>intro hc<;>(try rw[hc])<;>(replace hc:=bp hc)<;>(try simp(disch:=omega) only[BD,wrap64,AL]at hc))|clear U K)<;>conv=>whnf)
 ·exact Nr (by simp[C0];intros;omega)
 rotate_left
 ·exact Nr (by simp[C0];intros;omega)
 ·exact Nr (by simp[C0];intros;omega)
 ·exact Nr (by simp[C0];intros;omega)
 ·exact Nr (by simp[C0, *])
 have a1:p.Cz.length≤8:=by omega
 have a2:p.methods.length≤16:=by omega
 have a3:1≤p.nodes.length:=by omega
 have a4:p.nodes.length≤120:=by omega
 have hg:C0 p=p.Cz.all fun g=>decide (1≤g)&&decide (g≤3):=by
  simp only[C0,a1,a2,a3,a4,decide_true,Ey];simp[*]
 refine B4 p.Cz.length (fun k (_:Unit)=>[(4,eI (A3 k))]) (fun _ _=>[]) (fun k _=>C0 p=(p.Cz.drop k).all fun g=>decide (1≤g)&&decide (g≤3)) () rfl (by simpa using hg) hs ?_;clear hs;rintro k - σ hk hn hs
 conv=>whnf
 repeat'((first|apply st|(apply sq;intro K U)|(apply si;intro A B Y Z)|(apply Y;clear Z B Y A)|(apply U;clear U K)|refine⟨rfl,?_⟩|refine ix ?_|(refine fc (fun x hx hlt hc=>?_) (fun hk hc=>?_)<;>(try rw[hc])<;>clear hc)|(constructor<;>intro hc<;>(try rw[hc])<;>(replace hc:=bp hc))|clear U K)<;>conv=>whnf)
 ·exact Nr (by rw[hn,drop_cons hx];simp;intros;omega)
 ·exact⟨hlt,(),rfl,by rw[hn,drop_cons hx];simp[*],hs⟩
 ·exact Nr (by rw[hn,drop_cons hx];simp;intros;omega)
 have hh:C0 p=true:=by rw[hn,Ag hk];rfl
 have F:=Jg hf.1;have hcB:BI p=true:=by assumption
 have hsb:Cp 0 p.AP=true:=by simp only[BI,BZ]at hcB;exact hcB.2.1
 have hc10:p.AP.length≤1000:=by simp only[BI,BZ,CY]at hcB;omega
 have hmS:Bu p.AP≤Ac:=by have:=(FP _ _ hsb).1;simp only[BI,BZ,CY]at hcB;omega
 have hL:=Wn hh;clear hn hg;refine B4 p.nodes.length (fun j v=>[(5,v),(6,eI (A3 j))]) (fun j v=>[.own v 1 (iL (List.replicate j (-1)))]) (fun j v=>1≤j→(B6 v).isSome=true) (.l [] true) rfl (fun h=>by omega) (EM hs 1) ?_;clear hs;rintro j v σ hj hv hs
 conv=>whnf
 repeat'((first|apply st|(apply sq;intro K U)|(apply si;intro A B Y Z)|(apply Y;clear Z B Y A)|(apply U;clear U K)|refine⟨rfl,?_⟩|refine⟨kZ,?_⟩|refine sn fun σ hs=>?_|refine aq fun v σ hs hsl=>?_|(refine fc (fun x hx hlt hc=>?_) (fun hk hc=>?_)<;>(try rw[hc])<;>clear hc)|refine Pure.use (Kj _ (by assumption) (by omega) (by assumption)) ?_|(intro nn hnn;generalize hg:A6 _ nn _=σ;refine al hg fun hs=>?_;clear hg)|clear U K)<;>conv=>whnf)
 ·exact⟨hlt,_,rfl,fun _=>hsl,by rw[List.replicate_succ'];exact hs⟩
 have hsv:=hv (by omega);subst hk;refine B4 p.methods.length (fun k (s:List Int)=>[(8,eI (A3 k))]) (fun _ s=>[.own v 1 (iL s),.box nn (Aq (AM p))]) (fun k s=>s.length=p.nodes.length∧BX p=Je p (runM p (p.methods.drop k) s)) (List.replicate p.nodes.length (-1)) rfl ⟨by simp,hL⟩ hs ?_;clear hs;rintro k s σ hk ⟨hl,hn⟩ hs
 conv=>whnf
 repeat'((first|apply st|(apply sq;intro K U)|(apply si;intro A B Y Z)|(apply Y;clear Z B Y A)|(apply U;clear U K)|apply dr|refine rk ?_ ?_|exact fun s e=>by cases e;rfl|refine⟨rfl,?_⟩|refine⟨kZ,?_⟩|refine ix ?_|refine iq fun x hx=>?_|refine ld ?_|refine sn fun σ hs=>?_|(refine fc (fun x hx hlt hc=>?_) (fun hk hc=>?_)<;>(try rw[hc])<;>clear hc)|refine Pure.use (cA _ _) ?_|(constructor<;>intro hc<;>(try rw[hc])<;>(replace hc:=bp hc)<;>(try simp(disch:=omega) only[BD,wrap64,AL]at hc))|(intro nn hnn;generalize hg:A6 _ nn _=σ;refine al hg fun hs=>?_;clear hg)|clear U K)<;>conv=>whnf)
 rotate_left
 ·exact Ke (Da hx hn (by simp[NY, *]))
 ·exact Ke (Da hx hn (by simp[NY];intros;omega))
 ·exact Ke (Da hx hn (by simp[NY];intros;omega))
 ·exact Ke (Da hx hn (by simp[NY];intros;omega))
 ·exact Ke (Da hx hn (by simp[NY];intros;omega))
 ·refine(Ze p false 12 (JU _) p.main 0 1 s v rfl (by omega) (by omega) hl hsv).use hs ?_
  clear hs;rintro r post σ ⟨s2,hl2,rfl,⟨ho,rfl⟩|⟨ho,rfl⟩⟩ hs
  ·conv=>whnf
   repeat'((first|apply st|(apply sq;intro K U)|(apply si;intro A B Y Z)|(apply Y;clear Z B Y A)|(apply U;clear U K)|(constructor<;>intro hc<;>(try rw[hc])<;>(replace hc:=bp hc)<;>(try simp(disch:=omega) only[BD,wrap64,AL]at hc))|clear U K)<;>conv=>whnf)
   ·cases hc
   have hz:BX p=if s2.all fun n=>decide (0≤n)then some s2 else none:=by rw[hn,Ag hk,runM,Je,ho]
   refine B4 s2.length (fun j (_:Unit)=>[(10,eI (A3 j))]) (fun _ _=>[.own v 1 (iL s2),.box nn (Aq (AM p))]) (fun j _=>BX p=if(s2.drop j).all fun n=>decide (0≤n)then some s2 else none) () rfl hz hs ?_;clear hs;rintro j - σ hj hz hs
   conv=>whnf
   repeat'((first|apply st|(apply sq;intro K U)|(apply si;intro A B Y Z)|(apply Y;clear Z B Y A)|(apply U;clear U K)|refine⟨rfl,?_⟩|refine oc ?_|refine ol fun x hx=>?_|(refine fc (fun x hx hlt hc=>?_) (fun hk hc=>?_)<;>(try rw[hc])<;>clear hc)|refine lo ?_|(constructor<;>intro hc<;>(try rw[hc])<;>(replace hc:=bp hc))|clear U K)<;>conv=>whnf)
   ·exact Ke (by rw[hz,drop_cons hx,MU,if_neg];simp;intros;omega)
   ·exact⟨hlt,(),rfl,by rw[hz,drop_cons hx,MU];simp[*],hs⟩
   ·have hz2:BX p=some s2:=by rw[hz,Ag (by assumption)];rfl
    simp only[MZ,hz2];exact BO (.t (.cons (hs.MV 0 rfl) (.cons (.refl _) .nil)))
  ·conv=>whnf
   repeat'((first|apply st|(apply sq;intro K U)|(apply si;intro A B Y Z)|(apply Y;clear Z B Y A)|(apply U;clear U K)|(constructor<;>intro hc<;>(try rw[hc])<;>(replace hc:=bp hc)<;>(try simp(disch:=omega) only[BD,wrap64,AL]at hc))|clear U K)<;>conv=>whnf)
   ·exact Ke (by rw[hn,Ag hk,runM,Je,ho])
   ·cases hc
 rename M7=>m
 rename p.methods[k]? =some m=>hm
 refine(bB m.fact (Ov _ (by(have:Cg (AM p) m.fact=true:=by assumption);simp only[Cg,BZ]at this;exact this.2.2))).use ?_
 conv=>whnf
 repeat'((first|apply st|(apply sq;intro K U)|(apply si;intro A B Y Z)|(apply Y;clear Z B Y A)|(apply U;clear U K)|apply dr|refine rk ?_ ?_|exact fun s e=>by cases e;rfl|refine⟨rfl,?_⟩|refine⟨kZ,?_⟩|refine iq fun x hx=>?_|refine ld ?_|refine Pure.use (jZ _) ?_|(constructor<;>intro hc<;>(try rw[hc])<;>(replace hc:=bp hc))|clear U K)<;>conv=>whnf)
 ·exact Ke (Da hm hn (by simp[NY,DK,hx];intros;omega))
 obtain⟨hx1,hx3⟩:=Qc hh hx;have hgd:p.Cz.getD m.gen.toNat 0=x:=by rw[DK,hx];rfl
 rename p.Cz[m.gen.toNat]? =some _=>hx2
 have hxe:=Option.some.inj (hx.symm.trans hx2);subst hxe;have hok:NY p m=true:=by simp only[NY,hgd,BZ,CY];exact⟨by assumption,by omega,by assumption,by assumption,by assumption,by assumption⟩
 refine(Ze p (Jd m.kind) 12 (JU _) m.node x 1 s v rfl (by omega) (by omega) hl hsv).use (rest:=[_,_]) hs ?_;clear hs;rintro r post σ ⟨s2,hl2,rfl,⟨ho,rfl⟩|⟨ho,rfl⟩⟩ hs
 ·conv=>whnf
  repeat'((first|apply st|(apply sq;intro K U)|(apply si;intro A B Y Z)|(apply Y;clear Z B Y A)|(apply U;clear U K)|apply dr|refine⟨rfl,?_⟩|(constructor<;>intro hc<;>(try rw[hc])<;>(replace hc:=bp hc)<;>(try simp(disch:=omega) only[BD,wrap64,AL]at hc))|clear U K)<;>conv=>whnf)
  ·cases hc
  ·exact⟨by assumption,s2,rfl,⟨by omega,WV hm hn hok (by rw[hgd];exact ho)⟩,hs.less (.cons₂ _ (.cons₂ _ (LY _)))⟩
 ·conv=>whnf
  repeat'((first|apply st|(apply sq;intro K U)|(apply si;intro A B Y Z)|(apply Y;clear Z B Y A)|(apply U;clear U K)|apply dr|refine⟨rfl,?_⟩|(constructor<;>intro hc<;>(try rw[hc])<;>(replace hc:=bp hc)<;>(try simp(disch:=omega) only[BD,wrap64,AL]at hc))|clear U K)<;>conv=>whnf)
  ·exact Ke (QJ hm hn hok (by rw[hgd];exact ho))
  ·cases hc
def jE (p:Prog):Pure Tryz.prog 27 [.a (BV p)] (.b (BX p).isSome):=by
 refine qs kZ ?_;have h:=jh p;unfold MZ at h;cases hl:BX p with
 | none=>
   rw[hl]at h
   conv=>whnf
   repeat'((first|apply st|(apply sq;intro K U)|(apply si;intro A B Y Z)|(apply Y;clear Z B Y A)|(apply U;clear U K)|refine⟨kZ,?_⟩|refine Pure.use (by assumption) ?_|fail)<;>conv=>whnf)
   all_goals exact AI (by first|rfl|simp)
 | some s=>
   rw[hl]at h
   conv=>whnf
   repeat'((first|apply st|(apply sq;intro K U)|(apply si;intro A B Y Z)|(apply Y;clear Z B Y A)|(apply U;clear U K)|refine⟨kZ,?_⟩|refine Pure.use (by assumption) ?_|fail)<;>conv=>whnf)
   all_goals exact AI (by first|rfl|simp)
def H4 (xs ys:List Int) (f g:Bool):Pure Tryz.prog 30 [.l (iL xs) f,.l (iL ys) g] (.b (xs==ys)):=by
 refine Pure.fit (by kernel_rfl) fun hf=>?_
 have hx:=Iu hf.1;have hy:=Iu hf.2.1;have hM:=Mx;refine qq kZ ?_;have hs:=Sn
 conv=>whnf
 repeat'((first|apply st|(apply sq;intro K U)|(apply si;intro A B Y Z)|(apply Y;clear Z B Y A)|(apply U;clear U K)|refine⟨rfl,?_⟩|(constructor<;>intro hc<;>(try rw[hc])<;>(replace hc:=bp hc)<;>(try simp(disch:=omega) only[BD,wrap64,AL]at hc))|clear U K)<;>conv=>whnf)
 ·exact AI (by(have:(xs==ys)=false:=by(simp;intro e;subst e;simp at hc));rw[this])
 have hl:xs.length=ys.length:=by omega
 refine B4 xs.length (fun k (_:Unit)=>[(13,eI (A3 k))]) (fun _ _=>[]) (fun k _=>(xs==ys)=(xs.drop k==ys.drop k)) () rfl rfl Sat.nil ?_;clear hs;rintro k - σ hk hn hs;by_cases hlt:k<xs.length
 ·obtain⟨y,hyk⟩: ∃y,ys[k]? =some y:=⟨_,Ct (by omega)⟩
  conv=>whnf
  repeat'((first|apply st|(apply sq;intro K U)|(apply si;intro A B Y Z)|(apply Y;clear Z B Y A)|(apply U;clear U K)|apply dr|refine⟨rfl,?_⟩|refine ix ?_|(refine fc (fun x hx hlt hc=>?_) (fun hk hc=>?_)<;>(try rw[hc])<;>clear hc)|(constructor<;>intro hc<;>(try rw[hc])<;>(replace hc:=bp hc))|clear U K)<;>conv=>whnf)
  ·exact AI (by rw[hn,drop_cons hx,drop_cons hyk];simp[hc])
  ·exact⟨hlt,(),rfl,by rw[hn,drop_cons hx,drop_cons hyk,hc];simp,hs⟩
  ·omega
 ·conv=>whnf
  repeat'((first|apply st|(apply sq;intro K U)|(apply si;intro A B Y Z)|(apply Y;clear Z B Y A)|(apply U;clear U K)|apply dr|refine⟨rfl,?_⟩|refine ix ?_|refine iq fun x hx=>?_|(refine fc (fun x hx hlt hc=>?_) (fun hk hc=>?_)<;>(try rw[hc])<;>clear hc)|(constructor<;>intro hc<;>(try rw[hc])<;>(replace hc:=bp hc)<;>try(exfalso;omega))|clear U K)<;>conv=>whnf)
  exact AI (by rw[hn,Ag hk,Ag (by omega)];rfl)
def Pc:List (Fact→Bool)→List Fact→Bool
 | h::r,k::s=>h k&&Pc r s
 | _,_=>true
def gI (f:Fact) (l:List (Fact→Bool)) (g:Fact):Bool:=f.op==g.op&&(f.arg==g.arg&&(f.cls==g.cls&&(f.n==g.n&&(f.path==g.path&&(f.kids.length==g.kids.length&&Pc l g.kids)))))
def Fc (f:Fact):Fact→Bool:=f.HF gI
def Ky (f g:Fact):Fc f g=(f.op==g.op&&(f.arg==g.arg&&(f.cls==g.cls&&(f.n==g.n&&(f.path==g.path&&(f.kids.length==g.kids.length&&Pc (f.kids.map Fc) g.kids)))))):=congrFun (Fact.Dk gI f) g
def Tn {xs ys:List Fact} (h: ∀x∈xs,∀y,Fc x y=true↔x=y) (hl:xs.length=ys.length):Pc (xs.map Fc) ys=true↔xs=ys:=by
 induction xs generalizing ys with
 | nil=>cases ys with
   | nil=>simp[Pc]
   | cons _ _=>simp at hl
 | cons x r ih=>cases ys with
   | nil=>simp at hl
   | cons y s=>
     simp only[FC,Pc,BZ,List.cons.injEq];rw[h x (.head _) y,ih (fun x hx=>h x (.tail _ hx)) (by simpa using hl)]
def MB (f g:Fact):Fc f g=true↔f=g:=by
 induction f using Fact.ind generalizing g with
 | h f ih=>
   rw[Ky];cases f with
   | mk o a p c n k=>cases g with
     | mk o' a' p' c' n' k'=>
       simp only[Fact.op,Fact.arg,Fact.cls,Fact.n,Fact.path,Fact.kids,BZ,Dn,Fact.mk.injEq]at *;constructor
       ·rintro⟨rfl,rfl,rfl,rfl,rfl,hl,h⟩
        exact⟨rfl,rfl,rfl,rfl,rfl,(Tn (fun x hx y=>ih x hx y) hl).1 h⟩
       ·rintro⟨rfl,rfl,rfl,rfl,rfl,rfl⟩
        exact⟨rfl,rfl,rfl,rfl,rfl,rfl,(Tn (fun x hx y=>ih x hx y) rfl).2 rfl⟩
set_option maxHeartbeats 1000000 in
def dw (f g:Fact):Pure Tryz.prog 232 [.a (xF f),.a (xF g)] (.b (Fc f g)):=by
 induction f using Fact.ind generalizing g with
 | h f ih=>
   refine Pure.fit (by kernel_rfl) fun hf=>?_
   have⟨h2,h3,h4⟩:=HO hf.1;have⟨g2,g3,g4⟩:=HO hf.2.1;have hM:=Mx;refine lK kZ ?_;have hs:=Sn
   conv=>whnf
   repeat'((first|apply st|(apply sq;intro K U)|(apply si;intro A B Y Z)|(apply Y;clear Z B Y A)|(apply U;clear U K)|refine⟨rfl,?_⟩|refine Pure.use (H4 _ _ _ _) ?_|(constructor<;>intro hc<;>(try rw[hc])<;>(replace hc:=bp hc)<;>(try simp(disch:=omega) only[BD,wrap64,AL]at hc))|clear U K)<;>conv=>whnf)
   rotate_left
   all_goals try exact AI (by rw[Ky];simp[*]<;>omega)
   rotate_left
   ·have hkl:f.kids.length=g.kids.length:=by omega
    refine B4 f.kids.length (fun k (_:Unit)=>[(52,eI (A3 k))]) (fun _ _=>[]) (fun k _=>Fc f g=Pc ((f.kids.drop k).map Fc) (g.kids.drop k)) () rfl (by rw[Ky];simp[*]) Sat.nil ?_;clear hs;rintro k - σ hk hn hs;by_cases hlt:k<f.kids.length
    ·obtain⟨y,hyk⟩: ∃y,g.kids[k]? =some y:=⟨_,Ct (by omega)⟩
     conv=>whnf
     repeat'((first|apply st|(apply sq;intro K U)|(apply si;intro A B Y Z)|(apply Y;clear Z B Y A)|(apply U;clear U K)|apply dr|refine⟨rfl,?_⟩|refine⟨kZ,?_⟩|refine Lg ?_|(refine fc (fun x hx hlt hc=>?_) (fun hk hc=>?_)<;>(try rw[hc])<;>clear hc)|clear U K)<;>conv=>whnf)
     ·refine(ih x (B1 hx) y).use ?_
      conv=>whnf
      repeat'((first|apply st|(apply sq;intro K U)|(apply si;intro A B Y Z)|(apply Y;clear Z B Y A)|(apply U;clear U K)|apply dr|refine⟨rfl,?_⟩|(constructor<;>intro hc<;>(try rw[hc])<;>(replace hc:=bp hc))|clear U K)<;>conv=>whnf)
      ·exact AI (by rw[hn,drop_cons hx,drop_cons hyk,FC,Pc,hc];rfl)
      ·exact⟨hlt,(),rfl,by rw[hn,drop_cons hx,drop_cons hyk,FC,Pc,hc];rfl,hs⟩
     ·omega
    ·conv=>whnf
     repeat'((first|apply st|(apply sq;intro K U)|(apply si;intro A B Y Z)|(apply Y;clear Z B Y A)|(apply U;clear U K)|apply dr|refine⟨rfl,?_⟩|refine⟨kZ,?_⟩|refine Lg ?_|refine iq fun x hx=>?_|(refine fc (fun x hx hlt hc=>?_) (fun hk hc=>?_)<;>(try rw[hc])<;>clear hc)|clear U K)<;>conv=>whnf)
     all_goals first|(exfalso;omega)|exact AI (by rw[hn,Ag hk];rfl)
def Fb (f:Fact):Fact:= .mk 5 0 [] 0 0 [f]
def M6 (f g:Fact):Fact:= .mk 6 0 [] 0 0 [f,g]
def Zn (f:Fact):Pure Tryz.prog 113 [.a (xF f)] (.a (xF (Fb f))):=by
 refine nc kZ ?_;have hs:=Sn
 conv=>whnf
 repeat'((first|apply st|(apply sq;intro K U)|(apply si;intro A B Y Z)|(apply Y;clear Z B Y A)|(apply U;clear U K)|refine⟨kZ,?_⟩|refine ld ?_|refine sn fun σ hs=>?_|(intro nn hnn;generalize hg:A6 _ nn _=σ;refine al hg fun hs=>?_;clear hg)|fail)<;>conv=>whnf)
 refine BO (.a (.cons (.refl _) (.cons (.refl _) (.cons CI (.cons (.refl _) (.cons (.refl _) (.cons ?_ .nil)))))));refine .l (fun h=>by cases h) ?_;simp only[Fb,Fact.kids,List.map,Be];exact Ep _
def oV (f g:Fact):Pure Tryz.prog 112 [.a (xF f),.a (xF g)] (.a (xF (M6 f g))):=by
 refine nf kZ ?_;have hs:=Sn
 conv=>whnf
 repeat'((first|apply st|(apply sq;intro K U)|(apply si;intro A B Y Z)|(apply Y;clear Z B Y A)|(apply U;clear U K)|refine⟨kZ,?_⟩|refine ld ?_|refine sn fun σ hs=>?_|(intro nn hnn;generalize hg:A6 _ nn _=σ;refine al hg fun hs=>?_;clear hg)|fail)<;>conv=>whnf)
 refine BO (.a (.cons (.refl _) (.cons (.refl _) (.cons CI (.cons (.refl _) (.cons (.refl _) (.cons ?_ .nil)))))));refine .l (fun h=>by cases h) ?_;simp only[M6,Fact.kids,List.map,Be];exact Ep _
def GH (l:Fact):Prop:=l.op=5→l.kids≠[]
def A2 (l:Fact):Fact×Bool:=if l.op=5 then(l.kids.headD default,true)else(l,false)
def HU (l:Fact) (h:GH l):Pure Tryz.prog 262 [.a (xF l)] (.t [.a (xF (A2 l).1),.b (A2 l).2]):=by
 refine Pure.fit (by kernel_rfl) fun hf=>?_
 have⟨h2,h3,h4⟩:=HO hf.1;refine kk kZ ?_;have hs:=Sn;by_cases h5:l.op=5
 ·have hk:0<l.kids.length:=List.length_pos_iff.2 (h h5)
  conv=>whnf
  repeat'((first|apply st|(apply sq;intro K U)|(apply si;intro A B Y Z)|(apply Y;clear Z B Y A)|(apply U;clear U K)|refine⟨rfl,?_⟩|refine⟨kZ,?_⟩|refine xp fun x hx=>?_|refine ld ?_|refine sn fun σ hs=>?_|(constructor<;>intro hc<;>(try rw[hc])<;>(replace hc:=bp hc)<;>try(exfalso;omega))|(intro nn hnn;generalize hg:A6 _ nn _=σ;refine al hg fun hs=>?_;clear hg)|clear U K)<;>conv=>whnf)
  all_goals try(exfalso;omega)
  refine AI ?_
  have:l.kids.headD default=x:=by
   cases hl:l.kids with
   | nil=>rw[hl]at hk;simp at hk
   | cons y r=>rw[hl]at hx;simpa using hx
  simp only[A2,if_pos h5,this];rfl
 ·conv=>whnf
  repeat'((first|apply st|(apply sq;intro K U)|(apply si;intro A B Y Z)|(apply Y;clear Z B Y A)|(apply U;clear U K)|refine⟨rfl,?_⟩|refine⟨kZ,?_⟩|refine ld ?_|refine sn fun σ hs=>?_|(constructor<;>intro hc<;>(try rw[hc])<;>(replace hc:=bp hc)<;>try(exfalso;omega))|(intro nn hnn;generalize hg:A6 _ nn _=σ;refine al hg fun hs=>?_;clear hg)|fail)<;>conv=>whnf)
  all_goals try(exfalso;omega)
  refine AI ?_;simp only[A2,if_neg h5];rfl
def Bx (path pre:List Int):Bool:=decide (pre.length≤path.length)&&path.take pre.length==pre
def Qt (xs ys:List Int) (f g:Bool):Pure Tryz.prog 281 [.l (iL xs) f,.l (iL ys) g] (.b (Bx xs ys)):=by
 refine Pure.fit (by kernel_rfl) fun hf=>?_
 have hx:=Iu hf.1;have hy:=Iu hf.2.1;have hM:=Mx;refine kJ kZ ?_;have hs:=Sn
 conv=>whnf
 repeat'((first|apply st|(apply sq;intro K U)|(apply si;intro A B Y Z)|(apply Y;clear Z B Y A)|(apply U;clear U K)|refine⟨rfl,?_⟩|refine vF ?_|refine Pure.use (H4 _ _ _ _) ?_|(constructor<;>intro hc<;>(try rw[hc])<;>(replace hc:=bp hc)<;>(try simp(disch:=omega) only[BD,wrap64,AL]at hc))|fail)<;>conv=>whnf)
 ·refine AI ?_
  have:ys.length≤xs.length:=by omega
  simp[Bx,this]
 ·refine AI ?_
  have: ¬ys.length≤xs.length:=by omega
  simp[Bx,this]
def Ge (w:AK) (ls:List Fact) (a:Int) (p:List Int) (c:Bool):List V:=[.l (Ej w.parents) false,.l (iL w.owner) false,.l (facts ls) false,eI a,.l (iL p) false,.b c]
def JF (w:AK) (ls:List Fact) (a:Int) (p:List Int) (c:Bool) (s:Int) (hp:p.length<100):Pure Tryz.prog 265 [.a (Ge w ls a p c),eI s] (.a (Ge w ls a (p++[s]) c)):=by
 have hM:=Mx;refine kY kZ ?_;have hs:=Sn
 conv=>whnf
 repeat'((first|apply st|(apply sq;intro K U)|(apply si;intro A B Y Z)|(apply Y;clear Z B Y A)|(apply U;clear U K)|apply dr|refine⟨kZ,?_⟩|(intro nn hnn;generalize hg:A6 _ nn _=σ;refine al hg fun hs=>?_;clear hg)|fail)<;>conv=>whnf)
 replace hs:=EM hs 1;refine HN hs 1 (xs:=[]) (ys:=p) rfl (by simp;omega) Bq fun v σ hs=>?_
 conv=>whnf
 repeat'((first|apply st|apply dr|refine rk ?_ ?_|exact fun s e=>by cases e;rfl|refine⟨kZ,?_⟩|refine aq fun v σ hs hsl=>?_|fail)<;>conv=>whnf)
 obtain⟨n,l,cc,rfl⟩:=ZQ hsl
 conv=>whnf
 repeat'((first|apply st|(apply Y;clear Z B Y A)|(apply U;clear U K)|apply dr|refine⟨kZ,?_⟩|refine ld ?_|refine sn fun σ hs=>?_|fail)<;>conv=>whnf)
 exact BO (.a (.cons (.refl _) (.cons (.refl _) (.cons (.refl _) (.cons (.refl _) (.cons (hs.MV 1 rfl) (.cons (.refl _) .nil)))))))
def Gs (a:Int) (p:List Int) (l:Fact):Bool:=(A2 l).1.arg==a&&(A2 l).1.path==p
def GN {w:AK} {ls:List Fact} {a:Int} {p:List Int} {c:Bool} (h:FD (.a (Ge w ls a p c))):ls.length≤Ac∧p.length≤Ac∧w.owner.length≤Ac∧w.parents.length≤Ac:=by
 simp only[Ge,G4,Dc,EZ,BD]at h;exact⟨h.2.2.1.1,h.2.2.2.2.1.1,h.2.1.1,h.1.1⟩
def ZU (w:AK) (ls:List Fact) (a:Int) (p:List Int) (c:Bool) (hok: ∀l∈ls,GH l) (hln:ls.length≤1000000):Pure Tryz.prog 261 [.a (Ge w ls a p c)] (.l (facts (ls.filter (Gs a p))) false):=by
 refine Pure.fit (by kernel_rfl) fun hf=>?_
 have⟨h1,h2,h3,h4⟩:=GN hf.1;have hM:=Mx;refine ko kZ ?_;have hs:=Sn
 conv=>whnf
 repeat'((first|apply st|(apply sq;intro K U)|(apply si;intro A B Y Z)|(apply Y;clear Z B Y A)|(apply U;clear U K)|fail)<;>conv=>whnf)
 refine B4 ls.length (fun k v=>[(3,v),(11,eI (A3 k))]) (fun k v=>[.own v 6 (facts ((ls.take k).filter (Gs a p)))]) (fun _ _=>True) (.l [] true) rfl trivial (EM hs 6) ?_;clear hs;rintro k v σ hk - hs;have hfl:=KN (Gs a p) (ls.take k)
 conv=>whnf
 repeat'((first|apply st|(apply sq;intro K U)|(apply si;intro A B Y Z)|(apply Y;clear Z B Y A)|(apply U;clear U K)|refine⟨rfl,?_⟩|refine⟨kZ,?_⟩|refine Lg ?_|refine ld ?_|refine sn fun σ hs=>?_|refine xg fun v σ hs hsl=>?_|(refine fc (fun x hx hlt hc=>?_) (fun hk hc=>?_)<;>(try rw[hc])<;>clear hc)|refine Pure.use (HU _ (hok _ (B1 (by assumption)))) ?_|refine Pure.use (H4 _ _ _ _) ?_|(constructor<;>intro hc<;>(try rw[hc])<;>(replace hc:=bp hc))|(intro nn hnn;generalize hg:A6 _ nn _=σ;refine al hg fun hs=>?_;clear hg)|clear U K)<;>conv=>whnf)
 ·exact⟨hlt,_,rfl,trivial,by rw[AQ hx,List.filter_append];simpa[Gs, *]using hs.take 1⟩
 ·exact⟨hlt,_,rfl,trivial,by rw[AQ hx,List.filter_append];simpa[Gs, *]using hs.take 1⟩
 ·exact⟨hlt,_,rfl,trivial,by rw[AQ hx,List.filter_append];simpa[Gs, *]using hs.take 1⟩
 ·exact EW hs 0 rfl (by rw[Au hk])
def ER (ls:List Fact) (a:Int) (p:List Int):Bool:=ls.all fun l=>(A2 l).2|| !((A2 l).1.arg==a&&Bx (A2 l).1.path p)
def XK (w:AK) (ls:List Fact) (a:Int) (p:List Int) (c:Bool) (hok: ∀l∈ls,GH l):Pure Tryz.prog 266 [.a (Ge w ls a p c)] (.b (ER ls a p)):=by
 refine Pure.fit (by kernel_rfl) fun hf=>?_
 have⟨h1,h2,h3,h4⟩:=GN hf.1;have hM:=Mx;refine kX kZ ?_;have hs:=Sn
 conv=>whnf
 repeat'((first|apply st|(apply sq;intro K U)|(apply si;intro A B Y Z)|(apply Y;clear Z B Y A)|(apply U;clear U K)|fail)<;>conv=>whnf)
 refine B4 ls.length (fun k (_:Unit)=>[(10,eI (A3 k))]) (fun k _=>[]) (fun k _=>ER ls a p=(ls.drop k).all fun l=>(A2 l).2|| !((A2 l).1.arg==a&&Bx (A2 l).1.path p)) () rfl rfl hs ?_;clear hs;rintro k - σ hk hn hs
 conv=>whnf
 repeat'((first|apply st|(apply sq;intro K U)|(apply si;intro A B Y Z)|(apply Y;clear Z B Y A)|(apply U;clear U K)|refine⟨rfl,?_⟩|refine⟨kZ,?_⟩|refine Lg ?_|refine ld ?_|refine sn fun σ hs=>?_|(refine fc (fun x hx hlt hc=>?_) (fun hk hc=>?_)<;>(try rw[hc])<;>clear hc)|refine Pure.use (HU _ (hok _ (B1 (by assumption)))) ?_|refine Pure.use (Qt _ _ _ _) ?_|(constructor<;>intro hc<;>(try rw[hc])<;>(replace hc:=bp hc))|(intro nn hnn;generalize hg:A6 _ nn _=σ;refine al hg fun hs=>?_;clear hg)|clear U K)<;>conv=>whnf)
 ·exact AI (by rw[hn,drop_cons hx,MU];simp[*])
 ·exact⟨hlt,(),rfl,by rw[hn,drop_cons hx,MU];simp[*],hs.take 0⟩
 ·exact⟨hlt,(),rfl,by rw[hn,drop_cons hx,MU];simp[*],hs.take 0⟩
 ·exact⟨hlt,(),rfl,by rw[hn,drop_cons hx,MU];simp[*],hs.take 0⟩
 ·exact AI (by rw[hn,Ag hk];rfl)
def Bg (n:Nat):List Int:=(List.range n).map Int.ofNat
def Et (n:Nat):Bg (n+1)=Bg n++[(n:Int)]:=by simp[Bg,List.range_succ]
def DQ (n:Nat):(Bg n).length=n:=by simp[Bg]
def V3 (a:Int) (p:List Int) (s:Int) (l:Fact):Bool:=(A2 l).1.arg==a&&Bx (A2 l).1.path (p++[s])
def Bs (n:Nat) (ls:List Fact) (a:Int) (p:List Int):List Int:=(Bg n).filter fun s=>ls.any (V3 a p s)
def TC (w:AK) (ls:List Fact) (a:Int) (p:List Int) (c:Bool) (hok: ∀l∈ls,GH l) (hp:p.length<100) :
    Pure Tryz.prog 264 [.a (Ge w ls a p c)] (.l (iL (Bs w.owner.length ls a p)) false):=by
 refine Pure.fit (by kernel_rfl) fun hf=>?_
 have⟨h1,h2,h3,h4⟩:=GN hf.1;have hM:=Mx;refine ke kZ ?_;have hs:=Sn
 conv=>whnf
 repeat'((first|apply st|(apply sq;intro K U)|(apply si;intro A B Y Z)|(apply Y;clear Z B Y A)|(apply U;clear U K)|fail)<;>conv=>whnf)
 refine B4 w.owner.length (fun k v=>[(3,v),(14,eI (A3 k))]) (fun k v=>[.own v 1 (iL (Bs k ls a p))]) (fun _ _=>True) (.l [] true) rfl trivial (EM hs 1) ?_;clear hs;rintro k v σ hk - hs;have hck:A3 k=k:=AL (by omega);have hfl:=KN (fun s=>ls.any (V3 a p s)) (Bg k);rw[DQ]at hfl;have hfl2:(Bs k ls a p).length≤k:=hfl
 conv=>whnf
 repeat'((first|apply st|(apply sq;intro K U)|(apply si;intro A B Y Z)|(apply Y;clear Z B Y A)|(apply U;clear U K)|refine⟨rfl,?_⟩|(refine fc (fun x hx hlt hc=>?_) (fun hk hc=>?_)<;>(try rw[hc])<;>clear hc)|clear U K)<;>conv=>whnf)
 ·refine B4 ls.length (fun j b=>[(5,.b b),(20,eI (A3 j))]) (fun j _=>[.own v 1 (iL (Bs k ls a p))]) (fun j b=>b=(ls.take j).any (V3 a p (A3 k))) false rfl (by simp) hs ?_
  clear hs;rintro j b σ hj hb hs;subst hb
  conv=>whnf
  repeat'((first|apply st|(apply sq;intro K U)|(apply si;intro A B Y Z)|(apply Y;clear Z B Y A)|(apply U;clear U K)|apply dr|refine rk ?_ ?_|exact fun s e=>by cases e;rfl|refine⟨rfl,?_⟩|refine⟨kZ,?_⟩|refine Lg ?_|refine ld ?_|refine sn fun σ hs=>?_|refine aq fun v σ hs hsl=>?_|(refine fc (fun x hx hlt hc=>?_) (fun hk hc=>?_)<;>(try rw[hc])<;>clear hc)|refine Pure.use (HU _ (hok _ (B1 (by assumption)))) ?_|refine Pure.use (Qt _ _ _ _) ?_|refine Pure.use (JF _ _ _ _ _ _ (by omega)) ?_|(constructor<;>intro hc<;>(try rw[hc])<;>(replace hc:=bp hc)<;>(try simp(disch:=omega) only[BD,wrap64,AL]at hc))|(intro nn hnn;generalize hg:A6 _ nn _=σ;refine al hg fun hs=>?_;clear hg)|clear U K)<;>conv=>whnf)
  ·exact⟨hlt,_,rfl,by rw[AQ hx,List.any_append];simp[V3, *],hs.take 1⟩
  ·exact⟨hlt,_,rfl,by rw[AQ hx,List.any_append];simp[V3, *],hs.take 1⟩
  ·exact⟨hlt,true,rfl,by rw[AQ hx,List.any_append];simp[*],hs.take 1⟩
  ·refine⟨by assumption,_,rfl,trivial,?_⟩
   rw[Au hk]at hc;rw[Bs,Et,List.filter_append];simp only[Bs]at hs;simpa[hc,hck]using hs
  ·refine⟨by assumption,_,rfl,trivial,?_⟩
   rw[Au hk]at hc;rw[Bs,Et,List.filter_append];simp only[Bs]at hs;simpa[hc,hck]using hs
 ·exact EW hs 0 rfl (by rw[hk])
def FJ (n:Nat) (ls:List Fact) (a:Int) (p:List Int):Bool:=(Bs n ls a p).all fun s=>ER ls a (p++[s])
def XC (w:AK) (ls:List Fact) (a:Int) (p:List Int) (c:Bool) (hok: ∀l∈ls,GH l) (hp:p.length<50):Pure Tryz.prog 263 [.a (Ge w ls a p c)] (.b (FJ w.owner.length ls a p)):=by
 refine Pure.fit (by kernel_rfl) fun hf=>?_
 have⟨h1,h2,h3,h4⟩:=GN hf.1;have hM:=Mx;refine kg kZ ?_;have hs:=Sn;have hfl:=KN (fun s=>ls.any (V3 a p s)) (Bg w.owner.length);rw[DQ]at hfl;have hfl2:(Bs w.owner.length ls a p).length≤w.owner.length:=hfl
 conv=>whnf
 repeat'((first|apply st|(apply sq;intro K U)|(apply si;intro A B Y Z)|(apply Y;clear Z B Y A)|(apply U;clear U K)|refine⟨kZ,?_⟩|refine Pure.use (TC _ _ _ _ _ hok (by omega)) ?_|fail)<;>conv=>whnf)
 refine B4 (Bs w.owner.length ls a p).length (fun k (_:Unit)=>[(8,eI (A3 k))]) (fun k _=>[]) (fun k _=>FJ w.owner.length ls a p=((Bs w.owner.length ls a p).drop k).all fun s=>ER ls a (p++[s])) () rfl rfl hs ?_;clear hs;rintro k - σ hk hn hs
 conv=>whnf
 repeat'((first|apply st|(apply sq;intro K U)|(apply si;intro A B Y Z)|(apply Y;clear Z B Y A)|(apply U;clear U K)|refine⟨rfl,?_⟩|refine⟨kZ,?_⟩|refine ix ?_|(refine fc (fun x hx hlt hc=>?_) (fun hk hc=>?_)<;>(try rw[hc])<;>clear hc)|refine Pure.use (JF _ _ _ _ _ _ (by omega)) ?_|refine Pure.use (XK _ _ _ _ _ hok) ?_|(constructor<;>intro hc<;>(try rw[hc])<;>(replace hc:=bp hc))|clear U K)<;>conv=>whnf)
 ·exact AI (by rw[hn,drop_cons hx,MU];simp[*])
 ·exact⟨hlt,(),rfl,by rw[hn,drop_cons hx,MU];simp[*],hs⟩
 ·exact AI (by rw[hn,Ag hk];rfl)
def Jw (ls:List Fact):Prop:= ∀l∈ls,-1000000000≤(A2 l).1.n∧(A2 l).1.n≤1000000000
def HG (x:Fact×Bool) (t:Int×Int×List Int):Option (Int×Int×List Int):=
 if x.1.op=2 then if decide (x.1.cls > 1) != x.2 then none else some t
 else if x.1.op=3 then(if x.2 then some (if x.1.n > t.1 then x.1.n else t.1,t.2.1,t.2.2)else some (t.1,if x.1.n - 1<t.2.1 then x.1.n - 1 else t.2.1,t.2.2))
 else if x.2 then some (t.1,t.2.1,t.2.2++[x.1.n])else some (if x.1.n > t.1 then x.1.n else t.1,if x.1.n<t.2.1 then x.1.n else t.2.1,t.2.2)
def foldI:List Fact→Int×Int×List Int→Option (Int×Int×List Int)
 | [],t=>some t
 | x::r,t=>(HG (A2 x) t).bind (foldI r)
def MN: ∀(xs ys:List Fact) (t:Int×Int×List Int),foldI (xs++ys) t=(foldI xs t).bind (foldI ys)
 | [],_,_=>rfl
 | x::r,ys,t=>by
   simp only[List.cons_append,foldI];cases HG (A2 x) t with
   | none=>rfl
   | some u=>exact MN r ys u
def GS {os:List Fact} {k:Nat} {x:Fact} (hx:os[k]? =some x) (t:Int×Int×List Int):foldI (os.take (k+1)) t=(foldI (os.take k) t).bind (HG (A2 x)):=by
 rw[AQ hx,MN];congr 1;funext u;simp only[foldI];cases HG (A2 x) u<;>rfl
def Vd {os:List Fact} (k:Nat) {t:Int×Int×List Int} (h:foldI (os.take k) t=none):foldI os t=none:=by
 rw[←List.take_append_drop k os,MN,h];rfl
def RC (no:List Int):Nat→Int→Option Int
 | 0,_=>none
 | k+1,n=>if no.all (· != n)then some n else RC no k (n+1)
def Nk (t:Int×Int×List Int):Option Int:=RC t.2.2 (t.2.1+1 - t.1).toNat t.1
def t0:Int×Int×List Int:=(-1000000000,1000000000,[])
def Ie (ls:List Fact) (a:Int) (p:List Int):Option Int:=(foldI (ls.filter (Gs a p)) t0).bind Nk
def Xc (n:Nat) (ls:List Fact) (a:Int) (p:List Int):V:=match Ie ls a p with
 | some x=> .t [eI x,.b (FJ n ls a p)]
 | none=> .t [eI 0,.b false]
set_option maxHeartbeats 4000000 in
def O6 (w : AK) (ls:List Fact) (a:Int) (p:List Int) (c:Bool) (hokL: ∀l∈ls,GH l) (hln:ls.length≤1000000) (hp:p.length<50) (hsm:Jw ls):Pure Tryz.prog 233 [.a (Ge w ls a p c)] (Xc w.owner.length ls a p):=by
 refine Pure.fit (by kernel_rfl) fun hf=>?_
 have⟨h1,h2,h3,h4⟩:=GN hf.1;have hM:=Mx;refine lJ kZ ?_;have hs:=Sn;have hfl:=KN (Gs a p) ls;have hok2: ∀l∈ls.filter (Gs a p),GH l:=fun l hl=>hokL l ((JZ.1 hl).1)
 have hsm2:Jw (ls.filter (Gs a p)):=fun l hl=>hsm l ((JZ.1 hl).1)
 conv=>whnf
 repeat'((first|apply st|(apply sq;intro K U)|(apply si;intro A B Y Z)|(apply Y;clear Z B Y A)|(apply U;clear U K)|refine⟨kZ,?_⟩|refine Pure.use (ZU _ _ _ _ _ hokL hln) ?_|fail)<;>conv=>whnf)
 generalize hos:ls.filter (Gs a p)=os at *;have hV:Ie ls a p=(foldI os t0).bind Nk:=by rw[Ie,hos]
 refine B4 os.length (fun k (x:Int×Int×List Int×V)=>[(4,eI x.1),(5,eI x.2.1),(6,x.2.2.2),(18,eI (A3 k))]) (fun k x=>[.own x.2.2.2 1 (iL x.2.2.1)]) (fun k x=>foldI (os.take k) t0=some (x.1,x.2.1,x.2.2.1)∧ -1000000000≤x.1∧x.1≤1000000000∧ -1000000001≤x.2.1∧x.2.1≤1000000000∧x.2.2.1.length≤k) (-1000000000,1000000000,[],.l [] true) rfl ⟨rfl,by simp⟩ (EM hs 1) ?_;clear hs;rintro k ⟨low,high,no,v⟩ σ hk ⟨hno,hb1,hb2,hb3,hb4,hb5⟩ hs;simp only at hb1 hb2 hb3 hb4 hb5 hno;have hok:=hok2
 conv=>whnf
 repeat'((first|apply st|(apply sq;intro K U)|(apply si;intro A B Y Z)|(apply Y;clear Z B Y A)|(apply U;clear U K)|apply dr|refine⟨rfl,?_⟩|refine⟨kZ,?_⟩|refine Lg ?_|refine ld ?_|refine sn fun σ hs=>?_|refine aq fun v σ hs hsl=>?_|(refine fc (fun x hx hlt hc=>?_) (fun hk hc=>?_)<;>(try rw[hc])<;>clear hc)|refine Pure.use (HU _ (hok _ (B1 (by assumption)))) ?_|(constructor<;>intro hc<;>(try rw[hc])<;>(replace hc:=bp hc)<;>try(exfalso;omega))|(intro nn hnn;generalize hg:A6 _ nn _=σ;refine al hg fun hs=>?_;clear hg)|clear U K)<;>conv=>whnf)
 all_goals first
  | (have hb:=hsm2 _ (B1 hx)
     first
      | (refine⟨hlt,(_,_,_,_),rfl,⟨?_,?_⟩,hs.take 1⟩
         ·rw[GS hx,hno]
          have hw:IntKind.i64.wrap ((A2 ‹Fact›).1.n - 1)=(A2 ‹Fact›).1.n - 1:=wrap64 (by omega) (by omega);simp[HG, *]
          done
         ·have hw:IntKind.i64.wrap ((A2 ‹Fact›).1.n - 1)=(A2 ‹Fact›).1.n - 1:=wrap64 (by omega) (by omega)
          simp only[PR,List.length_singleton,hw]
          refine⟨?_,?_,?_,?_,?_⟩<;>(try split)<;>omega)
      | (refine AI ?_
         have:foldI os t0=none:=Vd (k+1) (by rw[GS hx,hno];simp[HG, *]);rw[this]at hV;simp only[Xc,hV]
         rfl))
  | skip
 ·have hb:=hsm2 _ (B1 hx)
  refine⟨hlt,(if(A2 x).1.n > low then(A2 x).1.n else low,high,no,v),rfl,⟨?_,?_⟩,hs.take 1⟩
  ·rw[GS hx,hno]
   simp[HG, *]
  ·dsimp only
   refine⟨?_,?_,?_,?_,?_⟩<;>(try split)<;>omega
 ·have hb:=hsm2 _ (B1 hx)
  have hw:IntKind.i64.wrap ((A2 x).1.n - 1)=(A2 x).1.n - 1:=wrap64 (by omega) (by omega);rw[hw];refine⟨hlt,(low,if(A2 x).1.n - 1<high then(A2 x).1.n - 1 else high,no,v),rfl,⟨?_,?_⟩,hs.take 1⟩
  ·rw[GS hx,hno]
   simp[HG, *]
  ·dsimp only
   refine⟨?_,?_,?_,?_,?_⟩<;>(try split)<;>omega
 ·have hb:=hsm2 _ (B1 hx)
  refine⟨hlt,(if(A2 x).1.n > low then(A2 x).1.n else low,if(A2 x).1.n<high then(A2 x).1.n else high,no,v),rfl,⟨?_,?_⟩,hs.take 1⟩
  ·rw[GS hx,hno]
   simp[HG, *]
  ·dsimp only
   refine⟨?_,?_,?_,?_,?_⟩<;>(try split)<;>omega
 rw[Au (by assumption)]at hno;have hV2:Ie ls a p=Nk (low,high,no):=by rw[hV,hno];rfl
 dsimp only;refine ED (fun n:Int=>(high+1 - n).toNat) (fun n=>[(11,eI n)]) (fun _=>[.own v 1 (iL no)]) (fun n=>low≤n∧n≤1000000001∧Ie ls a p=RC no (high+1 - n).toNat n) low rfl ⟨by omega,by omega,hV2⟩ hs ?_;clear hs;rintro n σ ⟨hn1,hn2,hn⟩ hs;have hnl:no.length≤Ac:=by omega
 conv=>whnf
 repeat'((first|apply st|(apply sq;intro K U)|(apply si;intro A B Y Z)|(apply Y;clear Z B Y A)|(apply U;clear U K)|refine⟨rfl,?_⟩|refine lo ?_|(constructor<;>intro hc<;>(try rw[hc])<;>(replace hc:=bp hc))|clear U K)<;>conv=>whnf)
 ·refine B4 no.length (fun j b=>[(12,.b b),(80,eI (A3 j))]) (fun j _=>[.own v 1 (iL no)]) (fun j b=>b=(no.take j).all (· != n)) true rfl (by simp) hs ?_
  clear hs;rintro j b σ hj hb hs;subst hb
  conv=>whnf
  repeat'((first|apply st|(apply sq;intro K U)|(apply si;intro A B Y Z)|(apply Y;clear Z B Y A)|(apply U;clear U K)|refine⟨rfl,?_⟩|refine⟨kZ,?_⟩|refine oc ?_|refine NX ?_|(refine fc (fun x hx hlt hc=>?_) (fun hk hc=>?_)<;>(try rw[hc])<;>clear hc)|refine Pure.use (XC _ _ _ _ _ hokL (by omega)) ?_|(constructor<;>intro hc<;>(try rw[hc])<;>(replace hc:=bp hc))|clear U K)<;>conv=>whnf)
  ·exact⟨hlt,_,rfl,by rw[AQ hx,List.all_append,hc];simp,hs⟩
  ·exact⟨hlt,false,rfl,by rw[AQ hx,List.all_append,hc];simp,hs⟩
  ·refine AI ?_
   rw[Au hk]at hc;rw[show(high+1 - n).toNat=(high - n).toNat+1 by omega,RC,if_pos hc]at hn;simp only[Xc,hn]
  ·rw[Au hk]at hc
   rw[show(high+1 - n).toNat=(high+1 - (n+1)).toNat+1 by omega,RC,if_neg (by simp[hc])]at hn;rw[wrap64 (by omega) (by omega)];exact⟨n+1,by omega,rfl,⟨by omega,by omega,hn⟩,hs⟩
 ·refine AI ?_
  have:(high+1 - n).toNat=0:=by omega
  rw[this,RC]at hn;simp only[Xc,hn]
def II (x:Fact×Bool):Bool:=((x.1.op==2&&(x.1.cls==0||x.1.cls==2))==x.2)
def HL (n:Nat) (ls:List Fact) (a:Int) (p:List Int):Bool:=(ls.filter (Gs a p)).all (fun l=> !II (A2 l))&&FJ n ls a p
set_option maxHeartbeats 4000000 in
def Wm (w:AK) (ls:List Fact) (a:Int) (p:List Int) (c:Bool) (hokL: ∀l∈ls,GH l) (hln:ls.length≤1000000) (hp:p.length<50):Pure Tryz.prog 234 [.a (Ge w ls a p c)] (.b (HL w.owner.length ls a p)):=by
 refine Pure.fit (by kernel_rfl) fun hf=>?_
 have⟨h1,h2,h3,h4⟩:=GN hf.1;have hM:=Mx;refine lI kZ ?_;have hs:=Sn;have hfl:=KN (Gs a p) ls;have hok: ∀l∈ls.filter (Gs a p),GH l:=fun l hl=>hokL l (JZ.1 hl).1
 conv=>whnf
 repeat'((first|apply st|(apply sq;intro K U)|(apply si;intro A B Y Z)|(apply Y;clear Z B Y A)|(apply U;clear U K)|refine⟨kZ,?_⟩|refine Pure.use (ZU _ _ _ _ _ hokL hln) ?_|fail)<;>conv=>whnf)
 generalize hos:ls.filter (Gs a p)=os at *;have hV:HL w.owner.length ls a p=(os.all (fun l=> !II (A2 l))&&FJ w.owner.length ls a p):=by rw[HL,hos]
 refine B4 os.length (fun k (_:Unit)=>[(11,eI (A3 k))]) (fun k _=>[]) (fun k _=>HL w.owner.length ls a p=((os.drop k).all (fun l=> !II (A2 l))&&FJ w.owner.length ls a p)) () rfl hV hs ?_;clear hs;rintro k - σ hk hn hs
 conv=>whnf
 repeat'((first|apply st|(apply sq;intro K U)|(apply si;intro A B Y Z)|(apply Y;clear Z B Y A)|(apply U;clear U K)|refine⟨rfl,?_⟩|refine⟨kZ,?_⟩|refine Lg ?_|refine ld ?_|refine sn fun σ hs=>?_|(refine fc (fun x hx hlt hc=>?_) (fun hk hc=>?_)<;>(try rw[hc])<;>clear hc)|refine Pure.use (HU _ (hok _ (B1 (by assumption)))) ?_|refine Pure.use (XC _ _ _ _ _ hokL (by omega)) ?_|(constructor<;>intro hc<;>(try rw[hc])<;>(replace hc:=bp hc))|(intro nn hnn;generalize hg:A6 _ nn _=σ;refine al hg fun hs=>?_;clear hg)|clear U K)<;>conv=>whnf)
 all_goals first
  | (have hst:II (A2 x)=true:=by clear hV hn;cases hz:(A2 x).2<;>cases hy:((A2 x).1.cls==2)<;>simp_all [II]
     exact AI (by rw[hn,drop_cons hx,MU,hst];simp))
  | (have hst:II (A2 x)=false:=by clear hV hn;cases hz:(A2 x).2<;>cases hy:((A2 x).1.cls==2)<;>simp_all [II]
     exact⟨hlt,(),rfl,by rw[hn,drop_cons hx,MU,hst];simp,hs.take 0⟩)
  | exact AI (by rw[hn,Ag (by assumption)];simp)
end Go.Gl
