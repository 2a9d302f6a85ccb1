import Derived.Test.YtijbpgdmpejgoaaGreatV9
set_option linter.all false
noncomputable section
namespace Go.Gl
open Go.Proofs
attribute [local irreducible] BL A4 Aj AW AM Ai AV AX AN Ah AS AU A8 BJ Sat Ac BF Ak W
theorem fF (xs:List Int) (f:Bool) (x:Int):Pure Tryz.prog 154 [.l (iL xs) f,eI x] (.b (xs.contains x)):=Pure.fit (by kernel_rfl) fun hf=>Z4 xs f x (Jf hf.1)
def Ce (w:AK) (f:Fact):Bool:=decide (CZ f 24≤24)&&(decide (EL f≤12)&&Bi w f)
theorem cJ (w:AK) (f:Fact):Pure Tryz.prog 94 [.a (A2 w),.a (xF f)] (.b (Ce w f)):=by
 refine qB nb ?_
 conv=>whnf
 repeat'((first|apply st|(apply sq;intro K U)|(apply si;intro A B Y Z)|(apply Y;clear Z B Y A)|(apply U;clear U K)|refine⟨rfl,?_⟩|refine⟨nb,?_⟩|refine Pure.use (bg _) ?_|(constructor<;>intro hc<;>(try rw[hc])<;>(replace hc:=bp hc))|fail)<;>conv=>whnf)
 ·have:=KC f 24 (by omega) hc
  refine(cV f (by simp only[Ad];omega)).use ?_
  conv=>whnf
  repeat'((first|apply st|(apply Y;clear Z B Y A)|(apply U;clear U K)|refine⟨rfl,?_⟩|refine⟨nb,?_⟩|refine Pure.use (ee _ _) ?_|(constructor<;>intro hc<;>(try rw[hc])<;>(replace hc:=bp hc))|fail)<;>conv=>whnf)
  ·exact AI (by simp[Ce,hc,‹CZ f 24≤24›])
  ·exact AI (by simp[Ce, *];intros;omega)
 ·exact AI (by simp[Ce];intros;omega)
def iN (i:Nat) (pre:List Int) (c:Int):Bool:=decide (3≤c)&&(decide (c<3+i)&& !pre.contains c)
def Lk (i:Nat):List Int→List Int→Bool
 | _,[]=>true
 | pre,c::r=>iN i pre c&&Lk i (pre++[c]) r
def IH:Nat→List (List Int)→Bool
 | _,[]=>true
 | i,l::r=>decide (l.length≤3)&&(Lk i [] l&&IH (i+1) r)
def Dt (g:List (List Int)):Bool:=decide (g.length≤16)&&IH 0 g
theorem RU {ls:List (List Int)} {g:Bool} (h:FD (.l (En ls) g)):ls.length≤Ad∧ ∀l∈ls,l.length≤Ad:=by
 simp only[Fq,BE,I3,DZ]at h;exact⟨h.1,fun l hl=>(h.2 l hl).1.1⟩
theorem fK (g:List (List Int)) (f:Bool):Pure Tryz.prog 123 [.l (En g) f] (.b (Dt g)):=by
 refine Pure.fit (by kernel_rfl) fun hf=>?_
 have⟨g1,g2⟩:=RU hf.1;have hM:=Mx;refine nU nb ?_
 conv=>whnf
 repeat'((first|apply st|(apply sq;intro K U)|(apply si;intro A B Y Z)|(apply Y;clear Z B Y A)|(apply U;clear U K)|refine⟨rfl,?_⟩|(constructor<;>intro hc<;>(try rw[hc])<;>(replace hc:=bp hc)<;>(try simp(disch:=omega) only[BE,wrap64,AL]at hc))|clear U K)<;>conv=>whnf)
 ·exact AI (by simp[Dt];intros;omega)
 ·refine B4 g.length (fun k (_:Unit)=>[(3,eI (A6 k))]) (fun _ _=>[]) (fun k _=>Dt g=IH k (g.drop k)) () rfl (by simp[Dt];omega) Sat.nil ?_
  rintro k - σ hk hn hs
  conv=>whnf
  repeat'((first|apply st|(apply sq;intro K U)|(apply si;intro A B Y Z)|(apply Y;clear Z B Y A)|(apply U;clear U K)|refine⟨rfl,?_⟩|refine ix ?_|(refine fc (fun x hx hlt hc=>?_) (fun hk hc=>?_)<;>(try rw[hc])<;>clear hc)|(constructor<;>intro hc<;>(try rw[hc])<;>(replace hc:=bp hc)<;>(try simp(disch:=omega) only[BE,wrap64,AL]at hc))|clear U K)<;>conv=>whnf)
  ·exact AI (by rw[hn,drop_cons hx,IH];simp;intros;omega)
  ·revert x
   rintro l hl hl3;have hll:=g2 l (B2 hl);have hn':Dt g=(Lk k [] l&&IH (k+1) (g.drop (k+1))):=by rw[hn,drop_cons hl,IH];simp;intros;omega
   refine B4 l.length (fun j (_:Unit)=>[(4,eI (A6 j))]) (fun _ _=>[]) (fun j _=>Dt g=(Lk k (l.take j) (l.drop j)&&IH (k+1) (g.drop (k+1)))) () rfl (by rw[hn'];rfl) Sat.nil ?_;rintro j - σ hj hm hs
   conv=>whnf
   repeat'((first|apply st|(apply sq;intro K U)|(apply si;intro A B Y Z)|(apply Y;clear Z B Y A)|(apply U;clear U K)|apply dr|refine⟨rfl,?_⟩|refine ix ?_|refine vA ?_|(refine fc (fun x hx hlt hc=>?_) (fun hk hc=>?_)<;>(try rw[hc])<;>clear hc)|refine Pure.use (fF _ _ _) ?_|(constructor<;>intro hc<;>(try rw[hc])<;>(replace hc:=bp hc)<;>(try simp(disch:=omega) only[BE,wrap64,AL]at hc))|clear U K)<;>conv=>whnf)
   ·exact AI (by rw[hm,drop_cons hx,Lk,iN,hc];simp)
   ·refine⟨hlt,(),rfl,?_,Sat.nil⟩
    rw[hm,drop_cons hx,Lk,iN,hc,AR hx];simp[*]
   ·exact AI (by rw[hm,drop_cons hx,Lk,iN];simp;intros;omega)
   ·exact AI (by rw[hm,drop_cons hx,Lk,iN];simp;intros;omega)
   ·refine⟨by assumption,(),rfl,?_,Sat.nil⟩
    rw[hm,Al hk,Lk,Fm]
  ·exact AI (by rw[hn,Al hk];rfl)
def KU:Int→List Int→Bool
 | _,[]=>true
 | n,s::r=>s==n&&KU (n+1) r
def Cp:Int→List PW→Bool
 | _,[]=>true
 | n,c::r=>decide (c.AT.length≤4)&&(decide (c.parents.length≤3)&&(KU n c.AT&&Cp (n+c.AT.length) r))
def EK (w:AK) (c n:Int):List (Int×Int)→List (Int×Int)→Bool
 | _,[]=>true
 | pre,x::r=>decide (0≤x.1)&&(decide (x.1<n)&&(hasB w c x.1&&(RJ x.2&&(pre.all (fun y=>y.1 != x.1)&&EK w c n (pre++[x]) r))))
def dc (g:List (List Int)) (c:Int):Bool:= !((B9 g).getD c.toNat []).isEmpty
def GH (w:AK) (n:Int):Nat→List PW→Bool
 | _,[]=>true
 | i,c::r=>dc w.parents ((i:Int)+3)&&(EK w ((i:Int)+3) n [] c.inits&&GH w n (i+1) r)
def BI (p:Prog):Bool:=decide (p.AQ.length≤10)&&(Cp 0 p.AQ&&((Bx p.AQ:Int)==p.AT&&(Dt (A7 p)&&GH (AP p) (Bx p.AQ) 0 p.AQ)))
theorem pv {c:PW} (h:Hk (Pd c)):c.parents.length≤Ad∧c.AT.length≤Ad∧c.inits.length≤Ad:=by
 simp only[Pd,DZ,Fq,BE]at h;exact⟨h.1.1,h.2.1.1,h.2.2.1.1⟩
theorem MY {p:Prog} (h:FD (.a (BK p))):ig p:=by
 refine⟨(GG h).1,fun c hc=>?_⟩;simp only[BK,G0,DZ,Fq,I3]at h;exact pv (h.1.2 c hc)
theorem cH (p:Prog) (hk0:p.AQ.length≤1000):Pure Tryz.prog 91 [.a (BK p)] (.l (En (A7 p)) false):=Pure.fit (by kernel_rfl) fun hf=>Wy p (MY hf.1) hk0
theorem FO: ∀(cs:List PW) (n:Int),Cp n cs=true→Bx cs≤4*cs.length∧ ∀c∈cs,c.parents.length≤3∧c.AT.length≤4
 | [],_,_=>⟨JU _,fun _ h=>by cases h⟩
 | c::r,n,h=>by
   simp only[Cp,BZ,CX]at h;have⟨h1,h2⟩:=FO r _ h.2.2.2;refine⟨by simp only[Bx,FC,List.sum_cons,LX]at *;omega,fun d hd=>?_⟩;rcases GB.1 hd with rfl|hd
   ·exact⟨h.2.1,h.1⟩
   ·exact h2 d hd
theorem Qp {i:Nat}: ∀(r pre:List Int),Lk i pre r=true→pre.Nodup→(pre++r).Nodup∧ ∀c∈r,(3:Int)≤c∧c<3+(i:Int)
 | [],pre,_,h=>⟨by simpa using h,fun _ h=>by cases h⟩
 | c::r,pre,h,hn=>by
   simp only[Lk,iN,BZ,CX,Bool.not_eq_true']at h;have hc:c∉pre:=by simpa using h.1.2.2
   obtain⟨h1,h2⟩:=Qp r (pre++[c]) h.2 (List.nodup_append.2 ⟨hn,by simp,fun a ha b hb=>by simp at hb;subst hb;exact fun e=>hc (e ▸ ha)⟩);refine⟨by simpa using h1,fun d hd=>?_⟩;rcases GB.1 hd with rfl|hd
   ·exact⟨h.1.1,h.1.2.1⟩
   ·exact h2 d hd
theorem On: ∀(g:List (List Int)) (k:Nat),IH k g=true→ ∀(i:Nat) (l:List Int),g[i]? =some l→l.length≤3∧l.Nodup∧ ∀c∈l,(3:Int)≤c∧c<3+((k+i:Nat):Int)
 | [],_,_,_,_,h=>by cases h
 | l ::r,k,h,i,l',hi=>by
   simp only[IH,BZ,CX]at h;cases i with
   | zero=>
     simp at hi;subst hi;obtain⟨h1,h2⟩:=Qp l [] h.2.1 .nil;exact⟨h.1,by simpa using h1,by simpa using h2⟩
   | succ i=>
     simp at hi;have:=On r (k+1) h.2.2 i l' hi;rw[show k+(i+1)=k+1+i by omega];exact this
theorem Dy {g:List (List Int)} (h:Dt g=true):IK g:=by
 simp only[Dt,BZ,CX]at h;refine⟨h.1,fun i l hi=>?_⟩;have:=On g 0 h.2 i l hi;simpa using this
theorem JP {g:List (List Int)} (h:IK g):ordered g:=by
 intro c p hp;unfold par at hp;split at hp
 ·cases hp
 ·rename_i h3
  rw[DL]at hp;cases hq:g[c - 3]? with
  | none=>rw[hq]at hp;cases hp
  | some l=>
    rw[hq]at hp;have:=(h.2 _ _ hq).2.2 p hp;omega
theorem F3 {i:Nat} {cs:List PW} {c:Int} (h:c∈BY i cs):(3:Int)+i≤c∧c<3+i+cs.length:=by
 induction cs generalizing i with
 | nil=>cases h
 | cons d r ih=>
   simp only[BY,Fk,List.mem_replicate]at h;simp only[LX];rcases h with⟨_,rfl⟩|h
   ·omega
   ·have:=ih h;omega
theorem Od {p:Prog} (h1:p.AQ.length≤10) (h2:Cp 0 p.AQ=true) (h3:Dt (A7 p)=true):Ld (AP p):=by
 have hl:(AP p).parents.length=p.AQ.length:=by simp[AP,A7]
 refine⟨by omega,JP (Dy h3),fun c hc=>?_,?_⟩
 ·have:=F3 hc
  rw[hl];omega
 ·have:=(FO _ _ h2).1
  simp only[AP,Cc];omega
theorem Ys (p : Prog):Pure Tryz.prog 93 [.a (BK p)] (.b (BI p)):=by
 refine Pure.fit (by kernel_rfl) fun hf=>?_
 have F:=MY hf.1;have hcl:=F.1;have hM:=Mx;refine qC nb ?_
 conv=>whnf
 repeat'((first|apply st|(apply sq;intro K U)|(apply si;intro A B Y Z)|(apply Y;clear Z B Y A)|(apply U;clear U K)|refine⟨rfl,?_⟩|(constructor<;>intro hc<;>(try rw[hc])<;>(replace hc:=bp hc)<;>(try simp(disch:=omega) only[BE,wrap64,AL]at hc))|clear U K)<;>conv=>whnf)
 ·exact AI (by simp[BI];intros;omega)
 have h10:p.AQ.length≤10:=by omega
 refine B4 p.AQ.length (fun k (n:Int)=>[(3,eI n),(4,eI (A6 k))]) (fun _ _=>[]) (fun k n=>Cp 0 p.AQ=Cp n (p.AQ.drop k)∧0≤n∧n+Bx (p.AQ.drop k)=Bx p.AQ∧n≤4*k) 0 rfl (by simp) Sat.nil ?_;rintro k n σ hk ⟨hn,hn0,hn1,hn2⟩ hs
 conv=>whnf
 repeat'((first|apply st|(apply sq;intro K U)|(apply si;intro A B Y Z)|(apply Y;clear Z B Y A)|(apply U;clear U K)|refine⟨rfl,?_⟩|refine⟨nb,?_⟩|refine ix ?_|(refine fc (fun x hx hlt hc=>?_) (fun hk hc=>?_)<;>(try rw[hc])<;>clear hc)|refine Pure.use (cH _ (by omega)) ?_|refine Pure.use (fK _ _) ?_|(constructor<;>intro hc<;>(try rw[hc])<;>(replace hc:=bp hc)<;>(try simp(disch:=omega) only[BE,wrap64,AL]at hc))|clear U K)<;>conv=>whnf)
 ·exact AI (by simp only[BI];rw[hn,drop_cons hx,Cp];simp;intros;omega)
 ·have hms:n+(x.AT.length:Int)+Bx (p.AQ.drop (k+1))=Bx p.AQ:=by
   rw[drop_cons hx]at hn1;simp only[Bx,FC,List.sum_cons]at hn1 ⊢;omega
  have hsl:=(F.2 x (B2 hx)).2.1
  have hn':Cp 0 p.AQ=(KU n x.AT&&Cp (n+x.AT.length) (p.AQ.drop (k+1))):=by
   have a1:x.AT.length≤4:=by omega
   have a2:x.parents.length≤3:=by omega
   rw[hn,drop_cons hx,Cp];simp only[a1,a2,decide_true,Fm]
  revert x
  rintro c hx hcs h3 hms hsl hn';refine B4 c.AT.length (fun j (m:Int)=>[(3,eI m),(6,eI (A6 j))]) (fun _ _=>[]) (fun j m=>Cp 0 p.AQ=(KU m (c.AT.drop j)&&Cp (n+c.AT.length) (p.AQ.drop (k+1)))∧m=n+j) n rfl ⟨hn',by simp⟩ Sat.nil ?_;rintro j m σ hj ⟨hm,he⟩ hs
  conv=>whnf
  repeat'((first|apply st|(apply sq;intro K U)|(apply si;intro A B Y Z)|(apply Y;clear Z B Y A)|(apply U;clear U K)|refine⟨rfl,?_⟩|refine ix ?_|(refine fc (fun x hx hlt hc=>?_) (fun hk hc=>?_)<;>(try rw[hc])<;>clear hc)|(constructor<;>intro hc<;>(try rw[hc])<;>(replace hc:=bp hc))|clear U K)<;>conv=>whnf)
  ·exact AI (by simp only[BI];rw[hm,drop_cons (by assumption),KU];simp[hc])
  ·refine⟨hlt,_,rfl,⟨?_,?_⟩,hs⟩
   ·rw[hm,drop_cons (by assumption),KU,wrap64 (by omega) (by omega)];simp[hc]
   ·rw[wrap64 (by omega) (by omega)];omega
  ·refine⟨by assumption,m,rfl,⟨?_,by omega,by omega,by omega⟩,hs⟩
   rw[hm,Al (by assumption),KU,Fm,he];congr 1;omega
 ·exact AI (by simp only[BI];rw[hn,drop_cons hx,Cp];simp;intros;omega)
 ·have hne:n=Bx p.AQ:=by rw[Al hk]at hn1;simpa[Bx]using hn1
  exact AI (by simp only[BI];rw[hc];simp)
 ·have hne:n=Bx p.AQ:=by rw[Al hk]at hn1;simpa[Bx]using hn1
  have hsb:Cp 0 p.AQ=true:=by rw[hn,Al hk];rfl
  have hms:=(FO _ _ hsb).1;have hok:=Od h10 hsb hc
  have hcb:BI p=GH (AP p) n 0 p.AQ:=by
   simp only[BI,hsb,hc,←hne];simp[*]
  refine(Rb p F (by omega) (by omega)).use ?_
  conv=>whnf
  repeat'((first|apply st|(apply sq;intro K U)|(apply si;intro A B Y Z)|(apply Y;clear Z B Y A)|(apply U;clear U K)|refine sn fun σ hs=>?_|(intro nn hnn;generalize hg:BC _ nn _=σ;refine al hg fun hs=>?_;clear hg)|fail)<;>conv=>whnf)
  refine B4 p.AQ.length (fun k (_:Unit)=>[(9,eI (A6 k))]) (fun _ _=>[.box nn (A2 (AP p))]) (fun k _=>BI p=GH (AP p) n k (p.AQ.drop k)) () rfl (by rw[hcb];rfl) hs ?_;rintro k - σ hk hn hs
  conv=>whnf
  repeat'((first|apply st|(apply sq;intro K U)|(apply si;intro A B Y Z)|(apply Y;clear Z B Y A)|(apply U;clear U K)|refine⟨rfl,?_⟩|(refine fc (fun x hx hlt hc=>?_) (fun hk hc=>?_)<;>(try rw[hc])<;>clear hc)|clear U K)<;>conv=>whnf)
  ·have e3 : IntKind.i64.wrap (A6 k+3)=(k:Int)+3:=by rw[AL (by omega),wrap64 (by omega) (by omega)]
   rw[e3];have hgl:(A7 p).length=p.AQ.length:=by simp[A7]
   refine(jm (A7 p) false ((k:Int)+3) (Dy hc) (by omega) (by omega)).use ?_
   conv=>whnf
   repeat'((first|apply st|(apply sq;intro K U)|(apply si;intro A B Y Z)|(apply Y;clear Z B Y A)|(apply U;clear U K)|refine ix ?_|(constructor<;>intro hc<;>(try rw[hc])<;>(replace hc:=bp hc))|clear U K)<;>conv=>whnf)
   ·have hlb:dc (AP p).parents ((k:Int)+3)=false:=by
     show(!((B9 (A7 p)).getD ((k:Int)+3).toNat []).isEmpty)=false;rw[hc];rfl
    exact AI (by rw[hn,drop_cons hx,GH,hlb];rfl)
   ·have hil:=(F.2 x (B2 hx)).2.2
    have hn':BI p=(EK (AP p) ((k:Int)+3) n [] x.inits&&GH (AP p) n (k+1) (p.AQ.drop (k+1))):=by
     have hlb:dc (AP p).parents ((k:Int)+3)=true:=by
      show(!((B9 (A7 p)).getD ((k:Int)+3).toNat []).isEmpty)=true;rw[hc];rfl
     rw[hn,drop_cons hx,GH,hlb];rfl
    revert x
    rintro c hx hil hn';refine B4 c.inits.length (fun j (_:Unit)=>[(14,eI (A6 j))]) (fun _ _=>[.box nn (A2 (AP p))]) (fun j _=>BI p=(EK (AP p) ((k:Int)+3) n (c.inits.take j) (c.inits.drop j)&&GH (AP p) n (k+1) (p.AQ.drop (k+1)))) () rfl (by rw[hn'];rfl) hs ?_;rintro j - σ hj hm hs
    conv=>whnf
    repeat'((first|apply st|(apply sq;intro K U)|(apply si;intro A B Y Z)|(apply Y;clear Z B Y A)|(apply U;clear U K)|apply dr|refine⟨rfl,?_⟩|refine⟨nb,?_⟩|refine ix ?_|refine ld ?_|(refine fc (fun x hx hlt hc=>?_) (fun hk hc=>?_)<;>(try rw[hc])<;>clear hc)|(constructor<;>intro hc<;>(try rw[hc])<;>(replace hc:=bp hc))|clear U K)<;>conv=>whnf)
    ·refine(jy (AP p) ((k:Int)+3) x.1 hok (by omega) (by rw[show(AP p).parents=A7 p from rfl];omega) (by omega) (by rw[show(AP p).owner=BY 0 p.AQ from rfl,Cc];omega)).use ?_
     conv=>whnf
     repeat'((first|apply st|(apply sq;intro K U)|(apply si;intro A B Y Z)|(apply Y;clear Z B Y A)|(apply U;clear U K)|apply dr|refine ix ?_|refine Pure.use (gb _) ?_|(constructor<;>intro hc<;>(try rw[hc])<;>(replace hc:=bp hc))|clear U K)<;>conv=>whnf)
     ·exact AI (by rw[hm,drop_cons hx,EK];simp[*])
     ·have hm':BI p=((c.inits.take j).all (fun y=>y.1 != x.1)&&(EK (AP p) ((k:Int)+3) n (c.inits.take (j+1)) (c.inits.drop (j+1))&&GH (AP p) n (k+1) (p.AQ.drop (k+1)))):=by
       have b1:decide (0≤x.1)=true:=decide_eq_true (by assumption);have b2:decide (x.1<n)=true:=decide_eq_true (by assumption);rw[hm,drop_cons hx,EK,AR hx,b1,b2,‹hasB _ _ _=true›,hc];simp only[Fm,Bool.and_assoc]
      revert x
      rintro x hxj hx0 hx1 hhb hbt hm';refine B4 j (fun i (_:Unit)=>[(15,eI (A6 i))]) (fun _ _=>[.box nn (A2 (AP p))]) (fun i _=>BI p=(((c.inits.take j).drop i).all (fun y=>y.1 != x.1)&&(EK (AP p) ((k:Int)+3) n (c.inits.take (j+1)) (c.inits.drop (j+1))&&GH (AP p) n (k+1) (p.AQ.drop (k+1))))) () rfl (by rw[hm'];rfl) hs ?_;rintro i - σ hi hl hs;rcases Nat.lt_or_ge i j with hij|hij
      ·obtain⟨y,hy⟩: ∃y,c.inits[i]? =some y:=⟨_,Cu (by omega)⟩
       have hy':(c.inits.take j)[i]? =some y:=by rw[List.getElem?_take,if_pos hij,hy]
       conv=>whnf
       repeat'((first|apply st|(apply sq;intro K U)|(apply si;intro A B Y Z)|(apply Y;clear Z B Y A)|(apply U;clear U K)|apply dr|refine⟨rfl,?_⟩|refine ix ?_|(constructor<;>intro hc<;>(try rw[hc])<;>(replace hc:=bp hc)<;>(try simp(disch:=omega) only[BE,wrap64,AL]at hc)<;>try(exfalso;omega))|clear U K)<;>conv=>whnf)
       ·exact AI (by rw[hl,drop_cons hy',NA,hc];simp)
       ·refine⟨hij,(),rfl,?_,hs⟩
        have hc':(y.1 != x.1)=true:=by simpa using hc
        rw[hl,drop_cons hy',NA,hc',Fm]
      ·conv=>whnf
       repeat'((first|apply st|(apply sq;intro K U)|(apply si;intro A B Y Z)|(apply Y;clear Z B Y A)|(apply U;clear U K)|refine⟨rfl,?_⟩|(constructor<;>intro hc<;>(try rw[hc])<;>(replace hc:=bp hc)<;>(try simp(disch:=omega) only[BE,wrap64,AL]at hc)<;>try(exfalso;omega))|clear U K)<;>conv=>whnf)
       refine⟨by assumption,(),rfl,?_,hs⟩;rw[hl,List.drop_of_length_le (by rw[LW];omega),List.all_nil,Fm]
     ·exact AI (by rw[hm,drop_cons hx,EK];simp[*])
    ·exact AI (by rw[hm,drop_cons hx,EK];simp;intros;omega)
    ·exact AI (by rw[hm,drop_cons hx,EK];simp;intros;omega)
    ·refine⟨by assumption,(),rfl,?_,hs⟩
     rw[hm,Al hk,EK,Fm]
  ·exact AI (by rw[hn,Al hk];rfl)
 ·have hne:n=Bx p.AQ:=by rw[Al hk]at hn1;simpa[Bx]using hn1
  exact AI (by simp only[BI];rw[←hne];simp[hc])
def Fe (f:Int→Int→List Int→Option (List Int)) (op size:Int):Nat→List Int→List Int→Option (List Int)
 | _,[],s=>some s
 | i,k::r,s=>match f k (if op=9∧i=1 then size+1 else size) s with
   | none=>none
   | some s'=>Fe f op size (i+1) r s'
def EG (p:Prog) (next:Bool) (size:Int) (x:Node):Bool:=((x.kids.length:Int)==It p x)&&(Lh p x size&&(x.op != 18||next))
def CQ (p:Prog) (next:Bool):Nat→Int→Int→List Int→Option (List Int)
 | 0,_,_,_=>none
 | d+1,n,size,s=>
   if n<0∨(p.nodes.length:Int)≤n∨0≤s.getD n.toNat 0 then none else
   match p.nodes[n.toNat]? with
   | none=>none
   | some x=>if EG p next size x then Fe (CQ p next d) x.op size 0 x.kids (s.set n.toNat size)else none
def Sy (v:V) (s:List Int) (o:Option (List Int)) (r:R) (post:List At):Prop:=
 ∃s':List Int,s'.length=s.length∧post= [.own v 1 (iL s')]∧((o=some s'∧r= .ret (.b true))∨(o=none∧r= .ret (.b false)))
theorem Nu {v:V} {s s':List Int} {o:Option (List Int)} {σ:AH} {rest:List At} (hs:Sat σ (.own v 1 (iL s')::rest)) (hl:s'.length=s.length) (ho:o=none):A4 σ (.b false) fun r σ'=> ∃post,Sy v s o r post∧Sat σ' post:=
 Ao hs (.cons₂ _ (MR _)) (.refl _) fun σ' hs'=>⟨_,⟨s',hl,rfl,.inr ⟨ho,rfl⟩⟩,hs'⟩
theorem Z6 {p:Prog} (h:FD (.a (BK p))) {x:Node} (hx:x∈p.nodes):x.kids.length≤Ad:=by
 simp only[BK,G0,DZ,Fq,I3]at h
 have h2:Hk (Iu x):=by
  first|exact h.2.2.2.2.1.2 x hx|exact h.2.2.2.2.2.1.2 x hx|exact h.2.2.2.1.2 x hx|exact h.2.2.1.2 x hx|exact h.2.1.2 x hx
 simp only[Iu,DZ,Fq,BE]at h2
 first|exact h2.2.2.1.1|exact h2.2.2.1|exact h2.1
theorem NF {p:Prog} {next:Bool} {d:Nat} {n size:Int} {s:List Int} {x:Node} {y:Int} (h0:0≤n) (h1:n<(p.nodes.length:Int)) (hs:s[n.toNat]? =some y) (hy:y<0) (hx:p.nodes[n.toNat]? =some x) :
 CQ p next (d+1) n size s=if EG p next size x then Fe (CQ p next d) x.op size 0 x.kids (s.set n.toNat size)else none:=by
 have e:s.getD n.toNat 0=y:=by rw[DL,hs];rfl
 simp only[CQ];rw[if_neg (by rw[e];omega),hx]
theorem L0 {p:Prog} {next:Bool} {d:Nat} {n size:Int} {s:List Int} (h:n<0∨(p.nodes.length:Int)≤n∨0≤s.getD n.toNat 0):CQ p next (d+1) n size s=none:=by
 simp only[CQ];rw[if_pos h]
set_option maxHeartbeats 4000000 in
theorem Zj (p : Prog) (next:Bool): ∀d:Nat,d≤12→ ∀(n size depth:Int) (s:List Int) (v:V),depth=13 - d→0≤size→size+d≤100→s.length=p.nodes.length→(B6 v).isSome=true→
 Bh Tryz.prog 96 [.a (BK p),eI n,eI size,eI depth,.b next,v] [.own v 1 (iL s)] (Sy v s (CQ p next d n size s)):=by
 intro d
 induction d with
 | zero=>
   intro _ n size depth s v hd h0 h1 hl hv σ hs;refine BL.fit (by kernel_rfl) fun hf=>?_
   have⟨p1,p2,p3,p4⟩:=GG hf.1;have hM:=Mx;refine gj nb ?_
   conv=>whnf
   repeat'((first|apply st|(apply sq;intro K U)|(apply si;intro A B Y Z)|(apply Y;clear Z B Y A)|(apply U;clear U K)|refine⟨rfl,?_⟩|refine oi ?_|refine ol fun x hx=>?_|(constructor<;>intro hc<;>(try rw[hc])<;>(replace hc:=bp hc)<;>(try simp(disch:=omega) only[BE,wrap64,AL]at hc)<;>try(exfalso;omega))|clear U K)<;>conv=>whnf)
   all_goals exact Ao hs (.refl _) (.refl _) fun σ' hs'=>⟨_,⟨s,rfl,rfl,.inr ⟨rfl,rfl⟩⟩,hs'⟩
 | succ d ih =>
   intro hd12 n size depth s v hd h0 h1 hl hv σ hs;refine BL.fit (by kernel_rfl) fun hf=>?_
   have⟨p1,p2,p3,p4⟩:=GG hf.1;have hM:=Mx;refine gj nb ?_
   conv=>whnf
   repeat'((first|apply st|(apply sq;intro K U)|(apply si;intro A B Y Z)|(apply Y;clear Z B Y A)|(apply U;clear U K)|apply dr|refine rk ?_ ?_|exact fun s e=>by cases e;rfl|refine⟨rfl,?_⟩|refine⟨nb,?_⟩|refine iq fun x hx=>?_|refine ld ?_|refine sn fun σ hs=>?_|refine oi ?_|refine ol fun x hx=>?_|refine oset fun σ hs=>?_|refine Pure.use (fC _ _) ?_|refine Pure.use (YC _ _ _) ?_|(constructor<;>intro hc<;>(try rw[hc])<;>(replace hc:=bp hc)<;>(try simp(disch:=omega) only[BE,wrap64,AL]at hc)<;>try(exfalso;omega))|(intro nn hnn;generalize hg:BC _ nn _=σ;refine al hg fun hs=>?_;clear hg)|clear U K)<;>conv=>whnf)
   ·exact Nu hs (by simp) (by rw[NF (by assumption) (by assumption) (by assumption) (by assumption) hx];simp[EG, *])
   rotate_left
   ·cases hc
   rotate_left
   ·exact Nu hs (by simp) (by rw[NF (by assumption) (by assumption) (by assumption) (by assumption) hx];simp[EG, *])
   ·exact Nu hs (by simp) (by rw[NF (by assumption) (by assumption) (by assumption) (by assumption) hx];simp[EG, *])
   ·exact Nu hs rfl (L0 (.inr (.inr (by rw[DL,hx];exact hc))))
   ·exact Nu hs rfl (L0 (.inr (.inl hc)))
   ·exact Nu hs rfl (L0 (.inl hc))
   all_goals
    have hW:CQ p next (d+1) n size s=Fe (CQ p next d) x.op size 0 x.kids (s.set n.toNat size):=by
     rw[NF (by assumption) (by assumption) (by assumption) (by assumption) hx];simp[EG, *]
    rw[hW]
    rename Node=>nd
    refine B4 nd.kids.length (fun k (_:List Int)=>[(14,eI (A6 k))]) (fun _ s'=>[.own v 1 (iL s'),.obj nn (.cs (Iu nd))]) (fun k s'=>s'.length=s.length∧Fe (CQ p next d) nd.op size 0 nd.kids (s.set n.toNat size)=Fe (CQ p next d) nd.op size k (nd.kids.drop k) s') (s.set n.toNat size) rfl ⟨by simp,by simp⟩ hs ?_;clear hs;rintro k s' σ hk ⟨hl',hkids⟩ hs;have hkm:=Z6 hf.1 (B2 hx);have hck:A6 k=k:=AL (by omega);by_cases hlt:k<nd.kids.length
    ·obtain⟨kid,hkid⟩: ∃kid,nd.kids[k]? =some kid:=⟨_,Cu hlt⟩
     have hrec:=fun kid sz h0 h1=>ih (by omega) kid sz (depth+1) s' v (by omega) h0 h1 (by omega) hv
     conv=>whnf
     repeat'((first|apply st|(apply sq;intro K U)|(apply si;intro A B Y Z)|(apply Y;clear Z B Y A)|(apply U;clear U K)|apply dr|refine⟨rfl,?_⟩|refine⟨nb,?_⟩|refine ix ?_|refine ld ?_|(refine fc (fun x hx hlt hc=>?_) (fun hk hc=>?_)<;>(try rw[hc])<;>clear hc)|(constructor<;>intro hc<;>(try rw[hc])<;>(replace hc:=bp hc)<;>(try simp(disch:=omega) only[BE,wrap64,AL]at hc)<;>try(exfalso;omega))|clear U K)<;>conv=>whnf)
     all_goals try(exfalso;omega)
     all_goals try refine Io (enc:=fun i:Int=>[V.i .i64 i]) hkid hkm rfl ?_
     conv=>whnf
     all_goals try(exfalso;omega)
     all_goals
      have hK2:=hkids;rw[drop_cons hx,Fe]at hK2
      first
       | rw[if_pos (by omega)]at hK2
         rw[wrap64 (by omega) (by omega),wrap64 (by omega) (by omega)];refine(hrec x (size+1) (by omega) (by omega)).use hs ?_
       | rw[if_neg (by omega)]at hK2
         rw[wrap64 (by omega) (by omega)];refine(hrec x size (by omega) (by omega)).use hs ?_
      rintro r post σ' ⟨s2,hl2,rfl,⟨ho,rfl⟩|⟨ho,rfl⟩⟩ hs
      ·rw[ho]at hK2
       conv=>whnf
       repeat'((first|apply st|(apply sq;intro K U)|(apply si;intro A B Y Z)|(apply Y;clear Z B Y A)|(apply U;clear U K)|apply dr|refine⟨rfl,?_⟩|(constructor<;>intro hc<;>(try rw[hc])<;>(replace hc:=bp hc)<;>(try simp(disch:=omega) only[BE,wrap64,AL]at hc))|clear U K)<;>conv=>whnf)
       all_goals first|(exfalso;cases hc;done)|exact⟨hlt,s2,rfl,⟨by omega,hK2⟩,hs⟩
      ·rw[ho]at hK2
       conv=>whnf
       repeat'((first|apply st|(apply sq;intro K U)|(apply si;intro A B Y Z)|(apply Y;clear Z B Y A)|(apply U;clear U K)|apply dr|refine⟨rfl,?_⟩|(constructor<;>intro hc<;>(try rw[hc])<;>(replace hc:=bp hc)<;>(try simp(disch:=omega) only[BE,wrap64,AL]at hc))|clear U K)<;>conv=>whnf)
       all_goals first|exact Nu hs (by omega) hK2|(exfalso;cases hc;done)
    ·have hke:k=nd.kids.length:=by omega
     conv=>whnf
     repeat'((first|apply st|(apply sq;intro K U)|(apply si;intro A B Y Z)|(apply Y;clear Z B Y A)|(apply U;clear U K)|refine⟨rfl,?_⟩|refine ld ?_|(refine fc (fun x hx hlt hc=>?_) (fun hk hc=>?_)<;>(try rw[hc])<;>clear hc)|(constructor<;>intro hc<;>(try rw[hc])<;>(replace hc:=bp hc)<;>try(exfalso;omega))|clear U K)<;>conv=>whnf)
     all_goals try(exfalso;omega)
     rw[hke,Al rfl]at hkids;exact Ao hs (.cons₂ _ (MR _)) (.refl _) fun σ' hs'=>⟨_,⟨s',hl',rfl,.inl ⟨(by first|rw[hW,hkids,Fe]|rw[hkids,Fe]),rfl⟩⟩,hs'⟩
end Go.Gl
namespace Go.Gl
variable {P:Program} {σ:AH} {env:Env}
theorem xc {xs:List Fact} {f:Bool} {K:V→Prop} {ki:IntKind} {j:Int} (h: ∀x,xs[j.toNat]? =some x→K (.rp (xF x))) (h0:0≤j:=by omega) (h1:j<xs.length:=by omega):AW 6 none (.l (xs.map Fv) f) (.i ki j) K:=by
 refine iq (fun x hx=>?_) h0 h1 (by intro x;rw[Bd];rfl);rw[Bd];exact h x hx
theorem lo {l:List At} {i:Nat} {v:V} {sz:Nat} {es:List (List V)} {K:V→Prop} (hk:K (.i .i64 es.length)) (h:Sat σ l:=by assumption)
 (hi:l[i]? =some (.own v sz es):=by first|exact Pw|exact Pv|exact Pu|exact Pt|exact Ps|exact Pr) (hm:es.length≤Ad:=by first|omega|(simp only[BE,List.length_replicate,List.length_set,Ad]at *;omega)):BF v K:=pE h i hi hm hk
theorem u9 {α:Type} {enc:α→List V} {xs:List α} {f:Bool} {sz:Nat} {ki:IntKind} {j:Int} {K:V→AH→Prop} (h:K (.l ((xs.take j.toNat).map enc) (f&&decide (j=((xs.map enc).length:Nat)))) σ) (h0:0≤j:=by omega) (h1:j≤xs.length:=by first|omega|(simp only[BE]at *;omega)) (hs: ∀x,(enc x).length=sz:=by intro x;first|rfl|simp|(rw[Bd];rfl)) :
 AV σ sz (.l (xs.map enc) f) none (some (.i ki j)) none K:=by
 refine⟨fun e he=>?_,?_⟩
 ·obtain⟨x,_,rfl⟩:=Lc.1 he
  exact hs x
 ·simp only[ND,BE]
  refine⟨by omega,by omega,by omega,?_⟩;simpa[List.map_take]using h
theorem Sat.take {l:List At} (h:Sat σ l) (n:Nat):Sat σ (l.take n):=h.less (List.take_sublist _ _)
theorem CH {b:Bool} {σ σ':AH}:Gq σ σ' (.l [] b) (.l [] false):= .l (fun h=>by cases h) .nil
theorem Nr {b:Bool} {σ σ':AH} {es:List (List V)}:Gq σ σ' (.l es b) (.l es false):= .l (fun h=>by cases h) (Fo.refl _ _ _)
mutual
theorem Q5 {σ σ':AH}: ∀vs:List V,Dq σ σ' vs vs
 | []=> .nil
 | v::r=> .cons (.refl v) (Q5 r)
end
theorem Et {σ σ':AH}: ∀es:List (List V),Fo σ σ' es es
 | []=> .nil
 | e::r=> .cons (Q5 e) (Et r)
theorem dS {α:Type} {enc:α→List V} {xs:List α} {y:α} {l:List At} {i:Nat} {v x:V} {sz k:Nat} {vc:List V} {K:AH→Prop} (hk: ∀σ',Sat σ' (l.set i (.own v sz ((xs.set k y).map enc)))→K σ') (h:Sat σ l:=by assumption)
 (hi:l[i]? =some (.own v sz (xs.map enc)):=by first|exact Pw|exact Pv|exact Pu|exact Pt|exact Ps|exact Pr) (hc:cellsOf x=some vc:=by rfl) (he:vc=enc y:=by rfl) (hg:EP enc sz:=by first|exact Bq|exact DJ|exact NR|exact J0|exact Km)
 (hv:(B6 v).isSome=true:=by rfl) (h1:k<xs.length:=by first|omega|(simp only[BE]at *;omega)):AX σ sz (Fu v sz k) x K:=oset hk h hi hc he hg hv h1
theorem BH {α:Type} (xs:List α) {k:Nat} (hk:k≤xs.length):(∃x,xs[k]? =some x∧k<xs.length)∨k=xs.length:=by
 rcases Nat.lt_or_ge k xs.length with h|h
 ·exact .inl ⟨_,Cu h,h⟩
 ·exact .inr (by omega)
theorem CS {α:Type} {enc:α→List V} {xs:List α} {k:Nat} {x:α} {A B:Prop} (h1:decide (A6 k<((xs.map enc).length:Nat))=true→A) (hx:xs[k]? =some x:=by assumption) (hm:xs.length≤Ad:=by first|assumption|omega|simp[Ad]<;>omega) :
 (decide (A6 k<((xs.map enc).length:Nat))=true→A)∧(decide (A6 k<((xs.map enc).length:Nat))=false→B):=by
 refine⟨h1,fun h=>?_⟩;have hlt:=(Hi.1 hx).1;rw[AL (by omega),BE]at h;have:=of_decide_eq_false h;omega
theorem Dh {α:Type} {enc:α→List V} {xs:List α} {k:Nat} {A B:Prop} (h1:decide (A6 k<((xs.map enc).length:Nat))=false→B) (hx:k=xs.length:=by assumption) (hm:xs.length≤Ad:=by first|assumption|omega|simp[Ad]<;>omega) :
 (decide (A6 k<((xs.map enc).length:Nat))=true→A)∧(decide (A6 k<((xs.map enc).length:Nat))=false→B):=by
 refine⟨fun h=>?_,h1⟩;rw[AL (by omega),BE]at h;have:=of_decide_eq_true h;omega
theorem F6 {α:Type} {enc:α→List V} {xs:List α} {f:Bool} {sz:Nat} {K:V→Prop} {ki:IntKind} {j:Int} {x:α} (h:K (.rp (enc x))) (hx:xs[j.toNat]? =some x:=by assumption) (h0:0≤j:=by omega) (hs:(enc x).length=sz:=by first|rfl|simp|(rw[Bd];rfl)) :
 AW sz none (.l (xs.map enc) f) (.i ki j) K:=Se j.toNat hx (by omega) hs h
theorem Nd {xs:List Fact} {f:Bool} {K:V→Prop} {ki:IntKind} {j:Int} {x:Fact} (h:K (.rp (xF x))) (hx:xs[j.toNat]? =some x:=by assumption) (h0:0≤j:=by omega):AW 6 none (.l (xs.map Fv) f) (.i ki j) K:=by
 refine F6 ?_ hx h0;rw[Bd];exact h
class CB (b:Bool) (v:outParam Bool):Prop where
 h:b=v
instance :CB true true:=⟨rfl⟩
instance :CB false false:=⟨rfl⟩
instance {b:Bool} [i:CB b true]:CB (!b) false:=⟨by rw[i.h];rfl⟩
instance {b:Bool} [i:CB b false]:CB (!b) true:=⟨by rw[i.h];rfl⟩
instance {b x y v:Bool} [i:CB b true] [j:CB x v]:CB (bif b then x else y) v:=⟨by rw[i.h,j.h];rfl⟩
instance {b x y v:Bool} [i:CB b false] [j:CB y v]:CB (bif b then x else y) v:=⟨by rw[i.h,j.h];rfl⟩
instance {a b:Bool} [i:CB a true] [j:CB b true]:CB (a==b) true:=⟨by rw[i.h,j.h];rfl⟩
instance {a b:Bool} [i:CB a true] [j:CB b false]:CB (a==b) false:=⟨by rw[i.h,j.h];rfl⟩
instance {a b:Bool} [i:CB a false] [j:CB b true]:CB (a==b) false:=⟨by rw[i.h,j.h];rfl⟩
instance {a b:Bool} [i:CB a false] [j:CB b false]:CB (a==b) true:=⟨by rw[i.h,j.h];rfl⟩
instance {a b:Bool} [i:CB a true] [j:CB b true]:CB (a != b) false:=⟨by rw[i.h,j.h];rfl⟩
instance {a b:Bool} [i:CB a true] [j:CB b false]:CB (a != b) true:=⟨by rw[i.h,j.h];rfl⟩
instance {a b:Bool} [i:CB a false] [j:CB b true]:CB (a != b) true:=⟨by rw[i.h,j.h];rfl⟩
instance {a b:Bool} [i:CB a false] [j:CB b false]:CB (a != b) false:=⟨by rw[i.h,j.h];rfl⟩
theorem E0 {A B:Prop} {b:Bool} [i:CB b true] (h:A):(b=true→A)∧(b=false→B):=⟨fun _=>h,fun e=>(by rw[i.h]at e;cases e)⟩
theorem D2 {A B:Prop} {b:Bool} [i:CB b false] (h:B):(b=true→A)∧(b=false→B):=⟨fun e=>(by rw[i.h]at e;cases e),fun _=>h⟩
theorem RI {A B:Prop} {b:Bool} [i:CB b true] (h:B):(b=false→A)∧(b=true→B):=⟨fun e=>(by rw[i.h]at e;cases e),fun _=>h⟩
theorem Ig {A B:Prop} {b:Bool} [i:CB b false] (h:A):(b=false→A)∧(b=true→B):=⟨fun _=>h,fun e=>(by rw[i.h]at e;cases e)⟩
theorem xa {l:List At} {i:Nat} {v:V} {sz:Nat} {es:List (List V)} {ki:IntKind} {j:Int} {K:V→Prop} (hk:K (Fu v sz j.toNat)) (h:Sat σ l:=by assumption)
 (hi:l[i]? =some (.own v sz es):=by first|exact Pw|exact Pv|exact Pu|exact Pt|exact Ps|exact Pr) (h0:0≤j:=by omega) (h1:j<es.length:=by(simp only[BE,List.length_set];omega)):AW sz none v (.i ki j) K:=
 dJ h i j.toNat hi (by omega) (by omega) hk
theorem NX {α:Type} {enc:α→List V} {xs:List α} {x:α} {l:List At} {i:Nat} {v:V} {sz k:Nat} {agg:Option Nat} {K:V→Prop} (hk:cut agg (enc x) 0 K) (h:Sat σ l:=by assumption)
 (hi:l[i]? =some (.own v sz (xs.map enc)):=by first|exact Pw|exact Pv|exact Pu|exact Pt|exact Ps|exact Pr) (hx:xs[k]? =some x:=by assumption):Ac σ agg (Fu v sz k) K:=
 Hv h i hi (by rw[LZ,hx];rfl) hk
theorem pA {xs:List Fact} {x:Fact} {l:List At} {i:Nat} {v:V} {k:Nat} {agg:Option Nat} {K:V→Prop} (hk:cut agg (xF x) 0 K) (h:Sat σ l:=by assumption)
 (hi:l[i]? =some (.own v 6 (facts xs)):=by first|exact Pw|exact Pv|exact Pu|exact Pt|exact Ps|exact Pr) (hx:xs[k]? =some x:=by assumption):Ac σ agg (Fu v 6 k) K:=
 Hv h i hi (by rw[LZ,hx];exact congrArg some (Bd x)) hk
theorem ZU {v:V} (h:(B6 v).isSome=true): ∃n l c,v= .sl n l c:=by
 cases v<;>first|(cases h;done)|exact⟨_,_,_,rfl⟩
theorem xU {l:List At} {i:Nat} {xs:List Fact} {x:Fact} {v:V} {f:Bool} {e:List V} {K:V→AH→Prop} (hk: ∀v' σ',Sat σ' (l.set i (.own v' 6 (facts (xs++[x]))))→(B6 v').isSome=true→K v' σ') (h:Sat σ l:=by assumption)
 (hi:l[i]? =some (.own v 6 (facts xs)):=by first|exact Pw|exact Pv|exact Pu|exact Pt|exact Ps|exact Pr)
 (he:e=xF x:=by rfl)
 {b:Nat} (hl:xs.length<Ad∧(xs.length+1)*b≤140737488355328:=by first|assumption|omega|(simp only[PT,BE,LX,List.length_nil,LW,iF,List.length_replicate,Ad]at *;omega)):AM b σ 6 v (.l [e] f) K:=
 GO (Ft h i hi hl J0 hk (by rw[he,Bd]))
end Go.Gl
namespace Go.Gl
open Go.Proofs
attribute [local irreducible] BL A4 Aj AW AM Ai AV AX AN Ah AS AU A8 BJ Sat Ac BF Ak W
theorem Oy {w:AK} (f:Fact):Bi w f=true→Nw f=true:=by
 induction f using Fact.ind with
 | h f ih=>
   intro h;rw[Cg]at h;simp only[DC,BZ,Em,CX]at h;rw[LF];simp only[BZ,CX,List.all_map,Em,Function.comp_apply,id];exact⟨⟨h.1.2.2.1,h.1.2.2.2.1⟩,fun k hk=>ih k hk (h.2 k hk)⟩
def NY (p:Prog) (m:M4):Bool:=decide (1≤m.kind)&&(decide (m.kind≤4)&&(decide (0≤m.gen)&&(decide (m.gen<(p.DA.length:Int))&&(Ce (AP p) m.fact&&decide (DM m.fact≤p.DA.getD m.gen.toNat 0)))))
def runM (p:Prog):List M4→List Int→Option (List Int)
 | [],s=>some s
 | m::r,s=>if NY p m then match CQ p (Jc m.kind) 12 m.node (p.DA.getD m.gen.toNat 0) s with
   | none=>none
   | some s'=>runM p r s' else none
def Cw (p:Prog):Bool:=BI p&&(decide (p.DA.length≤8)&&(decide (p.methods.length≤16)&&(decide (1≤p.nodes.length)&&(decide (p.nodes.length≤120)&&p.DA.all fun g=>decide (1≤g)&&decide (g≤3)))))
def BO (p:Prog):Option (List Int):=if Cw p then match runM p p.methods (List.replicate p.nodes.length (-1))with
 | none=>none
 | some s=>match CQ p false 12 p.main 0 s with
   | none=>none
   | some s=>if s.all fun n=>decide (0≤n)then some s else none else none
def Jd (p:Prog):Option (List Int)→Option (List Int)
 | none=>none
 | some s=>match CQ p false 12 p.main 0 s with
   | none=>none
   | some s=>if s.all fun n=>decide (0≤n)then some s else none
def MU (p:Prog):V:=match BO p with
 | none=> .t [.l [] true,.b false]
 | some s=> .t [.l (iL s) false,.b true]
theorem gX {p:Prog} (h:BO p=none):MU p= .t [.l [] true,.b false]:=by simp only[MU,h]
theorem pb {p:Prog} (h:Cw p=false):MU p= .t [.l [] true,.b false]:=gX (by unfold BO;rw[h];rfl)
theorem Ke {p:Prog} {σ:AH} (h:BO p=none):A4 σ (.t [.l [] true,.b false]) fun r σ'=>r=R.ret (MU p)∧σ'=emp:=by
 rw[gX h];exact AI rfl
theorem Nt {p:Prog} {σ:AH} (h:Cw p=false):A4 σ (.t [.l [] true,.b false]) fun r σ'=>r=R.ret (MU p)∧σ'=emp:=by
 rw[pb h];exact AI rfl
theorem Wn {p:Prog} (h:Cw p=true):BO p=Jd p (runM p p.methods (List.replicate p.nodes.length (-1))):=by
 unfold BO;rw[if_pos h];rfl
theorem DX {p:Prog} {k:Nat} {x:M4} {s:List Int} (hx:p.methods[k]? =some x) (hn:BO p=Jd p (runM p (p.methods.drop k) s)) (hok:NY p x=false):BO p=none:=by
 rw[hn,drop_cons hx,runM,if_neg (by simp[hok])];rfl
theorem QH {p:Prog} {k:Nat} {x:M4} {s:List Int} (hx:p.methods[k]? =some x) (hn:BO p=Jd p (runM p (p.methods.drop k) s)) (hok:NY p x=true) (hw:CQ p (Jc x.kind) 12 x.node (p.DA.getD x.gen.toNat 0) s=none):BO p=none:=by
 rw[hn,drop_cons hx,runM,if_pos hok,hw];rfl
theorem WU {p:Prog} {k:Nat} {x:M4} {s s':List Int} (hx:p.methods[k]? =some x) (hn:BO p=Jd p (runM p (p.methods.drop k) s)) (hok:NY p x=true) (hw:CQ p (Jc x.kind) 12 x.node (p.DA.getD x.gen.toNat 0) s=some s'):BO p=Jd p (runM p (p.methods.drop (k+1)) s'):=by
 rw[hn,drop_cons hx,runM,if_pos hok,hw]
theorem Qc {p:Prog} (h:Cw p=true) {k:Nat} {x:Int} (hx:p.DA[k]? =some x):1≤x∧x≤3:=by
 simp only[Cw,BZ,Em,CX]at h;exact h.2.2.2.2.2 x (B2 hx)
set_option maxHeartbeats 4000000 in
theorem jk (p:Prog):Pure Tryz.prog 65 [.a (BK p)] (MU p):=by
 refine Pure.fit (by kernel_rfl) fun hf=>?_
 have⟨p1,p2,p3,p4⟩:=GG hf.1;have hM:=Mx;refine qU nb ?_;have hs:=Sn
 conv=>whnf
 repeat'((first|apply st|(apply sq;intro K U)|(apply si;intro A B Y Z)|(apply Y;clear Z B Y A)|(apply U;clear U K)|refine⟨rfl,?_⟩|refine⟨nb,?_⟩|refine Pure.use (Ys _) ?_|(constructor<;>intro hc<;>(try rw[hc])<;>(replace hc:=bp hc)<;>(try simp(disch:=omega) only[BE,wrap64,AL]at hc))|clear U K)<;>conv=>whnf)
 ·exact Nt (by simp[Cw];intros;omega)
 rotate_left
 ·exact Nt (by simp[Cw];intros;omega)
 ·exact Nt (by simp[Cw];intros;omega)
 ·exact Nt (by simp[Cw];intros;omega)
 ·exact Nt (by simp[Cw, *])
 have a1:p.DA.length≤8:=by omega
 have a2:p.methods.length≤16:=by omega
 have a3:1≤p.nodes.length:=by omega
 have a4:p.nodes.length≤120:=by omega
 have hg:Cw p=p.DA.all fun g=>decide (1≤g)&&decide (g≤3):=by
  simp only[Cw,a1,a2,a3,a4,decide_true,Fm];simp[*]
 refine B4 p.DA.length (fun k (_:Unit)=>[(4,eI (A6 k))]) (fun _ _=>[]) (fun k _=>Cw p=(p.DA.drop k).all fun g=>decide (1≤g)&&decide (g≤3)) () rfl (by simpa using hg) hs ?_;clear hs;rintro k - σ hk hn hs
 conv=>whnf
 repeat'((first|apply st|(apply sq;intro K U)|(apply si;intro A B Y Z)|(apply Y;clear Z B Y A)|(apply U;clear U K)|refine⟨rfl,?_⟩|refine ix ?_|(refine fc (fun x hx hlt hc=>?_) (fun hk hc=>?_)<;>(try rw[hc])<;>clear hc)|(constructor<;>intro hc<;>(try rw[hc])<;>(replace hc:=bp hc))|clear U K)<;>conv=>whnf)
 ·exact Nt (by rw[hn,drop_cons hx];simp;intros;omega)
 ·exact⟨hlt,(),rfl,by rw[hn,drop_cons hx];simp[*],hs⟩
 ·exact Nt (by rw[hn,drop_cons hx];simp;intros;omega)
 have hh:Cw p=true:=by rw[hn,Al hk];rfl
 have F:=MY hf.1;have hcB:BI p=true:=by assumption
 have hsb:Cp 0 p.AQ=true:=by simp only[BI,BZ]at hcB;exact hcB.2.1
 have hc10:p.AQ.length≤1000:=by simp only[BI,BZ,CX]at hcB;omega
 have hmS:Bx p.AQ≤Ad:=by have:=(FO _ _ hsb).1;simp only[BI,BZ,CX]at hcB;omega
 have hL:=Wn hh;clear hn hg;refine B4 p.nodes.length (fun j v=>[(5,v),(6,eI (A6 j))]) (fun j v=>[.own v 1 (iL (List.replicate j (-1)))]) (fun j v=>1≤j→(B6 v).isSome=true) (.l [] true) rfl (fun h=>by omega) (Ey hs 1) ?_;clear hs;rintro j v σ hj hv hs
 conv=>whnf
 repeat'((first|apply st|(apply sq;intro K U)|(apply si;intro A B Y Z)|(apply Y;clear Z B Y A)|(apply U;clear U K)|refine⟨rfl,?_⟩|refine⟨nb,?_⟩|refine sn fun σ hs=>?_|refine aq fun v σ hs hsl=>?_|(refine fc (fun x hx hlt hc=>?_) (fun hk hc=>?_)<;>(try rw[hc])<;>clear hc)|refine Pure.use (Rb _ (by assumption) (by omega) (by assumption)) ?_|(intro nn hnn;generalize hg:BC _ nn _=σ;refine al hg fun hs=>?_;clear hg)|clear U K)<;>conv=>whnf)
 ·exact⟨hlt,_,rfl,fun _=>hsl,by rw[List.replicate_succ'];exact hs⟩
 have hsv:=hv (by omega);subst hk;refine B4 p.methods.length (fun k (s:List Int)=>[(8,eI (A6 k))]) (fun _ s=>[.own v 1 (iL s),.box nn (A2 (AP p))]) (fun k s=>s.length=p.nodes.length∧BO p=Jd p (runM p (p.methods.drop k) s)) (List.replicate p.nodes.length (-1)) rfl ⟨by simp,hL⟩ hs ?_;clear hs;rintro k s σ hk ⟨hl,hn⟩ hs
 conv=>whnf
 repeat'((first|apply st|(apply sq;intro K U)|(apply si;intro A B Y Z)|(apply Y;clear Z B Y A)|(apply U;clear U K)|apply dr|refine rk ?_ ?_|exact fun s e=>by cases e;rfl|refine⟨rfl,?_⟩|refine⟨nb,?_⟩|refine ix ?_|refine iq fun x hx=>?_|refine ld ?_|refine sn fun σ hs=>?_|(refine fc (fun x hx hlt hc=>?_) (fun hk hc=>?_)<;>(try rw[hc])<;>clear hc)|refine Pure.use (cJ _ _) ?_|(constructor<;>intro hc<;>(try rw[hc])<;>(replace hc:=bp hc)<;>(try simp(disch:=omega) only[BE,wrap64,AL]at hc))|(intro nn hnn;generalize hg:BC _ nn _=σ;refine al hg fun hs=>?_;clear hg)|clear U K)<;>conv=>whnf)
 rotate_left
 ·exact Ke (DX hx hn (by simp[NY, *]))
 ·exact Ke (DX hx hn (by simp[NY];intros;omega))
 ·exact Ke (DX hx hn (by simp[NY];intros;omega))
 ·exact Ke (DX hx hn (by simp[NY];intros;omega))
 ·exact Ke (DX hx hn (by simp[NY];intros;omega))
 ·refine(Zj p false 12 (JU _) p.main 0 1 s v rfl (by omega) (by omega) hl hsv).use hs ?_
  clear hs;rintro r post σ ⟨s2,hl2,rfl,⟨ho,rfl⟩|⟨ho,rfl⟩⟩ hs
  ·conv=>whnf
   repeat'((first|apply st|(apply sq;intro K U)|(apply si;intro A B Y Z)|(apply Y;clear Z B Y A)|(apply U;clear U K)|(constructor<;>intro hc<;>(try rw[hc])<;>(replace hc:=bp hc)<;>(try simp(disch:=omega) only[BE,wrap64,AL]at hc))|clear U K)<;>conv=>whnf)
   ·cases hc
   have hz:BO p=if s2.all fun n=>decide (0≤n)then some s2 else none:=by rw[hn,Al hk,runM,Jd,ho]
   refine B4 s2.length (fun j (_:Unit)=>[(10,eI (A6 j))]) (fun _ _=>[.own v 1 (iL s2),.box nn (A2 (AP p))]) (fun j _=>BO p=if(s2.drop j).all fun n=>decide (0≤n)then some s2 else none) () rfl hz hs ?_;clear hs;rintro j - σ hj hz hs
   conv=>whnf
   repeat'((first|apply st|(apply sq;intro K U)|(apply si;intro A B Y Z)|(apply Y;clear Z B Y A)|(apply U;clear U K)|refine⟨rfl,?_⟩|refine oc ?_|refine ol fun x hx=>?_|(refine fc (fun x hx hlt hc=>?_) (fun hk hc=>?_)<;>(try rw[hc])<;>clear hc)|refine lo ?_|(constructor<;>intro hc<;>(try rw[hc])<;>(replace hc:=bp hc))|clear U K)<;>conv=>whnf)
   ·exact Ke (by rw[hz,drop_cons hx,NA,if_neg];simp;intros;omega)
   ·exact⟨hlt,(),rfl,by rw[hz,drop_cons hx,NA];simp[*],hs⟩
   ·have hz2:BO p=some s2:=by rw[hz,Al (by assumption)];rfl
    simp only[MU,hz2];exact BV (.t (.cons (hs.NC 0 rfl) (.cons (.refl _) .nil)))
  ·conv=>whnf
   repeat'((first|apply st|(apply sq;intro K U)|(apply si;intro A B Y Z)|(apply Y;clear Z B Y A)|(apply U;clear U K)|(constructor<;>intro hc<;>(try rw[hc])<;>(replace hc:=bp hc)<;>(try simp(disch:=omega) only[BE,wrap64,AL]at hc))|clear U K)<;>conv=>whnf)
   ·exact Ke (by rw[hn,Al hk,runM,Jd,ho])
   ·cases hc
 rename M4=>m
 rename p.methods[k]? =some m=>hm
 refine(bJ m.fact (Oy _ (by(have:Ce (AP p) m.fact=true:=by assumption);simp only[Ce,BZ]at this;exact this.2.2))).use ?_
 conv=>whnf
 repeat'((first|apply st|(apply sq;intro K U)|(apply si;intro A B Y Z)|(apply Y;clear Z B Y A)|(apply U;clear U K)|apply dr|refine rk ?_ ?_|exact fun s e=>by cases e;rfl|refine⟨rfl,?_⟩|refine⟨nb,?_⟩|refine iq fun x hx=>?_|refine ld ?_|refine Pure.use (jc _) ?_|(constructor<;>intro hc<;>(try rw[hc])<;>(replace hc:=bp hc))|clear U K)<;>conv=>whnf)
 ·exact Ke (DX hm hn (by simp[NY,DL,hx];intros;omega))
 obtain⟨hx1,hx3⟩:=Qc hh hx;have hgd:p.DA.getD m.gen.toNat 0=x:=by rw[DL,hx];rfl
 rename p.DA[m.gen.toNat]? =some _=>hx2
 have hxe:=Option.some.inj (hx.symm.trans hx2);subst hxe;have hok:NY p m=true:=by simp only[NY,hgd,BZ,CX];exact⟨by assumption,by omega,by assumption,by assumption,by assumption,by assumption⟩
 refine(Zj p (Jc m.kind) 12 (JU _) m.node x 1 s v rfl (by omega) (by omega) hl hsv).use (rest:=[_,_]) hs ?_;clear hs;rintro r post σ ⟨s2,hl2,rfl,⟨ho,rfl⟩|⟨ho,rfl⟩⟩ hs
 ·conv=>whnf
  repeat'((first|apply st|(apply sq;intro K U)|(apply si;intro A B Y Z)|(apply Y;clear Z B Y A)|(apply U;clear U K)|apply dr|refine⟨rfl,?_⟩|(constructor<;>intro hc<;>(try rw[hc])<;>(replace hc:=bp hc)<;>(try simp(disch:=omega) only[BE,wrap64,AL]at hc))|clear U K)<;>conv=>whnf)
  ·cases hc
  ·exact⟨by assumption,s2,rfl,⟨by omega,WU hm hn hok (by rw[hgd];exact ho)⟩,hs.less (.cons₂ _ (.cons₂ _ (MR _)))⟩
 ·conv=>whnf
  repeat'((first|apply st|(apply sq;intro K U)|(apply si;intro A B Y Z)|(apply Y;clear Z B Y A)|(apply U;clear U K)|apply dr|refine⟨rfl,?_⟩|(constructor<;>intro hc<;>(try rw[hc])<;>(replace hc:=bp hc)<;>(try simp(disch:=omega) only[BE,wrap64,AL]at hc))|clear U K)<;>conv=>whnf)
  ·exact Ke (QH hm hn hok (by rw[hgd];exact ho))
  ·cases hc
theorem Ul (p:Prog):Pure Tryz.prog 27 [.a (BK p)] (.b (BO p).isSome):=by
 refine qn nb ?_;have h:=jk p;unfold MU at h;cases hl:BO p with
 | none=>
   rw[hl]at h
   conv=>whnf
   repeat'((first|apply st|(apply sq;intro K U)|(apply si;intro A B Y Z)|(apply Y;clear Z B Y A)|(apply U;clear U K)|refine⟨nb,?_⟩|refine Pure.use (by assumption) ?_|fail)<;>conv=>whnf)
   all_goals exact AI (by first|rfl|simp)
 | some s=>
   rw[hl]at h
   conv=>whnf
   repeat'((first|apply st|(apply sq;intro K U)|(apply si;intro A B Y Z)|(apply Y;clear Z B Y A)|(apply U;clear U K)|refine⟨nb,?_⟩|refine Pure.use (by assumption) ?_|fail)<;>conv=>whnf)
   all_goals exact AI (by first|rfl|simp)
theorem FQ (xs ys:List Int) (f g:Bool):Pure Tryz.prog 30 [.l (iL xs) f,.l (iL ys) g] (.b (xs==ys)):=by
 refine Pure.fit (by kernel_rfl) fun hf=>?_
 have hx:=Jf hf.1;have hy:=Jf hf.2.1;have hM:=Mx;refine qm nb ?_;have hs:=Sn
 conv=>whnf
 repeat'((first|apply st|(apply sq;intro K U)|(apply si;intro A B Y Z)|(apply Y;clear Z B Y A)|(apply U;clear U K)|refine⟨rfl,?_⟩|(constructor<;>intro hc<;>(try rw[hc])<;>(replace hc:=bp hc)<;>(try simp(disch:=omega) only[BE,wrap64,AL]at hc))|clear U K)<;>conv=>whnf)
 ·exact AI (by(have:(xs==ys)=false:=by(simp;intro e;subst e;simp at hc));rw[this])
 have hl:xs.length=ys.length:=by omega
 refine B4 xs.length (fun k (_:Unit)=>[(13,eI (A6 k))]) (fun _ _=>[]) (fun k _=>(xs==ys)=(xs.drop k==ys.drop k)) () rfl rfl Sat.nil ?_;clear hs;rintro k - σ hk hn hs;by_cases hlt:k<xs.length
 ·obtain⟨y,hyk⟩: ∃y,ys[k]? =some y:=⟨_,Cu (by omega)⟩
  conv=>whnf
  repeat'((first|apply st|(apply sq;intro K U)|(apply si;intro A B Y Z)|(apply Y;clear Z B Y A)|(apply U;clear U K)|apply dr|refine⟨rfl,?_⟩|refine ix ?_|(refine fc (fun x hx hlt hc=>?_) (fun hk hc=>?_)<;>(try rw[hc])<;>clear hc)|(constructor<;>intro hc<;>(try rw[hc])<;>(replace hc:=bp hc))|clear U K)<;>conv=>whnf)
  ·exact AI (by rw[hn,drop_cons hx,drop_cons hyk];simp[hc])
  ·exact⟨hlt,(),rfl,by rw[hn,drop_cons hx,drop_cons hyk,hc];simp,hs⟩
  ·omega
 ·conv=>whnf
  repeat'((first|apply st|(apply sq;intro K U)|(apply si;intro A B Y Z)|(apply Y;clear Z B Y A)|(apply U;clear U K)|apply dr|refine⟨rfl,?_⟩|refine ix ?_|refine iq fun x hx=>?_|(refine fc (fun x hx hlt hc=>?_) (fun hk hc=>?_)<;>(try rw[hc])<;>clear hc)|(constructor<;>intro hc<;>(try rw[hc])<;>(replace hc:=bp hc)<;>try(exfalso;omega))|clear U K)<;>conv=>whnf)
  exact AI (by rw[hn,Al hk,Al (by omega)];rfl)
def Pe:List (Fact→Bool)→List Fact→Bool
 | h::r,k::s=>h k&&Pe r s
 | _,_=>true
def gM (f:Fact) (l:List (Fact→Bool)) (g:Fact):Bool:=f.op==g.op&&(f.arg==g.arg&&(f.cls==g.cls&&(f.n==g.n&&(f.path==g.path&&(f.kids.length==g.kids.length&&Pe l g.kids)))))
def Fa (f:Fact):Fact→Bool:=f.HC gM
theorem Kv (f g:Fact):Fa f g=(f.op==g.op&&(f.arg==g.arg&&(f.cls==g.cls&&(f.n==g.n&&(f.path==g.path&&(f.kids.length==g.kids.length&&Pe (f.kids.map Fa) g.kids)))))):=congrFun (Fact.Dj gM f) g
theorem Tj {xs ys:List Fact} (h: ∀x∈xs,∀y,Fa x y=true↔x=y) (hl:xs.length=ys.length):Pe (xs.map Fa) ys=true↔xs=ys:=by
 induction xs generalizing ys with
 | nil=>cases ys with
   | nil=>simp[Pe]
   | cons _ _=>simp at hl
 | cons x r ih=>cases ys with
   | nil=>simp at hl
   | cons y s=>
     simp only[FC,Pe,BZ,List.cons.injEq];rw[h x (.head _) y,ih (fun x hx=>h x (.tail _ hx)) (by simpa using hl)]
theorem L7 (f g:Fact):Fa f g=true↔f=g:=by
 induction f using Fact.ind generalizing g with
 | h f ih=>
   rw[Kv];cases f with
   | mk o a p c n k=>cases g with
     | mk o' a' p' c' n' k'=>
       simp only[Fact.op,Fact.arg,Fact.cls,Fact.n,Fact.path,Fact.kids,BZ,D1,Fact.mk.injEq]at *;constructor
       ·rintro⟨rfl,rfl,rfl,rfl,rfl,hl,h⟩
        exact⟨rfl,rfl,rfl,rfl,rfl,(Tj (fun x hx y=>ih x hx y) hl).1 h⟩
       ·rintro⟨rfl,rfl,rfl,rfl,rfl,rfl⟩
        exact⟨rfl,rfl,rfl,rfl,rfl,rfl,(Tj (fun x hx y=>ih x hx y) rfl).2 rfl⟩
set_option maxHeartbeats 1000000 in
theorem eJ (f g:Fact):Pure Tryz.prog 232 [.a (xF f),.a (xF g)] (.b (Fa f g)):=by
 induction f using Fact.ind generalizing g with
 | h f ih=>
   refine Pure.fit (by kernel_rfl) fun hf=>?_
   have⟨h2,h3,h4⟩:=IM hf.1;have⟨g2,g3,g4⟩:=IM hf.2.1;have hM:=Mx;refine lM nb ?_;have hs:=Sn
   conv=>whnf
   repeat'((first|apply st|(apply sq;intro K U)|(apply si;intro A B Y Z)|(apply Y;clear Z B Y A)|(apply U;clear U K)|refine⟨rfl,?_⟩|refine Pure.use (FQ _ _ _ _) ?_|(constructor<;>intro hc<;>(try rw[hc])<;>(replace hc:=bp hc)<;>(try simp(disch:=omega) only[BE,wrap64,AL]at hc))|clear U K)<;>conv=>whnf)
   rotate_left
   all_goals try exact AI (by rw[Kv];simp[*]<;>omega)
   rotate_left
   ·have hkl:f.kids.length=g.kids.length:=by omega
    refine B4 f.kids.length (fun k (_:Unit)=>[(52,eI (A6 k))]) (fun _ _=>[]) (fun k _=>Fa f g=Pe ((f.kids.drop k).map Fa) (g.kids.drop k)) () rfl (by rw[Kv];simp[*]) Sat.nil ?_;clear hs;rintro k - σ hk hn hs;by_cases hlt:k<f.kids.length
    ·obtain⟨y,hyk⟩: ∃y,g.kids[k]? =some y:=⟨_,Cu (by omega)⟩
     conv=>whnf
     repeat'((first|apply st|(apply sq;intro K U)|(apply si;intro A B Y Z)|(apply Y;clear Z B Y A)|(apply U;clear U K)|apply dr|refine⟨rfl,?_⟩|refine⟨nb,?_⟩|refine NB ?_|(refine fc (fun x hx hlt hc=>?_) (fun hk hc=>?_)<;>(try rw[hc])<;>clear hc)|clear U K)<;>conv=>whnf)
     ·refine(ih x (B2 hx) y).use ?_
      conv=>whnf
      repeat'((first|apply st|(apply sq;intro K U)|(apply si;intro A B Y Z)|(apply Y;clear Z B Y A)|(apply U;clear U K)|apply dr|refine⟨rfl,?_⟩|(constructor<;>intro hc<;>(try rw[hc])<;>(replace hc:=bp hc))|clear U K)<;>conv=>whnf)
      ·exact AI (by rw[hn,drop_cons hx,drop_cons hyk,FC,Pe,hc];rfl)
      ·exact⟨hlt,(),rfl,by rw[hn,drop_cons hx,drop_cons hyk,FC,Pe,hc];rfl,hs⟩
     ·omega
    ·conv=>whnf
     repeat'((first|apply st|(apply sq;intro K U)|(apply si;intro A B Y Z)|(apply Y;clear Z B Y A)|(apply U;clear U K)|apply dr|refine⟨rfl,?_⟩|refine⟨nb,?_⟩|refine NB ?_|refine iq fun x hx=>?_|(refine fc (fun x hx hlt hc=>?_) (fun hk hc=>?_)<;>(try rw[hc])<;>clear hc)|clear U K)<;>conv=>whnf)
     all_goals first|(exfalso;omega)|exact AI (by rw[hn,Al hk];rfl)
def FZ (f:Fact):Fact:= .mk 5 0 [] 0 0 [f]
def M3 (f g:Fact):Fact:= .mk 6 0 [] 0 0 [f,g]
theorem Zs (f:Fact):Pure Tryz.prog 113 [.a (xF f)] (.a (xF (FZ f))):=by
 refine nc nb ?_;have hs:=Sn
 conv=>whnf
 repeat'((first|apply st|(apply sq;intro K U)|(apply si;intro A B Y Z)|(apply Y;clear Z B Y A)|(apply U;clear U K)|refine⟨nb,?_⟩|refine ld ?_|refine sn fun σ hs=>?_|(intro nn hnn;generalize hg:BC _ nn _=σ;refine al hg fun hs=>?_;clear hg)|fail)<;>conv=>whnf)
 refine BV (.a (.cons (.refl _) (.cons (.refl _) (.cons CH (.cons (.refl _) (.cons (.refl _) (.cons ?_ .nil)))))));refine .l (fun h=>by cases h) ?_;simp only[FZ,Fact.kids,List.map,Bd];exact Et _
theorem oV (f g:Fact):Pure Tryz.prog 112 [.a (xF f),.a (xF g)] (.a (xF (M3 f g))):=by
 refine nf nb ?_;have hs:=Sn
 conv=>whnf
 repeat'((first|apply st|(apply sq;intro K U)|(apply si;intro A B Y Z)|(apply Y;clear Z B Y A)|(apply U;clear U K)|refine⟨nb,?_⟩|refine ld ?_|refine sn fun σ hs=>?_|(intro nn hnn;generalize hg:BC _ nn _=σ;refine al hg fun hs=>?_;clear hg)|fail)<;>conv=>whnf)
 refine BV (.a (.cons (.refl _) (.cons (.refl _) (.cons CH (.cons (.refl _) (.cons (.refl _) (.cons ?_ .nil)))))));refine .l (fun h=>by cases h) ?_;simp only[M3,Fact.kids,List.map,Bd];exact Et _
def GF (l:Fact):Prop:=l.op=5→l.kids≠[]
def A1 (l:Fact):Fact×Bool:=if l.op=5 then(l.kids.headD default,true)else(l,false)
theorem HR (l:Fact) (h:GF l):Pure Tryz.prog 262 [.a (xF l)] (.t [.a (xF (A1 l).1),.b (A1 l).2]):=by
 refine Pure.fit (by kernel_rfl) fun hf=>?_
 have⟨h2,h3,h4⟩:=IM hf.1;refine kq nb ?_;have hs:=Sn;by_cases h5:l.op=5
 ·have hk:0<l.kids.length:=List.length_pos_iff.2 (h h5)
  conv=>whnf
  repeat'((first|apply st|(apply sq;intro K U)|(apply si;intro A B Y Z)|(apply Y;clear Z B Y A)|(apply U;clear U K)|refine⟨rfl,?_⟩|refine⟨nb,?_⟩|refine xc fun x hx=>?_|refine ld ?_|refine sn fun σ hs=>?_|(constructor<;>intro hc<;>(try rw[hc])<;>(replace hc:=bp hc)<;>try(exfalso;omega))|(intro nn hnn;generalize hg:BC _ nn _=σ;refine al hg fun hs=>?_;clear hg)|clear U K)<;>conv=>whnf)
  all_goals try(exfalso;omega)
  refine AI ?_
  have:l.kids.headD default=x:=by
   cases hl:l.kids with
   | nil=>rw[hl]at hk;simp at hk
   | cons y r=>rw[hl]at hx;simpa using hx
  simp only[A1,if_pos h5,this];rfl
 ·conv=>whnf
  repeat'((first|apply st|(apply sq;intro K U)|(apply si;intro A B Y Z)|(apply Y;clear Z B Y A)|(apply U;clear U K)|refine⟨rfl,?_⟩|refine⟨nb,?_⟩|refine ld ?_|refine sn fun σ hs=>?_|(constructor<;>intro hc<;>(try rw[hc])<;>(replace hc:=bp hc)<;>try(exfalso;omega))|(intro nn hnn;generalize hg:BC _ nn _=σ;refine al hg fun hs=>?_;clear hg)|fail)<;>conv=>whnf)
  all_goals try(exfalso;omega)
  refine AI ?_;simp only[A1,if_neg h5];rfl
def B0 (path pre:List Int):Bool:=decide (pre.length≤path.length)&&path.take pre.length==pre
theorem Qt (xs ys:List Int) (f g:Bool):Pure Tryz.prog 281 [.l (iL xs) f,.l (iL ys) g] (.b (B0 xs ys)):=by
 refine Pure.fit (by kernel_rfl) fun hf=>?_
 have hx:=Jf hf.1;have hy:=Jf hf.2.1;have hM:=Mx;refine kN nb ?_;have hs:=Sn
 conv=>whnf
 repeat'((first|apply st|(apply sq;intro K U)|(apply si;intro A B Y Z)|(apply Y;clear Z B Y A)|(apply U;clear U K)|refine⟨rfl,?_⟩|refine u9 ?_|refine Pure.use (FQ _ _ _ _) ?_|(constructor<;>intro hc<;>(try rw[hc])<;>(replace hc:=bp hc)<;>(try simp(disch:=omega) only[BE,wrap64,AL]at hc))|fail)<;>conv=>whnf)
 ·refine AI ?_
  have:ys.length≤xs.length:=by omega
  simp[B0,this]
 ·refine AI ?_
  have: ¬ys.length≤xs.length:=by omega
  simp[B0,this]
def Gc (w:AK) (ls:List Fact) (a:Int) (p:List Int) (c:Bool):List V:=[.l (En w.parents) false,.l (iL w.owner) false,.l (facts ls) false,eI a,.l (iL p) false,.b c]
theorem JE (w:AK) (ls:List Fact) (a:Int) (p:List Int) (c:Bool) (s:Int) (hp:p.length<100):Pure Tryz.prog 265 [.a (Gc w ls a p c),eI s] (.a (Gc w ls a (p++[s]) c)):=by
 have hM:=Mx;refine kg nb ?_;have hs:=Sn
 conv=>whnf
 repeat'((first|apply st|(apply sq;intro K U)|(apply si;intro A B Y Z)|(apply Y;clear Z B Y A)|(apply U;clear U K)|apply dr|refine⟨nb,?_⟩|(intro nn hnn;generalize hg:BC _ nn _=σ;refine al hg fun hs=>?_;clear hg)|fail)<;>conv=>whnf)
 replace hs:=Ey hs 1;refine HL hs 1 (xs:=[]) (ys:=p) rfl (by simp;omega) Bq fun v σ hs=>?_
 conv=>whnf
 repeat'((first|apply st|apply dr|refine rk ?_ ?_|exact fun s e=>by cases e;rfl|refine⟨nb,?_⟩|refine aq fun v σ hs hsl=>?_|fail)<;>conv=>whnf)
 obtain⟨n,l,cc,rfl⟩:=ZU hsl
 conv=>whnf
 repeat'((first|apply st|(apply Y;clear Z B Y A)|(apply U;clear U K)|apply dr|refine⟨nb,?_⟩|refine ld ?_|refine sn fun σ hs=>?_|fail)<;>conv=>whnf)
 exact BV (.a (.cons (.refl _) (.cons (.refl _) (.cons (.refl _) (.cons (.refl _) (.cons (hs.NC 1 rfl) (.cons (.refl _) .nil)))))))
def Gp (a:Int) (p:List Int) (l:Fact):Bool:=(A1 l).1.arg==a&&(A1 l).1.path==p
theorem GL {w:AK} {ls:List Fact} {a:Int} {p:List Int} {c:Bool} (h:FD (.a (Gc w ls a p c))):ls.length≤Ad∧p.length≤Ad∧w.owner.length≤Ad∧w.parents.length≤Ad:=by
 simp only[Gc,G0,DZ,Fq,BE]at h;exact⟨h.2.2.1.1,h.2.2.2.2.1.1,h.2.1.1,h.1.1⟩
theorem ZY (w:AK) (ls:List Fact) (a:Int) (p:List Int) (c:Bool) (hok: ∀l∈ls,GF l) (hln:ls.length≤1000000):Pure Tryz.prog 261 [.a (Gc w ls a p c)] (.l (facts (ls.filter (Gp a p))) false):=by
 refine Pure.fit (by kernel_rfl) fun hf=>?_
 have⟨h1,h2,h3,h4⟩:=GL hf.1;have hM:=Mx;refine kr nb ?_;have hs:=Sn
 conv=>whnf
 repeat'((first|apply st|(apply sq;intro K U)|(apply si;intro A B Y Z)|(apply Y;clear Z B Y A)|(apply U;clear U K)|fail)<;>conv=>whnf)
 refine B4 ls.length (fun k v=>[(3,v),(11,eI (A6 k))]) (fun k v=>[.own v 6 (facts ((ls.take k).filter (Gp a p)))]) (fun _ _=>True) (.l [] true) rfl trivial (Ey hs 6) ?_;clear hs;rintro k v σ hk - hs;have hfl:=LV (Gp a p) (ls.take k)
 conv=>whnf
 repeat'((first|apply st|(apply sq;intro K U)|(apply si;intro A B Y Z)|(apply Y;clear Z B Y A)|(apply U;clear U K)|refine⟨rfl,?_⟩|refine⟨nb,?_⟩|refine NB ?_|refine ld ?_|refine sn fun σ hs=>?_|refine xU fun v σ hs hsl=>?_|(refine fc (fun x hx hlt hc=>?_) (fun hk hc=>?_)<;>(try rw[hc])<;>clear hc)|refine Pure.use (HR _ (hok _ (B2 (by assumption)))) ?_|refine Pure.use (FQ _ _ _ _) ?_|(constructor<;>intro hc<;>(try rw[hc])<;>(replace hc:=bp hc))|(intro nn hnn;generalize hg:BC _ nn _=σ;refine al hg fun hs=>?_;clear hg)|clear U K)<;>conv=>whnf)
 ·exact⟨hlt,_,rfl,trivial,by rw[AR hx,List.filter_append];simpa[Gp, *]using hs.take 1⟩
 ·exact⟨hlt,_,rfl,trivial,by rw[AR hx,List.filter_append];simpa[Gp, *]using hs.take 1⟩
 ·exact⟨hlt,_,rfl,trivial,by rw[AR hx,List.filter_append];simpa[Gp, *]using hs.take 1⟩
 ·exact EX hs 0 rfl (by rw[Ar hk])
def ES (ls:List Fact) (a:Int) (p:List Int):Bool:=ls.all fun l=>(A1 l).2|| !((A1 l).1.arg==a&&B0 (A1 l).1.path p)
theorem XN (w:AK) (ls:List Fact) (a:Int) (p:List Int) (c:Bool) (hok: ∀l∈ls,GF l):Pure Tryz.prog 266 [.a (Gc w ls a p c)] (.b (ES ls a p)):=by
 refine Pure.fit (by kernel_rfl) fun hf=>?_
 have⟨h1,h2,h3,h4⟩:=GL hf.1;have hM:=Mx;refine ke nb ?_;have hs:=Sn
 conv=>whnf
 repeat'((first|apply st|(apply sq;intro K U)|(apply si;intro A B Y Z)|(apply Y;clear Z B Y A)|(apply U;clear U K)|fail)<;>conv=>whnf)
 refine B4 ls.length (fun k (_:Unit)=>[(10,eI (A6 k))]) (fun k _=>[]) (fun k _=>ES ls a p=(ls.drop k).all fun l=>(A1 l).2|| !((A1 l).1.arg==a&&B0 (A1 l).1.path p)) () rfl rfl hs ?_;clear hs;rintro k - σ hk hn hs
 conv=>whnf
 repeat'((first|apply st|(apply sq;intro K U)|(apply si;intro A B Y Z)|(apply Y;clear Z B Y A)|(apply U;clear U K)|refine⟨rfl,?_⟩|refine⟨nb,?_⟩|refine NB ?_|refine ld ?_|refine sn fun σ hs=>?_|(refine fc (fun x hx hlt hc=>?_) (fun hk hc=>?_)<;>(try rw[hc])<;>clear hc)|refine Pure.use (HR _ (hok _ (B2 (by assumption)))) ?_|refine Pure.use (Qt _ _ _ _) ?_|(constructor<;>intro hc<;>(try rw[hc])<;>(replace hc:=bp hc))|(intro nn hnn;generalize hg:BC _ nn _=σ;refine al hg fun hs=>?_;clear hg)|clear U K)<;>conv=>whnf)
 ·exact AI (by rw[hn,drop_cons hx,NA];simp[*])
 ·exact⟨hlt,(),rfl,by rw[hn,drop_cons hx,NA];simp[*],hs.take 0⟩
 ·exact⟨hlt,(),rfl,by rw[hn,drop_cons hx,NA];simp[*],hs.take 0⟩
 ·exact⟨hlt,(),rfl,by rw[hn,drop_cons hx,NA];simp[*],hs.take 0⟩
 ·exact AI (by rw[hn,Al hk];rfl)
def Bu (n:Nat):List Int:=(List.range n).map Int.ofNat
theorem Gm (n:Nat):Bu (n+1)=Bu n++[(n:Int)]:=by simp[Bu,List.range_succ]
theorem Eh (n:Nat):(Bu n).length=n:=by simp[Bu]
def V3 (a:Int) (p:List Int) (s:Int) (l:Fact):Bool:=(A1 l).1.arg==a&&B0 (A1 l).1.path (p++[s])
def Bt (n:Nat) (ls:List Fact) (a:Int) (p:List Int):List Int:=(Bu n).filter fun s=>ls.any (V3 a p s)
theorem TB (w:AK) (ls:List Fact) (a:Int) (p:List Int) (c:Bool) (hok: ∀l∈ls,GF l) (hp:p.length<100) :
 Pure Tryz.prog 264 [.a (Gc w ls a p c)] (.l (iL (Bt w.owner.length ls a p)) false):=by
 refine Pure.fit (by kernel_rfl) fun hf=>?_
 have⟨h1,h2,h3,h4⟩:=GL hf.1;have hM:=Mx;refine kk nb ?_;have hs:=Sn
 conv=>whnf
 repeat'((first|apply st|(apply sq;intro K U)|(apply si;intro A B Y Z)|(apply Y;clear Z B Y A)|(apply U;clear U K)|fail)<;>conv=>whnf)
 refine B4 w.owner.length (fun k v=>[(3,v),(14,eI (A6 k))]) (fun k v=>[.own v 1 (iL (Bt k ls a p))]) (fun _ _=>True) (.l [] true) rfl trivial (Ey hs 1) ?_;clear hs;rintro k v σ hk - hs;have hck:A6 k=k:=AL (by omega);have hfl:=LV (fun s=>ls.any (V3 a p s)) (Bu k);rw[Eh]at hfl;have hfl2:(Bt k ls a p).length≤k:=hfl
 conv=>whnf
 repeat'((first|apply st|(apply sq;intro K U)|(apply si;intro A B Y Z)|(apply Y;clear Z B Y A)|(apply U;clear U K)|refine⟨rfl,?_⟩|(refine fc (fun x hx hlt hc=>?_) (fun hk hc=>?_)<;>(try rw[hc])<;>clear hc)|clear U K)<;>conv=>whnf)
 ·refine B4 ls.length (fun j b=>[(5,.b b),(20,eI (A6 j))]) (fun j _=>[.own v 1 (iL (Bt k ls a p))]) (fun j b=>b=(ls.take j).any (V3 a p (A6 k))) false rfl (by simp) hs ?_
  clear hs;rintro j b σ hj hb hs;subst hb
  conv=>whnf
  repeat'((first|apply st|(apply sq;intro K U)|(apply si;intro A B Y Z)|(apply Y;clear Z B Y A)|(apply U;clear U K)|apply dr|refine rk ?_ ?_|exact fun s e=>by cases e;rfl|refine⟨rfl,?_⟩|refine⟨nb,?_⟩|refine NB ?_|refine ld ?_|refine sn fun σ hs=>?_|refine aq fun v σ hs hsl=>?_|(refine fc (fun x hx hlt hc=>?_) (fun hk hc=>?_)<;>(try rw[hc])<;>clear hc)|refine Pure.use (HR _ (hok _ (B2 (by assumption)))) ?_|refine Pure.use (Qt _ _ _ _) ?_|refine Pure.use (JE _ _ _ _ _ _ (by omega)) ?_|(constructor<;>intro hc<;>(try rw[hc])<;>(replace hc:=bp hc)<;>(try simp(disch:=omega) only[BE,wrap64,AL]at hc))|(intro nn hnn;generalize hg:BC _ nn _=σ;refine al hg fun hs=>?_;clear hg)|clear U K)<;>conv=>whnf)
  ·exact⟨hlt,_,rfl,by rw[AR hx,List.any_append];simp[V3, *],hs.take 1⟩
  ·exact⟨hlt,_,rfl,by rw[AR hx,List.any_append];simp[V3, *],hs.take 1⟩
  ·exact⟨hlt,true,rfl,by rw[AR hx,List.any_append];simp[*],hs.take 1⟩
  ·refine⟨by assumption,_,rfl,trivial,?_⟩
   rw[Ar hk]at hc;rw[Bt,Gm,List.filter_append];simp only[Bt]at hs;simpa[hc,hck]using hs
  ·refine⟨by assumption,_,rfl,trivial,?_⟩
   rw[Ar hk]at hc;rw[Bt,Gm,List.filter_append];simp only[Bt]at hs;simpa[hc,hck]using hs
 ·exact EX hs 0 rfl (by rw[hk])
def FI (n:Nat) (ls:List Fact) (a:Int) (p:List Int):Bool:=(Bt n ls a p).all fun s=>ES ls a (p++[s])
theorem XE (w:AK) (ls:List Fact) (a:Int) (p:List Int) (c:Bool) (hok: ∀l∈ls,GF l) (hp:p.length<50):Pure Tryz.prog 263 [.a (Gc w ls a p c)] (.b (FI w.owner.length ls a p)):=by
 refine Pure.fit (by kernel_rfl) fun hf=>?_
 have⟨h1,h2,h3,h4⟩:=GL hf.1;have hM:=Mx;refine ko nb ?_;have hs:=Sn;have hfl:=LV (fun s=>ls.any (V3 a p s)) (Bu w.owner.length);rw[Eh]at hfl;have hfl2:(Bt w.owner.length ls a p).length≤w.owner.length:=hfl
 conv=>whnf
 repeat'((first|apply st|(apply sq;intro K U)|(apply si;intro A B Y Z)|(apply Y;clear Z B Y A)|(apply U;clear U K)|refine⟨nb,?_⟩|refine Pure.use (TB _ _ _ _ _ hok (by omega)) ?_|fail)<;>conv=>whnf)
 refine B4 (Bt w.owner.length ls a p).length (fun k (_:Unit)=>[(8,eI (A6 k))]) (fun k _=>[]) (fun k _=>FI w.owner.length ls a p=((Bt w.owner.length ls a p).drop k).all fun s=>ES ls a (p++[s])) () rfl rfl hs ?_;clear hs;rintro k - σ hk hn hs
 conv=>whnf
 repeat'((first|apply st|(apply sq;intro K U)|(apply si;intro A B Y Z)|(apply Y;clear Z B Y A)|(apply U;clear U K)|refine⟨rfl,?_⟩|refine⟨nb,?_⟩|refine ix ?_|(refine fc (fun x hx hlt hc=>?_) (fun hk hc=>?_)<;>(try rw[hc])<;>clear hc)|refine Pure.use (JE _ _ _ _ _ _ (by omega)) ?_|refine Pure.use (XN _ _ _ _ _ hok) ?_|(constructor<;>intro hc<;>(try rw[hc])<;>(replace hc:=bp hc))|clear U K)<;>conv=>whnf)
 ·exact AI (by rw[hn,drop_cons hx,NA];simp[*])
 ·exact⟨hlt,(),rfl,by rw[hn,drop_cons hx,NA];simp[*],hs⟩
 ·exact AI (by rw[hn,Al hk];rfl)
def Ju (ls:List Fact):Prop:= ∀l∈ls,-1000000000≤(A1 l).1.n∧(A1 l).1.n≤1000000000
def HD (x:Fact×Bool) (t:Int×Int×List Int):Option (Int×Int×List Int):=
 if x.1.op=2 then if decide (x.1.cls > 1) != x.2 then none else some t
 else if x.1.op=3 then(if x.2 then some (if x.1.n > t.1 then x.1.n else t.1,t.2.1,t.2.2)else some (t.1,if x.1.n - 1<t.2.1 then x.1.n - 1 else t.2.1,t.2.2))
 else if x.2 then some (t.1,t.2.1,t.2.2++[x.1.n])else some (if x.1.n > t.1 then x.1.n else t.1,if x.1.n<t.2.1 then x.1.n else t.2.1,t.2.2)
def foldI:List Fact→Int×Int×List Int→Option (Int×Int×List Int)
 | [],t=>some t
 | x::r,t=>(HD (A1 x) t).bind (foldI r)
theorem MJ: ∀(xs ys:List Fact) (t:Int×Int×List Int),foldI (xs++ys) t=(foldI xs t).bind (foldI ys)
 | [],_,_=>rfl
 | x::r,ys,t=>by
   simp only[List.cons_append,foldI];cases HD (A1 x) t with
   | none=>rfl
   | some u=>exact MJ r ys u
theorem GQ {os:List Fact} {k:Nat} {x:Fact} (hx:os[k]? =some x) (t:Int×Int×List Int):foldI (os.take (k+1)) t=(foldI (os.take k) t).bind (HD (A1 x)):=by
 rw[AR hx,MJ];congr 1;funext u;simp only[foldI];cases HD (A1 x) u<;>rfl
theorem Vd {os:List Fact} (k:Nat) {t:Int×Int×List Int} (h:foldI (os.take k) t=none):foldI os t=none:=by
 rw[←List.take_append_drop k os,MJ,h];rfl
def RA (no:List Int):Nat→Int→Option Int
 | 0,_=>none
 | k+1,n=>if no.all (· != n)then some n else RA no k (n+1)
def No (t:Int×Int×List Int):Option Int:=RA t.2.2 (t.2.1+1 - t.1).toNat t.1
def t0:Int×Int×List Int:=(-1000000000,1000000000,[])
def Ic (ls:List Fact) (a:Int) (p:List Int):Option Int:=(foldI (ls.filter (Gp a p)) t0).bind No
def Xh (n:Nat) (ls:List Fact) (a:Int) (p:List Int):V:=match Ic ls a p with
 | some x=> .t [eI x,.b (FI n ls a p)]
 | none=> .t [eI 0,.b false]
set_option maxHeartbeats 4000000 in
theorem O9 (w : AK) (ls:List Fact) (a:Int) (p:List Int) (c:Bool) (hokL: ∀l∈ls,GF l) (hln:ls.length≤1000000) (hp:p.length<50) (hsm:Ju ls):Pure Tryz.prog 233 [.a (Gc w ls a p c)] (Xh w.owner.length ls a p):=by
 refine Pure.fit (by kernel_rfl) fun hf=>?_
 have⟨h1,h2,h3,h4⟩:=GL hf.1;have hM:=Mx;refine lL nb ?_;have hs:=Sn;have hfl:=LV (Gp a p) ls;have hok2: ∀l∈ls.filter (Gp a p),GF l:=fun l hl=>hokL l ((JZ.1 hl).1)
 have hsm2:Ju (ls.filter (Gp a p)):=fun l hl=>hsm l ((JZ.1 hl).1)
 conv=>whnf
 repeat'((first|apply st|(apply sq;intro K U)|(apply si;intro A B Y Z)|(apply Y;clear Z B Y A)|(apply U;clear U K)|refine⟨nb,?_⟩|refine Pure.use (ZY _ _ _ _ _ hokL hln) ?_|fail)<;>conv=>whnf)
 generalize hos:ls.filter (Gp a p)=os at *;have hV:Ic ls a p=(foldI os t0).bind No:=by rw[Ic,hos]
 refine B4 os.length (fun k (x:Int×Int×List Int×V)=>[(4,eI x.1),(5,eI x.2.1),(6,x.2.2.2),(18,eI (A6 k))]) (fun k x=>[.own x.2.2.2 1 (iL x.2.2.1)]) (fun k x=>foldI (os.take k) t0=some (x.1,x.2.1,x.2.2.1)∧ -1000000000≤x.1∧x.1≤1000000000∧ -1000000001≤x.2.1∧x.2.1≤1000000000∧x.2.2.1.length≤k) (-1000000000,1000000000,[],.l [] true) rfl ⟨rfl,by simp⟩ (Ey hs 1) ?_;clear hs;rintro k ⟨low,high,no,v⟩ σ hk ⟨hno,hb1,hb2,hb3,hb4,hb5⟩ hs;simp only at hb1 hb2 hb3 hb4 hb5 hno;have hok:=hok2
 conv=>whnf
 repeat'((first|apply st|(apply sq;intro K U)|(apply si;intro A B Y Z)|(apply Y;clear Z B Y A)|(apply U;clear U K)|apply dr|refine⟨rfl,?_⟩|refine⟨nb,?_⟩|refine NB ?_|refine ld ?_|refine sn fun σ hs=>?_|refine aq fun v σ hs hsl=>?_|(refine fc (fun x hx hlt hc=>?_) (fun hk hc=>?_)<;>(try rw[hc])<;>clear hc)|refine Pure.use (HR _ (hok _ (B2 (by assumption)))) ?_|(constructor<;>intro hc<;>(try rw[hc])<;>(replace hc:=bp hc)<;>try(exfalso;omega))|(intro nn hnn;generalize hg:BC _ nn _=σ;refine al hg fun hs=>?_;clear hg)|clear U K)<;>conv=>whnf)
 all_goals first
  | (have hb:=hsm2 _ (B2 hx)
     first
      | (refine⟨hlt,(_,_,_,_),rfl,⟨?_,?_⟩,hs.take 1⟩
         ·rw[GQ hx,hno]
          have hw:IntKind.i64.wrap ((A1 ‹Fact›).1.n - 1)=(A1 ‹Fact›).1.n - 1:=wrap64 (by omega) (by omega);simp[HD, *]
          done
         ·have hw:IntKind.i64.wrap ((A1 ‹Fact›).1.n - 1)=(A1 ‹Fact›).1.n - 1:=wrap64 (by omega) (by omega)
          simp only[PT,List.length_singleton,hw]
          refine⟨?_,?_,?_,?_,?_⟩<;>(try split)<;>omega)
      | (refine AI ?_
         have:foldI os t0=none:=Vd (k+1) (by rw[GQ hx,hno];simp[HD, *]);rw[this]at hV;simp only[Xh,hV]
         rfl))
  | skip
 ·have hb:=hsm2 _ (B2 hx)
  refine⟨hlt,(if(A1 x).1.n > low then(A1 x).1.n else low,high,no,v),rfl,⟨?_,?_⟩,hs.take 1⟩
  ·rw[GQ hx,hno]
   simp[HD, *]
  ·dsimp only
   refine⟨?_,?_,?_,?_,?_⟩<;>(try split)<;>omega
 ·have hb:=hsm2 _ (B2 hx)
  have hw:IntKind.i64.wrap ((A1 x).1.n - 1)=(A1 x).1.n - 1:=wrap64 (by omega) (by omega);rw[hw];refine⟨hlt,(low,if(A1 x).1.n - 1<high then(A1 x).1.n - 1 else high,no,v),rfl,⟨?_,?_⟩,hs.take 1⟩
  ·rw[GQ hx,hno]
   simp[HD, *]
  ·dsimp only
   refine⟨?_,?_,?_,?_,?_⟩<;>(try split)<;>omega
 ·have hb:=hsm2 _ (B2 hx)
  refine⟨hlt,(if(A1 x).1.n > low then(A1 x).1.n else low,if(A1 x).1.n<high then(A1 x).1.n else high,no,v),rfl,⟨?_,?_⟩,hs.take 1⟩
  ·rw[GQ hx,hno]
   simp[HD, *]
  ·dsimp only
   refine⟨?_,?_,?_,?_,?_⟩<;>(try split)<;>omega
 rw[Ar (by assumption)]at hno;have hV2:Ic ls a p=No (low,high,no):=by rw[hV,hno];rfl
 dsimp only;refine EF (fun n:Int=>(high+1 - n).toNat) (fun n=>[(11,eI n)]) (fun _=>[.own v 1 (iL no)]) (fun n=>low≤n∧n≤1000000001∧Ic ls a p=RA no (high+1 - n).toNat n) low rfl ⟨by omega,by omega,hV2⟩ hs ?_;clear hs;rintro n σ ⟨hn1,hn2,hn⟩ hs;have hnl:no.length≤Ad:=by omega
 conv=>whnf
 repeat'((first|apply st|(apply sq;intro K U)|(apply si;intro A B Y Z)|(apply Y;clear Z B Y A)|(apply U;clear U K)|refine⟨rfl,?_⟩|refine lo ?_|(constructor<;>intro hc<;>(try rw[hc])<;>(replace hc:=bp hc))|clear U K)<;>conv=>whnf)
 ·refine B4 no.length (fun j b=>[(12,.b b),(80,eI (A6 j))]) (fun j _=>[.own v 1 (iL no)]) (fun j b=>b=(no.take j).all (· != n)) true rfl (by simp) hs ?_
  clear hs;rintro j b σ hj hb hs;subst hb
  conv=>whnf
  repeat'((first|apply st|(apply sq;intro K U)|(apply si;intro A B Y Z)|(apply Y;clear Z B Y A)|(apply U;clear U K)|refine⟨rfl,?_⟩|refine⟨nb,?_⟩|refine oc ?_|refine NX ?_|(refine fc (fun x hx hlt hc=>?_) (fun hk hc=>?_)<;>(try rw[hc])<;>clear hc)|refine Pure.use (XE _ _ _ _ _ hokL (by omega)) ?_|(constructor<;>intro hc<;>(try rw[hc])<;>(replace hc:=bp hc))|clear U K)<;>conv=>whnf)
  ·exact⟨hlt,_,rfl,by rw[AR hx,List.all_append,hc];simp,hs⟩
  ·exact⟨hlt,false,rfl,by rw[AR hx,List.all_append,hc];simp,hs⟩
  ·refine AI ?_
   rw[Ar hk]at hc;rw[show(high+1 - n).toNat=(high - n).toNat+1 by omega,RA,if_pos hc]at hn;simp only[Xh,hn]
  ·rw[Ar hk]at hc
   rw[show(high+1 - n).toNat=(high+1 - (n+1)).toNat+1 by omega,RA,if_neg (by simp[hc])]at hn;rw[wrap64 (by omega) (by omega)];exact⟨n+1,by omega,rfl,⟨by omega,by omega,hn⟩,hs⟩
 ·refine AI ?_
  have:(high+1 - n).toNat=0:=by omega
  rw[this,RA]at hn;simp only[Xh,hn]
def IG (x:Fact×Bool):Bool:=((x.1.op==2&&(x.1.cls==0||x.1.cls==2))==x.2)
def HI (n:Nat) (ls:List Fact) (a:Int) (p:List Int):Bool:=(ls.filter (Gp a p)).all (fun l=> !IG (A1 l))&&FI n ls a p
set_option maxHeartbeats 4000000 in
theorem Wl (w:AK) (ls:List Fact) (a:Int) (p:List Int) (c:Bool) (hokL: ∀l∈ls,GF l) (hln:ls.length≤1000000) (hp:p.length<50):Pure Tryz.prog 234 [.a (Gc w ls a p c)] (.b (HI w.owner.length ls a p)):=by
 refine Pure.fit (by kernel_rfl) fun hf=>?_
 have⟨h1,h2,h3,h4⟩:=GL hf.1;have hM:=Mx;refine lK nb ?_;have hs:=Sn;have hfl:=LV (Gp a p) ls;have hok: ∀l∈ls.filter (Gp a p),GF l:=fun l hl=>hokL l (JZ.1 hl).1
 conv=>whnf
 repeat'((first|apply st|(apply sq;intro K U)|(apply si;intro A B Y Z)|(apply Y;clear Z B Y A)|(apply U;clear U K)|refine⟨nb,?_⟩|refine Pure.use (ZY _ _ _ _ _ hokL hln) ?_|fail)<;>conv=>whnf)
 generalize hos:ls.filter (Gp a p)=os at *;have hV:HI w.owner.length ls a p=(os.all (fun l=> !IG (A1 l))&&FI w.owner.length ls a p):=by rw[HI,hos]
 refine B4 os.length (fun k (_:Unit)=>[(11,eI (A6 k))]) (fun k _=>[]) (fun k _=>HI w.owner.length ls a p=((os.drop k).all (fun l=> !IG (A1 l))&&FI w.owner.length ls a p)) () rfl hV hs ?_;clear hs;rintro k - σ hk hn hs
 conv=>whnf
 repeat'((first|apply st|(apply sq;intro K U)|(apply si;intro A B Y Z)|(apply Y;clear Z B Y A)|(apply U;clear U K)|refine⟨rfl,?_⟩|refine⟨nb,?_⟩|refine NB ?_|refine ld ?_|refine sn fun σ hs=>?_|(refine fc (fun x hx hlt hc=>?_) (fun hk hc=>?_)<;>(try rw[hc])<;>clear hc)|refine Pure.use (HR _ (hok _ (B2 (by assumption)))) ?_|refine Pure.use (XE _ _ _ _ _ hokL (by omega)) ?_|(constructor<;>intro hc<;>(try rw[hc])<;>(replace hc:=bp hc))|(intro nn hnn;generalize hg:BC _ nn _=σ;refine al hg fun hs=>?_;clear hg)|clear U K)<;>conv=>whnf)
 all_goals first
  | (have hst:IG (A1 x)=true:=by clear hV hn;cases hz:(A1 x).2<;>cases hy:((A1 x).1.cls==2)<;>simp_all [IG]
     exact AI (by rw[hn,drop_cons hx,NA,hst];simp))
  | (have hst:IG (A1 x)=false:=by clear hV hn;cases hz:(A1 x).2<;>cases hy:((A1 x).1.cls==2)<;>simp_all [IG]
     exact⟨hlt,(),rfl,by rw[hn,drop_cons hx,NA,hst];simp,hs.take 0⟩)
  | exact AI (by rw[hn,Al (by assumption)];simp)
end Go.Gl
