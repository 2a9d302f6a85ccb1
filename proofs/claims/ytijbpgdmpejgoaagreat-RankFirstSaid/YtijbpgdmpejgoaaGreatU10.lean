import Derived.Test.YtijbpgdmpejgoaaGreatU9
set_option linter.all false
set_option linter.defProp false
noncomputable section
namespace Go.Gl
open Go.Proofs
attribute [local irreducible] BJ A2 Ak AW AM Aj AV AX AN Ai AR AU A5 BF Sat Ad BD Al W
def eP (xs:List Int) (f:Bool) (x:Int):Pure Tryz.prog 154 [.l (iL xs) f,eI x] (.b (xs.contains x)):=Pure.fit (by kernel_rfl) fun hf=>Zi xs f x (Jb hf.1)
def Cf (w:AK) (f:Fact):Bool:=decide (CZ f 24≤24)&&(decide (EB f≤12)&&Bj w f)
def ba (w:AK) (f:Fact):Pure Tryz.prog 94 [.a (BE w),.a (xF f)] (.b (Cf w f)):=by
 refine pX kZ ?_
 conv=>whnf
 repeat'((first|apply st|(apply sq;intro K U)|(apply si;intro A B Y Z)|(apply Y;clear Z B Y A)|(apply U;clear U K)|refine⟨rfl,?_⟩|refine⟨kZ,?_⟩|refine Pure.use (bB _) ?_|(constructor<;>intro hc<;>(try rw[hc])<;>(replace hc:=bp hc))|fail)<;>conv=>whnf)
 ·have:=J5 f 24 (by omega) hc
  refine(bn f (by simp only[Af];omega)).use ?_
  conv=>whnf
  repeat'((first|apply st|(apply Y;clear Z B Y A)|(apply U;clear U K)|refine⟨rfl,?_⟩|refine⟨kZ,?_⟩|refine Pure.use (du _ _) ?_|(constructor<;>intro hc<;>(try rw[hc])<;>(replace hc:=bp hc))|fail)<;>conv=>whnf)
  ·exact AI (by simp[Cf,hc,‹CZ f 24≤24›])
  ·exact AI (by simp[Cf, *];intros;omega)
 ·exact AI (by simp[Cf];intros;omega)
def gd (i:Nat) (pre:List Int) (c:Int):Bool:=decide (3≤c)&&(decide (c<3+i)&& !pre.contains c)
def Le (i:Nat):List Int→List Int→Bool
 | _,[]=>true
 | pre,c::r=>gd i pre c&&Le i (pre++[c]) r
def IK:Nat→List (List Int)→Bool
 | _,[]=>true
 | i,l::r=>decide (l.length≤3)&&(Le i [] l&&IK (i+1) r)
def Dn (g:List (List Int)):Bool:=decide (g.length≤16)&&IK 0 g
def RJ {ls:List (List Int)} {g:Bool} (h:FA (.l (Ec ls) g)):ls.length≤Af∧ ∀l∈ls,l.length≤Af:=by
 simp only[Ev,BQ,I2,DW]at h;exact⟨h.1,fun l hl=>(h.2 l hl).1.1⟩
def eT (g:List (List Int)) (f:Bool):Pure Tryz.prog 123 [.l (Ec g) f] (.b (Dn g)):=by
 refine Pure.fit (by kernel_rfl) fun hf=>?_
 have⟨g1,g2⟩:=RJ hf.1;have hM:=Mx;refine ml kZ ?_
 conv=>whnf
 repeat'((first|apply st|(apply sq;intro K U)|(apply si;intro A B Y Z)|(apply Y;clear Z B Y A)|(apply U;clear U K)|refine⟨rfl,?_⟩|(constructor<;>intro hc<;>(try rw[hc])<;>(replace hc:=bp hc)<;>(try simp(disch:=omega) only[BQ,wrap64,AL]at hc))|clear U K)<;>conv=>whnf)
 ·exact AI (by simp[Dn];intros;omega)
 ·refine B2 g.length (fun k (_:Unit)=>[(3,eI (A4 k))]) (fun _ _=>[]) (fun k _=>Dn g=IK k (g.drop k)) () rfl (by simp[Dn];omega) Sat.nil ?_
  rintro k - σ hk hn hs
  conv=>whnf
  repeat'((first|apply st|(apply sq;intro K U)|(apply si;intro A B Y Z)|(apply Y;clear Z B Y A)|(apply U;clear U K)|refine⟨rfl,?_⟩|refine ix ?_|(refine fc (fun x hx hlt hc=>?_) (fun hk hc=>?_)<;>(try rw[hc])<;>clear hc)|(constructor<;>intro hc<;>(try rw[hc])<;>(replace hc:=bp hc)<;>(try simp(disch:=omega) only[BQ,wrap64,AL]at hc))|clear U K)<;>conv=>whnf)
  ·exact AI (by rw[hn,drop_cons hx,IK];simp;intros;omega)
  ·revert x
   rintro l hl hl3;have hll:=g2 l (B5 hl);have hn':Dn g=(Le k [] l&&IK (k+1) (g.drop (k+1))):=by rw[hn,drop_cons hl,IK];simp;intros;omega
   refine B2 l.length (fun j (_:Unit)=>[(4,eI (A4 j))]) (fun _ _=>[]) (fun j _=>Dn g=(Le k (l.take j) (l.drop j)&&IK (k+1) (g.drop (k+1)))) () rfl (by rw[hn'];rfl) Sat.nil ?_;rintro j - σ hj hm hs
   conv=>whnf
   repeat'((first|apply st|(apply sq;intro K U)|(apply si;intro A B Y Z)|(apply Y;clear Z B Y A)|(apply U;clear U K)|apply dr|refine⟨rfl,?_⟩|refine ix ?_|refine uU ?_|(refine fc (fun x hx hlt hc=>?_) (fun hk hc=>?_)<;>(try rw[hc])<;>clear hc)|refine Pure.use (eP _ _ _) ?_|(constructor<;>intro hc<;>(try rw[hc])<;>(replace hc:=bp hc)<;>(try simp(disch:=omega) only[BQ,wrap64,AL]at hc))|clear U K)<;>conv=>whnf)
   ·exact AI (by rw[hm,drop_cons hx,Le,gd,hc];simp)
   ·refine⟨hlt,(),rfl,?_,Sat.nil⟩
    rw[hm,drop_cons hx,Le,gd,hc,AO hx];simp[*]
   ·exact AI (by rw[hm,drop_cons hx,Le,gd];simp;intros;omega)
   ·exact AI (by rw[hm,drop_cons hx,Le,gd];simp;intros;omega)
   ·refine⟨by assumption,(),rfl,?_,Sat.nil⟩
    rw[hm,Ah hk,Le,E7]
  ·exact AI (by rw[hn,Ah hk];rfl)
def KM:Int→List Int→Bool
 | _,[]=>true
 | n,s::r=>s==n&&KM (n+1) r
def Co:Int→List PJ→Bool
 | _,[]=>true
 | n,c::r=>decide (c.AT.length≤4)&&(decide (c.parents.length≤3)&&(KM n c.AT&&Co (n+c.AT.length) r))
def EA (w:AK) (c n:Int):List (Int×Int)→List (Int×Int)→Bool
 | _,[]=>true
 | pre,x::r=>decide (0≤x.1)&&(decide (x.1<n)&&(hasB w c x.1&&(Q9 x.2&&(pre.all (fun y=>y.1 != x.1)&&EA w c n (pre++[x]) r))))
def c0 (g:List (List Int)) (c:Int):Bool:= !((CA g).getD c.toNat []).isEmpty
def GH (w:AK) (n:Int):Nat→List PJ→Bool
 | _,[]=>true
 | i,c::r=>c0 w.parents ((i:Int)+3)&&(EA w ((i:Int)+3) n [] c.inits&&GH w n (i+1) r)
def BG (p:Prog):Bool:=decide (p.AP.length≤10)&&(Co 0 p.AP&&((Bu p.AP:Int)==p.AT&&(Dn (A6 p)&&GH (AS p) (Bu p.AP) 0 p.AP)))
def pK {c:PJ} (h:Hn (PS c)):c.parents.length≤Af∧c.AT.length≤Af∧c.inits.length≤Af:=by
 simp only[PS,DW,Ev,BQ]at h;exact⟨h.1.1,h.2.1.1,h.2.2.1.1⟩
def KY {p:Prog} (h:FA (.a (BR p))):hQ p:=by
 refine⟨(Ff h).1,fun c hc=>?_⟩;simp only[BR,G0,DW,Ev,I2]at h;exact pK (h.1.2 c hc)
def bY (p:Prog) (hk0:p.AP.length≤1000):Pure Tryz.prog 91 [.a (BR p)] (.l (Ec (A6 p)) false):=Pure.fit (by kernel_rfl) fun hf=>Wd p (KY hf.1) hk0
def FO: ∀(cs:List PJ) (n:Int),Co n cs=true→Bu cs≤4*cs.length∧ ∀c∈cs,c.parents.length≤3∧c.AT.length≤4
 | [],_,_=>⟨JT _,fun _ h=>by cases h⟩
 | c::r,n,h=>by
   simp only[Co,BY,Ce]at h;have⟨h1,h2⟩:=FO r _ h.2.2.2;refine⟨by simp only[Bu,E8,List.sum_cons,KH]at *;omega,fun d hd=>?_⟩;rcases GB.1 hd with rfl|hd
   ·exact⟨h.2.1,h.1⟩
   ·exact h2 d hd
def Qf {i:Nat}: ∀(r pre:List Int),Le i pre r=true→pre.Nodup→(pre++r).Nodup∧ ∀c∈r,(3:Int)≤c∧c<3+(i:Int)
 | [],pre,_,h=>⟨by simpa using h,fun _ h=>by cases h⟩
 | c::r,pre,h,hn=>by
   simp only[Le,gd,BY,Ce,Bool.not_eq_true']at h;have hc:c∉pre:=by simpa using h.1.2.2
   obtain⟨h1,h2⟩:=Qf r (pre++[c]) h.2 (List.nodup_append.2 ⟨hn,by simp,fun a ha b hb=>by simp at hb;subst hb;exact fun e=>hc (e ▸ ha)⟩);refine⟨by simpa using h1,fun d hd=>?_⟩;rcases GB.1 hd with rfl|hd
   ·exact⟨h.1.1,h.1.2.1⟩
   ·exact h2 d hd
def OY: ∀(g:List (List Int)) (k:Nat),IK k g=true→ ∀(i:Nat) (l:List Int),g[i]? =some l→l.length≤3∧l.Nodup∧ ∀c∈l,(3:Int)≤c∧c<3+((k+i:Nat):Int)
 | [],_,_,_,_,h=>by cases h
 | l ::r,k,h,i,l',hi=>by
   simp only[IK,BY,Ce]at h;cases i with
   | zero=>
     simp at hi;subst hi;obtain⟨h1,h2⟩:=Qf l [] h.2.1 .nil;exact⟨h.1,by simpa using h1,by simpa using h2⟩
   | succ i=>
     simp at hi;have:=OY r (k+1) h.2.2 i l' hi;rw[show k+(i+1)=k+1+i by omega];exact this
def Du {g:List (List Int)} (h:Dn g=true):IN g:=by
 simp only[Dn,BY,Ce]at h;refine⟨h.1,fun i l hi=>?_⟩;have:=OY g 0 h.2 i l hi;simpa using this
def JM {g:List (List Int)} (h:IN g):ordered g:=by
 intro c p hp;unfold par at hp;split at hp
 ·cases hp
 ·rename_i h3
  rw[DY]at hp;cases hq:g[c - 3]? with
  | none=>rw[hq]at hp;cases hp
  | some l=>
    rw[hq]at hp;have:=(h.2 _ _ hq).2.2 p hp;omega
def F5 {i:Nat} {cs:List PJ} {c:Int} (h:c∈BW i cs):(3:Int)+i≤c∧c<3+i+cs.length:=by
 induction cs generalizing i with
 | nil=>cases h
 | cons d r ih=>
   simp only[BW,Fs,List.mem_replicate]at h;simp only[KH];rcases h with⟨_,rfl⟩|h
   ·omega
   ·have:=ih h;omega
def OQ {p:Prog} (h1:p.AP.length≤10) (h2:Co 0 p.AP=true) (h3:Dn (A6 p)=true):KE (AS p):=by
 have hl:(AS p).parents.length=p.AP.length:=by simp[AS,A6]
 refine⟨by omega,JM (Du h3),fun c hc=>?_,?_⟩
 ·have:=F5 hc
  rw[hl];omega
 ·have:=(FO _ _ h2).1
  simp only[AS,Cd];omega
def YX (p : Prog):Pure Tryz.prog 93 [.a (BR p)] (.b (BG p)):=by
 refine Pure.fit (by kernel_rfl) fun hf=>?_
 have F:=KY hf.1;have hcl:=F.1;have hM:=Mx;refine pY kZ ?_
 conv=>whnf
 repeat'((first|apply st|(apply sq;intro K U)|(apply si;intro A B Y Z)|(apply Y;clear Z B Y A)|(apply U;clear U K)|refine⟨rfl,?_⟩|(constructor<;>intro hc<;>(try rw[hc])<;>(replace hc:=bp hc)<;>(try simp(disch:=omega) only[BQ,wrap64,AL]at hc))|clear U K)<;>conv=>whnf)
 ·exact AI (by simp[BG];intros;omega)
 have h10:p.AP.length≤10:=by omega
 refine B2 p.AP.length (fun k (n:Int)=>[(3,eI n),(4,eI (A4 k))]) (fun _ _=>[]) (fun k n=>Co 0 p.AP=Co n (p.AP.drop k)∧0≤n∧n+Bu (p.AP.drop k)=Bu p.AP∧n≤4*k) 0 rfl (by simp) Sat.nil ?_;rintro k n σ hk ⟨hn,hn0,hn1,hn2⟩ hs
 conv=>whnf
 repeat'((first|apply st|(apply sq;intro K U)|(apply si;intro A B Y Z)|(apply Y;clear Z B Y A)|(apply U;clear U K)|refine⟨rfl,?_⟩|refine⟨kZ,?_⟩|refine ix ?_|(refine fc (fun x hx hlt hc=>?_) (fun hk hc=>?_)<;>(try rw[hc])<;>clear hc)|refine Pure.use (bY _ (by omega)) ?_|refine Pure.use (eT _ _) ?_|(constructor<;>intro hc<;>(try rw[hc])<;>(replace hc:=bp hc)<;>(try simp(disch:=omega) only[BQ,wrap64,AL]at hc))|clear U K)<;>conv=>whnf)
 ·exact AI (by simp only[BG];rw[hn,drop_cons hx,Co];simp;intros;omega)
 ·have hms:n+(x.AT.length:Int)+Bu (p.AP.drop (k+1))=Bu p.AP:=by
   rw[drop_cons hx]at hn1;simp only[Bu,E8,List.sum_cons]at hn1 ⊢;omega
  have hsl:=(F.2 x (B5 hx)).2.1
  have hn':Co 0 p.AP=(KM n x.AT&&Co (n+x.AT.length) (p.AP.drop (k+1))):=by
   have a1:x.AT.length≤4:=by omega
   have a2:x.parents.length≤3:=by omega
   rw[hn,drop_cons hx,Co];simp only[a1,a2,decide_true,E7]
  revert x
  rintro c hx hcs h3 hms hsl hn';refine B2 c.AT.length (fun j (m:Int)=>[(3,eI m),(6,eI (A4 j))]) (fun _ _=>[]) (fun j m=>Co 0 p.AP=(KM m (c.AT.drop j)&&Co (n+c.AT.length) (p.AP.drop (k+1)))∧m=n+j) n rfl ⟨hn',by simp⟩ Sat.nil ?_;rintro j m σ hj ⟨hm,he⟩ hs
  conv=>whnf
  repeat'((first|apply st|(apply sq;intro K U)|(apply si;intro A B Y Z)|(apply Y;clear Z B Y A)|(apply U;clear U K)|refine⟨rfl,?_⟩|refine ix ?_|(refine fc (fun x hx hlt hc=>?_) (fun hk hc=>?_)<;>(try rw[hc])<;>clear hc)|(constructor<;>intro hc<;>(try rw[hc])<;>(replace hc:=bp hc))|clear U K)<;>conv=>whnf)
  ·exact AI (by simp only[BG];rw[hm,drop_cons (by assumption),KM];simp[hc])
  ·refine⟨hlt,_,rfl,⟨?_,?_⟩,hs⟩
   ·rw[hm,drop_cons (by assumption),KM,wrap64 (by omega) (by omega)];simp[hc]
   ·rw[wrap64 (by omega) (by omega)];omega
  ·refine⟨by assumption,m,rfl,⟨?_,by omega,by omega,by omega⟩,hs⟩
   rw[hm,Ah (by assumption),KM,E7,he];congr 1;omega
 ·exact AI (by simp only[BG];rw[hn,drop_cons hx,Co];simp;intros;omega)
 ·have hne:n=Bu p.AP:=by rw[Ah hk]at hn1;simpa[Bu]using hn1
  exact AI (by simp only[BG];rw[hc];simp)
 ·have hne:n=Bu p.AP:=by rw[Ah hk]at hn1;simpa[Bu]using hn1
  have hsb:Co 0 p.AP=true:=by rw[hn,Ah hk];rfl
  have hms:=(FO _ _ hsb).1;have hok:=OQ h10 hsb hc
  have hcb:BG p=GH (AS p) n 0 p.AP:=by
   simp only[BG,hsb,hc,←hne];simp[*]
  refine(M3 p F (by omega) (by omega)).use ?_
  conv=>whnf
  repeat'((first|apply st|(apply sq;intro K U)|(apply si;intro A B Y Z)|(apply Y;clear Z B Y A)|(apply U;clear U K)|refine sn fun σ hs=>?_|(intro nn hnn;generalize hg:BA _ nn _=σ;refine al hg fun hs=>?_;clear hg)|fail)<;>conv=>whnf)
  refine B2 p.AP.length (fun k (_:Unit)=>[(9,eI (A4 k))]) (fun _ _=>[.box nn (BE (AS p))]) (fun k _=>BG p=GH (AS p) n k (p.AP.drop k)) () rfl (by rw[hcb];rfl) hs ?_;rintro k - σ hk hn hs
  conv=>whnf
  repeat'((first|apply st|(apply sq;intro K U)|(apply si;intro A B Y Z)|(apply Y;clear Z B Y A)|(apply U;clear U K)|refine⟨rfl,?_⟩|(refine fc (fun x hx hlt hc=>?_) (fun hk hc=>?_)<;>(try rw[hc])<;>clear hc)|clear U K)<;>conv=>whnf)
  ·have e3 : IntKind.i64.wrap (A4 k+3)=(k:Int)+3:=by rw[AL (by omega),wrap64 (by omega) (by omega)]
   rw[e3];have hgl:(A6 p).length=p.AP.length:=by simp[A6]
   refine(jM (A6 p) false ((k:Int)+3) (Du hc) (by omega) (by omega)).use ?_
   conv=>whnf
   repeat'((first|apply st|(apply sq;intro K U)|(apply si;intro A B Y Z)|(apply Y;clear Z B Y A)|(apply U;clear U K)|refine ix ?_|(constructor<;>intro hc<;>(try rw[hc])<;>(replace hc:=bp hc))|clear U K)<;>conv=>whnf)
   ·have hlb:c0 (AS p).parents ((k:Int)+3)=false:=by
     show(!((CA (A6 p)).getD ((k:Int)+3).toNat []).isEmpty)=false;rw[hc];rfl
    exact AI (by rw[hn,drop_cons hx,GH,hlb];rfl)
   ·have hil:=(F.2 x (B5 hx)).2.2
    have hn':BG p=(EA (AS p) ((k:Int)+3) n [] x.inits&&GH (AS p) n (k+1) (p.AP.drop (k+1))):=by
     have hlb:c0 (AS p).parents ((k:Int)+3)=true:=by
      show(!((CA (A6 p)).getD ((k:Int)+3).toNat []).isEmpty)=true;rw[hc];rfl
     rw[hn,drop_cons hx,GH,hlb];rfl
    revert x
    rintro c hx hil hn';refine B2 c.inits.length (fun j (_:Unit)=>[(14,eI (A4 j))]) (fun _ _=>[.box nn (BE (AS p))]) (fun j _=>BG p=(EA (AS p) ((k:Int)+3) n (c.inits.take j) (c.inits.drop j)&&GH (AS p) n (k+1) (p.AP.drop (k+1)))) () rfl (by rw[hn'];rfl) hs ?_;rintro j - σ hj hm hs
    conv=>whnf
    repeat'((first|apply st|(apply sq;intro K U)|(apply si;intro A B Y Z)|(apply Y;clear Z B Y A)|(apply U;clear U K)|apply dr|refine⟨rfl,?_⟩|refine⟨kZ,?_⟩|refine ix ?_|refine ld ?_|(refine fc (fun x hx hlt hc=>?_) (fun hk hc=>?_)<;>(try rw[hc])<;>clear hc)|(constructor<;>intro hc<;>(try rw[hc])<;>(replace hc:=bp hc))|clear U K)<;>conv=>whnf)
    ·refine(Zj (AS p) ((k:Int)+3) x.1 hok (by omega) (by rw[show(AS p).parents=A6 p from rfl];omega) (by omega) (by rw[show(AS p).owner=BW 0 p.AP from rfl,Cd];omega)).use ?_
     conv=>whnf
     repeat'((first|apply st|(apply sq;intro K U)|(apply si;intro A B Y Z)|(apply Y;clear Z B Y A)|(apply U;clear U K)|apply dr|refine ix ?_|refine Pure.use (fv _) ?_|(constructor<;>intro hc<;>(try rw[hc])<;>(replace hc:=bp hc))|clear U K)<;>conv=>whnf)
     ·exact AI (by rw[hm,drop_cons hx,EA];simp[*])
     ·have hm':BG p=((c.inits.take j).all (fun y=>y.1 != x.1)&&(EA (AS p) ((k:Int)+3) n (c.inits.take (j+1)) (c.inits.drop (j+1))&&GH (AS p) n (k+1) (p.AP.drop (k+1)))):=by
       have b1:decide (0≤x.1)=true:=decide_eq_true (by assumption);have b2:decide (x.1<n)=true:=decide_eq_true (by assumption);rw[hm,drop_cons hx,EA,AO hx,b1,b2,‹hasB _ _ _=true›,hc];simp only[E7,Bool.and_assoc]
      revert x
      rintro x hxj hx0 hx1 hhb hbt hm';refine B2 j (fun i (_:Unit)=>[(15,eI (A4 i))]) (fun _ _=>[.box nn (BE (AS p))]) (fun i _=>BG p=(((c.inits.take j).drop i).all (fun y=>y.1 != x.1)&&(EA (AS p) ((k:Int)+3) n (c.inits.take (j+1)) (c.inits.drop (j+1))&&GH (AS p) n (k+1) (p.AP.drop (k+1))))) () rfl (by rw[hm'];rfl) hs ?_;rintro i - σ hi hl hs;rcases Nat.lt_or_ge i j with hij|hij
      ·obtain⟨y,hy⟩: ∃y,c.inits[i]? =some y:=⟨_,DJ (by omega)⟩
       have hy':(c.inits.take j)[i]? =some y:=by rw[List.getElem?_take,if_pos hij,hy]
       conv=>whnf
       repeat'((first|apply st|(apply sq;intro K U)|(apply si;intro A B Y Z)|(apply Y;clear Z B Y A)|(apply U;clear U K)|apply dr|refine⟨rfl,?_⟩|refine ix ?_|(constructor<;>intro hc<;>(try rw[hc])<;>(replace hc:=bp hc)<;>(try simp(disch:=omega) only[BQ,wrap64,AL]at hc)<;>try(exfalso;omega))|clear U K)<;>conv=>whnf)
       ·exact AI (by rw[hl,drop_cons hy',My,hc];simp)
       ·refine⟨hij,(),rfl,?_,hs⟩
        have hc':(y.1 != x.1)=true:=by simpa using hc
        rw[hl,drop_cons hy',My,hc',E7]
      ·conv=>whnf
       repeat'((first|apply st|(apply sq;intro K U)|(apply si;intro A B Y Z)|(apply Y;clear Z B Y A)|(apply U;clear U K)|refine⟨rfl,?_⟩|(constructor<;>intro hc<;>(try rw[hc])<;>(replace hc:=bp hc)<;>(try simp(disch:=omega) only[BQ,wrap64,AL]at hc)<;>try(exfalso;omega))|clear U K)<;>conv=>whnf)
       refine⟨by assumption,(),rfl,?_,hs⟩;rw[hl,List.drop_of_length_le (by rw[KG];omega),List.all_nil,E7]
     ·exact AI (by rw[hm,drop_cons hx,EA];simp[*])
    ·exact AI (by rw[hm,drop_cons hx,EA];simp;intros;omega)
    ·exact AI (by rw[hm,drop_cons hx,EA];simp;intros;omega)
    ·refine⟨by assumption,(),rfl,?_,hs⟩
     rw[hm,Ah hk,EA,E7]
  ·exact AI (by rw[hn,Ah hk];rfl)
 ·have hne:n=Bu p.AP:=by rw[Ah hk]at hn1;simpa[Bu]using hn1
  exact AI (by simp only[BG];rw[←hne];simp[hc])
def Fe (f:Int→Int→List Int→Option (List Int)) (op size:Int):Nat→List Int→List Int→Option (List Int)
 | _,[],s=>some s
 | i,k::r,s=>match f k (if op=9∧i=1 then size+1 else size) s with
   | none=>none
   | some s'=>Fe f op size (i+1) r s'
def D7 (p:Prog) (next:Bool) (size:Int) (x:Node):Bool:=((x.kids.length:Int)==Ir p x)&&(Lc p x size&&(x.op != 18||next))
def CP (p:Prog) (next:Bool):Nat→Int→Int→List Int→Option (List Int)
 | 0,_,_,_=>none
 | d+1,n,size,s=>
   if n<0∨(p.nodes.length:Int)≤n∨0≤s.getD n.toNat 0 then none else
   match p.nodes[n.toNat]? with
   | none=>none
   | some x=>if D7 p next size x then Fe (CP p next d) x.op size 0 x.kids (s.set n.toNat size)else none
def Sm (v:V) (s:List Int) (o:Option (List Int)) (r:R) (post:List At):Prop:=
 ∃s':List Int,s'.length=s.length∧post= [.own v 1 (iL s')]∧((o=some s'∧r= .ret (.b true))∨(o=none∧r= .ret (.b false)))
def Ni {v:V} {s s':List Int} {o:Option (List Int)} {σ:AH} {rest:List At} (hs:Sat σ (.own v 1 (iL s')::rest)) (hl:s'.length=s.length) (ho:o=none):A2 σ (.b false) fun r σ'=> ∃post,Sm v s o r post∧Sat σ' post:=
 Ap hs (.cons₂ _ (LR _)) (.refl _) fun σ' hs'=>⟨_,⟨s',hl,rfl,.inr ⟨ho,rfl⟩⟩,hs'⟩
def Zl {p:Prog} (h:FA (.a (BR p))) {x:Node} (hx:x∈p.nodes):x.kids.length≤Af:=by
 simp only[BR,G0,DW,Ev,I2]at h
 have h2:Hn (It x):=by
  first|exact h.2.2.2.2.1.2 x hx|exact h.2.2.2.2.2.1.2 x hx|exact h.2.2.2.1.2 x hx|exact h.2.2.1.2 x hx|exact h.2.1.2 x hx
 simp only[It,DW,Ev,BQ]at h2
 first|exact h2.2.2.1.1|exact h2.2.2.1|exact h2.1
def M4 {p:Prog} {next:Bool} {d:Nat} {n size:Int} {s:List Int} {x:Node} {y:Int} (h0:0≤n) (h1:n<(p.nodes.length:Int)) (hs:s[n.toNat]? =some y) (hy:y<0) (hx:p.nodes[n.toNat]? =some x) :
    CP p next (d+1) n size s=if D7 p next size x then Fe (CP p next d) x.op size 0 x.kids (s.set n.toNat size)else none:=by
 have e:s.getD n.toNat 0=y:=by rw[DY,hs];rfl
 simp only[CP];rw[if_neg (by rw[e];omega),hx]
def Lr {p:Prog} {next:Bool} {d:Nat} {n size:Int} {s:List Int} (h:n<0∨(p.nodes.length:Int)≤n∨0≤s.getD n.toNat 0):CP p next (d+1) n size s=none:=by
 simp only[CP];rw[if_pos h]
set_option maxHeartbeats 4000000 in
def ZK (p : Prog) (next:Bool): ∀d:Nat,d≤12→ ∀(n size depth:Int) (s:List Int) (v:V),depth=13 - d→0≤size→size+d≤100→s.length=p.nodes.length→(B7 v).isSome=true→
    Bk Tryz.prog 96 [.a (BR p),eI n,eI size,eI depth,.b next,v] [.own v 1 (iL s)] (Sm v s (CP p next d n size s)):=by
 intro d
 induction d with
 | zero=>
   intro _ n size depth s v hd h0 h1 hl hv σ hs;refine BJ.fit (by kernel_rfl) fun hf=>?_
   have⟨p1,p2,p3,p4⟩:=Ff hf.1;have hM:=Mx;refine gC kZ ?_
   conv=>whnf
   repeat'((first|apply st|(apply sq;intro K U)|(apply si;intro A B Y Z)|(apply Y;clear Z B Y A)|(apply U;clear U K)|refine⟨rfl,?_⟩|refine oi ?_|refine ol fun x hx=>?_|(constructor<;>intro hc<;>(try rw[hc])<;>(replace hc:=bp hc)<;>(try simp(disch:=omega) only[BQ,wrap64,AL]at hc)<;>try(exfalso;omega))|clear U K)<;>conv=>whnf)
   all_goals exact Ap hs (.refl _) (.refl _) fun σ' hs'=>⟨_,⟨s,rfl,rfl,.inr ⟨rfl,rfl⟩⟩,hs'⟩
 | succ d ih =>
   intro hd12 n size depth s v hd h0 h1 hl hv σ hs;refine BJ.fit (by kernel_rfl) fun hf=>?_
   have⟨p1,p2,p3,p4⟩:=Ff hf.1;have hM:=Mx;refine gC kZ ?_
   conv=>whnf
   repeat'((first|apply st|(apply sq;intro K U)|(apply si;intro A B Y Z)|(apply Y;clear Z B Y A)|(apply U;clear U K)|apply dr|refine rk ?_ ?_|exact fun s e=>by cases e;rfl|refine⟨rfl,?_⟩|refine⟨kZ,?_⟩|refine iq fun x hx=>?_|refine ld ?_|refine sn fun σ hs=>?_|refine oi ?_|refine ol fun x hx=>?_|refine oset fun σ hs=>?_|refine Pure.use (eM _ _) ?_|refine Pure.use (Xs _ _ _) ?_|(constructor<;>intro hc<;>(try rw[hc])<;>(replace hc:=bp hc)<;>(try simp(disch:=omega) only[BQ,wrap64,AL]at hc)<;>try(exfalso;omega))|(intro nn hnn;generalize hg:BA _ nn _=σ;refine al hg fun hs=>?_;clear hg)|clear U K)<;>conv=>whnf)
   ·exact Ni hs (by simp) (by rw[M4 (by assumption) (by assumption) (by assumption) (by assumption) hx];simp[D7, *])
   rotate_left
   ·cases hc
   rotate_left
   ·exact Ni hs (by simp) (by rw[M4 (by assumption) (by assumption) (by assumption) (by assumption) hx];simp[D7, *])
   ·exact Ni hs (by simp) (by rw[M4 (by assumption) (by assumption) (by assumption) (by assumption) hx];simp[D7, *])
   ·exact Ni hs rfl (Lr (.inr (.inr (by rw[DY,hx];exact hc))))
   ·exact Ni hs rfl (Lr (.inr (.inl hc)))
   ·exact Ni hs rfl (Lr (.inl hc))
   all_goals
    have hW:CP p next (d+1) n size s=Fe (CP p next d) x.op size 0 x.kids (s.set n.toNat size):=by
     rw[M4 (by assumption) (by assumption) (by assumption) (by assumption) hx];simp[D7, *]
    rw[hW]
    rename Node=>nd
    refine B2 nd.kids.length (fun k (_:List Int)=>[(14,eI (A4 k))]) (fun _ s'=>[.own v 1 (iL s'),.obj nn (.cs (It nd))]) (fun k s'=>s'.length=s.length∧Fe (CP p next d) nd.op size 0 nd.kids (s.set n.toNat size)=Fe (CP p next d) nd.op size k (nd.kids.drop k) s') (s.set n.toNat size) rfl ⟨by simp,by simp⟩ hs ?_;clear hs;rintro k s' σ hk ⟨hl',hkids⟩ hs;have hkm:=Zl hf.1 (B5 hx);have hck:A4 k=k:=AL (by omega);by_cases hlt:k<nd.kids.length
    ·obtain⟨kid,hkid⟩: ∃kid,nd.kids[k]? =some kid:=⟨_,DJ hlt⟩
     have hrec:=fun kid sz h0 h1=>ih (by omega) kid sz (depth+1) s' v (by omega) h0 h1 (by omega) hv
     conv=>whnf
     repeat'((first|apply st|(apply sq;intro K U)|(apply si;intro A B Y Z)|(apply Y;clear Z B Y A)|(apply U;clear U K)|apply dr|refine⟨rfl,?_⟩|refine⟨kZ,?_⟩|refine ix ?_|refine ld ?_|(refine fc (fun x hx hlt hc=>?_) (fun hk hc=>?_)<;>(try rw[hc])<;>clear hc)|(constructor<;>intro hc<;>(try rw[hc])<;>(replace hc:=bp hc)<;>(try simp(disch:=omega) only[BQ,wrap64,AL]at hc)<;>try(exfalso;omega))|clear U K)<;>conv=>whnf)
     all_goals try(exfalso;omega)
     all_goals try refine Il (enc:=fun i:Int=>[V.i .i64 i]) hkid hkm rfl ?_
     conv=>whnf
     all_goals try(exfalso;omega)
     all_goals
      have hK2:=hkids;rw[drop_cons hx,Fe]at hK2
      first
       | rw[if_pos (by omega)]at hK2
         rw[wrap64 (by omega) (by omega),wrap64 (by omega) (by omega)];refine(hrec x (size+1) (by omega) (by omega)).use hs ?_
       | rw[if_neg (by omega)]at hK2
         rw[wrap64 (by omega) (by omega)];refine(hrec x size (by omega) (by omega)).use hs ?_
      rintro r post σ' ⟨s2,hl2,rfl,⟨ho,rfl⟩|⟨ho,rfl⟩⟩ hs
      ·rw[ho]at hK2
       conv=>whnf
       repeat'((first|apply st|(apply sq;intro K U)|(apply si;intro A B Y Z)|(apply Y;clear Z B Y A)|(apply U;clear U K)|apply dr|refine⟨rfl,?_⟩|(constructor<;>intro hc<;>(try rw[hc])<;>(replace hc:=bp hc)<;>(try simp(disch:=omega) only[BQ,wrap64,AL]at hc))|clear U K)<;>conv=>whnf)
       all_goals first|(exfalso;cases hc;done)|exact⟨hlt,s2,rfl,⟨by omega,hK2⟩,hs⟩
      ·rw[ho]at hK2
       conv=>whnf
       repeat'((first|apply st|(apply sq;intro K U)|(apply si;intro A B Y Z)|(apply Y;clear Z B Y A)|(apply U;clear U K)|apply dr|refine⟨rfl,?_⟩|(constructor<;>intro hc<;>(try rw[hc])<;>(replace hc:=bp hc)<;>(try simp(disch:=omega) only[BQ,wrap64,AL]at hc))|clear U K)<;>conv=>whnf)
       all_goals first|exact Ni hs (by omega) hK2|(exfalso;cases hc;done)
    ·have hke:k=nd.kids.length:=by omega
     conv=>whnf
     repeat'((first|apply st|(apply sq;intro K U)|(apply si;intro A B Y Z)|(apply Y;clear Z B Y A)|(apply U;clear U K)|refine⟨rfl,?_⟩|refine ld ?_|(refine fc (fun x hx hlt hc=>?_) (fun hk hc=>?_)<;>(try rw[hc])<;>clear hc)|(constructor<;>intro hc<;>(try rw[hc])<;>(replace hc:=bp hc)<;>try(exfalso;omega))|clear U K)<;>conv=>whnf)
     all_goals try(exfalso;omega)
     rw[hke,Ah rfl]at hkids;exact Ap hs (.cons₂ _ (LR _)) (.refl _) fun σ' hs'=>⟨_,⟨s',hl',rfl,.inl ⟨(by first|rw[hW,hkids,Fe]|rw[hkids,Fe]),rfl⟩⟩,hs'⟩
end Go.Gl
namespace Go.Gl
variable {P:Program} {σ:AH} {env:Env}
def w8 {xs:List Fact} {f:Bool} {K:V→Prop} {ki:IntKind} {j:Int} (h: ∀x,xs[j.toNat]? =some x→K (.rp (xF x))) (h0:0≤j:=by omega) (h1:j<xs.length:=by omega):AW 6 none (.l (xs.map Fx) f) (.i ki j) K:=by
 refine iq (fun x hx=>?_) h0 h1 (by intro x;rw[Bd];rfl);rw[Bd];exact h x hx
def lo {l:List At} {i:Nat} {v:V} {sz:Nat} {es:List (List V)} {K:V→Prop} (hk:K (.i .i64 es.length)) (h:Sat σ l:=by assumption)
    (hi:l[i]? =some (.own v sz es):=by first|exact Pk|exact Pj|exact Ph|exact Pg|exact Pf|exact Pe) (hm:es.length≤Af:=by first|omega|(simp only[BQ,List.length_replicate,List.length_set,Af]at *;omega)):BD v K:=oT h i hi hm hk
def wc {α:Type} {enc:α→List V} {xs:List α} {f:Bool} {sz:Nat} {ki:IntKind} {j:Int} {K:V→AH→Prop} (h:K (.l ((xs.take j.toNat).map enc) (f&&decide (j=((xs.map enc).length:Nat)))) σ) (h0:0≤j:=by omega) (h1:j≤xs.length:=by first|omega|(simp only[BQ]at *;omega)) (hs: ∀x,(enc x).length=sz:=by intro x;first|rfl|simp|(rw[Bd];rfl)) :
    AV σ sz (.l (xs.map enc) f) none (some (.i ki j)) none K:=by
 refine⟨fun e he=>?_,?_⟩
 ·obtain⟨x,_,rfl⟩:=Mk.1 he
  exact hs x
 ·simp only[M0,BQ]
  refine⟨by omega,by omega,by omega,?_⟩;simpa[List.map_take]using h
def Sat.take {l:List At} (h:Sat σ l) (n:Nat):Sat σ (l.take n):=h.less (List.take_sublist _ _)
def CG {b:Bool} {σ σ':AH}:GC σ σ' (.l [] b) (.l [] false):= .l (fun h=>by cases h) .nil
def Nf {b:Bool} {σ σ':AH} {es:List (List V)}:GC σ σ' (.l es b) (.l es false):= .l (fun h=>by cases h) (FK.refl _ _ _)
mutual
def Qv {σ σ':AH}: ∀vs:List V,DK σ σ' vs vs
 | []=> .nil
 | v::r=> .cons (.refl v) (Qv r)
end
def Ej {σ σ':AH}: ∀es:List (List V),FK σ σ' es es
 | []=> .nil
 | e::r=> .cons (Qv e) (Ej r)
def ng {α:Type} {enc:α→List V} {xs:List α} {y:α} {l:List At} {i:Nat} {v x:V} {sz k:Nat} {vc:List V} {K:AH→Prop} (hk: ∀σ',Sat σ' (l.set i (.own v sz ((xs.set k y).map enc)))→K σ') (h:Sat σ l:=by assumption)
    (hi:l[i]? =some (.own v sz (xs.map enc)):=by first|exact Pk|exact Pj|exact Ph|exact Pg|exact Pf|exact Pe) (hc:cellsOf x=some vc:=by rfl) (he:vc=enc y:=by rfl) (hg:Eg enc sz:=by first|exact B0|exact DH|exact NH|exact Js|exact Ki)
    (hv:(B7 v).isSome=true:=by rfl) (h1:k<xs.length:=by first|omega|(simp only[BQ]at *;omega)):AX σ sz (Fw v sz k) x K:=oset hk h hi hc he hg hv h1
def BC {α:Type} (xs:List α) {k:Nat} (hk:k≤xs.length):(∃x,xs[k]? =some x∧k<xs.length)∨k=xs.length:=by
 rcases Nat.lt_or_ge k xs.length with h|h
 ·exact .inl ⟨_,DJ h,h⟩
 ·exact .inr (by omega)
def CK {α:Type} {enc:α→List V} {xs:List α} {k:Nat} {x:α} {A B:Prop} (h1:decide (A4 k<((xs.map enc).length:Nat))=true→A) (hx:xs[k]? =some x:=by assumption) (hm:xs.length≤Af:=by first|assumption|omega|simp[Af]<;>omega) :
    (decide (A4 k<((xs.map enc).length:Nat))=true→A)∧(decide (A4 k<((xs.map enc).length:Nat))=false→B):=by
 refine⟨h1,fun h=>?_⟩;have hlt:=(G7.1 hx).1;rw[AL (by omega),BQ]at h;have:=of_decide_eq_false h;omega
def DR {α:Type} {enc:α→List V} {xs:List α} {k:Nat} {A B:Prop} (h1:decide (A4 k<((xs.map enc).length:Nat))=false→B) (hx:k=xs.length:=by assumption) (hm:xs.length≤Af:=by first|assumption|omega|simp[Af]<;>omega) :
    (decide (A4 k<((xs.map enc).length:Nat))=true→A)∧(decide (A4 k<((xs.map enc).length:Nat))=false→B):=by
 refine⟨fun h=>?_,h1⟩;rw[AL (by omega),BQ]at h;have:=of_decide_eq_true h;omega
def GX {α:Type} {enc:α→List V} {xs:List α} {f:Bool} {sz:Nat} {K:V→Prop} {ki:IntKind} {j:Int} {x:α} (h:K (.rp (enc x))) (hx:xs[j.toNat]? =some x:=by assumption) (h0:0≤j:=by omega) (hs:(enc x).length=sz:=by first|rfl|simp|(rw[Bd];rfl)) :
    AW sz none (.l (xs.map enc) f) (.i ki j) K:=SR j.toNat hx (by omega) hs h
def NR {xs:List Fact} {f:Bool} {K:V→Prop} {ki:IntKind} {j:Int} {x:Fact} (h:K (.rp (xF x))) (hx:xs[j.toNat]? =some x:=by assumption) (h0:0≤j:=by omega):AW 6 none (.l (xs.map Fx) f) (.i ki j) K:=by
 refine GX ?_ hx h0;rw[Bd];exact h
class CB (b:Bool) (v:outParam Bool):Prop where
 h:b=v
instance :CB true true:=⟨rfl⟩
instance :CB false false:=⟨rfl⟩
instance {b:Bool} [i:CB b true]:CB (!b) false:=⟨by rw[i.h];rfl⟩
instance {b:Bool} [i:CB b false]:CB (!b) true:=⟨by rw[i.h];rfl⟩
instance {b x y v:Bool} [i:CB b true] [j:CB x v]:CB (bif b then x else y) v:=⟨by rw[i.h,j.h];rfl⟩
instance {b x y v:Bool} [i:CB b false] [j:CB y v]:CB (bif b then x else y) v:=⟨by rw[i.h,j.h];rfl⟩
instance {a b:Bool} [i:CB a true] [j:CB b true]:CB (a==b) true:=⟨by rw[i.h,j.h];rfl⟩
instance {a b:Bool} [i:CB a true] [j:CB b false]:CB (a==b) false:=⟨by rw[i.h,j.h];rfl⟩
instance {a b:Bool} [i:CB a false] [j:CB b true]:CB (a==b) false:=⟨by rw[i.h,j.h];rfl⟩
instance {a b:Bool} [i:CB a false] [j:CB b false]:CB (a==b) true:=⟨by rw[i.h,j.h];rfl⟩
instance {a b:Bool} [i:CB a true] [j:CB b true]:CB (a != b) false:=⟨by rw[i.h,j.h];rfl⟩
instance {a b:Bool} [i:CB a true] [j:CB b false]:CB (a != b) true:=⟨by rw[i.h,j.h];rfl⟩
instance {a b:Bool} [i:CB a false] [j:CB b true]:CB (a != b) true:=⟨by rw[i.h,j.h];rfl⟩
instance {a b:Bool} [i:CB a false] [j:CB b false]:CB (a != b) false:=⟨by rw[i.h,j.h];rfl⟩
def Er {A B:Prop} {b:Bool} [i:CB b true] (h:A):(b=true→A)∧(b=false→B):=⟨fun _=>h,fun e=>(by rw[i.h]at e;cases e)⟩
def De {A B:Prop} {b:Bool} [i:CB b false] (h:B):(b=true→A)∧(b=false→B):=⟨fun e=>(by rw[i.h]at e;cases e),fun _=>h⟩
def UR {A B:Prop} {b:Bool} [i:CB b true] (h:B):(b=false→A)∧(b=true→B):=⟨fun e=>(by rw[i.h]at e;cases e),fun _=>h⟩
def JS {A B:Prop} {b:Bool} [i:CB b false] (h:A):(b=false→A)∧(b=true→B):=⟨fun _=>h,fun e=>(by rw[i.h]at e;cases e)⟩
def wz {l:List At} {i:Nat} {v:V} {sz:Nat} {es:List (List V)} {ki:IntKind} {j:Int} {K:V→Prop} (hk:K (Fw v sz j.toNat)) (h:Sat σ l:=by assumption)
    (hi:l[i]? =some (.own v sz es):=by first|exact Pk|exact Pj|exact Ph|exact Pg|exact Pf|exact Pe) (h0:0≤j:=by omega) (h1:j<es.length:=by(simp only[BQ,List.length_set];omega)):AW sz none v (.i ki j) K:=
 cS h i j.toNat hi (by omega) (by omega) hk
def SH {α:Type} {enc:α→List V} {xs:List α} {x:α} {l:List At} {i:Nat} {v:V} {sz k:Nat} {agg:Option Nat} {K:V→Prop} (hk:cut agg (enc x) 0 K) (h:Sat σ l:=by assumption)
    (hi:l[i]? =some (.own v sz (xs.map enc)):=by first|exact Pk|exact Pj|exact Ph|exact Pg|exact Pf|exact Pe) (hx:xs[k]? =some x:=by assumption):Ad σ agg (Fw v sz k) K:=
 Hz h i hi (by rw[Pc,hx];rfl) hk
def oD {xs:List Fact} {x:Fact} {l:List At} {i:Nat} {v:V} {k:Nat} {agg:Option Nat} {K:V→Prop} (hk:cut agg (xF x) 0 K) (h:Sat σ l:=by assumption)
    (hi:l[i]? =some (.own v 6 (facts xs)):=by first|exact Pk|exact Pj|exact Ph|exact Pg|exact Pf|exact Pe) (hx:xs[k]? =some x:=by assumption):Ad σ agg (Fw v 6 k) K:=
 Hz h i hi (by rw[Pc,hx];exact congrArg some (Bd x)) hk
def Y7 {v:V} (h:(B7 v).isSome=true): ∃n l c,v= .sl n l c:=by
 cases v<;>first|(cases h;done)|exact⟨_,_,_,rfl⟩
def wk {l:List At} {i:Nat} {xs:List Fact} {x:Fact} {v:V} {f:Bool} {e:List V} {K:V→AH→Prop} (hk: ∀v' σ',Sat σ' (l.set i (.own v' 6 (facts (xs++[x]))))→(B7 v').isSome=true→K v' σ') (h:Sat σ l:=by assumption)
    (hi:l[i]? =some (.own v 6 (facts xs)):=by first|exact Pk|exact Pj|exact Ph|exact Pg|exact Pf|exact Pe)
    (he:e=xF x:=by rfl)
    {b:Nat} (hl:xs.length<Af∧(xs.length+1)*b≤140737488355328:=by first|assumption|omega|(simp only[PK,BQ,KH,List.length_nil,KG,nZ,List.length_replicate,Af]at *;omega)):AM b σ 6 v (.l [e] f) K:=
 GO (Fv h i hi hl Js hk (by rw[he,Bd]))
end Go.Gl
namespace Go.Gl
open Go.Proofs
attribute [local irreducible] BJ A2 Ak AW AM Aj AV AX AN Ai AR AU A5 BF Sat Ad BD Al W
def Oh {w:AK} (f:Fact):Bj w f=true→Nk f=true:=by
 induction f using Fact.ind with
 | h f ih=>
   intro h;rw[Ch]at h;simp only[DB,BY,EN,Ce]at h;rw[K8];simp only[BY,Ce,List.all_map,EN,Function.comp_apply,id];exact⟨⟨h.1.2.2.1,h.1.2.2.2.1⟩,fun k hk=>ih k hk (h.2 k hk)⟩
def NN (p:Prog) (m:Mr):Bool:=decide (1≤m.kind)&&(decide (m.kind≤4)&&(decide (0≤m.gen)&&(decide (m.gen<(p.Cx.length:Int))&&(Cf (AS p) m.fact&&decide (DL m.fact≤p.Cx.getD m.gen.toNat 0)))))
def runM (p:Prog):List Mr→List Int→Option (List Int)
 | [],s=>some s
 | m::r,s=>if NN p m then match CP p (JY m.kind) 12 m.node (p.Cx.getD m.gen.toNat 0) s with
   | none=>none
   | some s'=>runM p r s' else none
def Cy (p:Prog):Bool:=BG p&&(decide (p.Cx.length≤8)&&(decide (p.methods.length≤16)&&(decide (1≤p.nodes.length)&&(decide (p.nodes.length≤120)&&p.Cx.all fun g=>decide (1≤g)&&decide (g≤3)))))
def BV (p:Prog):Option (List Int):=if Cy p then match runM p p.methods (List.replicate p.nodes.length (-1))with
 | none=>none
 | some s=>match CP p false 12 p.main 0 s with
   | none=>none
   | some s=>if s.all fun n=>decide (0≤n)then some s else none else none
def JZ (p:Prog):Option (List Int)→Option (List Int)
 | none=>none
 | some s=>match CP p false 12 p.main 0 s with
   | none=>none
   | some s=>if s.all fun n=>decide (0≤n)then some s else none
def MM (p:Prog):V:=match BV p with
 | none=> .t [.l [] true,.b false]
 | some s=> .t [.l (iL s) false,.b true]
def fp {p:Prog} (h:BV p=none):MM p= .t [.l [] true,.b false]:=by simp only[MM,h]
def o6 {p:Prog} (h:Cy p=false):MM p= .t [.l [] true,.b false]:=fp (by unfold BV;rw[h];rfl)
def Ka {p:Prog} {σ:AH} (h:BV p=none):A2 σ (.t [.l [] true,.b false]) fun r σ'=>r=R.ret (MM p)∧σ'=emp:=by
 rw[fp h];exact AI rfl
def Nh {p:Prog} {σ:AH} (h:Cy p=false):A2 σ (.t [.l [] true,.b false]) fun r σ'=>r=R.ret (MM p)∧σ'=emp:=by
 rw[o6 h];exact AI rfl
def WU {p:Prog} (h:Cy p=true):BV p=JZ p (runM p p.methods (List.replicate p.nodes.length (-1))):=by
 unfold BV;rw[if_pos h];rfl
def DU {p:Prog} {k:Nat} {x:Mr} {s:List Int} (hx:p.methods[k]? =some x) (hn:BV p=JZ p (runM p (p.methods.drop k) s)) (hok:NN p x=false):BV p=none:=by
 rw[hn,drop_cons hx,runM,if_neg (by simp[hok])];rfl
def P7 {p:Prog} {k:Nat} {x:Mr} {s:List Int} (hx:p.methods[k]? =some x) (hn:BV p=JZ p (runM p (p.methods.drop k) s)) (hok:NN p x=true) (hw:CP p (JY x.kind) 12 x.node (p.Cx.getD x.gen.toNat 0) s=none):BV p=none:=by
 rw[hn,drop_cons hx,runM,if_pos hok,hw];rfl
def V7 {p:Prog} {k:Nat} {x:Mr} {s s':List Int} (hx:p.methods[k]? =some x) (hn:BV p=JZ p (runM p (p.methods.drop k) s)) (hok:NN p x=true) (hw:CP p (JY x.kind) 12 x.node (p.Cx.getD x.gen.toNat 0) s=some s'):BV p=JZ p (runM p (p.methods.drop (k+1)) s'):=by
 rw[hn,drop_cons hx,runM,if_pos hok,hw]
def QP {p:Prog} (h:Cy p=true) {k:Nat} {x:Int} (hx:p.Cx[k]? =some x):1≤x∧x≤3:=by
 simp only[Cy,BY,EN,Ce]at h;exact h.2.2.2.2.2 x (B5 hx)
set_option maxHeartbeats 4000000 in
def jI (p:Prog):Pure Tryz.prog 65 [.a (BR p)] (MM p):=by
 refine Pure.fit (by kernel_rfl) fun hf=>?_
 have⟨p1,p2,p3,p4⟩:=Ff hf.1;have hM:=Mx;refine p5 kZ ?_;have hs:=Sn
 conv=>whnf
 repeat'((first|apply st|(apply sq;intro K U)|(apply si;intro A B Y Z)|(apply Y;clear Z B Y A)|(apply U;clear U K)|refine⟨rfl,?_⟩|refine⟨kZ,?_⟩|refine Pure.use (YX _) ?_|(constructor<;>intro hc<;>(try rw[hc])<;>(replace hc:=bp hc)<;>(try simp(disch:=omega) only[BQ,wrap64,AL]at hc))|clear U K)<;>conv=>whnf)
 ·exact Nh (by simp[Cy];intros;omega)
 rotate_left
 ·exact Nh (by simp[Cy];intros;omega)
 ·exact Nh (by simp[Cy];intros;omega)
 ·exact Nh (by simp[Cy];intros;omega)
 ·exact Nh (by simp[Cy, *])
 have a1:p.Cx.length≤8:=by omega
 have a2:p.methods.length≤16:=by omega
 have a3:1≤p.nodes.length:=by omega
 have a4:p.nodes.length≤120:=by omega
 have hg:Cy p=p.Cx.all fun g=>decide (1≤g)&&decide (g≤3):=by
  simp only[Cy,a1,a2,a3,a4,decide_true,E7];simp[*]
 refine B2 p.Cx.length (fun k (_:Unit)=>[(4,eI (A4 k))]) (fun _ _=>[]) (fun k _=>Cy p=(p.Cx.drop k).all fun g=>decide (1≤g)&&decide (g≤3)) () rfl (by simpa using hg) hs ?_;clear hs;rintro k - σ hk hn hs
 conv=>whnf
 repeat'((first|apply st|(apply sq;intro K U)|(apply si;intro A B Y Z)|(apply Y;clear Z B Y A)|(apply U;clear U K)|refine⟨rfl,?_⟩|refine ix ?_|(refine fc (fun x hx hlt hc=>?_) (fun hk hc=>?_)<;>(try rw[hc])<;>clear hc)|(constructor<;>intro hc<;>(try rw[hc])<;>(replace hc:=bp hc))|clear U K)<;>conv=>whnf)
 ·exact Nh (by rw[hn,drop_cons hx];simp;intros;omega)
 ·exact⟨hlt,(),rfl,by rw[hn,drop_cons hx];simp[*],hs⟩
 ·exact Nh (by rw[hn,drop_cons hx];simp;intros;omega)
 have hh:Cy p=true:=by rw[hn,Ah hk];rfl
 have F:=KY hf.1;have hcB:BG p=true:=by assumption
 have hsb:Co 0 p.AP=true:=by simp only[BG,BY]at hcB;exact hcB.2.1
 have hc10:p.AP.length≤1000:=by simp only[BG,BY,Ce]at hcB;omega
 have hmS:Bu p.AP≤Af:=by have:=(FO _ _ hsb).1;simp only[BG,BY,Ce]at hcB;omega
 have hL:=WU hh;clear hn hg;refine B2 p.nodes.length (fun j v=>[(5,v),(6,eI (A4 j))]) (fun j v=>[.own v 1 (iL (List.replicate j (-1)))]) (fun j v=>1≤j→(B7 v).isSome=true) (.l [] true) rfl (fun h=>by omega) (E9 hs 1) ?_;clear hs;rintro j v σ hj hv hs
 conv=>whnf
 repeat'((first|apply st|(apply sq;intro K U)|(apply si;intro A B Y Z)|(apply Y;clear Z B Y A)|(apply U;clear U K)|refine⟨rfl,?_⟩|refine⟨kZ,?_⟩|refine sn fun σ hs=>?_|refine aq fun v σ hs hsl=>?_|(refine fc (fun x hx hlt hc=>?_) (fun hk hc=>?_)<;>(try rw[hc])<;>clear hc)|refine Pure.use (M3 _ (by assumption) (by omega) (by assumption)) ?_|(intro nn hnn;generalize hg:BA _ nn _=σ;refine al hg fun hs=>?_;clear hg)|clear U K)<;>conv=>whnf)
 ·exact⟨hlt,_,rfl,fun _=>hsl,by rw[List.replicate_succ'];exact hs⟩
 have hsv:=hv (by omega);subst hk;refine B2 p.methods.length (fun k (s:List Int)=>[(8,eI (A4 k))]) (fun _ s=>[.own v 1 (iL s),.box nn (BE (AS p))]) (fun k s=>s.length=p.nodes.length∧BV p=JZ p (runM p (p.methods.drop k) s)) (List.replicate p.nodes.length (-1)) rfl ⟨by simp,hL⟩ hs ?_;clear hs;rintro k s σ hk ⟨hl,hn⟩ hs
 conv=>whnf
 repeat'((first|apply st|(apply sq;intro K U)|(apply si;intro A B Y Z)|(apply Y;clear Z B Y A)|(apply U;clear U K)|apply dr|refine rk ?_ ?_|exact fun s e=>by cases e;rfl|refine⟨rfl,?_⟩|refine⟨kZ,?_⟩|refine ix ?_|refine iq fun x hx=>?_|refine ld ?_|refine sn fun σ hs=>?_|(refine fc (fun x hx hlt hc=>?_) (fun hk hc=>?_)<;>(try rw[hc])<;>clear hc)|refine Pure.use (ba _ _) ?_|(constructor<;>intro hc<;>(try rw[hc])<;>(replace hc:=bp hc)<;>(try simp(disch:=omega) only[BQ,wrap64,AL]at hc))|(intro nn hnn;generalize hg:BA _ nn _=σ;refine al hg fun hs=>?_;clear hg)|clear U K)<;>conv=>whnf)
 rotate_left
 ·exact Ka (DU hx hn (by simp[NN, *]))
 ·exact Ka (DU hx hn (by simp[NN];intros;omega))
 ·exact Ka (DU hx hn (by simp[NN];intros;omega))
 ·exact Ka (DU hx hn (by simp[NN];intros;omega))
 ·exact Ka (DU hx hn (by simp[NN];intros;omega))
 ·refine(ZK p false 12 (JT _) p.main 0 1 s v rfl (by omega) (by omega) hl hsv).use hs ?_
  clear hs;rintro r post σ ⟨s2,hl2,rfl,⟨ho,rfl⟩|⟨ho,rfl⟩⟩ hs
  ·conv=>whnf
   repeat'((first|apply st|(apply sq;intro K U)|(apply si;intro A B Y Z)|(apply Y;clear Z B Y A)|(apply U;clear U K)|(constructor<;>intro hc<;>(try rw[hc])<;>(replace hc:=bp hc)<;>(try simp(disch:=omega) only[BQ,wrap64,AL]at hc))|clear U K)<;>conv=>whnf)
   ·cases hc
   have hz:BV p=if s2.all fun n=>decide (0≤n)then some s2 else none:=by rw[hn,Ah hk,runM,JZ,ho]
   refine B2 s2.length (fun j (_:Unit)=>[(10,eI (A4 j))]) (fun _ _=>[.own v 1 (iL s2),.box nn (BE (AS p))]) (fun j _=>BV p=if(s2.drop j).all fun n=>decide (0≤n)then some s2 else none) () rfl hz hs ?_;clear hs;rintro j - σ hj hz hs
   conv=>whnf
   repeat'((first|apply st|(apply sq;intro K U)|(apply si;intro A B Y Z)|(apply Y;clear Z B Y A)|(apply U;clear U K)|refine⟨rfl,?_⟩|refine oc ?_|refine ol fun x hx=>?_|(refine fc (fun x hx hlt hc=>?_) (fun hk hc=>?_)<;>(try rw[hc])<;>clear hc)|refine lo ?_|(constructor<;>intro hc<;>(try rw[hc])<;>(replace hc:=bp hc))|clear U K)<;>conv=>whnf)
   ·exact Ka (by rw[hz,drop_cons hx,My,if_neg];simp;intros;omega)
   ·exact⟨hlt,(),rfl,by rw[hz,drop_cons hx,My];simp[*],hs⟩
   ·have hz2:BV p=some s2:=by rw[hz,Ah (by assumption)];rfl
    simp only[MM,hz2];exact Bh (.t (.cons (hs.Pm 0 rfl) (.cons (.refl _) .nil)))
  ·conv=>whnf
   repeat'((first|apply st|(apply sq;intro K U)|(apply si;intro A B Y Z)|(apply Y;clear Z B Y A)|(apply U;clear U K)|(constructor<;>intro hc<;>(try rw[hc])<;>(replace hc:=bp hc)<;>(try simp(disch:=omega) only[BQ,wrap64,AL]at hc))|clear U K)<;>conv=>whnf)
   ·exact Ka (by rw[hn,Ah hk,runM,JZ,ho])
   ·cases hc
 rename Mr=>m
 rename p.methods[k]? =some m=>hm
 refine(aW m.fact (Oh _ (by(have:Cf (AS p) m.fact=true:=by assumption);simp only[Cf,BY]at this;exact this.2.2))).use ?_
 conv=>whnf
 repeat'((first|apply st|(apply sq;intro K U)|(apply si;intro A B Y Z)|(apply Y;clear Z B Y A)|(apply U;clear U K)|apply dr|refine rk ?_ ?_|exact fun s e=>by cases e;rfl|refine⟨rfl,?_⟩|refine⟨kZ,?_⟩|refine iq fun x hx=>?_|refine ld ?_|refine Pure.use (jA _) ?_|(constructor<;>intro hc<;>(try rw[hc])<;>(replace hc:=bp hc))|clear U K)<;>conv=>whnf)
 ·exact Ka (DU hm hn (by simp[NN,DY,hx];intros;omega))
 obtain⟨hx1,hx3⟩:=QP hh hx;have hgd:p.Cx.getD m.gen.toNat 0=x:=by rw[DY,hx];rfl
 rename p.Cx[m.gen.toNat]? =some _=>hx2
 have hxe:=Option.some.inj (hx.symm.trans hx2);subst hxe;have hok:NN p m=true:=by simp only[NN,hgd,BY,Ce];exact⟨by assumption,by omega,by assumption,by assumption,by assumption,by assumption⟩
 refine(ZK p (JY m.kind) 12 (JT _) m.node x 1 s v rfl (by omega) (by omega) hl hsv).use (rest:=[_,_]) hs ?_;clear hs;rintro r post σ ⟨s2,hl2,rfl,⟨ho,rfl⟩|⟨ho,rfl⟩⟩ hs
 ·conv=>whnf
  repeat'((first|apply st|(apply sq;intro K U)|(apply si;intro A B Y Z)|(apply Y;clear Z B Y A)|(apply U;clear U K)|apply dr|refine⟨rfl,?_⟩|(constructor<;>intro hc<;>(try rw[hc])<;>(replace hc:=bp hc)<;>(try simp(disch:=omega) only[BQ,wrap64,AL]at hc))|clear U K)<;>conv=>whnf)
  ·cases hc
  ·exact⟨by assumption,s2,rfl,⟨by omega,V7 hm hn hok (by rw[hgd];exact ho)⟩,hs.less (.cons₂ _ (.cons₂ _ (LR _)))⟩
 ·conv=>whnf
  repeat'((first|apply st|(apply sq;intro K U)|(apply si;intro A B Y Z)|(apply Y;clear Z B Y A)|(apply U;clear U K)|apply dr|refine⟨rfl,?_⟩|(constructor<;>intro hc<;>(try rw[hc])<;>(replace hc:=bp hc)<;>(try simp(disch:=omega) only[BQ,wrap64,AL]at hc))|clear U K)<;>conv=>whnf)
  ·exact Ka (P7 hm hn hok (by rw[hgd];exact ho))
  ·cases hc
def iU (p:Prog):Pure Tryz.prog 27 [.a (BR p)] (.b (BV p).isSome):=by
 refine qR kZ ?_;have h:=jI p;unfold MM at h;cases hl:BV p with
 | none=>
   rw[hl]at h
   conv=>whnf
   repeat'((first|apply st|(apply sq;intro K U)|(apply si;intro A B Y Z)|(apply Y;clear Z B Y A)|(apply U;clear U K)|refine⟨kZ,?_⟩|refine Pure.use (by assumption) ?_|fail)<;>conv=>whnf)
   all_goals exact AI (by first|rfl|simp)
 | some s=>
   rw[hl]at h
   conv=>whnf
   repeat'((first|apply st|(apply sq;intro K U)|(apply si;intro A B Y Z)|(apply Y;clear Z B Y A)|(apply U;clear U K)|refine⟨kZ,?_⟩|refine Pure.use (by assumption) ?_|fail)<;>conv=>whnf)
   all_goals exact AI (by first|rfl|simp)
def EU (xs ys:List Int) (f g:Bool):Pure Tryz.prog 30 [.l (iL xs) f,.l (iL ys) g] (.b (xs==ys)):=by
 refine Pure.fit (by kernel_rfl) fun hf=>?_
 have hx:=Jb hf.1;have hy:=Jb hf.2.1;have hM:=Mx;refine qP kZ ?_;have hs:=Sn
 conv=>whnf
 repeat'((first|apply st|(apply sq;intro K U)|(apply si;intro A B Y Z)|(apply Y;clear Z B Y A)|(apply U;clear U K)|refine⟨rfl,?_⟩|(constructor<;>intro hc<;>(try rw[hc])<;>(replace hc:=bp hc)<;>(try simp(disch:=omega) only[BQ,wrap64,AL]at hc))|clear U K)<;>conv=>whnf)
 ·exact AI (by(have:(xs==ys)=false:=by(simp;intro e;subst e;simp at hc));rw[this])
 have hl:xs.length=ys.length:=by omega
 refine B2 xs.length (fun k (_:Unit)=>[(13,eI (A4 k))]) (fun _ _=>[]) (fun k _=>(xs==ys)=(xs.drop k==ys.drop k)) () rfl rfl Sat.nil ?_;clear hs;rintro k - σ hk hn hs;by_cases hlt:k<xs.length
 ·obtain⟨y,hyk⟩: ∃y,ys[k]? =some y:=⟨_,DJ (by omega)⟩
  conv=>whnf
  repeat'((first|apply st|(apply sq;intro K U)|(apply si;intro A B Y Z)|(apply Y;clear Z B Y A)|(apply U;clear U K)|apply dr|refine⟨rfl,?_⟩|refine ix ?_|(refine fc (fun x hx hlt hc=>?_) (fun hk hc=>?_)<;>(try rw[hc])<;>clear hc)|(constructor<;>intro hc<;>(try rw[hc])<;>(replace hc:=bp hc))|clear U K)<;>conv=>whnf)
  ·exact AI (by rw[hn,drop_cons hx,drop_cons hyk];simp[hc])
  ·exact⟨hlt,(),rfl,by rw[hn,drop_cons hx,drop_cons hyk,hc];simp,hs⟩
  ·omega
 ·conv=>whnf
  repeat'((first|apply st|(apply sq;intro K U)|(apply si;intro A B Y Z)|(apply Y;clear Z B Y A)|(apply U;clear U K)|apply dr|refine⟨rfl,?_⟩|refine ix ?_|refine iq fun x hx=>?_|(refine fc (fun x hx hlt hc=>?_) (fun hk hc=>?_)<;>(try rw[hc])<;>clear hc)|(constructor<;>intro hc<;>(try rw[hc])<;>(replace hc:=bp hc)<;>try(exfalso;omega))|clear U K)<;>conv=>whnf)
  exact AI (by rw[hn,Ah hk,Ah (by omega)];rfl)
def PT:List (Fact→Bool)→List Fact→Bool
 | h::r,k::s=>h k&&PT r s
 | _,_=>true
def fZ (f:Fact) (l:List (Fact→Bool)) (g:Fact):Bool:=f.op==g.op&&(f.arg==g.arg&&(f.cls==g.cls&&(f.n==g.n&&(f.path==g.path&&(f.kids.length==g.kids.length&&PT l g.kids)))))
def FY (f:Fact):Fact→Bool:=f.HK fZ
def Ks (f g:Fact):FY f g=(f.op==g.op&&(f.arg==g.arg&&(f.cls==g.cls&&(f.n==g.n&&(f.path==g.path&&(f.kids.length==g.kids.length&&PT (f.kids.map FY) g.kids)))))):=congrFun (Fact.Dg fZ f) g
def TX {xs ys:List Fact} (h: ∀x∈xs,∀y,FY x y=true↔x=y) (hl:xs.length=ys.length):PT (xs.map FY) ys=true↔xs=ys:=by
 induction xs generalizing ys with
 | nil=>cases ys with
   | nil=>simp[PT]
   | cons _ _=>simp at hl
 | cons x r ih=>cases ys with
   | nil=>simp at hl
   | cons y s=>
     simp only[E8,PT,BY,List.cons.injEq];rw[h x (.head _) y,ih (fun x hx=>h x (.tail _ hx)) (by simpa using hl)]
def Ly (f g:Fact):FY f g=true↔f=g:=by
 induction f using Fact.ind generalizing g with
 | h f ih=>
   rw[Ks];cases f with
   | mk o a p c n k=>cases g with
     | mk o' a' p' c' n' k'=>
       simp only[Fact.op,Fact.arg,Fact.cls,Fact.n,Fact.path,Fact.kids,BY,Dx,Fact.mk.injEq]at *;constructor
       ·rintro⟨rfl,rfl,rfl,rfl,rfl,hl,h⟩
        exact⟨rfl,rfl,rfl,rfl,rfl,(TX (fun x hx y=>ih x hx y) hl).1 h⟩
       ·rintro⟨rfl,rfl,rfl,rfl,rfl,rfl⟩
        exact⟨rfl,rfl,rfl,rfl,rfl,rfl,(TX (fun x hx y=>ih x hx y) rfl).2 rfl⟩
set_option maxHeartbeats 1000000 in
def dW (f g:Fact):Pure Tryz.prog 232 [.a (xF f),.a (xF g)] (.b (FY f g)):=by
 induction f using Fact.ind generalizing g with
 | h f ih=>
   refine Pure.fit (by kernel_rfl) fun hf=>?_
   have⟨h2,h3,h4⟩:=IQ hf.1;have⟨g2,g3,g4⟩:=IQ hf.2.1;have hM:=Mx;refine kX kZ ?_;have hs:=Sn
   conv=>whnf
   repeat'((first|apply st|(apply sq;intro K U)|(apply si;intro A B Y Z)|(apply Y;clear Z B Y A)|(apply U;clear U K)|refine⟨rfl,?_⟩|refine Pure.use (EU _ _ _ _) ?_|(constructor<;>intro hc<;>(try rw[hc])<;>(replace hc:=bp hc)<;>(try simp(disch:=omega) only[BQ,wrap64,AL]at hc))|clear U K)<;>conv=>whnf)
   rotate_left
   all_goals try exact AI (by rw[Ks];simp[*]<;>omega)
   rotate_left
   ·have hkl:f.kids.length=g.kids.length:=by omega
    refine B2 f.kids.length (fun k (_:Unit)=>[(52,eI (A4 k))]) (fun _ _=>[]) (fun k _=>FY f g=PT ((f.kids.drop k).map FY) (g.kids.drop k)) () rfl (by rw[Ks];simp[*]) Sat.nil ?_;clear hs;rintro k - σ hk hn hs;by_cases hlt:k<f.kids.length
    ·obtain⟨y,hyk⟩: ∃y,g.kids[k]? =some y:=⟨_,DJ (by omega)⟩
     conv=>whnf
     repeat'((first|apply st|(apply sq;intro K U)|(apply si;intro A B Y Z)|(apply Y;clear Z B Y A)|(apply U;clear U K)|apply dr|refine⟨rfl,?_⟩|refine⟨kZ,?_⟩|refine Mz ?_|(refine fc (fun x hx hlt hc=>?_) (fun hk hc=>?_)<;>(try rw[hc])<;>clear hc)|clear U K)<;>conv=>whnf)
     ·refine(ih x (B5 hx) y).use ?_
      conv=>whnf
      repeat'((first|apply st|(apply sq;intro K U)|(apply si;intro A B Y Z)|(apply Y;clear Z B Y A)|(apply U;clear U K)|apply dr|refine⟨rfl,?_⟩|(constructor<;>intro hc<;>(try rw[hc])<;>(replace hc:=bp hc))|clear U K)<;>conv=>whnf)
      ·exact AI (by rw[hn,drop_cons hx,drop_cons hyk,E8,PT,hc];rfl)
      ·exact⟨hlt,(),rfl,by rw[hn,drop_cons hx,drop_cons hyk,E8,PT,hc];rfl,hs⟩
     ·omega
    ·conv=>whnf
     repeat'((first|apply st|(apply sq;intro K U)|(apply si;intro A B Y Z)|(apply Y;clear Z B Y A)|(apply U;clear U K)|apply dr|refine⟨rfl,?_⟩|refine⟨kZ,?_⟩|refine Mz ?_|refine iq fun x hx=>?_|(refine fc (fun x hx hlt hc=>?_) (fun hk hc=>?_)<;>(try rw[hc])<;>clear hc)|clear U K)<;>conv=>whnf)
     all_goals first|(exfalso;omega)|exact AI (by rw[hn,Ah hk];rfl)
def FX (f:Fact):Fact:= .mk 5 0 [] 0 0 [f]
def Mq (f g:Fact):Fact:= .mk 6 0 [] 0 0 [f,g]
def ZW (f:Fact):Pure Tryz.prog 113 [.a (xF f)] (.a (xF (FX f))):=by
 refine mw kZ ?_;have hs:=Sn
 conv=>whnf
 repeat'((first|apply st|(apply sq;intro K U)|(apply si;intro A B Y Z)|(apply Y;clear Z B Y A)|(apply U;clear U K)|refine⟨kZ,?_⟩|refine ld ?_|refine sn fun σ hs=>?_|(intro nn hnn;generalize hg:BA _ nn _=σ;refine al hg fun hs=>?_;clear hg)|fail)<;>conv=>whnf)
 refine Bh (.a (.cons (.refl _) (.cons (.refl _) (.cons CG (.cons (.refl _) (.cons (.refl _) (.cons ?_ .nil)))))));refine .l (fun h=>by cases h) ?_;simp only[FX,Fact.kids,List.map,Bd];exact Ej _
def nP (f g:Fact):Pure Tryz.prog 112 [.a (xF f),.a (xF g)] (.a (xF (Mq f g))):=by
 refine my kZ ?_;have hs:=Sn
 conv=>whnf
 repeat'((first|apply st|(apply sq;intro K U)|(apply si;intro A B Y Z)|(apply Y;clear Z B Y A)|(apply U;clear U K)|refine⟨kZ,?_⟩|refine ld ?_|refine sn fun σ hs=>?_|(intro nn hnn;generalize hg:BA _ nn _=σ;refine al hg fun hs=>?_;clear hg)|fail)<;>conv=>whnf)
 refine Bh (.a (.cons (.refl _) (.cons (.refl _) (.cons CG (.cons (.refl _) (.cons (.refl _) (.cons ?_ .nil)))))));refine .l (fun h=>by cases h) ?_;simp only[Mq,Fact.kids,List.map,Bd];exact Ej _
def GG (l:Fact):Prop:=l.op=5→l.kids≠[]
def A0 (l:Fact):Fact×Bool:=if l.op=5 then(l.kids.headD default,true)else(l,false)
def HU (l:Fact) (h:GG l):Pure Tryz.prog 262 [.a (xF l)] (.t [.a (xF (A0 l).1),.b (A0 l).2]):=by
 refine Pure.fit (by kernel_rfl) fun hf=>?_
 have⟨h2,h3,h4⟩:=IQ hf.1;refine kB kZ ?_;have hs:=Sn;by_cases h5:l.op=5
 ·have hk:0<l.kids.length:=List.length_pos_iff.2 (h h5)
  conv=>whnf
  repeat'((first|apply st|(apply sq;intro K U)|(apply si;intro A B Y Z)|(apply Y;clear Z B Y A)|(apply U;clear U K)|refine⟨rfl,?_⟩|refine⟨kZ,?_⟩|refine w8 fun x hx=>?_|refine ld ?_|refine sn fun σ hs=>?_|(constructor<;>intro hc<;>(try rw[hc])<;>(replace hc:=bp hc)<;>try(exfalso;omega))|(intro nn hnn;generalize hg:BA _ nn _=σ;refine al hg fun hs=>?_;clear hg)|clear U K)<;>conv=>whnf)
  all_goals try(exfalso;omega)
  refine AI ?_
  have:l.kids.headD default=x:=by
   cases hl:l.kids with
   | nil=>rw[hl]at hk;simp at hk
   | cons y r=>rw[hl]at hx;simpa using hx
  simp only[A0,if_pos h5,this];rfl
 ·conv=>whnf
  repeat'((first|apply st|(apply sq;intro K U)|(apply si;intro A B Y Z)|(apply Y;clear Z B Y A)|(apply U;clear U K)|refine⟨rfl,?_⟩|refine⟨kZ,?_⟩|refine ld ?_|refine sn fun σ hs=>?_|(constructor<;>intro hc<;>(try rw[hc])<;>(replace hc:=bp hc)<;>try(exfalso;omega))|(intro nn hnn;generalize hg:BA _ nn _=σ;refine al hg fun hs=>?_;clear hg)|fail)<;>conv=>whnf)
  all_goals try(exfalso;omega)
  refine AI ?_;simp only[A0,if_neg h5];rfl
def Bx (path pre:List Int):Bool:=decide (pre.length≤path.length)&&path.take pre.length==pre
def Qj (xs ys:List Int) (f g:Bool):Pure Tryz.prog 281 [.l (iL xs) f,.l (iL ys) g] (.b (Bx xs ys)):=by
 refine Pure.fit (by kernel_rfl) fun hf=>?_
 have hx:=Jb hf.1;have hy:=Jb hf.2.1;have hM:=Mx;refine js kZ ?_;have hs:=Sn
 conv=>whnf
 repeat'((first|apply st|(apply sq;intro K U)|(apply si;intro A B Y Z)|(apply Y;clear Z B Y A)|(apply U;clear U K)|refine⟨rfl,?_⟩|refine wc ?_|refine Pure.use (EU _ _ _ _) ?_|(constructor<;>intro hc<;>(try rw[hc])<;>(replace hc:=bp hc)<;>(try simp(disch:=omega) only[BQ,wrap64,AL]at hc))|fail)<;>conv=>whnf)
 ·refine AI ?_
  have:ys.length≤xs.length:=by omega
  simp[Bx,this]
 ·refine AI ?_
  have: ¬ys.length≤xs.length:=by omega
  simp[Bx,this]
def Gc (w:AK) (ls:List Fact) (a:Int) (p:List Int) (c:Bool):List V:=[.l (Ec w.parents) false,.l (iL w.owner) false,.l (facts ls) false,eI a,.l (iL p) false,.b c]
def JC (w:AK) (ls:List Fact) (a:Int) (p:List Int) (c:Bool) (s:Int) (hp:p.length<100):Pure Tryz.prog 265 [.a (Gc w ls a p c),eI s] (.a (Gc w ls a (p++[s]) c)):=by
 have hM:=Mx;refine j8 kZ ?_;have hs:=Sn
 conv=>whnf
 repeat'((first|apply st|(apply sq;intro K U)|(apply si;intro A B Y Z)|(apply Y;clear Z B Y A)|(apply U;clear U K)|apply dr|refine⟨kZ,?_⟩|(intro nn hnn;generalize hg:BA _ nn _=σ;refine al hg fun hs=>?_;clear hg)|fail)<;>conv=>whnf)
 replace hs:=E9 hs 1;refine Is hs 1 (xs:=[]) (ys:=p) rfl (by simp;omega) B0 fun v σ hs=>?_
 conv=>whnf
 repeat'((first|apply st|apply dr|refine rk ?_ ?_|exact fun s e=>by cases e;rfl|refine⟨kZ,?_⟩|refine aq fun v σ hs hsl=>?_|fail)<;>conv=>whnf)
 obtain⟨n,l,cc,rfl⟩:=Y7 hsl
 conv=>whnf
 repeat'((first|apply st|(apply Y;clear Z B Y A)|(apply U;clear U K)|apply dr|refine⟨kZ,?_⟩|refine ld ?_|refine sn fun σ hs=>?_|fail)<;>conv=>whnf)
 exact Bh (.a (.cons (.refl _) (.cons (.refl _) (.cons (.refl _) (.cons (.refl _) (.cons (hs.Pm 1 rfl) (.cons (.refl _) .nil)))))))
def Gr (a:Int) (p:List Int) (l:Fact):Bool:=(A0 l).1.arg==a&&(A0 l).1.path==p
def GL {w:AK} {ls:List Fact} {a:Int} {p:List Int} {c:Bool} (h:FA (.a (Gc w ls a p c))):ls.length≤Af∧p.length≤Af∧w.owner.length≤Af∧w.parents.length≤Af:=by
 simp only[Gc,G0,DW,Ev,BQ]at h;exact⟨h.2.2.1.1,h.2.2.2.2.1.1,h.2.1.1,h.1.1⟩
def ZB (w:AK) (ls:List Fact) (a:Int) (p:List Int) (c:Bool) (hok: ∀l∈ls,GG l) (hln:ls.length≤1000000):Pure Tryz.prog 261 [.a (Gc w ls a p c)] (.l (facts (ls.filter (Gr a p))) false):=by
 refine Pure.fit (by kernel_rfl) fun hf=>?_
 have⟨h1,h2,h3,h4⟩:=GL hf.1;have hM:=Mx;refine kC kZ ?_;have hs:=Sn
 conv=>whnf
 repeat'((first|apply st|(apply sq;intro K U)|(apply si;intro A B Y Z)|(apply Y;clear Z B Y A)|(apply U;clear U K)|fail)<;>conv=>whnf)
 refine B2 ls.length (fun k v=>[(3,v),(11,eI (A4 k))]) (fun k v=>[.own v 6 (facts ((ls.take k).filter (Gr a p)))]) (fun _ _=>True) (.l [] true) rfl trivial (E9 hs 6) ?_;clear hs;rintro k v σ hk - hs;have hfl:=KD (Gr a p) (ls.take k)
 conv=>whnf
 repeat'((first|apply st|(apply sq;intro K U)|(apply si;intro A B Y Z)|(apply Y;clear Z B Y A)|(apply U;clear U K)|refine⟨rfl,?_⟩|refine⟨kZ,?_⟩|refine Mz ?_|refine ld ?_|refine sn fun σ hs=>?_|refine wk fun v σ hs hsl=>?_|(refine fc (fun x hx hlt hc=>?_) (fun hk hc=>?_)<;>(try rw[hc])<;>clear hc)|refine Pure.use (HU _ (hok _ (B5 (by assumption)))) ?_|refine Pure.use (EU _ _ _ _) ?_|(constructor<;>intro hc<;>(try rw[hc])<;>(replace hc:=bp hc))|(intro nn hnn;generalize hg:BA _ nn _=σ;refine al hg fun hs=>?_;clear hg)|clear U K)<;>conv=>whnf)
 ·exact⟨hlt,_,rfl,trivial,by rw[AO hx,List.filter_append];simpa[Gr, *]using hs.take 1⟩
 ·exact⟨hlt,_,rfl,trivial,by rw[AO hx,List.filter_append];simpa[Gr, *]using hs.take 1⟩
 ·exact⟨hlt,_,rfl,trivial,by rw[AO hx,List.filter_append];simpa[Gr, *]using hs.take 1⟩
 ·exact EM hs 0 rfl (by rw[Ar hk])
def EH (ls:List Fact) (a:Int) (p:List Int):Bool:=ls.all fun l=>(A0 l).2|| !((A0 l).1.arg==a&&Bx (A0 l).1.path p)
def W0 (w:AK) (ls:List Fact) (a:Int) (p:List Int) (c:Bool) (hok: ∀l∈ls,GG l):Pure Tryz.prog 266 [.a (Gc w ls a p c)] (.b (EH ls a p)):=by
 refine Pure.fit (by kernel_rfl) fun hf=>?_
 have⟨h1,h2,h3,h4⟩:=GL hf.1;have hM:=Mx;refine j7 kZ ?_;have hs:=Sn
 conv=>whnf
 repeat'((first|apply st|(apply sq;intro K U)|(apply si;intro A B Y Z)|(apply Y;clear Z B Y A)|(apply U;clear U K)|fail)<;>conv=>whnf)
 refine B2 ls.length (fun k (_:Unit)=>[(10,eI (A4 k))]) (fun k _=>[]) (fun k _=>EH ls a p=(ls.drop k).all fun l=>(A0 l).2|| !((A0 l).1.arg==a&&Bx (A0 l).1.path p)) () rfl rfl hs ?_;clear hs;rintro k - σ hk hn hs
 conv=>whnf
 repeat'((first|apply st|(apply sq;intro K U)|(apply si;intro A B Y Z)|(apply Y;clear Z B Y A)|(apply U;clear U K)|refine⟨rfl,?_⟩|refine⟨kZ,?_⟩|refine Mz ?_|refine ld ?_|refine sn fun σ hs=>?_|(refine fc (fun x hx hlt hc=>?_) (fun hk hc=>?_)<;>(try rw[hc])<;>clear hc)|refine Pure.use (HU _ (hok _ (B5 (by assumption)))) ?_|refine Pure.use (Qj _ _ _ _) ?_|(constructor<;>intro hc<;>(try rw[hc])<;>(replace hc:=bp hc))|(intro nn hnn;generalize hg:BA _ nn _=σ;refine al hg fun hs=>?_;clear hg)|clear U K)<;>conv=>whnf)
 ·exact AI (by rw[hn,drop_cons hx,My];simp[*])
 ·exact⟨hlt,(),rfl,by rw[hn,drop_cons hx,My];simp[*],hs.take 0⟩
 ·exact⟨hlt,(),rfl,by rw[hn,drop_cons hx,My];simp[*],hs.take 0⟩
 ·exact⟨hlt,(),rfl,by rw[hn,drop_cons hx,My];simp[*],hs.take 0⟩
 ·exact AI (by rw[hn,Ah hk];rfl)
def Bi (n:Nat):List Int:=(List.range n).map Int.ofNat
def Fl (n:Nat):Bi (n+1)=Bi n++[(n:Int)]:=by simp[Bi,List.range_succ]
def Dt (n:Nat):(Bi n).length=n:=by simp[Bi]
def Vl (a:Int) (p:List Int) (s:Int) (l:Fact):Bool:=(A0 l).1.arg==a&&Bx (A0 l).1.path (p++[s])
def Bs (n:Nat) (ls:List Fact) (a:Int) (p:List Int):List Int:=(Bi n).filter fun s=>ls.any (Vl a p s)
def S1 (w:AK) (ls:List Fact) (a:Int) (p:List Int) (c:Bool) (hok: ∀l∈ls,GG l) (hp:p.length<100) :
    Pure Tryz.prog 264 [.a (Gc w ls a p c)] (.l (iL (Bs w.owner.length ls a p)) false):=by
 refine Pure.fit (by kernel_rfl) fun hf=>?_
 have⟨h1,h2,h3,h4⟩:=GL hf.1;have hM:=Mx;refine j9 kZ ?_;have hs:=Sn
 conv=>whnf
 repeat'((first|apply st|(apply sq;intro K U)|(apply si;intro A B Y Z)|(apply Y;clear Z B Y A)|(apply U;clear U K)|fail)<;>conv=>whnf)
 refine B2 w.owner.length (fun k v=>[(3,v),(14,eI (A4 k))]) (fun k v=>[.own v 1 (iL (Bs k ls a p))]) (fun _ _=>True) (.l [] true) rfl trivial (E9 hs 1) ?_;clear hs;rintro k v σ hk - hs;have hck:A4 k=k:=AL (by omega);have hfl:=KD (fun s=>ls.any (Vl a p s)) (Bi k);rw[Dt]at hfl;have hfl2:(Bs k ls a p).length≤k:=hfl
 conv=>whnf
 repeat'((first|apply st|(apply sq;intro K U)|(apply si;intro A B Y Z)|(apply Y;clear Z B Y A)|(apply U;clear U K)|refine⟨rfl,?_⟩|(refine fc (fun x hx hlt hc=>?_) (fun hk hc=>?_)<;>(try rw[hc])<;>clear hc)|clear U K)<;>conv=>whnf)
 ·refine B2 ls.length (fun j b=>[(5,.b b),(20,eI (A4 j))]) (fun j _=>[.own v 1 (iL (Bs k ls a p))]) (fun j b=>b=(ls.take j).any (Vl a p (A4 k))) false rfl (by simp) hs ?_
  clear hs;rintro j b σ hj hb hs;subst hb
  conv=>whnf
  repeat'((first|apply st|(apply sq;intro K U)|(apply si;intro A B Y Z)|(apply Y;clear Z B Y A)|(apply U;clear U K)|apply dr|refine rk ?_ ?_|exact fun s e=>by cases e;rfl|refine⟨rfl,?_⟩|refine⟨kZ,?_⟩|refine Mz ?_|refine ld ?_|refine sn fun σ hs=>?_|refine aq fun v σ hs hsl=>?_|(refine fc (fun x hx hlt hc=>?_) (fun hk hc=>?_)<;>(try rw[hc])<;>clear hc)|refine Pure.use (HU _ (hok _ (B5 (by assumption)))) ?_|refine Pure.use (Qj _ _ _ _) ?_|refine Pure.use (JC _ _ _ _ _ _ (by omega)) ?_|(constructor<;>intro hc<;>(try rw[hc])<;>(replace hc:=bp hc)<;>(try simp(disch:=omega) only[BQ,wrap64,AL]at hc))|(intro nn hnn;generalize hg:BA _ nn _=σ;refine al hg fun hs=>?_;clear hg)|clear U K)<;>conv=>whnf)
  ·exact⟨hlt,_,rfl,by rw[AO hx,List.any_append];simp[Vl, *],hs.take 1⟩
  ·exact⟨hlt,_,rfl,by rw[AO hx,List.any_append];simp[Vl, *],hs.take 1⟩
  ·exact⟨hlt,true,rfl,by rw[AO hx,List.any_append];simp[*],hs.take 1⟩
  ·refine⟨by assumption,_,rfl,trivial,?_⟩
   rw[Ar hk]at hc;rw[Bs,Fl,List.filter_append];simp only[Bs]at hs;simpa[hc,hck]using hs
  ·refine⟨by assumption,_,rfl,trivial,?_⟩
   rw[Ar hk]at hc;rw[Bs,Fl,List.filter_append];simp only[Bs]at hs;simpa[hc,hck]using hs
 ·exact EM hs 0 rfl (by rw[hk])
def FG (n:Nat) (ls:List Fact) (a:Int) (p:List Int):Bool:=(Bs n ls a p).all fun s=>EH ls a (p++[s])
def Wp (w:AK) (ls:List Fact) (a:Int) (p:List Int) (c:Bool) (hok: ∀l∈ls,GG l) (hp:p.length<50):Pure Tryz.prog 263 [.a (Gc w ls a p c)] (.b (FG w.owner.length ls a p)):=by
 refine Pure.fit (by kernel_rfl) fun hf=>?_
 have⟨h1,h2,h3,h4⟩:=GL hf.1;have hM:=Mx;refine kA kZ ?_;have hs:=Sn;have hfl:=KD (fun s=>ls.any (Vl a p s)) (Bi w.owner.length);rw[Dt]at hfl;have hfl2:(Bs w.owner.length ls a p).length≤w.owner.length:=hfl
 conv=>whnf
 repeat'((first|apply st|(apply sq;intro K U)|(apply si;intro A B Y Z)|(apply Y;clear Z B Y A)|(apply U;clear U K)|refine⟨kZ,?_⟩|refine Pure.use (S1 _ _ _ _ _ hok (by omega)) ?_|fail)<;>conv=>whnf)
 refine B2 (Bs w.owner.length ls a p).length (fun k (_:Unit)=>[(8,eI (A4 k))]) (fun k _=>[]) (fun k _=>FG w.owner.length ls a p=((Bs w.owner.length ls a p).drop k).all fun s=>EH ls a (p++[s])) () rfl rfl hs ?_;clear hs;rintro k - σ hk hn hs
 conv=>whnf
 repeat'((first|apply st|(apply sq;intro K U)|(apply si;intro A B Y Z)|(apply Y;clear Z B Y A)|(apply U;clear U K)|refine⟨rfl,?_⟩|refine⟨kZ,?_⟩|refine ix ?_|(refine fc (fun x hx hlt hc=>?_) (fun hk hc=>?_)<;>(try rw[hc])<;>clear hc)|refine Pure.use (JC _ _ _ _ _ _ (by omega)) ?_|refine Pure.use (W0 _ _ _ _ _ hok) ?_|(constructor<;>intro hc<;>(try rw[hc])<;>(replace hc:=bp hc))|clear U K)<;>conv=>whnf)
 ·exact AI (by rw[hn,drop_cons hx,My];simp[*])
 ·exact⟨hlt,(),rfl,by rw[hn,drop_cons hx,My];simp[*],hs⟩
 ·exact AI (by rw[hn,Ah hk];rfl)
def Jo (ls:List Fact):Prop:= ∀l∈ls,-1000000000≤(A0 l).1.n∧(A0 l).1.n≤1000000000
def HL (x:Fact×Bool) (t:Int×Int×List Int):Option (Int×Int×List Int):=
 if x.1.op=2 then if decide (x.1.cls > 1) != x.2 then none else some t
 else if x.1.op=3 then(if x.2 then some (if x.1.n > t.1 then x.1.n else t.1,t.2.1,t.2.2)else some (t.1,if x.1.n - 1<t.2.1 then x.1.n - 1 else t.2.1,t.2.2))
 else if x.2 then some (t.1,t.2.1,t.2.2++[x.1.n])else some (if x.1.n > t.1 then x.1.n else t.1,if x.1.n<t.2.1 then x.1.n else t.2.1,t.2.2)
def foldI:List Fact→Int×Int×List Int→Option (Int×Int×List Int)
 | [],t=>some t
 | x::r,t=>(HL (A0 x) t).bind (foldI r)
def MD: ∀(xs ys:List Fact) (t:Int×Int×List Int),foldI (xs++ys) t=(foldI xs t).bind (foldI ys)
 | [],_,_=>rfl
 | x::r,ys,t=>by
   simp only[List.cons_append,foldI];cases HL (A0 x) t with
   | none=>rfl
   | some u=>exact MD r ys u
def GQ {os:List Fact} {k:Nat} {x:Fact} (hx:os[k]? =some x) (t:Int×Int×List Int):foldI (os.take (k+1)) t=(foldI (os.take k) t).bind (HL (A0 x)):=by
 rw[AO hx,MD];congr 1;funext u;simp only[foldI];cases HL (A0 x) u<;>rfl
def VM {os:List Fact} (k:Nat) {t:Int×Int×List Int} (h:foldI (os.take k) t=none):foldI os t=none:=by
 rw[←List.take_append_drop k os,MD,h];rfl
def Q1 (no:List Int):Nat→Int→Option Int
 | 0,_=>none
 | k+1,n=>if no.all (· != n)then some n else Q1 no k (n+1)
def Nb (t:Int×Int×List Int):Option Int:=Q1 t.2.2 (t.2.1+1 - t.1).toNat t.1
def t0:Int×Int×List Int:=(-1000000000,1000000000,[])
def Ic (ls:List Fact) (a:Int) (p:List Int):Option Int:=(foldI (ls.filter (Gr a p)) t0).bind Nb
def XM (n:Nat) (ls:List Fact) (a:Int) (p:List Int):V:=match Ic ls a p with
 | some x=> .t [eI x,.b (FG n ls a p)]
 | none=> .t [eI 0,.b false]
set_option maxHeartbeats 4000000 in
def Ow (w : AK) (ls:List Fact) (a:Int) (p:List Int) (c:Bool) (hokL: ∀l∈ls,GG l) (hln:ls.length≤1000000) (hp:p.length<50) (hsm:Jo ls):Pure Tryz.prog 233 [.a (Gc w ls a p c)] (XM w.owner.length ls a p):=by
 refine Pure.fit (by kernel_rfl) fun hf=>?_
 have⟨h1,h2,h3,h4⟩:=GL hf.1;have hM:=Mx;refine kW kZ ?_;have hs:=Sn;have hfl:=KD (Gr a p) ls;have hok2: ∀l∈ls.filter (Gr a p),GG l:=fun l hl=>hokL l ((JV.1 hl).1)
 have hsm2:Jo (ls.filter (Gr a p)):=fun l hl=>hsm l ((JV.1 hl).1)
 conv=>whnf
 repeat'((first|apply st|(apply sq;intro K U)|(apply si;intro A B Y Z)|(apply Y;clear Z B Y A)|(apply U;clear U K)|refine⟨kZ,?_⟩|refine Pure.use (ZB _ _ _ _ _ hokL hln) ?_|fail)<;>conv=>whnf)
 generalize hos:ls.filter (Gr a p)=os at *;have hV:Ic ls a p=(foldI os t0).bind Nb:=by rw[Ic,hos]
 refine B2 os.length (fun k (x:Int×Int×List Int×V)=>[(4,eI x.1),(5,eI x.2.1),(6,x.2.2.2),(18,eI (A4 k))]) (fun k x=>[.own x.2.2.2 1 (iL x.2.2.1)]) (fun k x=>foldI (os.take k) t0=some (x.1,x.2.1,x.2.2.1)∧ -1000000000≤x.1∧x.1≤1000000000∧ -1000000001≤x.2.1∧x.2.1≤1000000000∧x.2.2.1.length≤k) (-1000000000,1000000000,[],.l [] true) rfl ⟨rfl,by simp⟩ (E9 hs 1) ?_;clear hs;rintro k ⟨low,high,no,v⟩ σ hk ⟨hno,hb1,hb2,hb3,hb4,hb5⟩ hs;simp only at hb1 hb2 hb3 hb4 hb5 hno;have hok:=hok2
 conv=>whnf
 repeat'((first|apply st|(apply sq;intro K U)|(apply si;intro A B Y Z)|(apply Y;clear Z B Y A)|(apply U;clear U K)|apply dr|refine⟨rfl,?_⟩|refine⟨kZ,?_⟩|refine Mz ?_|refine ld ?_|refine sn fun σ hs=>?_|refine aq fun v σ hs hsl=>?_|(refine fc (fun x hx hlt hc=>?_) (fun hk hc=>?_)<;>(try rw[hc])<;>clear hc)|refine Pure.use (HU _ (hok _ (B5 (by assumption)))) ?_|(constructor<;>intro hc<;>(try rw[hc])<;>(replace hc:=bp hc)<;>try(exfalso;omega))|(intro nn hnn;generalize hg:BA _ nn _=σ;refine al hg fun hs=>?_;clear hg)|clear U K)<;>conv=>whnf)
 all_goals first
  | (have hb:=hsm2 _ (B5 hx)
     first
      | (refine⟨hlt,(_,_,_,_),rfl,⟨?_,?_⟩,hs.take 1⟩
         ·rw[GQ hx,hno]
          have hw:IntKind.i64.wrap ((A0 ‹Fact›).1.n - 1)=(A0 ‹Fact›).1.n - 1:=wrap64 (by omega) (by omega);simp[HL, *]
          done
         ·have hw:IntKind.i64.wrap ((A0 ‹Fact›).1.n - 1)=(A0 ‹Fact›).1.n - 1:=wrap64 (by omega) (by omega)
          simp only[PK,List.length_singleton,hw]
          refine⟨?_,?_,?_,?_,?_⟩<;>(try split)<;>omega)
      | (refine AI ?_
         have:foldI os t0=none:=VM (k+1) (by rw[GQ hx,hno];simp[HL, *]);rw[this]at hV;simp only[XM,hV]
         rfl))
  | skip
 ·have hb:=hsm2 _ (B5 hx)
  refine⟨hlt,(if(A0 x).1.n > low then(A0 x).1.n else low,high,no,v),rfl,⟨?_,?_⟩,hs.take 1⟩
  ·rw[GQ hx,hno]
   simp[HL, *]
  ·dsimp only
   refine⟨?_,?_,?_,?_,?_⟩<;>(try split)<;>omega
 ·have hb:=hsm2 _ (B5 hx)
  have hw:IntKind.i64.wrap ((A0 x).1.n - 1)=(A0 x).1.n - 1:=wrap64 (by omega) (by omega);rw[hw];refine⟨hlt,(low,if(A0 x).1.n - 1<high then(A0 x).1.n - 1 else high,no,v),rfl,⟨?_,?_⟩,hs.take 1⟩
  ·rw[GQ hx,hno]
   simp[HL, *]
  ·dsimp only
   refine⟨?_,?_,?_,?_,?_⟩<;>(try split)<;>omega
 ·have hb:=hsm2 _ (B5 hx)
  refine⟨hlt,(if(A0 x).1.n > low then(A0 x).1.n else low,if(A0 x).1.n<high then(A0 x).1.n else high,no,v),rfl,⟨?_,?_⟩,hs.take 1⟩
  ·rw[GQ hx,hno]
   simp[HL, *]
  ·dsimp only
   refine⟨?_,?_,?_,?_,?_⟩<;>(try split)<;>omega
 rw[Ar (by assumption)]at hno;have hV2:Ic ls a p=Nb (low,high,no):=by rw[hV,hno];rfl
 dsimp only;refine Fo (fun n:Int=>(high+1 - n).toNat) (fun n=>[(11,eI n)]) (fun _=>[.own v 1 (iL no)]) (fun n=>low≤n∧n≤1000000001∧Ic ls a p=Q1 no (high+1 - n).toNat n) low rfl ⟨by omega,by omega,hV2⟩ hs ?_;clear hs;rintro n σ ⟨hn1,hn2,hn⟩ hs;have hnl:no.length≤Af:=by omega
 conv=>whnf
 repeat'((first|apply st|(apply sq;intro K U)|(apply si;intro A B Y Z)|(apply Y;clear Z B Y A)|(apply U;clear U K)|refine⟨rfl,?_⟩|refine lo ?_|(constructor<;>intro hc<;>(try rw[hc])<;>(replace hc:=bp hc))|clear U K)<;>conv=>whnf)
 ·refine B2 no.length (fun j b=>[(12,.b b),(80,eI (A4 j))]) (fun j _=>[.own v 1 (iL no)]) (fun j b=>b=(no.take j).all (· != n)) true rfl (by simp) hs ?_
  clear hs;rintro j b σ hj hb hs;subst hb
  conv=>whnf
  repeat'((first|apply st|(apply sq;intro K U)|(apply si;intro A B Y Z)|(apply Y;clear Z B Y A)|(apply U;clear U K)|refine⟨rfl,?_⟩|refine⟨kZ,?_⟩|refine oc ?_|refine SH ?_|(refine fc (fun x hx hlt hc=>?_) (fun hk hc=>?_)<;>(try rw[hc])<;>clear hc)|refine Pure.use (Wp _ _ _ _ _ hokL (by omega)) ?_|(constructor<;>intro hc<;>(try rw[hc])<;>(replace hc:=bp hc))|clear U K)<;>conv=>whnf)
  ·exact⟨hlt,_,rfl,by rw[AO hx,List.all_append,hc];simp,hs⟩
  ·exact⟨hlt,false,rfl,by rw[AO hx,List.all_append,hc];simp,hs⟩
  ·refine AI ?_
   rw[Ar hk]at hc;rw[show(high+1 - n).toNat=(high - n).toNat+1 by omega,Q1,if_pos hc]at hn;simp only[XM,hn]
  ·rw[Ar hk]at hc
   rw[show(high+1 - n).toNat=(high+1 - (n+1)).toNat+1 by omega,Q1,if_neg (by simp[hc])]at hn;rw[wrap64 (by omega) (by omega)];exact⟨n+1,by omega,rfl,⟨by omega,by omega,hn⟩,hs⟩
 ·refine AI ?_
  have:(high+1 - n).toNat=0:=by omega
  rw[this,Q1]at hn;simp only[XM,hn]
def IJ (x:Fact×Bool):Bool:=((x.1.op==2&&(x.1.cls==0||x.1.cls==2))==x.2)
def HP (n:Nat) (ls:List Fact) (a:Int) (p:List Int):Bool:=(ls.filter (Gr a p)).all (fun l=> !IJ (A0 l))&&FG n ls a p
set_option maxHeartbeats 4000000 in
def WR (w:AK) (ls:List Fact) (a:Int) (p:List Int) (c:Bool) (hokL: ∀l∈ls,GG l) (hln:ls.length≤1000000) (hp:p.length<50):Pure Tryz.prog 234 [.a (Gc w ls a p c)] (.b (HP w.owner.length ls a p)):=by
 refine Pure.fit (by kernel_rfl) fun hf=>?_
 have⟨h1,h2,h3,h4⟩:=GL hf.1;have hM:=Mx;refine kV kZ ?_;have hs:=Sn;have hfl:=KD (Gr a p) ls;have hok: ∀l∈ls.filter (Gr a p),GG l:=fun l hl=>hokL l (JV.1 hl).1
 conv=>whnf
 repeat'((first|apply st|(apply sq;intro K U)|(apply si;intro A B Y Z)|(apply Y;clear Z B Y A)|(apply U;clear U K)|refine⟨kZ,?_⟩|refine Pure.use (ZB _ _ _ _ _ hokL hln) ?_|fail)<;>conv=>whnf)
 generalize hos:ls.filter (Gr a p)=os at *;have hV:HP w.owner.length ls a p=(os.all (fun l=> !IJ (A0 l))&&FG w.owner.length ls a p):=by rw[HP,hos]
 refine B2 os.length (fun k (_:Unit)=>[(11,eI (A4 k))]) (fun k _=>[]) (fun k _=>HP w.owner.length ls a p=((os.drop k).all (fun l=> !IJ (A0 l))&&FG w.owner.length ls a p)) () rfl hV hs ?_;clear hs;rintro k - σ hk hn hs
 conv=>whnf
 repeat'((first|apply st|(apply sq;intro K U)|(apply si;intro A B Y Z)|(apply Y;clear Z B Y A)|(apply U;clear U K)|refine⟨rfl,?_⟩|refine⟨kZ,?_⟩|refine Mz ?_|refine ld ?_|refine sn fun σ hs=>?_|(refine fc (fun x hx hlt hc=>?_) (fun hk hc=>?_)<;>(try rw[hc])<;>clear hc)|refine Pure.use (HU _ (hok _ (B5 (by assumption)))) ?_|refine Pure.use (Wp _ _ _ _ _ hokL (by omega)) ?_|(constructor<;>intro hc<;>(try rw[hc])<;>(replace hc:=bp hc))|(intro nn hnn;generalize hg:BA _ nn _=σ;refine al hg fun hs=>?_;clear hg)|clear U K)<;>conv=>whnf)
 all_goals first
  | (have hst:IJ (A0 x)=true:=by clear hV hn;cases hz:(A0 x).2<;>cases hy:((A0 x).1.cls==2)<;>simp_all [IJ]
     exact AI (by rw[hn,drop_cons hx,My,hst];simp))
  | (have hst:IJ (A0 x)=false:=by clear hV hn;cases hz:(A0 x).2<;>cases hy:((A0 x).1.cls==2)<;>simp_all [IJ]
     exact⟨hlt,(),rfl,by rw[hn,drop_cons hx,My,hst];simp,hs.take 0⟩)
  | exact AI (by rw[hn,Ah (by assumption)];simp)
end Go.Gl
