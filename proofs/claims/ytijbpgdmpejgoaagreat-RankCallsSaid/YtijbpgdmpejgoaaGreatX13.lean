import Derived.Test.YtijbpgdmpejgoaaGreatX12
set_option linter.all false
set_option linter.defProp false
noncomputable section
namespace Go.Gl
open Go.Proofs
attribute [local irreducible] BL A5 Aj AW AN Ai AV AX AO Ah AS AU BA BK Sat Ad BH Al W
def bW {σ:AH}:BL Tryz.prog 164 [.b false] σ fun r σ'=>r= .C9 Dx∧σ'=σ:=by
 refine aD kZ ?_
 conv=>whnf
 repeat'((first|apply st|(apply sq;intro K U)|(apply si;intro A B Y Z)|(apply Y;clear Z B Y A)|(refine Z _ _ _ ?_;clear Z B Y A)|(apply U;clear U K)|refine E2 ?_|fail)<;>conv=>whnf)
 exact DS ⟨rfl,rfl⟩
def Cs {x:Bool} {σ:AH} {k kp:V→AH→Prop} (h1:x=true→k (.t []) σ) (h2:x=false→kp Dx σ):BL Tryz.prog 164 [.b x] σ (qk k kp):=by
 cases x
 ·refine BL.mono bW ?_
  rintro r σ' ⟨rfl,rfl⟩;exact h2 rfl
 ·exact bV.use (h1 rfl)
def Ft:Int→List PT→Bool
 | _,[]=>true
 | n,c::r=>decide (c.AT.length≤4)&&(KU n c.AT&&Ft (n+c.AT.length) r)
def N9: ∀(cs:List PT) (n:Int),Cp n cs=(Ft n cs&&cs.all fun c=>decide (c.parents.length≤3))
 | [],_=>rfl
 | c::r,n=>by
   simp only[Cp,Ft,MU];rw[N9 r];cases decide (c.AT.length≤4)<;>cases decide (c.parents.length≤3)<;>cases KU n c.AT<;>simp
def QG: ∀(cs:List PT) (n:Int),Ft n cs=true→Bu cs≤4*cs.length
 | [],_,_=>JU _
 | c::r,n,h=>by
   simp only[Ft,BZ,CY]at h;have:=QG r _ h.2.2;simp only[Bu,FC,List.sum_cons,La]at *;omega
def TZ {p:Prog} (h:Dt (A8 p)=true):(p.AP.all fun c=>decide (c.parents.length≤3))=true:=by
 rw[E0];intro c hc;obtain⟨i,hi⟩:=List.getElem?_of_mem hc;have:=(Dz h).2 i c.parents (by rw[A8,Lc,hi];rfl);exact decide_eq_true this.1
def PJ (p:Prog):BI p=(decide (p.AP.length≤10)&&(Ft 0 p.AP&&((Bu p.AP:Int)==p.AT&&(Dt (A8 p)&&GJ (AM p) (Bu p.AP) 0 p.AP)))):=by
 rw[BI,N9];cases hg:Dt (A8 p)
 ·simp
 ·rw[TZ hg,Bool.and_true]
abbrev pF (p:Prog):R→AH→Prop:=fun r σ'=> ∃post:List At,(r=(if BI p then R.ret (.t [])else R.C9 Dx)∧post= [])∧Sat σ' post
def Ue {p:Prog} {σ:AH} (h:BI p=false):Aj σ Dx (pF p):=DS ⟨_,⟨by rw[h];rfl,rfl⟩,Sat.nil⟩
def vq {p:Prog} {σ:AH} {l:List At} (hs:Sat σ l) (h:BI p=true):A5 σ (.t []) (pF p):=Ap hs (LY _) (.refl _) fun σ' hs'=>⟨_,⟨by rw[h];rfl,rfl⟩,hs'⟩
set_option maxHeartbeats 4000000 in
def Vv (p : Prog):Bj Tryz.prog 163 [.a (BV p)] [] fun r post=>r=(if BI p then R.ret (.t [])else R.C9 Dx)∧post= []:=by
 intro σ hs;refine BL.fit (by kernel_rfl) fun hf=>?_
 have F:=Jg hf.1;have hcl:=F.1;have hM:=Mx;refine mV kZ ?_;have hcb:=PJ p;by_cases h10:p.AP.length≤10
 rotate_left
 ·conv=>whnf
  repeat'((first|apply st|(apply sq;intro K U)|(apply si;intro A B Y Z)|(apply Y;clear Z B Y A)|(refine Z _ _ _ ?_;clear Z B Y A)|(apply U;clear U K)|refine⟨rfl,?_⟩|(refine Cs (fun hc=>?_) (fun hc=>?_)<;>(replace hc:=bp hc)<;>(try simp(disch:=omega) only[BD,wrap64,AL]at hc)<;>(try(exfalso;omega)))|clear U K)<;>conv=>whnf)
  all_goals try(exfalso;omega)
  exact Ue (by rw[hcb];simp[h10])
 rw[decide_eq_true h10,Ey]at hcb
 conv=>whnf
 repeat'((first|apply st|(apply sq;intro K U)|(apply si;intro A B Y Z)|(apply Y;clear Z B Y A)|(apply U;clear U K)|refine⟨rfl,?_⟩|(refine Cs (fun hc=>?_) (fun hc=>?_)<;>(replace hc:=bp hc)<;>(try simp(disch:=omega) only[BD,wrap64,AL]at hc)<;>(try(exfalso;omega)))|fail)<;>conv=>whnf)
 all_goals try(exfalso;omega)
 refine B4 p.AP.length (fun k (n:Int)=>[(2,eI n),(24,eI (A3 k))]) (fun _ _=>[]) (fun k n=>Ft 0 p.AP=Ft n (p.AP.drop k)∧0≤n∧n+Bu (p.AP.drop k)=Bu p.AP∧n≤4*k) 0 rfl (by simp) hs ?_;clear hs;rintro k n σ hk ⟨hn,hn0,hn1,hn2⟩ hs;rcases BE p.AP hk with⟨c,hc,hlt⟩|hke
 ·have hcm:=(F.2 c (B1 hc)).2.1
  have hms:n+(c.AT.length:Int)+Bu (p.AP.drop (k+1))=Bu p.AP:=by
   rw[drop_cons hc]at hn1;simp only[Bu,FC,List.sum_cons]at hn1 ⊢;omega
  rw[drop_cons hc,Ft]at hn;by_cases h4:c.AT.length≤4
  ·rw [decide_eq_true h4,Ey]at hn
   conv=>whnf
   repeat'((first|apply st|(apply sq;intro K U)|(apply si;intro A B Y Z)|(apply Y;clear Z B Y A)|(apply U;clear U K)|refine⟨rfl,?_⟩|refine⟨kZ,?_⟩|refine ix ?_|refine ld ?_|refine DB fun σ hs=>?_|(refine CA (fun hc=>?_)<;>(try rw[hc])<;>clear hc)|(refine Cs (fun hc=>?_) (fun hc=>?_)<;>(replace hc:=bp hc)<;>(try simp(disch:=omega) only[BD,wrap64,AL]at hc)<;>(try(exfalso;omega)))|(intro nn hnn;generalize hg:A6 _ nn _=σ;refine CW hg fun hs=>?_;clear hg)|fail)<;>conv=>whnf)
   all_goals try(exfalso;omega)
   refine B4 c.AT.length (fun j (m:Int)=>[(2,eI m),(36,eI (A3 j))]) (fun _ _=>[]) (fun j m=>Ft 0 p.AP=(KU m (c.AT.drop j)&&Ft (n+c.AT.length) (p.AP.drop (k+1)))∧m=n+j) n rfl ⟨hn,by simp⟩ (hs.take 0) ?_;clear hs hn;rintro j m σ hj ⟨hm,he⟩ hs;rcases BE c.AT hj with⟨x,hx,hjlt⟩|hje
   ·rw[drop_cons hx,KU]at hm
    conv=>whnf
    repeat'((first|apply st|(apply sq;intro K U)|(apply si;intro A B Y Z)|(apply Y;clear Z B Y A)|(refine Z _ _ _ ?_;clear Z B Y A)|(apply U;clear U K)|refine⟨rfl,?_⟩|refine ix ?_|(refine CA (fun hc=>?_)<;>(try rw[hc])<;>clear hc)|(refine Cs (fun hc=>?_) (fun hc=>?_)<;>(replace hc:=bp hc))|clear U K)<;>conv=>whnf)
    ·rw[wrap64 (by omega) (by omega)]
     rw[hc,beq_self_eq_true,Ey]at hm;exact⟨hjlt,_,rfl,⟨by rw[←hc];rw[←hc]at hm;exact hm,by omega⟩,hs⟩
    ·exact Ue (by rw[hcb,hm];simp[hc])
   ·rw[Ag hje,KU,Ey]at hm
    conv=>whnf
    repeat'((first|apply st|(apply sq;intro K U)|(apply si;intro A B Y Z)|(apply Y;clear Z B Y A)|(apply U;clear U K)|refine⟨rfl,?_⟩|(refine DU (fun hc=>?_)<;>(try rw[hc])<;>clear hc)|clear U K)<;>conv=>whnf)
    exact⟨hlt,m,rfl,⟨by rw[hm];congr 1;omega,by omega,by omega,by omega⟩,hs⟩
  ·conv=>whnf
   repeat'((first|apply st|(apply sq;intro K U)|(apply si;intro A B Y Z)|(apply Y;clear Z B Y A)|(refine Z _ _ _ ?_;clear Z B Y A)|(apply U;clear U K)|refine⟨rfl,?_⟩|refine⟨kZ,?_⟩|refine ix ?_|refine ld ?_|refine DB fun σ hs=>?_|(refine CA (fun hc=>?_)<;>(try rw[hc])<;>clear hc)|(refine Cs (fun hc=>?_) (fun hc=>?_)<;>(replace hc:=bp hc)<;>(try simp(disch:=omega) only[BD,wrap64,AL]at hc)<;>(try(exfalso;omega)))|(intro nn hnn;generalize hg:A6 _ nn _=σ;refine CW hg fun hs=>?_;clear hg)|clear U K)<;>conv=>whnf)
   all_goals try(exfalso;omega)
   exact Ue (by rw[hcb,hn];simp[h4])
 ·have hne:n=Bu p.AP:=by rw[Ag hke]at hn1;simpa[Bu]using hn1
  rw[Ag hke]at hn;have hsp:Ft 0 p.AP=true:=hn;have hml:=QG _ _ hsp;rw[hsp,Ey,←hne]at hcb;cases hgd:Dt (A8 p)
  ·rw[hgd]at hcb
   have hck:=Th (A8 p) false;rw[hgd,if_neg (by decide)]at hck;have hcF:BI p=false:=by rw[hcb];simp
   conv=>whnf
   repeat'((first|apply st|(apply sq;intro K U)|(apply si;intro A B Y Z)|(apply Y;clear Z B Y A)|(refine Z _ _ _ ?_;clear Z B Y A)|(apply U;clear U K)|refine⟨rfl,?_⟩|refine⟨kZ,?_⟩|(refine DU (fun hc=>?_)<;>(try rw[hc])<;>clear hc)|(refine Cs (fun hc=>?_) (fun hc=>?_)<;>(replace hc:=bp hc)<;>(try simp(disch:=omega) only[BD,wrap64,AL]at hc)<;>(try(exfalso;omega))<;>(try(cases hc;done)))|refine Pure.use (K8 _ (by omega)) ?_|(constructor<;>intro hc<;>(try rw[hc])<;>(replace hc:=bp hc))|refine Pure.use (by assumption) ?_|clear U K)<;>conv=>whnf)
   all_goals exact Ue hcF
  ·have hck:=Th (A8 p) false
   rw[hgd,if_pos rfl]at hck;rw[hgd,Ey]at hcb;by_cases hps:n=p.AT
   ·rw [hps,beq_self_eq_true,Ey,←hps]at hcb
    have hslB:Cp 0 p.AP=true:=by rw[N9,hsp,TZ hgd];rfl
    have hG:=Dz hgd;have ho:=JP hG;have hgl:(A8 p).length=p.AP.length:=by simp[A8]
    conv=>whnf
    repeat'((first|apply st|(apply sq;intro K U)|(apply si;intro A B Y Z)|(apply Y;clear Z B Y A)|(apply U;clear U K)|refine⟨rfl,?_⟩|refine⟨kZ,?_⟩|(refine DU (fun hc=>?_)<;>(try rw[hc])<;>clear hc)|(refine Cs (fun hc=>?_) (fun hc=>?_)<;>(replace hc:=bp hc)<;>(try simp(disch:=omega) only[BD,wrap64,AL]at hc)<;>(try(exfalso;omega)))|refine Pure.use (K8 _ (by omega)) ?_|(constructor<;>intro hc<;>(try rw[hc])<;>(replace hc:=bp hc)<;>try(exfalso;omega))|refine Pure.use (by assumption) ?_|clear U K)<;>conv=>whnf)
    refine B4 p.AP.length (fun k (_:Unit)=>[(63,eI (A3 k))]) (fun _ _=>[]) (fun k _=>BI p=GJ (AM p) n k (p.AP.drop k)) () rfl hcb hs ?_;clear hs;rintro i - σ hi hn' hs;rcases BE p.AP hi with⟨c,hc,hilt⟩|hie
    ·rw [drop_cons hc,GJ]at hn'
     have hci:A3 i=i:=AL (by omega);have hw3:IntKind.i64.wrap (A3 i+3)=(i:Int)+3:=by rw[hci,wrap64 (by omega) (by omega)]
     have hlin:=jj (A8 p) false ((i:Int)+3) hgd (by omega) (by omega);have hinl:=(F.2 c (B1 hc)).2.2;have hlb:dT (AM p).parents ((i:Int)+3)= !((B9 (A8 p)).getD ((i:Int)+3).toNat []).isEmpty:=rfl;cases hem:((B9 (A8 p)).getD ((i:Int)+3).toNat []).isEmpty
     ·rw [hem]at hlb
      rw[hlb,Bool.not_false,Ey]at hn';rw[hem,if_neg (by decide),←hw3]at hlin;have hhas:=jv p (i+3) h10 hslB hgd (by omega) (by omega);have hmh:=bX hslB ho (show 3≤i+3 by omega) (show i+3<3+p.AP.length by omega);have ei3:((i+3:Nat):Int)=(i:Int)+3:=by omega
      rw[ei3,←hw3]at hhas;rw[ei3]at hmh;generalize (EF p (i+3) (i+3 - 2)).mergeSort G9=mine at *
      conv=>whnf
      repeat'((first|apply st|(apply sq;intro K U)|(apply si;intro A B Y Z)|(apply Y;clear Z B Y A)|(apply U;clear U K)|refine⟨rfl,?_⟩|refine⟨kZ,?_⟩|refine ix ?_|refine ld ?_|refine DB fun σ hs=>?_|(refine CA (fun hc=>?_)<;>(try rw[hc])<;>clear hc)|(refine Cs (fun hc=>?_) (fun hc=>?_)<;>(replace hc:=bp hc)<;>(try simp(disch:=omega) only[BD,wrap64,AL]at hc)<;>(try(exfalso;omega)))|(intro nn hnn;generalize hg:A6 _ nn _=σ;refine CW hg fun hs=>?_;clear hg)|refine Pure.use (by assumption) ?_|fail)<;>conv=>whnf)
      generalize nn=mm at *;replace hs:Sat σ [.map mm (Q9 [])]:=hs.take 1;refine B4 c.inits.length (fun j (_:List Int)=>[(86,eI (A3 j))]) (fun _ M=>[.map mm (Q9 M)]) (fun j M=>BI p=(EH (AM p) ((i:Int)+3) n (c.inits.take j) (c.inits.drop j)&&GJ (AM p) n (i+1) (p.AP.drop (i+1)))∧ ∀s,M.contains s=(c.inits.take j).any fun y=>y.1==s) [] rfl ⟨hn',fun s=>rfl⟩ hs ?_;clear hs;rintro j M σ hj ⟨hm,hMs⟩ hs;rcases BE c.inits hj with⟨x,hx,hjlt⟩|hje
      ·have hpa:((c.inits.take j).all fun y=>y.1 != x.1)= !M.contains x.1:=by
        rw[hMs,List.all_eq_not_any_not];congr 2;funext y;simp[bne]
       have hst:BI p=((mine.contains x.1&&(!M.contains x.1&&RK x.2))&&(EH (AM p) ((i:Int)+3) n (c.inits.take (j+1)) (c.inits.drop (j+1))&&GJ (AM p) n (i+1) (p.AP.drop (i+1)))):=by
        rw[hm,drop_cons hx,EH,hpa,hmh,←hne,AQ hx];cases decide (0≤x.1)<;>cases decide (x.1<n)<;>cases hasB (AM p) ((i:Int)+3) x.1<;>cases RK x.2<;>cases M.contains x.1<;>simp
       have hMs': ∀s,(Nb M x.1).contains s=(c.inits.take (j+1)).any fun y=>y.1==s:=fun s=>by
        rw[TK,hMs,AQ hx,List.any_append];simp only[Q7,List.any_nil,Bool.or_false];congr 1;rw[Le];simp;exact eq_comm
       have hct:=D0 mine false x.1;have hbt:=PK x.2;clear hmh hpa hMs hm;cases eA:mine.contains x.1<;>cases eB:M.contains x.1<;>cases eD:RK x.2<;>rw[eA]at hct<;>rw[eD]at hbt<;>rw[eA,eB,eD]at hst
       all_goals
        conv=>whnf
        repeat'((first|apply st|(apply sq;intro K U)|(apply si;intro A B Y Z)|(apply Y;clear Z B Y A)|(refine Z _ _ _ ?_;clear Z B Y A)|(apply U;clear U K)|refine⟨rfl,?_⟩|refine⟨kZ,?_⟩|refine ix ?_|refine ld ?_|refine DB fun σ hs=>?_|refine E2 ?_|refine D2 ?_|(refine CA (fun hc=>?_)<;>(try rw[hc])<;>clear hc)|(refine Cs (fun hc=>?_) (fun hc=>?_)<;>(replace hc:=bp hc)<;>(try simp(disch:=omega) only[BD,wrap64,AL]at hc)<;>(try(cases hc;done)))|refine iU eB ?_|refine vK (fun σ hs=>?_)|(intro nn hnn;generalize hg:A6 _ nn _=σ;refine CW hg fun hs=>?_;clear hg)|refine Pure.use (by assumption) ?_|clear U K)<;>conv=>whnf)
       all_goals first
        | exact⟨hjlt,_,rfl,⟨hst,hMs'⟩,hs.less (Jp _ _)⟩
        | exact Ue (by rw[hst];rfl)
      ·rw[Ag hje,EH,Ey]at hm
       conv=>whnf
       repeat'((first|apply st|(apply sq;intro K U)|(apply si;intro A B Y Z)|(apply Y;clear Z B Y A)|(apply U;clear U K)|refine⟨rfl,?_⟩|(refine DU (fun hc=>?_)<;>(try rw[hc])<;>clear hc)|clear U K)<;>conv=>whnf)
       exact⟨hilt,(),rfl,hm,hs.take 0⟩
     ·rw[hem]at hlb
      rw[hem,if_pos rfl,←hw3]at hlin;have hcF:BI p=false:=by rw[hn',hlb];rfl
      conv=>whnf
      repeat'((first|apply st|(apply sq;intro K U)|(apply si;intro A B Y Z)|(apply Y;clear Z B Y A)|(refine Z _ _ _ ?_;clear Z B Y A)|(apply U;clear U K)|refine⟨rfl,?_⟩|refine⟨kZ,?_⟩|refine ix ?_|refine DB fun σ hs=>?_|(refine CA (fun hc=>?_)<;>(try rw[hc])<;>clear hc)|(refine Cs (fun hc=>?_) (fun hc=>?_)<;>(replace hc:=bp hc)<;>(try(exfalso;omega)))|(intro nn hnn;generalize hg:A6 _ nn _=σ;refine CW hg fun hs=>?_;clear hg)|refine Pure.use (by assumption) ?_|clear U K)<;>conv=>whnf)
      all_goals exact Ue hcF
    ·conv=>whnf
     repeat'((first|apply st|(apply sq;intro K U)|(apply si;intro A B Y Z)|(apply Y;clear Z B Y A)|(apply U;clear U K)|refine⟨rfl,?_⟩|(refine DU (fun hc=>?_)<;>(try rw[hc])<;>clear hc)|clear U K)<;>conv=>whnf)
     exact vq hs (by rw[hn',Ag hie];rfl)
   ·have hcF:BI p=false:=by rw[hcb];simp[hps]
    conv=>whnf
    repeat'((first|apply st|(apply sq;intro K U)|(apply si;intro A B Y Z)|(apply Y;clear Z B Y A)|(refine Z _ _ _ ?_;clear Z B Y A)|(apply U;clear U K)|refine⟨rfl,?_⟩|refine⟨kZ,?_⟩|(refine DU (fun hc=>?_)<;>(try rw[hc])<;>clear hc)|(refine Cs (fun hc=>?_) (fun hc=>?_)<;>(replace hc:=bp hc)<;>(try simp(disch:=omega) only[BD,wrap64,AL]at hc)<;>(try(cases hc;done)))|refine Pure.use (K8 _ (by omega)) ?_|(constructor<;>intro hc<;>(try rw[hc])<;>(replace hc:=bp hc)<;>try(exfalso;omega))|clear U K)<;>conv=>whnf)
    all_goals exact Ue hcF
def Xq (f : Fact):Nt f=true→Pure Tryz.prog 171 [.a (xF f)] (eI (DF f)):=by
 induction f using Fact.ind with
 | h f ih=>
   intro ha;refine Pure.fit (by kernel_rfl) fun hf=>?_
   have⟨h2,h3,h4⟩:=HO hf.1;have hM:=Mx;rw[LH]at ha;simp only[BZ,CY,List.all_map,E0]at ha;refine mN kZ ?_;have hs:=Sn;by_cases hlf:Br f=true
   ·have hlo:=F0 hlf
    have hw:IntKind.i64.wrap (f.arg+1)=f.arg+1:=wrap64 (by omega) (by omega)
    conv=>whnf
    repeat'((first|apply st|(apply sq;intro K U)|(apply si;intro A B Y Z)|(apply Y;clear Z B Y A)|(apply U;clear U K)|refine⟨rfl,?_⟩|(constructor<;>intro hc<;>(try rw[hc])<;>(replace hc:=bp hc)<;>try(exfalso;omega))|fail)<;>conv=>whnf)
    all_goals try(exfalso;omega)
    all_goals
     refine B4 f.kids.length (fun k (_:Unit)=>[(3,eI (((f.kids.take k).map DF).foldl HC (if Br f then f.arg+1 else 0))),(25,eI (A3 k))]) (fun _ _=>[]) (fun _ _=>True) () (by rw[hw,if_pos hlf];rfl) trivial hs ?_;clear hs;rintro k - σ hk - hs;rcases BE f.kids hk with⟨x,hx,hlt⟩|hke
     ·have hxs:=ih x (B1 hx) (ha.2 x (B1 hx))
      conv=>whnf
      repeat'((first|apply st|(apply sq;intro K U)|(apply si;intro A B Y Z)|(apply Y;clear Z B Y A)|(apply U;clear U K)|refine⟨rfl,?_⟩|refine⟨kZ,?_⟩|refine Lg ?_|refine ld ?_|refine DB fun σ hs=>?_|(refine CA (fun hc=>?_)<;>(try rw[hc])<;>clear hc)|(intro nn hnn;generalize hg:A6 _ nn _=σ;refine CW hg fun hs=>?_;clear hg)|refine Pure.use (by assumption) ?_|clear U K)<;>conv=>whnf)
      exact⟨hlt,(),by rw[Ec _ _ _ hx];rfl,trivial,hs.take 0⟩
     ·conv=>whnf
      repeat'((first|apply st|(apply sq;intro K U)|(apply si;intro A B Y Z)|(apply Y;clear Z B Y A)|(apply U;clear U K)|refine⟨rfl,?_⟩|(refine DU (fun hc=>?_)<;>(try rw[hc])<;>clear hc)|clear U K)<;>conv=>whnf)
      exact AI (by rw[Au hke,←D8])
   ·have hlo:f.op≠2∧f.op≠3∧f.op≠4:=by
     simp only[Br,Fz,Dn]at hlf;omega
    conv=>whnf
    repeat'((first|apply st|(apply sq;intro K U)|(apply si;intro A B Y Z)|(apply Y;clear Z B Y A)|(apply U;clear U K)|refine⟨rfl,?_⟩|(constructor<;>intro hc<;>(try rw[hc])<;>(replace hc:=bp hc)<;>try(exfalso;omega))|fail)<;>conv=>whnf)
    all_goals try(exfalso;omega)
    all_goals
     refine B4 f.kids.length (fun k (_:Unit)=>[(3,eI (((f.kids.take k).map DF).foldl HC (if Br f then f.arg+1 else 0))),(25,eI (A3 k))]) (fun _ _=>[]) (fun _ _=>True) () (by rw[if_neg hlf];rfl) trivial hs ?_;clear hs;rintro k - σ hk - hs;rcases BE f.kids hk with⟨x,hx,hlt⟩|hke
     ·have hxs:=ih x (B1 hx) (ha.2 x (B1 hx))
      conv=>whnf
      repeat'((first|apply st|(apply sq;intro K U)|(apply si;intro A B Y Z)|(apply Y;clear Z B Y A)|(apply U;clear U K)|refine⟨rfl,?_⟩|refine⟨kZ,?_⟩|refine Lg ?_|refine ld ?_|refine DB fun σ hs=>?_|(refine CA (fun hc=>?_)<;>(try rw[hc])<;>clear hc)|(intro nn hnn;generalize hg:A6 _ nn _=σ;refine CW hg fun hs=>?_;clear hg)|refine Pure.use (by assumption) ?_|clear U K)<;>conv=>whnf)
      exact⟨hlt,(),by rw[Ec _ _ _ hx];rfl,trivial,hs.take 0⟩
     ·conv=>whnf
      repeat'((first|apply st|(apply sq;intro K U)|(apply si;intro A B Y Z)|(apply Y;clear Z B Y A)|(apply U;clear U K)|refine⟨rfl,?_⟩|(refine DU (fun hc=>?_)<;>(try rw[hc])<;>clear hc)|clear U K)<;>conv=>whnf)
      exact AI (by rw[Au hke,←D8])
def X7 (p:Prog) (x:Node) (size:Int):Pure Tryz.prog 168 [.a (BV p),.a (Iv x),eI size] (.b (Ll p x size)):=by
 refine Pure.fit (by kernel_rfl) fun hf=>?_
 have⟨p1,p2,p3,p4⟩:=GI hf.1;have hM:=Mx;have hw:IntKind.i64.wrap (3+((p.AP.map Pa).length:Nat))=3+(p.AP.length:Int):=by rw[BD,wrap64 (by omega) (by omega)]
 refine mQ kZ ?_;have hs:=Sn
 conv=>whnf
 repeat'((first|apply st|(apply sq;intro K U)|(apply si;intro A B Y Z)|(apply Y;clear Z B Y A)|(apply U;clear U K)|refine⟨rfl,?_⟩|refine Pure.use (PK _) ?_|(constructor<;>intro hc<;>(try rw[hc])<;>(replace hc:=bp hc))|clear U K)<;>conv=>whnf)
 all_goals first
  | (refine AI ?_;simp[Ll, *];done)
  | (refine AI ?_;simp[Ll, *];omega)
  | (refine AI ?_;rw[hw];simp[Ll, *];done)
  | (refine AI ?_;congr 1;rw[Le];simp[Ll, *];omega)
def jd (n:Nat) (hn:n≤120):Pure Tryz.prog 252 [.i .u64 1,eU n] (.t [.i .u64 0,eU n]):=by
 refine k8 kZ ?_;have hs:=Sn
 conv=>whnf
 repeat'((first|apply st|(apply sq;intro K U)|(apply si;intro A B Y Z)|(apply Y;clear Z B Y A)|(apply U;clear U K)|refine⟨rfl,?_⟩|refine⟨(by decide:(0:Int)≤_),?_⟩|fail)<;>conv=>whnf)
 have ea: ∀m:Nat,m≤120→bits .and .u64 (m:Int) 4294967295=(m:Int):=fun m hm=>by
  have:=LD (a:=m) (b:=4294967295) (by omega) (by decide)
  have e:m&&&4294967295=m:=by
   have:=Nat.and_two_pow_sub_one_eq_mod m 32;rw[show 2 ^ 32 - 1=4294967295 from rfl]at this;rw[this];omega
  rw[e]at this;exact this
 have e0:=ea 0 (by omega);have e1:=ea 1 (by omega);have en:=ea n hn
 have ef: ∀m:Nat,m≤120→(m:Int).fdiv (2 ^ min (Int.toNat 32) IntKind.u64.bits)=0:=fun m hm=>by
  have:=WR (a:=m) (c:=32) (by decide);rw[show(Int.toNat 32)=32 from rfl,this,Nat.shiftRight_eq_div_pow];have:m / 2 ^ 32=0:=Nat.div_eq_of_lt (by omega);rw[this];rfl
 have f0:=ef 0 (by omega);have f1:=ef 1 (by omega);have fn:=ef n hn;have w0:IntKind.u64.wrap 0=0:=rfl;have wn:IntKind.u64.wrap (n:Int)=n:=HT (by omega);simp only[Int.natCast_zero,Int.natCast_one,Int.cast_ofNat_Int]at e0 e1 f0 f1;simp only[e0,e1,en,f0,f1,fn,w0,wn,Int.zero_mul,Int.mul_zero,Int.zero_add,Int.add_zero,Int.one_mul];exact AI rfl
def je (n:Nat) (hn:n≤120):Pure Tryz.prog 212 [.i .u64 1,eU n] (.t [.i .u64 0,eU n]):=by
 refine lh kZ ?_;have hs:=Sn
 conv=>whnf
 repeat'((first|apply st|(apply sq;intro K U)|(apply si;intro A B Y Z)|(apply Y;clear Z B Y A)|(apply U;clear U K)|refine Pure.use (jd n hn) ?_|fail)<;>conv=>whnf)
 all_goals exact AI rfl
end Go.Gl
namespace Go.Gl
variable {P:Program} {σ:AH}
def ZE {n sz len cap:Nat} {ki:IntKind} {j:Int} {K:V→AH→Prop} (h:K (.sv n sz j.toNat ((len:Int) - j).toNat) σ) (h0:0≤j:=by omega) (h1:j≤(len:Int):=by omega):AV σ sz (.sl n len cap) (some (.i ki j)) none none K:=by
 unfold AV;simp only[ND];exact⟨h0,h1,Int.le_refl _,h⟩
def iN {n sz len cap:Nat} {ki:IntKind} {j:Int} {K:V→AH→Prop} (h:K (.sv n sz 0 j.toNat) σ) (h0:0≤j:=by omega) (h1:j≤(len:Int):=by omega):AV σ sz (.sl n len cap) none (some (.i ki j)) none K:=by
 unfold AV;simp only[ND];refine⟨Int.le_refl _,h0,h1,?_⟩;simpa using h
def pv {l:List At} (h:Sat σ l) (i:Nat) {n len cap sz:Nat} {es ys:List (List V)} {f:Bool} {K:V→AH→Prop} (hi:l[i]? =some (.own (.sl n len cap) sz es)) (hle:ys.length≤es.length) (hys: ∀e∈ys,e.length=sz) (ho: ∀e∈ys,∀v∈e,De v=true)
    (hk: ∀σ',Sat σ' (l.set i (.own (.sl n len cap) sz (ys++es.drop ys.length)))→K (.i .i64 (ys.length:Nat)) σ'):Ah σ sz (.sl n len cap) (.l ys f) K:=by
 rcases h.get hi with⟨h1,_⟩|⟨n',cap',h1,hn⟩
 ·cases h1
 cases h1;unfold Ah;refine⟨hys,ho,?_⟩;simp only[RH,hn];have hm:min ys.length es.length=ys.length:=Nat.min_eq_left hle;refine⟨trivial,by omega,?_⟩;rw[hm];refine hk _ ?_;simp only[List.take_zero,List.nil_append,List.take_length,HA];refine h.change hi (fun b hb ha=>FF hb fun m hm=>?_) (fun b hb ha m hm=>ha m hm) (.inr ⟨n,cap,by simp;omega,by simp[A6]⟩);rw[C5];intro e;subst e;exact ha m rfl hm
def pt {l:List At} (h:Sat σ l) (i:Nat) {n len cap sz a b c:Nat} {es:List (List V)} {K:V→AH→Prop} (hi:l[i]? =some (.own (.sl n len cap) sz es)) (hbc:a+b≤es.length) (hc:c≤es.length) (hys: ∀e∈es,e.length=sz) (ho: ∀e∈es,∀v∈e,De v=true)
    (hk: ∀σ',Sat σ' (l.set i (.own (.sl n len cap) sz (es.take a++((es.take c).take (min c b)++es.drop (a+min c b)))))→K (.i .i64 (min c b:Nat)) σ'):Ah σ sz (.sv n sz a b) (.sv n sz 0 c) K:=by
 rcases h.get hi with⟨h1,_⟩|⟨n',cap',h1,hn⟩
 ·cases h1
 cases h1;unfold Ah;simp only[rowsOf,hn];have hl:((es.drop 0).take c).length=c:=by simp;omega
 refine⟨trivial,trivial,by omega,fun e he v hv=>ho e (List.mem_of_mem_take (by simpa using he)) v hv,trivial,?_⟩;simp only[RH,hn,List.drop_zero];refine⟨trivial,by omega,?_⟩;have hl2:(es.take c).length=c:=by simp;omega
 rw[hl2];refine hk _ ?_;refine h.change hi (fun b hb ha=>FF hb fun m hm=>?_) (fun b hb ha m hm=>ha m hm) (.inr ⟨n,cap,by simp;omega,by simp[A6]⟩);rw[C5];intro e;subst e;exact ha m rfl hm
end Go.Gl
namespace Go.Gl
open Go.Proofs
attribute [local irreducible] BL A5 Aj AW AN Ai AV AX AO Ah AS AU BA BK Sat Ad BH Al W
def Xx (n:Nat) (h1:1≤n) (hn:n≤120):Bj Tryz.prog 165 [.l [[eI (-1)]] true,eI n] [] fun r post=> ∃v,r= .ret v∧post= [.own v 1 (iL (List.replicate n (-1)))]∧(B6 v).isSome=true:=by
 intro σ hs;have hM:=Mx;have hw1:IntKind.u64.wrap 1=1:=rfl;have hwn:IntKind.u64.wrap (n:Int)=n:=HT (by omega);have hwi:IntKind.i64.wrap (n:Int)=n:=wrap64 (by omega) (by omega);refine mU kZ ?_
 conv=>whnf
 repeat'((first|apply st|(apply sq;intro K U)|(apply si;intro A B Y Z)|(apply Y;clear Z B Y A)|(apply U;clear U K)|refine⟨rfl,?_⟩|(constructor<;>intro hc<;>(try rw[hc])<;>(replace hc:=bp hc)<;>try(exfalso;omega))|fail)<;>conv=>whnf)
 rw[show IntKind.u64.wrap (([[eI (-1)]]:List (List V)).length:Nat)=1 from rfl,hwn];refine(je n hn).use ?_
 conv=>whnf
 repeat'((first|apply st|(apply sq;intro K U)|(apply si;intro A B Y Z)|(apply Y;clear Z B Y A)|(apply U;clear U K)|refine⟨rfl,?_⟩|(constructor<;>intro hc<;>(try rw[hc])<;>(replace hc:=bp hc)<;>try(exfalso;omega))|fail)<;>conv=>whnf)
 all_goals try(exfalso;omega)
 rw[hwi];refine dV hs (JU n) (by omega) fun v σ hs hv=>?_
 obtain⟨id,rfl⟩:=hv
 conv=>whnf
 repeat'((first|(apply sq;intro K U)|(apply si;intro A B Y Z)|(apply Y;clear Z B Y A)|(apply U;clear U K)|fail)<;>conv=>whnf)
 refine pv hs 0 (ys:=[[eI (-1)]]) rfl (by simp;omega) (fun e he=>by simp at he;subst he;rfl) (fun e he v hv=>by simp at he;subst he;simp at hv;subst hv;rfl) fun σ hs=>?_
 have hst:([[eI (-1)]]:List (List V))++(List.replicate n [V.i .i64 0]).drop ([[eI (-1)]]:List (List V)).length=List.replicate 1 [eI (-1)]++List.replicate (n - 1) [eI 0]:=by simp[List.drop_replicate]
 rw[hst]at hs
 conv=>whnf
 repeat'((first|apply st|(apply sq;intro K U)|(apply Y;clear Z B Y A)|(apply U;clear U K)|fail)<;>conv=>whnf)
 refine ED (fun m:Nat=>n - m) (fun m=>[(8,eI m)]) (fun m=>[.own (.sl id n n) 1 (List.replicate m [eI (-1)]++List.replicate (n - m) [eI 0])]) (fun m=>1≤m∧m≤n) 1 rfl ⟨by omega,h1⟩ hs ?_;clear hs hst;rintro m σ ⟨hm1,hmn⟩ hs
 have hgl: ∀e∈(List.replicate m [eI (-1)]++List.replicate (n - m) [eI 0]:List (List V)),e.length=1∧ ∀v∈e,De v=true:=fun e he=>by
  rcases Fo.1 he with he|he
  ·rw[(List.mem_replicate.1 he).2];exact⟨rfl,fun v hv=>by simp at hv;subst hv;rfl⟩
  ·rw[(List.mem_replicate.1 he).2];exact⟨rfl,fun v hv=>by simp at hv;subst hv;rfl⟩
 have hlen:(List.replicate m [eI (-1)]++List.replicate (n - m) [eI 0]:List (List V)).length=n:=by simp;omega
 rcases Nat.lt_or_ge m n with hlt|hge
 ·have hcpy:(List.replicate m [eI (-1)]++List.replicate (n - m) [eI 0]:List (List V)).take m++(((List.replicate m [eI (-1)]++List.replicate (n - m) [eI 0]:List (List V)).take m).take (min m (n - m))++(List.replicate m [eI (-1)]++List.replicate (n - m) [eI 0]:List (List V)).drop (m+min m (n - m)))=List.replicate (m+min m (n - m)) [eI (-1)]++List.replicate (n - (m+min m (n - m))) [eI 0]:=by
   have e1:(List.replicate m [eI (-1)]++List.replicate (n - m) [eI 0]:List (List V)).take m=List.replicate m [eI (-1)]:=by
    rw[List.take_append_of_le_length (by simp)];simp
   rw[e1,List.take_replicate,List.drop_append,List.drop_replicate,List.drop_replicate,List.length_replicate,←SS,List.replicate_append_replicate];have e2:m - (m+min m (n - m))=0:=by omega
   have e3:n - m - (m+min m (n - m) - m)=n - (m+min m (n - m)):=by omega
   rw[e2,e3,List.replicate_zero,List.nil_append];congr 2;omega
  conv=>whnf
  repeat'((first|apply st|(apply sq;intro K U)|(apply si;intro A B Y Z)|(apply Y;clear Z B Y A)|(apply U;clear U K)|apply dr|refine⟨rfl,?_⟩|refine lo ?_|(constructor<;>intro hc<;>(try rw[hc])<;>(replace hc:=bp hc)<;>try(exfalso;omega))|fail)<;>conv=>whnf)
  all_goals try(exfalso;omega)
  refine ZE ?_
  conv=>whnf
  repeat'((first|apply dr|fail)<;>conv=>whnf)
  refine iN ?_
  conv=>whnf
  repeat'((first|apply dr|fail)<;>conv=>whnf)
  rw[IT,show((n:Int) - m).toNat=n - m by omega];refine pt hs 0 rfl (by rw[hlen];omega) (by rw[hlen];omega) (fun e he=>(hgl e he).1) (fun e he=>(hgl e he).2) fun σ hs=>?_
  rw[hcpy]at hs
  conv=>whnf
  repeat'((first|(apply Y;clear Z B Y A)|apply dr|refine⟨rfl,?_⟩|clear U K)<;>conv=>whnf)
  refine⟨m+min m (n - m),by omega,?_,⟨by omega,by omega⟩,hs⟩;rw[wrap64 (by omega) (by omega)];rfl
 ·have hme:m=n:=by omega
  subst hme
  conv=>whnf
  repeat'((first|apply st|(apply sq;intro K U)|(apply si;intro A B Y Z)|(apply Y;clear Z B Y A)|(apply U;clear U K)|refine⟨rfl,?_⟩|refine lo ?_|(constructor<;>intro hc<;>(try rw[hc])<;>(replace hc:=bp hc)<;>try(exfalso;omega))|clear U K)<;>conv=>whnf)
  all_goals try(exfalso;omega)
  refine Ap hs (List.Sublist.refl _) (.refl _) fun σ' hs'=>⟨_,⟨_,rfl,?_,rfl⟩,hs'⟩
  simp[iL]
def P1 (op:Int):V:=
 if op=5 then .KT 207 (.a [])else
 if op=1∨op=2∨op=3∨op=6∨op=18 then .KT 205 (eI 0)else
 if op=4∨op=8∨op=17 then .KT 205 (eI 1)else
 if op=7∨op=9∨op=11∨op=12∨op=13∨op=14∨op=15∨op=16 then .KT 205 (eI 2)else
 if op=10 then .KT 205 (eI 3)else .Ig
def YK (op:Int):Pure Tryz.prog 169 [eI op] (P1 op):=by
 refine mP kZ ?_;have hs:=Sn
 conv=>whnf
 repeat'((first|apply st|(apply sq;intro K U)|(apply si;intro A B Y Z)|(apply Y;clear Z B Y A)|(apply U;clear U K)|refine⟨rfl,?_⟩|(constructor<;>intro hc<;>(try rw[hc])<;>(replace hc:=bp hc))|clear U K)<;>conv=>whnf)
 all_goals exact AI (by simp[P1, *])
def pN (n:Int) (p:Prog) (x:Node):Pure Tryz.prog 306 [eI n,.a (BV p),.a (Iv x)] (eI n):=by
 refine kA kZ ?_;have hs:=Sn
 conv=>whnf
 repeat'((first|apply st|(apply sq;intro K U)|(apply si;intro A B Y Z)|(apply Y;clear Z B Y A)|(apply U;clear U K)|fail)<;>conv=>whnf)
 all_goals exact AI rfl
def fl (p:Prog) (x:Node) (h0:0≤x.n) (h1:x.n<p.Cz.length):Pure Tryz.prog 307 [.a [],.a (BV p),.a (Iv x)] (eI (p.Cz.getD x.n.toNat 0)):=by
 refine Pure.fit (by kernel_rfl) fun hf=>?_
 have⟨p1,p2,p3,p4⟩:=GI hf.2.1
 have hx:p.Cz[x.n.toNat]? =some (p.Cz.getD x.n.toNat 0):=by
  rw[DK,Ct (by omega)];rfl
 refine j9 kZ ?_;have hs:=Sn
 conv=>whnf
 repeat'((first|apply st|(apply sq;intro K U)|(apply si;intro A B Y Z)|(apply Y;clear Z B Y A)|(apply U;clear U K)|refine FE ?_|fail)<;>conv=>whnf)
 all_goals exact AI rfl
end Go.Gl
namespace Go.Gl
variable {P:Program} {σ:AH}
def Sat.up {σ':AH} {l:List At} (h:Sat σ l) (hs:Sub σ σ'):Sat σ' l:=by
 refine⟨fun a ha=>?_,h.2⟩;have:=h.1 a ha;cases a with
 | obj n o=>exact hs n o this
 | own v sz es=>
   rcases this with h|⟨n,cap,e,hn⟩
   ·exact .inl h
   ·exact .inr ⟨n,cap,e,hs n _ hn⟩
def Sat.del {l:List At} {n:Nat} {o:O} (h:Sat σ (.obj n o::l)):Sat (del σ n) l:=by
 refine⟨fun b hb=>FF (h.1 b (.tail _ hb)) fun m hm=>?_,(List.pairwise_cons.1 h.2).2⟩;rw[G5];intro e;subst e;exact(List.pairwise_cons.1 h.2).1 b hb m rfl hm
def Sat.Ju {l:List At} {n:Nat} {o:O} (h:Sat σ l) (hn:σ n=none):Sat (A6 σ n o) (.obj n o::l):=(ZK h hn).oy
def Sat.new {l:List At} {n:Nat} {o o':O} (h:Sat σ (.obj n o::l)):Sat (A6 σ n o') (.obj n o'::l):=iW (i:=0) h rfl o'
def AR {v:V} {Q:R→AH→Prop} (h:Q (.ret v) σ):A5 σ v Q:=⟨v,σ,fun _ _ h=>h,.refl v,h⟩
inductive Rd (S:Type) where
 | go (s:S)
 | stop (st:o5) (s:S)
 | C9 (v:V)
def dL {S:Type} (L:Nat) (E:Env) (ok:FuncId→Array Tmp→Code→Code→Nat→Prop) (H:S→List At) (J:S→Prop) (rest:List At) (yes no:V):Rd S→R→AH→Prop
 | .go s,r,σ=>r= .ret yes∧Sat σ (.obj L (.loop .ready E ok)::(H s++rest))
 | .stop st s,r,σ=>r= .ret no∧Sat σ (.obj L (.loop st E ok)::(H s++rest))
 | .C9 v,r,σ=>r= .C9 v∧ ∃s,J s∧Sat (del σ L) (H s++rest)
def L4 {α S:Type} (P:Program) (L:Nat) (E:Env) (ok:FuncId→Array Tmp→Code→Code→Nat→Prop) (ea:α→List V) (H:S→List At) (J:S→Prop) (stp:α→S→Rd S) (D:α→S→Prop):Prop:=
 ∀y s,D y s→ ∀(rest:List At) (σ:AH),Sat σ (.obj L (.loop .ready E ok)::(H s++rest))→Nj P L (ea y) σ (dL L E ok H J rest (.b true) (.b false) (stp y s))
def L4.use {α S:Type} {L:Nat} {E:Env} {ok:FuncId→Array Tmp→Code→Code→Nat→Prop} {ea:α→List V} {H:S→List At} {J:S→Prop} {stp:α→S→Rd S} {D:α→S→Prop} (h:L4 P L E ok ea H J stp D) {y:α} {s:S} (hd:D y s) {rest:List At} (hs:Sat σ (.obj L (.loop .ready E ok)::(H s++rest)))
    {Q:R→AH→Prop} (hk: ∀r σ',dL L E ok H J rest (.b true) (.b false) (stp y s) r σ'→Q r σ'):BA P (.f (.yield L) [] []) (ea y) σ Q:=(h y s hd rest σ hs).mono hk
def PH {L:Nat} {env:Env} {ps:List Nat} {a b:AJ} (hσ:σ L=some (.loop .ready env (B7 P ps a b))) {args:List V} (hl:args.length=ps.length) {Q:R→AH→Prop}
    (h:W P a (DI (W P b fun ex env' σ'=>σ' L=none→Rb L env (B7 P ps a b) Q ex env' σ')) (J3 ps args env) (del σ L)):Nj P L args σ Q:=
 Vm hσ hl (Uz h (Jk fun _ _ h=>iH h))
def Mj {α S:Type} {L:Nat} {E:Env} {ps:List Nat} {a b:AJ} {ea:α→List V} {H:S→List At} {J:S→Prop} {stp:α→S→Rd S} {D:α→S→Prop} (hl: ∀y,(ea y).length=ps.length)
    (h: ∀y s,D y s→ ∀(rest:List At) (σ:AH),Sat σ (H s++rest)→W P a (DI (W P b fun ex env' σ'=>σ' L=none→Rb L E (B7 P ps a b) (dL L E (B7 P ps a b) H J rest (.b true) (.b false) (stp y s)) ex env' σ')) (J3 ps (ea y) E) σ):L4 P L E (B7 P ps a b) ea H J stp D:=
 fun y s hd rest σ hs=>PH (hs.get (i:=0) rfl) (hl y) (h y s hd rest _ hs.del)
def TI {S:Type} {L:Nat} {E:Env} {ok:FuncId→Array Tmp→Code→Code→Nat→Prop} {H:S→List At} {J:S→Prop} {rest:List At} {o:Rd S} {s:S} (h:o= .go s) (hs:Sat σ (H s++rest)) (hn:σ L=none) :
    dL L E ok H J rest (.b true) (.b false) o (.ret (.b true)) (A6 σ L (.loop .ready E ok)):=by
 subst h;exact⟨rfl,hs.Ju hn⟩
def U9 {S:Type} {L:Nat} {E:Env} {ok:FuncId→Array Tmp→Code→Code→Nat→Prop} {H:S→List At} {J:S→Prop} {rest:List At} {o:Rd S} {s:S} {st:o5} (h:o= .stop st s) (hs:Sat σ (H s++rest)) (hn:σ L=none) :
    dL L E ok H J rest (.b true) (.b false) o (.ret (.b false)) (A6 σ L (.loop st E ok)):=by
 subst h;exact⟨rfl,hs.Ju hn⟩
def QK {S:Type} {L:Nat} {E:Env} {ok:FuncId→Array Tmp→Code→Code→Nat→Prop} {H:S→List At} {J:S→Prop} {rest:List At} {o:Rd S} {s:S} {v:V} (h:o= .C9 v) (hj:J s) (hs:Sat σ (H s++rest)) (hn:σ L=none) :
    dL L E ok H J rest (.b true) (.b false) o (.C9 v) σ:=by
 subst h;refine⟨rfl,s,hj,fun a ha=>FF (hs.1 a ha) fun n hd=>?_,hs.2⟩;obtain⟨o,ho⟩:=C2 (hs.1 a ha) hd;rw[G5];intro e;subst e;rw[hn]at ho;cases ho
def Fk {L:Nat} {E env:Env} {ok:FuncId→Array Tmp→Code→Code→Nat→Prop} {Q:Ax→Env→AH→Prop} {l:List At} {v:V} (hs:Sat σ (.obj L (.loop .ready E ok)::l)) (hk: ∀σ',Sat σ' l→Q .normal env σ'):J4 L Q env (.ret v) σ:=
 ⟨_,_,_,hs.get (i:=0) rfl,hk _ hs.del⟩
def VD {L id:Nat} {E env:Env} {ok:FuncId→Array Tmp→Code→Code→Nat→Prop} {Q:Ax→Env→AH→Prop} {l:List At} {v:V} (hs:Sat σ (.obj L (.loop (.exit id) E ok)::l)) (hk: ∀σ',Sat σ' l→Q (.exit id) env σ'):J4 L Q env (.ret v) σ:=
 ⟨_,_,_,hs.get (i:=0) rfl,hk _ hs.del⟩
end Go.Gl
namespace Go.Gl
open Go.Proofs
attribute [local irreducible] BL A5 Aj AW AN Ai AV AX AO Ah AS AU BA BK Sat Ad BH Al W
def FM (p:Prog) (next:Bool) (n size depth:Int) (s:List Int):Option (List Int):=
 if n<0∨(p.nodes.length:Int)≤n∨0≤s.getD n.toNat 0∨12<depth then none else
 match p.nodes[n.toNat]? with
 | none=>none
 | some x=>if EE p next size x then some (s.set n.toNat size)else none
def ZH {S:Type}:Option S→Rd S
 | some s=> .go s
 | none=> .C9 Dx
abbrev vN (y:Int×Int×Int):List V:=[eI y.1,.a [eI y.2.1,eI y.2.2]]
abbrev hOut (nO:Nat) (v:V) (s:List Int):List At:=[.box nO [v],.own v 1 (iL s)]
abbrev dP (p:Prog) (y:Int×Int×Int) (s:List Int):Prop:=0≤y.2.1∧y.2.1≤100∧1≤y.2.2∧y.2.2≤13∧s.length=p.nodes.length
abbrev Ug (p:Prog) (L nW:Nat):V:= .f (.func 214) [] [.rp [.f (.yield L) [] []],.rp (BV p),.p nW 0]
def U2 {p:Prog} {next:Bool} {n size depth:Int} {s s':List Int} (h:FM p next n size depth s=some s'):0≤n∧n<(p.nodes.length:Int)∧s.getD n.toNat 0<0∧depth≤12∧ ∃x,p.nodes[n.toNat]? =some x∧EE p next size x=true∧s'=s.set n.toNat size:=by
 unfold FM at h;split at h
 ·cases h
 ·rename_i hc
  split at h
  ·cases h
  ·rename_i x hx
   split at h
   ·rename_i hok
    simp only[IU]at h;exact⟨by omega,by omega,by omega,by omega,x,hx,hok,h.symm⟩
   ·cases h
def U1 {p:Prog} {next:Bool} {d:Nat} {n size depth:Int} {s:List Int} (hd:depth=13 - (d+1:Nat)) (hd1:1≤depth):CR p next (d+1) n size s=match FM p next n size depth s with
    | none=>none
    | some s'=>match p.nodes[n.toNat]? with
      | none=>none
      | some x=>Fh (CR p next d) x.op size 0 x.kids s':=by
 unfold FM;simp only[CR];by_cases h:n<0∨(p.nodes.length:Int)≤n∨0≤s.getD n.toNat 0
 ·rw[if_pos h,if_pos (by omega)]
 ·rw[if_neg h,if_neg (by omega)]
  cases hx:p.nodes[n.toNat]? with
  | none=>rfl
  | some x=>
    simp only;split
    ·rfl
    ·rfl
def U3 {p:Prog} {next:Bool} {n size depth:Int} {s:List Int} (hd:12<depth):FM p next n size depth s=none:=by
 unfold FM;rw[if_pos (by omega)]
def QW {f:Int→Int→List Int→Option (List Int)} (hf: ∀ {a b s s'},f a b s=some s'→s'.length=s.length) {op size:Int}: ∀(i:Nat) (l:List Int) {s s':List Int},Fh f op size i l s=some s'→s'.length=s.length
 | _,[],s,s',h=>by cases h;rfl
 | i,k::r,s,s',h=>by
   simp only[Fh]at h;split at h
   ·cases h
   ·rename_i s1 h1
    exact(QW hf (i+1) r h).trans (hf h1)
def JJ {p:Prog} {next:Bool}: ∀(d:Nat) {n size:Int} {s s':List Int},CR p next d n size s=some s'→s'.length=s.length
 | 0,_,_,_,_,h=>by cases h
 | d + 1,n,size,s,s',h=>by
   simp only[CR]at h;split at h
   ·cases h
   ·split at h
    ·cases h
    ·split at h
     ·exact(QW (fun h=>JJ d h) 0 _ h).trans (by simp)
     ·cases h
set_option maxHeartbeats 4000000 in
def dd (p : Prog) (next:Bool) {L:Nat} {E:Env} {ok:FuncId→Array Tmp→Code→Code→Nat→Prop} {v:V} {nO:Nat}
    (hY:L4 Tryz.prog L E ok vN (hOut nO v) (fun s=>s.length=p.nodes.length) (fun y s=>ZH (FM p next y.1 y.2.1 y.2.2 s)) (dP p)) :
    ∀ d : Nat,d≤12→ ∀(n size depth:Int) (s:List Int),depth=13 - d→0≤size→size+d≤100→s.length=p.nodes.length→ ∀(nW:Nat) (rest:List At) (σ:AH),
      Sat σ (.obj L (.loop .ready E ok)::(hOut nO v s++(.box nW [Ug p L nW]::rest)))→
      BL Tryz.prog 214 [eI n,.a [eI size,eI depth],.rp [.f (.yield L) [] []],.rp (BV p),.p nW 0] σ
       (dL L E ok (hOut nO v) (fun s=>s.length=p.nodes.length) (.box nW [Ug p L nW]::rest) (.b true) (.b false) (ZH (CR p next d n size s))):=by
 intro d
 induction d with
 | zero=>
   intro _ n size depth s hd h0 h1 hl nW rest σ hs;refine Z6 kZ ?_
   conv=>whnf
   repeat'((first|apply st|(apply sq;intro K U)|(apply si;intro A B Y Z)|(apply Y;clear Z B Y A)|(apply U;clear U K)|refine⟨kZ,?_⟩|fail)<;>conv=>whnf)
   refine hY.use (y:=(n,size,depth)) (s:=s) ⟨h0,(by dsimp only;omega),(by dsimp only;omega),(by dsimp only;omega),hl⟩ hs ?_;rw[U3 (by dsimp only;omega)];rintro r σ' ⟨rfl,s',hj,hs'⟩
   conv=>whnf
   repeat'((first|(refine Z _ _ _ ?_;clear Z B Y A)|clear U K)<;>conv=>whnf)
   exact DS ⟨rfl,s',hj,hs'⟩
 | succ d ih =>
   intro hd12 n size depth s hd h0 h1 hl nW rest σ hs;refine BL.fit (by kernel_rfl) fun hf=>?_
   have hM:=Mx
   have hfp:FD (.a (BV p)):=by
    have:=hf.2.2.2.1;simp only[Ry]at this;simpa only[G4]using this
   have⟨p1,p2,p3,p4⟩:=GI hfp;refine Z6 kZ ?_
   conv=>whnf
   repeat'((first|apply st|(apply sq;intro K U)|(apply si;intro A B Y Z)|(apply Y;clear Z B Y A)|(apply U;clear U K)|refine⟨kZ,?_⟩|fail)<;>conv=>whnf)
   refine hY.use (y:=(n,size,depth)) (s:=s) ⟨h0,(by dsimp only;omega),(by dsimp only;omega),(by dsimp only;omega),hl⟩ hs ?_;have hw:=U1 (p:=p) (next:=next) (n:=n) (size:=size) (s:=s) hd (by omega);cases hv:FM p next n size depth s with
   | none=>
     rw[hv]at hw;rintro r σ' ⟨rfl,s',hj,hs'⟩
     conv=>whnf
     repeat'((first|(refine Z _ _ _ ?_;clear Z B Y A)|clear U K)<;>conv=>whnf)
     refine DS ?_;rw[hw];exact⟨rfl,s',hj,hs'⟩
   | some s1 =>
     obtain⟨g0,g1,g2,g3,x,hx,hok,hs1⟩:=U2 hv;rw[hv]at hw;simp only[hx]at hw;have hl1:s1.length=p.nodes.length:=by rw[hs1];simpa using hl
     have hkm:=Z1 hfp (B1 hx);clear hv hs1;rintro r σ1 ⟨rfl,hs⟩
     conv=>whnf
     repeat'((first|apply st|(apply sq;intro K U)|(apply si;intro A B Y Z)|(apply Y;clear Z B Y A)|(apply U;clear U K)|refine FE ?_|refine D2 ?_|fail)<;>conv=>whnf)
     refine B4 x.kids.length (fun k (_:List Int)=>[(23,eI (A3 k))]) (fun _ s'=> .obj L (.loop .ready E ok)::(hOut nO v s'++(.box nW [Ug p L nW]::rest))) (fun k s'=>s'.length=p.nodes.length∧CR p next (d+1) n size s=Fh (CR p next d) x.op size k (x.kids.drop k) s') s1 rfl ⟨hl1,by simpa using hw⟩ hs ?_;clear hs hw;rintro k s' σ hk ⟨hl',hkids⟩ hs;rcases BE x.kids hk with⟨kid,hkid,hlt⟩|hke
     ·have hck:A3 k=k:=AL (by omega)
      rw[drop_cons hkid,Fh]at hkids;have e0:IntKind.i64.wrap (depth+1)=depth+1:=wrap64 (by omega) (by omega);have e1:IntKind.i64.wrap (size+1)=size+1:=wrap64 (by omega) (by omega)
      have hrec: ∀(sz:Int) (σ:AH) (l:List At),0≤sz→sz+d≤100→Sat σ (l++(.obj L (.loop .ready E ok)::(hOut nO v s'++(.box nW [Ug p L nW]::rest))))→BA Tryz.prog (Ug p L nW) [eI kid,.a [eI sz,eI (depth+1)]] σ
       (dL L E ok (hOut nO v) (fun s=>s.length=p.nodes.length) (.box nW [Ug p L nW]::rest) (.b true) (.b false) (ZH (CR p next d kid sz s'))):=fun sz σ l h0 h1 hs=>
       Bp (ih (by omega) kid sz (depth+1) s' (by omega) h0 h1 hl' nW rest σ (hs.less (List.sublist_append_right _ _)))
      conv=>whnf
      repeat'((first|apply st|(apply sq;intro K U)|(apply si;intro A B Y Z)|(apply Y;clear Z B Y A)|(apply U;clear U K)|refine⟨rfl,?_⟩|refine⟨kZ,?_⟩|refine ix ?_|refine FE ?_|refine ld ?_|refine FB fun σ hs=>?_|refine DB fun σ hs=>?_|(refine CA (fun hc=>?_)<;>(try rw[hc])<;>clear hc)|(constructor<;>intro hc<;>(try rw[hc])<;>(replace hc:=bp hc)<;>(try simp(disch:=omega) only[BD,wrap64,AL]at hc))|(intro nn hnn;generalize hg:A6 _ nn _=σ;refine CW hg fun hs=>?_;clear hg)|fail)<;>conv=>whnf)
      all_goals
       simp only[e0,e1]
       first
        | rw[if_pos (by omega)]at hkids
          refine(hrec (size+1) _ [_] (by omega) (by omega) hs).mono ?_
        | rw[if_neg (by omega)]at hkids
          refine(hrec size _ [_] (by omega) (by omega) hs).mono ?_
       cases hw:CR p next d kid _ s' with
       | none=>
         rw[hw]at hkids;rintro r σ' ⟨rfl,s',hj,hs'⟩
         conv=>whnf
         repeat'((first|(refine Z _ _ _ ?_;clear Z B Y A)|clear U K)<;>conv=>whnf)
         refine DS ?_;rw[hkids];exact⟨rfl,s',hj,hs'⟩
       | some s2=>
         rw[hw]at hkids;rintro r σ' ⟨rfl,hs'⟩
         conv=>whnf
         repeat'((first|apply st|(apply si;intro A B Y Z)|(apply Y;clear Z B Y A)|(apply U;clear U K)|refine⟨rfl,?_⟩|refine D2 ?_|clear U K)<;>conv=>whnf)
         exact⟨hlt,s2,rfl,⟨(JJ _ hw).trans hl',hkids⟩,hs'⟩
     ·rw[Ag hke,Fh]at hkids
      conv=>whnf
      repeat'((first|apply st|(apply sq;intro K U)|(apply si;intro A B Y Z)|(apply Y;clear Z B Y A)|(apply U;clear U K)|refine⟨rfl,?_⟩|(refine DU (fun hc=>?_)<;>(try rw[hc])<;>clear hc)|clear U K)<;>conv=>whnf)
      refine AR ?_;rw[hkids];exact⟨rfl,hs⟩
def iJ {a b:Nat} {A B:Prop} (e:a=b) (h:A):(a=b→A)∧(a≠b→B):=⟨fun _=>h,fun n=>absurd e n⟩
def vU {a b:Nat} {A B:Prop} (e:a≠b) (h:B):(a=b→A)∧(a≠b→B):=⟨fun n=>absurd n e,fun _=>h⟩
def ae {P:Program} {σ:AH} {tab:List (TypeId×FuncId)} {t:TypeId} {f:FuncId} {v:V} {args:List V} {Q:R→AH→Prop} (h:look t tab=some f) (hc:BL P f (v::args) σ Q):BK P tab (.KT t v) args σ Q:=by
 unfold BK;simp only[h];exact hc
def cY (p:Prog) (n size depth:Int):Pure Tryz.prog 167 [.a (BV p),eI n,.a [eI size,eI depth]] (.f (.func 213) [] [.rp (BV p),.rp [eI n],.rp [eI size,eI depth]]):=by
 refine mS kZ ?_;have hs:=Sn
 conv=>whnf
 repeat'((first|apply st|(apply sq;intro K U)|(apply si;intro A B Y Z)|(apply Y;clear Z B Y A)|(apply U;clear U K)|fail)<;>conv=>whnf)
 all_goals exact AI rfl
set_option maxHeartbeats 4000000 in
def j0 (p:Prog) (next:Bool) {L:Nat} {E:Env} {ok:FuncId→Array Tmp→Code→Code→Nat→Prop} {v:V} {nO:Nat}
    (hY:L4 Tryz.prog L E ok vN (hOut nO v) (fun s=>s.length=p.nodes.length) (fun y s=>ZH (FM p next y.1 y.2.1 y.2.2 s)) (dP p)) (n size:Int) (s:List Int) (h0:0≤size) (h1:size≤20) (hl:s.length=p.nodes.length) (rest:List At) (σ:AH)
    (hs : Sat σ (.obj L (.loop .ready E ok)::(hOut nO v s++rest))) :
     BL Tryz.prog 213 [.f (.yield L) [] [],.rp (BV p),.rp [eI n],.rp [eI size,eI 1]] σ
      (dL L E ok (hOut nO v) (fun s=>s.length=p.nodes.length) rest (.t []) (.t []) (ZH (CR p next 12 n size s))):=by
 refine lg kZ ?_
 conv=>whnf
 repeat'((first|apply st|(apply sq;intro K U)|(apply si;intro A B Y Z)|(apply Y;clear Z B Y A)|(apply U;clear U K)|refine⟨kZ,?_⟩|refine ld ?_|refine FB fun σ hs=>?_|(intro nn hnn;generalize hg:A6 _ nn _=σ;refine CW hg fun hs=>?_;clear hg)|fail)<;>conv=>whnf)
 have hp:Sat σ (.obj L (.loop .ready E ok)::(hOut nO v s++(.box nn [Ug p L nn]::rest))):=hs.perm (by
  refine(List.Perm.swap _ _ _).trans (.cons _ ?_)
  exact(List.perm_middle (l₁:=hOut nO v s)).symm)
 refine Bp ((dd p next hY 12 (JU _) n size 1 s rfl h0 (by omega) hl nn rest σ hp).mono ?_);cases hw:CR p next 12 n size s with
 | none=>
   rintro r σ' ⟨rfl,s',hj,hs'⟩
   conv=>whnf
   repeat'((first|(refine Z _ _ _ ?_;clear Z B Y A)|fail)<;>conv=>whnf)
   refine DS ?_;rw[hw];exact⟨rfl,s',hj,hs'.less (List.Sublist.append_left (Jp _ _) _)⟩
 | some s2=>
   rintro r σ' ⟨rfl,hs'⟩
   conv=>whnf
   repeat'((first|(apply Y;clear Z B Y A)|fail)<;>conv=>whnf)
   refine AR ?_;rw[hw];exact⟨rfl,hs'.less (.cons₂ _ (List.Sublist.append_left (Jp _ _) _))⟩
def T7 (p:Prog) (x:Node):(x.op=5∧P1 x.op= .KT 207 (.a []))∨(x.op≠5∧ ∃m:Int,P1 x.op= .KT 205 (eI m)∧It p x=m)∨(P1 x.op= .Ig∧It p x= -1):=by
 unfold P1 It;by_cases h5:x.op=5
 ·exact .inl ⟨h5,by rw[if_pos h5]⟩
 ·rw[if_neg h5]
  split
  ·exact .inr (.inl ⟨h5,_,rfl,rfl⟩)
  split
  ·exact .inr (.inl ⟨h5,_,rfl,rfl⟩)
  split
  ·exact .inr (.inl ⟨h5,_,rfl,rfl⟩)
  split
  ·exact .inr (.inl ⟨h5,_,rfl,rfl⟩)
  ·exact .inr (.inr ⟨rfl,by rw[if_neg (by rintro⟨h,_⟩;exact h5 h)]⟩)
def Rt {p:Prog} {x:Node} (h:x.op=5) {size:Int} (hn:Ll p x size=true):0≤x.n∧x.n<p.Cz.length∧It p x=p.Cz.getD x.n.toNat 0:=by
 have h2:0≤x.n∧x.n<p.Cz.length:=by
  simp only[Ll,h]at hn;simpa using hn
 refine⟨h2.1,h2.2,?_⟩;unfold It;rw[h,if_neg (by decide),if_neg (by decide),if_neg (by decide),if_neg (by decide),if_pos ⟨rfl,h2.1,h2.2⟩]
def au {p:Prog} {next:Bool} {n size depth:Int} {s:List Int} (h:n<0∨(p.nodes.length:Int)≤n∨0≤s.getD n.toNat 0∨12<depth):FM p next n size depth s=none:=by
 unfold FM;rw[if_pos h]
def av {p:Prog} {next:Bool} {n size depth:Int} {s:List Int} {y:Int} {x:Node} (h0:0≤n) (h1:n<(p.nodes.length:Int)) (hy:s[n.toNat]? =some y) (hy0:y<0) (hd:depth≤12) (hx:p.nodes[n.toNat]? =some x):FM p next n size depth s=if EE p next size x then some (s.set n.toNat size)else none:=by
 have e:s.getD n.toNat 0=y:=by rw[DK,hy];rfl
 unfold FM;rw[if_neg (by rw[e];omega),hx]
def q8 (p:Prog) (nO:Nat) (v:V) (rest:List At) (o:Option (List Int)) (r:R) (σ:AH):Prop:=
 match o with
 | some s=>r= .ret (.t [])∧Sat σ (hOut nO v s++rest)
 | none=>r= .C9 Dx∧ ∃s:List Int,s.length=p.nodes.length∧Sat σ (hOut nO v s++rest)
set_option maxHeartbeats 4000000 in
def R1 (p:Prog) (next:Bool) {v:V} {nO:Nat} (hv:(B6 v).isSome=true) (n size:Int) (s:List Int) (h0:0≤size) (h1:size≤20) (hl:s.length=p.nodes.length) (rest:List At) (σ:AH) (hs:Sat σ (hOut nO v s++rest)) :
    BL Tryz.prog 166 [eI n,eI size,.b next,.rp (BV p),.p nO 0] σ (q8 p nO v rest (CR p next 12 n size s)):=by
 refine BL.fit (by kernel_rfl) fun hf=>?_
 have hM:=Mx
 have hfp:FD (.a (BV p)):=by
  have:=hf.2.2.2.1;simp only[Ry]at this;simpa only[G4]using this
 have⟨p1,p2,p3,p4⟩:=GI hfp;refine mT kZ ?_
 conv=>whnf
 repeat'((first|apply st|(apply sq;intro K U)|(apply si;intro A B Y Z)|(apply Y;clear Z B Y A)|(apply U;clear U K)|refine⟨kZ,?_⟩|refine Pure.use (cY _ _ _ _) ?_|(intro nn hnn;generalize hg:A6 _ nn _=σ;refine CW hg fun hs=>?_;clear hg)|fail)<;>conv=>whnf)
 refine BL.mono (j0 p next (L:=nn) (v:=v) (nO:=nO) ?_ n size s h0 h1 hl rest σ hs) ?_
 ·refine Mj (fun y=>rfl) ?_
  clear hs hnn hl h0 h1;rintro⟨k,sz,dp⟩ s ⟨d0,d1,d2,d3,hl⟩ rest σ hs;dsimp only at d0 d1 d2 d3 hl;dsimp only;rw[show vN (k,sz,dp)= [eI k,.a [eI sz,eI dp]] from rfl]
  conv=>whnf
  repeat'((first|apply st|(apply sq;intro K U)|(apply si;intro A B Y Z)|(apply Y;clear Z B Y A)|(refine Z _ _ _ ?_;clear Z B Y A)|(refine Z _ _ fun σ hsub=>?_;clear Z B Y A)|(apply U;clear U K)|apply dr|refine rk ?_ ?_|exact fun s e=>by cases e;rfl|refine⟨rfl,?_⟩|refine⟨kZ,?_⟩|refine iq fun x hx=>?_|refine ld ?_|refine DB fun σ hs=>?_|refine oi ?_|refine ol fun x hx=>?_|refine oset fun σ hs=>?_|refine E2 ?_|refine D2 ?_|(refine Cs (fun hc=>?_) (fun hc=>?_)<;>(replace hc:=bp hc)<;>(try simp(disch:=omega) only[BD,wrap64,AL]at hc)<;>(try(cases hc;done)))|refine Pure.use (X7 _ _ _) ?_|refine Pure.use (YK _) ?_|(rcases T7 p (by assumption)with⟨e5,ek⟩|⟨e5,m,ek,hm⟩|⟨ek,hm⟩<;>rw[ek]<;>clear ek)|refine iJ rfl ?_|refine vU (by decide) ?_|refine ae rfl (Pure.use (pN _ _ _) ?_)|refine ae rfl (Pure.use (fl _ _ (Rt (by assumption) (by assumption)).1 (Rt (by assumption) (by assumption)).2.1) ?_)|(constructor<;>intro hc<;>(try rw[hc])<;>(replace hc:=bp hc)<;>(try simp(disch:=omega) only[BD,wrap64,AL]at hc))|(intro nn hnn;generalize hg:A6 _ nn _=σ;refine CW hg fun hs=>?_;clear hg)|clear U K)<;>conv=>whnf)
  all_goals first
   | (intro hn;refine QK (s:=s) (by rw[au (by first|omega|(rw[DK,‹s[k.toNat]? =some _›];simp only[Option.getD_some];omega))];rfl) hl (hs.less (by repeat first|exact List.Sublist.refl _|apply List.Sublist.cons)) hn)
   | skip
  all_goals
   have hva:=av (next:=next) (size:=sz) (depth:=dp) (show 0≤k by omega) (show k<(p.nodes.length:Int) by omega) ‹s[k.toNat]? =some _› (by assumption) (by omega) ‹p.nodes[k.toNat]? =some _›
   rename Node=>x
   have hk5:x.op=5→Ll p x sz=true→It p x=p.Cz.getD x.n.toNat 0:=fun h hn=>(Rt h hn).2.2
   intro hn
  all_goals first
   | (rw[if_neg (by first|(intro h;rw[EE,hk5 (by assumption) (by assumption)]at h;simp only[BZ,Dn]at h;exact absurd h.1 (by assumption))|(simp[EE, *];done)|(simp[EE, *];omega)|(rw[EE,hk5 (by assumption) (by assumption)];simp[*];done)|(simp[EE, *];intros;omega))]at hva
      refine QK (s:=s.set k.toNat sz) (by rw[hva];rfl) (by simpa using hl) ?_ hn
      first
       | exact hs.less (by repeat first|exact List.Sublist.refl _|apply List.Sublist.cons)
       | exact(hs.less (by repeat first|exact List.Sublist.refl _|apply List.Sublist.cons)).up (by assumption))
   | (rw[if_pos (by first|(simp[EE, *];done)|(rw[EE,hk5 (by assumption) (by assumption)];simp[*];done))]at hva
      exact TI (s:=s.set k.toNat sz) (by rw[hva];rfl) (hs.less (by repeat first|exact List.Sublist.refl _|apply List.Sublist.cons)) hn)
 ·cases hw:CR p next 12 n size s with
  | none=>
    rintro r σ' ⟨rfl,s',hj,hs'⟩
    conv=>whnf
    exact DS ⟨rfl,s',hj,hs'⟩
  | some s2=>
    rintro r σ' ⟨rfl,hs'⟩;refine Fk hs' fun σ2 hs2=>?_
    conv=>whnf
    exact AR ⟨rfl,hs2⟩
def CS (w:AK):Prop:=IL w.parents∧w.owner.length≤40∧ ∀o∈w.owner,(3:Int)≤o∧o<3+(w.parents.length:Int)
def Ua (us:List Nat) (l:List Int) (s:Nat):Nat:=l.foldl (fun s c=>s|||us.getD c.toNat 0) s
def Cm (g:List (List Int)):Nat→List Nat
 | 0=>[1,3,5]
 | k+1=>Cm g k++[Ua (Cm g k) (g.getD k []) (1|||2 ^ (3+k))]
def CG (g:List (List Int)):List Nat:=Cm g g.length
def dS (us:List Nat):List V:=us.map eU++List.replicate (63 - us.length) (eU 0)
def wC (w:AK) (us:List Nat):List V:=Aq w++dS us
def En (g:List (List Int)): ∀k,(Cm g k).length=3+k
 | 0=>rfl
 | k+1=>by simp[Cm,En g k];omega
def Zg (w:AK) {us:List Nat} (h:us.length≤63):(wC w us).length=65:=by
 simp only[wC,Aq,dS,PR,La,List.length_nil,BD,List.length_replicate];omega
def Zf (w:AK) (us:List Nat) (s:Nat) (h:us.length<63):(wC w us).set (2+us.length) (eU s)=wC w (us++[s]):=by
 simp only[wC,dS];rw[List.set_append_right _ _ (by simp[Aq])];congr 1;have e:2+us.length - (Aq w).length=us.length:=by simp[Aq]
 rw[e,List.set_append_right _ _ (by simp)];rw[BD,Nat.sub_self,SN,SS];congr 1;rw[show 63 - us.length=(63 - (us++[s]).length)+1 by simp;omega,List.replicate_succ];rfl
def V7 (w:AK) (us:List Nat) {i:Nat} (h:i<us.length):(wC w us)[2+i]? =some (eU (us.getD i 0)):=by
 simp only[wC,dS];rw[List.getElem?_append_right (by simp[Aq]),show 2+i - (Aq w).length=i by simp[Aq],c7 (by simpa using h),Lc,Ct h,DK,Ct h];rfl
def ot (us:List Nat):Prop:= ∀u∈us,u<18446744073709551616
def Lv {us:List Nat} (h:ot us) (i:Nat):us.getD i 0<18446744073709551616:=by
 rw[DK];cases hx:us[i]? with
 | none=>simp
 | some x=>exact h x (B1 hx)
def Rg {us:List Nat} (h:ot us): ∀(l:List Int) (s:Nat),s<18446744073709551616→Ua us l s<18446744073709551616
 | [],_,hs=>hs
 | c::r,s,hs=>Rg h r _ (KZ hs (Lv h _))
def HS (g:List (List Int)): ∀k,k≤60→ot (Cm g k)
 | 0,_=>by intro u hu;simp[Cm]at hu;omega
 | k+1,hk=>by
   intro u hu;simp only[Cm,Fo,KM]at hu;rcases hu with hu|rfl
   ·exact HS g k (by omega) u hu
   ·exact Rg (HS g k (by omega)) _ _ (KZ (by decide) (Jx (by omega)))
def jL (w:AK) (us:List Nat) (c:Int) {n:Nat} (hM:w.parents.length≤60):Bj Tryz.prog 178 [.p n 0,eI c] [.box n (wC w us)] fun r post=>r= .ret (.b (decide (3≤c)&&decide (c<3+(w.parents.length:Int))))∧post= [.box n (wC w us)]:=by
 intro σ hs;have hw:IntKind.i64.wrap (3+((Ej w.parents).length:Nat))=3+(w.parents.length:Int):=by rw[BD,wrap64 (by omega) (by omega)]
 refine Z8 kZ ?_
 conv=>whnf
 repeat'((first|apply st|(apply sq;intro K U)|(apply si;intro A B Y Z)|(apply Y;clear Z B Y A)|(apply U;clear U K)|refine⟨rfl,?_⟩|refine ld ?_|(constructor<;>intro hc<;>(try rw[hc])<;>(replace hc:=bp hc))|fail)<;>conv=>whnf)
 ·refine AR ⟨_,⟨?_,rfl⟩,hs⟩
  rw[hw,decide_eq_true (show 3≤c by omega)];rfl
 ·refine AR ⟨_,⟨?_,rfl⟩,hs⟩
  rw[decide_eq_false (show¬3≤c by omega)];rfl
def eK (w:AK) (us:List Nat) (c:Int) (hM:w.parents.length≤60):Pure Tryz.prog 178 [.rp (wC w us),eI c] (.b (decide (3≤c)&&decide (c<3+(w.parents.length:Int)))):=by
 have hw:IntKind.i64.wrap (3+((Ej w.parents).length:Nat))=3+(w.parents.length:Int):=by rw[BD,wrap64 (by omega) (by omega)]
 refine Z8 kZ ?_;have hs:=Sn
 conv=>whnf
 repeat'((first|apply st|(apply sq;intro K U)|(apply si;intro A B Y Z)|(apply Y;clear Z B Y A)|(apply U;clear U K)|refine⟨rfl,?_⟩|(constructor<;>intro hc<;>(try rw[hc])<;>(replace hc:=bp hc))|fail)<;>conv=>whnf)
 ·refine AI ?_
  rw[hw,decide_eq_true (show 3≤c by omega)];rfl
 ·refine AI ?_
  rw[decide_eq_false (show¬3≤c by omega)];rfl
def cO (w:AK) (us:List Nat) (c:Int) (hM:w.parents.length≤60):Pure Tryz.prog 222 [.rp (wC w us),eI c] (.b (Nd w c)):=by
 have hw:IntKind.i64.wrap (3+((Ej w.parents).length:Nat))=3+(w.parents.length:Int):=by rw[BD,wrap64 (by omega) (by omega)]
 refine lT kZ ?_;have hs:=Sn
 conv=>whnf
 repeat'((first|apply st|(apply sq;intro K U)|(apply si;intro A B Y Z)|(apply Y;clear Z B Y A)|(apply U;clear U K)|refine⟨rfl,?_⟩|(constructor<;>intro hc<;>(try rw[hc])<;>(replace hc:=bp hc))|fail)<;>conv=>whnf)
 ·refine AI ?_
  rw[hw,Nd,decide_eq_true (show 0≤c by omega)];rfl
 ·refine AI ?_
  rw[Nd,decide_eq_false (show¬0≤c by omega)];rfl
def dq (w:AK) (us:List Nat) (c:Int) (hM:w.owner.length≤60):Pure Tryz.prog 254 [.rp (wC w us),eI c] (.b (HH w c)):=by
 refine kz kZ ?_;have hs:=Sn
 conv=>whnf
 repeat'((first|apply st|(apply sq;intro K U)|(apply si;intro A B Y Z)|(apply Y;clear Z B Y A)|(apply U;clear U K)|refine⟨rfl,?_⟩|(constructor<;>intro hc<;>(try rw[hc])<;>(replace hc:=bp hc))|fail)<;>conv=>whnf)
 ·refine AI ?_
  rw[HH,decide_eq_true (show 0≤c by omega),BD];rfl
 ·refine AI ?_
  rw[HH,decide_eq_false (show¬0≤c by omega)];rfl
def eG (w:AK) (us:List Nat) (l:List Int) (f:Bool) (hM:w.owner.length≤60):Pure Tryz.prog 221 [.rp (wC w us),.l (iL l) f] (.b (E3 w l)):=by
 have hall:=fo (g:=254) (fi:=[.rp (wC w us)]) (ca:=[]) (f:=HH w) (xs:=l) f (fun y _=>dq w us y hM);refine lU kZ ?_;have hs:=Sn
 conv=>whnf
 repeat'((first|apply st|(apply sq;intro K U)|(apply si;intro A B Y Z)|(apply Y;clear Z B Y A)|(apply U;clear U K)|refine⟨rfl,?_⟩|(constructor<;>intro hc<;>(try rw[hc])<;>(replace hc:=bp hc)<;>(try simp(disch:=omega) only[BD,wrap64,AL]at hc))|refine Pure.use (by assumption) ?_|fail)<;>conv=>whnf)
 ·refine AI ?_
  rw[E3,decide_eq_true (show l.length≤2 by omega),Bool.and_true];rfl
 ·refine AI ?_
  rw[E3,decide_eq_false (show¬l.length≤2 by omega),Bool.and_false];rfl
def HR (s:Nat) (c:Int) (hs0:s<18446744073709551616) (h0:0≤c) (hc:c<64):Pure Tryz.prog 176 [eU s,eI c] (eU (s|||2 ^ c.toNat)):=by
 have:=WL s c.toNat hs0 (by omega);rw[Int.toNat_of_nonneg h0]at this;exact this
def xj {k:Nat} (h:k<3):([1,3,5]:List Nat).take k++[1|||2 ^ k]= [1,3,5].take (k+1):=by
 rcases k with _|_|_|k
 ·rfl
 ·rfl
 ·rfl
 ·omega
set_option maxHeartbeats 4000000 in
def eO (w : AK) (hw:CS w):Pure Tryz.prog 139 [.a (Aq w)] (.t [.rp (wC w (CG w.parents)),.b true]):=by
 obtain⟨⟨hl,hrow⟩,ho,how⟩:=hw;have hM:=Mx;refine Pure.of ?_;refine m8 kZ ?_;have hs:=Sn;have hi1:((Ej w.parents).length:Int)≤60:=by rw[BD];omega
 have hi2:((iL w.owner).length:Int)≤40:=by rw[BD];omega
 conv=>whnf
 repeat'((first|apply st|(apply sq;intro K U)|(apply si;intro A B Y Z)|(apply Y;clear Z B Y A)|(apply U;clear U K)|refine⟨rfl,?_⟩|refine⟨kZ,?_⟩|(constructor<;>intro hc<;>(try rw[hc])<;>(replace hc:=bp hc)<;>(try simp(disch:=omega) only[BD,wrap64,AL]at hc)<;>try(exfalso;omega))|(intro nn hnn;generalize hg:A6 _ nn _=σ;refine CW hg fun hs=>?_;clear hg)|fail)<;>conv=>whnf)
 generalize nn=n0 at *;refine B4 3 (fun k (_:Unit)=>[(24,eI (A3 k))]) (fun k _=>[.box n0 (wC w ([1,3,5].take k))]) (fun k _=>True) () rfl trivial hs ?_;clear hs;rintro k - σ hk - hs;have hck:A3 k=k:=AL (by omega);have hlen:(([1,3,5]:List Nat).take k).length=k:=by simp;omega
 by_cases hlt:k<3
 ·have hst:=Zf w ([1,3,5].take k) (1|||2 ^ k) (by omega)
  rw[hlen,xj hlt]at hst
  conv=>whnf
  repeat'((first|apply st|(apply sq;intro K U)|(apply si;intro A B Y Z)|(apply Y;clear Z B Y A)|(apply U;clear U K)|apply dr|refine⟨rfl,?_⟩|refine UT ?_|refine Pure.use (HR 1 _ (by decide) (by omega) (by omega)) ?_|(constructor<;>intro hc<;>(try rw[hc])<;>(replace hc:=bp hc)<;>(try simp(disch:=omega) only[BD,wrap64,AL]at hc)<;>try(exfalso;omega))|fail)<;>conv=>whnf)
  refine Km hs 0 rfl rfl (by rw[Zg w (by omega)];omega) fun σ hs=>?_
  conv=>whnf
  repeat'((first|(apply si;intro A B Y Z)|(apply Y;clear Z B Y A)|(apply U;clear U K)|apply dr|refine⟨rfl,?_⟩|clear U K)<;>conv=>whnf)
  refine⟨hlt,(),rfl,trivial,?_⟩;rw[hck,IT,Nat.mul_one,HA]at hs;simp only[List.set_cons_zero]at hs;rw[hst]at hs;exact hs
 ·have hke:k=3:=by omega
  subst hke;clear hk hck hlen hlt
  conv=>whnf
  repeat'((first|apply st|(apply sq;intro K U)|(apply si;intro A B Y Z)|(apply Y;clear Z B Y A)|(apply U;clear U K)|refine⟨rfl,?_⟩|(constructor<;>intro hc<;>(try rw[hc])<;>(replace hc:=bp hc)<;>(try simp(disch:=omega) only[BD,wrap64,AL]at hc)<;>try(exfalso;omega))|clear U K)<;>conv=>whnf)
  refine B4 w.parents.length (fun k (_:Unit)=>[(38,eI (A3 k))]) (fun k _=>[.box n0 (wC w (Cm w.parents k))]) (fun k _=>True) () rfl trivial hs ?_;clear hs;rintro k - σ hk - hs;have hck:A3 k=k:=AL (by omega);have hul:=En w.parents k;have huo:=HS w.parents k (by omega);have hw3:IntKind.i64.wrap (3+(k:Int))=3+(k:Int):=wrap64 (by omega) (by omega);rcases BE w.parents hk with⟨row,hr,hlt⟩|hke
  ·obtain⟨r1,r2,r3⟩:=hrow k row hr
   rw[←hck]at hw3
   conv=>whnf
   repeat'((first|apply st|(apply sq;intro K U)|(apply si;intro A B Y Z)|(apply Y;clear Z B Y A)|(apply U;clear U K)|refine⟨rfl,?_⟩|refine ix ?_|(refine CA (fun hc=>?_)<;>(try rw[hc])<;>clear hc)|refine Pure.use (HR 1 _ (by decide) (by omega) (by omega)) ?_|fail)<;>conv=>whnf)
   have hbig:ot (Cm w.parents k):=huo;have hst0:IntKind.i64.wrap (3+A3 k)=3+(k:Int):=by rw[hck];exact wrap64 (by omega) (by omega)
   have hs0lt:1|||2 ^ (3+k)<18446744073709551616:=KZ (by decide) (Jx (by omega))
   have hs0e:1|||2 ^ (IntKind.i64.wrap (3+A3 k)).toNat=1|||2 ^ (3+k):=by rw[hst0,show(3+(k:Int)).toNat=3+k by omega]
   rw[hs0e];refine B4 row.length (fun j (s:Nat)=>[(48,eI (A3 j)),(8,eU s)]) (fun _ _=>[.box n0 (wC w (Cm w.parents k))]) (fun j s=>s=Ua (Cm w.parents k) (row.take j) (1|||2 ^ (3+k))) (1|||2 ^ (3+k)) rfl rfl hs ?_;clear hs;rintro j s σ hj hse hs;rcases BE row hj with⟨c,hcj,hjlt⟩|hje
   ·obtain⟨q1,q2⟩:=r3 c (B1 hcj)
    have hload:(wC w (Cm w.parents k))[0+2+c.toNat*1]? =some (eU ((Cm w.parents k).getD c.toNat 0)):=by
     have:=V7 w (Cm w.parents k) (i:=c.toNat) (by omega);rw[←this];congr 1;omega
    have hnc:(row.take j).contains c=false:=by
     rw[←Bool.not_eq_true,List.contains_iff_mem];intro hm;obtain⟨i,hi,he⟩:=List.mem_iff_getElem.1 hm;have hi':i<j:=by rw[LZ]at hi;omega
     rw[List.getElem_take]at he;have hcj':=(Hk.1 hcj).2;exact absurd ((List.getElem_inj r2).1 (he.trans hcj'.symm)) (by omega)
    have hct: ∀b,Pure Tryz.prog 172 [.l (iL (row.take j)) b,eI c] (.b false):=fun b=>by
     have:=D0 (row.take j) b c
     rwa [hnc]at this
    conv=>whnf
    repeat'((first|apply st|(apply sq;intro K U)|(apply si;intro A B Y Z)|(apply Y;clear Z B Y A)|(apply U;clear U K)|refine⟨rfl,?_⟩|refine ix ?_|refine vG ?_|refine UT ?_|refine ld ?_|refine D2 ?_|(refine CA (fun hc=>?_)<;>(try rw[hc])<;>clear hc)|refine Pure.use (hct _) ?_|(rw[hload])|(constructor<;>intro hc<;>(try rw[hc])<;>(replace hc:=bp hc)<;>(try simp(disch:=omega) only[BD,wrap64,AL]at hc)<;>try(exfalso;omega))|clear U K)<;>conv=>whnf)
    refine⟨hjlt,s|||(Cm w.parents k).getD c.toNat 0,?_,?_,hs⟩
    ·have hsl:s<18446744073709551616:=by rw[hse];exact Rg huo _ _ hs0lt
     rw[Kr hsl (Lv huo _)];rfl
    ·rw[hse,AQ hcj]
     simp only[Ua,List.foldl_append];rfl
   ·conv=>whnf
    repeat'((first|apply st|(apply sq;intro K U)|(apply si;intro A B Y Z)|(apply Y;clear Z B Y A)|(apply U;clear U K)|refine⟨rfl,?_⟩|refine UT ?_|(refine DU (fun hc=>?_)<;>(try rw[hc])<;>clear hc)|clear U K)<;>conv=>whnf)
    refine Km hs 0 rfl rfl (by rw[Zg w (by omega),hst0];omega) fun σ hs=>?_
    conv=>whnf
    repeat'((first|(apply si;intro A B Y Z)|(apply Y;clear Z B Y A)|(apply U;clear U K)|refine⟨rfl,?_⟩|clear U K)<;>conv=>whnf)
    refine⟨hlt,(),rfl,trivial,?_⟩
    have e:Cm w.parents (k+1)=Cm w.parents k++[s]:=by
     rw[hse,Cm,DK,hr,hje,List.take_length];rfl
    have hst:=Zf w (Cm w.parents k) s (by omega);rw[e,←hst];have e2:0+2+(IntKind.i64.wrap (3+A3 k)).toNat*1=2+(Cm w.parents k).length:=by rw[hst0,hul];omega
    rw[e2]at hs;exact hs
  ·have hown:=aN 178 [.p n0 0] [] (fun _=>[.box n0 (wC w (Cm w.parents k))]) (Sl fun c=>decide (3≤c)&&decide (c<3+(w.parents.length:Int))) (fun _ _=>True) (fun y s _ σ hs=>Bp (BL.mono (jL w (Cm w.parents k) y (by omega) σ hs) (by
    rintro r σ' ⟨post,⟨h1,h2⟩,h3⟩;subst h2
    exact⟨h1,h3⟩))) w.owner false () (G3 fun _ _ _=>trivial)
   rw[JS]at hown
   have hall:(w.owner.all fun c=>decide (3≤c)&&decide (c<3+(w.parents.length:Int)))=true:=by
    rw[E0];intro o hoo;have:=how o hoo;simp only[BZ,CY];exact this
   rw[hall]at hown
   conv=>whnf
   repeat'((first|apply st|(apply sq;intro K U)|(apply si;intro A B Y Z)|(apply Y;clear Z B Y A)|(apply U;clear U K)|refine⟨rfl,?_⟩|(refine DU (fun hc=>?_)<;>(try rw[hc])<;>clear hc)|clear U K)<;>conv=>whnf)
   refine hown.use (rest:=[]) hs ?_;rintro r post σ ⟨rfl,rfl⟩ hs
   conv=>whnf
   repeat'((first|apply st|(apply Y;clear Z B Y A)|(apply U;clear U K)|fail)<;>conv=>whnf)
   rw[hke]at hs;exact F3 (σ2:=emp) (fun n o ho=>by cases ho) (.t (.cons (hs.ve 0 rfl (.refl _ _ _)) (.cons (.refl _) .nil))) rfl
def Lw (w:AK) (f:Fact):Bool:=decide (0≤f.arg)&&(decide (f.arg<3)&&(E3 w f.path&&(if f.op=2 then f.n==0&&Nd w f.cls else f.cls==0&&(decide (-1000000000≤f.n)&&decide (f.n≤1000000000)))))
def Em (w:AK) (f:Fact):Int→Int→Bool×Int:=f.HF fun f l left deep=>
 if IntKind.i64.wrap (left - 1)<0∨deep=0∨f.op<1∨7<f.op∨f.kids.length≠CH f.op then(false,IntKind.i64.wrap (left - 1))else
 if Br f then(Lw w f,IntKind.i64.wrap (left - 1))else
 if f.arg≠0∨0<f.path.length∨f.cls≠0∨f.n≠0 then(false,IntKind.i64.wrap (left - 1))else
 Co (fun(k:Int→Int→Bool×Int) s=>k s (deep - 1)) l (IntKind.i64.wrap (left - 1))
def LI {α β S:Type} (g:α→β) (stp:β→S→Bool×S): ∀(l:List α) (s:S),Co stp (l.map g) s=Co (fun a s=>stp (g a) s) l s
 | [],_=>rfl
 | a::r,s=>by simp only[FC,Co,LI g stp r]
def HV (w:AK) (f:Fact) (left deep:Int):Em w f left deep =
    if IntKind.i64.wrap (left - 1)<0∨deep=0∨f.op<1∨7<f.op∨f.kids.length≠CH f.op then(false,IntKind.i64.wrap (left - 1))else
    if Br f then(Lw w f,IntKind.i64.wrap (left - 1))else
    if f.arg≠0∨0<f.path.length∨f.cls≠0∨f.n≠0 then(false,IntKind.i64.wrap (left - 1))else
    Co (fun k s=>Em w k s (deep - 1)) f.kids (IntKind.i64.wrap (left - 1)):=by
 rw[Em,Fact.Dk,LI];rfl
def WA {w:AK} {f:Fact} {left deep L1:Int} {b:Bool} {nL:Nat} {σ:AH} (hs:Sat σ [.box nL [eI L1]]) (h:Em w f left deep=(b,L1)):A5 σ (.b b) fun r σ'=> ∃post:List At,(r=R.ret (.b (Em w f left deep).1)∧post= [.box nL [eI (Em w f left deep).2]])∧Sat σ' post:=by
 rw[h];exact AR ⟨_,⟨rfl,rfl⟩,hs⟩
set_option maxHeartbeats 4000000 in
def eR (w:AK) (us:List Nat) (hw1:w.parents.length≤60) (hw2:w.owner.length≤60) (nL:Nat) (f:Fact): ∀(left deep:Int),0≤deep→deep≤12→
    Bj Tryz.prog 181 [.rp (wC w us),.a (xF f),.p nL 0,eI deep] [.box nL [eI left]] fun r post=>r= .ret (.b (Em w f left deep).1)∧post= [.box nL [eI (Em w f left deep).2]]:=by
 induction f using Fact.ind with
 | h f ih=>
   intro left deep hd0 hd1 σ hs;refine BL.fit (by kernel_rfl) fun hf=>?_
   have⟨h2,h3,h4⟩:=HO hf.2.1;have hM:=Mx;have hdw:IntKind.i64.wrap (deep - 1)=deep - 1:=wrap64 (by omega) (by omega);refine mG kZ ?_
   have hstep:DD Tryz.prog (.f (.func 223) [] [.rp [.rp (wC w us)],.rp [.p nL 0],.rp [eI deep]]) (fun y=> .a (xF y)) (fun s=>[.box nL [eI s]]) (fun k s=>Em w k s (deep - 1)) (fun y _=>y∈f.kids∧deep≠0):=by
    rintro y s ⟨hy,hdn⟩ σ hs;refine Bp ?_;show BL Tryz.prog 223 ([]++[.a (xF y)]++[.rp [.rp (wC w us)],.rp [.p nL 0],.rp [eI deep]]) σ _;refine lS kZ ?_
    conv=>whnf
    repeat'((first|apply st|(apply sq;intro K U)|(apply si;intro A B Y Z)|(apply Y;clear Z B Y A)|(apply U;clear U K)|refine⟨rfl,?_⟩|refine⟨kZ,?_⟩|fail)<;>conv=>whnf)
    rw[hdw];refine(ih y hy s (deep - 1) (by omega) (by omega)).use (rest:=[]) hs ?_;rintro r post σ ⟨rfl,rfl⟩ hs
    conv=>whnf
    repeat'((first|apply st|(apply Y;clear Z B Y A)|(apply U;clear U K)|fail)<;>conv=>whnf)
    exact AR ⟨rfl,hs⟩
   conv=>whnf
   repeat'((first|apply st|(apply sq;intro K U)|(apply si;intro A B Y Z)|(apply Y;clear Z B Y A)|(apply U;clear U K)|apply dr|refine rk ?_ ?_|exact fun s e=>by cases e;rfl|refine⟨rfl,?_⟩|refine⟨kZ,?_⟩|refine ld ?_|refine FB fun σ hs=>?_|refine Pure.use (NM _) ?_|refine Pure.use (ep _) ?_|refine Pure.use (cO w us _ hw1) ?_|refine Pure.use (eG w us _ _ hw2) ?_|(constructor<;>intro hc<;>(try rw[hc])<;>(replace hc:=bp hc)<;>(try simp(disch:=omega) only[BD,wrap64,AL]at hc))|clear U K)<;>conv=>whnf)
   all_goals first
    | (refine WA hs ?_;rw[HV,if_pos (by omega)];done)
    | (refine WA hs ?_;rw[HV,if_neg (by omega),if_pos (by assumption)];simp[Lw, *];done)
    | (refine WA hs ?_;rw[HV,if_neg (by omega),if_pos (by assumption)];simp[Lw, *];intros;omega)
    | (refine WA hs ?_;rw[HV,if_neg (by omega),if_neg (by simp[*]),if_pos (by omega)];done)
    | skip
   refine(aM 223 [] _ _ _ _ hstep f.kids false (IntKind.i64.wrap (left - 1)) h2 (G3 fun y hy _=>⟨hy,by omega⟩)).use (rest:=[]) hs ?_;have hE:=HV w f left deep;rw[if_neg (by omega),if_neg (by simp[*]),if_neg (by omega)]at hE;rw[←hE];rintro r post σ ⟨rfl,rfl⟩ hs
   conv=>whnf
   repeat'((first|apply st|(apply Y;clear Z B Y A)|(apply U;clear U K)|fail)<;>conv=>whnf)
   exact AR ⟨_,⟨rfl,rfl⟩,hs⟩
def Kb (w:AK) (f:Fact):Bool:=(Em w f 24 12).1
def YY (w:AK) (us:List Nat) (hw1:w.parents.length≤60) (hw2:w.owner.length≤60) (f:Fact):Pure Tryz.prog 180 [.a (xF f),.rp [.rp (wC w us)]] (.b (Kb w f)):=by
 refine Pure.of ?_;refine mH kZ ?_;have hs:=Sn
 conv=>whnf
 repeat'((first|apply st|(apply sq;intro K U)|(apply si;intro A B Y Z)|(apply Y;clear Z B Y A)|(apply U;clear U K)|refine⟨kZ,?_⟩|refine FB fun σ hs=>?_|(intro nn hnn;generalize hg:A6 _ nn _=σ;refine CW hg fun hs=>?_;clear hg)|fail)<;>conv=>whnf)
 refine(eR w us hw1 hw2 _ f 24 12 (by omega) (by omega)).use (rest:=[]) hs ?_;rintro r post σ ⟨rfl,rfl⟩ hs
 conv=>whnf
 repeat'((first|apply st|(apply Y;clear Z B Y A)|(apply U;clear U K)|fail)<;>conv=>whnf)
 exact AR rfl
def fm {g:FuncId} {fi ca:List V} {f:Fact→Bool} {xs:List Fact} (b:Bool) (hl:xs.length≤Ac) (h: ∀y∈xs,Pure Tryz.prog g (fi++[.a (xF y)]++ca) (.b (f y))):Pure Tryz.prog 179 [.l (facts xs) b,.f (.func g) fi ca] (.b (xs.all f)):=by
 have:=aM g fi ca (fun _=>[]) (fun y (_:Unit)=>(f y,())) (fun y _=>y∈xs) (fun y s hy σ hs=>Bp (BL.mono ((h y hy).use (k:=fun v σ'=>v= .b (f y)∧Sat σ' []) (kp:=fun _ _=>False) ⟨rfl,Sat.nil⟩) (by
  rintro(v|v) σ' hq
  ·obtain⟨rfl,h⟩:=hq
   exact⟨rfl,h⟩
  ·exact hq.elim))) xs b () hl (G3 fun y hy _=>hy)
 rw[JS]at this;exact Pure.of (BL.mono (this emp Sat.nil) fun r σ' ⟨post,⟨h1,h2⟩,h3⟩=>h1)
def Ya (w:AK) (us:List Nat) (hw1:w.parents.length≤60) (hw2:w.owner.length≤60) (l:List Fact) (b:Bool) (hl:l.length≤60):Pure Tryz.prog 140 [.rp (wC w us),.l (facts l) b] (.b (l.all (Kb w))):=by
 have hall:=fm (g:=180) (fi:=[]) (ca:=[.rp [.rp (wC w us)]]) (f:=Kb w) (xs:=l) b (by simp only[Ac];omega) fun y _=>YY w us hw1 hw2 y
 refine m7 kZ ?_;have hs:=Sn
 conv=>whnf
 repeat'((first|apply st|(apply sq;intro K U)|(apply si;intro A B Y Z)|(apply Y;clear Z B Y A)|(apply U;clear U K)|refine Pure.use (by assumption) ?_|fail)<;>conv=>whnf)
 exact AI rfl
def NH (w:AK) (hw:CS w) (l:List Fact) (b:Bool) (hl:l.length≤60):Pure Tryz.prog 109 [.a (Aq w),.l (facts l) b] (.t [.rp (wC w (CG w.parents)),.b (l.all (Kb w))]):=by
 have hfo:=Ya w (CG w.parents) (by have:=hw.1.1;omega) (by have:=hw.2.1;omega) l b hl;refine ni kZ ?_;have hs:=Sn
 conv=>whnf
 repeat'((first|apply st|(apply sq;intro K U)|(apply si;intro A B Y Z)|(apply Y;clear Z B Y A)|(apply U;clear U K)|refine⟨kZ,?_⟩|refine Pure.use (eO w hw) ?_|refine hfo.use ?_|fail)<;>conv=>whnf)
 all_goals exact AI rfl
def Y1 (w:AK) (hw:CS w) (f:Fact):Pure Tryz.prog 170 [.a (Aq w),.a (xF f)] (eI (if Kb w f then 0 else 2)):=by
 have hfo: ∀b,Pure Tryz.prog 109 [.a (Aq w),.l [Fx f] b] (.t [.rp (wC w (CG w.parents)),.b (Kb w f)]):=fun b=>by
  have:=NH w hw [f] b (by simp);simpa using this
 refine mO kZ ?_;have hs:=Sn
 conv=>whnf
 repeat'((first|apply st|(apply sq;intro K U)|(apply si;intro A B Y Z)|(apply Y;clear Z B Y A)|(apply U;clear U K)|refine⟨kZ,?_⟩|fail)<;>conv=>whnf)
 rw[Be]at hfo;refine(hfo _).use ?_
 conv=>whnf
 repeat'((first|apply st|(apply sq;intro K U)|(apply si;intro A B Y Z)|(apply Y;clear Z B Y A)|(apply U;clear U K)|refine Pure.use (VB _) ?_|fail)<;>conv=>whnf)
 exact AI rfl
end Go.Gl
namespace Go.Gl
def LN {most:Int}: ∀(l:List Fact) (n:Int),(∀k∈l,∀m:Int,(Ld k:Int)≤m→Cc k m=Ld k)→n+(l.map Ld).sum≤most→Dh (l.map Cc) n most=n+(l.map Ld).sum
 | [],n,_,_=>by simp[Dh]
 | k::r,n,h,h1=>by
   simp only[FC,List.sum_cons,Dh]at *;rw[if_pos (by omega),h k (.head _) (most - n) (by omega),LN r _ (fun k' hk'=>h k' (.tail _ hk')) (by omega)];omega
def SA (f:Fact): ∀m:Int,(Ld f:Int)≤m→Cc f m=Ld f:=by
 induction f using Fact.ind with
 | h f ih=>
   intro m hm;rw[Hd];rw[J1]at *;rw[LN f.kids 1 ih (by omega)];omega
def YA (f:Fact) {m:Int} (h0:0≤m):Cc f m≤m↔(Ld f:Int)≤m:=
 ⟨fun h=>by rw[←KC f m h0 h];exact h,fun h=>by rw[SA f m h];exact h⟩
def fW (f:Fact):1≤Ld f:=by rw[J1];omega
def GV {m:Int}: ∀(l:List Int) (a:Int),l.foldl HC a≤m↔a≤m∧ ∀x∈l,x≤m
 | [],a=>by simp
 | x ::r,a=>by
   rw[List.foldl_cons,GV r];unfold HC;constructor
   ·rintro⟨h1,h2⟩
    refine⟨by split at h1<;>omega,fun y hy=>?_⟩;rcases GB.1 hy with rfl|hy
    ·split at h1<;>omega
    ·exact h2 y hy
   ·rintro⟨h1,h2⟩
    have hx:=h2 x (.head _);exact⟨by split<;>omega,fun y hy=>h2 y (.tail _ hy)⟩
def cJ (f:Fact) {m:Int}:EI f≤m↔1≤m∧ ∀k∈f.kids,EI k≤m - 1:=by
 rw[F7];constructor
 ·intro h
  have:=(GV (m:=m - 1) (f.kids.map EI) 0).1 (by omega);exact⟨by omega,fun k hk=>this.2 _ (List.mem_map_of_mem hk)⟩
 ·rintro⟨h1,h2⟩
  have:=(GV (m:=m - 1) (f.kids.map EI) 0).2 ⟨by omega,fun x hx=>by
   obtain⟨k,hk,rfl⟩:=Lf.1 hx
   exact h2 k hk⟩
  omega
def ZV (w:AK) (f:Fact) (left deep:Int):Prop:=(Ld f:Int)≤left∧EI f≤deep∧Bi w f=true
def Q1 (w:AK) {deep:Int}: ∀(l:List Fact) (left:Int),0≤left→left≤24→(∀k∈l,∀left:Int,0≤left→left≤24→((Em w k left deep).1=true↔ZV w k left deep)∧((Em w k left deep).1=true→(Em w k left deep).2=left - Ld k))→
    ((Co (fun k s=>Em w k s deep) l left).1=true↔((l.map Ld).sum:Int)≤left∧ ∀k∈l,EI k≤deep∧Bi w k=true)∧((Co (fun k s=>Em w k s deep) l left).1=true→(Co (fun k s=>Em w k s deep) l left).2=left - ((l.map Ld).sum:Nat))
 | [],left,h0,h1,_=>by simp[Co];exact h0
 | k ::r,left,h0,h1,h=>by
   obtain⟨ha,hb⟩:=h k (.head _) left h0 h1;simp only[Co,FC,List.sum_cons];cases hk:(Em w k left deep).1
   ·simp only[Lb,if_false,false_iff,false_implies,and_true]
    rintro⟨h2,h3⟩;have:=ha.2 ⟨by omega,(h3 k (.head _)).1,(h3 k (.head _)).2⟩;rw[hk]at this;cases this
   ·obtain⟨g1,g2,g3⟩:=ha.1 hk
    have hc:=fW k;rw[if_pos rfl,hb hk];obtain⟨i1,i2⟩:=Q1 w r (left - Ld k) (by omega) (by omega) fun k' hk'=>h k' (.tail _ hk')
    refine⟨i1.trans ⟨fun⟨e1,e2⟩=>⟨by omega,fun x hx=>?_⟩,fun⟨e1,e2⟩=>⟨by omega,fun x hx=>e2 x (.tail _ hx)⟩⟩,fun h=>by rw[i2 h];omega⟩;rcases GB.1 hx with rfl|hx
    ·exact⟨g2,g3⟩
    ·exact e2 x hx
def eQ (w : AK) (f:Fact): ∀left deep:Int,0≤left→left≤24→0≤deep→((Em w f left deep).1=true↔ZV w f left deep)∧((Em w f left deep).1=true→(Em w f left deep).2=left - Ld f):=by
 induction f using Fact.ind with
 | h f ih=>
   intro left deep h0 h1 hd;have hw:IntKind.i64.wrap (left - 1)=left - 1:=wrap64 (by omega) (by omega);rw[HV,hw];have hc:=J1 f;have hn:=Ci w f;have hdl:=cJ f (m:=deep)
   have hko:DC w f=true→f.kids.length=CH f.op:=fun h=>by
    simp only[DC,BZ,Dn]at h;exact h.2.1
   have hop:DC w f=true→1≤f.op∧f.op≤7:=fun h=>by
    simp only[DC,BZ]at h;have h1:=h.1;unfold SV at h1;split at h1
    ·omega
    split at h1
    ·omega
    simp at h1;omega
   by_cases hbad:left - 1<0∨deep=0∨f.op<1∨7<f.op∨f.kids.length≠CH f.op
   ·rw[if_pos hbad]
    simp only[Lb,false_iff,false_implies,and_true];rintro⟨g1,g2,g3⟩;rw[hn,BZ]at g3;have g4:=hko g3.1;have g5:=hop g3.1;have g6:=(hdl.1 g2).1;omega
   rw[if_neg hbad];by_cases hl:Br f=true
   ·rw [if_pos hl]
    have hl':f.op=2∨f.op=3∨f.op=4:=by
     simp only[Br,Fz,Dn]at hl;omega
    have hk0:f.kids= []:=by
     have:f.kids.length=CH f.op:=by omega
     rw[CH,if_neg (by omega),if_neg (by omega)]at this;exact cz.1 this
    have hd1:EI f=1:=by rw[F7,hk0];rfl
    have hc1:Ld f=1:=by rw[hc,hk0];rfl
    have hh:DC w f=Lw w f:=by
     unfold DC SV Lw;rw[hl,hk0];have e:CH f.op=0:=by rw[CH,if_neg (by omega),if_neg (by omega)]
     rw[e];simp only[List.length_nil,beq_self_eq_true,Ey,Bool.true_or,Bool.and_true];rcases hl' with e|e|e
     ·rw[if_pos e,if_pos e]
      cases(f.n==0&&Nd w f.cls)<;>simp
     ·rw[if_neg (show¬f.op=2 by omega),if_neg (show¬f.op=2 by omega),if_pos (show f.op=3∨f.op=4 from .inl e)]
      cases(f.cls==0&&(decide (-1000000000≤f.n)&&decide (f.n≤1000000000)))<;>simp
     ·rw[if_neg (show¬f.op=2 by omega),if_neg (show¬f.op=2 by omega),if_pos (show f.op=3∨f.op=4 from .inr e)]
      cases(f.cls==0&&(decide (-1000000000≤f.n)&&decide (f.n≤1000000000)))<;>simp
    refine⟨⟨fun h=>⟨by omega,by omega,?_⟩,fun⟨_,_,h⟩=>?_⟩,fun _=>by dsimp only;omega⟩
    ·rw[hn,hk0,hh];simpa using h
    ·rw[hn,hk0,hh]at h;simpa using h
   ·have hl':f.op=1∨f.op=5∨f.op=6∨f.op=7:=by
     simp only[Br,Fz,Dn]at hl;omega
    have hlf:Br f=false:=by simpa using hl
    rw[if_neg hl];by_cases hz:f.arg≠0∨0<f.path.length∨f.cls≠0∨f.n≠0
    ·rw[if_pos hz]
     simp only[Lb,false_iff,false_implies,and_true];rintro⟨g1,g2,g3⟩;rw[hn,BZ]at g3;have g4:=g3.1;simp only[DC,hlf,Bool.false_or,BZ,Dn]at g4;omega
    ·rw [if_neg hz]
     obtain⟨i1,i2⟩:=Q1 w (deep:=deep - 1) f.kids (left - 1) (by omega) (by omega) fun k hk left hl0 hl1=>ih k hk left (deep - 1) hl0 hl1 (by omega)
     have hh:DC w f=true:=by
      have hp:f.path= []:=cz.1 (by omega)
      have e1:SV w f=true:=by
       unfold SV;rw[if_neg (by omega),if_neg (by omega)];simp only[Fz,Dn];omega
      have z1:f.arg=0:=by omega
      have z2:f.cls=0:=by omega
      have z3:f.n=0:=by omega
      have z4:f.kids.length=CH f.op:=by omega
      simp[DC,e1,hlf,hp,z1,z2,z3,z4,E3]
     refine⟨i1.trans ⟨fun⟨e1,e2⟩=>⟨by omega,hdl.2 ⟨by omega,fun k hk=>(e2 k hk).1⟩,?_⟩,fun⟨g1,g2,g3⟩=>⟨by omega,fun k hk=>⟨(hdl.1 g2).2 k hk,?_⟩⟩⟩,fun h=>by rw[i2 h];omega⟩
     ·rw[hn,hh,Ey,E0]
      exact fun k hk=>(e2 k hk).2
     ·rw[hn,hh,Ey,E0]at g3
      exact g3 k hk
def NR (w:AK) (f:Fact):Kb w f=Cg w f:=by
 have:=(eQ w f 24 12 (by omega) (by omega) (by omega)).1;rw[Kb,Cg,Le,this,ZV];simp only[BZ,CY];rw[YA f (by omega)]
end Go.Gl
