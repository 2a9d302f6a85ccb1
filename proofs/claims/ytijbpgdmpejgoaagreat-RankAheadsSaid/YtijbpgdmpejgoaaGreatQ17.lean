import Derived.Test.YtijbpgdmpejgoaaGreatQ15
import Derived.Test.YtijbpgdmpejgoaaGreatQ16
set_option linter.all false
set_option linter.unusedVariables false
set_option linter.unusedSimpArgs false
namespace Go.Gl
open Go.Proofs
attribute [local irreducible] Bj Bf Ba Al Aa BS Ao Aq Ac BO Ah Ap Bz CA Sat A7 B8 Be W
theorem cC {σ:AH}:Bj Tryz.prog 164 [.b false] σ fun r σ'=>r= .By D2∧σ'=σ:=by
 refine a6 nb ?_
 conv=>whnf
 repeat'((first|refine st ?_|(refine sq ?_;intro K U)|(refine si ?_;intro A B Y Z)|(refine Y _ _ ?_;clear Z B Y A)|(refine Z _ _ _ ?_;clear Z B Y A)|(refine U _ _ ?_;clear U K)|refine Ls ?_|fail)<;>conv=>whnf)
 exact DY ⟨rfl,rfl⟩
theorem C4 {x:Bool} {σ:AH} {k kp:V→AH→Prop} (h1:x=true→k (.t []) σ) (h2:x=false→kp D2 σ):Bj Tryz.prog 164 [.b x] σ (qk k kp):=by
 cases x
 ·refine Bj.mono cC ?_
  rintro r σ' ⟨rfl,rfl⟩;exact h2 rfl
 ·exact cB.use (h1 rfl)
def Fl:Int→List Pc→Bool
 | _,[]=>true
 | n,c::r=>decide (c.AN.length≤4)&&(Ki n c.AN&&Fl (n+c.AN.length) r)
theorem OY: ∀(cs:List Pc) (n:Int),C0 n cs=(Fl n cs&&cs.all fun c=>decide (c.parents.length≤3))
 | [],_=>rfl
 | c::r,n=>by
   simp only[C0,Fl,List.all_cons];rw[OY r];cases decide (c.AN.length≤4)<;>cases decide (c.parents.length≤3)<;>cases Ki n c.AN<;>simp
theorem QD: ∀(cs:List Pc) (n:Int),Fl n cs=true→B3 cs≤4*cs.length
 | [],_,_=>Nat.le_refl _
 | c::r,n,h=>by
   simp only[Fl,Bn,D8]at h;have:=QD r _ h.2.2;simp only[B3,List.map_cons,List.sum_cons,NW]at *;omega
theorem T0 {p:Prog} (h:Dz (A4 p)=true):(p.AO.all fun c=>decide (c.parents.length≤3))=true:=by
 rw[IU];intro c hc;obtain⟨i,hi⟩:=List.getElem?_of_mem hc;have:=(D4 h).2 i c.parents (by rw[A4,Pu,hi];rfl);exact decide_eq_true this.1
theorem PT (p:Prog):BC p=(decide (p.AO.length≤10)&&(Fl 0 p.AO&&((B3 p.AO:Int)==p.AN&&(Dz (A4 p)&&GB (Ae p) (B3 p.AO) 0 p.AO)))):=by
 rw[BC,OY];cases hg:Dz (A4 p)
 ·simp
 ·rw[T0 hg,Bool.and_true]
abbrev y6 (p:Prog):R→AH→Prop:=fun r σ'=> ∃post:List At,(r=(if BC p then R.ret (.t [])else R.By D2)∧post= [])∧Sat σ' post
theorem VF {p:Prog} {σ:AH} (h:BC p=false):Ba σ D2 (y6 p):=DY ⟨_,⟨by rw[h];rfl,rfl⟩,Sat.nil⟩
theorem clsT {p:Prog} {σ:AH} {l:List At} (hs:Sat σ l) (h:BC p=true):Bf σ (.t []) (y6 p):=BG hs (List.nil_sublist _) (.refl _) fun σ' hs'=>⟨_,⟨by rw[h];rfl,rfl⟩,hs'⟩
set_option maxHeartbeats 4000000 in
theorem WQ (p : Prog):CL Tryz.prog 163 [.a (Br p)] [] fun r post=>r=(if BC p then R.ret (.t [])else R.By D2)∧post= []:=by
 intro σ hs;refine Bj.fit (by kernel_rfl) fun hf=>?_
 have F:=Mq hf.1;have hcl:=F.1;have hM:=Mx;refine wZ nb ?_;have hcb:=PT p;by_cases h10:p.AO.length≤10
 rotate_left
 ·conv=>whnf
  repeat'((first|refine st ?_|(refine sq ?_;intro K U)|(refine si ?_;intro A B Y Z)|(refine Y _ _ ?_;clear Z B Y A)|(refine Z _ _ _ ?_;clear Z B Y A)|(refine U _ _ ?_;clear U K)|refine⟨rfl,?_⟩|(refine C4 (fun hc=>?_) (fun hc=>?_)<;>(replace hc:=bp hc)<;>(try simp(disch:=omega) only[B2,wrap64,AU]at hc)<;>(try(exfalso;omega)))|clear U K)<;>conv=>whnf)
  all_goals try(exfalso;omega)
  exact VF (by rw[hcb];simp[h10])
 rw[decide_eq_true h10,Bool.true_and]at hcb
 conv=>whnf
 repeat'((first|refine st ?_|(refine sq ?_;intro K U)|(refine si ?_;intro A B Y Z)|(refine Y _ _ ?_;clear Z B Y A)|(refine U _ _ ?_;clear U K)|refine⟨rfl,?_⟩|(refine C4 (fun hc=>?_) (fun hc=>?_)<;>(replace hc:=bp hc)<;>(try simp(disch:=omega) only[B2,wrap64,AU]at hc)<;>(try(exfalso;omega)))|fail)<;>conv=>whnf)
 all_goals try(exfalso;omega)
 refine C5 p.AO.length (fun k (n:Int)=>[(2,eI n),(24,eI (Bw k))]) (fun _ _=>[]) (fun k n=>Fl 0 p.AO=Fl n (p.AO.drop k)∧0≤n∧n+B3 (p.AO.drop k)=B3 p.AO∧n≤4*k) 0 rfl (by simp) hs ?_;clear hs;rintro k n σ hk ⟨hn,hn0,hn1,hn2⟩ hs;rcases B0 p.AO hk with⟨c,hc,hlt⟩|hke
 ·have hcm:=(F.2 c (DL hc)).2.1
  have hms:n+(c.AN.length:Int)+B3 (p.AO.drop (k+1))=B3 p.AO:=by
   rw[drop_cons hc]at hn1;simp only[B3,List.map_cons,List.sum_cons]at hn1 ⊢;omega
  rw[drop_cons hc,Fl]at hn;by_cases h4:c.AN.length≤4
  ·rw [decide_eq_true h4,Bool.true_and]at hn
   conv=>whnf
   repeat'((first|refine st ?_|(refine sq ?_;intro K U)|(refine si ?_;intro A B Y Z)|(refine Y _ _ ?_;clear Z B Y A)|(refine U _ _ ?_;clear U K)|refine⟨rfl,?_⟩|refine⟨nb,?_⟩|refine ix ?_|refine ld ?_|refine Hi fun σ hs=>?_|(refine Et (fun hc=>?_)<;>(try rw[hc])<;>clear hc)|(refine C4 (fun hc=>?_) (fun hc=>?_)<;>(replace hc:=bp hc)<;>(try simp(disch:=omega) only[B2,wrap64,AU]at hc)<;>(try(exfalso;omega)))|(intro nn hnn;generalize hg:BI _ nn _=σ;refine Fy hg fun hs=>?_;clear hg)|fail)<;>conv=>whnf)
   all_goals try(exfalso;omega)
   refine C5 c.AN.length (fun j (m:Int)=>[(2,eI m),(36,eI (Bw j))]) (fun _ _=>[]) (fun j m=>Fl 0 p.AO=(Ki m (c.AN.drop j)&&Fl (n+c.AN.length) (p.AO.drop (k+1)))∧m=n+j) n rfl ⟨hn,by simp⟩ (hs.take 0) ?_;clear hs hn;rintro j m σ hj ⟨hm,he⟩ hs;rcases B0 c.AN hj with⟨x,hx,hjlt⟩|hje
   ·rw[drop_cons hx,Ki]at hm
    conv=>whnf
    repeat'((first|refine st ?_|(refine sq ?_;intro K U)|(refine si ?_;intro A B Y Z)|(refine Y _ _ ?_;clear Z B Y A)|(refine Z _ _ _ ?_;clear Z B Y A)|(refine U _ _ ?_;clear U K)|refine⟨rfl,?_⟩|refine ix ?_|(refine Et (fun hc=>?_)<;>(try rw[hc])<;>clear hc)|(refine C4 (fun hc=>?_) (fun hc=>?_)<;>(replace hc:=bp hc))|clear U K)<;>conv=>whnf)
    ·rw[wrap64 (by omega) (by omega)]
     rw[hc,beq_self_eq_true,Bool.true_and]at hm;exact⟨hjlt,_,rfl,⟨by rw[←hc];rw[←hc]at hm;exact hm,by omega⟩,hs⟩
    ·exact VF (by rw[hcb,hm];simp[hc])
   ·rw[Ax hje,Ki,Bool.true_and]at hm
    conv=>whnf
    repeat'((first|refine st ?_|(refine sq ?_;intro K U)|(refine si ?_;intro A B Y Z)|(refine Y _ _ ?_;clear Z B Y A)|(refine U _ _ ?_;clear U K)|refine⟨rfl,?_⟩|(refine F4 (fun hc=>?_)<;>(try rw[hc])<;>clear hc)|clear U K)<;>conv=>whnf)
    exact⟨hlt,m,rfl,⟨by rw[hm];congr 1;omega,by omega,by omega,by omega⟩,hs⟩
  ·conv=>whnf
   repeat'((first|refine st ?_|(refine sq ?_;intro K U)|(refine si ?_;intro A B Y Z)|(refine Y _ _ ?_;clear Z B Y A)|(refine Z _ _ _ ?_;clear Z B Y A)|(refine U _ _ ?_;clear U K)|refine⟨rfl,?_⟩|refine⟨nb,?_⟩|refine ix ?_|refine ld ?_|refine Hi fun σ hs=>?_|(refine Et (fun hc=>?_)<;>(try rw[hc])<;>clear hc)|(refine C4 (fun hc=>?_) (fun hc=>?_)<;>(replace hc:=bp hc)<;>(try simp(disch:=omega) only[B2,wrap64,AU]at hc)<;>(try(exfalso;omega)))|(intro nn hnn;generalize hg:BI _ nn _=σ;refine Fy hg fun hs=>?_;clear hg)|clear U K)<;>conv=>whnf)
   all_goals try(exfalso;omega)
   exact VF (by rw[hcb,hn];simp[h4])
 ·have hne:n=B3 p.AO:=by rw[Ax hke]at hn1;simpa[B3]using hn1
  rw[Ax hke]at hn;have hsp:Fl 0 p.AO=true:=hn;have hml:=QD _ _ hsp;rw[hsp,Bool.true_and,←hne]at hcb;cases hgd:Dz (A4 p)
  ·rw[hgd]at hcb
   have hck:=UD (A4 p) false;rw[hgd,if_neg (by decide)]at hck;have hcF:BC p=false:=by rw[hcb];simp
   conv=>whnf
   repeat'((first|refine st ?_|(refine sq ?_;intro K U)|(refine si ?_;intro A B Y Z)|(refine Y _ _ ?_;clear Z B Y A)|(refine Z _ _ _ ?_;clear Z B Y A)|(refine U _ _ ?_;clear U K)|refine⟨rfl,?_⟩|refine⟨nb,?_⟩|(refine F4 (fun hc=>?_)<;>(try rw[hc])<;>clear hc)|(refine C4 (fun hc=>?_) (fun hc=>?_)<;>(replace hc:=bp hc)<;>(try simp(disch:=omega) only[B2,wrap64,AU]at hc)<;>(try(exfalso;omega))<;>(try(cases hc;done)))|refine Pure.use (LS _ (by omega)) ?_|(constructor<;>intro hc<;>(try rw[hc])<;>(replace hc:=bp hc))|refine Pure.use (by assumption) ?_|clear U K)<;>conv=>whnf)
   all_goals exact VF hcF
  ·have hck:=UD (A4 p) false
   rw[hgd,if_pos rfl]at hck;rw[hgd,Bool.true_and]at hcb;by_cases hps:n=p.AN
   ·rw [hps,beq_self_eq_true,Bool.true_and,←hps]at hcb
    have hslB:C0 0 p.AO=true:=by rw[OY,hsp,T0 hgd];rfl
    have hG:=D4 hgd;have ho:=JS hG;have hgl:(A4 p).length=p.AO.length:=by simp[A4]
    conv=>whnf
    repeat'((first|refine st ?_|(refine sq ?_;intro K U)|(refine si ?_;intro A B Y Z)|(refine Y _ _ ?_;clear Z B Y A)|(refine U _ _ ?_;clear U K)|refine⟨rfl,?_⟩|refine⟨nb,?_⟩|(refine F4 (fun hc=>?_)<;>(try rw[hc])<;>clear hc)|(refine C4 (fun hc=>?_) (fun hc=>?_)<;>(replace hc:=bp hc)<;>(try simp(disch:=omega) only[B2,wrap64,AU]at hc)<;>(try(exfalso;omega)))|refine Pure.use (LS _ (by omega)) ?_|(constructor<;>intro hc<;>(try rw[hc])<;>(replace hc:=bp hc)<;>try(exfalso;omega))|refine Pure.use (by assumption) ?_|clear U K)<;>conv=>whnf)
    refine C5 p.AO.length (fun k (_:Unit)=>[(63,eI (Bw k))]) (fun _ _=>[]) (fun k _=>BC p=GB (Ae p) n k (p.AO.drop k)) () rfl hcb hs ?_;clear hs;rintro i - σ hi hn' hs;rcases B0 p.AO hi with⟨c,hc,hilt⟩|hie
    ·rw [drop_cons hc,GB]at hn'
     have hci:Bw i=i:=AU (by omega);have hw3:IntKind.i64.wrap (Bw i+3)=(i:Int)+3:=by rw[hci,wrap64 (by omega) (by omega)]
     have hlin:=tI (A4 p) false ((i:Int)+3) hgd (by omega) (by omega);have hinl:=(F.2 c (DL hc)).2.2;have hlb:dh (Ae p).parents ((i:Int)+3)= !((CM (A4 p)).getD ((i:Int)+3).toNat []).isEmpty:=rfl;cases hem:((CM (A4 p)).getD ((i:Int)+3).toNat []).isEmpty
     ·rw [hem]at hlb
      rw[hlb,Bool.not_false,Bool.true_and]at hn';rw[hem,if_neg (by decide),←hw3]at hlin;have hhas:=tV p (i+3) h10 hslB hgd (by omega) (by omega);have hmh:=cD hslB ho (show 3≤i+3 by omega) (show i+3<3+p.AO.length by omega);have ei3:((i+3:Nat):Int)=(i:Int)+3:=by omega
      rw[ei3,←hw3]at hhas;rw[ei3]at hmh;generalize (EI p (i+3) (i+3 - 2)).mergeSort Nx=mine at *
      conv=>whnf
      repeat'((first|refine st ?_|(refine sq ?_;intro K U)|(refine si ?_;intro A B Y Z)|(refine Y _ _ ?_;clear Z B Y A)|(refine U _ _ ?_;clear U K)|refine⟨rfl,?_⟩|refine⟨nb,?_⟩|refine ix ?_|refine ld ?_|refine Hi fun σ hs=>?_|(refine Et (fun hc=>?_)<;>(try rw[hc])<;>clear hc)|(refine C4 (fun hc=>?_) (fun hc=>?_)<;>(replace hc:=bp hc)<;>(try simp(disch:=omega) only[B2,wrap64,AU]at hc)<;>(try(exfalso;omega)))|(intro nn hnn;generalize hg:BI _ nn _=σ;refine Fy hg fun hs=>?_;clear hg)|refine Pure.use (by assumption) ?_|fail)<;>conv=>whnf)
      generalize nn=mm at *;replace hs:Sat σ [.map mm (Uy [])]:=hs.take 1;refine C5 c.inits.length (fun j (_:List Int)=>[(86,eI (Bw j))]) (fun _ M=>[.map mm (Uy M)]) (fun j M=>BC p=(EK (Ae p) ((i:Int)+3) n (c.inits.take j) (c.inits.drop j)&&GB (Ae p) n (i+1) (p.AO.drop (i+1)))∧ ∀s,M.contains s=(c.inits.take j).any fun y=>y.1==s) [] rfl ⟨hn',fun s=>rfl⟩ hs ?_;clear hs;rintro j M σ hj ⟨hm,hMs⟩ hs;rcases B0 c.inits hj with⟨x,hx,hjlt⟩|hje
      ·have hpa:((c.inits.take j).all fun y=>y.1 != x.1)= !M.contains x.1:=by
        rw[hMs,List.all_eq_not_any_not];congr 2;funext y;simp[bne]
       have hst:BC p=((mine.contains x.1&&(!M.contains x.1&&RP x.2))&&(EK (Ae p) ((i:Int)+3) n (c.inits.take (j+1)) (c.inits.drop (j+1))&&GB (Ae p) n (i+1) (p.AO.drop (i+1)))):=by
        rw[hm,drop_cons hx,EK,hpa,hmh,←hne,AR hx];cases decide (0≤x.1)<;>cases decide (x.1<n)<;>cases hasB (Ae p) ((i:Int)+3) x.1<;>cases RP x.2<;>cases M.contains x.1<;>simp
       have hMs': ∀s,(RC M x.1).contains s=(c.inits.take (j+1)).any fun y=>y.1==s:=fun s=>by
        rw[Tl,hMs,AR hx,List.any_append];simp only[List.any_cons,List.any_nil,Bool.or_false];congr 1;rw[Bool.eq_iff_iff];simp;exact eq_comm
       have hct:=D6 mine false x.1;have hbt:=PV x.2;clear hmh hpa hMs hm;cases eA:mine.contains x.1<;>cases eB:M.contains x.1<;>cases eD:RP x.2<;>rw[eA]at hct<;>rw[eD]at hbt<;>rw[eA,eB,eD]at hst
       all_goals
        conv=>whnf
        repeat'((first|refine st ?_|(refine sq ?_;intro K U)|(refine si ?_;intro A B Y Z)|(refine Y _ _ ?_;clear Z B Y A)|(refine Z _ _ _ ?_;clear Z B Y A)|(refine U _ _ ?_;clear U K)|refine⟨rfl,?_⟩|refine⟨nb,?_⟩|refine ix ?_|refine ld ?_|refine Hi fun σ hs=>?_|refine Ls ?_|refine IV ?_|(refine Et (fun hc=>?_)<;>(try rw[hc])<;>clear hc)|(refine C4 (fun hc=>?_) (fun hc=>?_)<;>(replace hc:=bp hc)<;>(try simp(disch:=omega) only[B2,wrap64,AU]at hc)<;>(try(cases hc;done)))|refine r7 eB ?_|refine msK (fun σ hs=>?_)|(intro nn hnn;generalize hg:BI _ nn _=σ;refine Fy hg fun hs=>?_;clear hg)|refine Pure.use (by assumption) ?_|clear U K)<;>conv=>whnf)
       all_goals first
        | exact⟨hjlt,_,rfl,⟨hst,hMs'⟩,hs.less (List.sublist_cons_self _ _)⟩
        | exact VF (by rw[hst];rfl)
      ·rw[Ax hje,EK,Bool.true_and]at hm
       conv=>whnf
       repeat'((first|refine st ?_|(refine sq ?_;intro K U)|(refine si ?_;intro A B Y Z)|(refine Y _ _ ?_;clear Z B Y A)|(refine U _ _ ?_;clear U K)|refine⟨rfl,?_⟩|(refine F4 (fun hc=>?_)<;>(try rw[hc])<;>clear hc)|clear U K)<;>conv=>whnf)
       exact⟨hilt,(),rfl,hm,hs.take 0⟩
     ·rw[hem]at hlb
      rw[hem,if_pos rfl,←hw3]at hlin;have hcF:BC p=false:=by rw[hn',hlb];rfl
      conv=>whnf
      repeat'((first|refine st ?_|(refine sq ?_;intro K U)|(refine si ?_;intro A B Y Z)|(refine Y _ _ ?_;clear Z B Y A)|(refine Z _ _ _ ?_;clear Z B Y A)|(refine U _ _ ?_;clear U K)|refine⟨rfl,?_⟩|refine⟨nb,?_⟩|refine ix ?_|refine Hi fun σ hs=>?_|(refine Et (fun hc=>?_)<;>(try rw[hc])<;>clear hc)|(refine C4 (fun hc=>?_) (fun hc=>?_)<;>(replace hc:=bp hc)<;>(try(exfalso;omega)))|(intro nn hnn;generalize hg:BI _ nn _=σ;refine Fy hg fun hs=>?_;clear hg)|refine Pure.use (by assumption) ?_|clear U K)<;>conv=>whnf)
      all_goals exact VF hcF
    ·conv=>whnf
     repeat'((first|refine st ?_|(refine sq ?_;intro K U)|(refine si ?_;intro A B Y Z)|(refine Y _ _ ?_;clear Z B Y A)|(refine U _ _ ?_;clear U K)|refine⟨rfl,?_⟩|(refine F4 (fun hc=>?_)<;>(try rw[hc])<;>clear hc)|clear U K)<;>conv=>whnf)
     exact clsT hs (by rw[hn',Ax hie];rfl)
   ·have hcF:BC p=false:=by rw[hcb];simp[hps]
    conv=>whnf
    repeat'((first|refine st ?_|(refine sq ?_;intro K U)|(refine si ?_;intro A B Y Z)|(refine Y _ _ ?_;clear Z B Y A)|(refine Z _ _ _ ?_;clear Z B Y A)|(refine U _ _ ?_;clear U K)|refine⟨rfl,?_⟩|refine⟨nb,?_⟩|(refine F4 (fun hc=>?_)<;>(try rw[hc])<;>clear hc)|(refine C4 (fun hc=>?_) (fun hc=>?_)<;>(replace hc:=bp hc)<;>(try simp(disch:=omega) only[B2,wrap64,AU]at hc)<;>(try(cases hc;done)))|refine Pure.use (LS _ (by omega)) ?_|(constructor<;>intro hc<;>(try rw[hc])<;>(replace hc:=bp hc)<;>try(exfalso;omega))|clear U K)<;>conv=>whnf)
    all_goals exact VF hcF
theorem YH (f:Fact):P3 f=true→Pure Tryz.prog 171 [.a (xF f)] (eI (Gw f)):=by
 induction f using Fact.ind with
 | h f ih=>
   intro ha;refine Pure.fit (by kernel_rfl) fun hf=>?_
   have⟨h2,h3,h4⟩:=Jp hf.1;have hM:=Mx;rw[On]at ha;simp only[Bn,D8,List.all_map,IU]at ha;refine wS nb ?_;have hs:=Sn;by_cases hlf:CS f=true
   ·have hlo:=Gj hlf
    have hw:IntKind.i64.wrap (f.arg+1)=f.arg+1:=wrap64 (by omega) (by omega)
    conv=>whnf
    repeat'((first|refine st ?_|(refine sq ?_;intro K U)|(refine si ?_;intro A B Y Z)|(refine Y _ _ ?_;clear Z B Y A)|(refine U _ _ ?_;clear U K)|refine⟨rfl,?_⟩|(constructor<;>intro hc<;>(try rw[hc])<;>(replace hc:=bp hc)<;>try(exfalso;omega))|fail)<;>conv=>whnf)
    all_goals try(exfalso;omega)
    all_goals
     refine C5 f.kids.length (fun k (_:Unit)=>[(3,eI (((f.kids.take k).map Gw).foldl Jc (if CS f then f.arg+1 else 0))),(25,eI (Bw k))]) (fun _ _=>[]) (fun _ _=>True) () (by rw[hw,if_pos hlf];rfl) trivial hs ?_;clear hs;rintro k - σ hk - hs;rcases B0 f.kids hk with⟨x,hx,hlt⟩|hke
     ·have hxs:=ih x (DL hx) (ha.2 x (DL hx))
      conv=>whnf
      repeat'((first|refine st ?_|(refine sq ?_;intro K U)|(refine si ?_;intro A B Y Z)|(refine Y _ _ ?_;clear Z B Y A)|(refine U _ _ ?_;clear U K)|refine⟨rfl,?_⟩|refine⟨nb,?_⟩|refine Q2 ?_|refine ld ?_|refine Hi fun σ hs=>?_|(refine Et (fun hc=>?_)<;>(try rw[hc])<;>clear hc)|(intro nn hnn;generalize hg:BI _ nn _=σ;refine Fy hg fun hs=>?_;clear hg)|refine Pure.use (by assumption) ?_|clear U K)<;>conv=>whnf)
      exact⟨hlt,(),by rw[GK _ _ _ hx];rfl,trivial,hs.take 0⟩
     ·conv=>whnf
      repeat'((first|refine st ?_|(refine sq ?_;intro K U)|(refine si ?_;intro A B Y Z)|(refine Y _ _ ?_;clear Z B Y A)|(refine U _ _ ?_;clear U K)|refine⟨rfl,?_⟩|(refine F4 (fun hc=>?_)<;>(try rw[hc])<;>clear hc)|clear U K)<;>conv=>whnf)
      exact AM (by rw[A5 hke,←JP])
   ·have hlo:f.op≠2∧f.op≠3∧f.op≠4:=by
     simp only[CS,Bool.or_eq_true,FQ]at hlf;omega
    conv=>whnf
    repeat'((first|refine st ?_|(refine sq ?_;intro K U)|(refine si ?_;intro A B Y Z)|(refine Y _ _ ?_;clear Z B Y A)|(refine U _ _ ?_;clear U K)|refine⟨rfl,?_⟩|(constructor<;>intro hc<;>(try rw[hc])<;>(replace hc:=bp hc)<;>try(exfalso;omega))|fail)<;>conv=>whnf)
    all_goals try(exfalso;omega)
    all_goals
     refine C5 f.kids.length (fun k (_:Unit)=>[(3,eI (((f.kids.take k).map Gw).foldl Jc (if CS f then f.arg+1 else 0))),(25,eI (Bw k))]) (fun _ _=>[]) (fun _ _=>True) () (by rw[if_neg hlf];rfl) trivial hs ?_;clear hs;rintro k - σ hk - hs;rcases B0 f.kids hk with⟨x,hx,hlt⟩|hke
     ·have hxs:=ih x (DL hx) (ha.2 x (DL hx))
      conv=>whnf
      repeat'((first|refine st ?_|(refine sq ?_;intro K U)|(refine si ?_;intro A B Y Z)|(refine Y _ _ ?_;clear Z B Y A)|(refine U _ _ ?_;clear U K)|refine⟨rfl,?_⟩|refine⟨nb,?_⟩|refine Q2 ?_|refine ld ?_|refine Hi fun σ hs=>?_|(refine Et (fun hc=>?_)<;>(try rw[hc])<;>clear hc)|(intro nn hnn;generalize hg:BI _ nn _=σ;refine Fy hg fun hs=>?_;clear hg)|refine Pure.use (by assumption) ?_|clear U K)<;>conv=>whnf)
      exact⟨hlt,(),by rw[GK _ _ _ hx];rfl,trivial,hs.take 0⟩
     ·conv=>whnf
      repeat'((first|refine st ?_|(refine sq ?_;intro K U)|(refine si ?_;intro A B Y Z)|(refine Y _ _ ?_;clear Z B Y A)|(refine U _ _ ?_;clear U K)|refine⟨rfl,?_⟩|(refine F4 (fun hc=>?_)<;>(try rw[hc])<;>clear hc)|clear U K)<;>conv=>whnf)
      exact AM (by rw[A5 hke,←JP])
theorem YV (p:Prog) (x:Node) (size:Int):Pure Tryz.prog 168 [.a (Br p),.a (It x),eI size] (.b (Lv p x size)):=by
 refine Pure.fit (by kernel_rfl) fun hf=>?_
 have⟨p1,p2,p3,p4⟩:=Gb hf.1;have hM:=Mx;have hw:IntKind.i64.wrap (3+((p.AO.map S1).length:Nat))=3+(p.AO.length:Int):=by rw[B2,wrap64 (by omega) (by omega)]
 refine wV nb ?_;have hs:=Sn
 conv=>whnf
 repeat'((first|refine st ?_|(refine sq ?_;intro K U)|(refine si ?_;intro A B Y Z)|(refine Y _ _ ?_;clear Z B Y A)|(refine U _ _ ?_;clear U K)|refine⟨rfl,?_⟩|refine Pure.use (PV _) ?_|(constructor<;>intro hc<;>(try rw[hc])<;>(replace hc:=bp hc))|clear U K)<;>conv=>whnf)
 all_goals first
  | (refine AM ?_;simp[Lv, *];done)
  | (refine AM ?_;simp[Lv, *];omega)
  | (refine AM ?_;rw[hw];simp[Lv, *];done)
  | (refine AM ?_;congr 1;rw[Bool.eq_iff_iff];simp[Lv, *];omega)
theorem s7 (n:Nat) (hn:n≤120):Pure Tryz.prog 252 [.i .u64 1,eU n] (.t [.i .u64 0,eU n]):=by
 refine vH nb ?_;have hs:=Sn
 conv=>whnf
 repeat'((first|refine st ?_|(refine sq ?_;intro K U)|(refine si ?_;intro A B Y Z)|(refine Y _ _ ?_;clear Z B Y A)|(refine U _ _ ?_;clear U K)|refine⟨rfl,?_⟩|refine⟨(by decide:(0:Int)≤_),?_⟩|fail)<;>conv=>whnf)
 have ea: ∀m:Nat,m≤120→bits .and .u64 (m:Int) 4294967295=(m:Int):=fun m hm=>by
  have:=LW (a:=m) (b:=4294967295) (by omega) (by decide)
  have e:m&&&4294967295=m:=by
   have:=Nat.and_two_pow_sub_one_eq_mod m 32;rw[show 2 ^ 32 - 1=4294967295 from rfl]at this;rw[this];omega
  rw[e]at this;exact this
 have e0:=ea 0 (by omega);have e1:=ea 1 (by omega);have en:=ea n hn
 have ef: ∀m:Nat,m≤120→(m:Int).fdiv (2 ^ min (Int.toNat 32) IntKind.u64.bits)=0:=fun m hm=>by
  have:=Wp (a:=m) (c:=32) (by decide);rw[show(Int.toNat 32)=32 from rfl,this,Nat.shiftRight_eq_div_pow];have:m / 2 ^ 32=0:=Nat.div_eq_of_lt (by omega);rw[this];rfl
 have f0:=ef 0 (by omega);have f1:=ef 1 (by omega);have fn:=ef n hn;have w0:IntKind.u64.wrap 0=0:=rfl;have wn:IntKind.u64.wrap (n:Int)=n:=HN (by omega);simp only[Int.natCast_zero,Int.natCast_one,Int.cast_ofNat_Int]at e0 e1 f0 f1;simp only[e0,e1,en,f0,f1,fn,w0,wn,Int.zero_mul,Int.mul_zero,Int.zero_add,Int.add_zero,Int.one_mul];exact AM rfl
theorem s8 (n:Nat) (hn:n≤120):Pure Tryz.prog 212 [.i .u64 1,eU n] (.t [.i .u64 0,eU n]):=by
 refine vt nb ?_;have hs:=Sn
 conv=>whnf
 repeat'((first|refine st ?_|(refine sq ?_;intro K U)|(refine si ?_;intro A B Y Z)|(refine Y _ _ ?_;clear Z B Y A)|(refine U _ _ ?_;clear U K)|refine Pure.use (s7 n hn) ?_|fail)<;>conv=>whnf)
 all_goals exact AM rfl
end Go.Gl
namespace Go.Gl
variable {P:Program} {σ:AH}
theorem slLo {n sz len cap:Nat} {ki:IntKind} {j:Int} {K:V→AH→Prop} (h:K (.sv n sz j.toNat ((len:Int) - j).toNat) σ) (h0:0≤j:=by omega) (h1:j≤(len:Int):=by omega):Ao σ sz (.sl n len cap) (some (.i ki j)) none none K:=by
 unfold Ao;simp only[Pb];exact⟨h0,h1,Int.le_refl _,h⟩
theorem slHi {n sz len cap:Nat} {ki:IntKind} {j:Int} {K:V→AH→Prop} (h:K (.sv n sz 0 j.toNat) σ) (h0:0≤j:=by omega) (h1:j≤(len:Int):=by omega):Ao σ sz (.sl n len cap) none (some (.i ki j)) none K:=by
 unfold Ao;simp only[Pb];refine⟨Int.le_refl _,h0,h1,?_⟩;simpa using h
theorem zi {l:List At} (h:Sat σ l) (i:Nat) {n len cap sz:Nat} {es ys:List (List V)} {f:Bool} {K:V→AH→Prop} (hi:l[i]? =some (.own (.sl n len cap) sz es)) (hle:ys.length≤es.length) (hys: ∀e∈ys,e.length=sz) (ho: ∀e∈ys,∀v∈e,Cb v=true)
 (hk: ∀σ',Sat σ' (l.set i (.own (.sl n len cap) sz (ys++es.drop ys.length)))→K (.i .i64 (ys.length:Nat)) σ'):BO σ sz (.sl n len cap) (.l ys f) K:=by
 rcases h.get hi with⟨h1,_⟩|⟨n',cap',h1,hn⟩
 ·cases h1
 cases h1;unfold BO;refine⟨hys,ho,?_⟩;simp only[N2,hn];have hm:min ys.length es.length=ys.length:=Nat.min_eq_left hle;refine⟨trivial,by omega,?_⟩;rw[hm];refine hk _ ?_;simp only[List.take_zero,List.nil_append,List.take_length,Nat.zero_add];refine h.change hi (fun b hb ha=>FV hb fun m hm=>?_) (fun b hb ha m hm=>ha m hm) (.inr ⟨n,cap,by simp;omega,by simp[BI]⟩);rw[Cz];intro e;subst e;exact ha m rfl hm
theorem zh {l:List At} (h:Sat σ l) (i:Nat) {n len cap sz a b c:Nat} {es:List (List V)} {K:V→AH→Prop} (hi:l[i]? =some (.own (.sl n len cap) sz es)) (hbc:a+b≤es.length) (hc:c≤es.length) (hys: ∀e∈es,e.length=sz) (ho: ∀e∈es,∀v∈e,Cb v=true)
 (hk: ∀σ',Sat σ' (l.set i (.own (.sl n len cap) sz (es.take a++((es.take c).take (min c b)++es.drop (a+min c b)))))→K (.i .i64 (min c b:Nat)) σ'):BO σ sz (.sv n sz a b) (.sv n sz 0 c) K:=by
 rcases h.get hi with⟨h1,_⟩|⟨n',cap',h1,hn⟩
 ·cases h1
 cases h1;unfold BO;simp only[rowsOf,hn];have hl:((es.drop 0).take c).length=c:=by simp;omega
 refine⟨trivial,trivial,by omega,fun e he v hv=>ho e (List.mem_of_mem_take (by simpa using he)) v hv,trivial,?_⟩;simp only[N2,hn,List.drop_zero];refine⟨trivial,by omega,?_⟩;have hl2:(es.take c).length=c:=by simp;omega
 rw[hl2];refine hk _ ?_;refine h.change hi (fun b hb ha=>FV hb fun m hm=>?_) (fun b hb ha m hm=>ha m hm) (.inr ⟨n,cap,by simp;omega,by simp[BI]⟩);rw[Cz];intro e;subst e;exact ha m rfl hm
end Go.Gl
namespace Go.Gl
open Go.Proofs
attribute [local irreducible] Bj Bf Ba Al Aa BS Ao Aq Ac BO Ah Ap Bz CA Sat A7 B8 Be W
theorem YL (n:Nat) (h1:1≤n) (hn:n≤120):CL Tryz.prog 165 [.l [[eI (-1)]] true,eI n] [] fun r post=> ∃v,r= .ret v∧post= [.own v 1 (iL (List.replicate n (-1)))]∧(EW v).isSome=true:=by
 intro σ hs;have hM:=Mx;have hw1:IntKind.u64.wrap 1=1:=rfl;have hwn:IntKind.u64.wrap (n:Int)=n:=HN (by omega);have hwi:IntKind.i64.wrap (n:Int)=n:=wrap64 (by omega) (by omega);refine wY nb ?_
 conv=>whnf
 repeat'((first|refine st ?_|(refine sq ?_;intro K U)|(refine si ?_;intro A B Y Z)|(refine Y _ _ ?_;clear Z B Y A)|(refine U _ _ ?_;clear U K)|refine⟨rfl,?_⟩|(constructor<;>intro hc<;>(try rw[hc])<;>(replace hc:=bp hc)<;>try(exfalso;omega))|fail)<;>conv=>whnf)
 rw[show IntKind.u64.wrap (([[eI (-1)]]:List (List V)).length:Nat)=1 from rfl,hwn];refine(s8 n hn).use ?_
 conv=>whnf
 repeat'((first|refine st ?_|(refine sq ?_;intro K U)|(refine si ?_;intro A B Y Z)|(refine Y _ _ ?_;clear Z B Y A)|(refine U _ _ ?_;clear U K)|refine⟨rfl,?_⟩|(constructor<;>intro hc<;>(try rw[hc])<;>(replace hc:=bp hc)<;>try(exfalso;omega))|fail)<;>conv=>whnf)
 all_goals try(exfalso;omega)
 rw[hwi];refine yL hs (Nat.le_refl n) (by omega) fun v σ hs hv=>?_
 obtain⟨id,rfl⟩:=hv
 conv=>whnf
 repeat'((first|(refine sq ?_;intro K U)|(refine si ?_;intro A B Y Z)|(refine Y _ _ ?_;clear Z B Y A)|(refine U _ _ ?_;clear U K)|fail)<;>conv=>whnf)
 refine zi hs 0 (ys:=[[eI (-1)]]) rfl (by simp;omega) (fun e he=>by simp at he;subst he;rfl) (fun e he v hv=>by simp at he;subst he;simp at hv;subst hv;rfl) fun σ hs=>?_
 have hst:([[eI (-1)]]:List (List V))++(List.replicate n [V.i .i64 0]).drop ([[eI (-1)]]:List (List V)).length=List.replicate 1 [eI (-1)]++List.replicate (n - 1) [eI 0]:=by simp[List.drop_replicate]
 rw[hst]at hs
 conv=>whnf
 repeat'((first|refine st ?_|(refine sq ?_;intro K U)|(refine Y _ _ ?_;clear Z B Y A)|(refine U _ _ ?_;clear U K)|fail)<;>conv=>whnf)
 refine J2 (fun m:Nat=>n - m) (fun m=>[(8,eI m)]) (fun m=>[.own (.sl id n n) 1 (List.replicate m [eI (-1)]++List.replicate (n - m) [eI 0])]) (fun m=>1≤m∧m≤n) 1 rfl ⟨by omega,h1⟩ hs ?_;clear hs hst;rintro m σ ⟨hm1,hmn⟩ hs
 have hgl: ∀e∈(List.replicate m [eI (-1)]++List.replicate (n - m) [eI 0]:List (List V)),e.length=1∧ ∀v∈e,Cb v=true:=fun e he=>by
  rcases Fo.1 he with he|he
  ·rw[(List.mem_replicate.1 he).2];exact⟨rfl,fun v hv=>by simp at hv;subst hv;rfl⟩
  ·rw[(List.mem_replicate.1 he).2];exact⟨rfl,fun v hv=>by simp at hv;subst hv;rfl⟩
 have hlen:(List.replicate m [eI (-1)]++List.replicate (n - m) [eI 0]:List (List V)).length=n:=by simp;omega
 rcases Nat.lt_or_ge m n with hlt|hge
 ·have hcpy:(List.replicate m [eI (-1)]++List.replicate (n - m) [eI 0]:List (List V)).take m++(((List.replicate m [eI (-1)]++List.replicate (n - m) [eI 0]:List (List V)).take m).take (min m (n - m))++(List.replicate m [eI (-1)]++List.replicate (n - m) [eI 0]:List (List V)).drop (m+min m (n - m)))=List.replicate (m+min m (n - m)) [eI (-1)]++List.replicate (n - (m+min m (n - m))) [eI 0]:=by
   have e1:(List.replicate m [eI (-1)]++List.replicate (n - m) [eI 0]:List (List V)).take m=List.replicate m [eI (-1)]:=by
    rw[List.take_append_of_le_length (by simp)];simp
   rw[e1,List.take_replicate,List.drop_append,List.drop_replicate,List.drop_replicate,List.length_replicate,←WU,List.replicate_append_replicate];have e2:m - (m+min m (n - m))=0:=by omega
   have e3:n - m - (m+min m (n - m) - m)=n - (m+min m (n - m)):=by omega
   rw[e2,e3,List.replicate_zero,List.nil_append];congr 2;omega
  conv=>whnf
  repeat'((first|refine st ?_|(refine sq ?_;intro K U)|(refine si ?_;intro A B Y Z)|(refine Y _ _ ?_;clear Z B Y A)|(refine U _ _ ?_;clear U K)|refine dr ?_|refine⟨rfl,?_⟩|refine lo ?_|(constructor<;>intro hc<;>(try rw[hc])<;>(replace hc:=bp hc)<;>try(exfalso;omega))|fail)<;>conv=>whnf)
  all_goals try(exfalso;omega)
  refine slLo ?_
  conv=>whnf
  repeat'((first|refine dr ?_|fail)<;>conv=>whnf)
  refine slHi ?_
  conv=>whnf
  repeat'((first|refine dr ?_|fail)<;>conv=>whnf)
  rw[Int.toNat_natCast,show((n:Int) - m).toNat=n - m by omega];refine zh hs 0 rfl (by rw[hlen];omega) (by rw[hlen];omega) (fun e he=>(hgl e he).1) (fun e he=>(hgl e he).2) fun σ hs=>?_
  rw[hcpy]at hs
  conv=>whnf
  repeat'((first|(refine Y _ _ ?_;clear Z B Y A)|refine dr ?_|refine⟨rfl,?_⟩|clear U K)<;>conv=>whnf)
  refine⟨m+min m (n - m),by omega,?_,⟨by omega,by omega⟩,hs⟩;rw[wrap64 (by omega) (by omega)];rfl
 ·have hme:m=n:=by omega
  subst hme
  conv=>whnf
  repeat'((first|refine st ?_|(refine sq ?_;intro K U)|(refine si ?_;intro A B Y Z)|(refine Y _ _ ?_;clear Z B Y A)|(refine U _ _ ?_;clear U K)|refine⟨rfl,?_⟩|refine lo ?_|(constructor<;>intro hc<;>(try rw[hc])<;>(replace hc:=bp hc)<;>try(exfalso;omega))|clear U K)<;>conv=>whnf)
  all_goals try(exfalso;omega)
  refine BG hs (List.Sublist.refl _) (.refl _) fun σ' hs'=>⟨_,⟨_,rfl,?_,rfl⟩,hs'⟩
  simp[iL]
def Pz (op:Int):V:=
 if op=5 then .E2 207 (.a [])else
 if op=1∨op=2∨op=3∨op=6∨op=18 then .E2 205 (eI 0)else
 if op=4∨op=8∨op=17 then .E2 205 (eI 1)else
 if op=7∨op=9∨op=11∨op=12∨op=13∨op=14∨op=15∨op=16 then .E2 205 (eI 2)else
 if op=10 then .E2 205 (eI 3)else .Dp
theorem Ye (op:Int):Pure Tryz.prog 169 [eI op] (Pz op):=by
 refine wU nb ?_;have hs:=Sn
 conv=>whnf
 repeat'((first|refine st ?_|(refine sq ?_;intro K U)|(refine si ?_;intro A B Y Z)|(refine Y _ _ ?_;clear Z B Y A)|(refine U _ _ ?_;clear U K)|refine⟨rfl,?_⟩|(constructor<;>intro hc<;>(try rw[hc])<;>(replace hc:=bp hc))|clear U K)<;>conv=>whnf)
 all_goals exact AM (by simp[Pz, *])
theorem zM (n:Int) (p:Prog) (x:Node):Pure Tryz.prog 306 [eI n,.a (Br p),.a (It x)] (eI n):=by
 refine uY nb ?_;have hs:=Sn
 conv=>whnf
 repeat'((first|refine st ?_|(refine sq ?_;intro K U)|(refine si ?_;intro A B Y Z)|(refine Y _ _ ?_;clear Z B Y A)|(refine U _ _ ?_;clear U K)|fail)<;>conv=>whnf)
 all_goals exact AM rfl
theorem ke (p:Prog) (x:Node) (h0:0≤x.n) (h1:x.n<p.EA.length):Pure Tryz.prog 307 [.a [],.a (Br p),.a (It x)] (eI (p.EA.getD x.n.toNat 0)):=by
 refine Pure.fit (by kernel_rfl) fun hf=>?_
 have⟨p1,p2,p3,p4⟩:=Gb hf.2.1
 have hx:p.EA[x.n.toNat]? =some (p.EA.getD x.n.toNat 0):=by
  rw[E9,E4 (by omega)];rfl
 refine uX nb ?_;have hs:=Sn
 conv=>whnf
 repeat'((first|refine st ?_|(refine sq ?_;intro K U)|(refine si ?_;intro A B Y Z)|(refine Y _ _ ?_;clear Z B Y A)|(refine U _ _ ?_;clear U K)|refine Sp ?_|fail)<;>conv=>whnf)
 all_goals exact AM rfl
end Go.Gl
namespace Go.Gl
variable {P:Program} {σ:AH}
theorem Sat.up {σ':AH} {l:List At} (h:Sat σ l) (hs:Sub σ σ'):Sat σ' l:=by
 refine⟨fun a ha=>?_,h.2⟩;have:=h.1 a ha;cases a with
 | obj n o=>exact hs n o this
 | own v sz es=>
   rcases this with h|⟨n,cap,e,hn⟩
   ·exact .inl h
   ·exact .inr ⟨n,cap,e,hs n _ hn⟩
theorem Sat.del {l:List At} {n:Nat} {o:O} (h:Sat σ (.obj n o::l)):Sat (del σ n) l:=by
 refine⟨fun b hb=>FV (h.1 b (.tail _ hb)) fun m hm=>?_,(List.pairwise_cons.1 h.2).2⟩;rw[G2];intro e;subst e;exact(List.pairwise_cons.1 h.2).1 b hb m rfl hm
theorem Sat.y8 {l:List At} {n:Nat} {o:O} (h:Sat σ l) (hn:σ n=none):Sat (BI σ n o) (.obj n o::l):=(Zk h hn).xz
theorem Sat.new {l:List At} {n:Nat} {o o':O} (h:Sat σ (.obj n o::l)):Sat (BI σ n o') (.obj n o'::l):=sB (i:=0) h rfl o'
theorem AS {v:V} {Q:R→AH→Prop} (h:Q (.ret v) σ):Bf σ v Q:=⟨v,σ,fun _ _ h=>h,.refl v,h⟩
inductive Rd (S:Type) where
 | go (s:S)
 | stop (st:xw) (s:S)
 | By (v:V)
def db {S:Type} (L:Nat) (E:Env) (ok:FuncId→Array Tmp→Code→Code→Nat→Prop) (H:S→List At) (J:S→Prop) (rest:List At) (yes no:V):Rd S→R→AH→Prop
 | .go s,r,σ=>r= .ret yes∧Sat σ (.obj L (.loop .ready E ok)::(H s++rest))
 | .stop st s,r,σ=>r= .ret no∧Sat σ (.obj L (.loop st E ok)::(H s++rest))
 | .By v,r,σ=>r= .By v∧ ∃s,J s∧Sat (del σ L) (H s++rest)
def MF {α S:Type} (P:Program) (L:Nat) (E:Env) (ok:FuncId→Array Tmp→Code→Code→Nat→Prop) (ea:α→List V) (H:S→List At) (J:S→Prop) (stp:α→S→Rd S) (D:α→S→Prop):Prop:=
 ∀y s,D y s→ ∀(rest:List At) (σ:AH),Sat σ (.obj L (.loop .ready E ok)::(H s++rest))→RT P L (ea y) σ (db L E ok H J rest (.b true) (.b false) (stp y s))
theorem MF.use {α S:Type} {L:Nat} {E:Env} {ok:FuncId→Array Tmp→Code→Code→Nat→Prop} {ea:α→List V} {H:S→List At} {J:S→Prop} {stp:α→S→Rd S} {D:α→S→Prop} (h:MF P L E ok ea H J stp D) {y:α} {s:S} (hd:D y s) {rest:List At} (hs:Sat σ (.obj L (.loop .ready E ok)::(H s++rest)))
 {Q:R→AH→Prop} (hk: ∀r σ',db L E ok H J rest (.b true) (.b false) (stp y s) r σ'→Q r σ'):Bz P (.f (.yield L) [] []) (ea y) σ Q:=(h y s hd rest σ hs).mono hk
theorem WL {L:Nat} {env:Env} {ps:List Nat} {a b:AK} (hσ:σ L=some (.loop .ready env (CQ P ps a b))) {args:List V} (hl:args.length=ps.length) {Q:R→AH→Prop}
 (h:W P a (DQ (W P b fun ex env' σ'=>σ' L=none→VY L env (CQ P ps a b) Q ex env' σ')) (FE ps args env) (del σ L)):RT P L args σ Q:=
 PR hσ hl (VX h (Js fun _ _ h=>lG h))
theorem Mz {α S:Type} {L:Nat} {E:Env} {ps:List Nat} {a b:AK} {ea:α→List V} {H:S→List At} {J:S→Prop} {stp:α→S→Rd S} {D:α→S→Prop} (hl: ∀y,(ea y).length=ps.length)
 (h: ∀y s,D y s→ ∀(rest:List At) (σ:AH),Sat σ (H s++rest)→W P a (DQ (W P b fun ex env' σ'=>σ' L=none→VY L E (CQ P ps a b) (db L E (CQ P ps a b) H J rest (.b true) (.b false) (stp y s)) ex env' σ')) (FE ps (ea y) E) σ):MF P L E (CQ P ps a b) ea H J stp D:=
 fun y s hd rest σ hs=>WL (hs.get (i:=0) rfl) (hl y) (h y s hd rest _ hs.del)
theorem Ti {S:Type} {L:Nat} {E:Env} {ok:FuncId→Array Tmp→Code→Code→Nat→Prop} {H:S→List At} {J:S→Prop} {rest:List At} {o:Rd S} {s:S} (h:o= .go s) (hs:Sat σ (H s++rest)) (hn:σ L=none) :
 db L E ok H J rest (.b true) (.b false) o (.ret (.b true)) (BI σ L (.loop .ready E ok)):=by
 subst h;exact⟨rfl,hs.y8 hn⟩
theorem Vf {S:Type} {L:Nat} {E:Env} {ok:FuncId→Array Tmp→Code→Code→Nat→Prop} {H:S→List At} {J:S→Prop} {rest:List At} {o:Rd S} {s:S} {st:xw} (h:o= .stop st s) (hs:Sat σ (H s++rest)) (hn:σ L=none) :
 db L E ok H J rest (.b true) (.b false) o (.ret (.b false)) (BI σ L (.loop st E ok)):=by
 subst h;exact⟨rfl,hs.y8 hn⟩
theorem QI {S:Type} {L:Nat} {E:Env} {ok:FuncId→Array Tmp→Code→Code→Nat→Prop} {H:S→List At} {J:S→Prop} {rest:List At} {o:Rd S} {s:S} {v:V} (h:o= .By v) (hj:J s) (hs:Sat σ (H s++rest)) (hn:σ L=none) :
 db L E ok H J rest (.b true) (.b false) o (.By v) σ:=by
 subst h;refine⟨rfl,s,hj,fun a ha=>FV (hs.1 a ha) fun n hd=>?_,hs.2⟩;obtain⟨o,ho⟩:=DE (hs.1 a ha) hd;rw[G2];intro e;subst e;rw[hn]at ho;cases ho
theorem Tj {L:Nat} {E env:Env} {ok:FuncId→Array Tmp→Code→Code→Nat→Prop} {Q:Ag→Env→AH→Prop} {l:List At} {v:V} (hs:Sat σ (.obj L (.loop .ready E ok)::l)) (hk: ∀σ',Sat σ' l→Q .normal env σ'):KI L Q env (.ret v) σ:=
 ⟨_,_,_,hs.get (i:=0) rfl,hk _ hs.del⟩
theorem Vj {L id:Nat} {E env:Env} {ok:FuncId→Array Tmp→Code→Code→Nat→Prop} {Q:Ag→Env→AH→Prop} {l:List At} {v:V} (hs:Sat σ (.obj L (.loop (.exit id) E ok)::l)) (hk: ∀σ',Sat σ' l→Q (.exit id) env σ'):KI L Q env (.ret v) σ:=
 ⟨_,_,_,hs.get (i:=0) rfl,hk _ hs.del⟩
end Go.Gl
namespace Go.Gl
open Go.Proofs
attribute [local irreducible] Bj Bf Ba Al Aa BS Ao Aq Ac BO Ah Ap Bz CA Sat A7 B8 Be W
def FC (p:Prog) (next:Bool) (n size depth:Int) (s:List Int):Option (List Int):=
 if n<0∨(p.nodes.length:Int)≤n∨0≤s.getD n.toNat 0∨12<depth then none else
 match p.nodes[n.toNat]? with
 | none=>none
 | some x=>if EH p next size x then some (s.set n.toNat size)else none
def Zg {S:Type}:Option S→Rd S
 | some s=> .go s
 | none=> .By D2
abbrev eaP (y:Int×Int×Int):List V:=[eI y.1,.a [eI y.2.1,eI y.2.2]]
abbrev hOut (nO:Nat) (v:V) (s:List Int):List At:=[.box nO [v],.own v 1 (iL s)]
abbrev dP (p:Prog) (y:Int×Int×Int) (s:List Int):Prop:=0≤y.2.1∧y.2.1≤100∧1≤y.2.2∧y.2.2≤13∧s.length=p.nodes.length
abbrev VG (p:Prog) (L nW:Nat):V:= .f (.func 214) [] [.rp [.f (.yield L) [] []],.rp (Br p),.p nW 0]
theorem Va {p:Prog} {next:Bool} {n size depth:Int} {s s':List Int} (h:FC p next n size depth s=some s'):0≤n∧n<(p.nodes.length:Int)∧s.getD n.toNat 0<0∧depth≤12∧ ∃x,p.nodes[n.toNat]? =some x∧EH p next size x=true∧s'=s.set n.toNat size:=by
 unfold FC at h;split at h
 ·cases h
 ·rename_i hc
  split at h
  ·cases h
  ·rename_i x hx
   split at h
   ·rename_i hok
    simp only[JX]at h;exact⟨by omega,by omega,by omega,by omega,x,hx,hok,h.symm⟩
   ·cases h
theorem VZ {p:Prog} {next:Bool} {d:Nat} {n size depth:Int} {s:List Int} (hd:depth=13 - (d+1:Nat)) (hd1:1≤depth):Ce p next (d+1) n size s=match FC p next n size depth s with
 | none=>none
 | some s'=>match p.nodes[n.toNat]? with
   | none=>none
   | some x=>FY (Ce p next d) x.op size 0 x.kids s':=by
 unfold FC;simp only[Ce];by_cases h:n<0∨(p.nodes.length:Int)≤n∨0≤s.getD n.toNat 0
 ·rw[if_pos h,if_pos (by omega)]
 ·rw[if_neg h,if_neg (by omega)]
  cases hx:p.nodes[n.toNat]? with
  | none=>rfl
  | some x=>
    simp only;split
    ·rfl
    ·rfl
theorem Vb {p:Prog} {next:Bool} {n size depth:Int} {s:List Int} (hd:12<depth):FC p next n size depth s=none:=by
 unfold FC;rw[if_pos (by omega)]
theorem QV {f:Int→Int→List Int→Option (List Int)} (hf: ∀ {a b s s'},f a b s=some s'→s'.length=s.length) {op size:Int}: ∀(i:Nat) (l:List Int) {s s':List Int},FY f op size i l s=some s'→s'.length=s.length
 | _,[],s,s',h=>by cases h;rfl
 | i,k::r,s,s',h=>by
   simp only[FY]at h;split at h
   ·cases h
   ·rename_i s1 h1
    exact(QV hf (i+1) r h).trans (hf h1)
theorem JN {p:Prog} {next:Bool}: ∀(d:Nat) {n size:Int} {s s':List Int},Ce p next d n size s=some s'→s'.length=s.length
 | 0,_,_,_,_,h=>by cases h
 | d + 1,n,size,s,s',h=>by
   simp only[Ce]at h;split at h
   ·cases h
   ·split at h
    ·cases h
    ·split at h
     ·exact(QV (fun h=>JN d h) 0 _ h).trans (by simp)
     ·cases h
set_option maxHeartbeats 4000000 in
theorem eJ (p : Prog) (next:Bool) {L:Nat} {E:Env} {ok:FuncId→Array Tmp→Code→Code→Nat→Prop} {v:V} {nO:Nat}
 (hY:MF Tryz.prog L E ok eaP (hOut nO v) (fun s=>s.length=p.nodes.length) (fun y s=>Zg (FC p next y.1 y.2.1 y.2.2 s)) (dP p)) :
 ∀ d : Nat,d≤12→ ∀(n size depth:Int) (s:List Int),depth=13 - d→0≤size→size+d≤100→s.length=p.nodes.length→ ∀(nW:Nat) (rest:List At) (σ:AH),
   Sat σ (.obj L (.loop .ready E ok)::(hOut nO v s++(.box nW [VG p L nW]::rest)))→
   Bj Tryz.prog 214 [eI n,.a [eI size,eI depth],.rp [.f (.yield L) [] []],.rp (Br p),.p nW 0] σ
    (db L E ok (hOut nO v) (fun s=>s.length=p.nodes.length) (.box nW [VG p L nW]::rest) (.b true) (.b false) (Zg (Ce p next d n size s))):=by
 intro d
 induction d with
 | zero=>
   intro _ n size depth s hd h0 h1 hl nW rest σ hs;refine au nb ?_
   conv=>whnf
   repeat'((first|refine st ?_|(refine sq ?_;intro K U)|(refine si ?_;intro A B Y Z)|(refine Y _ _ ?_;clear Z B Y A)|(refine U _ _ ?_;clear U K)|refine⟨nb,?_⟩|fail)<;>conv=>whnf)
   refine hY.use (y:=(n,size,depth)) (s:=s) ⟨h0,(by dsimp only;omega),(by dsimp only;omega),(by dsimp only;omega),hl⟩ hs ?_;rw[Vb (by dsimp only;omega)];rintro r σ' ⟨rfl,s',hj,hs'⟩
   conv=>whnf
   repeat'((first|(refine Z _ _ _ ?_;clear Z B Y A)|clear U K)<;>conv=>whnf)
   exact DY ⟨rfl,s',hj,hs'⟩
 | succ d ih =>
   intro hd12 n size depth s hd h0 h1 hl nW rest σ hs;refine Bj.fit (by kernel_rfl) fun hf=>?_
   have hM:=Mx
   have hfp:E3 (.a (Br p)):=by
    have:=hf.2.2.2.1;simp only[SL]at this;simpa only[G0]using this
   have⟨p1,p2,p3,p4⟩:=Gb hfp;refine au nb ?_
   conv=>whnf
   repeat'((first|refine st ?_|(refine sq ?_;intro K U)|(refine si ?_;intro A B Y Z)|(refine Y _ _ ?_;clear Z B Y A)|(refine U _ _ ?_;clear U K)|refine⟨nb,?_⟩|fail)<;>conv=>whnf)
   refine hY.use (y:=(n,size,depth)) (s:=s) ⟨h0,(by dsimp only;omega),(by dsimp only;omega),(by dsimp only;omega),hl⟩ hs ?_;have hw:=VZ (p:=p) (next:=next) (n:=n) (size:=size) (s:=s) hd (by omega);cases hv:FC p next n size depth s with
   | none=>
     rw[hv]at hw;rintro r σ' ⟨rfl,s',hj,hs'⟩
     conv=>whnf
     repeat'((first|(refine Z _ _ _ ?_;clear Z B Y A)|clear U K)<;>conv=>whnf)
     refine DY ?_;rw[hw];exact⟨rfl,s',hj,hs'⟩
   | some s1 =>
     obtain⟨g0,g1,g2,g3,x,hx,hok,hs1⟩:=Va hv;rw[hv]at hw;simp only[hx]at hw;have hl1:s1.length=p.nodes.length:=by rw[hs1];simpa using hl
     have hkm:=af hfp (DL hx);clear hv hs1;rintro r σ1 ⟨rfl,hs⟩
     conv=>whnf
     repeat'((first|refine st ?_|(refine sq ?_;intro K U)|(refine si ?_;intro A B Y Z)|(refine Y _ _ ?_;clear Z B Y A)|(refine U _ _ ?_;clear U K)|refine Sp ?_|refine IV ?_|fail)<;>conv=>whnf)
     refine C5 x.kids.length (fun k (_:List Int)=>[(23,eI (Bw k))]) (fun _ s'=> .obj L (.loop .ready E ok)::(hOut nO v s'++(.box nW [VG p L nW]::rest))) (fun k s'=>s'.length=p.nodes.length∧Ce p next (d+1) n size s=FY (Ce p next d) x.op size k (x.kids.drop k) s') s1 rfl ⟨hl1,by simpa using hw⟩ hs ?_;clear hs hw;rintro k s' σ hk ⟨hl',hkids⟩ hs;rcases B0 x.kids hk with⟨kid,hkid,hlt⟩|hke
     ·have hck:Bw k=k:=AU (by omega)
      rw[drop_cons hkid,FY]at hkids;have e0:IntKind.i64.wrap (depth+1)=depth+1:=wrap64 (by omega) (by omega);have e1:IntKind.i64.wrap (size+1)=size+1:=wrap64 (by omega) (by omega)
      have hrec: ∀(sz:Int) (σ:AH) (l:List At),0≤sz→sz+d≤100→Sat σ (l++(.obj L (.loop .ready E ok)::(hOut nO v s'++(.box nW [VG p L nW]::rest))))→Bz Tryz.prog (VG p L nW) [eI kid,.a [eI sz,eI (depth+1)]] σ
       (db L E ok (hOut nO v) (fun s=>s.length=p.nodes.length) (.box nW [VG p L nW]::rest) (.b true) (.b false) (Zg (Ce p next d kid sz s'))):=fun sz σ l h0 h1 hs=>
       C1 (ih (by omega) kid sz (depth+1) s' (by omega) h0 h1 hl' nW rest σ (hs.less (List.sublist_append_right _ _)))
      conv=>whnf
      repeat'((first|refine st ?_|(refine sq ?_;intro K U)|(refine si ?_;intro A B Y Z)|(refine Y _ _ ?_;clear Z B Y A)|(refine U _ _ ?_;clear U K)|refine⟨rfl,?_⟩|refine⟨nb,?_⟩|refine ix ?_|refine Sp ?_|refine ld ?_|refine Lq fun σ hs=>?_|refine Hi fun σ hs=>?_|(refine Et (fun hc=>?_)<;>(try rw[hc])<;>clear hc)|(constructor<;>intro hc<;>(try rw[hc])<;>(replace hc:=bp hc)<;>(try simp(disch:=omega) only[B2,wrap64,AU]at hc))|(intro nn hnn;generalize hg:BI _ nn _=σ;refine Fy hg fun hs=>?_;clear hg)|fail)<;>conv=>whnf)
      all_goals
       simp only[e0,e1]
       first
        | rw[if_pos (by omega)]at hkids
          refine(hrec (size+1) _ [_] (by omega) (by omega) hs).mono ?_
        | rw[if_neg (by omega)]at hkids
          refine(hrec size _ [_] (by omega) (by omega) hs).mono ?_
       cases hw:Ce p next d kid _ s' with
       | none=>
         rw[hw]at hkids;rintro r σ' ⟨rfl,s',hj,hs'⟩
         conv=>whnf
         repeat'((first|(refine Z _ _ _ ?_;clear Z B Y A)|clear U K)<;>conv=>whnf)
         refine DY ?_;rw[hkids];exact⟨rfl,s',hj,hs'⟩
       | some s2=>
         rw[hw]at hkids;rintro r σ' ⟨rfl,hs'⟩
         conv=>whnf
         repeat'((first|refine st ?_|(refine si ?_;intro A B Y Z)|(refine Y _ _ ?_;clear Z B Y A)|(refine U _ _ ?_;clear U K)|refine⟨rfl,?_⟩|refine IV ?_|clear U K)<;>conv=>whnf)
         exact⟨hlt,s2,rfl,⟨(JN _ hw).trans hl',hkids⟩,hs'⟩
     ·rw[Ax hke,FY]at hkids
      conv=>whnf
      repeat'((first|refine st ?_|(refine sq ?_;intro K U)|(refine si ?_;intro A B Y Z)|(refine Y _ _ ?_;clear Z B Y A)|(refine U _ _ ?_;clear U K)|refine⟨rfl,?_⟩|(refine F4 (fun hc=>?_)<;>(try rw[hc])<;>clear hc)|clear U K)<;>conv=>whnf)
      refine AS ?_;rw[hkids];exact⟨rfl,hs⟩
theorem rm {a b:Nat} {A B:Prop} (e:a=b) (h:A):(a=b→A)∧(a≠b→B):=⟨fun _=>h,fun n=>absurd e n⟩
theorem tasN {a b:Nat} {A B:Prop} (e:a≠b) (h:B):(a=b→A)∧(a≠b→B):=⟨fun n=>absurd n e,fun _=>h⟩
theorem bS {P:Program} {σ:AH} {tab:List (TypeId×FuncId)} {t:TypeId} {f:FuncId} {v:V} {args:List V} {Q:R→AH→Prop} (h:look t tab=some f) (hc:Bj P f (v::args) σ Q):CA P tab (.E2 t v) args σ Q:=by
 unfold CA;simp only[h];exact hc
theorem dD (p:Prog) (n size depth:Int):Pure Tryz.prog 167 [.a (Br p),eI n,.a [eI size,eI depth]] (.f (.func 213) [] [.rp (Br p),.rp [eI n],.rp [eI size,eI depth]]):=by
 refine wW nb ?_;have hs:=Sn
 conv=>whnf
 repeat'((first|refine st ?_|(refine sq ?_;intro K U)|(refine si ?_;intro A B Y Z)|(refine Y _ _ ?_;clear Z B Y A)|(refine U _ _ ?_;clear U K)|fail)<;>conv=>whnf)
 all_goals exact AM rfl
set_option maxHeartbeats 4000000 in
theorem ta (p:Prog) (next:Bool) {L:Nat} {E:Env} {ok:FuncId→Array Tmp→Code→Code→Nat→Prop} {v:V} {nO:Nat}
 (hY:MF Tryz.prog L E ok eaP (hOut nO v) (fun s=>s.length=p.nodes.length) (fun y s=>Zg (FC p next y.1 y.2.1 y.2.2 s)) (dP p)) (n size:Int) (s:List Int) (h0:0≤size) (h1:size≤20) (hl:s.length=p.nodes.length) (rest:List At) (σ:AH)
 (hs : Sat σ (.obj L (.loop .ready E ok)::(hOut nO v s++rest))) :
  Bj Tryz.prog 213 [.f (.yield L) [] [],.rp (Br p),.rp [eI n],.rp [eI size,eI 1]] σ
   (db L E ok (hOut nO v) (fun s=>s.length=p.nodes.length) rest (.t []) (.t []) (Zg (Ce p next 12 n size s))):=by
 refine vr nb ?_
 conv=>whnf
 repeat'((first|refine st ?_|(refine sq ?_;intro K U)|(refine si ?_;intro A B Y Z)|(refine Y _ _ ?_;clear Z B Y A)|(refine U _ _ ?_;clear U K)|refine⟨nb,?_⟩|refine ld ?_|refine Lq fun σ hs=>?_|(intro nn hnn;generalize hg:BI _ nn _=σ;refine Fy hg fun hs=>?_;clear hg)|fail)<;>conv=>whnf)
 have hp:Sat σ (.obj L (.loop .ready E ok)::(hOut nO v s++(.box nn [VG p L nn]::rest))):=hs.perm (by
  refine(List.Perm.swap _ _ _).trans (.cons _ ?_)
  exact(List.perm_middle (l₁:=hOut nO v s)).symm)
 refine C1 ((eJ p next hY 12 (Nat.le_refl _) n size 1 s rfl h0 (by omega) hl nn rest σ hp).mono ?_);cases hw:Ce p next 12 n size s with
 | none=>
   rintro r σ' ⟨rfl,s',hj,hs'⟩
   conv=>whnf
   repeat'((first|(refine Z _ _ _ ?_;clear Z B Y A)|fail)<;>conv=>whnf)
   refine DY ?_;rw[hw];exact⟨rfl,s',hj,hs'.less (List.Sublist.append_left (List.sublist_cons_self _ _) _)⟩
 | some s2=>
   rintro r σ' ⟨rfl,hs'⟩
   conv=>whnf
   repeat'((first|(refine Y _ _ ?_;clear Z B Y A)|fail)<;>conv=>whnf)
   refine AS ?_;rw[hw];exact⟨rfl,hs'.less (.cons₂ _ (List.Sublist.append_left (List.sublist_cons_self _ _) _))⟩
theorem Ud (p:Prog) (x:Node):(x.op=5∧Pz x.op= .E2 207 (.a []))∨(x.op≠5∧ ∃m:Int,Pz x.op= .E2 205 (eI m)∧Ir p x=m)∨(Pz x.op= .Dp∧Ir p x= -1):=by
 unfold Pz Ir;by_cases h5:x.op=5
 ·exact .inl ⟨h5,by rw[if_pos h5]⟩
 ·rw[if_neg h5]
  split
  ·exact .inr (.inl ⟨h5,_,rfl,rfl⟩)
  split
  ·exact .inr (.inl ⟨h5,_,rfl,rfl⟩)
  split
  ·exact .inr (.inl ⟨h5,_,rfl,rfl⟩)
  split
  ·exact .inr (.inl ⟨h5,_,rfl,rfl⟩)
  ·exact .inr (.inr ⟨rfl,by rw[if_neg (by rintro⟨h,_⟩;exact h5 h)]⟩)
theorem SD {p:Prog} {x:Node} (h:x.op=5) {size:Int} (hn:Lv p x size=true):0≤x.n∧x.n<p.EA.length∧Ir p x=p.EA.getD x.n.toNat 0:=by
 have h2:0≤x.n∧x.n<p.EA.length:=by
  simp only[Lv,h]at hn;simpa using hn
 refine⟨h2.1,h2.2,?_⟩;unfold Ir;rw[h,if_neg (by decide),if_neg (by decide),if_neg (by decide),if_neg (by decide),if_pos ⟨rfl,h2.1,h2.2⟩]
theorem bY {p:Prog} {next:Bool} {n size depth:Int} {s:List Int} (h:n<0∨(p.nodes.length:Int)≤n∨0≤s.getD n.toNat 0∨12<depth):FC p next n size depth s=none:=by
 unfold FC;rw[if_pos h]
theorem bZ {p:Prog} {next:Bool} {n size depth:Int} {s:List Int} {y:Int} {x:Node} (h0:0≤n) (h1:n<(p.nodes.length:Int)) (hy:s[n.toNat]? =some y) (hy0:y<0) (hd:depth≤12) (hx:p.nodes[n.toNat]? =some x):FC p next n size depth s=if EH p next size x then some (s.set n.toNat size)else none:=by
 have e:s.getD n.toNat 0=y:=by rw[E9,hy];rfl
 unfold FC;rw[if_neg (by rw[e];omega),hx]
def AAI (p:Prog) (nO:Nat) (v:V) (rest:List At) (o:Option (List Int)) (r:R) (σ:AH):Prop:=
 match o with
 | some s=>r= .ret (.t [])∧Sat σ (hOut nO v s++rest)
 | none=>r= .By D2∧ ∃s:List Int,s.length=p.nodes.length∧Sat σ (hOut nO v s++rest)
set_option maxHeartbeats 4000000 in
theorem SP (p:Prog) (next:Bool) {v:V} {nO:Nat} (hv:(EW v).isSome=true) (n size:Int) (s:List Int) (h0:0≤size) (h1:size≤20) (hl:s.length=p.nodes.length) (rest:List At) (σ:AH) (hs:Sat σ (hOut nO v s++rest)) :
 Bj Tryz.prog 166 [eI n,eI size,.b next,.rp (Br p),.p nO 0] σ (AAI p nO v rest (Ce p next 12 n size s)):=by
 refine Bj.fit (by kernel_rfl) fun hf=>?_
 have hM:=Mx
 have hfp:E3 (.a (Br p)):=by
  have:=hf.2.2.2.1;simp only[SL]at this;simpa only[G0]using this
 have⟨p1,p2,p3,p4⟩:=Gb hfp;refine wX nb ?_
 conv=>whnf
 repeat'((first|refine st ?_|(refine sq ?_;intro K U)|(refine si ?_;intro A B Y Z)|(refine Y _ _ ?_;clear Z B Y A)|(refine U _ _ ?_;clear U K)|refine⟨nb,?_⟩|refine Pure.use (dD _ _ _ _) ?_|(intro nn hnn;generalize hg:BI _ nn _=σ;refine Fy hg fun hs=>?_;clear hg)|fail)<;>conv=>whnf)
 refine Bj.mono (ta p next (L:=nn) (v:=v) (nO:=nO) ?_ n size s h0 h1 hl rest σ hs) ?_
 ·refine Mz (fun y=>rfl) ?_
  clear hs hnn hl h0 h1;rintro⟨k,sz,dp⟩ s ⟨d0,d1,d2,d3,hl⟩ rest σ hs;dsimp only at d0 d1 d2 d3 hl;dsimp only;rw[show eaP (k,sz,dp)= [eI k,.a [eI sz,eI dp]] from rfl]
  conv=>whnf
  repeat'((first|refine st ?_|(refine sq ?_;intro K U)|(refine si ?_;intro A B Y Z)|(refine Y _ _ ?_;clear Z B Y A)|(refine Z _ _ _ ?_;clear Z B Y A)|(refine Z _ _ fun σ hsub=>?_;clear Z B Y A)|(refine U _ _ ?_;clear U K)|refine dr ?_|refine rk ?_ ?_|exact fun s e=>by cases e;rfl|refine⟨rfl,?_⟩|refine⟨nb,?_⟩|refine iq fun x hx=>?_|refine ld ?_|refine Hi fun σ hs=>?_|refine oi ?_|refine ol fun x hx=>?_|refine oset fun σ hs=>?_|refine Ls ?_|refine IV ?_|(refine C4 (fun hc=>?_) (fun hc=>?_)<;>(replace hc:=bp hc)<;>(try simp(disch:=omega) only[B2,wrap64,AU]at hc)<;>(try(cases hc;done)))|refine Pure.use (YV _ _ _) ?_|refine Pure.use (Ye _) ?_|(rcases Ud p (by assumption)with⟨e5,ek⟩|⟨e5,m,ek,hm⟩|⟨ek,hm⟩<;>rw[ek]<;>clear ek)|refine rm rfl ?_|refine tasN (by decide) ?_|refine bS rfl (Pure.use (zM _ _ _) ?_)|refine bS rfl (Pure.use (ke _ _ (SD (by assumption) (by assumption)).1 (SD (by assumption) (by assumption)).2.1) ?_)|(constructor<;>intro hc<;>(try rw[hc])<;>(replace hc:=bp hc)<;>(try simp(disch:=omega) only[B2,wrap64,AU]at hc))|(intro nn hnn;generalize hg:BI _ nn _=σ;refine Fy hg fun hs=>?_;clear hg)|clear U K)<;>conv=>whnf)
  all_goals first
   | (intro hn;refine QI (s:=s) (by rw[bY (by first|omega|(rw[E9,‹s[k.toNat]? =some _›];simp only[Option.getD_some];omega))];rfl) hl (hs.less (by repeat first|exact List.Sublist.refl _|apply List.Sublist.cons)) hn)
   | skip
  all_goals
   have hva:=bZ (next:=next) (size:=sz) (depth:=dp) (show 0≤k by omega) (show k<(p.nodes.length:Int) by omega) ‹s[k.toNat]? =some _› (by assumption) (by omega) ‹p.nodes[k.toNat]? =some _›
   rename Node=>x
   have hk5:x.op=5→Lv p x sz=true→Ir p x=p.EA.getD x.n.toNat 0:=fun h hn=>(SD h hn).2.2
   intro hn
  all_goals first
   | (rw[if_neg (by first|(intro h;rw[EH,hk5 (by assumption) (by assumption)]at h;simp only[Bn,FQ]at h;exact absurd h.1 (by assumption))|(simp[EH, *];done)|(simp[EH, *];omega)|(rw[EH,hk5 (by assumption) (by assumption)];simp[*];done)|(simp[EH, *];intros;omega))]at hva
      refine QI (s:=s.set k.toNat sz) (by rw[hva];rfl) (by simpa using hl) ?_ hn
      first
       | exact hs.less (by repeat first|exact List.Sublist.refl _|apply List.Sublist.cons)
       | exact(hs.less (by repeat first|exact List.Sublist.refl _|apply List.Sublist.cons)).up (by assumption))
   | (rw[if_pos (by first|(simp[EH, *];done)|(rw[EH,hk5 (by assumption) (by assumption)];simp[*];done))]at hva
      exact Ti (s:=s.set k.toNat sz) (by rw[hva];rfl) (hs.less (by repeat first|exact List.Sublist.refl _|apply List.Sublist.cons)) hn)
 ·cases hw:Ce p next 12 n size s with
  | none=>
    rintro r σ' ⟨rfl,s',hj,hs'⟩
    conv=>whnf
    exact DY ⟨rfl,s',hj,hs'⟩
  | some s2=>
    rintro r σ' ⟨rfl,hs'⟩;refine Tj hs' fun σ2 hs2=>?_
    conv=>whnf
    exact AS ⟨rfl,hs2⟩
end Go.Gl
