import Derived.Test.YtijbpgdmpejgoaaGreatX13
set_option linter.all false
set_option linter.defProp false
noncomputable section
namespace Go.Gl
open Go.Proofs
attribute [local irreducible] BL A5 Aj AW AN Ai AV AX AO Ah AS AU BA BK Sat Ad BH Al W
def K9 {p:Prog} (h:BI p=true):CS (AM p)∧Bu p.AP≤40∧p.AP.length≤10:=by
 have h1:=h;rw[PJ]at h1;simp only[BZ,CY]at h1;have h2:=h;simp only[BI,BZ,CY]at h2;have hm:=(FP _ _ h2.2.1).1;refine⟨⟨Dz h1.2.2.2.1,?_,fun o ho=>?_⟩,by omega,h1.1⟩
 ·rw[AM,Cf];omega
 ·have:=F4 ho
  simp only[AM,A8,BD];omega
def dC (s:List Int):Prop:= ∀x∈s,(-1:Int)≤x
def fE {s:List Int} (h:dC s) (i:Nat) {x:Int} (hx:0≤x):dC (s.set i x):=fun y hy=>by
 rcases List.mem_or_eq_of_mem_set hy with hy|rfl
 ·exact h y hy
 ·omega
def TU {f:Int→Int→List Int→Option (List Int)} (hf: ∀ {a b s s'},0≤b→f a b s=some s'→dC s→dC s') {op size:Int} (h0:0≤size): ∀(i:Nat) (l:List Int) {s s':List Int},Fh f op size i l s=some s'→dC s→dC s'
 | _,[],s,s',h,hs=>by cases h;exact hs
 | i,k::r,s,s',h,hs=>by
   simp only[Fh]at h;split at h
   ·cases h
   ·rename_i s1 h1
    refine TU hf h0 (i+1) r h (hf ?_ h1 hs);split<;>omega
def Ks {p:Prog} {next:Bool}: ∀(d:Nat) {n size:Int} {s s':List Int},0≤size→CR p next d n size s=some s'→dC s→dC s'
 | 0,_,_,_,_,_,h,_=>by cases h
 | d + 1,n,size,s,s',h0,h,hs=>by
   simp only[CR]at h;split at h
   ·cases h
   ·split at h
    ·cases h
    ·split at h
     ·exact TU (fun hb h hs=>Ks d hb h hs) h0 0 _ h (fE hs _ h0)
     ·cases h
def fF {s:List Int} (h:dC s):(s.all fun n=>decide (0≤n))= !s.contains (-1):=by
 rw[Le];simp only[E0,CY,Bool.not_eq_true',←Bool.not_eq_true,List.contains_iff_mem];constructor
 ·intro h1 h2
  have:=h1 _ h2;omega
 ·intro h1 x hx
  have:=h x hx;rcases Int.lt_or_le x 0 with hlt|hle
  ·exact absurd ((show x= -1 by omega) ▸ hx) h1
  ·exact hle
def oj (p:Prog) (nO:Nat) (r:R) (σ:AH):Prop:=
 match BX p with
 | some s=>r= .ret (.t [])∧ ∃v,Sat σ [.box nO [v],.own v 1 (iL s)]
 | none=>r= .C9 Dx∧ ∃v s,Sat σ [.box nO [v],.own v 1 (iL s)]
def XT {p:Prog} {nO:Nat} {σ:AH} {v:V} {s:List Int} {l:List At} (h:BX p=none) (hs:Sat σ l) (hsub: [At.box nO [v],.own v 1 (iL s)].Sublist l):Aj σ Dx (oj p nO):=DS (by
 rw[oj,h]
 exact⟨rfl,v,s,hs.less hsub⟩)
def xk {p:Prog} {nO:Nat} {σ:AH} {v:V} {s:List Int} {l:List At} (h:BX p=some s) (hs:Sat σ l) (hsub: [At.box nO [v],.own v 1 (iL s)].Sublist l):A5 σ (.t []) (oj p nO):=AR (by
 rw[oj,h]
 exact⟨rfl,v,hs.less hsub⟩)
def RR {p:Prog} (h:C0 p=false):BX p=none:=by unfold BX;rw[h];rfl
def XL {w:AK} {f:Fact} (h:Cg w f=true):Nt f=true:=Ov (w:=w) f (by simp only[Cg,BZ]at h;exact h.2.2)
def Va {w:AK} (hw:CS w) (f:Fact):Pure Tryz.prog 170 [.a (Aq w),.a (xF f)] (eI (if Cg w f then 0 else 2)):=by
 rw[←NR];exact Y1 w hw f
def X4 {α:Type} (a b c:α): [a,b,c].Perm [c,b,a]:=by simpa using(List.reverse_perm [a,b,c]).symm
set_option maxHeartbeats 4000000 in
def bE (p : Prog) (nO:Nat) (σ:AH) (hs:Sat σ [.box nO [.l [] true]]):BL Tryz.prog 162 [.rp (BV p),.p nO 0] σ (oj p nO):=by
 refine BL.fit (by kernel_rfl) fun hf=>?_
 have hM:=Mx
 have hfp:FD (.a (BV p)):=by
  have:=hf.1;simp only[Ry]at this;simpa only[G4]using this
 have⟨p1,p2,p3,p4⟩:=GI hfp;refine mW kZ ?_;have hcl:=Vv p;replace hs:Sat σ [.box nO [.l [] true],.own (.l [] true) 1 (iL [])]:=EM hs 1;cases hcB:BI p with
 | false=>
   rw[hcB]at hcl
   conv=>whnf
   repeat'((first|apply st|(apply sq;intro K U)|(apply si;intro A B Y Z)|refine⟨kZ,?_⟩|fail)<;>conv=>whnf)
   refine hcl.use (pre:=[]) (rest:=[.box nO [.l [] true],.own (.l [] true) 1 (iL [])]) hs ?_;rintro r post σ ⟨rfl,rfl⟩ hs
   conv=>whnf
   repeat'((first|(refine Z _ _ _ ?_;clear Z B Y A)|clear U K)<;>conv=>whnf)
   exact XT (RR (by simp[C0,hcB])) hs (.refl _)
 | true=>
   rw[hcB]at hcl;obtain⟨hgW,hmS,h10⟩:=K9 hcB
   conv=>whnf
   repeat'((first|apply st|(apply sq;intro K U)|(apply si;intro A B Y Z)|refine⟨kZ,?_⟩|fail)<;>conv=>whnf)
   refine hcl.use (pre:=[]) (rest:=[.box nO [.l [] true],.own (.l [] true) 1 (iL [])]) hs ?_;clear hs;rintro r post σ ⟨rfl,rfl⟩ hs
   conv=>whnf
   repeat'((first|apply st|(apply sq;intro K U)|(apply si;intro A B Y Z)|(apply Y;clear Z B Y A)|(refine Z _ _ _ ?_;clear Z B Y A)|(apply U;clear U K)|refine⟨rfl,?_⟩|(refine Cs (fun hc=>?_) (fun hc=>?_)<;>(replace hc:=bp hc)<;>(try simp(disch:=omega) only[BD,wrap64,AL]at hc)<;>(try(cases hc;done)))|(constructor<;>intro hc<;>(try rw[hc])<;>(replace hc:=bp hc)<;>(try simp(disch:=omega) only[BD,wrap64,AL]at hc))|clear U K)<;>conv=>whnf)
   rotate_left
   all_goals first
    | exact XT (RR (by simp[C0, *];intros;omega)) hs (.refl _)
    | skip
   have a1:p.Cz.length≤8:=by omega
   have a2:p.methods.length≤16:=by omega
   have a3:1≤p.nodes.length:=by omega
   have a4:p.nodes.length≤120:=by omega
   have hg:C0 p=p.Cz.all fun g=>decide (1≤g)&&decide (g≤3):=by
    simp only[C0,a1,a2,a3,a4,decide_true,Ey];simp[*]
   refine B4 p.Cz.length (fun k (_:Unit)=>[(36,eI (A3 k))]) (fun _ _=>[.box nO [.l [] true],.own (.l [] true) 1 (iL [])]) (fun k _=>C0 p=(p.Cz.drop k).all fun g=>decide (1≤g)&&decide (g≤3)) () rfl (by simpa using hg) hs ?_;clear hs hg;rintro k - σ hk hn hs;rcases BE p.Cz hk with⟨g,hgk,hlt⟩|hke
   ·rw[drop_cons hgk,MU]at hn
    conv=>whnf
    repeat'((first|apply st|(apply sq;intro K U)|(apply si;intro A B Y Z)|(apply Y;clear Z B Y A)|(refine Z _ _ _ ?_;clear Z B Y A)|(apply U;clear U K)|refine⟨rfl,?_⟩|refine ix ?_|(refine CA (fun hc=>?_)<;>(try rw[hc])<;>clear hc)|(refine Cs (fun hc=>?_) (fun hc=>?_)<;>(replace hc:=bp hc)<;>(try simp(disch:=omega) only[BD,wrap64,AL]at hc)<;>(try(cases hc;done)))|(constructor<;>intro hc<;>(try rw[hc])<;>(replace hc:=bp hc))|clear U K)<;>conv=>whnf)
    ·exact⟨hlt,(),rfl,by rw[hn];simp[*],hs⟩
    ·exact XT (RR (by rw[hn,decide_eq_false (show¬g≤3 by omega)];simp)) hs (.refl _)
    ·exact XT (RR (by rw[hn,decide_eq_false (show¬1≤g by omega)];simp)) hs (.refl _)
   ·have hh : C0 p=true:=by rw[hn,Ag hke];rfl
    have hL:=Wn hh;clear hn
    conv=>whnf
    repeat'((first|apply st|(apply sq;intro K U)|(apply si;intro A B Y Z)|(apply Y;clear Z B Y A)|(apply U;clear U K)|refine⟨rfl,?_⟩|(refine DU (fun hc=>?_)<;>(try rw[hc])<;>clear hc)|clear U K)<;>conv=>whnf)
    rw[BD];refine(Xx p.nodes.length a3 a4).use (pre:=[]) (rest:=[.box nO [.l [] true],.own (.l [] true) 1 (iL [])]) hs ?_;clear hs;rintro r post σ ⟨v,rfl,rfl,hv⟩ hs
    conv=>whnf
    repeat'((first|apply st|(apply sq;intro K U)|(apply si;intro A B Y Z)|(apply Y;clear Z B Y A)|(apply U;clear U K)|refine⟨kZ,?_⟩|refine FB fun σ hs=>?_|refine DB fun σ hs=>?_|refine Pure.use (Sy p (by omega) (by omega)) ?_|(intro nn hnn;generalize hg:A6 _ nn _=σ;refine CW hg fun hs=>?_;clear hg)|fail)<;>conv=>whnf)
    rename_i nw hnw _ hs;generalize nn=n5 at *;replace hs:=hs.less (show [At.box n5 (Aq (AM p)),.own v 1 (iL (List.replicate p.nodes.length (-1))),.box nO [v]].Sublist _ from .cons₂ _ (.cons₂ _ (.cons₂ _ (.cons _ .slnil))));refine B4 p.methods.length (fun k (s:List Int)=>[(59,eI (A3 k))]) (fun _ s=>[.box nO [v],.own v 1 (iL s),.box n5 (Aq (AM p))]) (fun k s=>s.length=p.nodes.length∧dC s∧BX p=Je p (runM p (p.methods.drop k) s)) (List.replicate p.nodes.length (-1)) rfl ⟨by simp,fun x hx=>by rw[List.eq_of_mem_replicate hx];omega,hL⟩ (hs.perm (X4 _ _ _)) ?_;clear hs hnw hnn;rintro k s σ hk ⟨hl,hge,hn⟩ hs;rcases BE p.methods hk with⟨m,hm,hlt⟩|hke
    ·have hF:=Va hgW m.fact
     cases hfB:Cg (AM p) m.fact with
     | false=>
       rw[hfB,if_neg Bool.false_ne_true]at hF;have hno:=Da hm hn (by simp[NY,hfB])
       conv=>whnf
       repeat'((first|apply st|(apply sq;intro K U)|(apply si;intro A B Y Z)|(apply Y;clear Z B Y A)|(refine Z _ _ _ ?_;clear Z B Y A)|(refine Z _ _ fun σ hsub=>?_;clear Z B Y A)|(apply U;clear U K)|apply dr|refine rk ?_ ?_|exact fun s e=>by cases e;rfl|refine⟨rfl,?_⟩|refine⟨kZ,?_⟩|refine ix ?_|refine ld ?_|refine DB fun σ hs=>?_|(refine CA (fun hc=>?_)<;>(try rw[hc])<;>clear hc)|(refine Cs (fun hc=>?_) (fun hc=>?_)<;>(replace hc:=bp hc)<;>(try simp(disch:=omega) only[BD,wrap64,AL]at hc)<;>(try(cases hc;done)))|refine hF.use ?_|(constructor<;>intro hc<;>(try rw[hc])<;>(replace hc:=bp hc)<;>try(exfalso;omega))|(intro nn hnn;generalize hg:A6 _ nn _=σ;refine CW hg fun hs=>?_;clear hg)|clear U K)<;>conv=>whnf)
       all_goals first
        | (refine XT (v:=v) (s:=s) hno hs ?_;(repeat first|exact LY _|apply List.Sublist.cons₂|apply List.Sublist.cons);done)
        | (refine XT (v:=v) (s:=s) hno (hs.up (by assumption)) ?_;(repeat first|exact LY _|apply List.Sublist.cons₂|apply List.Sublist.cons);done)
        | skip
     | true=>
       rw[hfB,if_pos rfl]at hF;have hsp:=Xq _ (XL hfB)
       conv=>whnf
       repeat'((first|apply st|(apply sq;intro K U)|(apply si;intro A B Y Z)|(apply Y;clear Z B Y A)|(refine Z _ _ _ ?_;clear Z B Y A)|(refine Z _ _ fun σ hsub=>?_;clear Z B Y A)|(apply U;clear U K)|apply dr|refine rk ?_ ?_|exact fun s e=>by cases e;rfl|refine⟨rfl,?_⟩|refine⟨kZ,?_⟩|refine ix ?_|refine FE ?_|refine iq fun x hx=>?_|refine ld ?_|refine DB fun σ hs=>?_|(refine CA (fun hc=>?_)<;>(try rw[hc])<;>clear hc)|(refine Cs (fun hc=>?_) (fun hc=>?_)<;>(replace hc:=bp hc)<;>(try simp(disch:=omega) only[BD,wrap64,AL]at hc)<;>(try(cases hc;done)))|refine hF.use ?_|refine hsp.use ?_|(constructor<;>intro hc<;>(try rw[hc])<;>(replace hc:=bp hc)<;>(try simp(disch:=omega) only[BD,wrap64,AL]at hc)<;>try(exfalso;omega))|(intro nn hnn;generalize hg:A6 _ nn _=σ;refine CW hg fun hs=>?_;clear hg)|clear U K)<;>conv=>whnf)
       all_goals first
        | (refine XT (v:=v) (s:=s) (Da hm hn ?_) hs ?_;(simp[NY, *];intros;omega);(repeat first|exact LY _|apply List.Sublist.cons₂|apply List.Sublist.cons);done)
        | (refine XT (v:=v) (s:=s) (Da hm hn ?_) (hs.up (by assumption)) ?_;(simp[NY, *];intros;omega);(repeat first|exact LY _|apply List.Sublist.cons₂|apply List.Sublist.cons);done)
        | skip
       rotate_left 2
       ·refine XT (v:=v) (s:=s) (Da hm hn ?_) (hs.up (by assumption)) ?_
        ·simp only[NY,show p.Cz.getD m.gen.toNat 0=x by rw[DK,hx];rfl,decide_eq_false (show¬DF m.fact≤x by omega),Bool.and_false]
        ·repeat first|exact LY _|apply List.Sublist.cons₂|apply List.Sublist.cons
       all_goals
        have hx13:=Qc hh hx;have hgd:p.Cz.getD m.gen.toNat 0=x:=by rw[DK,hx];rfl
        have hok:NY p m=true:=by simp only[NY,hgd,BZ,CY];exact⟨by omega,by omega,by omega,by omega,hfB,by assumption⟩
        have hgo:=fun s'=>WV (s':=s') hm hn hok
        have hno:=QJ hm hn hok;rw[hgd]at hgo hno
       ·have hnb:Jd m.kind=(m.kind==4):=by simp[Jd, *]
        rw[hnb]at hgo hno;refine Bp ((R1 p (m.kind==4) hv m.node x s (by omega) (by omega) hl [.box n5 (Aq (AM p))] σ (hs.less (.cons _ (.refl _)))).mono ?_);cases hw:CR p (m.kind==4) 12 m.node x s with
        | none=>
          clear hs;rintro r σ' ⟨rfl,s',hl',hs⟩
          conv=>whnf
          repeat'((first|(refine Z _ _ fun σ hsub=>?_;clear Z B Y A)|clear U K)<;>conv=>whnf)
          exact XT (v:=v) (s:=s') (hno hw) (hs.up (by assumption)) (.cons₂ _ (.cons₂ _ (LY _)))
        | some s2=>
          clear hs;rintro r σ' ⟨rfl,hs⟩
          conv=>whnf
          repeat'((first|(apply si;intro A B Y Z)|(apply Y;clear Z B Y A)|(apply U;clear U K)|apply dr|refine⟨rfl,?_⟩|clear U K)<;>conv=>whnf)
          exact⟨hlt,s2,rfl,⟨(JJ _ hw).trans hl,Ks _ (by omega) hw hge,hgo s2 hw⟩,hs⟩
       ·have hnb:Jd m.kind=true:=by simp[Jd, *]
        rw[hnb]at hgo hno;refine Bp ((R1 p true hv m.node x s (by omega) (by omega) hl [.box n5 (Aq (AM p))] σ (hs.less (.cons _ (.refl _)))).mono ?_);cases hw:CR p true 12 m.node x s with
        | none=>
          clear hs;rintro r σ' ⟨rfl,s',hl',hs⟩
          conv=>whnf
          repeat'((first|(refine Z _ _ fun σ hsub=>?_;clear Z B Y A)|clear U K)<;>conv=>whnf)
          exact XT (v:=v) (s:=s') (hno hw) (hs.up (by assumption)) (.cons₂ _ (.cons₂ _ (LY _)))
        | some s2=>
          clear hs;rintro r σ' ⟨rfl,hs⟩
          conv=>whnf
          repeat'((first|(apply si;intro A B Y Z)|(apply Y;clear Z B Y A)|(apply U;clear U K)|apply dr|refine⟨rfl,?_⟩|clear U K)<;>conv=>whnf)
          exact⟨hlt,s2,rfl,⟨(JJ _ hw).trans hl,Ks _ (by omega) hw hge,hgo s2 hw⟩,hs⟩
    ·subst hke
     rw[List.drop_length,runM]at hn
     conv=>whnf
     repeat'((first|apply st|(apply sq;intro K U)|(apply si;intro A B Y Z)|(apply Y;clear Z B Y A)|(apply U;clear U K)|refine⟨rfl,?_⟩|refine⟨kZ,?_⟩|refine ix ?_|refine ld ?_|refine DB fun σ hs=>?_|(refine fc (fun x hx hlt hc=>?_) (fun hk hc=>?_)<;>(try rw[hc])<;>clear hc)|(constructor<;>intro hc<;>(try rw[hc])<;>(replace hc:=bp hc)<;>try(exfalso;omega))|(intro nn hnn;generalize hg:A6 _ nn _=σ;refine CW hg fun hs=>?_;clear hg)|clear U K)<;>conv=>whnf)
     rw[Je]at hn;refine Bp ((R1 p false hv p.main 0 s (by omega) (by omega) hl [.box n5 (Aq (AM p))] σ hs).mono ?_);cases hw:CR p false 12 p.main 0 s with
     | none=>
       rw[hw]at hn;clear hs;rintro r σ' ⟨rfl,s',hl',hs⟩
       conv=>whnf
       repeat'((first|(refine Z _ _ _ ?_;clear Z B Y A)|clear U K)<;>conv=>whnf)
       exact XT (v:=v) (s:=s') hn hs (.cons₂ _ (.cons₂ _ (LY _)))
     | some s2=>
       rw[hw]at hn;have hge2:=Ks _ (by omega) hw hge;simp only[fF hge2]at hn;clear hs;rintro r σ' ⟨rfl,hs⟩;have hct:=fun f=>D0 s2 f (-1)
       cases hyes:s2.contains (-1)with
       | true=>
         rw[hyes]at hct hn
         conv=>whnf
         repeat'((first|(apply si;intro A B Y Z)|(apply Y;clear Z B Y A)|(apply U;clear U K)|refine ld ?_|fail)<;>conv=>whnf)
         refine Pure.Xa (hct false) (.cons (hs.MV 1 rfl) (.cons (.refl _) .nil)) rfl ?_
         conv=>whnf
         repeat'((first|(refine Z _ _ _ ?_;clear Z B Y A)|(refine Cs (fun hc=>?_) (fun hc=>?_)<;>(replace hc:=bp hc)<;>(try simp(disch:=omega) only[BD,wrap64,AL]at hc)<;>(try(cases hc;done)))|fail)<;>conv=>whnf)
         all_goals exact XT (v:=v) (s:=s2) hn (by first|exact hs|exact hs.up (by assumption)) (.cons₂ _ (.cons₂ _ (LY _)))
       | false=>
         rw[hyes]at hct hn
         conv=>whnf
         repeat'((first|(apply si;intro A B Y Z)|(apply Y;clear Z B Y A)|(apply U;clear U K)|refine ld ?_|fail)<;>conv=>whnf)
         refine Pure.Xa (hct false) (.cons (hs.MV 1 rfl) (.cons (.refl _) .nil)) rfl ?_
         conv=>whnf
         repeat'((first|(apply Y;clear Z B Y A)|(refine Cs (fun hc=>?_) (fun hc=>?_)<;>(replace hc:=bp hc)<;>(try simp(disch:=omega) only[BD,wrap64,AL]at hc)<;>(try(cases hc;done)))|fail)<;>conv=>whnf)
         all_goals exact xk (v:=v) hn hs (.cons₂ _ (.cons₂ _ (LY _)))
end Go.Gl
namespace Go.Gl
variable {P:Program} {σ:AH}
def Y2 {v:V} {Q Q':R→AH→Prop} (h:A5 σ v Q) (hq: ∀r σ,Q r σ→Q' r σ):A5 σ v Q':=by
 obtain⟨vf,s2,h1,h2,h3⟩:=h;exact⟨vf,s2,h1,h2,hq _ _ h3⟩
def DD.more {α S:Type} {g:FuncId} {fi ca:List V} {ea:α→V} {H:S→List At} {stp:α→S→Bool×S} {D:α→S→Prop} (h:DD P (.f (.func g) fi ca) ea H stp D) (pre:List At):DD P (.f (.func g) fi ca) ea (fun s=>pre++H s) stp D:=fun y s hd σ hs=>by
 have h1:Bj P g (fi++[ea y]++ca) (H s) fun r post=>r= .ret (.b (stp y s).1)∧post=H (stp y s).2:=fun σ hs=>BL.mono (h y s hd σ hs) fun r σ' ⟨e,h2⟩=>⟨_,⟨e,rfl⟩,h2⟩
 refine Bp (h1.use (rest:=pre) (hs.perm Po) ?_);rintro r post σ' ⟨rfl,rfl⟩ hs';exact⟨rfl,hs'.perm Po⟩
def Me {α S:Type} (P:Program) (x:V) (ea:α→V) (H:S→List At) (f:α→Bool) (J:S→Prop) (D:α→Prop):Prop:=
 ∀y s,D y→J s→ ∀σ,Sat σ (H s)→BA P x [ea y] σ fun r σ'=>r= .ret (.b (f y))∧ ∃s',J s'∧Sat σ' (H s')
def Me.use {α S:Type} {x:V} {ea:α→V} {H:S→List At} {f:α→Bool} {J:S→Prop} {D:α→Prop} (h:Me P x ea H f J D) {y:α} {s:S} (hd:D y) (hj:J s) (hs:Sat σ (H s)) {k kp:V→AH→Prop} (hk: ∀s' σ',J s'→Sat σ' (H s')→k (.b (f y)) σ'):BA P x [ea y] σ (qk k kp):=
 (h y s hd hj σ hs).mono fun r σ' ⟨e,s',hj',h'⟩=>by rw[e];exact hk s' σ' hj' h'
def Mb {α:Type} (f:α→Bool):List α→Nat→Int
 | [],_=> -1
 | y::r,k=>if f y then(k:Int)else Mb f r (k+1)
def Tc {α:Type} (f:α→Bool): ∀(xs:List α) (k:Nat),decide (Mb f xs k≥0)=xs.any f
 | [],_=>rfl
 | y::r,k=>by
   rw[Mb,Q7];cases f y
   ·exact Tc f r (k+1)
   ·simp
end Go.Gl
namespace Go.Gl
structure Kn where
 low:Int
 high:Int
 no:List Int
 CE:Nat
 Ga:Nat
 whole:Bool
 BC:Bool
 AT:List Int
def k0:Kn:=⟨-1000000000,1000000000,[],0,0,false,false,[]⟩
def Iy (l:List Int) (s:Int):List Int:=if l.contains s then l else(l++[s]).mergeSort G9
def Cu (k:Kn) (f:Fact) (b:Bool):Kn:=
 if f.op=2 then(if b then {k with Ga:=k.Ga|||2 ^ f.cls.toNat}else {k with CE:=k.CE|||2 ^ f.cls.toNat})
 else if f.op=3 then(if b then {k with low:=if f.n > k.low then f.n else k.low}else {k with high:=if f.n - 1<k.high then f.n - 1 else k.high,whole:=true})
 else if b then {k with no:=k.no++[f.n]}else {k with low:=if f.n > k.low then f.n else k.low,high:=if f.n<k.high then f.n else k.high,whole:=true}
def Ds (k:Kn) (b:Bool):Kn:={k with BC:=k.BC|| !b}
def dA (k:Kn) (s:Int):Kn:={k with AT:=Iy k.AT s}
def DL (a:Int) (p:List Int) (k:Kn) (l:Fact):Kn:=
 if(A2 l).1.arg=a∧Bx (A2 l).1.path p=true then
  (if(A2 l).1.path=p then Cu (Ds k (A2 l).2) (A2 l).1 (A2 l).2 else dA (Ds k (A2 l).2) ((A2 l).1.path.getD p.length 0))
 else k
def kn (ls:List Fact) (a:Int) (p:List Int):Kn:=ls.foldl (DL a p) k0
def Vz (k:Kn) (f:Fact) (b:Bool):(Cu k f b).BC=k.BC:=by
 unfold Cu
 (repeat' split)<;>rfl
def Qv (k:Kn) (f:Fact) (b:Bool):(Cu k f b).AT=k.AT:=by
 unfold Cu
 (repeat' split)<;>rfl
def SC (a:Int) (p:List Int) (k:Kn) (l:Fact):(DL a p k l).BC=(k.BC|| !((A2 l).2|| !((A2 l).1.arg==a&&Bx (A2 l).1.path p))):=by
 unfold DL;split
 ·rename_i h
  have e:((A2 l).1.arg==a)=true:=by simpa using h.1
  rw[e,h.2];split
  ·rw[Vz];simp[Ds]
  ·simp[dA,Ds]
 ·rename_i h
  have:((A2 l).1.arg==a&&Bx (A2 l).1.path p)=false:=by
   cases hb:((A2 l).1.arg==a&&Bx (A2 l).1.path p)with
   | false=>rfl
   | true=>rw[BZ]at hb;exact absurd ⟨by simpa using hb.1,hb.2⟩ h
  rw[this];simp
def LR (a:Int) (p:List Int): ∀(ls:List Fact) (k:Kn),(ls.foldl (DL a p) k).BC=(k.BC|| !ER ls a p)
 | [],k=>by simp[ER]
 | l::r,k=>by
   rw[List.foldl_cons,LR a p r,SC];simp only[ER,MU];generalize (r.all _)=x;generalize ((A2 l).2||_)=y;cases k.BC<;>cases x<;>cases y<;>rfl
def MI (ls:List Fact) (a:Int) (p:List Int):(kn ls a p).BC= !ER ls a p:=by rw[kn,LR];rfl
def Yy (l:List Int) (s x:Int):x∈Iy l s↔x∈l∨x=s:=by
 unfold Iy;split
 ·rename_i h
  rw[List.contains_iff_mem]at h;constructor
  ·exact .inl
  ·rintro(h'|rfl)
   ·exact h'
   ·exact h
 ·rw[(List.mergeSort_perm _ G9).mem_iff];simp
def SM {l:List Int} (s:Int) (h:l.Pairwise (· < ·)):(Iy l s).Pairwise (· < ·):=by
 unfold Iy;split
 ·exact h
 ·rename_i hc
  have hc':s∉l:=by simpa using hc
  have hp:=List.mergeSort_perm (l++[s]) G9;have h1:((l++[s]).mergeSort G9).Pairwise (fun a b=>G9 a b=true):=List.pairwise_mergeSort (fun a b c=>by simp only[G9,CY];omega) (fun a b=>by simp only[G9,Fz,CY];omega) _
  have h2:((l++[s]).mergeSort G9).Nodup:=hp.nodup_iff.2 (by
   rw[List.nodup_append];refine⟨h.imp fun hab=>by omega,by simp,fun a ha b hb=>?_⟩;simp only[KM]at hb;rintro rfl
   exact hc' (hb ▸ ha))
  exact(h1.and h2).imp fun⟨h3,h4⟩=>by
   simp only[G9,CY]at h3;omega
def J6: ∀ {l m:List Int},l.Pairwise (· < ·)→m.Pairwise (· < ·)→(∀x,x∈l↔x∈m)→l=m
 | [],[],_,_,_=>rfl
 | [],y::m,_,_,h=>absurd ((h y).2 (.head _)) (by simp)
 | x::l,[],_,_,h=>absurd ((h x).1 (.head _)) (by simp)
 | x ::l,y::m,h1,h2,h=>by
   rw[List.pairwise_cons]at h1 h2
   have hxy:x=y:=by
    rcases GB.1 ((h x).1 (.head _))with e|hx
    ·exact e
    ·rcases GB.1 ((h y).2 (.head _))with e|hy
     ·exact e.symm
     ·have:=h1.1 y hy
      have:=h2.1 x hx;omega
   subst hxy;congr 1;refine J6 h1.2 h2.2 fun z=>?_
   constructor
   ·intro hz
    rcases GB.1 ((h z).1 (.tail _ hz))with e|hz'
    ·have:=h1.1 z hz;omega
    ·exact hz'
   ·intro hz
    rcases GB.1 ((h z).2 (.tail _ hz))with e|hz'
    ·have:=h2.1 z hz;omega
    ·exact hz'
def Ce {path pre:List Int}:Bx path pre=true↔ ∃t,path=pre++t:=by
 simp only[Bx,BZ,CY,Dn];constructor
 ·rintro⟨_,h⟩
  exact⟨path.drop pre.length,by conv=>lhs;rw[←List.take_append_drop pre.length path,h]⟩
 ·rintro⟨t,rfl⟩
  simp
def UO {path p:List Int} {s:Int}:Bx path (p++[s])=true↔Bx path p=true∧path≠p∧path.getD p.length 0=s:=by
 rw[Ce,Ce];constructor
 ·rintro⟨t,rfl⟩
  refine⟨⟨s::t,by simp⟩,fun e=>?_,by simp⟩;have:=congrArg List.length e;simp at this
 ·rintro⟨⟨t,rfl⟩,hne,hs⟩
  cases t with
  | nil=>simp at hne
  | cons y t=>simp at hs;subst hs;exact⟨t,by simp⟩
def Wz {a:Int} {p:List Int} {s:Int} {l:Fact}:V3 a p s l=true↔(A2 l).1.arg=a∧Bx (A2 l).1.path p=true∧(A2 l).1.path≠p∧(A2 l).1.path.getD p.length 0=s:=by
 rw[V3,BZ,UO,Dn]
def T9 (a:Int) (p:List Int) (k:Kn) (l:Fact):(DL a p k l).AT=if(A2 l).1.arg=a∧Bx (A2 l).1.path p=true∧(A2 l).1.path≠p then Iy k.AT ((A2 l).1.path.getD p.length 0)else k.AT:=by
 unfold DL;by_cases h1:(A2 l).1.arg=a∧Bx (A2 l).1.path p=true
 ·rw[if_pos h1]
  by_cases h2:(A2 l).1.path=p
  ·rw[if_pos h2,if_neg (fun h=>h.2.2 h2),Qv];rfl
  ·rw[if_neg h2,if_pos ⟨h1.1,h1.2,h2⟩];rfl
 ·rw[if_neg h1,if_neg (fun h=>h1 ⟨h.1,h.2.1⟩)]
def PA (a:Int) (p:List Int): ∀(ls:List Fact) (k:Kn),k.AT.Pairwise (· < ·)→(ls.foldl (DL a p) k).AT.Pairwise (· < ·)∧ ∀s,s∈(ls.foldl (DL a p) k).AT↔s∈k.AT∨ls.any (V3 a p s)=true
 | [],k,h=>⟨h,fun s=>by simp⟩
 | l ::r,k,h=>by
   rw[List.foldl_cons];have e:=T9 a p k l
   have h1:(DL a p k l).AT.Pairwise (· < ·):=by
    rw[e];split
    ·exact SM _ h
    ·exact h
   obtain⟨i1,i2⟩:=PA a p r _ h1;refine⟨i1,fun s=>?_⟩;rw[i2,e,Q7,Fz,Wz];split
   ·rename_i hc
    rw[Yy];constructor
    ·rintro((h|rfl)|h)
     ·exact .inl h
     ·exact .inr (.inl ⟨hc.1,hc.2.1,hc.2.2,rfl⟩)
     ·exact .inr (.inr h)
    ·rintro(h|⟨-,-,-,h⟩|h)
     ·exact .inl (.inl h)
     ·exact .inl (.inr h.symm)
     ·exact .inr h
   ·rename_i hc
    constructor
    ·rintro(h|h)
     ·exact .inl h
     ·exact .inr (.inr h)
    ·rintro(h|⟨q1,q2,q3,-⟩|h)
     ·exact .inl h
     ·exact absurd ⟨q1,q2,q3⟩ hc
     ·exact .inr h
def Ho (n:Nat) (ls:List Fact):Prop:= ∀l∈ls,∀s∈(A2 l).1.path,(0:Int)≤s∧s<n
def FT {n:Nat} {s:Int}:s∈Bg n↔0≤s∧s<n:=by
 simp only[Bg,Lf,List.mem_range];constructor
 ·rintro⟨m,hm,rfl⟩
  exact⟨Int.natCast_nonneg m,by simpa using hm⟩
 ·rintro⟨h0,h1⟩
  exact⟨s.toNat,by omega,by simp;omega⟩
def Jj (n:Nat):(Bg n).Pairwise (· < ·):=by
 rw[Bg,List.pairwise_map];exact List.pairwise_lt_range.imp fun h=>by simpa using h
def jy {n:Nat} {ls:List Fact} (h:Ho n ls) {a:Int} {p:List Int} {s:Int} {l:Fact} (hl:l∈ls) (hg:V3 a p s l=true):0≤s∧s<n:=by
 rw[Wz]at hg;obtain⟨-,h2,h3,h4⟩:=hg;obtain⟨t,ht⟩:=Ce.1 h2;refine h l hl s ?_;rw[ht]at h3 h4 ⊢;cases t with
 | nil=>simp at h3
 | cons y t=>simp at h4;subst h4;simp
def K5 {n:Nat} {ls:List Fact} (h:Ho n ls) (a:Int) (p:List Int):(kn ls a p).AT=Bs n ls a p:=by
 obtain⟨h1,h2⟩:=PA a p ls k0 .nil;refine J6 h1 ((Jj n).filter _) fun s=>?_
 show s∈(ls.foldl (DL a p) k0).AT↔_;rw[h2,Bs,JZ,FT];constructor
 ·rintro(h|hs)
  ·cases h
  ·obtain⟨l,hl,hg⟩:=JY.1 hs
   exact⟨jy h hl hg,hs⟩
 ·exact fun hs=> .inr hs.2
def Ex (os:List Fact) (k:Kn):Kn:=os.foldl (fun k l=>Cu k (A2 l).1 (A2 l).2) k
abbrev FK (k:Kn):Int×Int×List Int×Nat×Nat×Bool:=(k.low,k.high,k.no,k.CE,k.Ga,k.whole)
def Tf {k k':Kn} (h:FK k=FK k') (f:Fact) (b:Bool):FK (Cu k f b)=FK (Cu k' f b):=by
 cases k;cases k';simp only[FK,Prod.mk.injEq]at h;obtain⟨rfl,rfl,rfl,rfl,rfl,rfl⟩:=h;unfold Cu
 (repeat' split)<;>rfl
def Mv (p:List Int):Bx p p=true:=Ce.2 ⟨[],by simp⟩
def Yl (a:Int) (p:List Int) (k:Kn) (l:Fact):FK (DL a p k l)=if Gs a p l then FK (Cu k (A2 l).1 (A2 l).2)else FK k:=by
 unfold DL Gs;by_cases h1:(A2 l).1.arg=a
 ·by_cases h2:(A2 l).1.path=p
  ·have e:((A2 l).1.arg==a&&(A2 l).1.path==p)=true:=by simp[h1,h2]
   rw[if_pos ⟨h1,by rw[h2];exact Mv p⟩,if_pos h2,e,if_pos rfl];exact Tf (k:=Ds k (A2 l).2) (k':=k) rfl _ _
  ·have e:((A2 l).1.arg==a&&(A2 l).1.path==p)=false:=by simp[h2]
   rw[if_neg h2,e,if_neg Bool.false_ne_true];split<;>rfl
 ·have e:((A2 l).1.arg==a&&(A2 l).1.path==p)=false:=by simp[h1]
  rw[if_neg (fun h=>h1 h.1),e,if_neg Bool.false_ne_true]
def MQ (a:Int) (p:List Int): ∀(ls:List Fact) (k k':Kn),FK k=FK k'→FK (ls.foldl (DL a p) k)=FK (Ex (ls.filter (Gs a p)) k')
 | [],k,k',h=>h
 | l ::r,k,k',h=>by
   rw[List.foldl_cons,List.filter_cons];have e:=Yl a p k l;split
   ·rename_i ho
    rw[if_pos ho]at e;exact MQ a p r _ _ (e.trans (Tf h _ _))
   ·rename_i ho
    rw[if_neg (by simpa using ho)]at e;exact MQ a p r _ _ (e.trans h)
def NN (ls:List Fact) (a:Int) (p:List Int):FK (kn ls a p)=FK (Ex (ls.filter (Gs a p)) k0):=MQ a p ls k0 k0 rfl
def iE (x:Fact×Bool):Bool:= !(x.1.op==2)||(decide (x.1.cls > 1)==x.2)
def Xp (x:Fact×Bool) (k:Kn):HG x (k.low,k.high,k.no)=if iE x then some ((Cu k x.1 x.2).low,(Cu k x.1 x.2).high,(Cu k x.1 x.2).no)else none:=by
 unfold HG iE Cu;by_cases h2:x.1.op=2
 ·rw[if_pos h2,if_pos h2]
  cases x.2<;>cases decide (x.1.cls > 1)<;>simp[h2]
 ·rw[if_neg h2,if_neg h2]
  by_cases h3:x.1.op=3
  ·rw[if_pos h3,if_pos h3]
   cases x.2<;>simp[h2]
  ·rw[if_neg h3,if_neg h3]
   cases x.2<;>simp[h2]
def Qk: ∀(os:List Fact) (k:Kn),foldI os (k.low,k.high,k.no)=if os.all (fun l=>iE (A2 l))then some ((Ex os k).low,(Ex os k).high,(Ex os k).no)else none
 | [],k=>rfl
 | l ::r,k=>by
   rw[foldI,Xp,MU];cases hb:iE (A2 l)with
   | false=>rfl
   | true=>
     rw[if_pos rfl,Option.bind_some,Qk r,Ey];rfl
def cd (k:Kn) (f:Fact) (c:Bool) (b:Nat):(Cu k f c).CE.testBit b=(k.CE.testBit b||(f.op==2&& !c&&f.cls.toNat==b)):=by
 unfold Cu;by_cases h2:f.op=2
 ·rw[if_pos h2]
  cases c<;>simp[h2,Nat.testBit_or,Nat.testBit_two_pow,Bool.beq_eq_decide_eq]
 ·rw[if_neg h2]
  have:(f.op==2)=false:=by simpa using h2
  rw[this]
  repeat' split
  all_goals simp
def fk (k:Kn) (f:Fact) (c:Bool) (b:Nat):(Cu k f c).Ga.testBit b=(k.Ga.testBit b||(f.op==2&&c&&f.cls.toNat==b)):=by
 unfold Cu;by_cases h2:f.op=2
 ·rw[if_pos h2]
  cases c<;>simp[h2,Nat.testBit_or,Nat.testBit_two_pow,Bool.beq_eq_decide_eq]
 ·rw[if_neg h2]
  have:(f.op==2)=false:=by simpa using h2
  rw[this]
  repeat' split
  all_goals simp
def Yu (k:Kn) (f:Fact) (c:Bool):(Cu k f c).whole=(k.whole||(!c&& !(f.op==2))):=by
 unfold Cu;by_cases h2:f.op=2
 ·rw[if_pos h2]
  cases c<;>simp[h2]
 ·rw[if_neg h2]
  have:(f.op==2)=false:=by simpa using h2
  rw[this];cases c<;>(repeat' split)<;>simp_all
def MR: ∀(os:List Fact) (k:Kn) (b:Nat),(Ex os k).CE.testBit b=(k.CE.testBit b||os.any fun l=>(A2 l).1.op==2&& !(A2 l).2&&(A2 l).1.cls.toNat==b)
 | [],k,b=>by simp[Ex]
 | l::r,k,b=>by
   have:=MR r (Cu k (A2 l).1 (A2 l).2) b;rw[cd]at this;rw[Q7,←Bool.or_assoc,←this];rfl
def OS: ∀(os:List Fact) (k:Kn) (b:Nat),(Ex os k).Ga.testBit b=(k.Ga.testBit b||os.any fun l=>(A2 l).1.op==2&&(A2 l).2&&(A2 l).1.cls.toNat==b)
 | [],k,b=>by simp[Ex]
 | l::r,k,b=>by
   have:=OS r (Cu k (A2 l).1 (A2 l).2) b;rw[fk]at this;rw[Q7,←Bool.or_assoc,←this];rfl
def KG: ∀(os:List Fact) (k:Kn),(Ex os k).whole=(k.whole||os.any fun l=> !(A2 l).2&& !((A2 l).1.op==2))
 | [],k=>by simp[Ex]
 | l::r,k=>by
   have:=KG r (Cu k (A2 l).1 (A2 l).2);rw[Yu]at this;rw[Q7,←Bool.or_assoc,←this];rfl
def PV (m up:Nat):Bool:=(List.range 64).all fun b=> !m.testBit b||up.testBit b
def N7 {m up:Nat} (hm:m<2 ^ 64):PV m up=true↔ ∀b,m.testBit b=true→up.testBit b=true:=by
 simp only[PV,E0,List.mem_range,Fz,Bool.not_eq_true'];constructor
 ·intro h b hb
  have hlt:b<64:=by
   rcases Nat.lt_or_ge b 64 with h'|h'
   ·exact h'
   ·rw[Nat.testBit_lt_two_pow (Nat.lt_of_lt_of_le hm (Nat.pow_le_pow_right (by decide) h'))]at hb;cases hb
  rcases h b hlt with h'|h'
  ·rw[hb]at h';cases h'
  ·exact h'
 ·intro h b _
  cases hb:m.testBit b with
  | false=>exact .inl rfl
  | true=>exact .inr (h b hb)
def OP {m n:Nat}:(m&&&n==0)=true↔ ∀b,m.testBit b=true→n.testBit b=true→False:=by
 rw[Dn];constructor
 ·intro h b h1 h2
  have:=congrArg (fun x=>x.testBit b) h;simp[Nat.testBit_and,h1,h2]at this
 ·intro h
  refine Nat.eq_of_testBit_eq fun b=>?_
  rw[Nat.testBit_and,Nat.zero_testBit];cases h1:m.testBit b with
  | false=>rfl
  | true=>
    cases h2:n.testBit b with
    | false=>rfl
    | true=>exact(h b h1 h2).elim
def RY (c b:Nat):(1|||2 ^ c).testBit b=(b==0||b==c):=by
 rw[Nat.testBit_or,Nat.testBit_two_pow,show(1:Nat)=2 ^ 0 from rfl,Nat.testBit_two_pow];rw[Le];simp only[Fz,CY,Dn];omega
def Ik (n:Nat) (ls:List Fact):Prop:= ∀l∈ls,(A2 l).1.op=2→0≤(A2 l).1.cls∧(A2 l).1.cls<n
def O3 {m n:Nat} (h: ∀b,m.testBit b=true→b<n):m<2 ^ n:=by
 refine Nat.lt_pow_two_of_testBit _ fun i hi=>?_
 cases hb:m.testBit i with
 | false=>rfl
 | true=>have:=h i hb;omega
def Rl {os:List Fact} {n:Nat} (h:Ik n os):(Ex os k0).CE<2 ^ n:=O3 fun b hb=>by
 rw[MR]at hb;simp only[k0,Nat.zero_testBit,Bool.false_or,JY,BZ,Dn]at hb;obtain⟨l,hl,⟨h2,-⟩,rfl⟩:=hb;have:=h l hl h2;omega
def jO {os:List Fact} {n:Nat} (h:Ik n os):(Ex os k0).Ga<2 ^ n:=O3 fun b hb=>by
 rw[OS]at hb;simp only[k0,Nat.zero_testBit,Bool.false_or,JY,BZ,Dn]at hb;obtain⟨l,hl,⟨h2,-⟩,rfl⟩:=hb;have:=h l hl h2;omega
def K3 {os:List Fact} {b:Nat}:(Ex os k0).CE.testBit b=true↔ ∃l∈os,(A2 l).1.op=2∧(A2 l).2=false∧(A2 l).1.cls.toNat=b:=by
 rw[MR];simp only[k0,Nat.zero_testBit,Bool.false_or,JY,BZ,Dn,Bool.not_eq_true',and_assoc]
def Wj {os:List Fact} {b:Nat}:(Ex os k0).Ga.testBit b=true↔ ∃l∈os,(A2 l).1.op=2∧(A2 l).2=true∧(A2 l).1.cls.toNat=b:=by
 rw[OS];simp only[k0,Nat.zero_testBit,Bool.false_or,JY,BZ,Dn,and_assoc]
def X3 {os:List Fact} {n:Nat} (hn:n≤64) (h:Ik n os):(PV (Ex os k0).CE (1|||2 ^ 1)&&((Ex os k0).Ga&&&(1|||2 ^ 1)==0))=os.all fun l=>iE (A2 l):=by
 rw[Le,BZ,N7 (Nat.lt_of_lt_of_le (Rl h) (Nat.pow_le_pow_right (by decide) hn)),OP];simp only[K3,Wj,RY,E0,iE,Fz,Bool.not_eq_true',beq_eq_false_iff_ne,Dn,ne_eq];constructor
 ·rintro⟨h1,h2⟩ l hl
  by_cases ho:(A2 l).1.op=2
  ·right
   have hc:=h l hl ho;cases hb:(A2 l).2 with
   | false=>
     have:=h1 _ ⟨l,hl,ho,hb,rfl⟩;rw[decide_eq_false_iff_not];omega
   | true=>
     rw[CY];rcases Int.lt_or_le 1 (A2 l).1.cls with hlt|hle
     ·exact hlt
     ·exact(h2 _ ⟨l,hl,ho,hb,rfl⟩ (by omega)).elim
  ·exact .inl ho
 ·intro h1
  constructor
  ·rintro b ⟨l,hl,ho,hb,rfl⟩
   rcases h1 l hl with h'|h'
   ·exact absurd ho h'
   ·have hc:=h l hl ho
    rw[hb,decide_eq_false_iff_not]at h';omega
  ·rintro b ⟨l,hl,ho,hb,rfl⟩ hu
   rcases h1 l hl with h'|h'
   ·exact absurd ho h'
   ·have hc:=h l hl ho
    rw[hb,CY]at h';omega
def Xn (x:Fact×Bool):(!II x)=true↔(x.2=false→x.1.op=2∧(x.1.cls=0∨x.1.cls=2))∧(x.2=true→ ¬(x.1.op=2∧(x.1.cls=0∨x.1.cls=2))):=by
 have e:(x.1.op==2&&(x.1.cls==0||x.1.cls==2))=true↔x.1.op=2∧(x.1.cls=0∨x.1.cls=2):=by
  simp only[BZ,Fz,Dn]
 rw[←e,II];generalize (x.1.op==2&&(x.1.cls==0||x.1.cls==2))=y;cases x.2<;>cases y<;>simp
def Xi {os:List Fact}:(!(Ex os k0).whole)=true↔ ∀l∈os,(A2 l).2=false→(A2 l).1.op=2:=by
 rw[KG,Bool.not_eq_true',←Bool.not_eq_true];simp only[k0,Bool.false_or,JY,BZ,Bool.not_eq_true',beq_eq_false_iff_ne];constructor
 ·intro h l hl hb
  rcases Classical.em ((A2 l).1.op=2)with e|e
  ·exact e
  ·exact absurd ⟨l,hl,hb,e⟩ h
 ·rintro h ⟨l,hl,hb,e⟩
  exact e (h l hl hb)
def VJ {os:List Fact} {n:Nat} (hn:n≤64) (h:Ik n os):(!(Ex os k0).whole&&(PV (Ex os k0).CE (1|||2 ^ 2)&&((Ex os k0).Ga&&&(1|||2 ^ 2)==0)))=os.all fun l=> !II (A2 l):=by
 rw[Le,BZ,BZ,N7 (Nat.lt_of_lt_of_le (Rl h) (Nat.pow_le_pow_right (by decide) hn)),OP,Xi,E0];simp only[K3,Wj,RY,Fz,Dn,Xn];constructor
 ·rintro⟨h0,h1,h2⟩ l hl
  refine⟨fun hb=>?_,fun hb ⟨ho,hc⟩=>h2 _ ⟨l,hl,ho,hb,rfl⟩ (by omega)⟩;have ho:=h0 l hl hb;have hc:=h l hl ho;have:=h1 _ ⟨l,hl,ho,hb,rfl⟩;exact⟨ho,by omega⟩
 ·intro h1
  refine⟨fun l hl hb=>((h1 l hl).1 hb).1,?_,?_⟩
  ·rintro b ⟨l,hl,ho,hb,rfl⟩
   have:=((h1 l hl).1 hb).2;omega
  ·rintro b ⟨l,hl,ho,hb,rfl⟩ hu
   have hc:=h l hl ho;exact(h1 l hl).2 hb ⟨ho,by omega⟩
def L9 {no:List Int}: ∀(k:Nat) (m:Int),(RC no k m).isSome=true↔ ∃j:Nat,j<k∧m+j∉no
 | 0,m=>by simp[RC]
 | k + 1,m=>by
   rw[RC];split
   ·rename_i h
    simp only[Option.isSome_some,true_iff];refine⟨0,by omega,fun hm=>?_⟩;rw[E0]at h;have:=h _ hm;simp at this
   ·rename_i h
    rw[L9 k]
    have hm:m∈no:=by
     rcases Classical.em (m∈no)with h'|h'
     ·exact h'
     ·refine absurd (E0.2 fun x hx=>?_) h
      rw[uw];rintro rfl;exact h' hx
    constructor
    ·rintro⟨j,hj,h'⟩
     exact⟨j+1,by omega,by rw[show m+((j+1:Nat):Int)=m+1+j by omega];exact h'⟩
    ·rintro⟨j,hj,h'⟩
     cases j with
     | zero=>simp at h';exact absurd hm h'
     | succ j=>exact⟨j,by omega,by rw[show m+1+(j:Int)=m+((j+1:Nat):Int) by omega];exact h'⟩
def bA {low high n:Int} {no:List Int} (h0:low≤n) (h1:n∉no) (h2: ∀m,low≤m→m<n→m∈no):(Nk (low,high,no)).isSome=decide (n≤high):=by
 rw[Le,Nk,L9,CY];constructor
 ·rintro⟨j,hj,h⟩
  rcases Int.lt_or_le (low+j) n with hlt|hle
  ·exact absurd (h2 _ (by omega) hlt) h
  ·simp only at hj;omega
 ·intro h
  refine⟨(n - low).toNat,by simp only;omega,?_⟩;rw[show low+((n - low).toNat:Int)=n by omega];exact h1
end Go.Gl
namespace Go.Gl
def S2 (g:List (List Int)) (k:Nat): ∀(m d:Nat),d<3+k→(Cm g (k+m)).getD d 0=(Cm g k).getD d 0
 | 0,d,_=>rfl
 | m+1,d,h=>by
   rw[show k+(m+1)=k+m+1 from rfl,Cm,←S2 g k m d h];rw[DK,c7 (by rw[En];omega),←DK]
def S3 (us:List Nat) (b:Nat): ∀(l:List Int) (s:Nat),(Ua us l s).testBit b=(s.testBit b||l.any fun c=>(us.getD c.toNat 0).testBit b)
 | [],s=>by simp[Ua]
 | c::r,s=>by
   have:=S3 us b r (s|||us.getD c.toNat 0);rw[Q7,←Bool.or_assoc,←Nat.testBit_or,←this];rfl
def aL {α:Type} (f:α→Bool) (b:Bool): ∀(l:List α),(b||l.any fun x=>b||f x)=(b||l.any f)
 | []=>rfl
 | x::r=>by
   have:=aL f b r;simp only[Q7];cases b
   ·simpa using this
   ·rfl
def any_congr {α:Type} {f g:α→Bool}: ∀ {l:List α},(∀x∈l,f x=g x)→l.any f=l.any g
 | [],_=>rfl
 | x::r,h=>by
   rw[Q7,Q7,h x (.head _),any_congr fun y hy=>h y (.tail _ hy)]
def Rf {g:List (List Int)} (ho:ordered g): ∀(k d b:Nat),k≤g.length→d<3+k→((Cm g k).getD d 0).testBit b=(b==0||JV g d b)
 | 0,d,b,_,hd=>by
   have e:(Cm g 0).getD d 0=1|||2 ^ d:=by
    rcases d with _|_|_|d
    ·rfl
    ·rfl
    ·rfl
    ·omega
   rw[e,RY,E4 ho,par,if_pos (by omega),List.any_nil,Bool.or_false];rw[Le];simp only[Fz,Dn];omega
 | k + 1,d,b,hk,hd=>by
   by_cases hlt:d<3+k
   ·rw[S2 g k 1 d hlt]
    exact Rf ho k d b (by omega) hlt
   ·obtain rfl:d=3+k:=by omega
    have e:(Cm g (k+1)).getD (3+k) 0=Ua (Cm g k) (g.getD k []) (1|||2 ^ (3+k)):=by
     rw[Cm,DK,List.getElem?_append_right (by rw[En];omega),En,Nat.sub_self];rfl
    have hpar:par g (3+k)=g.getD k []:=by rw[par,if_neg (by omega),show 3+k - 3=k by omega]
    rw[e,S3,RY,E4 ho,hpar]
    have hc:((g.getD k []).any fun c=>((Cm g k).getD c.toNat 0).testBit b)=(g.getD k []).any fun p=>(b==0)||JV g p.toNat b:=any_congr fun p hp=>by
     have:=ho (3+k) p (by rw[hpar];exact hp);exact Rf ho k p.toNat b (by omega) (by omega)
    rw[hc];have e2:(b==3+k)=(3+k==b):=by rw[Le];simp only[Dn];omega
    rw[e2,Bool.or_assoc,Bool.or_left_comm,aL,Bool.or_left_comm]
def N5 {g:List (List Int)} (ho:ordered g) {d b:Nat} (hd:d<3+g.length):((CG g).getD d 0).testBit b=(b==0||JV g d b):=Rf ho g.length d b (JU _) hd
def Uh {g:List (List Int)} (ho:ordered g): ∀(d b:Nat),3≤d→JV g d b=true→3≤b:=by
 intro d
 induction d using Nat.strongRecOn with
 | _ d ih=>
   intro b h3 h;rw[E4 ho]at h;simp only[Fz,Dn,JY]at h;rcases h with rfl|⟨p,hp,h⟩
   ·exact h3
   ·have:=ho d p hp
    exact ih p.toNat (by omega) b (by omega) h
def Di (us:List Nat):Nat→Nat→Nat
 | 0,m=>m
 | k+1,m=>if(Di us k m).testBit (3+k)then Di us k m|||us.getD (3+k) 0 else Di us k m
def PI {g : List (List Int)} (ho:ordered g) (m:Nat): ∀(k b:Nat),k≤g.length→((Di (CG g) k m).testBit b=true↔m.testBit b=true∨ ∃d,3≤d∧d<3+k∧m.testBit d=true∧(b=0∨JV g d b=true))
 | 0,b,_=>by
   rw[Di];exact⟨.inl,fun h=>h.elim id fun⟨d,h1,h2,_⟩=>by omega⟩
 | k + 1, b, hk=>by
   have ih:=PI ho m k;rw[Di];split
   ·rename_i hc
    rw[Nat.testBit_or,Fz,ih b (by omega),N5 ho (by omega),Fz,Dn];rw[ih _ (by omega)]at hc;constructor
    ·rintro((h|⟨d,h1,h2,h3,h4⟩)|h)
     ·exact .inl h
     ·exact .inr ⟨d,h1,by omega,h3,h4⟩
     ·rcases hc with hc|⟨d,h1,h2,h3,h4⟩
      ·exact .inr ⟨3+k,by omega,by omega,hc,h⟩
      ·refine .inr ⟨d,h1,by omega,h3,?_⟩
       rcases h with h|h
       ·exact .inl h
       ·rcases h4 with h4|h4
        ·omega
        ·exact .inr (L7 ho _ _ _ h4 h)
    ·rintro(h|⟨d,h1,h2,h3,h4⟩)
     ·exact .inl (.inl h)
     ·by_cases e:d=3+k
      ·subst e;exact .inr h4
      ·exact .inl (.inr ⟨d,h1,by omega,h3,h4⟩)
   ·rename_i hc
    rw[ih b (by omega)];constructor
    ·rintro(h|⟨d,h1,h2,h3,h4⟩)
     ·exact .inl h
     ·exact .inr ⟨d,h1,by omega,h3,h4⟩
    ·rintro(h|⟨d,h1,h2,h3,h4⟩)
     ·exact .inl h
     ·by_cases e:d=3+k
      ·subst e;exact absurd ((ih _ (by omega)).2 (.inl h3)) hc
      ·exact .inr ⟨d,h1,by omega,h3,h4⟩
def Jm: ∀(l:List Int) (bs:List Bool),(∀q∈l,0≤q∧q.toNat<bs.length)→ ∀b:Nat,(l.foldl (fun b q=>b.set q.toNat true) bs).getD b false=(bs.getD b false||l.contains (b:Int))
 | [],bs,_,b=>by simp
 | q ::r,bs,h,b=>by
   have hq:=h q (.head _);rw[List.foldl_cons,Jm r _ (fun x hx=>by rw[List.length_set];exact h x (.tail _ hx)),EU hq.2,List.contains_cons];split
   ·rename_i e
    subst e;have:((q.toNat:Int)==q)=true:=by rw[Dn];omega
    rw[this];simp
   ·rename_i e
    have:((b:Int)==q)=false:=by rw[beq_eq_false_iff_ne];omega
    rw[this,Bool.false_or]
def G7 {g:List (List Int)} (ho:ordered g) {c:Nat} {bs:List Bool} (hc:c≤bs.length) (b:Nat):(Hi g c bs).getD b false=(bs.getD b false||(bs.getD c false&&(par g c).contains (b:Int))):=by
 rw[Hi];split
 ·rename_i h
  rw[Jm _ _ (fun q hq=>by have:=ho c q hq;omega),h,Ey]
 ·rename_i h
  have:bs.getD c false=false:=by simpa using h
  rw[this,Bool.false_and,Bool.or_false]
def F6 {g:List (List Int)} (ho:ordered g) {n:Nat} {S:List Bool} (hl:S.length=n): ∀(k b:Nat),(B8 g n k S).getD b false=true→ ∃d,S.getD d false=true∧JV g d b=true
 | 0,b,h=>⟨b,h,Fj ho b⟩
 | k + 1,b,h=>by
   rw[B8,G7 ho (by rw[Eh];omega),Fz,BZ]at h;rcases h with h|⟨h1,h2⟩
   ·exact F6 ho hl k b h
   ·obtain⟨d,h3,h4⟩:=F6 ho hl k _ h1
    refine⟨d,h3,L7 ho _ _ _ h4 ?_⟩;rw[E4 ho,Fz,JY];rw[List.contains_iff_mem]at h2;exact .inr ⟨_,h2,by rw[IT];exact Fj ho b⟩
def UN {g:List (List Int)} (ho:ordered g) {n:Nat} {S:List Bool} (hl:S.length=n) (k b:Nat) (h:(B8 g n k S).getD b false=true):(B8 g n (k+1) S).getD b false=true:=by
 rw[B8,G7 ho (by rw[Eh];omega),h];rfl
def I9 {g:List (List Int)} (ho:ordered g) {n:Nat} {S:List Bool} (hl:S.length=n): ∀(k b:Nat),S.getD b false=true→(B8 g n k S).getD b false=true
 | 0,_,h=>h
 | k+1,b,h=>UN ho hl k b (I9 ho hl k b h)
def G8 {g:List (List Int)} (ho:ordered g) {n:Nat} {S:List Bool} (hl:S.length=n): ∀(k c:Nat),k≤n→n - k≤c→(B8 g n k S).getD c false=true→ ∀q∈par g c,(B8 g n k S).getD q.toNat false=true
 | 0,c,_,hc,h,q,hq=>by
   rw[B8,DK,List.getElem?_eq_none (by omega)]at h;cases h
 | k + 1,c,hk,hc,h,q,hq=>by
   rw[B8,G7 ho (by rw[Eh];omega)]at h ⊢;have hoc:=ho c q hq;rw[Fz,BZ]at h
   have hbase:(B8 g n k S).getD c false=true:=by
    rcases h with h|⟨-,h2⟩
    ·exact h
    ·rw[List.contains_iff_mem]at h2
     have:=ho _ _ h2;omega
   by_cases e:c=n - 1 - k
   ·subst e
    rw[hbase,Ey,Fz,List.contains_iff_mem];exact .inr (by rw[show((q.toNat:Nat):Int)=q by omega];exact hq)
   ·rw[G8 ho hl k c (by omega) (by omega) hbase q hq];rfl
def Vt {g:List (List Int)} (ho:ordered g) {S:List Bool} (hl:S.length=3+g.length) (b:Nat):(B8 g (3+g.length) g.length S).getD b false=true↔ ∃d,S.getD d false=true∧JV g d b=true:=by
 refine⟨F6 ho hl _ b,?_⟩
 have key: ∀d,(B8 g (3+g.length) g.length S).getD d false=true→JV g d b=true→(B8 g (3+g.length) g.length S).getD b false=true:=by
  intro d
  induction d using Nat.strongRecOn with
  | _ d ih=>
    intro h1 h2;rw[E4 ho,Fz,Dn,JY]at h2;rcases h2 with rfl|⟨p,hp,h2⟩
    ·exact h1
    ·have hop:=ho d p hp
     refine ih p.toNat (by omega) (G8 ho hl g.length d (by omega) ?_ h1 p hp) h2;omega
 rintro⟨d,h1,h2⟩;exact key d (I9 ho hl _ d h1) h2
def RB (n:Nat) (t:BB) (u:Nat×Nat):Prop:=
 t.1.length=n∧t.2.length=n∧(∀b,t.1.getD b false=u.1.testBit b)∧(∀b,b≠1→b≠2→t.2.getD b false=u.2.testBit b)∧u.1.testBit 1=false∧u.1.testBit 2=false
def GO (m c b:Nat):(m|||2 ^ c).testBit b=(m.testBit b||b==c):=by
 rw[Nat.testBit_or,Nat.testBit_two_pow];congr 1;rw[Le];simp only[CY,Dn];omega
def NG {l:List Bool} {m c:Nat} (hc:c<l.length) {b:Nat} (h:l.getD b false=m.testBit b):(l.set c true).getD b false=(m|||2 ^ c).testBit b:=by
 rw[EU hc,GO,←h];split
 ·rename_i e;subst e;simp
 ·rename_i e
  have:(b==c)=false:=by simpa using e
  rw[this,Bool.or_false]
def RL (x:Fact×Bool):Bool:= !x.2&&(!(x.1.op==2)||x.1.cls==1||x.1.cls==2)
def Xm {n : Nat} {x:Fact×Bool} {t:BB} {k:Kn} (h:RB n t (k.CE,k.Ga)) (hc:x.1.op=2→0≤x.1.cls∧x.1.cls<n) :
    (RL x=true→GF x t=none)∧(RL x=false→ ∃t',GF x t=some t'∧RB n t' ((Cu k x.1 x.2).CE,(Cu k x.1 x.2).Ga)):=by
 obtain⟨f,c⟩:=x;simp only at hc;obtain⟨h1,h2,h3,h4,h5,h6⟩:=h;unfold RL GF Cu;simp only;by_cases ho:f.op=2
 ·have hc':=hc ho
  by_cases h12:f.cls=1∨f.cls=2
  ·rw[if_pos (.inr h12),if_pos ho]
   cases c with
   | true=>
     refine⟨fun h=>(by cases h),fun _=>⟨t,rfl,h1,h2,h3,fun b hb1 hb2=>?_,h5,h6⟩⟩;rw[if_pos rfl];show _=(k.Ga|||2 ^ f.cls.toNat).testBit b;rw[GO,h4 b hb1 hb2];have:(b==f.cls.toNat)=false:=by rw[beq_eq_false_iff_ne];omega
     rw[this,Bool.or_false]
   | false=>
     refine⟨fun _=>rfl,fun h=>?_⟩;exfalso;rcases h12 with e|e<;>simp[e]at h
  ·have hn: ¬(f.op≠2∨f.cls=1∨f.cls=2):=by omega
   rw[if_neg hn,if_pos ho]
   have hb:(!c&&(!(f.op==2)||f.cls==1||f.cls==2))=false:=by
    have e1:(f.op==2)=true:=by simpa using ho
    have e2:(f.cls==1)=false:=by rw[beq_eq_false_iff_ne];omega
    have e3:(f.cls==2)=false:=by rw[beq_eq_false_iff_ne];omega
    rw[e1,e2,e3];simp
   rw[hb];refine⟨fun h=>(by cases h),fun _=>?_⟩;cases c with
   | true=>
     refine⟨_,rfl,h1,by simpa using h2,h3,fun b hb1 hb2=>?_,h5,h6⟩;exact NG (by omega) (h4 b hb1 hb2)
   | false=>
     refine⟨_,rfl,by simpa using h1,h2,fun b=>?_,h4,?_,?_⟩
     ·exact NG (by omega) (h3 b)
     ·show(k.CE|||2 ^ f.cls.toNat).testBit 1=false
      rw[GO,h5];have:(1==f.cls.toNat)=false:=by rw[beq_eq_false_iff_ne];omega
      rw[this];rfl
     ·show(k.CE|||2 ^ f.cls.toNat).testBit 2=false
      rw[GO,h6];have:(2==f.cls.toNat)=false:=by rw[beq_eq_false_iff_ne];omega
      rw[this];rfl
 ·rw[if_pos (.inl ho),if_neg ho]
  have e1:(f.op==2)=false:=by simpa using ho
  cases c with
  | true=>
    refine⟨fun h=>(by cases h),fun _=>⟨t,rfl,?_⟩⟩;split<;>exact⟨h1,h2,h3,h4,h5,h6⟩
  | false=>exact⟨fun _=>rfl,fun h=>by rw[e1]at h;cases h⟩
def Qj {n:Nat}: ∀(os:List Fact) {t:BB} {k:Kn},RB n t (k.CE,k.Ga)→Ik n os→
    (os.any (fun l=>RL (A2 l))=true→EB os t=none)∧(os.any (fun l=>RL (A2 l))=false→ ∃t',EB os t=some t'∧RB n t' ((Ex os k).CE,(Ex os k).Ga))
 | [],t,k,h,_=>⟨fun h=>(by cases h),fun _=>⟨t,rfl,h⟩⟩
 | l ::r,t,k,h,hc=>by
   obtain⟨s1,s2⟩:=Xm h (hc l (.head _));rw[Q7,EB];cases hb:RL (A2 l)with
   | true=>exact⟨fun _=>by rw[s1 hb];rfl,fun h=>(by cases h)⟩
   | false=>
     obtain⟨t',h1,h2⟩:=s2 hb;rw[h1,Bool.false_or,Option.bind_some];exact Qj r h2 fun x hx=>hc x (.tail _ hx)
def cb {os:List Fact} {n:Nat} (hc:Ik n os):(os.any fun l=>RL (A2 l))=((Ex os k0).whole||(Ex os k0).CE.testBit 1||(Ex os k0).CE.testBit 2):=by
 rw[Le,Fz,Fz,K3,K3,KG];simp only[JY,RL,BZ,Fz,Bool.not_eq_true',Dn,beq_eq_false_iff_ne,k0,Bool.false_or];constructor
 ·rintro⟨l,hl,hb,(h|h)|h⟩
  ·exact .inl (.inl ⟨l,hl,hb,h⟩)
  ·by_cases ho:(A2 l).1.op=2
   ·exact .inl (.inr ⟨l,hl,ho,hb,by rw[h];rfl⟩)
   ·exact .inl (.inl ⟨l,hl,hb,ho⟩)
  ·by_cases ho:(A2 l).1.op=2
   ·exact .inr ⟨l,hl,ho,hb,by rw[h];rfl⟩
   ·exact .inl (.inl ⟨l,hl,hb,ho⟩)
 ·rintro((⟨l,hl,hb,h⟩|⟨l,hl,ho,hb,h⟩)|⟨l,hl,ho,hb,h⟩)
  ·exact⟨l,hl,hb,.inl (.inl h)⟩
  ·have:=hc l hl ho
   exact⟨l,hl,hb,.inl (.inr (by omega))⟩
  ·have:=hc l hl ho
   exact⟨l,hl,hb,.inr (by omega)⟩
def V9 (w:AK) (BC can:Int→Bool) (s:Int) (u:Nat×Nat):Option (Nat×Nat):=
 if BC s&& !can s then none else some (if BC s then u.1|||2 ^ (CV w s).toNat else u.1,if can s then u.2 else u.2|||2 ^ (CV w s).toNat)
def IM (w:AK) (BC can:Int→Bool):List Int→Nat×Nat→Option (Nat×Nat)
 | [],u=>some u
 | s::r,u=>(V9 w BC can s u).bind (IM w BC can r)
def W6 {w:AK} {ls:List Fact} {a:Int} {p:List Int} {can BC:Int→Bool} (hn: ∀s,BC s= !ER ls a (p++[s])) {n:Nat} (how: ∀s:Int,0≤s→s<w.owner.length→3≤CV w s∧CV w s<n) :
    ∀(sl:List Int) {t:BB} {u:Nat×Nat},(∀s∈sl,0≤s∧s<w.owner.length)→RB n t u→
    (Du w ls a p can sl t=none∧IM w BC can sl u=none)∨ ∃t' u',Du w ls a p can sl t=some t'∧IM w BC can sl u=some u'∧RB n t' u'
 | [],t,u,_,h=> .inr ⟨t,u,rfl,rfl,h⟩
 | s ::r,t,u,hsl,h=>by
   have hs:=hsl s (.head _);have ho:=how s hs.1 hs.2;rw[Du,IM,IH,V9,hn];obtain⟨h1,h2,h3,h4,h5,h6⟩:=h;split
   ·exact .inl ⟨rfl,rfl⟩
   ·rw[Option.bind_some,Option.bind_some]
    refine W6 hn how r (fun x hx=>hsl x (.tail _ hx)) ?_;have hb: ∀i,i<3→(i==(CV w s).toNat)=false:=fun i hi=>by rw[beq_eq_false_iff_ne];omega
    cases ER ls a (p++[s])<;>cases can s<;>refine⟨by simpa using h1,by simpa using h2,fun b=>?_,fun b hb1 hb2=>?_,?_,?_⟩
    all_goals simp only[Bool.not_false,Bool.not_true,Lb,if_true,if_false]
    all_goals first
     | exact h3 b
     | exact h4 b hb1 hb2
     | exact h5
     | exact h6
     | exact NG (by omega) (h3 b)
     | exact NG (by omega) (h4 b hb1 hb2)
     | (rw[GO,h5,hb 1 (by omega)];rfl)
     | (rw[GO,h6,hb 2 (by omega)];rfl)
def HD (m:Nat):Nat:=m - m % 2
def Tg (m b:Nat):(HD m).testBit b=(m.testBit b&& !(b==0)):=by
 cases b with
 | zero=>
   simp[HD,Nat.testBit_zero];omega
 | succ b=>
   rw[Nat.testBit_succ,Nat.testBit_succ,HD,show(m - m % 2) / 2=m / 2 by omega];simp
def j7 {w : AK} (ho:ordered w.parents) {t:BB} {u:Nat×Nat} (h:RB (3+w.parents.length) t u) :
    (Sc w t).isSome=(!u.2.testBit 0&&(HD (Di (CG w.parents) w.parents.length u.1)&&&u.2==0)):=by
 obtain⟨h1,h2,h3,h4,h5,h6⟩:=h;rw[Sc,h4 0 (by decide) (by decide)];cases h0:u.2.testBit 0 with
 | true=>rfl
 | false =>
   rw[if_neg (by decide),Bool.not_false,Ey];have hl:(t.1.set 0 false).length=3+w.parents.length:=by simpa using h1
   have G:=Vt ho hl;have F:=PI ho u.1 w.parents.length
   have hS: ∀d,(t.1.set 0 false).getD d false=true↔d≠0∧u.1.testBit d=true:=fun d=>by
    rw[EU (by omega)];split
    ·rename_i e;subst e;simp
    ·rename_i e;rw[h3];exact⟨fun h=>⟨e,h⟩,fun h=>h.2⟩
   have hlt: ∀b,u.1.testBit b=true→b<3+w.parents.length:=fun b hb=>by
    rw[←h3]at hb;rcases Nat.lt_or_ge b (3+w.parents.length)with h'|h'
    ·exact h'
    ·rw[DK,List.getElem?_eq_none (by omega)]at hb;cases hb
   have h3b: ∀d,d≠0→u.1.testBit d=true→3≤d:=fun d hd hb=>by
    rcases d with _|_|_|d
    ·exact absurd rfl hd
    ·rw[h5]at hb;cases hb
    ·rw[h6]at hb;cases hb
    ·omega
   have hM: ∀b,(HD (Di (CG w.parents) w.parents.length u.1)).testBit b=true↔(B8 w.parents (3+w.parents.length) w.parents.length (t.1.set 0 false)).getD b false=true:=fun b=>by
    rw[Tg,BZ,F b (JU _),G,Bool.not_eq_true',beq_eq_false_iff_ne];constructor
    ·rintro⟨h|⟨d,q1,q2,q3,q4⟩,hb⟩
     ·exact⟨b,(hS b).2 ⟨hb,h⟩,Fj ho b⟩
     ·rcases q4 with e|q4
      ·exact absurd e hb
      ·exact⟨d,(hS d).2 ⟨by omega,q3⟩,q4⟩
    ·rintro⟨d,hd,hu⟩
     obtain⟨hd0,hdu⟩:=(hS d).1 hd;have hd3:=h3b d hd0 hdu;have:=Uh ho d b hd3 hu;exact⟨.inr ⟨d,hd3,hlt d hdu,hdu,.inr hu⟩,by omega⟩
   have hany:((List.range (3+w.parents.length)).any fun c=>(B8 w.parents (3+w.parents.length) w.parents.length (t.1.set 0 false)).getD c false&&t.2.getD c false)= !(HD (Di (CG w.parents) w.parents.length u.1)&&&u.2==0):=by
    rw[Le,Bool.not_eq_true',←Bool.not_eq_true,OP,JY];constructor
    ·rintro⟨c,hc,hx⟩ hall
     rw[BZ]at hx;have hm:=(hM c).2 hx.1;obtain⟨d,hd,hu⟩:=(G c).1 hx.1;obtain⟨hd0,hdu⟩:=(hS d).1 hd;have:=Uh ho d c (h3b d hd0 hdu) hu;exact hall c hm (by rw[←h4 c (by omega) (by omega)];exact hx.2)
    ·intro hne
     rcases Classical.em (∃b,(HD (Di (CG w.parents) w.parents.length u.1)).testBit b=true∧u.2.testBit b=true)with⟨b,hb1,hb2⟩|hno
     ·have hm:=(hM b).1 hb1
      obtain⟨d,hd,hu⟩:=(G b).1 hm;obtain⟨hd0,hdu⟩:=(hS d).1 hd;have:=Uh ho d b (h3b d hd0 hdu) hu;have:=Zj ho d b hu;have:=hlt d hdu;exact⟨b,List.mem_range.2 (by omega),by rw[hm,h4 b (by omega) (by omega),hb2];rfl⟩
     ·exact absurd (fun b h1 h2=>hno ⟨b,h1,h2⟩) hne
   rw[hany];cases(HD (Di (CG w.parents) w.parents.length u.1)&&&u.2==0)<;>rfl
def Mz (w:AK) (k:Kn) (BC can:Int→Bool):Nat×Bool:=
 if k.whole||k.CE.testBit 1||k.CE.testBit 2||k.Ga.testBit 0 then(0,false)else
 match IM w BC can k.AT (k.CE,k.Ga)with
 | none=>(0,false)
 | some u=>(HD (Di (CG w.parents) w.parents.length u.1),HD (Di (CG w.parents) w.parents.length u.1)&&&u.2==0)
def PD {w:AK} {BC can:Int→Bool} (how: ∀s:Int,0≤s→s<w.owner.length→3≤CV w s): ∀(sl:List Int) {u u':Nat×Nat},(∀s∈sl,0≤s∧s<w.owner.length)→IM w BC can sl u=some u'→u'.2.testBit 0=u.2.testBit 0
 | [],u,u',_,h=>by cases h;rfl
 | s ::r,u,u',hsl,h=>by
   have hs:=hsl s (.head _);have ho:=how s hs.1 hs.2;rw[IM,V9]at h;split at h
   ·cases h
   ·rw[Option.bind_some]at h
    rw[PD how r (fun x hx=>hsl x (.tail _ hx)) h];simp only;split
    ·rfl
    ·rw[GO]
     have:(0==(CV w s).toNat)=false:=by rw[beq_eq_false_iff_ne];omega
     rw[this,Bool.or_false]
def gR {w:AK} {ls:List Fact} {a:Int} {p:List Int} {can BC:Int→Bool} (ho:ordered w.parents) (how: ∀s:Int,0≤s→s<w.owner.length→3≤CV w s∧CV w s<3+w.parents.length) (hc:Ik (3+w.parents.length) ls) (hp:Ho w.owner.length ls) (hn: ∀s,BC s= !ER ls a (p++[s])) :
    (Mz w (kn ls a p) BC can).2=(Jq w ls a p can).isSome:=by
 have hcore:=NN ls a p;have hsl:=K5 hp a p;generalize kn ls a p=k at *;have hc2:Ik (3+w.parents.length) (ls.filter (Gs a p)):=fun l hl=>hc l (JZ.1 hl).1
 simp only[FK,Prod.mk.injEq]at hcore;obtain⟨-,-,-,c4,c5,c6⟩:=hcore;rw[Mz,Jq,c4,c5,c6,←cb hc2,hsl]
 have hR0:RB (3+w.parents.length) (tO w) (k0.CE,k0.Ga):=by
  refine⟨by simp[tO],by simp[tO],fun b=>?_,fun b _ _=>?_,rfl,rfl⟩<;>
  ·simp only[tO,k0,Nat.zero_testBit,DK,List.getElem?_replicate]
   split<;>rfl
 obtain⟨f1,f2⟩:=Qj _ hR0 hc2;cases hbad:(ls.filter (Gs a p)).any fun l=>RL (A2 l)with
 | true=>rw[f1 hbad];rfl
 | false=>
   obtain⟨t,ht,G⟩:=f2 hbad;rw[ht,Option.bind_some,Bool.false_or];have hin: ∀s∈Bs w.owner.length ls a p,0≤s∧s<(w.owner.length:Int):=fun s hs=>JM hs
   rcases W6 (can:=can) hn (fun s h0 h1=>by have:=how s h0 h1;omega) (Bs w.owner.length ls a p) hin G with⟨e1,e2⟩|⟨t',u',e1,e2,hR'⟩
   ·rw[e1,e2]
    split<;>rfl
   ·rw[e1,e2,Option.bind_some,j7 ho hR']
    have:=PD (fun s h0 h1=>(how s h0 h1).1) _ hin e2;rw[this];simp only;cases((Ex (ls.filter (Gs a p)) k0).Ga.testBit 0)<;>rfl
end Go.Gl
namespace Go.Gl
abbrev Ek (a:Int) (p:List Int):V:= .a [eI a,eI (p.length:Int),eI (p.getD 0 0),eI (p.getD 1 0)]
structure DA where
 a:Int
 p:List Int
 b:Nat
 vn:V
 vs:V
 k:Kn
abbrev DA.is (e:DA) (a:Int) (p:List Int):Bool:=e.a==a&&e.p==p
abbrev vj (b:Nat) (vn vs:V) (k:Kn):At:= .box b [eI k.low,eI k.high,vn,eU k.CE,eU k.Ga,.b k.whole,.b k.BC,vs]
abbrev iZ (b:Nat) (vn vs:V) (k:Kn):List At:=[vj b vn vs k,.own vn 1 (iL k.no),.own vs 1 (iL k.AT)]
abbrev Su (e:DA):List At:=iZ e.b e.vn e.vs e.k
def US (es:List DA):List (V×V):=es.map fun e=>(Ek e.a e.p,.p e.b 0)
def CJ (L:Nat) (es:List DA):List At:= .map L (US es)::es.flatMap Su
def HI (L:Nat) (es pre post:List DA):List At:= .map L (US es)::(pre++post).flatMap Su
def Jz {e:DA} {a:Int} {p:List Int}:e.is a p=true↔e.a=a∧e.p=p:=by simp[DA.is]
def NO {e:DA} {a:Int} {p:List Int}:e.is a p=false↔ ¬(e.a=a∧e.p=p):=by rw[←Jz,Bool.not_eq_true]
def RT {a a':Int} {p p':List Int} (h:p.length≤2) (h':p'.length≤2):EP (Ek a p) (Ek a' p')=(a==a'&&p==p'):=by
 have e:EP (Ek a p) (Ek a' p')=(a==a'&&((p.length:Int)==p'.length&&(p.getD 0 0==p'.getD 0 0&&(p.getD 1 0==p'.getD 1 0)))):=by
  simp[EP,CQ,Ek]
 rw[e];congr 1
 match p,h,p',h' with
 | [],_,[],_=>rfl
 | [],_,[_],_=>simp
 | [],_,[_,_],_=>simp<;>omega
 | [_],_,[],_=>simp
 | [x],_,[y],_=>simp
 | [_],_,[_,_],_=>simp<;>omega
 | [_,_],_,[],_=>simp<;>omega
 | [_,_],_,[_],_=>simp<;>omega
 | [x,y],_,[z,u],_=>simp
def OF (es:List DA): ∀kv∈US es,Bt (.a [.i64,.i64,.i64,.i64]) kv.1=true:=by
 intro kv h;obtain⟨e,_,rfl⟩:=Lf.1 h;rfl
def TS {a:Int} {p:List Int} (hp:p.length≤2): ∀ {es:List DA},(∀e∈es,e.p.length≤2)→(∀e∈es,e.is a p=false)→DH (Ek a p) (US es)=none
 | [],_,_=>rfl
 | e ::r,hl,h=>by
   have he:=h e (.head _);rw[US,FC,DH,RT hp (hl e (.head _))]
   have:(a==e.a&&p==e.p)=false:=by
    rw[←he,DA.is,Le];simp only[BZ,Dn];exact⟨fun⟨h1,h2⟩=>⟨h1.symm,h2.symm⟩,fun⟨h1,h2⟩=>⟨h1.symm,h2.symm⟩⟩
   rw[this,cond_false];exact TS hp (fun x hx=>hl x (.tail _ hx)) (fun x hx=>h x (.tail _ hx))
def Zt {a:Int} {p:List Int} (hp:p.length≤2) (b:Nat) (vn vs:V) (k:Kn): ∀ {es:List DA},(∀e∈es,e.p.length≤2)→(∀e∈es,e.is a p=false)→EN (Ek a p) (.p b 0) (US es)=US (es++[⟨a,p,b,vn,vs,k⟩])
 | [],_,_=>rfl
 | e ::r,hl,h=>by
   have he:=h e (.head _);have ih:=Zt hp b vn vs k (fun x hx=>hl x (.tail _ hx)) (fun x hx=>h x (.tail _ hx));simp only[US]at ih;rw[US,FC,EN,RT hp (hl e (.head _))]
   have:(a==e.a&&p==e.p)=false:=by
    rw[←he,DA.is,Le];simp only[BZ,Dn];exact⟨fun⟨h1,h2⟩=>⟨h1.symm,h2.symm⟩,fun⟨h1,h2⟩=>⟨h1.symm,h2.symm⟩⟩
   rw[this,cond_false,ih];rfl
def TR {a:Int} {p:List Int} (hp:p.length≤2) {e:DA} (he:e.is a p=true) {post:List DA}: ∀ {pre:List DA},(∀x∈pre++e::post,x.p.length≤2)→(∀x∈pre,x.is a p=false)→DH (Ek a p) (US (pre++e::post))=some (.p e.b 0)
 | [],hl,_=>by
   rw[List.nil_append,US,FC,DH,RT hp (hl e (.head _))];obtain⟨h1,h2⟩:=Jz.1 he;rw[h1,h2];simp
 | x ::r,hl,h=>by
   have hx:=h x (.head _);rw[List.cons_append,US,FC,DH,RT hp (hl x (.head _))]
   have:(a==x.a&&p==x.p)=false:=by
    rw[←hx,DA.is,Le];simp only[BZ,Dn];exact⟨fun⟨h1,h2⟩=>⟨h1.symm,h2.symm⟩,fun⟨h1,h2⟩=>⟨h1.symm,h2.symm⟩⟩
   rw[this,cond_false];exact TR hp he (fun y hy=>hl y (.tail _ hy)) (fun y hy=>h y (.tail _ hy))
def gM (a : Int) (p:List Int): ∀(es:List DA),(∀e∈es,e.is a p=false)∨ ∃pre e post,es=pre++e::post∧e.is a p=true∧ ∀x∈pre,x.is a p=false
 | []=> .inl fun _ h=>by cases h
 | e ::r=>by
   cases h:e.is a p with
   | true=>exact .inr ⟨[],e,r,rfl,h,fun _ h=>by cases h⟩
   | false=>
     rcases gM a p r with h1|⟨pre,x,post,rfl,h1,h2⟩
     ·exact .inl fun x hx=>by
       rcases GB.1 hx with rfl|hx
       ·exact h
       ·exact h1 x hx
     ·exact .inr ⟨e::pre,x,post,rfl,h1,fun y hy=>by
       rcases GB.1 hy with rfl|hy
       ·exact h
       ·exact h2 y hy⟩
def TY (L:Nat) (pre post:List DA) (e:DA):(CJ L (pre++e::post)).Perm (Su e++HI L (pre++e::post) pre post):=by
 unfold CJ HI;rw[List.flatMap_append,List.flatMap_cons,List.flatMap_append];refine List.Perm.trans ?_ (List.perm_middle.symm);refine List.Perm.cons _ ?_;rw[←SS,←SS];exact List.Perm.append_right _ Po
def VP {pre post:List DA} {e e':DA} (h1:e'.a=e.a) (h2:e'.p=e.p) (h3:e'.b=e.b):US (pre++e'::post)=US (pre++e::post):=by
 simp only[US,SN,FC,h1,h2,h3]
def R8 {L:Nat} {pre post:List DA} {e e':DA} (h1:e'.a=e.a) (h2:e'.p=e.p) (h3:e'.b=e.b):HI L (pre++e'::post) pre post=HI L (pre++e::post) pre post:=by
 rw[HI,HI,VP h1 h2 h3]
structure D5 (kf:Int→List Int→Kn) (es:List DA):Prop where
 val: ∀e∈es,e.k=kf e.a e.p
 Y5: ∀a p,(∀e∈es,e.is a p=false)→kf a p=k0
 one:es.Pairwise fun e e'=>e.is e'.a e'.p=false
 len: ∀e∈es,e.p.length≤2
def P6 (es:List DA):Prop:= ∀e∈es,∀s∈e.k.AT,∃e'∈es,e'.is e.a (e.p++[s])=true
def D5.congr {kf kf':Int→List Int→Kn} {es:List DA} (h:D5 kf es) (e: ∀a p,kf a p=kf' a p):D5 kf' es:=
 ⟨fun x hx=>(h.val x hx).trans (e _ _),fun a p hp=>(e a p).symm.trans (h.Y5 a p hp),h.one,h.len⟩
def D5.add {kf:Int→List Int→Kn} {es:List DA} (h:D5 kf es) {a:Int} {p:List Int} (hp:p.length≤2) (hn: ∀e∈es,e.is a p=false) (b:Nat) (vn vs:V):D5 kf (es++[⟨a,p,b,vn,vs,k0⟩]):=by
 refine⟨fun x hx=>?_,fun a' p' h'=>h.Y5 a' p' fun x hx=>h' x (PU _ hx),?_,fun x hx=>?_⟩
 ·rcases Fo.1 hx with hx|hx
  ·exact h.val x hx
  ·rw[KM.1 hx];exact(h.Y5 a p hn).symm
 ·rw[List.pairwise_append]
  exact⟨h.one,List.pairwise_singleton _ _,fun x hx y hy=>by rw[KM.1 hy];exact hn x hx⟩
 ·rcases Fo.1 hx with hx|hx
  ·exact h.len x hx
  ·rw[KM.1 hx];exact hp
def P6.add {es:List DA} (h:P6 es) {a:Int} {p:List Int} (b:Nat) (vn vs:V):P6 (es++[⟨a,p,b,vn,vs,k0⟩]):=by
 intro e he s hs;rcases Fo.1 he with he|he
 ·obtain⟨e',h1,h2⟩:=h e he s hs
  exact⟨e',PU _ h1,h2⟩
 ·rw[KM.1 he]at hs
  cases hs
def SX (kf:Int→List Int→Kn) (a:Int) (p:List Int) (k:Kn):Int→List Int→Kn:=fun a' p'=>if a'=a∧p'=p then k else kf a' p'
def D5.change {kf:Int→List Int→Kn} {pre post:List DA} {e:DA} (h:D5 kf (pre++e::post)) (b:Nat) (vn vs:V) (k:Kn):D5 (SX kf e.a e.p k) (pre++⟨e.a,e.p,b,vn,vs,k⟩::post):=by
 have h1:=h.one;rw[List.pairwise_append,List.pairwise_cons]at h1;obtain⟨o1,⟨o2,o3⟩,o4⟩:=h1;refine⟨fun x hx=>?_,fun a p hp=>?_,?_,fun x hx=>?_⟩
 ·rw [SX]
  rcases Fo.1 hx with hx|hx
  ·rw[if_neg]
   ·exact h.val x (PU _ hx)
   ·have:=o4 x hx e (.head _)
    rw[NO]at this;exact this
  ·rcases GB.1 hx with rfl|hx
   ·rw[if_pos ⟨rfl,rfl⟩]
   ·rw[if_neg]
    ·exact h.val x (NW _ (.tail _ hx))
    ·have:=o2 x hx
     rw[NO]at this;exact fun⟨q1,q2⟩=>this ⟨q1.symm,q2.symm⟩
 ·have he:=NO.1 (hp _ (NW _ (.head _)))
  rw[SX,if_neg (fun⟨q1,q2⟩=>he ⟨q1.symm,q2.symm⟩)];refine h.Y5 a p fun x hx=>?_
  rcases Fo.1 hx with hx|hx
  ·exact hp x (PU _ hx)
  ·rcases GB.1 hx with rfl|hx
   ·exact NO.2 he
   ·exact hp x (NW _ (.tail _ hx))
 ·rw[List.pairwise_append,List.pairwise_cons]
  refine⟨o1,⟨o2,o3⟩,fun x hx y hy=>?_⟩;rcases GB.1 hy with rfl|hy
  ·exact o4 x hx e (.head _)
  ·exact o4 x hx y (.tail _ hy)
 ·rcases Fo.1 hx with hx|hx
  ·exact h.len x (PU _ hx)
  ·rcases GB.1 hx with rfl|hx
   ·exact h.len e (NW _ (.head _))
   ·exact h.len x (NW _ (.tail _ hx))
def P6.change {pre post:List DA} {e:DA} (h:P6 (pre++e::post)) (b:Nat) (vn vs:V) (k:Kn) (hs: ∀s∈k.AT,s∈e.k.AT∨ ∃e'∈pre++e::post,e'.is e.a (e.p++[s])=true):P6 (pre++⟨e.a,e.p,b,vn,vs,k⟩::post):=by
 have mov: ∀ {a p},(∃e'∈pre++e::post,e'.is a p=true)→ ∃e'∈pre++(⟨e.a,e.p,b,vn,vs,k⟩:DA)::post,e'.is a p=true:=by
  rintro a p ⟨x,hx,h'⟩;rcases Fo.1 hx with hx|hx
  ·exact⟨x,PU _ hx,h'⟩
  ·rcases GB.1 hx with rfl|hx
   ·exact⟨_,NW _ (.head _),h'⟩
   ·exact⟨x,NW _ (.tail _ hx),h'⟩
 intro x hx s hxs;rcases Fo.1 hx with hx|hx
 ·exact mov (h x (PU _ hx) s hxs)
 ·rcases GB.1 hx with rfl|hx
  ·rcases hs s hxs with h'|h'
   ·exact mov (h e (NW _ (.head _)) s h')
   ·exact mov h'
  ·exact mov (h x (NW _ (.tail _ hx)) s hxs)
def Dj (f:Fact) (c:Bool) (j:Nat) (a:Int) (p:List Int) (k:Kn):Kn:=
 if f.arg=a∧Bx f.path p=true then(if p.length<j then dA (Ds k c) (f.path.getD p.length 0)else if p.length=j then Ds k c else k)else k
def Mu {path p:List Int}:Bx path p=true↔p.length≤path.length∧p=path.take p.length:=by
 rw[Ce];constructor
 ·rintro⟨t,rfl⟩
  exact⟨by simp,by simp⟩
 ·rintro⟨h1,h2⟩
  exact⟨path.drop p.length,by conv=>rhs;rw[h2,LZ,Nat.min_eq_left h1,List.take_append_drop]⟩
def eZ (f:Fact) (c:Bool) (a:Int) (p:List Int) (k:Kn):Dj f c 0 a p k=if a=f.arg∧p= []then Ds k c else k:=by
 unfold Dj;by_cases h:f.arg=a∧Bx f.path p=true
 ·rw[if_pos h,if_neg (by omega)]
  by_cases hp:p.length=0
  ·rw[if_pos hp,if_pos ⟨h.1.symm,cz.1 hp⟩]
  ·rw[if_neg hp,if_neg (fun h'=>hp (by rw[h'.2];rfl))]
 ·rw[if_neg h,if_neg]
  rintro⟨rfl,rfl⟩;exact h ⟨rfl,Ce.2 ⟨f.path,by simp⟩⟩
def ec (f:Fact) (c:Bool) {j:Nat} (hj:j<f.path.length) (a:Int) (p:List Int) (k:Kn):Dj f c (j+1) a p k=if a=f.arg∧p=f.path.take (j+1)then Ds (Dj f c j a p k) c else if a=f.arg∧p=f.path.take j then dA (Dj f c j a p k) (f.path.getD j 0)else Dj f c j a p k:=by
 unfold Dj;by_cases h:f.arg=a∧Bx f.path p=true
 ·rw [if_pos h,if_pos h]
  obtain⟨h1,h2⟩:=h;rw[Mu]at h2;obtain⟨h2,h3⟩:=h2;have l1:p=f.path.take (j+1)↔p.length=j+1:=⟨fun e=>by rw[e,LZ];omega,fun e=>by rw[e]at h3;exact h3⟩
  have l2:p=f.path.take j↔p.length=j:=⟨fun e=>by rw[e,LZ];omega,fun e=>by rw[e]at h3;exact h3⟩
  have n1:p.length≠j+1→ ¬(a=f.arg∧p=f.path.take (j+1)):=fun h h'=>h (l1.1 h'.2)
  have n2:p.length≠j→ ¬(a=f.arg∧p=f.path.take j):=fun h h'=>h (l2.1 h'.2)
  by_cases q1:p.length<j
  ·rw[if_pos (show p.length<j+1 by omega),if_neg (n1 (by omega)),if_neg (n2 (by omega)),if_pos q1]
  ·by_cases q2:p.length=j
   ·rw[if_pos (show p.length<j+1 by omega),if_neg (n1 (by omega)),if_pos (show a=f.arg∧p=f.path.take j from⟨h1.symm,l2.2 q2⟩),if_neg q1,if_pos q2,q2]
   ·by_cases q3:p.length=j+1
    ·rw[if_neg (show¬p.length<j+1 by omega),if_pos q3,if_pos (show a=f.arg∧p=f.path.take (j+1) from⟨h1.symm,l1.2 q3⟩),if_neg q1,if_neg q2]
    ·rw[if_neg (show¬p.length<j+1 by omega),if_neg q3,if_neg (n1 q3),if_neg (n2 q2),if_neg q1,if_neg q2]
 ·rw[if_neg h,if_neg h,if_neg,if_neg]
  ·rintro⟨rfl,rfl⟩
   exact h ⟨rfl,Ce.2 ⟨f.path.drop j,by rw[List.take_append_drop]⟩⟩
  ·rintro⟨rfl,rfl⟩
   exact h ⟨rfl,Ce.2 ⟨f.path.drop (j+1),by rw[List.take_append_drop]⟩⟩
def jq (a : Int) (p:List Int) (k:Kn) (l:Fact):DL a p k l=if a=(A2 l).1.arg∧p=(A2 l).1.path then Cu (Dj (A2 l).1 (A2 l).2 (A2 l).1.path.length a p k) (A2 l).1 (A2 l).2 else Dj (A2 l).1 (A2 l).2 (A2 l).1.path.length a p k:=by
 unfold DL Dj;by_cases h:(A2 l).1.arg=a∧Bx (A2 l).1.path p=true
 ·rw [if_pos h,if_pos h]
  obtain⟨h1,h2⟩:=h;rw[Mu]at h2;obtain⟨h2,h3⟩:=h2;by_cases hp:(A2 l).1.path=p
  ·rw[if_pos hp,if_pos ⟨h1.symm,hp.symm⟩,if_neg (by rw[hp];omega),if_pos (by rw[hp])]
  ·have hne:p.length<(A2 l).1.path.length:=by
    rcases Nat.lt_or_ge p.length (A2 l).1.path.length with h'|h'
    ·exact h'
    ·rw[List.take_of_length_le h']at h3
     exact absurd h3.symm hp
   rw[if_neg hp,if_neg (fun h=>hp h.2.symm),if_pos hne]
 ·rw[if_neg h,if_neg h,if_neg]
  rintro⟨rfl,rfl⟩;exact h ⟨rfl,Mv _⟩
def eg (ls:List Fact) (l:Fact) (a:Int) (p:List Int):kn (ls++[l]) a p=DL a p (kn ls a p) l:=by
 rw[kn,List.foldl_append];rfl
def Q2 (l:List Int) (s:Int):(Iy l s).length≤l.length+1:=by
 unfold Iy;split
 ·omega
 ·rw[List.length_mergeSort];simp
def Vy (k:Kn) (f:Fact) (b:Bool):(Cu k f b).no.length≤k.no.length+1:=by
 unfold Cu
 repeat' split
 all_goals simp
def Zv (a:Int) (p:List Int): ∀(ls:List Fact) (k:Kn),(ls.foldl (DL a p) k).no.length≤k.no.length+ls.length∧(ls.foldl (DL a p) k).AT.length≤k.AT.length+ls.length
 | [],k=>⟨JU _,JU _⟩
 | l ::r,k=>by
   obtain⟨h1,h2⟩:=Zv a p r (DL a p k l)
   have h3:(DL a p k l).no.length≤k.no.length+1∧(DL a p k l).AT.length≤k.AT.length+1:=by
    unfold DL
    repeat' split
    ·have:=Vy (Ds k (A2 l).2) (A2 l).1 (A2 l).2
     rw[Qv];simp only[Ds]at this ⊢;omega
    ·have:=Q2 k.AT ((A2 l).1.path.getD p.length 0)
     simp only[dA,Ds]at this ⊢;omega
    ·omega
   rw[List.foldl_cons,La];omega
def ei {n:Nat} {ls:List Fact} (h:Ik n ls) (a:Int) (p:List Int):(kn ls a p).CE<2 ^ n∧(kn ls a p).Ga<2 ^ n:=by
 have hc:=NN ls a p;simp only[FK,Prod.mk.injEq]at hc;have hc2:Ik n (ls.filter (Gs a p)):=fun l hl=>h l (JZ.1 hl).1
 rw[hc.2.2.2.1,hc.2.2.2.2.1];exact⟨Rl hc2,jO hc2⟩
end Go.Gl
namespace Go.Gl
def IW (no:List Int):Nat→Int→Int
 | 0,n=>n
 | k+1,n=>if no.contains n then IW no k (n+1)else n
def from_ (no:List Int) (n:Int):Nat:=(no.filter fun x=>decide (n≤x)).length
def Rx {no:List Int} {n:Int} (h:n∈no):from_ no (n+1)<from_ no n:=by
 induction no with
 | nil=>cases h
 | cons x r ih=>
   simp only[from_,List.filter_cons]at ih ⊢;by_cases hx:x=n
   ·subst hx
    have hle:(r.filter fun y=>decide (x+1≤y)).length≤(r.filter fun y=>decide (x≤y)).length:=by
     refine List.Sublist.length_le ?_
     have e:(r.filter fun y=>decide (x+1≤y))=(r.filter fun y=>decide (x≤y)).filter fun y=>decide (x+1≤y):=by
      rw[List.filter_filter];refine List.filter_congr fun y _=>?_
      rw[Le,BZ,CY,CY];omega
     rw[e];exact List.filter_sublist
    rw[if_neg (by simp<;>omega),if_pos (by simp),La];omega
   ·have h':n∈r:=by
     rcases GB.1 h with e|e
     ·exact absurd e.symm hx
     ·exact e
    have:=ih h';by_cases h1:n≤x
    ·rw[if_pos (by rw[CY];omega),if_pos (by rw[CY];omega),La,La]
     omega
    ·rw[if_neg (by rw[CY];omega),if_neg (by rw[CY];omega)]
     omega
def W4 (no:List Int) (n:Int):from_ no n≤no.length:=KN _ _
def LJ {no:List Int}: ∀(k:Nat) (n:Int),from_ no n≤k→n≤IW no k n∧IW no k n∉no∧ ∀j,n≤j→j<IW no k n→j∈no
 | 0,n,h=>by
   refine⟨Int.le_refl _,fun hm=>?_,fun j h1 h2=>by simp only[IW]at h2;omega⟩;have:=Rx hm;simp only[IW]at this;omega
 | k + 1,n,h=>by
   rw[IW];split
   ·rename_i hc
    rw[List.contains_iff_mem]at hc;have hlt:=Rx hc;obtain⟨h1,h2,h3⟩:=LJ (no:=no) k (n+1) (by omega);refine⟨by omega,h2,fun j hj1 hj2=>?_⟩;by_cases e:j=n
    ·subst e;exact hc
    ·exact h3 j (by omega) hj2
   ·rename_i hc
    exact⟨Int.le_refl _,fun hm=>hc (List.contains_iff_mem.2 hm),fun j h1 h2=>by omega⟩
def oZ {no:List Int} {k:Nat} {n:Int} (h:n∈no):IW no (k+1) n=IW no k (n+1):=by rw[IW,if_pos (List.contains_iff_mem.2 h)]
def ft {no:List Int} {k:Nat} {n:Int} (h:n∉no):IW no k n=n:=by
 cases k with
 | zero=>rfl
 | succ k=>rw[IW,if_neg (fun hc=>h (List.contains_iff_mem.1 hc))]
def XO {no:List Int} {k k':Nat} {n:Int} (h:from_ no n≤k) (h':from_ no n≤k'):IW no k n=IW no k' n:=by
 obtain⟨a1,a2,a3⟩:=LJ k n h;obtain⟨b1,b2,b3⟩:=LJ k' n h';rcases Int.lt_trichotomy (IW no k n) (IW no k' n)with hl|he|hg
 ·exact absurd (b3 _ a1 hl) a2
 ·exact he
 ·exact absurd (a3 _ b1 hg) b2
def Jy (k:Kn):Int:=IW k.no k.no.length k.low
def Nq (kf:Int→List Int→Kn) (a:Int) (p:List Int):Bool:=(kf a p).AT.all fun s=> !(kf a (p++[s])).BC
def Hn (kf:Int→List Int→Kn) (a:Int) (p:List Int) (c:Nat):Bool:=PV (kf a p).CE (1|||2 ^ c)&&((kf a p).Ga&&&(1|||2 ^ c)==0&&Nq kf a p)
def RI (kf:Int→List Int→Kn) (a:Int) (p:List Int):Bool:=decide (Jy (kf a p)≤(kf a p).high)&&Hn kf a p 1
def Ka (kf:Int→List Int→Kn) (a:Int) (p:List Int):Bool:= !(kf a p).whole&&Hn kf a p 2
def M4 (w:AK) (kf:Int→List Int→Kn) (a:Int):Nat→List Int→Bool
 | 0,p=>RI kf a p||(Ka kf a p||(Mz w (kf a p) (fun s=>(kf a (p++[s])).BC) (fun _=>false)).2)
 | d+1,p=>RI kf a p||(Ka kf a p||(Mz w (kf a p) (fun s=>(kf a (p++[s])).BC) (fun s=>M4 w kf a d (p++[s]))).2)
def ZC (w:AK) (kf:Int→List Int→Kn):Bool:=(Bg 3).all fun a=>M4 w kf a 2 []
def XB {n:Nat} {ls:List Fact} (h:Ho n ls) (a:Int) (p:List Int):Nq (kn ls) a p=FJ n ls a p:=by
 rw[Nq,FJ,K5 h];congr 1;funext s;rw[MI,Bool.not_not]
def Zw {n m:Nat} {ls:List Fact} (hn:n≤64) (hc:Ik n ls) (h:Ho m ls) (a:Int) (p:List Int):RI (kn ls) a p=((Ie ls a p).isSome&&FJ m ls a p):=by
 have hcore:=NN ls a p;have hc2:Ik n (ls.filter (Gs a p)):=fun l hl=>hc l (JZ.1 hl).1
 simp only[FK,Prod.mk.injEq]at hcore;obtain⟨c1,c2,c3,c4,c5,-⟩:=hcore;rw[RI,Hn,XB h,c4,c5,←Bool.and_assoc (PV _ _),X3 hn hc2,←Bool.and_assoc];congr 1;have hf:=Qk (ls.filter (Gs a p)) k0;rw[Ie,show t0=(k0.low,k0.high,k0.no) from rfl,hf,Jy,c2,c3,c1];obtain⟨h1,h2,h3⟩:=LJ (no:=(Ex (ls.filter (Gs a p)) k0).no) _ (Ex (ls.filter (Gs a p)) k0).low (W4 _ _);have hs:=bA (high:=(Ex (ls.filter (Gs a p)) k0).high) h1 h2 h3;cases(ls.filter (Gs a p)).all fun l=>iE (A2 l)with
 | false=>simp
 | true=>rw[if_pos rfl,Option.bind_some,hs,Bool.and_true]
def Wk {n m:Nat} {ls:List Fact} (hn:n≤64) (hc:Ik n ls) (h:Ho m ls) (a:Int) (p:List Int):Ka (kn ls) a p=HL m ls a p:=by
 have hcore:=NN ls a p;have hc2:Ik n (ls.filter (Gs a p)):=fun l hl=>hc l (JZ.1 hl).1
 simp only[FK,Prod.mk.injEq]at hcore;obtain⟨-,-,-,c4,c5,c6⟩:=hcore;rw[Ka,Hn,XB h,c4,c5,c6,HL,←VJ hn hc2];simp only[Bool.and_assoc]
def aI {w:AK} {ls:List Fact} (ho:ordered w.parents) (how: ∀s:Int,0≤s→s<w.owner.length→3≤CV w s∧CV w s<3+w.parents.length) (hn:3+w.parents.length≤64) (hc:Ik (3+w.parents.length) ls) (hp:Ho w.owner.length ls) (a:Int): ∀(d:Nat) (p:List Int),M4 w (kn ls) a d p=KY w ls a d p
 | 0,p=>by
   rw[M4,KY,Zw hn hc hp,Wk hn hc hp,gR ho how hc hp fun s=>MI ls a (p++[s])]
 | d+1,p=>by
   rw[M4,KY,Zw hn hc hp,Wk hn hc hp,gR ho how hc hp fun s=>MI ls a (p++[s])];have e:(fun s=>M4 w (kn ls) a d (p++[s]))=fun s=>KY w ls a d (p++[s]):=funext fun s=>aI ho how hn hc hp a d (p++[s])
   rw[e]
def il {w:AK} {ls:List Fact} (ho:ordered w.parents) (how: ∀s:Int,0≤s→s<w.owner.length→3≤CV w s∧CV w s<3+w.parents.length) (hn:3+w.parents.length≤64) (hc:Ik (3+w.parents.length) ls) (hp:Ho w.owner.length ls):ZC w (kn ls)=Gv w ls:=by
 rw[ZC,Gv];congr 1;funext a;exact aI ho how hn hc hp a 2 []
end Go.Gl
namespace Go.Gl
open Go.Proofs
attribute [local irreducible] BL A5 Aj AW AN Ai AV AX AO Ah AS AU BA BK Sat Ad BH Al W
section
variable {S:Type} (g:FuncId) (fi ca:List V) (H:S→List At) (f:Int→Bool) (J:S→Prop) (D:Int→Prop)
def Pm {v:V} {xs:List Int} (hst:Me Tryz.prog (.f (.func g) fi ca) eI (fun s=> .own v 1 (iL xs)::H s) f J D) (hD: ∀x∈xs,D x) (hxl:xs.length≤Ac) (s0:S) (hj0:J s0) :
    Bj Tryz.prog 103 [v,.f (.func g) fi ca] (.own v 1 (iL xs)::H s0) fun r post=>r= .ret (eI (Mb f xs 0))∧ ∃s',J s'∧post= .own v 1 (iL xs)::H s':=by
 intro σ hs;have hM:=Mx;refine aG kZ ?_
 conv=>whnf
 repeat'((first|apply st|(apply sq;intro K U)|(apply si;intro A B Y Z)|(apply Y;clear Z B Y A)|(apply U;clear U K)|refine lo ?_|fail)<;>conv=>whnf)
 refine B4 xs.length (fun k (_:S)=>[(8,eI (A3 k))]) (fun _ s=> .own v 1 (iL xs)::H s) (fun k s=>J s∧Mb f xs 0=Mb f (xs.drop k) k) s0 rfl ⟨hj0,rfl⟩ hs ?_;clear hs hj0;rintro k s σ hk ⟨hj,hn⟩ hs;have hck:A3 k=k:=AL (by omega);rcases BE xs hk with⟨y,hy,hlt⟩|hke
 ·rw[drop_cons hy]at hn
  have hDy:=hD y (B1 hy);rw[Mb]at hn
  conv=>whnf
  repeat'((first|apply st|(apply sq;intro K U)|(apply si;intro A B Y Z)|(apply Y;clear Z B Y A)|(apply U;clear U K)|refine⟨rfl,?_⟩|refine oi ?_|refine ol fun x hx=>?_|(refine CA (fun hc=>?_)<;>(try rw[hc])<;>clear hc)|fail)<;>conv=>whnf)
  obtain rfl:x=y:=by rw[hck,IT,hy]at hx;exact(Option.some.inj hx).symm
  refine hst.use hDy hj hs ?_;clear hs hj;intro s σ hj hs;cases hyes:f x
  ·rw[hyes,if_neg (by decide)]at hn
   conv=>whnf
   repeat'((first|apply st|(apply si;intro A B Y Z)|(apply Y;clear Z B Y A)|(apply U;clear U K)|refine⟨rfl,?_⟩|clear U K)<;>conv=>whnf)
   exact⟨hlt,_,rfl,⟨hj,hn⟩,hs⟩
  ·rw[hyes,if_pos rfl]at hn
   conv=>whnf
   repeat'((first|apply st|(apply sq;intro K U)|(apply si;intro A B Y Z)|(apply Y;clear Z B Y A)|(apply U;clear U K)|clear U K)<;>conv=>whnf)
   rw[hn];exact AR ⟨_,⟨by rw[hck],s,hj,rfl⟩,hs⟩
 ·rw[Ag hke,Mb]at hn
  conv=>whnf
  repeat'((first|apply st|(apply sq;intro K U)|(apply si;intro A B Y Z)|(apply Y;clear Z B Y A)|(apply U;clear U K)|refine⟨rfl,?_⟩|(refine DU (fun hc=>?_)<;>(try rw[hc])<;>clear hc)|clear U K)<;>conv=>whnf)
  rw[hn];exact AR ⟨_,⟨rfl,s,hj,rfl⟩,hs⟩
def NB {v:V} {xs:List Int} (hst:Me Tryz.prog (.f (.func g) fi ca) eI (fun s=> .own v 1 (iL xs)::H s) f J D) (hD: ∀x∈xs,D x) (hxl:xs.length≤Ac) (s0:S) (hj0:J s0) :
    Bj Tryz.prog 72 [v,.f (.func g) fi ca] (.own v 1 (iL xs)::H s0) fun r post=>r= .ret (.b (xs.any f))∧ ∃s',J s'∧post= .own v 1 (iL xs)::H s':=by
 intro σ hs;refine gg kZ ?_
 conv=>whnf
 repeat'((first|(apply sq;intro K U)|(apply si;intro A B Y Z)|(apply Y;clear Z B Y A)|(apply U;clear U K)|fail)<;>conv=>whnf)
 refine(Pm g fi ca H f J D hst hD hxl s0 hj0).use (rest:=[]) (by simpa using hs) ?_;rintro r post σ ⟨rfl,s',hj,rfl⟩ hs
 conv=>whnf
 repeat'((first|apply st|(apply Y;clear Z B Y A)|(apply U;clear U K)|refine⟨rfl,?_⟩|fail)<;>conv=>whnf)
 exact AR ⟨_,⟨by rw[←Tc f xs 0],s',hj,rfl⟩,by simpa using hs⟩
def eT {v:V} {xs:List Int} (hst:Me Tryz.prog (.f (.func g) fi ca) eI (fun s=> .own v 1 (iL xs)::H s) f J D):Me Tryz.prog (.f (.func 217) [] [.rp [.f (.func g) fi ca]]) eI (fun s=> .own v 1 (iL xs)::H s) (fun y=> !f y) J D:=by
 intro y s hd hj σ hs;refine Bp ?_;show BL Tryz.prog 217 ([]++[eI y]++[.rp [.f (.func g) fi ca]]) σ _;refine Z5 kZ ?_
 conv=>whnf
 repeat'((first|apply st|(apply sq;intro K U)|(apply si;intro A B Y Z)|(apply Y;clear Z B Y A)|(apply U;clear U K)|fail)<;>conv=>whnf)
 refine hst.use hd hj hs ?_;clear hs;intro s' σ hj' hs
 conv=>whnf
 repeat'((first|apply st|(apply Y;clear Z B Y A)|(apply U;clear U K)|fail)<;>conv=>whnf)
 exact AR ⟨rfl,s',hj',hs⟩
def XN {v:V} {xs:List Int} (hst:Me Tryz.prog (.f (.func g) fi ca) eI (fun s=> .own v 1 (iL xs)::H s) f J D) (hD: ∀x∈xs,D x) (hxl:xs.length≤Ac) (s0:S) (hj0:J s0) :
    Bj Tryz.prog 177 [v,.f (.func g) fi ca] (.own v 1 (iL xs)::H s0) fun r post=>r= .ret (.b (xs.all f))∧ ∃s',J s'∧post= .own v 1 (iL xs)::H s':=by
 intro σ hs;refine Z9 kZ ?_
 conv=>whnf
 repeat'((first|(apply sq;intro K U)|(apply si;intro A B Y Z)|(apply Y;clear Z B Y A)|(apply U;clear U K)|fail)<;>conv=>whnf)
 refine(NB 217 [] [.rp [.f (.func g) fi ca]] H _ J D (eT g fi ca H f J D hst) hD hxl s0 hj0).use (rest:=[]) (by simpa using hs) ?_;rintro r post σ ⟨rfl,s',hj,rfl⟩ hs
 conv=>whnf
 repeat'((first|apply st|(apply Y;clear Z B Y A)|(apply U;clear U K)|fail)<;>conv=>whnf)
 refine AR ⟨_,⟨?_,s',hj,rfl⟩,by simpa using hs⟩;rw[List.all_eq_not_any_not]
end
end Go.Gl
