import Derived.Test.YtcfkfhaedllcpaaGreatW14
import Derived.Test.YtcfkfhaedllcpaaGreatW21
import Derived.Test.YtcfkfhaedllcpaaGreatW23
import Derived.Test.YtcfkfhaedllcpaaGreatW24
import Derived.Test.YtcfkfhaedllcpaaGreatW25
import Derived.Test.YtcfkfhaedllcpaaGreatW26
import Derived.Test.YtcfkfhaedllcpaaGreatW29
set_option linter.all false
set_option linter.defProp false
set_option maxHeartbeats 8000000
noncomputable section
namespace Go.Gl
open Go.Proofs
attribute [local irreducible] A3 Aq Af AR AJ Ad AQ AT AK Ac AM AN Ax A5 Sat AX A4 Ah W
def MC {p:Prog} (h:A6 p=true):Dx (AS p)/\Bj p.AH<=40/\p.AH.length<=10:=by
 have h1:=h;rw[Qj]at h1;simp only[BD,CN]at h1;have h2:=h;simp only[A6,BD,CN]at h2;have hm:=(FI _ _ h2.2.1).1;refine⟨⟨iy (Dn h1.2.2.2.1),?_,fun o ho=>?_⟩,by omega,h1.1⟩
 .rw[AS,CU];omega
 .have:=Fv ho
  simp only[AS,Ay,BU];omega
def ju (s:List Int):Prop:= ∀x∈s,(-1:Int)<=x
def mV {s:List Int} (h:ju s) (i:Nat) {x:Int} (hx:0<=x):ju (s.set i x):=fun y hy=>by
 rcases List.mem_or_eq_of_mem_set hy with hy|rfl
 .exact h y hy
 .omega
def Vp {f:Int->Int->List Int->Option (List Int)} (hf: ∀ {a b s s'},0<=b->f a b s=some s'->ju s->ju s') {op size:Int} (h0:0<=size): ∀(i:Nat) (l:List Int) {s s':List Int},FY f op size i l s=some s'->ju s->ju s'
 | _,[],s,s',h,hs=>by cases h;exact hs
 | i,k::r,s,s',h,hs=>by
   simp only[FY]at h;split at h
   .cases h
   .rename_i s1 h1
    refine Vp hf h0 (i+1) r h (hf ?_ h1 hs);split<;>omega
def Lr {p:Prog} {next:Bool}: ∀(d:Nat) {n size:Int} {s s':List Int},0<=size->CI p next d n size s=some s'->ju s->ju s'
 | 0,_,_,_,_,_,h,_=>by cases h
 | d + 1,n,size,s,s',h0,h,hs=>by
   simp only[CI]at h;split at h
   .cases h
   .split at h
    .cases h
    .split at h
     .exact Vp (fun hb h hs=>Lr d hb h hs) h0 0 _ h (mV hs _ h0)
     .cases h
def mW {s:List Int} (h:ju s):(s.all fun n=>decide (0<=n))= !s.contains (-1):=by
 rw[J1];simp only[E3,CN,Bool.not_eq_true',<-Bool.not_eq_true,List.contains_iff_mem];constructor
 .intro h1 h2
  have:=h1 _ h2;omega
 .intro h1 x hx
  have:=h x hx;rcases Int.lt_or_le x 0 with hlt|hle
  .exact absurd ((show x= -1 by omega) ▸ hx) h1
  .exact hle
def vV (p:Prog) (nO:Nat) (r:R) (Z:AE):Prop:=
 match BK p with
 | some s=>r= .ret (.t [])/\ ∃v,Sat Z [.box nO [v],.own v 1 (iL s)]
 | none=>r= .Bb Dk/\ ∃v s,Sat Z [.box nO [v],.own v 1 (iL s)]
def aU {p:Prog} {nO:Nat} {Z:AE} {v:V} {s:List Int} {l:List At} (h:BK p=none) (hs:Sat Z l) (hsub: [At.box nO [v],.own v 1 (iL s)].Sublist l):Af Z Dk (vV p nO):=DE (by
 rw[vV,h]
 exact⟨rfl,v,s,hs.less hsub⟩)
def szT {p:Prog} {nO:Nat} {Z:AE} {v:V} {s:List Int} {l:List At} (h:BK p=some s) (hs:Sat Z l) (hsub: [At.box nO [v],.own v 1 (iL s)].Sublist l):Aq Z (.t []) (vV p nO):=AU (by
 rw[vV,h]
 exact⟨rfl,v,hs.less hsub⟩)
def TS {p:Prog} (h:Cw p=false):BK p=none:=by unfold BK;rw[h];rfl
def nX {w:AI} {f:Fact} (h:C7 w f=true):Ri f=true:=QL (w:=w) f (by simp only[C7,BD]at h;exact h.2.2)
def YJ {w:AI} (hw:Dx w) (f:Fact):Pure zP 204 [.a (A1 w),.a (xF f)] (eI (if C7 w f then 0 else 2)):=by
 rw[<-Zp];exact dS w hw f
def bj {α:Type} (a b c:α): [a,b,c].Perm [c,b,a]:=by simpa using(List.reverse_perm [a,b,c]).symm
def hZ (p : Prog) (nO:Nat) (Z:AE) (hs:Sat Z [.box nO [.l [] true]]):A3 zP 196 [.rp (A9 p),.p nO 0] Z (vV p nO):=by
 refine A3.fit (by kernel_rfl) fun hf=>?_
 have hM:=Mx
 have hfp:E0 (.a (A9 p)):=by
  have:=hf.1;simp only[T9]at this;simpa only[Gy]using this
 have⟨p1,p2,p3,p4⟩:=Fk hfp;refine uQ kZ ?_;have hcl:=Yc p;replace hs:Sat Z [.box nO [.l [] true],.own (.l [] true) 1 (iL [])]:=El hs 1;cases hcB:A6 p with
 | false=>
   rw[hcB]at hcl
   conv=>whnf
   repeat'((first|apply st|(apply sq;intro K U)|(apply si;intro A B hA hB)|refine⟨kZ,?_⟩|fail)<;>conv=>whnf)
   refine hcl.use (pre:=[]) (rest:=[.box nO [.l [] true],.own (.l [] true) 1 (iL [])]) hs ?_;rintro r post Z ⟨rfl,rfl⟩ hs
   conv=>whnf
   repeat'((first|(refine hB _ _ _ ?_;clear hB B hA A)|clear U K)<;>conv=>whnf)
   exact aU (TS (by simp[Cw,hcB])) hs (.refl _)
 | true=>
   rw[hcB]at hcl;obtain⟨hgW,hmS,h10⟩:=MC hcB
   conv=>whnf
   repeat'((first|apply st|(apply sq;intro K U)|(apply si;intro A B hA hB)|refine⟨kZ,?_⟩|fail)<;>conv=>whnf)
   refine hcl.use (pre:=[]) (rest:=[.box nO [.l [] true],.own (.l [] true) 1 (iL [])]) hs ?_;clear hs;rintro r post Z ⟨rfl,rfl⟩ hs
   conv=>whnf
   repeat'((first|apply st|(apply sq;intro K U)|(apply si;intro A B hA hB)|(refine hA _ _ ?_;clear hB B hA A)|(refine hB _ _ _ ?_;clear hB B hA A)|(apply U;clear U K)|refine⟨rfl,?_⟩|(refine Cj (fun hc=>?_) (fun hc=>?_)<;>(replace hc:=bp hc)<;>(try simp(disch:=omega) only[BU,wrap64,AO]at hc)<;>(try(cases hc;done)))|(constructor<;>intro hc<;>(try rw[hc])<;>(replace hc:=bp hc)<;>(try simp(disch:=omega) only[BU,wrap64,AO]at hc))|clear U K)<;>conv=>whnf)
   rotate_left
   all_goals first
    | exact aU (TS (by simp[Cw, *];intros;omega)) hs (.refl _)
    | skip
   have a1:p.Br.length<=8:=by omega
   have a2:p.methods.length<=16:=by omega
   have a3:1<=p.nodes.length:=by omega
   have a4:p.nodes.length<=120:=by omega
   have hg:Cw p=p.Br.all fun g=>decide (1<=g)&&decide (g<=3):=by
    simp only[Cw,a1,a2,a3,a4,decide_true,G7];simp[*]
   refine B0 p.Br.length (fun k (_:Unit)=>[(36,eI (A8 k))]) (fun _ _=>[.box nO [.l [] true],.own (.l [] true) 1 (iL [])]) (fun k _=>Cw p=(p.Br.drop k).all fun g=>decide (1<=g)&&decide (g<=3)) () rfl (by simpa using hg) hs ?_;clear hs hg;rintro k - Z hk hn hs;rcases BC p.Br hk with⟨g,hgk,hlt⟩|hke
   .rw[drop_cons hgk,LC]at hn
    conv=>whnf
    repeat'((first|apply st|(apply sq;intro K U)|(apply si;intro A B hA hB)|(refine hA _ _ ?_;clear hB B hA A)|(refine hB _ _ _ ?_;clear hB B hA A)|(apply U;clear U K)|refine⟨rfl,?_⟩|refine ix ?_|(refine Uc (fun hc=>?_)<;>(try rw[hc])<;>clear hc)|(refine Cj (fun hc=>?_) (fun hc=>?_)<;>(replace hc:=bp hc)<;>(try simp(disch:=omega) only[BU,wrap64,AO]at hc)<;>(try(cases hc;done)))|(constructor<;>intro hc<;>(try rw[hc])<;>(replace hc:=bp hc))|clear U K)<;>conv=>whnf)
    .exact⟨hlt,(),rfl,by rw[hn];simp[*],hs⟩
    .exact aU (TS (by rw[hn,decide_eq_false (show¬g<=3 by omega)];simp)) hs (.refl _)
    .exact aU (TS (by rw[hn,decide_eq_false (show¬1<=g by omega)];simp)) hs (.refl _)
   .have hh : Cw p=true:=by rw[hn,Ao hke];rfl
    have hL:=Za hh;clear hn
    conv=>whnf
    repeat'((first|apply st|(apply sq;intro K U)|(apply si;intro A B hA hB)|(refine hA _ _ ?_;clear hB B hA A)|(apply U;clear U K)|refine⟨rfl,?_⟩|(refine de (fun hc=>?_)<;>(try rw[hc])<;>clear hc)|clear U K)<;>conv=>whnf)
    rw[BU];refine(bV p.nodes.length a3 a4).use (pre:=[]) (rest:=[.box nO [.l [] true],.own (.l [] true) 1 (iL [])]) hs ?_;clear hs;rintro r post Z ⟨v,rfl,rfl,hv⟩ hs
    conv=>whnf
    repeat'((first|apply st|(apply sq;intro K U)|(apply si;intro A B hA hB)|(refine hA _ _ ?_;clear hB B hA A)|(apply U;clear U K)|refine⟨kZ,?_⟩|refine nt fun Z hs=>?_|refine Ug fun Z hs=>?_|refine Pure.use (VK p (by omega) (by omega)) ?_|(intro nn hnn;generalize hg:Bd _ nn _=Z;refine RX hg fun hs=>?_;clear hg)|fail)<;>conv=>whnf)
    rename_i nw hnw _ hs;generalize nn=n5 at *;replace hs:=hs.less (show [At.box n5 (A1 (AS p)),.own v 1 (iL (List.replicate p.nodes.length (-1))),.box nO [v]].Sublist _ from .cons₂ _ (.cons₂ _ (.cons₂ _ (.cons _ .slnil))));refine B0 p.methods.length (fun k (s:List Int)=>[(59,eI (A8 k))]) (fun _ s=>[.box nO [v],.own v 1 (iL s),.box n5 (A1 (AS p))]) (fun k s=>s.length=p.nodes.length/\ju s/\BK p=J5 p (runM p (p.methods.drop k) s)) (List.replicate p.nodes.length (-1)) rfl ⟨by simp,fun x hx=>by rw[List.eq_of_mem_replicate hx];omega,hL⟩ (hs.perm (bj _ _ _)) ?_;clear hs hnw hnn;rintro k s Z hk ⟨hl,hge,hn⟩ hs;rcases BC p.methods hk with⟨m,hm,hlt⟩|hke
    .have hF:=YJ hgW m.fact
     cases hfB:C7 (AS p) m.fact with
     | false=>
       rw[hfB,if_neg Bool.false_ne_true]at hF;have hno:=DO hm hn (by simp[OY,hfB])
       conv=>whnf
       repeat'((first|apply st|(apply sq;intro K U)|(apply si;intro A B hA hB)|(refine hA _ _ ?_;clear hB B hA A)|(refine hB _ _ _ ?_;clear hB B hA A)|(refine hB _ _ fun Z hsub=>?_;clear hB B hA A)|(apply U;clear U K)|apply dr|refine rk ?_ ?_|exact fun s e=>by cases e;rfl|refine⟨rfl,?_⟩|refine⟨kZ,?_⟩|refine ix ?_|refine ld ?_|refine Ug fun Z hs=>?_|(refine Uc (fun hc=>?_)<;>(try rw[hc])<;>clear hc)|(refine Cj (fun hc=>?_) (fun hc=>?_)<;>(replace hc:=bp hc)<;>(try simp(disch:=omega) only[BU,wrap64,AO]at hc)<;>(try(cases hc;done)))|refine hF.use ?_|(constructor<;>intro hc<;>(try rw[hc])<;>(replace hc:=bp hc)<;>try(exfalso;omega))|(intro nn hnn;generalize hg:Bd _ nn _=Z;refine RX hg fun hs=>?_;clear hg)|clear U K)<;>conv=>whnf)
       all_goals first
        | (refine aU (v:=v) (s:=s) hno hs ?_;(repeat first|exact KG _|apply List.Sublist.cons₂|apply List.Sublist.cons);done)
        | (refine aU (v:=v) (s:=s) hno (hs.up (by assumption)) ?_;(repeat first|exact KG _|apply List.Sublist.cons₂|apply List.Sublist.cons);done)
        | skip
     | true=>
       rw[hfB,if_pos rfl]at hF;have hsp:=bQ _ (nX hfB)
       conv=>whnf
       repeat'((first|apply st|(apply sq;intro K U)|(apply si;intro A B hA hB)|(refine hA _ _ ?_;clear hB B hA A)|(refine hB _ _ _ ?_;clear hB B hA A)|(refine hB _ _ fun Z hsub=>?_;clear hB B hA A)|(apply U;clear U K)|apply dr|refine rk ?_ ?_|exact fun s e=>by cases e;rfl|refine⟨rfl,?_⟩|refine⟨kZ,?_⟩|refine ix ?_|refine nz ?_|refine iq fun x hx=>?_|refine ld ?_|refine Ug fun Z hs=>?_|(refine Uc (fun hc=>?_)<;>(try rw[hc])<;>clear hc)|(refine Cj (fun hc=>?_) (fun hc=>?_)<;>(replace hc:=bp hc)<;>(try simp(disch:=omega) only[BU,wrap64,AO]at hc)<;>(try(cases hc;done)))|refine hF.use ?_|refine hsp.use ?_|(constructor<;>intro hc<;>(try rw[hc])<;>(replace hc:=bp hc)<;>(try simp(disch:=omega) only[BU,wrap64,AO]at hc)<;>try(exfalso;omega))|(intro nn hnn;generalize hg:Bd _ nn _=Z;refine RX hg fun hs=>?_;clear hg)|clear U K)<;>conv=>whnf)
       all_goals first
        | (refine aU (v:=v) (s:=s) (DO hm hn ?_) hs ?_;(simp[OY, *];intros;omega);(repeat first|exact KG _|apply List.Sublist.cons₂|apply List.Sublist.cons);done)
        | (refine aU (v:=v) (s:=s) (DO hm hn ?_) (hs.up (by assumption)) ?_;(simp[OY, *];intros;omega);(repeat first|exact KG _|apply List.Sublist.cons₂|apply List.Sublist.cons);done)
        | skip
       rotate_left 2
       .refine aU (v:=v) (s:=s) (DO hm hn ?_) (hs.up (by assumption)) ?_
        .simp only[OY,show p.Br.getD m.gen.toNat 0=x by rw[DH,hx];rfl,decide_eq_false (show¬GC m.fact<=x by omega),Bool.and_false]
        .repeat first|exact KG _|apply List.Sublist.cons₂|apply List.Sublist.cons
       all_goals
        have hx13:=SS hh hx;have hgd:p.Br.getD m.gen.toNat 0=x:=by rw[DH,hx];rfl
        have hok:OY p m=true:=by simp only[OY,hgd,BD,CN];exact⟨by omega,by omega,by omega,by omega,hfB,by assumption⟩
        have hgo:=fun s'=>ZF (s':=s') hm hn hok
        have hno:=R1 hm hn hok;rw[hgd]at hgo hno
       .have hnb:J4 m.kind=(m.kind==4):=by simp[J4, *]
        rw[hnb]at hgo hno;refine By ((UE p (m.kind==4) hv m.node x s (by omega) (by omega) hl [.box n5 (A1 (AS p))] Z (hs.less (.cons _ (.refl _)))).mono ?_);cases hw:CI p (m.kind==4) 12 m.node x s with
        | none=>
          clear hs;rintro r Z' ⟨rfl,s',hl',hs⟩
          conv=>whnf
          repeat'((first|(refine hB _ _ fun Z hsub=>?_;clear hB B hA A)|clear U K)<;>conv=>whnf)
          exact aU (v:=v) (s:=s') (hno hw) (hs.up (by assumption)) (.cons₂ _ (.cons₂ _ (KG _)))
        | some s2=>
          clear hs;rintro r Z' ⟨rfl,hs⟩
          conv=>whnf
          repeat'((first|(apply si;intro A B hA hB)|(refine hA _ _ ?_;clear hB B hA A)|(apply U;clear U K)|apply dr|refine⟨rfl,?_⟩|clear U K)<;>conv=>whnf)
          exact⟨hlt,s2,rfl,⟨(Jk _ hw).trans hl,Lr _ (by omega) hw hge,hgo s2 hw⟩,hs⟩
       .have hnb:J4 m.kind=true:=by simp[J4, *]
        rw[hnb]at hgo hno;refine By ((UE p true hv m.node x s (by omega) (by omega) hl [.box n5 (A1 (AS p))] Z (hs.less (.cons _ (.refl _)))).mono ?_);cases hw:CI p true 12 m.node x s with
        | none=>
          clear hs;rintro r Z' ⟨rfl,s',hl',hs⟩
          conv=>whnf
          repeat'((first|(refine hB _ _ fun Z hsub=>?_;clear hB B hA A)|clear U K)<;>conv=>whnf)
          exact aU (v:=v) (s:=s') (hno hw) (hs.up (by assumption)) (.cons₂ _ (.cons₂ _ (KG _)))
        | some s2=>
          clear hs;rintro r Z' ⟨rfl,hs⟩
          conv=>whnf
          repeat'((first|(apply si;intro A B hA hB)|(refine hA _ _ ?_;clear hB B hA A)|(apply U;clear U K)|apply dr|refine⟨rfl,?_⟩|clear U K)<;>conv=>whnf)
          exact⟨hlt,s2,rfl,⟨(Jk _ hw).trans hl,Lr _ (by omega) hw hge,hgo s2 hw⟩,hs⟩
    .subst hke
     rw[List.drop_length,runM]at hn
     conv=>whnf
     repeat'((first|apply st|(apply sq;intro K U)|(apply si;intro A B hA hB)|(refine hA _ _ ?_;clear hB B hA A)|(apply U;clear U K)|refine⟨rfl,?_⟩|refine⟨kZ,?_⟩|refine ix ?_|refine ld ?_|refine Ug fun Z hs=>?_|(refine fc (fun x hx hlt hc=>?_) (fun hk hc=>?_)<;>(try rw[hc])<;>clear hc)|(constructor<;>intro hc<;>(try rw[hc])<;>(replace hc:=bp hc)<;>try(exfalso;omega))|(intro nn hnn;generalize hg:Bd _ nn _=Z;refine RX hg fun hs=>?_;clear hg)|clear U K)<;>conv=>whnf)
     rw[J5]at hn;refine By ((UE p false hv p.main 0 s (by omega) (by omega) hl [.box n5 (A1 (AS p))] Z hs).mono ?_);cases hw:CI p false 12 p.main 0 s with
     | none=>
       rw[hw]at hn;clear hs;rintro r Z' ⟨rfl,s',hl',hs⟩
       conv=>whnf
       repeat'((first|(refine hB _ _ _ ?_;clear hB B hA A)|clear U K)<;>conv=>whnf)
       exact aU (v:=v) (s:=s') hn hs (.cons₂ _ (.cons₂ _ (KG _)))
     | some s2=>
       rw[hw]at hn;have hge2:=Lr _ (by omega) hw hge;simp only[mW hge2]at hn;clear hs;rintro r Z' ⟨rfl,hs⟩;have hct:=fun f=>Dp s2 f (-1)
       cases hyes:s2.contains (-1)with
       | true=>
         rw[hyes]at hct hn
         conv=>whnf
         repeat'((first|(apply si;intro A B hA hB)|(refine hA _ _ ?_;clear hB B hA A)|(apply U;clear U K)|refine ld ?_|fail)<;>conv=>whnf)
         refine Pure.an (hct false) (.cons (hs.GW 1 rfl) (.cons (.refl _) .nil)) rfl ?_
         conv=>whnf
         repeat'((first|(refine hB _ _ _ ?_;clear hB B hA A)|(refine Cj (fun hc=>?_) (fun hc=>?_)<;>(replace hc:=bp hc)<;>(try simp(disch:=omega) only[BU,wrap64,AO]at hc)<;>(try(cases hc;done)))|fail)<;>conv=>whnf)
         all_goals exact aU (v:=v) (s:=s2) hn (by first|exact hs|exact hs.up (by assumption)) (.cons₂ _ (.cons₂ _ (KG _)))
       | false=>
         rw[hyes]at hct hn
         conv=>whnf
         repeat'((first|(apply si;intro A B hA hB)|(refine hA _ _ ?_;clear hB B hA A)|(apply U;clear U K)|refine ld ?_|fail)<;>conv=>whnf)
         refine Pure.an (hct false) (.cons (hs.GW 1 rfl) (.cons (.refl _) .nil)) rfl ?_
         conv=>whnf
         repeat'((first|(refine hA _ _ ?_;clear hB B hA A)|(refine Cj (fun hc=>?_) (fun hc=>?_)<;>(replace hc:=bp hc)<;>(try simp(disch:=omega) only[BU,wrap64,AO]at hc)<;>(try(cases hc;done)))|fail)<;>conv=>whnf)
         all_goals exact szT (v:=v) hn hs (.cons₂ _ (.cons₂ _ (KG _)))
attribute [local irreducible] Gs
def yG (p:Prog) (nO:Nat) (r:R) (post:List At):Prop:=
 match BK p with
 | some s=>r= .ret (.t [])/\ ∃v,post= [.box nO [v],.own v 1 (iL s)]
 | none=>r= .Bb Dk/\ ∃v s,post= [.box nO [v],.own v 1 (iL s)]
def bS (p:Prog) (nO:Nat):Bc zP 196 [.rp (A9 p),.p nO 0] [.box nO [.l [] true]] (yG p nO):=fun Z hs=>
 A3.mono (hZ p nO Z hs) fun r Z' hq=>by
  unfold vV at hq;unfold yG;cases h:BK p with
  | some s=>
    rw[h]at hq;obtain⟨h1,v,h2⟩:=hq;exact⟨_,⟨h1,v,rfl⟩,h2⟩
  | none=>
    rw[h]at hq;obtain⟨h1,v,s,h2⟩:=hq;exact⟨_,⟨h1,v,s,rfl⟩,h2⟩
def nI {Z:AE} {n:Nat} {x:V} {rest:List At} (hs:Sat Z (.box n [x]::rest)) {Q:AE->Prop} (hq: ∀Z',Sat Z' (.box n [.b false]::rest)->Q Z'):Gs zP 258 [.p n 0] (some Dk) Z Q:=by
 refine Z2 kZ ?_
 conv=>whnf
 repeat'((first|clear U K|apply st|(apply zk;intro K U)|refine zY ?_|refine zs fun Z hs=>?_|refine pS rfl ?_|refine zo fun nn hnn Z hs=>?_|fail)<;>conv=>whnf)
 exact hq _ (hs.less (Mc _ _))
def nJ {Z:AE} {n:Nat} {x:V} {rest:List At} (hs:Sat Z (.box n [x]::rest)) {Q:AE->Prop} (hq: ∀Z',Sat Z' (.box n [x]::rest)->Q Z'):Gs zP 258 [.p n 0] none Z Q:=by
 refine Z2 kZ ?_;refine zz ?_;(repeat clear U K);repeat intro K U
 exact hq _ hs
def cU (p:Prog) (nO:Nat):Bc zP 195 [.f (.func 196) [] [.rp (A9 p),.p nO 0]] [.box nO [.l [] true]] fun r post=>r= .ret (.b (BK p).isSome)/\ ∃v s,post= [.box nO [v],.own v 1 (iL s)]/\(BK p=none\/BK p=some s):=by
 intro Z hs;refine uR kZ ?_
 conv=>whnf
 repeat'((first|clear U K|apply st|(apply zk;intro K U)|refine zo fun nn hnn Z hs=>?_|fail)<;>conv=>whnf)
 refine By ?_;refine(bS p nO).use (rest:=[.box nn [.b false]]) (hs.perm (.swap _ _ _)) ?_;clear hs hnn;rintro r post Z hq hs;unfold yG at hq;cases h:BK p with
 | none=>
   rw[h]at hq;obtain⟨rfl,v,s,rfl⟩:=hq
   conv=>whnf
   repeat'((first|clear U K|apply st|fail)<;>conv=>whnf)
   refine nI (rest:=[.box nO [v],.own v 1 (iL s)]) (hs.perm RP) fun Z hs=>?_
   refine zz ?_;(repeat clear U K);repeat intro K U
   exact AU ⟨_,⟨by rw[h];rfl,v,s,rfl,.inl h⟩,hs.less (Mc _ _)⟩
 | some s=>
   rw[h]at hq;obtain⟨rfl,v,rfl⟩:=hq
   conv=>whnf
   repeat'((first|clear U K|apply st|(apply zk;intro K U)|refine zs fun Z hs=>?_|fail)<;>conv=>whnf)
   replace hs:Sat Z ([.box nO [v],.own v 1 (iL s)]++[.box nn [.b true]]):=hs;refine nJ (x:= .b true) (rest:=[.box nO [v],.own v 1 (iL s)]) (hs.perm RP) fun Z hs=>?_
   refine zz ?_;(repeat clear U K);repeat intro K U
   exact AU ⟨_,⟨by rw[h];rfl,v,s,rfl,.inr h⟩,hs.less (Mc _ _)⟩
def iA (p:Prog):Bc zP 137 [.a (A9 p)] [] fun r post=> ∃v s,r= .ret (.t [v,.b (BK p).isSome])/\post= [.own v 1 (iL s)]/\(BK p=none\/BK p=some s):=by
 intro Z hs;refine uq kZ ?_
 conv=>whnf
 repeat'((first|clear U K|apply st|(apply zk;intro K U)|refine zo fun nn hnn Z hs=>?_|fail)<;>conv=>whnf)
 refine(cU p nn).use (rest:=[]) (by simpa using hs) ?_;clear hs;rintro r post Z ⟨rfl,v,s,rfl,hl⟩ hs;refine zz ?_;(repeat clear U K);repeat intro K U
 exact AU ⟨_,⟨v,s,rfl,rfl,hl⟩,hs.less (.cons _ (.cons₂ _ (KG _)))⟩
def P3 (p:Prog):Pure zP 76 [.a (A9 p)] (eI (if(BK p).isSome then 0 else 2)):=by
 refine Pure.of ?_;have hz:=iA p;cases h:(BK p).isSome<;>rw[h]at hz
 all_goals
  refine xR kZ ?_;have hs:=Sn;refine zz ?_;(repeat clear U K);repeat intro K U
  refine hz.use (rest:=[]) (by simpa using hs) ?_;clear hs;rintro r post Z ⟨v,s,rfl,rfl,-⟩ hs;refine zz ?_;(repeat clear U K);repeat intro K U
  exact AU rfl
def w9 {p:Prog} (h:(BK p).isSome=true):Bj p.AH<=40:=by
 obtain⟨hh,-⟩:=EZ h;simp only[Cw,BD,CN]at hh;exact(MC hh.1).2.1
def gI {p:Prog} (h:(BK p).isSome=true):p.AH.length<=10:=by
 obtain⟨hh,-⟩:=EZ h;simp only[Cw,BD,CN]at hh;exact(MC hh.1).2.2
def xK {p:Prog} (h:(BK p).isSome=true):Dx (AS p):=by
 obtain⟨hh,-⟩:=EZ h;simp only[Cw,BD,CN]at hh;exact(MC hh.1).1
def np (p:Prog):Pure zP 160 [.a (A9 p)] (if(BK p).isSome then .t [.a (A1 (AS p)),eI 0]else .t [.a [.l [] true,.l [] true],eI 2]):=by
 have hz:=P3 p;have hM:=Mx;cases h:(BK p).isSome<;>rw[h]at hz
 .simp only[LG,if_false]at hz ⊢
  refine gB kZ ?_;have hs:=Sn
  conv=>whnf
  repeat'((first|clear U K|apply st|(apply zk;intro K U)|refine zY ?_|refine zs fun Z hs=>?_|refine hz.use ?_|(refine zb (fun hc=>?_) (fun hc=>?_)<;>try exact⟨⟩)|refine zo fun nn hnn Z hs=>?_|fail)<;>conv=>whnf)
  all_goals exact AF rfl
 .simp only[if_true]at hz ⊢
  have hm:=w9 h;have hc10:=gI h;refine gB kZ ?_;have hs:=Sn
  conv=>whnf
  repeat'((first|clear U K|apply st|(apply zk;intro K U)|refine zY ?_|refine zs fun Z hs=>?_|refine hz.use ?_|refine Pure.use (VK p (by omega) (by omega)) ?_|(refine zb (fun hc=>?_) (fun hc=>?_)<;>try exact⟨⟩)|refine zo fun nn hnn Z hs=>?_|fail)<;>conv=>whnf)
  all_goals exact AF rfl
end Go.Gl
namespace Go.Gl
open Go.Proofs
attribute [local irreducible] A3 Aq Af AR AJ Ad AQ AT AK Ac AM AN Ax A5 Sat AX A4 Ah W
abbrev rkC (p:Prog) (L:Nat):List V:=A9 p++(A1 (AS p)++[.m L])
abbrev S3 (p:Prog) (L:Nat):V:= .rp (rkC p L)
abbrev kM (x:Int×Int):V:= .a [eI x.1,eI x.2]
def KH (p:Prog) (M:List (Int×Int)):List (V×V):=M.map fun x=>(kM x,.b (F6 p x.1 x.2))
def Ph (p:Prog) (M:List (Int×Int)): ∀kv∈KH p M,BN (.a [.i64,.i64]) kv.1=true:=by
 intro kv h;obtain⟨e,_,rfl⟩:=Mg.1 h;rfl
def oW (x y:Int×Int):Df (kM x) (kM y)=(x==y):=by
 obtain⟨a,b⟩:=x;obtain⟨c,d⟩:=y;have e:Df (kM (a,b)) (kM (c,d))=(a==c&&b==d):=by simp[Df,Bo,kM]
 rw[e];rfl
def Vm (p:Prog) (x:Int×Int): ∀(M:List (Int×Int)),CZ (kM x) (KH p M)=if M.contains x then some (.b (F6 p x.1 x.2))else none
 | []=>rfl
 | y ::r=>by
   rw[KH,Ex,CZ,oW,List.contains_cons];cases h:x==y
   .rw[cond_false,Bool.false_or]
    exact Vm p x r
   .rw[cond_true,Bool.true_or,if_pos rfl]
    have:x=y:=by simpa using h
    rw[this]
def Zd (p:Prog) (x:Int×Int): ∀(M:List (Int×Int)),M.contains x=false->DV (kM x) (.b (F6 p x.1 x.2)) (KH p M)=KH p (M++[x])
 | [],_=>rfl
 | y::r,h=>by
   rw[List.contains_cons,Bool.or_eq_false_iff]at h;have ih:=Zd p x r h.2;simp only[KH]at ih;rw[KH,Ex,DV,oW,h.1,cond_false,ih];rfl
def iB (p:Prog):Bc zP 97 [.a (A9 p)] [] fun r post=>if(BK p).isSome then∃L,r= .ret (S3 p L)/\post= [.map L []]else r= .ret .pn/\post= []:=by
 intro Z hs;have hw:=np p;cases h:(BK p).isSome<;>rw[h]at hw
 .simp only[LG,if_false]at hw ⊢
  refine ot kZ ?_
  conv=>whnf
  repeat'((first|clear U K|apply st|(apply zk;intro K U)|refine zY ?_|refine zs fun Z hs=>?_|refine hw.use ?_|(refine zb (fun hc=>?_) (fun hc=>?_)<;>try exact⟨⟩)|refine zo fun nn hnn Z hs=>?_|fail)<;>conv=>whnf)
  exact AU ⟨_,⟨rfl,rfl⟩,hs.less (KG _)⟩
 .simp only[if_true]at hw ⊢
  refine ot kZ ?_
  conv=>whnf
  repeat'((first|clear U K|apply st|(apply zk;intro K U)|refine zY ?_|refine zs fun Z hs=>?_|refine hw.use ?_|(refine zb (fun hc=>?_) (fun hc=>?_)<;>try exact⟨⟩)|refine zo fun nn hnn Z hs=>?_|fail)<;>conv=>whnf)
  exact AU ⟨_,⟨nn,rfl,rfl⟩,hs.less (.cons₂ _ (KG _))⟩
def xE (p:Prog) (L:Nat) (m:Int):Pure zP 228 [eI m,.rp [S3 p L]] (.b (!BO p m)):=by
 refine uD kZ ?_;have hs:=Sn
 conv=>whnf
 repeat'((first|clear U K|apply st|(apply zk;intro K U)|refine zY ?_|refine za (fun hc=>?_) fun hc=>?_|fail)<;>conv=>whnf)
 .refine AF ?_
  have e1:decide (0<=m)=true:=decide_eq_true hc;rw[BO,e1,G7,BU];show V.b (decide (m≥(p.methods.length:Int)))=_;by_cases hl:m<(p.methods.length:Int)
  .rw[decide_eq_true hl,decide_eq_false (by omega)];rfl
  .rw[decide_eq_false hl,decide_eq_true (by omega)];rfl
 .refine AF ?_
  rw[BO,decide_eq_false (by omega)];rfl
def Im {g:FuncId} {fi ca:List V} {f:Int->Bool} {xs:List Int} (b:Bool) (h: ∀y∈xs,Pure zP g (fi++[eI y]++ca) (.b (f y))):Pure zP 139 [.l (iL xs) b,.f (.func g) fi ca] (.b (xs.any f)):=by
 have:=GQ g fi ca (fun _=>[]) (fun y (_:Unit)=>(f y,())) (fun y _=>y∈xs) (QA fun y hy=>h y hy) xs b () (Gw fun y hy _=>hy);rw[MD]at this;exact Pure.of (A3.mono (this emp Sat.nil) fun r Z' ⟨post,⟨h1,h2⟩,h3⟩=>h1)
def xG (p:Prog) (L:Nat) (l:List Int) (b:Bool):Pure zP 161 [S3 p L,.l (iL l) b] (.b (l.all (BO p))):=by
 have hc:=fun b=>Im (g:=228) (fi:=[]) (ca:=[.rp [S3 p L]]) (f:=fun m=> !BO p m) (xs:=l) b fun y _=>xE p L y
 refine gA kZ ?_;have hs:=Sn
 conv=>whnf
 repeat'((first|clear U K|apply st|(apply zk;intro K U)|refine Pure.use (hc _) ?_|fail)<;>conv=>whnf)
 all_goals exact AF (by rw[List.all_eq_not_any_not];rfl)
def rK (l:List Int) (b:Bool):Pure zP 161 [.pn,.l (iL l) b] (.b false):=by
 refine gA kZ ?_;have hs:=Sn;exact zW
def ng (p:Prog) (L:Nat) (m n:Int) (hm:BO p m=true) (hn:BO p n=true):Pure zP 162 [S3 p L,eI m,eI n] (.b (DC p m n)):=by
 refine Pure.fit (by kernel_rfl) fun hf=>?_
 have hxm:=B9 hm;have hxn:=B9 hn;simp only[BO,BD,CN]at hm hn;refine uk kZ ?_;have hs:=Sn
 conv=>whnf
 repeat'((first|clear U K|apply st|(apply zk;intro K U)|refine zY ?_|refine rk ?_ ?_|exact fun s e=>by cases e;rfl|refine zs fun Z hs=>?_|refine za (fun hc=>?_) fun hc=>?_|refine zo fun nn hnn Z hs=>?_|fail)<;>conv=>whnf)
 all_goals exact AF (by simp[DC, *])
def mo {p:Prog} (h:(BK p).isSome=true): ∀x∈p.methods,C7 (AS p) x.fact=true:=fun x hx=>by
 have:=(EZ h).2 x hx;simp only[OY,BD]at this;exact this.2.2.2.2.1
def l6 (l:List Int) (f kd:Bool):Pure zP 98 [.pn,.l (iL l) f,.b kd] (.b false):=by
 have c1:=rK l f;refine ec kZ ?_;have hs:=Sn;exact zW
def iC {M:List Int} {x:Int} (h:M.contains x=false):O2 M x=M++[x]:=by
 rw[O2,if_neg (by rw[h];decide)]
def qz (p : Prog) (L:Nat) (l:List Int) (f kd:Bool) (hl:l.length<=1000):Pure zP 98 [S3 p L,.l (iL l) f,.b kd] (.b (D8 p l kd)):=by
 refine Pure.fit (by kernel_rfl) fun hf=>?_
 have hM:=Mx;have c1:=xG p L l f;cases hm:l.all (BO p)<;>rw[hm]at c1
 .have hb:D8 p l kd=false:=by
   rw[<-Bool.not_eq_true];intro h;rw[D8,BD,E3]at h;rw[<-Bool.not_eq_true,E3]at hm;refine hm fun x hx=>?_
   have:=h.1 x hx;simp only[aW,BD]at this;exact this.1
  refine ec kZ ?_;have hs:=Sn
  conv=>whnf
  repeat'((first|clear U K|apply st|(apply zk;intro K U)|refine zY ?_|refine zC ?_|fail)<;>conv=>whnf)
  all_goals exact AF (by rw[hb])
 rw[E3]at hm;refine ec kZ ?_;have hs:=Sn
 conv=>whnf
 repeat'((first|clear U K|apply st|(apply zk;intro K U)|refine zY ?_|refine zC ?_|refine zo fun nn hnn Z hs=>?_|fail)<;>conv=>whnf)
 clear c1;replace hs:Sat Z [.map nn (S4 [])]:=hs;refine B0 l.length (fun i (_:Unit)=>[(17,eI (A8 i))]) (fun i _=>[.map nn (S4 (l.take i))]) (fun i _=>(∀k y,k<i->l[k]? =some y->aW p l kd y=true)/\(l.take i).Nodup) () rfl ⟨fun k y h=>by omega,by simp⟩ hs ?_;clear hs;rintro i - Z hi ⟨ho,hn⟩ hs;rcases BC l hi with⟨x,hx,hlt⟩|hie
 .have hci : A8 i=i:=AO (by omega)
  obtain⟨z,hz⟩: ∃z,l[0]? =some z:=⟨_,Cy (by omega)⟩
  have hz0:=B4 hz;have hmx:=hm x (B1 hx);have hmz:=hm z (B1 hz);have hbad:=fun h=>SJ (p:=p) (kd:=kd) hx h
  rw[aW,hz0]at hbad;have hxP:=B9 hmx;have hzP:=B9 hmz;have c2:=ng p L x z hmx hmz;have hxr:=hmx;have hzr:=hmz;simp only[BO,BD,CN]at hxr hzr;cases hcon:(l.take i).contains x
  .have hne : ∀k y,k<i->l[k]? =some y->y≠x:=fun k y h h2 e=>by
    rw[<-Bool.not_eq_true,List.contains_iff_mem]at hcon;exact hcon (B1 (i:=k) (by rw[List.getElem?_take,if_pos h,h2,e]))
   have hnd:=QI hx hn hne;have hput:=iC hcon;rw[<-AL hx]at hput;by_cases hg:(Bi p x).gen=(Bi p z).gen
   .have hoxF:(!kd||DC p x z)=true->aW p l kd x=true:=fun h=>by rw[aW,hz0,hmx,hg,h];simp
    cases hal:DC p x z<;>rw[hal]at c2 hoxF<;>cases kd
    all_goals
     conv=>whnf
     repeat'((first|clear U K|apply st|(apply zk;intro K U)|refine zY ?_|refine c2.use ?_|(refine Jc hs 0 rfl rfl (HT _) ?_;rw[L7,hcon])|(refine Jb hs 0 rfl rfl (HT _) fun Z hs=>?_)|(refine zb (fun hc=>?_) (fun hc=>?_)<;>try exact⟨⟩)|fail)<;>conv=>whnf)
    all_goals first
     | exact AF (by rw[hbad (by simp[hal,hg])])
     | (exfalso;simp[hg]at hc;done)
     | (have hox:=hoxF rfl
        refine⟨hlt,(),rfl,⟨fun k' y' h h2=>?_,hnd⟩,?_⟩
        .rcases Nat.lt_or_ge k' i with h'|h'
         .exact ho k' y' h' h2
         .rw[show k'=i by omega,hx]at h2
          rw[<-Option.some.inj h2];exact hox
        .replace hs:Sat Z [.map nn (DV (eI x) (.b true) (S4 (l.take i)))]:=hs
         rw[Ze,hput]at hs
         exact hs)
   .conv=>whnf
    repeat'((first|clear U K|apply st|(apply zk;intro K U)|refine zY ?_|(refine Jc hs 0 rfl rfl (HT _) ?_;rw[L7,hcon])|(refine zb (fun hc=>?_) (fun hc=>?_)<;>try exact⟨⟩)|fail)<;>conv=>whnf)
    all_goals first
     | exact AF (by rw[hbad (by simp[hg])])
     | (exfalso;have q:(Bi p x).gen=(Bi p z).gen:=(by assumption);exact hg q)
     | (exfalso;simp[hg]at hc;done)
  .obtain⟨k,hk⟩:=List.getElem?_of_mem (List.contains_iff_mem.1 hcon)
   rw[List.getElem?_take]at hk;split at hk
   .conv=>whnf
    repeat'((first|clear U K|apply st|(apply zk;intro K U)|refine zY ?_|(refine Jc hs 0 rfl rfl (HT _) ?_;rw[L7,hcon])|fail)<;>conv=>whnf)
    all_goals exact AF (by rw[SI hx hk (by assumption)])
   .cases hk
 .refine zz ?_;(repeat clear U K);repeat intro K U
  have hall:D8 p l kd=true:=by
   rw[D8,BD,E3];refine⟨fun y hy=>?_,decide_eq_true (by rw[hie,List.take_length]at hn;exact hn)⟩;obtain⟨k,hk⟩:=List.getElem?_of_mem hy;exact ho k y (by rw[hie];exact(IN.1 hk).1) hk
  exact AF (by rw[hall])
end Go.Gl
namespace Go.Gl
variable {P:Program} {Z:AE}
def vR {L:Nat} {args:List V} {Q:R->AE->Prop} (h:LR P L args Z Q):Ax P (.f (.yield L) [] []) args Z Q:=h
def WS {L:Nat} {E:Env} {ps:List Nat} {a b:AV} {args:List V} {l:List At} (hl:args.length=ps.length) (hs:Sat Z (.obj L (.loop .ready E (Bt P ps a b))::l)) {Q:R->AE->Prop}
    (h: ∀Z,Sat Z l->W P a (CX (W P b fun ex env' Z'=>Z' L=none->Ti L E (Bt P ps a b) Q ex env' Z')) (En ps args E) Z):LR P L args Z Q:=
 Qg (hs.get (i:=0) rfl) hl (h _ hs.del)
end Go.Gl
namespace Go.Gl
open Go.Proofs
attribute [local irreducible] A3 Aq Af AR AJ Ad AQ AT AK Ac AM AN Ax A5 Sat AX A4 Ah W
end Go.Gl
