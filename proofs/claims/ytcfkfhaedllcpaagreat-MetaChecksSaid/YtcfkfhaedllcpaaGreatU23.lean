import Derived.Test.YtcfkfhaedllcpaaGreatU14
import Derived.Test.YtcfkfhaedllcpaaGreatU19
import Derived.Test.YtcfkfhaedllcpaaGreatU20
import Derived.Test.YtcfkfhaedllcpaaGreatU21
import Derived.Test.YtcfkfhaedllcpaaGreatU22
set_option linter.all false
set_option linter.defProp false
set_option maxHeartbeats 8000000
noncomputable section
namespace Go.Gl
open Go.Proofs
attribute [local irreducible] BD A3 Au AS AL Ao AU AV AM An AP AT BF BM Sat Af BK Aw W
def Ps {p:Prog} (h:Ar p=true):PE (Ab p)/\BX p.AG<=40/\p.AG.length<=10:=by
 have h1:=h;rw[L6]at h1;simp only[Ba,DG]at h1;have h2:=h;simp only[Ar,Ba,DG]at h2;have hm:=(Eb _ _ h2.2.1).1;refine⟨⟨W6 (Cx h1.2.2.2.1),?_,fun o ho=>?_⟩,by omega,h1.1⟩
 .rw[Ab,Bw];omega
 .have:=EZ ho
  simp only[Ab,Aj,BW];omega
def Xc (s:List Int):Prop:= ∀x∈s,(-1:Int)<=x
def Yx {s:List Int} (h:Xc s) (i:Nat) {x:Int} (hx:0<=x):Xc (s.set i x):=fun y hy=>by
 rcases List.mem_or_eq_of_mem_set hy with hy|rfl
 .exact h y hy
 .omega
def Po {f:Int->Int->List Int->Option (List Int)} (hf: ∀ {a b s s'},0<=b->f a b s=some s'->Xc s->Xc s') {op size:Int} (h0:0<=size): ∀(i:Nat) (l:List Int) {s s':List Int},D7 f op size i l s=some s'->Xc s->Xc s'
 | _,[],s,s',h,hs=>by cases h;exact hs
 | i,k::r,s,s',h,hs=>by
   simp only[D7]at h;split at h
   .cases h
   .rename_i s1 h1
    refine Po hf h0 (i+1) r h (hf ?_ h1 hs);split<;>omega
def Ik {p:Prog} {next:Bool}: ∀(d:Nat) {n size:Int} {s s':List Int},0<=size->Bp p next d n size s=some s'->Xc s->Xc s'
 | 0,_,_,_,_,_,h,_=>by cases h
 | d + 1,n,size,s,s',h0,h,hs=>by
   simp only[Bp]at h;split at h
   .cases h
   .split at h
    .cases h
    .split at h
     .exact Po (fun hb h hs=>Ik d hb h hs) h0 0 _ h (Yx hs _ h0)
     .cases h
def Yy {s:List Int} (h:Xc s):(s.all fun n=>decide (0<=n))= !s.contains (-1):=by
 rw[R9];simp only[JD,DG,Bool.not_eq_true',<-Bool.not_eq_true,List.contains_iff_mem];constructor
 .intro h1 h2
  have:=h1 _ h2;omega
 .intro h1 x hx
  have:=h x hx;rcases Int.lt_or_le x 0 with hlt|hle
  .exact absurd ((show x= -1 by omega) ▸ hx) h1
  .exact hle
def fW (p:Prog) (nO:Nat) (r:R) (Z:AE):Prop:=
 match BI p with
 | some s=>r= .ret (.t [])/\ ∃v,Sat Z [.box nO [v],.own v 1 (iL s)]
 | none=>r= .BL Cu/\ ∃v s,Sat Z [.box nO [v],.own v 1 (iL s)]
def TP {p:Prog} {nO:Nat} {Z:AE} {v:V} {s:List Int} {l:List At} (h:BI p=none) (hs:Sat Z l) (hsub: [At.box nO [v],.own v 1 (iL s)].Sublist l):Au Z Cu (fW p nO):=Cy (by
 rw[fW,h]
 exact⟨rfl,v,s,hs.less hsub⟩)
def pQ {p:Prog} {nO:Nat} {Z:AE} {v:V} {s:List Int} {l:List At} (h:BI p=some s) (hs:Sat Z l) (hsub: [At.box nO [v],.own v 1 (iL s)].Sublist l):A3 Z (.t []) (fW p nO):=Cj (by
 rw[fW,h]
 exact⟨rfl,v,hs.less hsub⟩)
def Nv {p:Prog} (h:CW p=false):BI p=none:=by unfold BI;rw[h];rfl
def ZV {w:Ap} {f:Fact} (h:FZ w f=true):Mm f=true:=Lv (w:=w) f (by simp only[FZ,Ba]at h;exact h.2.2)
def Rt {w:Ap} (hw:PE w) (f:Fact):Pure zP 204 [.a (BC w),.a (xF f)] (eI (if FZ w f then 0 else 2)):=by
 rw[<-ZB];exact Ul w hw f
def Ty {α:Type} (a b c:α): [a,b,c].Perm [c,b,a]:=by simpa using(List.reverse_perm [a,b,c]).symm
def WZ (p : Prog) (nO:Nat) (Z:AE) (hs:Sat Z [.box nO [.l [] true]]):BD zP 196 [.rp (A7 p),.p nO 0] Z (fW p nO):=by
 refine BD.fit (by kernel_rfl) fun hf=>?_
 have hM:=Mx
 have hfp:Dg (.a (A7 p)):=by
  have:=hf.1;simp only[ON]at this;simpa only[F4]using this
 have⟨p1,p2,p3,p4⟩:=D8 hfp;refine ec kZ ?_;have hcl:=R7 p;replace hs:Sat Z [.box nO [.l [] true],.own (.l [] true) 1 (iL [])]:=Gg hs 1;cases hcB:Ar p with
 | false=>
   rw[hcB]at hcl
   conv=>whnf
   repeat'((first|apply st|(apply sq;intro K U)|(apply si;intro A B hA hB)|refine⟨kZ,?_⟩|fail)<;>conv=>whnf)
   refine hcl.use (pre:=[]) (rest:=[.box nO [.l [] true],.own (.l [] true) 1 (iL [])]) hs ?_;rintro r post Z ⟨rfl,rfl⟩ hs
   conv=>whnf
   repeat'((first|(refine hB _ _ _ ?_;clear hB B hA A)|clear U K)<;>conv=>whnf)
   exact TP (Nv (by simp[CW,hcB])) hs (.refl _)
 | true=>
   rw[hcB]at hcl;obtain⟨hgW,hmS,h10⟩:=Ps hcB
   conv=>whnf
   repeat'((first|apply st|(apply sq;intro K U)|(apply si;intro A B hA hB)|refine⟨kZ,?_⟩|fail)<;>conv=>whnf)
   refine hcl.use (pre:=[]) (rest:=[.box nO [.l [] true],.own (.l [] true) 1 (iL [])]) hs ?_;clear hs;rintro r post Z ⟨rfl,rfl⟩ hs
   conv=>whnf
   repeat'((first|apply st|(apply sq;intro K U)|(apply si;intro A B hA hB)|(refine hA _ _ ?_;clear hB B hA A)|(refine hB _ _ _ ?_;clear hB B hA A)|(apply U;clear U K)|refine⟨rfl,?_⟩|(refine B6 (fun hc=>?_) (fun hc=>?_)<;>(replace hc:=bp hc)<;>(try simp(disch:=omega) only[BW,wrap64,AJ]at hc)<;>(try(cases hc;done)))|(constructor<;>intro hc<;>(try rw[hc])<;>(replace hc:=bp hc)<;>(try simp(disch:=omega) only[BW,wrap64,AJ]at hc))|clear U K)<;>conv=>whnf)
   rotate_left
   all_goals first
    | exact TP (Nv (by simp[CW, *];intros;omega)) hs (.refl _)
    | skip
   have a1:p.Bc.length<=8:=by omega
   have a2:p.methods.length<=16:=by omega
   have a3:1<=p.nodes.length:=by omega
   have a4:p.nodes.length<=120:=by omega
   have hg:CW p=p.Bc.all fun g=>decide (1<=g)&&decide (g<=3):=by
    simp only[CW,a1,a2,a3,a4,decide_true,Fv];simp[*]
   refine Cc p.Bc.length (fun k (_:Unit)=>[(36,eI (BU k))]) (fun _ _=>[.box nO [.l [] true],.own (.l [] true) 1 (iL [])]) (fun k _=>CW p=(p.Bc.drop k).all fun g=>decide (1<=g)&&decide (g<=3)) () rfl (by simpa using hg) hs ?_;clear hs hg;rintro k - Z hk hn hs;rcases Bd p.Bc hk with⟨g,hgk,hlt⟩|hke
   .rw[drop_cons hgk,NV]at hn
    conv=>whnf
    repeat'((first|apply st|(apply sq;intro K U)|(apply si;intro A B hA hB)|(refine hA _ _ ?_;clear hB B hA A)|(refine hB _ _ _ ?_;clear hB B hA A)|(apply U;clear U K)|refine⟨rfl,?_⟩|refine ix ?_|(refine MN (fun hc=>?_)<;>(try rw[hc])<;>clear hc)|(refine B6 (fun hc=>?_) (fun hc=>?_)<;>(replace hc:=bp hc)<;>(try simp(disch:=omega) only[BW,wrap64,AJ]at hc)<;>(try(cases hc;done)))|(constructor<;>intro hc<;>(try rw[hc])<;>(replace hc:=bp hc))|clear U K)<;>conv=>whnf)
    .exact⟨hlt,(),rfl,by rw[hn];simp[*],hs⟩
    .exact TP (Nv (by rw[hn,decide_eq_false (show¬g<=3 by omega)];simp)) hs (.refl _)
    .exact TP (Nv (by rw[hn,decide_eq_false (show¬1<=g by omega)];simp)) hs (.refl _)
   .have hh : CW p=true:=by rw[hn,Ax hke];rfl
    have hL:=Sm hh;clear hn
    conv=>whnf
    repeat'((first|apply st|(apply sq;intro K U)|(apply si;intro A B hA hB)|(refine hA _ _ ?_;clear hB B hA A)|(apply U;clear U K)|refine⟨rfl,?_⟩|(refine Qg (fun hc=>?_)<;>(try rw[hc])<;>clear hc)|clear U K)<;>conv=>whnf)
    rw[BW];refine(Ts p.nodes.length a3 a4).use (pre:=[]) (rest:=[.box nO [.l [] true],.own (.l [] true) 1 (iL [])]) hs ?_;clear hs;rintro r post Z ⟨v,rfl,rfl,hv⟩ hs
    conv=>whnf
    repeat'((first|apply st|(apply sq;intro K U)|(apply si;intro A B hA hB)|(refine hA _ _ ?_;clear hB B hA A)|(apply U;clear U K)|refine⟨kZ,?_⟩|refine fX fun Z hs=>?_|refine Qe fun Z hs=>?_|refine Pure.use (WO p (by omega) (by omega)) ?_|(intro nn hnn;generalize hg:BO _ nn _=Z;refine NY hg fun hs=>?_;clear hg)|fail)<;>conv=>whnf)
    rename_i nw hnw _ hs;generalize nn=n5 at *;replace hs:=hs.less (show [At.box n5 (BC (Ab p)),.own v 1 (iL (List.replicate p.nodes.length (-1))),.box nO [v]].Sublist _ from .cons₂ _ (.cons₂ _ (.cons₂ _ (.cons _ .slnil))));refine Cc p.methods.length (fun k (s:List Int)=>[(59,eI (BU k))]) (fun _ s=>[.box nO [v],.own v 1 (iL s),.box n5 (BC (Ab p))]) (fun k s=>s.length=p.nodes.length/\Xc s/\BI p=Ha p (runM p (p.methods.drop k) s)) (List.replicate p.nodes.length (-1)) rfl ⟨by simp,fun x hx=>by rw[List.eq_of_mem_replicate hx];omega,hL⟩ (hs.perm (Ty _ _ _)) ?_;clear hs hnw hnn;rintro k s Z hk ⟨hl,hge,hn⟩ hs;rcases Bd p.methods hk with⟨m,hm,hlt⟩|hke
    .have hF:=Rt hgW m.fact
     cases hfB:FZ (Ab p) m.fact with
     | false=>
       rw[hfB,if_neg Bool.false_ne_true]at hF;have hno:=Ce hm hn (by simp[Mc,hfB])
       conv=>whnf
       repeat'((first|apply st|(apply sq;intro K U)|(apply si;intro A B hA hB)|(refine hA _ _ ?_;clear hB B hA A)|(refine hB _ _ _ ?_;clear hB B hA A)|(refine hB _ _ fun Z hsub=>?_;clear hB B hA A)|(apply U;clear U K)|apply dr|refine rk ?_ ?_|exact fun s e=>by cases e;rfl|refine⟨rfl,?_⟩|refine⟨kZ,?_⟩|refine ix ?_|refine ld ?_|refine Qe fun Z hs=>?_|(refine MN (fun hc=>?_)<;>(try rw[hc])<;>clear hc)|(refine B6 (fun hc=>?_) (fun hc=>?_)<;>(replace hc:=bp hc)<;>(try simp(disch:=omega) only[BW,wrap64,AJ]at hc)<;>(try(cases hc;done)))|refine hF.use ?_|(constructor<;>intro hc<;>(try rw[hc])<;>(replace hc:=bp hc)<;>try(exfalso;omega))|(intro nn hnn;generalize hg:BO _ nn _=Z;refine NY hg fun hs=>?_;clear hg)|clear U K)<;>conv=>whnf)
       all_goals first
        | (refine TP (v:=v) (s:=s) hno hs ?_;(repeat first|exact NW _|apply List.Sublist.cons₂|apply List.Sublist.cons);done)
        | (refine TP (v:=v) (s:=s) hno (hs.up (by assumption)) ?_;(repeat first|exact NW _|apply List.Sublist.cons₂|apply List.Sublist.cons);done)
        | skip
     | true=>
       rw[hfB,if_pos rfl]at hF;have hsp:=Tn _ (ZV hfB)
       conv=>whnf
       repeat'((first|apply st|(apply sq;intro K U)|(apply si;intro A B hA hB)|(refine hA _ _ ?_;clear hB B hA A)|(refine hB _ _ _ ?_;clear hB B hA A)|(refine hB _ _ fun Z hsub=>?_;clear hB B hA A)|(apply U;clear U K)|apply dr|refine rk ?_ ?_|exact fun s e=>by cases e;rfl|refine⟨rfl,?_⟩|refine⟨kZ,?_⟩|refine ix ?_|refine Xb ?_|refine iq fun x hx=>?_|refine ld ?_|refine Qe fun Z hs=>?_|(refine MN (fun hc=>?_)<;>(try rw[hc])<;>clear hc)|(refine B6 (fun hc=>?_) (fun hc=>?_)<;>(replace hc:=bp hc)<;>(try simp(disch:=omega) only[BW,wrap64,AJ]at hc)<;>(try(cases hc;done)))|refine hF.use ?_|refine hsp.use ?_|(constructor<;>intro hc<;>(try rw[hc])<;>(replace hc:=bp hc)<;>(try simp(disch:=omega) only[BW,wrap64,AJ]at hc)<;>try(exfalso;omega))|(intro nn hnn;generalize hg:BO _ nn _=Z;refine NY hg fun hs=>?_;clear hg)|clear U K)<;>conv=>whnf)
       all_goals first
        | (refine TP (v:=v) (s:=s) (Ce hm hn ?_) hs ?_;(simp[Mc, *];intros;omega);(repeat first|exact NW _|apply List.Sublist.cons₂|apply List.Sublist.cons);done)
        | (refine TP (v:=v) (s:=s) (Ce hm hn ?_) (hs.up (by assumption)) ?_;(simp[Mc, *];intros;omega);(repeat first|exact NW _|apply List.Sublist.cons₂|apply List.Sublist.cons);done)
        | skip
       rotate_left 2
       .refine TP (v:=v) (s:=s) (Ce hm hn ?_) (hs.up (by assumption)) ?_
        .simp only[Mc,show p.Bc.getD m.gen.toNat 0=x by rw[FD,hx];rfl,decide_eq_false (show¬FH m.fact<=x by omega),Bool.and_false]
        .repeat first|exact NW _|apply List.Sublist.cons₂|apply List.Sublist.cons
       all_goals
        have hx13:=NB hh hx;have hgd:p.Bc.getD m.gen.toNat 0=x:=by rw[FD,hx];rfl
        have hok:Mc p m=true:=by simp only[Mc,hgd,Ba,DG];exact⟨by omega,by omega,by omega,by omega,hfB,by assumption⟩
        have hgo:=fun s'=>Sa (s':=s') hm hn hok
        have hno:=Mw hm hn hok;rw[hgd]at hgo hno
       .have hnb:HZ m.kind=(m.kind==4):=by simp[HZ, *]
        rw[hnb]at hgo hno;refine Ct ((OS p (m.kind==4) hv m.node x s (by omega) (by omega) hl [.box n5 (BC (Ab p))] Z (hs.less (.cons _ (.refl _)))).mono ?_);cases hw:Bp p (m.kind==4) 12 m.node x s with
        | none=>
          clear hs;rintro r Z' ⟨rfl,s',hl',hs⟩
          conv=>whnf
          repeat'((first|(refine hB _ _ fun Z hsub=>?_;clear hB B hA A)|clear U K)<;>conv=>whnf)
          exact TP (v:=v) (s:=s') (hno hw) (hs.up (by assumption)) (.cons₂ _ (.cons₂ _ (NW _)))
        | some s2=>
          clear hs;rintro r Z' ⟨rfl,hs⟩
          conv=>whnf
          repeat'((first|(apply si;intro A B hA hB)|(refine hA _ _ ?_;clear hB B hA A)|(apply U;clear U K)|apply dr|refine⟨rfl,?_⟩|clear U K)<;>conv=>whnf)
          exact⟨hlt,s2,rfl,⟨(HG _ hw).trans hl,Ik _ (by omega) hw hge,hgo s2 hw⟩,hs⟩
       .have hnb:HZ m.kind=true:=by simp[HZ, *]
        rw[hnb]at hgo hno;refine Ct ((OS p true hv m.node x s (by omega) (by omega) hl [.box n5 (BC (Ab p))] Z (hs.less (.cons _ (.refl _)))).mono ?_);cases hw:Bp p true 12 m.node x s with
        | none=>
          clear hs;rintro r Z' ⟨rfl,s',hl',hs⟩
          conv=>whnf
          repeat'((first|(refine hB _ _ fun Z hsub=>?_;clear hB B hA A)|clear U K)<;>conv=>whnf)
          exact TP (v:=v) (s:=s') (hno hw) (hs.up (by assumption)) (.cons₂ _ (.cons₂ _ (NW _)))
        | some s2=>
          clear hs;rintro r Z' ⟨rfl,hs⟩
          conv=>whnf
          repeat'((first|(apply si;intro A B hA hB)|(refine hA _ _ ?_;clear hB B hA A)|(apply U;clear U K)|apply dr|refine⟨rfl,?_⟩|clear U K)<;>conv=>whnf)
          exact⟨hlt,s2,rfl,⟨(HG _ hw).trans hl,Ik _ (by omega) hw hge,hgo s2 hw⟩,hs⟩
    .subst hke
     rw[List.drop_length,runM]at hn
     conv=>whnf
     repeat'((first|apply st|(apply sq;intro K U)|(apply si;intro A B hA hB)|(refine hA _ _ ?_;clear hB B hA A)|(apply U;clear U K)|refine⟨rfl,?_⟩|refine⟨kZ,?_⟩|refine ix ?_|refine ld ?_|refine Qe fun Z hs=>?_|(refine fc (fun x hx hlt hc=>?_) (fun hk hc=>?_)<;>(try rw[hc])<;>clear hc)|(constructor<;>intro hc<;>(try rw[hc])<;>(replace hc:=bp hc)<;>try(exfalso;omega))|(intro nn hnn;generalize hg:BO _ nn _=Z;refine NY hg fun hs=>?_;clear hg)|clear U K)<;>conv=>whnf)
     rw[Ha]at hn;refine Ct ((OS p false hv p.main 0 s (by omega) (by omega) hl [.box n5 (BC (Ab p))] Z hs).mono ?_);cases hw:Bp p false 12 p.main 0 s with
     | none=>
       rw[hw]at hn;clear hs;rintro r Z' ⟨rfl,s',hl',hs⟩
       conv=>whnf
       repeat'((first|(refine hB _ _ _ ?_;clear hB B hA A)|clear U K)<;>conv=>whnf)
       exact TP (v:=v) (s:=s') hn hs (.cons₂ _ (.cons₂ _ (NW _)))
     | some s2=>
       rw[hw]at hn;have hge2:=Ik _ (by omega) hw hge;simp only[Yy hge2]at hn;clear hs;rintro r Z' ⟨rfl,hs⟩;have hct:=fun f=>EG s2 f (-1)
       cases hyes:s2.contains (-1)with
       | true=>
         rw[hyes]at hct hn
         conv=>whnf
         repeat'((first|(apply si;intro A B hA hB)|(refine hA _ _ ?_;clear hB B hA A)|(apply U;clear U K)|refine ld ?_|fail)<;>conv=>whnf)
         refine Pure.gE (hct false) (.cons (hs.HR 1 rfl) (.cons (.refl _) .nil)) rfl ?_
         conv=>whnf
         repeat'((first|(refine hB _ _ _ ?_;clear hB B hA A)|(refine B6 (fun hc=>?_) (fun hc=>?_)<;>(replace hc:=bp hc)<;>(try simp(disch:=omega) only[BW,wrap64,AJ]at hc)<;>(try(cases hc;done)))|fail)<;>conv=>whnf)
         all_goals exact TP (v:=v) (s:=s2) hn (by first|exact hs|exact hs.up (by assumption)) (.cons₂ _ (.cons₂ _ (NW _)))
       | false=>
         rw[hyes]at hct hn
         conv=>whnf
         repeat'((first|(apply si;intro A B hA hB)|(refine hA _ _ ?_;clear hB B hA A)|(apply U;clear U K)|refine ld ?_|fail)<;>conv=>whnf)
         refine Pure.gE (hct false) (.cons (hs.HR 1 rfl) (.cons (.refl _) .nil)) rfl ?_
         conv=>whnf
         repeat'((first|(refine hA _ _ ?_;clear hB B hA A)|(refine B6 (fun hc=>?_) (fun hc=>?_)<;>(replace hc:=bp hc)<;>(try simp(disch:=omega) only[BW,wrap64,AJ]at hc)<;>(try(cases hc;done)))|fail)<;>conv=>whnf)
         all_goals exact pQ (v:=v) hn hs (.cons₂ _ (.cons₂ _ (NW _)))
attribute [local irreducible] Gb
def jH (p:Prog) (nO:Nat) (r:R) (post:List At):Prop:=
 match BI p with
 | some s=>r= .ret (.t [])/\ ∃v,post= [.box nO [v],.own v 1 (iL s)]
 | none=>r= .BL Cu/\ ∃v s,post= [.box nO [v],.own v 1 (iL s)]
def To (p:Prog) (nO:Nat):Cl zP 196 [.rp (A7 p),.p nO 0] [.box nO [.l [] true]] (jH p nO):=fun Z hs=>
 BD.mono (WZ p nO Z hs) fun r Z' hq=>by
  unfold fW at hq;unfold jH;cases h:BI p with
  | some s=>
    rw[h]at hq;obtain⟨h1,v,h2⟩:=hq;exact⟨_,⟨h1,v,rfl⟩,h2⟩
  | none=>
    rw[h]at hq;obtain⟨h1,v,s,h2⟩:=hq;exact⟨_,⟨h1,v,s,rfl⟩,h2⟩
def ZO {Z:AE} {n:Nat} {x:V} {rest:List At} (hs:Sat Z (.box n [x]::rest)) {Q:AE->Prop} (hq: ∀Z',Sat Z' (.box n [.b false]::rest)->Q Z'):Gb zP 258 [.p n 0] (some Cu) Z Q:=by
 refine S6 kZ ?_
 conv=>whnf
 repeat'((first|clear U K|apply st|(apply zk;intro K U)|refine zY ?_|refine zs fun Z hs=>?_|refine fv rfl ?_|refine zo fun nn hnn Z hs=>?_|fail)<;>conv=>whnf)
 exact hq _ (hs.less (Uu _ _))
def ZP {Z:AE} {n:Nat} {x:V} {rest:List At} (hs:Sat Z (.box n [x]::rest)) {Q:AE->Prop} (hq: ∀Z',Sat Z' (.box n [x]::rest)->Q Z'):Gb zP 258 [.p n 0] none Z Q:=by
 refine S6 kZ ?_;refine zz ?_;(repeat clear U K);repeat intro K U
 exact hq _ hs
def UM (p:Prog) (nO:Nat):Cl zP 195 [.f (.func 196) [] [.rp (A7 p),.p nO 0]] [.box nO [.l [] true]] fun r post=>r= .ret (.b (BI p).isSome)/\ ∃v s,post= [.box nO [v],.own v 1 (iL s)]/\(BI p=none\/BI p=some s):=by
 intro Z hs;refine ed kZ ?_
 conv=>whnf
 repeat'((first|clear U K|apply st|(apply zk;intro K U)|refine zo fun nn hnn Z hs=>?_|fail)<;>conv=>whnf)
 refine Ct ?_;refine(To p nO).use (rest:=[.box nn [.b false]]) (hs.perm (.swap _ _ _)) ?_;clear hs hnn;rintro r post Z hq hs;unfold jH at hq;cases h:BI p with
 | none=>
   rw[h]at hq;obtain⟨rfl,v,s,rfl⟩:=hq
   conv=>whnf
   repeat'((first|clear U K|apply st|fail)<;>conv=>whnf)
   refine ZO (rest:=[.box nO [v],.own v 1 (iL s)]) (hs.perm fj) fun Z hs=>?_
   refine zz ?_;(repeat clear U K);repeat intro K U
   exact Cj ⟨_,⟨by rw[h];rfl,v,s,rfl,.inl h⟩,hs.less (Uu _ _)⟩
 | some s=>
   rw[h]at hq;obtain⟨rfl,v,rfl⟩:=hq
   conv=>whnf
   repeat'((first|clear U K|apply st|(apply zk;intro K U)|refine zs fun Z hs=>?_|fail)<;>conv=>whnf)
   replace hs:Sat Z ([.box nO [v],.own v 1 (iL s)]++[.box nn [.b true]]):=hs;refine ZP (x:= .b true) (rest:=[.box nO [v],.own v 1 (iL s)]) (hs.perm fj) fun Z hs=>?_
   refine zz ?_;(repeat clear U K);repeat intro K U
   exact Cj ⟨_,⟨by rw[h];rfl,v,s,rfl,.inr h⟩,hs.less (Uu _ _)⟩
def Wa (p:Prog):Cl zP 137 [.a (A7 p)] [] fun r post=> ∃v s,r= .ret (.t [v,.b (BI p).isSome])/\post= [.own v 1 (iL s)]/\(BI p=none\/BI p=some s):=by
 intro Z hs;refine fG kZ ?_
 conv=>whnf
 repeat'((first|clear U K|apply st|(apply zk;intro K U)|refine zo fun nn hnn Z hs=>?_|fail)<;>conv=>whnf)
 refine(UM p nn).use (rest:=[]) (by simpa using hs) ?_;clear hs;rintro r post Z ⟨rfl,v,s,rfl,hl⟩ hs;refine zz ?_;(repeat clear U K);repeat intro K U
 exact Cj ⟨_,⟨v,s,rfl,rfl,hl⟩,hs.less (.cons _ (.cons₂ _ (NW _)))⟩
def QA (p:Prog):Pure zP 76 [.a (A7 p)] (eI (if(BI p).isSome then 0 else 2)):=by
 refine Pure.of ?_;have hz:=Wa p;cases h:(BI p).isSome<;>rw[h]at hz
 all_goals
  refine iM kZ ?_;have hs:=Sn;refine zz ?_;(repeat clear U K);repeat intro K U
  refine hz.use (rest:=[]) (by simpa using hs) ?_;clear hs;rintro r post Z ⟨v,s,rfl,rfl,-⟩ hs;refine zz ?_;(repeat clear U K);repeat intro K U
  exact Cj rfl
def fP {p:Prog} (h:(BI p).isSome=true):p.AG.length<=10:=by
 obtain⟨hh,-⟩:=M6 h;simp only[CW,Ba,DG]at hh;exact(Ps hh.1).2.2
end Go.Gl
namespace Go.Gl
open Go.Proofs
attribute [local irreducible] BD A3 Au AS AL Ao AU AV AM An AP AT BF BM Sat Af BK Aw W
def KZ {g:FuncId} {fi ca:List V} {f:Int->Bool} {xs:List Int} (b:Bool) (h: ∀y∈xs,Pure zP g (fi++[eI y]++ca) (.b (f y))):Pure zP 139 [.l (iL xs) b,.f (.func g) fi ca] (.b (xs.any f)):=by
 have:=G2 g fi ca (fun _=>[]) (fun y (_:Unit)=>(f y,())) (fun y _=>y∈xs) (Lk fun y hy=>h y hy) xs b () (JU fun y hy _=>hy);rw[La]at this;exact Pure.of (BD.mono (this emp Sat.nil) fun r Z' ⟨post,⟨h1,h2⟩,h3⟩=>h1)
end Go.Gl
namespace Go.Gl
variable {P:Program} {Z:AE}
end Go.Gl
namespace Go.Gl
variable {P:Program} {Z:AE}
def BD.hO {f:FuncId} {args args':List V} {Z Z2:AE} {Q:R->AE->Prop} (h:BD P f args' Z2 Q) (hsub:Sub Z2 Z) (hf:CU Z Z2 args args'):BD P f args Z Q:=by
 refine⟨h.1,fun F w cs hR hv=>?_⟩;exact Calls.mono (h.2 F w cs (hR.drop hsub) ⟨by rw[hf.length];exact hv.1,hf.rel hR hsub (fun _ _ e=>e) hv.2⟩) fun e w' ⟨r,Z',hr,h1,h2,h3⟩=>⟨r,Z',hr,h1,h2,(Bb.drop w hsub).trans h3⟩
def Pure.arg {f:FuncId} {args args':List V} {v:V} (h:Pure P f args' v) (hf:CU emp emp args args'):Pure P f args v:=BD.hO h (Sub.refl _) hf
def Own.bF {v:V} {sz:Nat} {es es':List (List V)} (h:Own Z v sz es) (hR:DU Z emp es es'):EL Z emp v (.l es' false):=by
 rcases h with⟨rfl,_⟩|⟨n,cap,rfl,hn⟩
 .exact .l (fun h=>(by cases h)) hR
 .exact .arr hn rfl rfl hR
end Go.Gl
namespace Go.Gl
open Go.Proofs
def Fq {α:Type} {l:List α} {k:Nat} (h:k=l.length):l.drop k= []:=by rw[h];exact List.drop_length
def S8 {x:Zm} (h1:x.ord=1\/x.ord=2) (h2:EV x.fold=true) (h3:0<=x.pick) (h4:x.pick<=16):MQ x=true:=by
 have e1:1<=x.ord/\x.ord<=2:=by omega
 simp only[MQ,h2,Ba,DG];exact⟨e1,trivial,h3,h4⟩
def V1 {x:Zm} (h: ¬(x.ord=1\/x.ord=2)\/ ¬0<=x.pick\/ ¬x.pick<=16):MQ x=false:=by
 rw[Bool.eq_false_iff];intro hc;simp only[MQ,Ba,DG]at hc;omega
def V2 {x:Zm} (h:EV x.fold=false):MQ x=false:=by
 rw[MQ,h,Bool.false_and,Bool.and_false]
def JT {p:Prog} {q:II} (h: ¬q.B7.length=p.Bc.length\/ ¬q.A0.length<=4\/ ¬q.cls.length=p.AG.length):D3 p q=false:=by
 rw[Bool.eq_false_iff];intro hc;have:=Pp hc;omega
def Si {p:Prog} {q:II} (h1:q.B7.length=p.Bc.length) (h2:q.A0.length<=4) (h3:q.cls.length=p.AG.length):D3 p q=(q.B7.all MQ&&(Ez p 0 q.A0&&q.cls.all (TS q.A0.length))):=by
 rw[D3,VQ,decide_eq_true h1,decide_eq_true h2,decide_eq_true h3];rfl
attribute [local irreducible] BD A3 Au AS AL Ao AU AV AM An AP AT BF BM Sat Af BK Aw W
def Yp (f:Int):Pure zP 59 [eI f] (.b (EV f)):=by
 refine iO kZ ?_;have hs:=Sn
 conv=>whnf
 repeat'((first|apply st|(apply sq;intro K U)|(apply si;intro A B hA hB)|(refine hA _ _ ?_;clear hB B hA A)|(apply U;clear U K)|refine⟨rfl,?_⟩|(constructor<;>intro hc<;>(try rw[hc])<;>(replace hc:=bp hc))|fail)<;>conv=>whnf)
 all_goals exact AF (by simp[EV, *]<;>omega)
def VO (p:Prog) (g k:Int):Pure zP 100 [.a (A7 p),eI g,eI k] (.b (FY p g k)):=by
 refine Pure.fit (by kernel_rfl) fun hf=>?_
 have⟨p1,p2,p3,p4⟩:=D8 hf.1;have hM:=Mx;have c1:=iB p g;by_cases h1:g= -1
 .subst h1
  refine Q9 kZ ?_;have hs:=Sn
  conv=>whnf
  repeat'((first|apply st|(apply sq;intro K U)|(apply si;intro A B hA hB)|(refine hA _ _ ?_;clear hB B hA A)|(apply U;clear U K)|refine⟨rfl,?_⟩|(constructor<;>intro hc<;>(try rw[hc])<;>(replace hc:=bp hc)<;>(try simp(disch:=omega) only[BW,wrap64,AJ]at hc)<;>try(exfalso;omega))|fail)<;>conv=>whnf)
  all_goals first
   | exact AF rfl
   | (exfalso;omega)
   | (exfalso;simp at hc;done)
 rw[FY,show(g== -1)=false by simpa using h1,Bool.false_or];cases h2:Ni p g<;>rw[h2]at c1
 .refine Q9 kZ ?_
  have hs:=Sn
  conv=>whnf
  repeat'((first|apply st|(apply sq;intro K U)|(apply si;intro A B hA hB)|(refine hA _ _ ?_;clear hB B hA A)|(apply U;clear U K)|refine⟨rfl,?_⟩|refine⟨kZ,?_⟩|refine c1.use ?_|(constructor<;>intro hc<;>(try rw[hc])<;>(replace hc:=bp hc)<;>try(exfalso;omega))|fail)<;>conv=>whnf)
  all_goals first
   | exact AF rfl
   | (exfalso;omega)
   | (exfalso;simp at hc;done)
 .rw[Ni,Ba,DG,DG]at h2
  obtain⟨x,hx⟩: ∃x,p.Bc[g.toNat]? =some x:=⟨_,D2 (by omega)⟩
  rw[show p.Bc.getD g.toNat 0=x by rw[FD,hx];rfl,Fv];refine Q9 kZ ?_;have hs:=Sn
  conv=>whnf
  repeat'((first|apply st|(apply sq;intro K U)|(apply si;intro A B hA hB)|(refine hA _ _ ?_;clear hB B hA A)|(apply U;clear U K)|refine⟨rfl,?_⟩|refine⟨kZ,?_⟩|refine Xb ?_|refine c1.use ?_|(constructor<;>intro hc<;>(try rw[hc])<;>(replace hc:=bp hc)<;>try(exfalso;omega))|fail)<;>conv=>whnf)
  all_goals first
   | exact AF rfl
   | (exfalso;omega)
   | (exfalso;simp at hc;done)
   | exact AF (by simp[*])
def WI (p : Prog) (q:II) (hq:CJ q=true):Pure zP 49 [.a (A7 p),.a (FG q)] (.b (D3 p q)):=by
 refine Pure.fit (by kernel_rfl) fun hf=>?_
 have⟨p1,p2,p3,p4⟩:=D8 hf.1;have⟨q1,q2,q3⟩:=Ea hq;have hM:=Mx;have e1:((q.B7.map FT).length:Int)=q.B7.length:=by simp
 have e2:((q.A0.map MP).length:Int)=q.A0.length:=by simp
 have e3:((p.AG.map Hm).length:Int)=p.AG.length:=by simp
 by_cases g1:q.B7.length=p.Bc.length
 rotate_left
 .rw[JT (.inl g1)]
  refine SN kZ ?_;have hs:=Sn
  conv=>whnf
  repeat'((first|apply st|(apply sq;intro K U)|(apply si;intro A B hA hB)|(refine hA _ _ ?_;clear hB B hA A)|(apply U;clear U K)|refine⟨rfl,?_⟩|(constructor<;>intro hc<;>(try rw[hc])<;>(replace hc:=bp hc)<;>(try simp(disch:=omega) only[BW,wrap64,AJ]at hc)<;>try(exfalso;omega))|clear U K)<;>conv=>whnf)
  all_goals first|exact AF rfl|(exfalso;omega)
 by_cases g2:q.A0.length<=4
 rotate_left
 .rw[JT (.inr (.inl g2))]
  refine SN kZ ?_;have hs:=Sn
  conv=>whnf
  repeat'((first|apply st|(apply sq;intro K U)|(apply si;intro A B hA hB)|(refine hA _ _ ?_;clear hB B hA A)|(apply U;clear U K)|refine⟨rfl,?_⟩|(constructor<;>intro hc<;>(try rw[hc])<;>(replace hc:=bp hc)<;>(try simp(disch:=omega) only[BW,wrap64,AJ]at hc)<;>try(exfalso;omega))|clear U K)<;>conv=>whnf)
  all_goals first|exact AF rfl|(exfalso;omega)
 by_cases g3:q.cls.length=p.AG.length
 rotate_left
 .rw[JT (.inr (.inr g3))]
  refine SN kZ ?_;have hs:=Sn
  conv=>whnf
  repeat'((first|apply st|(apply sq;intro K U)|(apply si;intro A B hA hB)|(refine hA _ _ ?_;clear hB B hA A)|(apply U;clear U K)|refine⟨rfl,?_⟩|(constructor<;>intro hc<;>(try rw[hc])<;>(replace hc:=bp hc)<;>(try simp(disch:=omega) only[BW,wrap64,AJ]at hc)<;>try(exfalso;omega))|clear U K)<;>conv=>whnf)
  all_goals first|exact AF rfl|(exfalso;omega)
 have hR0:=Si g1 g2 g3;refine SN kZ ?_;have hs:=Sn
 conv=>whnf
 repeat'((first|apply st|(apply sq;intro K U)|(apply si;intro A B hA hB)|(refine hA _ _ ?_;clear hB B hA A)|(apply U;clear U K)|refine⟨rfl,?_⟩|(constructor<;>intro hc<;>(try rw[hc])<;>(replace hc:=bp hc)<;>(try simp(disch:=omega) only[BW,wrap64,AJ]at hc)<;>try(exfalso;omega))|fail)<;>conv=>whnf)
 all_goals try(exfalso;omega)
 refine Cc q.B7.length (fun k (_:Unit)=>[(5,eI (BU k))]) (fun _ _=>[]) (fun k _=>D3 p q=((q.B7.drop k).all MQ&&(Ez p 0 q.A0&&q.cls.all (TS q.A0.length)))) () rfl hR0 hs ?_;clear hs hR0;rintro k - Z hk hR hs;have hck:BU k=k:=AJ (by omega);rcases Bd q.B7 hk with⟨x,hx,hlt⟩|hke
 .rw [drop_cons hx,NV]at hR
  have c1:=Yp x.fold;cases h1:EV x.fold<;>rw[h1]at c1
  all_goals
   conv=>whnf
   repeat'((first|apply st|(apply sq;intro K U)|(apply si;intro A B hA hB)|(refine hA _ _ ?_;clear hB B hA A)|(apply U;clear U K)|refine⟨rfl,?_⟩|refine⟨kZ,?_⟩|refine ix ?_|refine ld ?_|refine Qe fun Z hs=>?_|refine Nn ?_|refine No ?_|(refine MN (fun hc=>?_)<;>(try rw[hc])<;>clear hc)|refine c1.use ?_|(constructor<;>intro hc<;>(try rw[hc])<;>(replace hc:=bp hc))|(intro nn hnn;generalize hg:BO _ nn _=Z;refine NY hg fun hs=>?_;clear hg)|clear U K)<;>conv=>whnf)
   all_goals try simp only[Bool.not_true,Bool.not_false,cond_false,cond_true,DG,decide_eq_false_iff_not]at *
   all_goals first
    | exact⟨hlt,(),rfl,by rw[hR,S8 (by omega) h1 (by omega) (by omega),Fv],hs.less (NW _)⟩
    | exact AF (by rw[hR,V2 h1];rfl)
    | exact AF (by rw[hR,V1 (by omega)];rfl)
    | (exfalso;omega)
 rw[Fq hke,List.all_nil,Fv]at hR
 conv=>whnf
 repeat'((first|apply st|(apply sq;intro K U)|(apply si;intro A B hA hB)|(refine hA _ _ ?_;clear hB B hA A)|(apply U;clear U K)|refine⟨rfl,?_⟩|(refine Qg (fun hc=>?_)<;>(try rw[hc])<;>clear hc)|clear U K)<;>conv=>whnf)
 all_goals try(exfalso;omega)
 refine Cc q.A0.length (fun k (_:Unit)=>[(7,eI (BU k))]) (fun _ _=>[]) (fun k _=>D3 p q=(Ez p k (q.A0.drop k)&&q.cls.all (TS q.A0.length))) () rfl hR hs ?_;clear hs hR;rintro k2 - Z hk2 hR hs;have hck2:BU k2=k2:=AJ (by omega);rcases Bd q.A0 hk2 with⟨x,hx,hlt⟩|hke2
 .rw [drop_cons hx,Ez,U9]at hR
  have c1:=VO p x.rd 2;have c2:=VO p x.wr 2;have c3:=VO p x.fa 1;generalize FY p x.rd 2=b1 at *;generalize FY p x.wr 2=b2 at *;generalize FY p x.fa 1=b3 at *;by_cases h1: -1<=x.of/\x.of<(k2:Int)
  .rw [decide_eq_true h1.1,decide_eq_true h1.2]at hR
   cases b1<;>cases b2<;>cases b3
   all_goals
    conv=>whnf
    repeat'((first|apply st|(apply sq;intro K U)|(apply si;intro A B hA hB)|(refine hA _ _ ?_;clear hB B hA A)|(apply U;clear U K)|refine⟨rfl,?_⟩|refine⟨kZ,?_⟩|refine ix ?_|refine ld ?_|refine Qe fun Z hs=>?_|refine Xe ?_|refine U0 ?_|refine Nn ?_|refine No ?_|(refine MN (fun hc=>?_)<;>(try rw[hc])<;>clear hc)|refine c1.use ?_|refine c2.use ?_|refine c3.use ?_|(constructor<;>intro hc<;>(try rw[hc])<;>(replace hc:=bp hc)<;>(try simp(disch:=omega) only[BW,wrap64,AJ]at hc)<;>try(exfalso;omega))|(intro nn hnn;generalize hg:BO _ nn _=Z;refine NY hg fun hs=>?_;clear hg)|clear U K)<;>conv=>whnf)
    all_goals first
     | exact⟨hlt,(),rfl,by simpa using hR,hs.less (NW _)⟩
     | exact AF (by rw[hR];rfl)
     | (exfalso;omega)
  .have hd:(decide (-1<=x.of)&&decide (x.of<(k2:Int)))=false:=by
    rw[Bool.eq_false_iff];intro hc;simp only[Ba,DG]at hc;exact h1 hc
   rw[hd,Bool.false_and,Bool.false_and,Bool.false_and]at hR
   conv=>whnf
   repeat'((first|apply st|(apply sq;intro K U)|(apply si;intro A B hA hB)|(refine hA _ _ ?_;clear hB B hA A)|(apply U;clear U K)|refine⟨rfl,?_⟩|refine⟨kZ,?_⟩|refine ix ?_|refine ld ?_|refine Qe fun Z hs=>?_|(refine MN (fun hc=>?_)<;>(try rw[hc])<;>clear hc)|(constructor<;>intro hc<;>(try rw[hc])<;>(replace hc:=bp hc)<;>(try simp(disch:=omega) only[BW,wrap64,AJ]at hc)<;>try(exfalso;omega))|(intro nn hnn;generalize hg:BO _ nn _=Z;refine NY hg fun hs=>?_;clear hg)|clear U K)<;>conv=>whnf)
   all_goals first
    | exact AF (by rw[hR])
    | (exfalso;omega)
 rw[Fq hke2,Ez,Fv]at hR
 conv=>whnf
 repeat'((first|apply st|(apply sq;intro K U)|(apply si;intro A B hA hB)|(refine hA _ _ ?_;clear hB B hA A)|(apply U;clear U K)|refine⟨rfl,?_⟩|(refine Qg (fun hc=>?_)<;>(try rw[hc])<;>clear hc)|clear U K)<;>conv=>whnf)
 all_goals try(exfalso;omega)
 refine Cc q.cls.length (fun k (_:Unit)=>[(9,eI (BU k))]) (fun _ _=>[]) (fun k _=>D3 p q=(q.cls.drop k).all (TS q.A0.length)) () rfl hR hs ?_;clear hs hR;rintro k3 - Z hk3 hR hs;have hck3:BU k3=k3:=AJ (by omega);rcases Bd q.cls hk3 with⟨x,hx,hlt⟩|hke3
 .rw [drop_cons hx,NV,TS]at hR
  by_cases h1: -1<=x/\x<(q.A0.length:Int)
  .rw[decide_eq_true h1.1,decide_eq_true h1.2,Bool.and_self,Fv]at hR
   conv=>whnf
   repeat'((first|apply st|(apply sq;intro K U)|(apply si;intro A B hA hB)|(refine hA _ _ ?_;clear hB B hA A)|(apply U;clear U K)|apply dr|refine⟨rfl,?_⟩|refine ix ?_|(refine MN (fun hc=>?_)<;>(try rw[hc])<;>clear hc)|(constructor<;>intro hc<;>(try rw[hc])<;>(replace hc:=bp hc)<;>(try simp(disch:=omega) only[BW,wrap64,AJ]at hc)<;>try(exfalso;omega))|clear U K)<;>conv=>whnf)
   all_goals first
    | exact⟨hlt,(),rfl,hR,hs⟩
    | (exfalso;omega)
  .have hd:(decide (-1<=x)&&decide (x<(q.A0.length:Int)))=false:=by
    rw[Bool.eq_false_iff];intro hc;simp only[Ba,DG]at hc;exact h1 hc
   rw[hd,Bool.false_and]at hR
   conv=>whnf
   repeat'((first|apply st|(apply sq;intro K U)|(apply si;intro A B hA hB)|(refine hA _ _ ?_;clear hB B hA A)|(apply U;clear U K)|apply dr|refine⟨rfl,?_⟩|refine ix ?_|(refine MN (fun hc=>?_)<;>(try rw[hc])<;>clear hc)|(constructor<;>intro hc<;>(try rw[hc])<;>(replace hc:=bp hc)<;>(try simp(disch:=omega) only[BW,wrap64,AJ]at hc)<;>try(exfalso;omega))|clear U K)<;>conv=>whnf)
   all_goals first
    | exact AF (by rw[hR])
    | (exfalso;omega)
 rw[Fq hke3,List.all_nil]at hR
 conv=>whnf
 repeat'((first|apply st|(apply sq;intro K U)|(apply si;intro A B hA hB)|(refine hA _ _ ?_;clear hB B hA A)|(apply U;clear U K)|refine⟨rfl,?_⟩|(refine Qg (fun hc=>?_)<;>(try rw[hc])<;>clear hc)|clear U K)<;>conv=>whnf)
 all_goals first
  | exact AF (by rw[hR])
  | (exfalso;omega)
def fU (p:Prog) (q:II) (hq:CJ q=true):Pure zP 32 [.a (A7 p),.a (FG q)] (eI (if F5 p q then 0 else 2)):=by
 have c1:=Qw p;have c2:=WI p q hq;rw[F5];cases h1:(BI p).isSome<;>cases h2:D3 p q<;>rw[h1]at c1<;>rw[h2]at c2
 all_goals
  refine iR kZ ?_;have hs:=Sn
  conv=>whnf
  repeat'((first|apply st|(apply sq;intro K U)|(apply si;intro A B hA hB)|(refine hA _ _ ?_;clear hB B hA A)|(apply U;clear U K)|refine⟨kZ,?_⟩|refine Xe ?_|refine U0 ?_|refine Nn ?_|refine No ?_|refine c1.use ?_|refine c2.use ?_|clear U K)<;>conv=>whnf)
  all_goals exact AF rfl
def ot (p:Prog) (c:Int):Pure zP 79 [.a (A7 p),eI c] (.b (IL p c)):=by
 refine Pure.fit (by kernel_rfl) fun hf=>?_
 have⟨p1,p2,p3,p4⟩:=D8 hf.1;have hM:=Mx;have e3:((p.AG.map Hm).length:Int)=p.AG.length:=by simp
 have hw:IntKind.i64.wrap (3+((p.AG.map Hm).length:Int))=3+(p.AG.length:Int):=by rw[e3,wrap64 (by omega) (by omega)]
 rw[IL];by_cases h1:3<=c
 .rw[decide_eq_true h1,Fv]
  refine Z8 kZ ?_;have hs:=Sn
  conv=>whnf
  repeat'((first|apply st|(apply sq;intro K U)|(apply si;intro A B hA hB)|(refine hA _ _ ?_;clear hB B hA A)|(apply U;clear U K)|refine⟨rfl,?_⟩|(constructor<;>intro hc<;>(try rw[hc])<;>(replace hc:=bp hc)<;>try(exfalso;omega))|fail)<;>conv=>whnf)
  all_goals first
   | exact AF (by rw[hw];rfl)
   | (exfalso;omega)
 .rw[decide_eq_false h1,Bool.false_and]
  refine Z8 kZ ?_;have hs:=Sn
  conv=>whnf
  repeat'((first|apply st|(apply sq;intro K U)|(apply si;intro A B hA hB)|(refine hA _ _ ?_;clear hB B hA A)|(apply U;clear U K)|refine⟨rfl,?_⟩|(constructor<;>intro hc<;>(try rw[hc])<;>(replace hc:=bp hc)<;>try(exfalso;omega))|fail)<;>conv=>whnf)
  all_goals first
   | exact AF rfl
   | (exfalso;omega)
end Go.Gl
