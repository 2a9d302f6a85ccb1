import Derived.Test.YtnidfcmdimehdaaGreatU14
import Derived.Test.YtnidfcmdimehdaaGreatU21
import Derived.Test.YtnidfcmdimehdaaGreatU29
import Derived.Test.YtnidfcmdimehdaaGreatU30
import Derived.Test.YtnidfcmdimehdaaGreatU31
import Derived.Test.YtnidfcmdimehdaaGreatU32
set_option linter.all false
set_option linter.defProp false
set_option maxHeartbeats 8000000
noncomputable section
namespace Go.Gl
open Go.Proofs
attribute [local irreducible] As Af AV AQ AI AU AP AR AJ AT AM AN Ag Ar Sat AS Ap AX W
def Zs (a:Int) (n:Nat) (h1:1<=n) (hn:n<=120):BL zP 53 [.l [[eI a]] true,eI n] [] fun r post=> ∃v,r= .ret v/\post= [.own v 1 (iL (List.replicate n a))]/\(Bd v).isSome=true:=by
 intro Z hs;have hM:=Mx;have hw1:IntKind.u64.wrap 1=1:=rfl;have hwn:IntKind.u64.wrap (n:Int)=n:=IB (by omega);have hwi:IntKind.i64.wrap (n:Int)=n:=wrap64 (by omega) (by omega);refine zM kZ ?_
 conv=>whnf
 repeat'((first|clear U K|apply st|(apply zk;intro K U)|refine zY ?_|(refine zb (fun hc=>?_) (fun hc=>?_)<;>try exact⟨⟩)|fail)<;>conv=>whnf)
 rw[show IntKind.u64.wrap (([[eI a]]:List (List V)).length:Nat)=1 from rfl,hwn];refine(sL n hn).use ?_
 conv=>whnf
 repeat'((first|clear U K|apply st|(apply zk;intro K U)|refine zY ?_|(refine zb (fun hc=>?_) (fun hc=>?_)<;>try exact⟨⟩)|fail)<;>conv=>whnf)
 all_goals try(exfalso;omega)
 rw[hwi];refine lk hs (G0 n) (by omega) fun v Z hs hv=>?_
 obtain⟨id,rfl⟩:=hv
 conv=>whnf
 repeat'((first|clear U K|apply st|(apply zk;intro K U)|fail)<;>conv=>whnf)
 refine ye hs 0 (ys:=[[eI a]]) rfl (by simp;omega) (fun e he=>by simp at he;subst he;rfl) (fun e he v hv=>by simp at he;subst he;simp at hv;subst hv;rfl) fun Z hs=>?_
 have hst:([[eI a]]:List (List V))++(List.replicate n [V.i .i64 0]).drop ([[eI a]]:List (List V)).length=List.replicate 1 [eI a]++List.replicate (n - 1) [eI 0]:=by simp[List.drop_replicate]
 rw[hst]at hs;refine zz ?_;(repeat clear U K);repeat intro K U
 refine DD (fun m:Nat=>n - m) (fun m=>[(8,eI m)]) (fun m=>[.own (.sl id n n) 1 (List.replicate m [eI a]++List.replicate (n - m) [eI 0])]) (fun m=>1<=m/\m<=n) 1 rfl ⟨by omega,h1⟩ hs ?_;clear hs hst;rintro m Z ⟨hm1,hmn⟩ hs
 have hgl: ∀e∈(List.replicate m [eI a]++List.replicate (n - m) [eI 0]:List (List V)),e.length=1/\ ∀v∈e,DL v=true:=fun e he=>by
  rcases Du.1 he with he|he
  .rw[(List.mem_replicate.1 he).2];exact⟨rfl,fun v hv=>by simp at hv;subst hv;rfl⟩
  .rw[(List.mem_replicate.1 he).2];exact⟨rfl,fun v hv=>by simp at hv;subst hv;rfl⟩
 have hlen:(List.replicate m [eI a]++List.replicate (n - m) [eI 0]:List (List V)).length=n:=by simp;omega
 rcases Nat.lt_or_ge m n with hlt|hge
 .have hcpy:(List.replicate m [eI a]++List.replicate (n - m) [eI 0]:List (List V)).take m++(((List.replicate m [eI a]++List.replicate (n - m) [eI 0]:List (List V)).take m).take (min m (n - m))++(List.replicate m [eI a]++List.replicate (n - m) [eI 0]:List (List V)).drop (m+min m (n - m)))=List.replicate (m+min m (n - m)) [eI a]++List.replicate (n - (m+min m (n - m))) [eI 0]:=by
   have e1:(List.replicate m [eI a]++List.replicate (n - m) [eI 0]:List (List V)).take m=List.replicate m [eI a]:=by
    rw[List.take_append_of_le_length (by simp)];simp
   rw[e1,List.take_replicate,List.drop_append,List.drop_replicate,List.drop_replicate,List.length_replicate,<-NJ,List.replicate_append_replicate];have e2:m - (m+min m (n - m))=0:=by omega
   have e3:n - m - (m+min m (n - m) - m)=n - (m+min m (n - m)):=by omega
   rw[e2,e3,List.replicate_zero,List.nil_append];congr 2;omega
  conv=>whnf
  repeat'((first|clear U K|apply st|(apply zk;intro K U)|refine zY ?_|(refine zb (fun hc=>?_) (fun hc=>?_)<;>try exact⟨⟩)|fail)<;>conv=>whnf)
  all_goals try(exfalso;omega)
  refine eM ?_;refine zz ?_;(repeat clear U K);repeat intro K U
  refine qd ?_;refine zz ?_;(repeat clear U K);repeat intro K U
  rw[FZ,show((n:Int) - m).toNat=n - m by omega];refine yd hs 0 rfl (by rw[hlen];omega) (by rw[hlen];omega) (fun e he=>(hgl e he).1) (fun e he=>(hgl e he).2) fun Z hs=>?_
  rw[hcpy]at hs;refine zz ?_;(repeat clear U K);repeat intro K U
  refine⟨m+min m (n - m),by omega,?_,⟨by omega,by omega⟩,hs⟩;rw[wrap64 (by omega) (by omega)];rfl
 .have hme:m=n:=by omega
  subst hme
  conv=>whnf
  repeat'((first|clear U K|apply st|(apply zk;intro K U)|refine zY ?_|(refine zb (fun hc=>?_) (fun hc=>?_)<;>try exact⟨⟩)|fail)<;>conv=>whnf)
  all_goals try(exfalso;omega)
  refine Aj hs (List.Sublist.refl _) (.refl _) fun Z' hs'=>⟨_,⟨_,rfl,?_,rfl⟩,hs'⟩
  simp[iL]
def cF (n:Nat) (h1:1<=n) (hn:n<=120):BL zP 53 [.l [[eI (-1)]] true,eI n] [] fun r post=> ∃v,r= .ret v/\post= [.own v 1 (iL (List.replicate n (-1)))]/\(Bd v).isSome=true:=Zs (-1) n h1 hn
def Mq {p:Prog} (h:BA p=true):CS (AG p)/\Bl p.AK<=40/\p.AK.length<=10:=by
 have h1:=h;rw[RV]at h1;simp only[A7,CF]at h1;have h2:=h;simp only[BA,A7,CF]at h2;have hm:=(Fj _ _ h2.2.1).1;refine⟨⟨D8 h1.2.2.2.1,?_,fun o ho=>?_⟩,by omega,h1.1⟩
 .rw[AG,CX];omega
 .have:=GQ ho
  simp only[AG,A0,Bh];omega
def lF (s:List Int):Prop:= ∀x∈s,(-1:Int)<=x
def np {s:List Int} (h:lF s) (i:Nat) {x:Int} (hx:0<=x):lF (s.set i x):=fun y hy=>by
 rcases List.mem_or_eq_of_mem_set hy with hy|rfl
 .exact h y hy
 .omega
def WW {f:Int->Int->List Int->Option (List Int)} (hf: ∀ {a b s s'},0<=b->f a b s=some s'->lF s->lF s') {op size:Int} (h0:0<=size): ∀(i:Nat) (l:List Int) {s s':List Int},Fy f op size i l s=some s'->lF s->lF s'
 | _,[],s,s',h,hs=>by cases h;exact hs
 | i,k::r,s,s',h,hs=>by
   simp only[Fy]at h;split at h
   .cases h
   .rename_i s1 h1
    refine WW hf h0 (i+1) r h (hf ?_ h1 hs);split<;>omega
def MX {p:Prog} {next:Bool}: ∀(d:Nat) {n size:Int} {s s':List Int},0<=size->CK p next d n size s=some s'->lF s->lF s'
 | 0,_,_,_,_,_,h,_=>by cases h
 | d + 1,n,size,s,s',h0,h,hs=>by
   simp only[CK]at h;split at h
   .cases h
   .split at h
    .cases h
    .split at h
     .exact WW (fun hb h hs=>MX d hb h hs) h0 0 _ h (np hs _ h0)
     .cases h
def nq {s:List Int} (h:lF s):(s.all fun n=>decide (0<=n))= !s.contains (-1):=by
 rw[KF];simp only[DT,CF,Bool.not_eq_true',<-Bool.not_eq_true,List.contains_iff_mem];constructor
 .intro h1 h2
  have:=h1 _ h2;omega
 .intro h1 x hx
  have:=h x hx;rcases Int.lt_or_le x 0 with hlt|hle
  .exact absurd ((show x= -1 by omega) ▸ hx) h1
  .exact hle
def xN (p:Prog) (nO:Nat) (r:R) (Z:AD):Prop:=
 match BQ p with
 | some s=>r= .ret (.t [])/\ ∃v,Sat Z [.box nO [v],.own v 1 (iL s)]
 | none=>r= .Cu D4/\ ∃v s,Sat Z [.box nO [v],.own v 1 (iL s)]
def bP {p:Prog} {nO:Nat} {Z:AD} {v:V} {s:List Int} {l:List At} (h:BQ p=none) (hs:Sat Z l) (hsub: [At.box nO [v],.own v 1 (iL s)].Sublist l):AV Z D4 (xN p nO):=DQ (by
 rw[xN,h]
 exact⟨rfl,v,s,hs.less hsub⟩)
def szT {p:Prog} {nO:Nat} {Z:AD} {v:V} {s:List Int} {l:List At} (h:BQ p=some s) (hs:Sat Z l) (hsub: [At.box nO [v],.own v 1 (iL s)].Sublist l):Af Z (.t []) (xN p nO):=AH (by
 rw[xN,h]
 exact⟨rfl,v,hs.less hsub⟩)
def T3 {p:Prog} (h:Cx p=false):BQ p=none:=by unfold BQ;rw[h];rfl
def oZ {w:AE} {f:Fact} (h:Bv w f=true):SS f=true:=Q8 (w:=w) f (by simp only[Bv,A7]at h;exact h.2.2)
def RM {w:AE} (hw:CS w) (f:Fact):Pure zP 116 [.a (Ax w),.a (xF f)] (eI (if Bv w f then 0 else 2)):=by
 rw[<-Um];exact dj w hw f
def cN {α:Type} (a b c:α): [a,b,c].Perm [c,b,a]:=by simpa using(List.reverse_perm [a,b,c]).symm
def jF (p : Prog) (nO:Nat) (Z:AD) (hs:Sat Z [.box nO [.l [] true]]):As zP 243 [.rp (A3 p),.p nO 0] Z (xN p nO):=by
 refine As.fit (by kernel_rfl) fun hf=>?_
 have hM:=Mx
 have hfp:Fb (.a (A3 p)):=by
  have:=hf.1;simp only[Un]at this;simpa only[Hk]using this
 have⟨p1,p2,p3,p4⟩:=F0 hfp;refine uT kZ ?_;have hcl:=ZF p;replace hs:Sat Z [.box nO [.l [] true],.own (.l [] true) 1 (iL [])]:=Ce hs 1;cases hcB:BA p with
 | false=>
   rw[hcB]at hcl
   conv=>whnf
   repeat'((first|apply st|(apply sq;intro K U)|(apply si;intro A B hA hB)|refine⟨kZ,?_⟩|fail)<;>conv=>whnf)
   refine hcl.use (pre:=[]) (rest:=[.box nO [.l [] true],.own (.l [] true) 1 (iL [])]) hs ?_;rintro r post Z ⟨rfl,rfl⟩ hs
   conv=>whnf
   repeat'((first|(refine hB _ _ _ ?_;clear hB B hA A)|clear U K)<;>conv=>whnf)
   exact bP (T3 (by simp[Cx,hcB])) hs (.refl _)
 | true=>
   rw[hcB]at hcl;obtain⟨hgW,hmS,h10⟩:=Mq hcB
   conv=>whnf
   repeat'((first|apply st|(apply sq;intro K U)|(apply si;intro A B hA hB)|refine⟨kZ,?_⟩|fail)<;>conv=>whnf)
   refine hcl.use (pre:=[]) (rest:=[.box nO [.l [] true],.own (.l [] true) 1 (iL [])]) hs ?_;clear hs;rintro r post Z ⟨rfl,rfl⟩ hs
   conv=>whnf
   repeat'((first|apply st|(apply sq;intro K U)|(apply si;intro A B hA hB)|(refine hA _ _ ?_;clear hB B hA A)|(refine hB _ _ _ ?_;clear hB B hA A)|(apply U;clear U K)|refine⟨rfl,?_⟩|(refine Cl (fun hc=>?_) (fun hc=>?_)<;>(replace hc:=bp hc)<;>(try simp(disch:=omega) only[Bh,wrap64,AW]at hc)<;>(try(cases hc;done)))|(constructor<;>intro hc<;>(try rw[hc])<;>(replace hc:=bp hc)<;>(try simp(disch:=omega) only[Bh,wrap64,AW]at hc))|clear U K)<;>conv=>whnf)
   rotate_left
   all_goals first
    | exact bP (T3 (by simp[Cx, *];intros;omega)) hs (.refl _)
    | skip
   have a1:p.Cc.length<=8:=by omega
   have a2:p.methods.length<=16:=by omega
   have a3:1<=p.nodes.length:=by omega
   have a4:p.nodes.length<=120:=by omega
   have hg:Cx p=p.Cc.all fun g=>decide (1<=g)&&decide (g<=3):=by
    simp only[Cx,a1,a2,a3,a4,decide_true,Db];simp[*]
   refine Ba p.Cc.length (fun k (_:Unit)=>[(36,eI (Au k))]) (fun _ _=>[.box nO [.l [] true],.own (.l [] true) 1 (iL [])]) (fun k _=>Cx p=(p.Cc.drop k).all fun g=>decide (1<=g)&&decide (g<=3)) () rfl (by simpa using hg) hs ?_;clear hs hg;rintro k - Z hk hn hs;rcases Aw p.Cc hk with⟨g,hgk,hlt⟩|hke
   .rw[drop_cons hgk,Jd]at hn
    conv=>whnf
    repeat'((first|apply st|(apply sq;intro K U)|(apply si;intro A B hA hB)|(refine hA _ _ ?_;clear hB B hA A)|(refine hB _ _ _ ?_;clear hB B hA A)|(apply U;clear U K)|refine⟨rfl,?_⟩|refine ix ?_|(refine qU (fun hc=>?_)<;>(try rw[hc])<;>clear hc)|(refine Cl (fun hc=>?_) (fun hc=>?_)<;>(replace hc:=bp hc)<;>(try simp(disch:=omega) only[Bh,wrap64,AW]at hc)<;>(try(cases hc;done)))|(constructor<;>intro hc<;>(try rw[hc])<;>(replace hc:=bp hc))|clear U K)<;>conv=>whnf)
    .exact⟨hlt,(),rfl,by rw[hn];simp[*],hs⟩
    .exact bP (T3 (by rw[hn,decide_eq_false (show¬g<=3 by omega)];simp)) hs (.refl _)
    .exact bP (T3 (by rw[hn,decide_eq_false (show¬1<=g by omega)];simp)) hs (.refl _)
   .have hh : Cx p=true:=by rw[hn,Ad hke];rfl
    have hL:=aF hh;clear hn
    conv=>whnf
    repeat'((first|apply st|(apply sq;intro K U)|(apply si;intro A B hA hB)|(refine hA _ _ ?_;clear hB B hA A)|(apply U;clear U K)|refine⟨rfl,?_⟩|(refine qT (fun hc=>?_)<;>(try rw[hc])<;>clear hc)|clear U K)<;>conv=>whnf)
    rw[Bh];refine(cF p.nodes.length a3 a4).use (pre:=[]) (rest:=[.box nO [.l [] true],.own (.l [] true) 1 (iL [])]) hs ?_;clear hs;rintro r post Z ⟨v,rfl,rfl,hv⟩ hs
    conv=>whnf
    repeat'((first|apply st|(apply sq;intro K U)|(apply si;intro A B hA hB)|(refine hA _ _ ?_;clear hB B hA A)|(apply U;clear U K)|refine⟨kZ,?_⟩|refine xO fun Z hs=>?_|refine ZL fun Z hs=>?_|refine Pure.use (Vm p (by omega) (by omega)) ?_|(intro nn hnn;generalize hg:Bz _ nn _=Z;refine bT hg fun hs=>?_;clear hg)|fail)<;>conv=>whnf)
    rename_i nw hnw _ hs;generalize nn=n5 at *;replace hs:=hs.less (show [At.box n5 (Ax (AG p)),.own v 1 (iL (List.replicate p.nodes.length (-1))),.box nO [v]].Sublist _ from .cons₂ _ (.cons₂ _ (.cons₂ _ (.cons _ .slnil))));refine Ba p.methods.length (fun k (s:List Int)=>[(59,eI (Au k))]) (fun _ s=>[.box nO [v],.own v 1 (iL s),.box n5 (Ax (AG p))]) (fun k s=>s.length=p.nodes.length/\lF s/\BQ p=K6 p (runM p (p.methods.drop k) s)) (List.replicate p.nodes.length (-1)) rfl ⟨by simp,fun x hx=>by rw[List.eq_of_mem_replicate hx];omega,hL⟩ (hs.perm (cN _ _ _)) ?_;clear hs hnw hnn;rintro k s Z hk ⟨hl,hge,hn⟩ hs;rcases Aw p.methods hk with⟨m,hm,hlt⟩|hke
    .have hF:=RM hgW m.fact
     cases hfB:Bv (AG p) m.fact with
     | false=>
       rw[hfB,if_neg Bool.false_ne_true]at hF;have hno:=Dd hm hn (by simp[PW,hfB])
       conv=>whnf
       repeat'((first|apply st|(apply sq;intro K U)|(apply si;intro A B hA hB)|(refine hA _ _ ?_;clear hB B hA A)|(refine hB _ _ _ ?_;clear hB B hA A)|(refine hB _ _ fun Z hsub=>?_;clear hB B hA A)|(apply U;clear U K)|apply dr|refine rk ?_ ?_|exact fun s e=>by cases e;rfl|refine⟨rfl,?_⟩|refine⟨kZ,?_⟩|refine ix ?_|refine ld ?_|refine ZL fun Z hs=>?_|(refine qU (fun hc=>?_)<;>(try rw[hc])<;>clear hc)|(refine Cl (fun hc=>?_) (fun hc=>?_)<;>(replace hc:=bp hc)<;>(try simp(disch:=omega) only[Bh,wrap64,AW]at hc)<;>(try(cases hc;done)))|refine hF.use ?_|(constructor<;>intro hc<;>(try rw[hc])<;>(replace hc:=bp hc)<;>try(exfalso;omega))|(intro nn hnn;generalize hg:Bz _ nn _=Z;refine bT hg fun hs=>?_;clear hg)|clear U K)<;>conv=>whnf)
       all_goals first
        | (refine bP (v:=v) (s:=s) hno hs ?_;(repeat first|exact Ie _|apply List.Sublist.cons₂|apply List.Sublist.cons);done)
        | (refine bP (v:=v) (s:=s) hno (hs.up (by assumption)) ?_;(repeat first|exact Ie _|apply List.Sublist.cons₂|apply List.Sublist.cons);done)
        | skip
     | true=>
       rw[hfB,if_pos rfl]at hF;have hsp:=b7 _ (oZ hfB)
       conv=>whnf
       repeat'((first|apply st|(apply sq;intro K U)|(apply si;intro A B hA hB)|(refine hA _ _ ?_;clear hB B hA A)|(refine hB _ _ _ ?_;clear hB B hA A)|(refine hB _ _ fun Z hsub=>?_;clear hB B hA A)|(apply U;clear U K)|apply dr|refine rk ?_ ?_|exact fun s e=>by cases e;rfl|refine⟨rfl,?_⟩|refine⟨kZ,?_⟩|refine ix ?_|refine iqk ?_|refine iq fun x hx=>?_|refine ld ?_|refine ZL fun Z hs=>?_|(refine qU (fun hc=>?_)<;>(try rw[hc])<;>clear hc)|(refine Cl (fun hc=>?_) (fun hc=>?_)<;>(replace hc:=bp hc)<;>(try simp(disch:=omega) only[Bh,wrap64,AW]at hc)<;>(try(cases hc;done)))|refine hF.use ?_|refine hsp.use ?_|(constructor<;>intro hc<;>(try rw[hc])<;>(replace hc:=bp hc)<;>(try simp(disch:=omega) only[Bh,wrap64,AW]at hc)<;>try(exfalso;omega))|(intro nn hnn;generalize hg:Bz _ nn _=Z;refine bT hg fun hs=>?_;clear hg)|clear U K)<;>conv=>whnf)
       all_goals first
        | (refine bP (v:=v) (s:=s) (Dd hm hn ?_) hs ?_;(simp[PW, *];intros;omega);(repeat first|exact Ie _|apply List.Sublist.cons₂|apply List.Sublist.cons);done)
        | (refine bP (v:=v) (s:=s) (Dd hm hn ?_) (hs.up (by assumption)) ?_;(simp[PW, *];intros;omega);(repeat first|exact Ie _|apply List.Sublist.cons₂|apply List.Sublist.cons);done)
        | skip
       rotate_left 2
       .refine bP (v:=v) (s:=s) (Dd hm hn ?_) (hs.up (by assumption)) ?_
        .simp only[PW,show p.Cc.getD m.gen.toNat 0=x by rw[Co,hx];rfl,decide_eq_false (show¬Gd m.fact<=x by omega),Bool.and_false]
        .repeat first|exact Ie _|apply List.Sublist.cons₂|apply List.Sublist.cons
       all_goals
        have hx13:=S4 hh hx;have hgd:p.Cc.getD m.gen.toNat 0=x:=by rw[Co,hx];rfl
        have hok:PW p m=true:=by simp only[PW,hgd,A7,CF];exact⟨by omega,by omega,by omega,by omega,hfB,by assumption⟩
        have hgo:=fun s'=>Zq (s':=s') hm hn hok
        have hno:=Sj hm hn hok;rw[hgd]at hgo hno
       .have hnb:K5 m.kind=(m.kind==4):=by simp[K5, *]
        rw[hnb]at hgo hno;refine A6 ((Uq p (m.kind==4) hv m.node x s (by omega) (by omega) hl [.box n5 (Ax (AG p))] Z (hs.less (.cons _ (.refl _)))).mono ?_);cases hw:CK p (m.kind==4) 12 m.node x s with
        | none=>
          clear hs;rintro r Z' ⟨rfl,s',hl',hs⟩
          conv=>whnf
          repeat'((first|(refine hB _ _ fun Z hsub=>?_;clear hB B hA A)|clear U K)<;>conv=>whnf)
          exact bP (v:=v) (s:=s') (hno hw) (hs.up (by assumption)) (.cons₂ _ (.cons₂ _ (Ie _)))
        | some s2=>
          clear hs;rintro r Z' ⟨rfl,hs⟩
          conv=>whnf
          repeat'((first|(apply si;intro A B hA hB)|(refine hA _ _ ?_;clear hB B hA A)|(apply U;clear U K)|apply dr|refine⟨rfl,?_⟩|clear U K)<;>conv=>whnf)
          exact⟨hlt,s2,rfl,⟨(KY _ hw).trans hl,MX _ (by omega) hw hge,hgo s2 hw⟩,hs⟩
       .have hnb:K5 m.kind=true:=by simp[K5, *]
        rw[hnb]at hgo hno;refine A6 ((Uq p true hv m.node x s (by omega) (by omega) hl [.box n5 (Ax (AG p))] Z (hs.less (.cons _ (.refl _)))).mono ?_);cases hw:CK p true 12 m.node x s with
        | none=>
          clear hs;rintro r Z' ⟨rfl,s',hl',hs⟩
          conv=>whnf
          repeat'((first|(refine hB _ _ fun Z hsub=>?_;clear hB B hA A)|clear U K)<;>conv=>whnf)
          exact bP (v:=v) (s:=s') (hno hw) (hs.up (by assumption)) (.cons₂ _ (.cons₂ _ (Ie _)))
        | some s2=>
          clear hs;rintro r Z' ⟨rfl,hs⟩
          conv=>whnf
          repeat'((first|(apply si;intro A B hA hB)|(refine hA _ _ ?_;clear hB B hA A)|(apply U;clear U K)|apply dr|refine⟨rfl,?_⟩|clear U K)<;>conv=>whnf)
          exact⟨hlt,s2,rfl,⟨(KY _ hw).trans hl,MX _ (by omega) hw hge,hgo s2 hw⟩,hs⟩
    .subst hke
     rw[List.drop_length,runM]at hn
     conv=>whnf
     repeat'((first|apply st|(apply sq;intro K U)|(apply si;intro A B hA hB)|(refine hA _ _ ?_;clear hB B hA A)|(apply U;clear U K)|refine⟨rfl,?_⟩|refine⟨kZ,?_⟩|refine ix ?_|refine ld ?_|refine ZL fun Z hs=>?_|(refine fc (fun x hx hlt hc=>?_) (fun hk hc=>?_)<;>(try rw[hc])<;>clear hc)|(constructor<;>intro hc<;>(try rw[hc])<;>(replace hc:=bp hc)<;>try(exfalso;omega))|(intro nn hnn;generalize hg:Bz _ nn _=Z;refine bT hg fun hs=>?_;clear hg)|clear U K)<;>conv=>whnf)
     rw[K6]at hn;refine A6 ((Uq p false hv p.main 0 s (by omega) (by omega) hl [.box n5 (Ax (AG p))] Z hs).mono ?_);cases hw:CK p false 12 p.main 0 s with
     | none=>
       rw[hw]at hn;clear hs;rintro r Z' ⟨rfl,s',hl',hs⟩
       conv=>whnf
       repeat'((first|(refine hB _ _ _ ?_;clear hB B hA A)|clear U K)<;>conv=>whnf)
       exact bP (v:=v) (s:=s') hn hs (.cons₂ _ (.cons₂ _ (Ie _)))
     | some s2=>
       rw[hw]at hn;have hge2:=MX _ (by omega) hw hge;simp only[nq hge2]at hn;clear hs;rintro r Z' ⟨rfl,hs⟩;have hct:=fun f=>CP s2 f (-1)
       cases hyes:s2.contains (-1)with
       | true=>
         rw[hyes]at hct hn
         conv=>whnf
         repeat'((first|(apply si;intro A B hA hB)|(refine hA _ _ ?_;clear hB B hA A)|(apply U;clear U K)|refine ld ?_|fail)<;>conv=>whnf)
         refine Pure.LO (hct false) (.cons (hs.Ic 1 rfl) (.cons (.refl _) .nil)) rfl ?_
         conv=>whnf
         repeat'((first|(refine hB _ _ _ ?_;clear hB B hA A)|(refine Cl (fun hc=>?_) (fun hc=>?_)<;>(replace hc:=bp hc)<;>(try simp(disch:=omega) only[Bh,wrap64,AW]at hc)<;>(try(cases hc;done)))|fail)<;>conv=>whnf)
         all_goals exact bP (v:=v) (s:=s2) hn (by first|exact hs|exact hs.up (by assumption)) (.cons₂ _ (.cons₂ _ (Ie _)))
       | false=>
         rw[hyes]at hct hn
         conv=>whnf
         repeat'((first|(apply si;intro A B hA hB)|(refine hA _ _ ?_;clear hB B hA A)|(apply U;clear U K)|refine ld ?_|fail)<;>conv=>whnf)
         refine Pure.LO (hct false) (.cons (hs.Ic 1 rfl) (.cons (.refl _) .nil)) rfl ?_
         conv=>whnf
         repeat'((first|(refine hA _ _ ?_;clear hB B hA A)|(refine Cl (fun hc=>?_) (fun hc=>?_)<;>(replace hc:=bp hc)<;>(try simp(disch:=omega) only[Bh,wrap64,AW]at hc)<;>(try(cases hc;done)))|fail)<;>conv=>whnf)
         all_goals exact szT (v:=v) hn hs (.cons₂ _ (.cons₂ _ (Ie _)))
attribute [local irreducible] Oz
def szP (p:Prog) (nO:Nat) (r:R) (post:List At):Prop:=
 match BQ p with
 | some s=>r= .ret (.t [])/\ ∃v,post= [.box nO [v],.own v 1 (iL s)]
 | none=>r= .Cu D4/\ ∃v s,post= [.box nO [v],.own v 1 (iL s)]
def cA (p:Prog) (nO:Nat):BL zP 243 [.rp (A3 p),.p nO 0] [.box nO [.l [] true]] (szP p nO):=fun Z hs=>
 As.mono (jF p nO Z hs) fun r Z' hq=>by
  unfold xN at hq;unfold szP;cases h:BQ p with
  | some s=>
    rw[h]at hq;obtain⟨h1,v,h2⟩:=hq;exact⟨_,⟨h1,v,rfl⟩,h2⟩
  | none=>
    rw[h]at hq;obtain⟨h1,v,s,h2⟩:=hq;exact⟨_,⟨h1,v,s,rfl⟩,h2⟩
def oI {Z:AD} {n:Nat} {x:V} {rest:List At} (hs:Sat Z (.box n [x]::rest)) {Q:AD->Prop} (hq: ∀Z',Sat Z' (.box n [.b false]::rest)->Q Z'):Oz zP 288 [.p n 0] (some D4) Z Q:=by
 refine aw kZ ?_
 conv=>whnf
 repeat'((first|clear U K|apply st|(apply zk;intro K U)|refine zY ?_|refine zs fun Z hs=>?_|refine qZ rfl ?_|refine zo fun nn hnn Z hs=>?_|fail)<;>conv=>whnf)
 exact hq _ (hs.less (HU _ _))
def oJ {Z:AD} {n:Nat} {x:V} {rest:List At} (hs:Sat Z (.box n [x]::rest)) {Q:AD->Prop} (hq: ∀Z',Sat Z' (.box n [x]::rest)->Q Z'):Oz zP 288 [.p n 0] none Z Q:=by
 refine aw kZ ?_;refine zz ?_;(repeat clear U K);repeat intro K U
 exact hq _ hs
def dJ (p:Prog) (nO:Nat):BL zP 242 [.f (.func 243) [] [.rp (A3 p),.p nO 0]] [.box nO [.l [] true]] fun r post=>r= .ret (.b (BQ p).isSome)/\ ∃v s,post= [.box nO [v],.own v 1 (iL s)]/\(BQ p=none\/BQ p=some s):=by
 intro Z hs;refine uU kZ ?_
 conv=>whnf
 repeat'((first|clear U K|apply st|(apply zk;intro K U)|refine zo fun nn hnn Z hs=>?_|fail)<;>conv=>whnf)
 refine A6 ?_;refine(cA p nO).use (rest:=[.box nn [.b false]]) (hs.perm (.swap _ _ _)) ?_;clear hs hnn;rintro r post Z hq hs;unfold szP at hq;cases h:BQ p with
 | none=>
   rw[h]at hq;obtain⟨rfl,v,s,rfl⟩:=hq
   conv=>whnf
   repeat'((first|clear U K|apply st|fail)<;>conv=>whnf)
   refine oI (rest:=[.box nO [v],.own v 1 (iL s)]) (hs.perm NF) fun Z hs=>?_
   refine zz ?_;(repeat clear U K);repeat intro K U
   exact AH ⟨_,⟨by rw[h];rfl,v,s,rfl,.inl h⟩,hs.less (HU _ _)⟩
 | some s=>
   rw[h]at hq;obtain⟨rfl,v,rfl⟩:=hq
   conv=>whnf
   repeat'((first|clear U K|apply st|(apply zk;intro K U)|refine zs fun Z hs=>?_|fail)<;>conv=>whnf)
   replace hs:Sat Z ([.box nO [v],.own v 1 (iL s)]++[.box nn [.b true]]):=hs;refine oJ (x:= .b true) (rest:=[.box nO [v],.own v 1 (iL s)]) (hs.perm NF) fun Z hs=>?_
   refine zz ?_;(repeat clear U K);repeat intro K U
   exact AH ⟨_,⟨by rw[h];rfl,v,s,rfl,.inr h⟩,hs.less (HU _ _)⟩
def jG (p:Prog):BL zP 201 [.a (A3 p)] [] fun r post=> ∃v s,r= .ret (.t [v,.b (BQ p).isSome])/\post= [.own v 1 (iL s)]/\(BQ p=none\/BQ p=some s):=by
 intro Z hs;refine vA kZ ?_
 conv=>whnf
 repeat'((first|clear U K|apply st|(apply zk;intro K U)|refine zo fun nn hnn Z hs=>?_|fail)<;>conv=>whnf)
 refine(dJ p nn).use (rest:=[]) (by simpa using hs) ?_;clear hs;rintro r post Z ⟨rfl,v,s,rfl,hl⟩ hs;refine zz ?_;(repeat clear U K);repeat intro K U
 exact AH ⟨_,⟨v,s,rfl,rfl,hl⟩,hs.less (.cons _ (.cons₂ _ (Ie _)))⟩
def W7 (p:Prog):Pure zP 142 [.a (A3 p)] (eI (if(BQ p).isSome then 0 else 2)):=by
 refine Pure.of ?_;have hz:=jG p;cases h:(BQ p).isSome<;>rw[h]at hz
 all_goals
  refine wE kZ ?_;have hs:=Sn;refine zz ?_;(repeat clear U K);repeat intro K U
  refine hz.use (rest:=[]) (by simpa using hs) ?_;clear hs;rintro r post Z ⟨v,s,rfl,rfl,-⟩ hs;refine zz ?_;(repeat clear U K);repeat intro K U
  exact AH rfl
def yU {p:Prog} (h:(BQ p).isSome=true):Bl p.AK<=40:=by
 obtain⟨hh,-⟩:=E3 h;simp only[Cx,A7,CF]at hh;exact(Mq hh.1).2.1
def UB {p:Prog} (h:(BQ p).isSome=true):p.AK.length<=10:=by
 obtain⟨hh,-⟩:=E3 h;simp only[Cx,A7,CF]at hh;exact(Mq hh.1).2.2
def Jr {p:Prog} (h:(BQ p).isSome=true):CS (AG p):=by
 obtain⟨hh,-⟩:=E3 h;simp only[Cx,A7,CF]at hh;exact(Mq hh.1).1
def PR (p:Prog):Pure zP 99 [.a (A3 p)] (if(BQ p).isSome then .t [.a (Ax (AG p)),eI 0]else .t [.a [.l [] true,.l [] true],eI 2]):=by
 have hz:=W7 p;have hM:=Mx;cases h:(BQ p).isSome<;>rw[h]at hz
 .simp only[Jc,if_false]at hz ⊢
  refine pf kZ ?_;have hs:=Sn
  conv=>whnf
  repeat'((first|clear U K|apply st|(apply zk;intro K U)|refine zY ?_|refine zs fun Z hs=>?_|refine hz.use ?_|(refine zb (fun hc=>?_) (fun hc=>?_)<;>try exact⟨⟩)|refine zo fun nn hnn Z hs=>?_|fail)<;>conv=>whnf)
  all_goals exact AF rfl
 .simp only[if_true]at hz ⊢
  have hm:=yU h;have hc10:=UB h;refine pf kZ ?_;have hs:=Sn
  conv=>whnf
  repeat'((first|clear U K|apply st|(apply zk;intro K U)|refine zY ?_|refine zs fun Z hs=>?_|refine hz.use ?_|refine Pure.use (Vm p (by omega) (by omega)) ?_|(refine zb (fun hc=>?_) (fun hc=>?_)<;>try exact⟨⟩)|refine zo fun nn hnn Z hs=>?_|fail)<;>conv=>whnf)
  all_goals exact AF rfl
end Go.Gl
namespace Go.Gl
open Go.Proofs
attribute [local irreducible] As Af AV AQ AI AU AP AR AJ AT AM AN Ag Ar Sat AS Ap AX W
abbrev rkC (p:Prog) (L:Nat):List V:=A3 p++(Ax (AG p)++[.m L])
abbrev Tb (p:Prog) (L:Nat):V:= .rp (rkC p L)
abbrev kM (x:Int×Int):V:= .a [eI x.1,eI x.2]
def LK (p:Prog) (M:List (Int×Int)):List (V×V):=M.map fun x=>(kM x,.b (GY p x.1 x.2))
def QP (p:Prog) (M:List (Int×Int)): ∀kv∈LK p M,Bf (.a [.i64,.i64]) kv.1=true:=by
 intro kv h;obtain⟨e,_,rfl⟩:=GL.1 h;rfl
def pY (x y:Int×Int):D1 (kM x) (kM y)=(x==y):=by
 obtain⟨a,b⟩:=x;obtain⟨c,d⟩:=y;have e:D1 (kM (a,b)) (kM (c,d))=(a==c&&b==d):=by simp[D1,CI,kM]
 rw[e];rfl
def WV (p:Prog) (x:Int×Int): ∀(M:List (Int×Int)),Cs (kM x) (LK p M)=if M.contains x then some (.b (GY p x.1 x.2))else none
 | []=>rfl
 | y ::r=>by
   rw[LK,Cn,Cs,pY,List.contains_cons];cases h:x==y
   .rw[cond_false,Bool.false_or]
    exact WV p x r
   .rw[cond_true,Bool.true_or,if_pos rfl]
    have:x=y:=by simpa using h
    rw[this]
def aI (p:Prog) (x:Int×Int): ∀(M:List (Int×Int)),M.contains x=false->Dy (kM x) (.b (GY p x.1 x.2)) (LK p M)=LK p (M++[x])
 | [],_=>rfl
 | y::r,h=>by
   rw[List.contains_cons,Bool.or_eq_false_iff]at h;have ih:=aI p x r h.2;simp only[LK]at ih;rw[LK,Cn,Dy,pY,h.1,cond_false,ih];rfl
def jL (p:Prog):BL zP 169 [.a (A3 p)] [] fun r post=>if(BQ p).isSome then∃L,r= .ret (Tb p L)/\post= [.map L []]else r= .ret .pn/\post= []:=by
 intro Z hs;have hw:=PR p;cases h:(BQ p).isSome<;>rw[h]at hw
 .simp only[Jc,if_false]at hw ⊢
  refine gj kZ ?_
  conv=>whnf
  repeat'((first|clear U K|apply st|(apply zk;intro K U)|refine zY ?_|refine zs fun Z hs=>?_|refine hw.use ?_|(refine zb (fun hc=>?_) (fun hc=>?_)<;>try exact⟨⟩)|refine zo fun nn hnn Z hs=>?_|fail)<;>conv=>whnf)
  exact AH ⟨_,⟨rfl,rfl⟩,hs.less (Ie _)⟩
 .simp only[if_true]at hw ⊢
  refine gj kZ ?_
  conv=>whnf
  repeat'((first|clear U K|apply st|(apply zk;intro K U)|refine zY ?_|refine zs fun Z hs=>?_|refine hw.use ?_|(refine zb (fun hc=>?_) (fun hc=>?_)<;>try exact⟨⟩)|refine zo fun nn hnn Z hs=>?_|fail)<;>conv=>whnf)
  exact AH ⟨_,⟨nn,rfl,rfl⟩,hs.less (.cons₂ _ (Ie _))⟩
def yb (p:Prog) (L:Nat) (m:Int):Pure zP 259 [eI m,.rp [Tb p L]] (.b (!BG p m)):=by
 refine uD kZ ?_;have hs:=Sn
 conv=>whnf
 repeat'((first|clear U K|apply st|(apply zk;intro K U)|refine zY ?_|refine za (fun hc=>?_) fun hc=>?_|fail)<;>conv=>whnf)
 .refine AF ?_
  have e1:decide (0<=m)=true:=decide_eq_true hc;rw[BG,e1,Db,Bh];show V.b (decide (m≥(p.methods.length:Int)))=_;by_cases hl:m<(p.methods.length:Int)
  .rw[decide_eq_true hl,decide_eq_false (by omega)];rfl
  .rw[decide_eq_false hl,decide_eq_true (by omega)];rfl
 .refine AF ?_
  rw[BG,decide_eq_false (by omega)];rfl
def JR {g:FuncId} {fi ca:List V} {f:Int->Bool} {xs:List Int} (b:Bool) (h: ∀y∈xs,Pure zP g (fi++[eI y]++ca) (.b (f y))):Pure zP 66 [.l (iL xs) b,.f (.func g) fi ca] (.b (xs.any f)):=by
 have:=Gy g fi ca (fun _=>[]) (fun y (_:Unit)=>(f y,())) (fun y _=>y∈xs) (Qv fun y hy=>h y hy) xs b () (Hf fun y hy _=>hy);rw[Mr]at this;exact Pure.of (As.mono (this emp Sat.nil) fun r Z' ⟨post,⟨h1,h2⟩,h3⟩=>h1)
def yc (p:Prog) (L:Nat) (l:List Int) (b:Bool):Pure zP 216 [Tb p L,.l (iL l) b] (.b (l.all (BG p))):=by
 have hc:=fun b=>JR (g:=259) (fi:=[]) (ca:=[.rp [Tb p L]]) (f:=fun m=> !BG p m) (xs:=l) b fun y _=>yb p L y
 refine ga kZ ?_;have hs:=Sn
 conv=>whnf
 repeat'((first|clear U K|apply st|(apply zk;intro K U)|refine Pure.use (hc _) ?_|fail)<;>conv=>whnf)
 all_goals exact AF (by rw[List.all_eq_not_any_not];rfl)
def sc (l:List Int) (b:Bool):Pure zP 216 [.pn,.l (iL l) b] (.b false):=by
 refine ga kZ ?_;have hs:=Sn;exact zW
def om (p:Prog) (L:Nat) (m n:Int) (hm:BG p m=true) (hn:BG p n=true):Pure zP 217 [Tb p L,eI m,eI n] (.b (Dk p m n)):=by
 refine Pure.fit (by kernel_rfl) fun hf=>?_
 have hxm:=Br hm;have hxn:=Br hn;simp only[BG,A7,CF]at hm hn;refine uo kZ ?_;have hs:=Sn
 conv=>whnf
 repeat'((first|clear U K|apply st|(apply zk;intro K U)|refine zY ?_|refine rk ?_ ?_|exact fun s e=>by cases e;rfl|refine zs fun Z hs=>?_|refine za (fun hc=>?_) fun hc=>?_|refine zo fun nn hnn Z hs=>?_|fail)<;>conv=>whnf)
 all_goals exact AF (by simp[Dk, *])
def nv {p:Prog} (h:(BQ p).isSome=true): ∀x∈p.methods,Bv (AG p) x.fact=true:=fun x hx=>by
 have:=(E3 h).2 x hx;simp only[PW,A7]at this;exact this.2.2.2.2.1
def bk (M:List (Int×Int)) (x:Int×Int):List (Int×Int):=if M.contains x then M else M++[x]
def bn (p:Prog) (M:List (Int×Int)) (m n:Int):List (Int×Int):=if GY p m n then bk (bk M (m,n)) (n,m)else bk M (m,n)
def RJ (p:Prog) (L:Nat) (m n:Int) (hk:EN p) (hgw:CS (AG p)) (hfm: ∀x∈p.methods,Bv (AG p) x.fact=true) (hm:BG p m=true) (hn:BG p n=true) (M:List (Int×Int)) :
    BL zP 299 [Tb p L,eI m,eI n] [.map L (LK p M)] fun r post=>r= .ret (.b (GY p m n))/\post= [.map L (LK p (bk M (m,n)))]:=by
 intro Z hs;have hxm:=Br hm;have hxn:=Br hn;have hmm:=BY hxm;have hmn:=BY hxn;have hip:=di (AG p) hgw (BK p m).fact (BK p n).fact (hfm _ hmm) (hfm _ hmn) (hk.facts _ hmm).1 (hk.facts _ hmn).1 (by have:=(hk.facts _ hmm).2;have:=(hk.facts _ hmn).2;omega);simp only[BG,A7,CF]at hm hn;have hfd:=WV p (m,n) M;refine tZ kZ ?_;cases hc:M.contains (m,n)
 .rw[hc,if_neg (by decide)]at hfd
  conv=>whnf
  repeat'((first|clear U K|apply st|(apply zk;intro K U)|refine zY ?_|refine zs fun Z hs=>?_|refine Nb hs 1 rfl rfl (QP _ _) hfd ?_|refine HM hs 1 rfl rfl (QP _ _) fun Z hs=>?_|refine hip.use ?_|refine zo fun nn hnn Z hs=>?_|fail)<;>conv=>whnf)
  replace hs:Sat Z [.box nn [eI m,eI n],.map L (Dy (kM (m,n)) (.b (GY p m n)) (LK p M))]:=hs;rw[aI p (m,n) M hc]at hs;exact AH ⟨_,⟨rfl,rfl⟩,by rw[bk,hc];exact hs.less (HU _ _)⟩
 .rw[hc,if_pos rfl]at hfd
  conv=>whnf
  repeat'((first|clear U K|apply st|(apply zk;intro K U)|refine zY ?_|refine zs fun Z hs=>?_|refine Nb hs 1 rfl rfl (QP _ _) hfd ?_|refine zo fun nn hnn Z hs=>?_|fail)<;>conv=>whnf)
  exact AH ⟨_,⟨rfl,rfl⟩,by rw[bk,hc];exact hs.less (HU _ _)⟩
def Wu (p:Prog) (L:Nat) (m n:Int) (hk:EN p) (hgw:CS (AG p)) (hfm: ∀x∈p.methods,Bv (AG p) x.fact=true) (hm:BG p m=true) (hn:BG p n=true) (M:List (Int×Int)) :
    BL zP 260 [Tb p L,eI m,eI n] [.map L (LK p M)] fun r post=>r= .ret (.b (Az p m n))/\post= [.map L (LK p (bn p M m n))]:=by
 intro Z hs;have h1:=fun M=>RJ p L m n hk hgw hfm hm hn M
 have h2:=fun M=>RJ p L n m hk hgw hfm hn hm M
 unfold Az bn;cases hb1:GY p m n<;>cases hb2:GY p n m<;>rw[hb1]at h1<;>rw[hb2]at h2
 all_goals
  refine uC kZ ?_
  conv=>whnf
  repeat'((first|clear U K|apply st|(apply zk;intro K U)|fail)<;>conv=>whnf)
  refine(h1 M).use (rest:=[]) (by simpa using hs) ?_;clear hs;rintro r post Z ⟨rfl,rfl⟩ hs;refine zz ?_;(repeat clear U K);repeat intro K U
 .exact AH ⟨_,⟨rfl,rfl⟩,hs⟩
 .exact AH ⟨_,⟨rfl,rfl⟩,hs⟩
 all_goals
  refine(h2 _).use (rest:=[]) (by simpa using hs) ?_;clear hs;rintro r post Z ⟨rfl,rfl⟩ hs;refine zz ?_;(repeat clear U K);repeat intro K U
  exact AH ⟨_,⟨rfl,rfl⟩,hs⟩
end Go.Gl
