import Derived.Test.YtcfkfhaedllcpaaGreatU20
import Derived.Test.YtcfkfhaedllcpaaGreatU23
set_option linter.all false
set_option linter.defProp false
set_option maxHeartbeats 8000000
noncomputable section
namespace Go.Gl
open Go.Proofs
attribute [local irreducible] BD A3 Au AS AL Ao AU AV AM An AP AT BF BM Sat Af BK Aw W
def I3 {p:Prog} {q:II} (h:D3 p q=true) (hq:CJ q=true) {c:Int} (ho:IL p c=true): ∃m,q.cls[(c - 3).toNat]? =some m/\ -1<=m/\m<(q.A0.length:Int)/\q.A0.length<=4/\3<=c/\c<64/\(c - 3).toNat<q.cls.length/\q.cls.length<=60:=by
 have⟨g1,g2,g3⟩:=Pp h;have⟨q1,q2,q3⟩:=Ea hq;rw[IL,Ba,DG,DG]at ho;have hlt:(c - 3).toNat<q.cls.length:=by omega
 obtain⟨m,hm⟩: ∃m,q.cls[(c - 3).toNat]? =some m:=⟨_,D2 hlt⟩
 have:=fM h hm;exact⟨m,hm,this.1,this.2,g2,ho.1,by omega,hlt,q3⟩
def Wt (p:Prog) (q:II) (h:D3 p q=true) (hq:CJ q=true) (c lev:Int) (ho:IL p c=true) (hl:0<=lev):Pure zP 80 [.a (FG q),eI c,eI lev] (eI (Gr q c lev)):=by
 have hM:=Mx;obtain⟨m0,hm0,b1,b2,b3,b4,b5,b6,b7⟩:=I3 h hq ho;have hlp:Gr q c lev=Ei q.A0 lev.toNat m0:=by rw[Gr,FD,hm0];rfl
 have hw:IntKind.i64.wrap (c - 3)=c - 3:=wrap64 (by omega) (by omega);have hx0:q.cls[(IntKind.i64.wrap (c - 3)).toNat]? =some m0:=by rw[hw];exact hm0
 have hmt: ∀(j:Nat) (x:Qj),q.A0[j]? =some x-> -1<=x.of/\x.of<(j:Int):=fun j x hx=>Pg h hx
 rw[hlp];clear hlp h hq ho;refine iI kZ ?_;have hs:=Sn
 conv=>whnf
 repeat'((first|apply st|(apply sq;intro K U)|(apply si;intro A B hA hB)|(refine hA _ _ ?_;clear hB B hA A)|(apply U;clear U K)|refine⟨rfl,?_⟩|refine Xb ?_|fail)<;>conv=>whnf)
 refine Cc 4 (fun k m=>[(7,eI m),(8,eI (BU k))]) (fun _ _=>[]) (fun k m=>Ei q.A0 lev.toNat m0=Ei q.A0 (lev.toNat - k) m/\ -1<=m/\m<4/\(m= -1\/m+k<q.A0.length)/\(k:Int)<=lev) m0 rfl ⟨rfl,by omega,by omega,by omega,by omega⟩ hs ?_;clear hs;rintro k m Z hk ⟨hR,m1,m2,m3,m4⟩ hs;have hck:BU k=k:=AJ (by omega);by_cases h1:(k:Int)<lev
 rotate_left
 .have hz:lev.toNat - k=0:=by omega
  rw[hz,Ei]at hR
  conv=>whnf
  repeat'((first|apply st|(apply sq;intro K U)|(apply si;intro A B hA hB)|(refine hA _ _ ?_;clear hB B hA A)|(apply U;clear U K)|refine⟨rfl,?_⟩|(constructor<;>intro hc<;>(try rw[hc])<;>(replace hc:=bp hc)<;>(try simp(disch:=omega) only[BW,wrap64,AJ]at hc)<;>try(exfalso;omega))|clear U K)<;>conv=>whnf)
  all_goals first
   | exact AF (by rw[hR])
   | (exfalso;omega)
 by_cases h2:0<=m
 rotate_left
 .rw[NO q.A0 (lev.toNat - k) m (by omega)]at hR
  conv=>whnf
  repeat'((first|apply st|(apply sq;intro K U)|(apply si;intro A B hA hB)|(refine hA _ _ ?_;clear hB B hA A)|(apply U;clear U K)|refine⟨rfl,?_⟩|(constructor<;>intro hc<;>(try rw[hc])<;>(replace hc:=bp hc)<;>(try simp(disch:=omega) only[BW,wrap64,AJ]at hc)<;>try(exfalso;omega))|clear U K)<;>conv=>whnf)
  all_goals first
   | exact AF (by rw[hR])
   | (exfalso;omega)
 obtain⟨x,hx⟩: ∃x,q.A0[m.toNat]? =some x:=⟨_,D2 (by omega)⟩
 have hxo:=hmt _ _ hx;rw[show lev.toNat - k=(lev.toNat - (k+1))+1 by omega,P1 h2 hx]at hR
 conv=>whnf
 repeat'((first|apply st|(apply sq;intro K U)|(apply si;intro A B hA hB)|(refine hA _ _ ?_;clear hB B hA A)|(apply U;clear U K)|refine⟨rfl,?_⟩|refine Xb ?_|(constructor<;>intro hc<;>(try rw[hc])<;>(replace hc:=bp hc)<;>(try simp(disch:=omega) only[BW,wrap64,AJ]at hc)<;>try(exfalso;omega))|clear U K)<;>conv=>whnf)
 all_goals first
  | exact⟨by omega,_,rfl,⟨hR,by omega,by omega,by omega,by omega⟩,hs⟩
  | (exfalso;omega)
def fS (p:Prog) (q:II) (hq:CJ q=true) (c lev:Int):Pure zP 30 [.a (A7 p),.a (FG q),eI c,eI lev] (.t [eI (Hq p q c lev).1,eI (Hq p q c lev).2]):=by
 have c1:=Qw p;have c2:=WI p q hq;have c3:=ot p c;rw[Hq,F5];by_cases hl:0<=lev
 .rw [decide_eq_true hl,Bool.and_true]
  cases h1:(BI p).isSome<;>cases h2:D3 p q<;>cases h3:IL p c<;>rw[h1]at c1<;>rw[h2]at c2<;>rw[h3]at c3
  all_goals
   have c4:D3 p q=true->IL p c=true->Pure zP 80 [.a (FG q),eI c,eI lev] (eI (Gr q c lev)):=fun a b=>Wt p q a hq c lev b hl
   try replace c4:=c4 h2 h3
   refine Z9 kZ ?_;have hs:=Sn
   conv=>whnf
   repeat'((first|apply st|(apply sq;intro K U)|(apply si;intro A B hA hB)|(refine hA _ _ ?_;clear hB B hA A)|(apply U;clear U K)|refine⟨rfl,?_⟩|refine⟨kZ,?_⟩|refine Nn ?_|refine No ?_|refine c1.use ?_|refine c2.use ?_|refine c3.use ?_|refine c4.use ?_|(constructor<;>intro hc<;>(try rw[hc])<;>(replace hc:=bp hc))|clear U K)<;>conv=>whnf)
   all_goals try simp only[Bool.not_true,Bool.not_false,cond_false,cond_true,DG,decide_eq_false_iff_not]at *
   all_goals first
    | exact AF rfl
    | (exfalso;omega)
 .rw [decide_eq_false hl,Bool.and_false,Bool.and_false]
  cases h1:(BI p).isSome<;>cases h2:D3 p q<;>cases h3:IL p c<;>rw[h1]at c1<;>rw[h2]at c2<;>rw[h3]at c3
  all_goals
   refine Z9 kZ ?_;have hs:=Sn
   conv=>whnf
   repeat'((first|apply st|(apply sq;intro K U)|(apply si;intro A B hA hB)|(refine hA _ _ ?_;clear hB B hA A)|(apply U;clear U K)|refine⟨rfl,?_⟩|refine⟨kZ,?_⟩|refine Nn ?_|refine No ?_|refine c1.use ?_|refine c2.use ?_|refine c3.use ?_|(constructor<;>intro hc<;>(try rw[hc])<;>(replace hc:=bp hc))|clear U K)<;>conv=>whnf)
   all_goals try simp only[Bool.not_true,Bool.not_false,cond_false,cond_true,DG,decide_eq_false_iff_not]at *
   all_goals first
    | exact AF rfl
    | (exfalso;omega)
def aO (q:II) (hq:CJ q=true) (f1 f2 f3 g1 g2 g3:Bool):Pure zP 33 [.a [.l (q.B7.map FT) f1,.l (q.A0.map MP) f2,.l (iL q.cls) f3],.a [.l (q.B7.map FT) g1,.l (q.A0.map MP) g2,.l (iL q.cls) g3]] (.b true):=by
 have hM:=Mx;have⟨q1,q2,q3⟩:=Ea hq;have c1:=RT q.cls q.cls f3 g3;rw[beq_self_eq_true]at c1;refine iQ kZ ?_;have hs:=Sn
 conv=>whnf
 repeat'((first|apply st|(apply sq;intro K U)|(apply si;intro A B hA hB)|(refine hA _ _ ?_;clear hB B hA A)|(apply U;clear U K)|refine⟨rfl,?_⟩|refine U0 ?_|refine c1.use ?_|(constructor<;>intro hc<;>(try rw[hc])<;>(replace hc:=bp hc)<;>(try simp(disch:=omega) only[BW,wrap64,AJ]at hc)<;>try(exfalso;omega))|fail)<;>conv=>whnf)
 all_goals try(exfalso;simp at hc;done)
 refine Cc q.B7.length (fun k (_:Unit)=>[(5,eI (BU k))]) (fun _ _=>[]) (fun _ _=>True) () rfl trivial hs ?_;clear hs;rintro k - Z hk - hs;rcases Bd q.B7 hk with⟨x,hx,hlt⟩|hke
 .have hck:BU k=k:=AJ (by omega)
  conv=>whnf
  repeat'((first|apply st|(apply sq;intro K U)|(apply si;intro A B hA hB)|(refine hA _ _ ?_;clear hB B hA A)|(apply U;clear U K)|apply dr|refine⟨rfl,?_⟩|refine⟨kZ,?_⟩|refine ix ?_|(refine MN (fun hc=>?_)<;>(try rw[hc])<;>clear hc)|(constructor<;>intro hc<;>(try rw[hc])<;>(replace hc:=bp hc)<;>(try simp(disch:=omega) only[BW,wrap64,AJ]at hc))|clear U K)<;>conv=>whnf)
  all_goals first
   | exact⟨hlt,(),rfl,trivial,hs⟩
   | (exfalso;omega)
   | (exfalso;simp at hc;done)
 conv=>whnf
 repeat'((first|apply st|(apply sq;intro K U)|(apply si;intro A B hA hB)|(refine hA _ _ ?_;clear hB B hA A)|(apply U;clear U K)|refine⟨rfl,?_⟩|(refine Qg (fun hc=>?_)<;>(try rw[hc])<;>clear hc)|clear U K)<;>conv=>whnf)
 all_goals try(exfalso;simp at hc;done)
 refine Cc q.A0.length (fun k (_:Unit)=>[(6,eI (BU k))]) (fun _ _=>[]) (fun _ _=>True) () rfl trivial hs ?_;clear hs;rintro k2 - Z hk2 - hs;rcases Bd q.A0 hk2 with⟨x,hx,hlt⟩|hke2
 .have hck:BU k2=k2:=AJ (by omega)
  conv=>whnf
  repeat'((first|apply st|(apply sq;intro K U)|(apply si;intro A B hA hB)|(refine hA _ _ ?_;clear hB B hA A)|(apply U;clear U K)|apply dr|refine⟨rfl,?_⟩|refine⟨kZ,?_⟩|refine ix ?_|(refine MN (fun hc=>?_)<;>(try rw[hc])<;>clear hc)|(constructor<;>intro hc<;>(try rw[hc])<;>(replace hc:=bp hc)<;>(try simp(disch:=omega) only[BW,wrap64,AJ]at hc))|clear U K)<;>conv=>whnf)
  all_goals first
   | exact⟨hlt,(),rfl,trivial,hs⟩
   | (exfalso;omega)
   | (exfalso;simp at hc;done)
 conv=>whnf
 repeat'((first|apply st|(apply sq;intro K U)|(apply si;intro A B hA hB)|(refine hA _ _ ?_;clear hB B hA A)|(apply U;clear U K)|refine⟨rfl,?_⟩|(refine Qg (fun hc=>?_)<;>(try rw[hc])<;>clear hc)|clear U K)<;>conv=>whnf)
 all_goals first
  | exact AF rfl
  | (exfalso;omega)
def E9 {p:Prog} (h:(BI p).isSome=true):p.Bc.length<=8/\p.AG.length<=10/\CJ (Qu p)=true:=by
 obtain⟨hh,-⟩:=M6 h;simp only[CW,Ba,DG]at hh;have h10:=fP h;have h8:p.Bc.length<=8:=hh.2.1;refine⟨h8,h10,?_⟩;simp[CJ,Qu];omega
def FV:Zm:=⟨1,0,1⟩
abbrev uV (p:Prog):V:= .a [.l ((List.replicate p.Bc.length FV).map FT) false,.l [] true,.l (iL (List.replicate p.AG.length (-1))) false]
abbrev pP:V:= .a [.l [] true,.l [] true,.l [] true]
def aU (p:Prog):V:=if(BI p).isSome then .t [uV p,eI 0]else .t [pP,eI 2]
def Im {α:Type} (k:Nat) (x:α):List.replicate (k+1) x=List.replicate k x++[x]:=List.replicate_succ'
def Yq (f:Int):Pure zP 51 [eI f] (.b (EV f)):=by
 refine iP kZ ?_;have hs:=Sn
 conv=>whnf
 repeat'((first|apply st|(apply sq;intro K U)|(apply si;intro A B hA hB)|(refine hA _ _ ?_;clear hB B hA A)|(apply U;clear U K)|refine⟨rfl,?_⟩|(constructor<;>intro hc<;>(try rw[hc])<;>(replace hc:=bp hc))|fail)<;>conv=>whnf)
 all_goals exact AF (by simp[EV, *]<;>omega)
def VP (p:Prog) (hp:p.Bc.length<=AX) (g k:Int):Pure zP 138 [eI g,eI k,.rp (A7 p)] (.b (FY p g k)):=by
 have hM:=Mx;by_cases h1:g= -1
 .subst h1
  refine Q8 kZ ?_;have hs:=Sn
  conv=>whnf
  repeat'((first|apply st|(apply sq;intro K U)|(apply si;intro A B hA hB)|(refine hA _ _ ?_;clear hB B hA A)|(apply U;clear U K)|refine⟨rfl,?_⟩|(constructor<;>intro hc<;>(try rw[hc])<;>(replace hc:=bp hc)<;>(try simp(disch:=omega) only[BW,wrap64,AJ]at hc)<;>try(exfalso;omega))|fail)<;>conv=>whnf)
  all_goals first
   | exact AF rfl
   | (exfalso;omega)
   | (exfalso;simp at hc;done)
 rw[FY,show(g== -1)=false by simpa using h1,Bool.false_or];by_cases h2:0<=g/\g<(p.Bc.length:Int)
 rotate_left
 .have h3:Ni p g=false:=by
   rw[Bool.eq_false_iff];intro hc;rw[Ni,Ba,DG,DG]at hc;exact h2 hc
  rw[h3,Bool.false_and];refine Q8 kZ ?_;have hs:=Sn
  conv=>whnf
  repeat'((first|apply st|(apply sq;intro K U)|(apply si;intro A B hA hB)|(refine hA _ _ ?_;clear hB B hA A)|(apply U;clear U K)|refine⟨rfl,?_⟩|(constructor<;>intro hc<;>(try rw[hc])<;>(replace hc:=bp hc)<;>(try simp(disch:=omega) only[BW,wrap64,AJ]at hc)<;>try(exfalso;omega))|fail)<;>conv=>whnf)
  all_goals first
   | exact AF rfl
   | (exfalso;omega)
   | (exfalso;simp at hc;done)
 .have h3:Ni p g=true:=by rw[Ni,Ba,DG,DG];exact h2
  obtain⟨x,hx⟩: ∃x,p.Bc[g.toNat]? =some x:=⟨_,D2 (by omega)⟩
  rw[h3,show p.Bc.getD g.toNat 0=x by rw[FD,hx];rfl,Fv];refine Q8 kZ ?_;have hs:=Sn
  conv=>whnf
  repeat'((first|apply st|(apply sq;intro K U)|(apply si;intro A B hA hB)|(refine hA _ _ ?_;clear hB B hA A)|(apply U;clear U K)|refine⟨rfl,?_⟩|refine Xb ?_|(constructor<;>intro hc<;>(try rw[hc])<;>(replace hc:=bp hc)<;>(try simp(disch:=omega) only[BW,wrap64,AJ]at hc)<;>try(exfalso;omega))|fail)<;>conv=>whnf)
  all_goals first
   | exact AF rfl
   | (exfalso;omega)
   | (exfalso;simp at hc;done)
   | exact AF (by simp[*])
def oo (q:II) (hq:CJ q=true) (m:Int):Pure zP 140 [eI m,.rp (FG q)] (.b (!TS q.A0.length m)):=by
 have hM:=Mx;have⟨q1,q2,q3⟩:=Ea hq;have e2:((q.A0.map MP).length:Int)=q.A0.length:=by simp
 by_cases h1: -1<=m
 .rw [TS,decide_eq_true h1,Fv]
  by_cases h2:m<(q.A0.length:Int)
  .rw[decide_eq_true h2]
   refine Q7 kZ ?_;have hs:=Sn
   conv=>whnf
   repeat'((first|apply st|(apply sq;intro K U)|(apply si;intro A B hA hB)|(refine hA _ _ ?_;clear hB B hA A)|(apply U;clear U K)|refine⟨rfl,?_⟩|(constructor<;>intro hc<;>(try rw[hc])<;>(replace hc:=bp hc)<;>try(exfalso;omega))|fail)<;>conv=>whnf)
   all_goals first
    | exact AF rfl
    | (exfalso;omega)
    | exact AF (by rw[e2];simp;omega)
  .rw[decide_eq_false h2]
   refine Q7 kZ ?_;have hs:=Sn
   conv=>whnf
   repeat'((first|apply st|(apply sq;intro K U)|(apply si;intro A B hA hB)|(refine hA _ _ ?_;clear hB B hA A)|(apply U;clear U K)|refine⟨rfl,?_⟩|(constructor<;>intro hc<;>(try rw[hc])<;>(replace hc:=bp hc)<;>try(exfalso;omega))|fail)<;>conv=>whnf)
   all_goals first
    | exact AF rfl
    | (exfalso;omega)
    | exact AF (by rw[e2];simp;omega)
 .rw[TS,decide_eq_false h1,Bool.false_and]
  refine Q7 kZ ?_;have hs:=Sn
  conv=>whnf
  repeat'((first|apply st|(apply sq;intro K U)|(apply si;intro A B hA hB)|(refine hA _ _ ?_;clear hB B hA A)|(apply U;clear U K)|refine⟨rfl,?_⟩|(constructor<;>intro hc<;>(try rw[hc])<;>(replace hc:=bp hc)<;>try(exfalso;omega))|fail)<;>conv=>whnf)
  all_goals first
   | exact AF rfl
   | (exfalso;omega)
def pR (p:Prog) (q:II) (h:D3 p q=true) (hq:CJ q=true) (c lev:Int) (ho:IL p c=true) (hl:0<=lev) (hb:lev<=9223372036854775807):Pure zP 78 [.a (FG q),eI c,eI lev] (eI (Gr q c lev)):=by
 have hM:=Mx;obtain⟨m0,hm0,b1,b2,b3,b4,b5,b6,b7⟩:=I3 h hq ho;have hlp:Gr q c lev=Ei q.A0 lev.toNat m0:=by rw[Gr,FD,hm0];rfl
 have hw:IntKind.i64.wrap (c - 3)=c - 3:=wrap64 (by omega) (by omega);have hx0:q.cls[(IntKind.i64.wrap (c - 3)).toNat]? =some m0:=by rw[hw];exact hm0
 have hmt: ∀(j:Nat) (x:Qj),q.A0[j]? =some x-> -1<=x.of/\x.of<(j:Int):=fun j x hx=>Pg h hx
 rw[hlp];clear hlp h hq ho;refine iJ kZ ?_;have hs:=Sn
 conv=>whnf
 repeat'((first|apply st|(apply sq;intro K U)|(apply si;intro A B hA hB)|(refine hA _ _ ?_;clear hB B hA A)|(apply U;clear U K)|refine⟨rfl,?_⟩|refine Xb ?_|fail)<;>conv=>whnf)
 refine Cc 4 (fun k (y:Int×Int)=>[(2,eI y.1),(7,eI y.2)]) (fun _ _=>[]) (fun k y=>Ei q.A0 lev.toNat m0=Ei q.A0 y.1.toNat y.2/\ -1<=y.2/\y.2<4/\(y.2= -1\/y.2+k<q.A0.length)/\0<=y.1/\y.1<=lev) (lev,m0) rfl ⟨rfl,by omega,by omega,by omega,by omega,by omega⟩ hs ?_;clear hs;rintro k ⟨l,m⟩ Z hk ⟨hR,m1,m2,m3,m4,m5⟩ hs;dsimp only at hR m1 m2 m3 m4 m5;by_cases h1:0<l
 rotate_left
 .have hz:l.toNat=0:=by omega
  rw[hz,Ei]at hR
  conv=>whnf
  repeat'((first|apply st|(apply sq;intro K U)|(apply si;intro A B hA hB)|(refine hA _ _ ?_;clear hB B hA A)|(apply U;clear U K)|refine⟨rfl,?_⟩|(constructor<;>intro hc<;>(try rw[hc])<;>(replace hc:=bp hc)<;>(try simp(disch:=omega) only[BW,wrap64,AJ]at hc)<;>try(exfalso;omega))|clear U K)<;>conv=>whnf)
  all_goals first
   | exact AF (by rw[hR])
   | (exfalso;omega)
 by_cases h2:0<=m
 rotate_left
 .rw[NO q.A0 l.toNat m (by omega)]at hR
  conv=>whnf
  repeat'((first|apply st|(apply sq;intro K U)|(apply si;intro A B hA hB)|(refine hA _ _ ?_;clear hB B hA A)|(apply U;clear U K)|refine⟨rfl,?_⟩|(constructor<;>intro hc<;>(try rw[hc])<;>(replace hc:=bp hc)<;>(try simp(disch:=omega) only[BW,wrap64,AJ]at hc)<;>try(exfalso;omega))|clear U K)<;>conv=>whnf)
  all_goals first
   | exact AF (by rw[hR])
   | (exfalso;omega)
 obtain⟨x,hx⟩: ∃x,q.A0[m.toNat]? =some x:=⟨_,D2 (by omega)⟩
 have hxo:=hmt _ _ hx;have hw2:IntKind.i64.wrap (l - 1)=l - 1:=wrap64 (by omega) (by omega);rw[show l.toNat=(l - 1).toNat+1 by omega,P1 h2 hx]at hR
 conv=>whnf
 repeat'((first|apply st|(apply sq;intro K U)|(apply si;intro A B hA hB)|(refine hA _ _ ?_;clear hB B hA A)|(apply U;clear U K)|refine⟨rfl,?_⟩|refine Xb ?_|(constructor<;>intro hc<;>(try rw[hc])<;>(replace hc:=bp hc)<;>(try simp(disch:=omega) only[BW,wrap64,AJ]at hc)<;>try(exfalso;omega))|clear U K)<;>conv=>whnf)
 all_goals first
  | exact⟨by omega,(l - 1,x.of),by rw[hw2];rfl,⟨hR,by omega,by omega,by omega,by omega,by omega⟩,hs⟩
  | (exfalso;omega)
def iE (p : Prog) (q:II) (hq:CJ q=true):Pure zP 81 [.a (A7 p),.a (FG q)] (.b (D3 p q)):=by
 refine Pure.fit (by kernel_rfl) fun hf=>?_
 have⟨p1,p2,p3,p4⟩:=D8 hf.1;have⟨q1,q2,q3⟩:=Ea hq;have hM:=Mx;have e1:((q.B7.map FT).length:Int)=q.B7.length:=by simp
 have e2:((q.A0.map MP).length:Int)=q.A0.length:=by simp
 have e3:((p.AG.map Hm).length:Int)=p.AG.length:=by simp
 by_cases g1:q.B7.length=p.Bc.length
 rotate_left
 .rw[JT (.inl g1)]
  refine SM kZ ?_;have hs:=Sn
  conv=>whnf
  repeat'((first|apply st|(apply sq;intro K U)|(apply si;intro A B hA hB)|(refine hA _ _ ?_;clear hB B hA A)|(apply U;clear U K)|refine⟨rfl,?_⟩|(constructor<;>intro hc<;>(try rw[hc])<;>(replace hc:=bp hc)<;>(try simp(disch:=omega) only[BW,wrap64,AJ]at hc)<;>try(exfalso;omega))|clear U K)<;>conv=>whnf)
  all_goals first|exact AF rfl|(exfalso;omega)
 by_cases g2:q.A0.length<=4
 rotate_left
 .rw[JT (.inr (.inl g2))]
  refine SM kZ ?_;have hs:=Sn
  conv=>whnf
  repeat'((first|apply st|(apply sq;intro K U)|(apply si;intro A B hA hB)|(refine hA _ _ ?_;clear hB B hA A)|(apply U;clear U K)|refine⟨rfl,?_⟩|(constructor<;>intro hc<;>(try rw[hc])<;>(replace hc:=bp hc)<;>(try simp(disch:=omega) only[BW,wrap64,AJ]at hc)<;>try(exfalso;omega))|clear U K)<;>conv=>whnf)
  all_goals first|exact AF rfl|(exfalso;omega)
 by_cases g3:q.cls.length=p.AG.length
 rotate_left
 .rw[JT (.inr (.inr g3))]
  refine SM kZ ?_;have hs:=Sn
  conv=>whnf
  repeat'((first|apply st|(apply sq;intro K U)|(apply si;intro A B hA hB)|(refine hA _ _ ?_;clear hB B hA A)|(apply U;clear U K)|refine⟨rfl,?_⟩|(constructor<;>intro hc<;>(try rw[hc])<;>(replace hc:=bp hc)<;>(try simp(disch:=omega) only[BW,wrap64,AJ]at hc)<;>try(exfalso;omega))|clear U K)<;>conv=>whnf)
  all_goals first|exact AF rfl|(exfalso;omega)
 have hR0:=Si g1 g2 g3;refine SM kZ ?_;have hs:=Sn
 conv=>whnf
 repeat'((first|apply st|(apply sq;intro K U)|(apply si;intro A B hA hB)|(refine hA _ _ ?_;clear hB B hA A)|(apply U;clear U K)|refine⟨rfl,?_⟩|(constructor<;>intro hc<;>(try rw[hc])<;>(replace hc:=bp hc)<;>(try simp(disch:=omega) only[BW,wrap64,AJ]at hc)<;>try(exfalso;omega))|fail)<;>conv=>whnf)
 all_goals try(exfalso;omega)
 refine Cc q.B7.length (fun k (_:Unit)=>[(35,eI (BU k))]) (fun _ _=>[]) (fun k _=>D3 p q=((q.B7.drop k).all MQ&&(Ez p 0 q.A0&&q.cls.all (TS q.A0.length)))) () rfl hR0 hs ?_;clear hs hR0;rintro k - Z hk hR hs;have hck:BU k=k:=AJ (by omega);rcases Bd q.B7 hk with⟨x,hx,hlt⟩|hke
 .rw [drop_cons hx,NV]at hR
  have c1:=Yq x.fold;cases h1:EV x.fold<;>rw[h1]at c1
  all_goals
   conv=>whnf
   repeat'((first|apply st|(apply sq;intro K U)|(apply si;intro A B hA hB)|(refine hA _ _ ?_;clear hB B hA A)|(apply U;clear U K)|refine⟨rfl,?_⟩|refine⟨kZ,?_⟩|refine ix ?_|refine ld ?_|refine Qe fun Z hs=>?_|refine Nn ?_|refine No ?_|(refine MN (fun hc=>?_)<;>(try rw[hc])<;>clear hc)|refine c1.use ?_|(constructor<;>intro hc<;>(try rw[hc])<;>(replace hc:=bp hc))|(intro nn hnn;generalize hg:BO _ nn _=Z;refine NY hg fun hs=>?_;clear hg)|clear U K)<;>conv=>whnf)
   all_goals try simp only[Bool.not_true,Bool.not_false,cond_false,cond_true,DG,decide_eq_false_iff_not]at *
   all_goals first
    | exact⟨hlt,(),rfl,by rw[hR,S8 (by omega) h1 (by omega) (by omega),Fv],hs.less (NW _)⟩
    | exact AF (by rw[hR,V2 h1];rfl)
    | exact AF (by rw[hR,V1 (by omega)];rfl)
    | (exfalso;omega)
 rw[Fq hke,List.all_nil,Fv]at hR
 conv=>whnf
 repeat'((first|apply st|(apply sq;intro K U)|(apply si;intro A B hA hB)|(refine hA _ _ ?_;clear hB B hA A)|(apply U;clear U K)|refine⟨rfl,?_⟩|(refine Qg (fun hc=>?_)<;>(try rw[hc])<;>clear hc)|clear U K)<;>conv=>whnf)
 all_goals try(exfalso;omega)
 refine Cc q.A0.length (fun k (_:Unit)=>[(68,eI (BU k))]) (fun _ _=>[]) (fun k _=>D3 p q=(Ez p k (q.A0.drop k)&&q.cls.all (TS q.A0.length))) () rfl hR hs ?_;clear hs hR;rintro k2 - Z hk2 hR hs;have hck2:BU k2=k2:=AJ (by omega);rcases Bd q.A0 hk2 with⟨x,hx,hlt⟩|hke2
 .rw [drop_cons hx,Ez,U9]at hR
  have c1:=VP p p2 x.rd 2;have c2:=VP p p2 x.wr 2;have c3:=VP p p2 x.fa 1;generalize FY p x.rd 2=b1 at *;generalize FY p x.wr 2=b2 at *;generalize FY p x.fa 1=b3 at *;by_cases h1: -1<=x.of/\x.of<(k2:Int)
  .rw [decide_eq_true h1.1,decide_eq_true h1.2]at hR
   cases b1<;>cases b2<;>cases b3
   all_goals
    conv=>whnf
    repeat'((first|apply st|(apply sq;intro K U)|(apply si;intro A B hA hB)|(refine hA _ _ ?_;clear hB B hA A)|(apply U;clear U K)|refine⟨rfl,?_⟩|refine⟨kZ,?_⟩|refine ix ?_|refine ld ?_|refine Qe fun Z hs=>?_|refine Xe ?_|refine U0 ?_|refine Nn ?_|refine No ?_|(refine MN (fun hc=>?_)<;>(try rw[hc])<;>clear hc)|refine c1.use ?_|refine c2.use ?_|refine c3.use ?_|refine Ct ?_|(constructor<;>intro hc<;>(try rw[hc])<;>(replace hc:=bp hc)<;>(try simp(disch:=omega) only[BW,wrap64,AJ]at hc)<;>try(exfalso;omega))|(intro nn hnn;generalize hg:BO _ nn _=Z;refine NY hg fun hs=>?_;clear hg)|clear U K)<;>conv=>whnf)
    all_goals try simp only[Bool.not_true,Bool.not_false,cond_false,cond_true,DG,decide_eq_false_iff_not]at *
    all_goals first
     | exact⟨hlt,(),rfl,by simpa using hR,hs.less (NW _)⟩
     | exact AF (by rw[hR];rfl)
     | (exfalso;omega)
  .have hd:(decide (-1<=x.of)&&decide (x.of<(k2:Int)))=false:=by
    rw[Bool.eq_false_iff];intro hc;simp only[Ba,DG]at hc;exact h1 hc
   rw[hd,Bool.false_and,Bool.false_and]at hR
   conv=>whnf
   repeat'((first|apply st|(apply sq;intro K U)|(apply si;intro A B hA hB)|(refine hA _ _ ?_;clear hB B hA A)|(apply U;clear U K)|refine⟨rfl,?_⟩|refine⟨kZ,?_⟩|refine ix ?_|refine ld ?_|refine Qe fun Z hs=>?_|(refine MN (fun hc=>?_)<;>(try rw[hc])<;>clear hc)|(constructor<;>intro hc<;>(try rw[hc])<;>(replace hc:=bp hc)<;>(try simp(disch:=omega) only[BW,wrap64,AJ]at hc)<;>try(exfalso;omega))|(intro nn hnn;generalize hg:BO _ nn _=Z;refine NY hg fun hs=>?_;clear hg)|clear U K)<;>conv=>whnf)
   all_goals first
    | exact AF (by rw[hR];rfl)
    | (exfalso;omega)
 rw[Fq hke2,Ez,Fv]at hR;have c4:Pure zP 139 [.l (iL q.cls) false,.f (.func 140) [] [.rp (FG q)]] (.b (q.cls.any fun c=> !TS q.A0.length c)):=KZ false fun y _=>oo q hq y
 rw[List.all_eq_not_any_not]at hR
 conv=>whnf
 repeat'((first|apply st|(apply sq;intro K U)|(apply si;intro A B hA hB)|(refine hA _ _ ?_;clear hB B hA A)|(apply U;clear U K)|refine⟨rfl,?_⟩|(refine Qg (fun hc=>?_)<;>(try rw[hc])<;>clear hc)|refine c4.use ?_|clear U K)<;>conv=>whnf)
 all_goals first
  | exact AF (by rw[hR])
  | (exfalso;omega)
def CheckM (p:Prog) (q:II) (hq:CJ q=true):Pure zP 31 [.a (A7 p),.a (FG q)] (eI (if F5 p q then 0 else 2)):=by
 have c1:=QA p;have c2:=iE p q hq;rw[F5];cases h1:(BI p).isSome<;>cases h2:D3 p q<;>rw[h1]at c1<;>rw[h2]at c2
 all_goals
  first|rw[if_pos rfl]at c1|rw[if_neg (by decide)]at c1
  refine iS kZ ?_;have hs:=Sn
  conv=>whnf
  repeat'((first|apply st|(apply sq;intro K U)|(apply si;intro A B hA hB)|(refine hA _ _ ?_;clear hB B hA A)|(apply U;clear U K)|refine⟨rfl,?_⟩|refine⟨kZ,?_⟩|refine Xe ?_|refine U0 ?_|refine c1.use ?_|refine c2.use ?_|(constructor<;>intro hc<;>(try rw[hc])<;>(replace hc:=bp hc)<;>(try simp(disch:=omega) only[BW,wrap64,AJ]at hc)<;>try(exfalso;omega))|clear U K)<;>conv=>whnf)
  all_goals exact AF rfl
def fT (p:Prog) (q:II) (hq:CJ q=true) (c lev:Int) (hb:lev<=9223372036854775807):Pure zP 29 [.a (A7 p),.a (FG q),eI c,eI lev] (.t [eI (Hq p q c lev).1,eI (Hq p q c lev).2]):=by
 refine Pure.fit (by kernel_rfl) fun hf=>?_
 have⟨p1,p2,p3,p4⟩:=D8 hf.1;have hM:=Mx;have e3:((p.AG.map Hm).length:Int)=p.AG.length:=by simp
 have hw:IntKind.i64.wrap (3+((p.AG.map Hm).length:Int))=3+(p.AG.length:Int):=by rw[e3,wrap64 (by omega) (by omega)]
 have c1:=CheckM p q hq;rw[Hq];cases h1:F5 p q<;>rw[h1]at c1
 .rw[if_neg (by decide)]at c1
  rw[if_neg (by simp)];refine VS kZ ?_;have hs:=Sn
  conv=>whnf
  repeat'((first|apply st|(apply sq;intro K U)|(apply si;intro A B hA hB)|(refine hA _ _ ?_;clear hB B hA A)|(apply U;clear U K)|refine⟨rfl,?_⟩|refine⟨kZ,?_⟩|refine c1.use ?_|(constructor<;>intro hc<;>(try rw[hc])<;>(replace hc:=bp hc)<;>try(exfalso;omega))|clear U K)<;>conv=>whnf)
  all_goals first
   | exact AF rfl
   | (exfalso;omega)
 rw[if_pos rfl]at c1;by_cases h2:(3<=c/\c<3+(p.AG.length:Int))/\0<=lev
 .have h3:IL p c=true:=by rw[IL,Ba,DG,DG];exact h2.1
  have h4:D3 p q=true:=by rw[F5,Ba]at h1;exact h1.2
  rw[h3,decide_eq_true h2.2,if_pos (show(true&&(true&&true))=true from rfl)];have c2:=pR p q h4 hq c lev h3 h2.2 hb;obtain⟨⟨h5,h6⟩,h7⟩:=h2;refine VS kZ ?_;have hs:=Sn
  conv=>whnf
  repeat'((first|apply st|(apply sq;intro K U)|(apply si;intro A B hA hB)|(refine hA _ _ ?_;clear hB B hA A)|(apply U;clear U K)|refine⟨rfl,?_⟩|refine⟨kZ,?_⟩|refine c1.use ?_|refine c2.use ?_|(constructor<;>intro hc<;>(try rw[hc])<;>(replace hc:=bp hc)<;>(try simp(disch:=omega) only[BW,wrap64,AJ]at hc)<;>try(exfalso;omega))|fail)<;>conv=>whnf)
  all_goals try simp only[Bool.not_true,Bool.not_false,cond_false,cond_true,DG,decide_eq_false_iff_not]at *
  all_goals first
   | exact AF rfl
   | (exfalso;omega)
 .have h3:(IL p c&&decide (0<=lev))=false:=by
   rw[Bool.eq_false_iff];intro hc;simp only[IL,Ba,DG]at hc;exact h2 hc
  rw[h3,if_neg (by simp)];refine VS kZ ?_;have hs:=Sn
  conv=>whnf
  repeat'((first|apply st|(apply sq;intro K U)|(apply si;intro A B hA hB)|(refine hA _ _ ?_;clear hB B hA A)|(apply U;clear U K)|refine⟨rfl,?_⟩|refine⟨kZ,?_⟩|refine c1.use ?_|(constructor<;>intro hc<;>(try rw[hc])<;>(replace hc:=bp hc)<;>(try simp(disch:=omega) only[BW,wrap64,AJ]at hc)<;>try(exfalso;omega))|clear U K)<;>conv=>whnf)
  all_goals try simp only[Bool.not_true,Bool.not_false,cond_false,cond_true,DG,decide_eq_false_iff_not]at *
  all_goals first
   | exact AF rfl
   | (exfalso;omega)
attribute [local irreducible] Fz
def XW (p:Prog) (h8:p.Bc.length<=8) (h10:p.AG.length<=10):Pure zP 77 [.a (A7 p)] (uV p):=by
 have hM:=Mx;refine iK kZ ?_;have hs:=Sn
 conv=>whnf
 repeat'((first|apply st|(apply sq;intro K U)|(apply si;intro A B hA hB)|(refine hA _ _ ?_;clear hB B hA A)|(apply U;clear U K)|(intro nn hnn;generalize hg:BO _ nn _=Z;refine NY hg fun hs=>?_;clear hg)|fail)<;>conv=>whnf)
 rename_i nA _ _ _;generalize nn=nB at *;replace hs:Sat Z [.box nB [.l [] true,.l [] true,.l [] true],.box nA [.l [] true,.l [] true,.l [] true]]:=hs;refine Cc p.Bc.length (fun k (_:V)=>[(4,eI (BU k))]) (fun k v=>[.box nB [v,.l [] true,.l [] true],.box nA [.l [] true,.l [] true,.l [] true],.own v 3 ((List.replicate k FV).map FT)]) (fun _ _=>True) (.l [] true) rfl trivial (Gg hs 3) ?_;clear hs;rintro k v Z hk - hs;have hck:BU k=k:=AJ (by omega);rcases Bd p.Bc hk with⟨x,hx,hlt⟩|hke
 .rw[Im]
  have hzl:(List.replicate k FV).length<=8:=by rw[List.length_replicate];omega
  generalize List.replicate k FV=zs at *;have hll:zs.length<AX/\(zs.length+1)*24<=140737488355328:=by omega
  conv=>whnf
  repeat'((first|apply st|(apply sq;intro K U)|(apply si;intro A B hA hB)|(refine hA _ _ ?_;clear hB B hA A)|(apply U;clear U K)|refine⟨rfl,?_⟩|refine ld ?_|refine fX fun Z hs=>?_|(refine MN (fun hc=>?_)<;>(try rw[hc])<;>clear hc)|refine aq (enc:=FT) (x:=FV) (fun v Z hs hsl=>?_) (hg:=Pr)|clear U K)<;>conv=>whnf)
  exact⟨hlt,v,rfl,trivial,hs⟩
 rw[hke]at hs
 conv=>whnf
 repeat'((first|apply st|(apply sq;intro K U)|(apply si;intro A B hA hB)|(refine hA _ _ ?_;clear hB B hA A)|(apply U;clear U K)|refine⟨rfl,?_⟩|(refine Qg (fun hc=>?_)<;>(try rw[hc])<;>clear hc)|clear U K)<;>conv=>whnf)
 refine Cc p.AG.length (fun k (_:V)=>[(5,eI (BU k))]) (fun k w=>[.box nB [v,.l [] true,w],.box nA [.l [] true,.l [] true,.l [] true],.own v 3 ((List.replicate p.Bc.length FV).map FT),.own w 1 (iL (List.replicate k (-1)))]) (fun _ _=>True) (.l [] true) rfl trivial (Gg hs 1) ?_;clear hs;rintro k2 w Z hk2 - hs;have hck2:BU k2=k2:=AJ (by omega);generalize hrw:(List.replicate p.Bc.length FV).map FT=rows at hs;rcases Bd p.AG hk2 with⟨x,hx,hlt⟩|hke2
 .rw[Im]
  have hzl:(List.replicate k2 (-1:Int)).length<=10:=by rw[List.length_replicate];omega
  generalize List.replicate k2 (-1:Int)=zs at *;have hll:zs.length<AX/\(zs.length+1)*8<=140737488355328:=by omega
  conv=>whnf
  repeat'((first|apply st|(apply sq;intro K U)|(apply si;intro A B hA hB)|(refine hA _ _ ?_;clear hB B hA A)|(apply U;clear U K)|refine⟨rfl,?_⟩|refine ld ?_|refine fX fun Z hs=>?_|refine aq fun v Z hs hsl=>?_|(refine MN (fun hc=>?_)<;>(try rw[hc])<;>clear hc)|clear U K)<;>conv=>whnf)
  subst hrw;exact⟨hlt,_,rfl,trivial,hs⟩
 rw[hke2]at hs
 conv=>whnf
 repeat'((first|apply st|(apply sq;intro K U)|(apply si;intro A B hA hB)|(refine hA _ _ ?_;clear hB B hA A)|(apply U;clear U K)|refine⟨rfl,?_⟩|refine⟨kZ,?_⟩|refine ld ?_|(refine Qg (fun hc=>?_)<;>(try rw[hc])<;>clear hc)|clear U K)<;>conv=>whnf)
 have o1:=FF hs 2 rfl;have o2:=FF hs 3 rfl;refine Ht hs 1 (vc:=[v,.l [] true,w]) rfl rfl rfl (by simp only[NV,List.all_nil,o1,o2];rfl) (by simp) fun Z hs=>?_
 conv=>whnf
 repeat'((first|apply st|(refine hA _ _ ?_;clear hB B hA A)|(apply U;clear U K)|refine⟨kZ,?_⟩|refine ld ?_|fail)<;>conv=>whnf)
 subst hrw;exact B1 (.a (.cons (hs.HR 2 rfl) (.cons (.refl _) (.cons (hs.HR 3 rfl) .nil))))
def fQ (p:Prog):Pure zP 28 [.a (A7 p)] (aU p):=by
 have c1:=Qw p;rw[aU];cases h:(BI p).isSome<;>rw[h]at c1
 .refine aB kZ ?_
  have hs:=Sn
  conv=>whnf
  repeat'((first|apply st|(apply sq;intro K U)|(apply si;intro A B hA hB)|(refine hA _ _ ?_;clear hB B hA A)|(apply U;clear U K)|refine⟨kZ,?_⟩|refine ld ?_|refine Qe fun Z hs=>?_|refine Xe ?_|refine c1.use ?_|(intro nn hnn;generalize hg:BO _ nn _=Z;refine NY hg fun hs=>?_;clear hg)|clear U K)<;>conv=>whnf)
  all_goals exact AF rfl
 .have c2:=XW p (E9 h).1 (E9 h).2.1
  refine aB kZ ?_;have hs:=Sn
  conv=>whnf
  repeat'((first|apply st|(apply sq;intro K U)|(apply si;intro A B hA hB)|(refine hA _ _ ?_;clear hB B hA A)|(apply U;clear U K)|refine⟨kZ,?_⟩|refine ld ?_|refine Qe fun Z hs=>?_|refine U0 ?_|refine c1.use ?_|refine c2.use ?_|(intro nn hnn;generalize hg:BO _ nn _=Z;refine NY hg fun hs=>?_;clear hg)|fail)<;>conv=>whnf)
  all_goals exact AF rfl
def fR (p:Prog):Pure zP 24 [.a (A7 p)] (aU p):=by
 have hM:=Mx;have c1:=QA p;rw[aU];cases h:(BI p).isSome<;>rw[h]at c1
 .rw[if_neg (by decide)]at c1
  rw[if_neg (by decide)];refine aE kZ ?_;have hs:=Sn
  conv=>whnf
  repeat'((first|apply st|(apply sq;intro K U)|(apply si;intro A B hA hB)|(refine hA _ _ ?_;clear hB B hA A)|(apply U;clear U K)|refine⟨rfl,?_⟩|refine⟨kZ,?_⟩|refine ld ?_|refine Qe fun Z hs=>?_|refine c1.use ?_|(constructor<;>intro hc<;>(try rw[hc])<;>(replace hc:=bp hc)<;>try(exfalso;omega))|(intro nn hnn;generalize hg:BO _ nn _=Z;refine NY hg fun hs=>?_;clear hg)|clear U K)<;>conv=>whnf)
  all_goals first
   | exact AF rfl
 rw[if_pos rfl]at c1;rw[if_pos rfl];obtain⟨h8,h10,-⟩:=E9 h;refine aE kZ ?_;have hs:=Sn
 conv=>whnf
 repeat'((first|apply st|(apply sq;intro K U)|(apply si;intro A B hA hB)|(refine hA _ _ ?_;clear hB B hA A)|(apply U;clear U K)|refine⟨rfl,?_⟩|refine⟨kZ,?_⟩|refine c1.use ?_|(constructor<;>intro hc<;>(try rw[hc])<;>(replace hc:=bp hc)<;>(try simp(disch:=omega) only[BW,wrap64,AJ]at hc)<;>try(exfalso;omega))|(intro nn hnn;generalize hg:BO _ nn _=Z;refine NY hg fun hs=>?_;clear hg)|fail)<;>conv=>whnf)
 rename_i nA _ _ _;generalize nn=nB at *;replace hs:Sat Z [.box nB [.l [] true,.l [] true,.l [] true],.box nA [.l [] true,.l [] true,.l [] true]]:=hs;refine Cc p.Bc.length (fun k (_:V)=>[(12,eI (BU k))]) (fun k v=>[.box nB [v,.l [] true,.l [] true],.box nA [.l [] true,.l [] true,.l [] true],.own v 3 ((List.replicate k FV).map FT)]) (fun _ _=>True) (.l [] true) rfl trivial (Gg hs 3) ?_;clear hs;rintro k v Z hk - hs;have hck:BU k=k:=AJ (by omega);rcases Bd p.Bc hk with⟨x,hx,hlt⟩|hke
 .rw[Im]
  have hzl:(List.replicate k FV).length<=8:=by rw[List.length_replicate];omega
  generalize List.replicate k FV=zs at *;have hll:zs.length<AX/\(zs.length+1)*24<=140737488355328:=by omega
  conv=>whnf
  repeat'((first|apply st|(apply sq;intro K U)|(apply si;intro A B hA hB)|(refine hA _ _ ?_;clear hB B hA A)|(apply U;clear U K)|refine⟨rfl,?_⟩|refine ld ?_|refine fX fun Z hs=>?_|(refine MN (fun hc=>?_)<;>(try rw[hc])<;>clear hc)|refine aq (enc:=FT) (x:=FV) (fun v Z hs hsl=>?_) (hg:=Pr)|clear U K)<;>conv=>whnf)
  exact⟨hlt,v,rfl,trivial,hs⟩
 rw[hke]at hs
 conv=>whnf
 repeat'((first|apply st|(apply sq;intro K U)|(apply si;intro A B hA hB)|(refine hA _ _ ?_;clear hB B hA A)|(apply U;clear U K)|refine⟨rfl,?_⟩|(refine Qg (fun hc=>?_)<;>(try rw[hc])<;>clear hc)|clear U K)<;>conv=>whnf)
 refine Cc p.AG.length (fun k (_:V)=>[(24,eI (BU k))]) (fun k w=>[.box nB [v,.l [] true,w],.box nA [.l [] true,.l [] true,.l [] true],.own v 3 ((List.replicate p.Bc.length FV).map FT),.own w 1 (iL (List.replicate k (-1)))]) (fun _ _=>True) (.l [] true) rfl trivial (Gg hs 1) ?_;clear hs;rintro k2 w Z hk2 - hs;have hck2:BU k2=k2:=AJ (by omega);generalize hrw:(List.replicate p.Bc.length FV).map FT=rows at hs;rcases Bd p.AG hk2 with⟨x,hx,hlt⟩|hke2
 .rw[Im]
  have hzl:(List.replicate k2 (-1:Int)).length<=10:=by rw[List.length_replicate];omega
  generalize List.replicate k2 (-1:Int)=zs at *;have hll:zs.length<AX/\(zs.length+1)*8<=140737488355328:=by omega
  conv=>whnf
  repeat'((first|apply st|(apply sq;intro K U)|(apply si;intro A B hA hB)|(refine hA _ _ ?_;clear hB B hA A)|(apply U;clear U K)|refine⟨rfl,?_⟩|refine ld ?_|refine fX fun Z hs=>?_|refine aq fun v Z hs hsl=>?_|(refine MN (fun hc=>?_)<;>(try rw[hc])<;>clear hc)|clear U K)<;>conv=>whnf)
  subst hrw;exact⟨hlt,_,rfl,trivial,hs⟩
 rw[hke2]at hs
 conv=>whnf
 repeat'((first|apply st|(apply sq;intro K U)|(apply si;intro A B hA hB)|(refine hA _ _ ?_;clear hB B hA A)|(apply U;clear U K)|refine⟨rfl,?_⟩|refine⟨kZ,?_⟩|refine ld ?_|(refine Qg (fun hc=>?_)<;>(try rw[hc])<;>clear hc)|clear U K)<;>conv=>whnf)
 have o1:=FF hs 2 rfl;have o2:=FF hs 3 rfl;refine Ht hs 1 (vc:=[v,.l [] true,w]) rfl rfl rfl (by simp only[NV,List.all_nil,o1,o2];rfl) (by simp) fun Z hs=>?_
 conv=>whnf
 repeat'((first|apply st|(refine hA _ _ ?_;clear hB B hA A)|(apply U;clear U K)|refine⟨kZ,?_⟩|refine ld ?_|fail)<;>conv=>whnf)
 subst hrw;exact B1 (.t (.cons (.a (.cons (hs.HR 2 rfl) (.cons (.refl _) (.cons (hs.HR 3 rfl) .nil)))) (.cons (.refl _) .nil)))
end Go.Gl
namespace Go.Gl
open Go.Proofs
attribute [local irreducible] BD A3 Au AS AL Ao AU AV AM An AP AT BF BM Sat Af BK Aw W
def iC {q:II} (h:Dg (.a (FG q))):q.B7.length<=AX/\q.A0.length<=AX/\q.cls.length<=AX:=by
 simp only[FG,F4,C3,FK,BW]at h;exact⟨h.1.1,h.2.1.1,h.2.2.1.1⟩
def cP (q:II):Pure zP 11 [.a (FG q)] (.b (!CJ q)):=by
 refine Pure.fit (by kernel_rfl) fun hf=>?_
 have⟨p1,p2,p3⟩:=iC hf.1;have hM:=Mx;have e1:((q.B7.map FT).length:Int)=q.B7.length:=by simp
 have e2:((q.A0.map MP).length:Int)=q.A0.length:=by simp
 have e3:((iL q.cls).length:Int)=q.cls.length:=by simp
 cases h:CJ q
 .have hn: ¬(q.B7.length<=60/\q.A0.length<=60/\q.cls.length<=60):=fun hc=>by
   have:CJ q=true:=by simpa[CJ]using hc
   rw[this]at h;cases h
  refine aF kZ ?_;have hs:=Sn
  conv=>whnf
  repeat'((first|apply st|(apply sq;intro K U)|(apply si;intro A B hA hB)|(refine hA _ _ ?_;clear hB B hA A)|(apply U;clear U K)|refine⟨rfl,?_⟩|(constructor<;>intro hc<;>(try rw[hc])<;>(replace hc:=bp hc)<;>(try simp(disch:=omega) only[BW,wrap64,AJ]at hc))|fail)<;>conv=>whnf)
  all_goals first
   | exact AF rfl
   | (exfalso;omega)
   | exact AF (by rw[decide_eq_true (by omega)];rfl)
 .have⟨h1,h2,h3⟩:=Ea h
  refine aF kZ ?_;have hs:=Sn
  conv=>whnf
  repeat'((first|apply st|(apply sq;intro K U)|(apply si;intro A B hA hB)|(refine hA _ _ ?_;clear hB B hA A)|(apply U;clear U K)|refine⟨rfl,?_⟩|(constructor<;>intro hc<;>(try rw[hc])<;>(replace hc:=bp hc)<;>(try simp(disch:=omega) only[BW,wrap64,AJ]at hc)<;>try(exfalso;omega))|fail)<;>conv=>whnf)
  all_goals first
   | exact AF rfl
   | (exfalso;omega)
   | exact AF (by rw[decide_eq_false (by omega)];rfl)
def IA (p:Prog) (q:II) (c lev:Int) (hb:lev<=9223372036854775807) (c0:Pure zP 12 [] (.b true)):Pure zP 6 [.a (A7 p),.a (FG q),eI c,eI lev] (.b true):=by
 have c1:=cP q;cases h:CJ q<;>rw[h]at c1
 .refine gQ kZ ?_
  have hs:=Sn
  conv=>whnf
  repeat'((first|apply st|(apply sq;intro K U)|(apply si;intro A B hA hB)|(refine hA _ _ ?_;clear hB B hA A)|(apply U;clear U K)|refine⟨kZ,?_⟩|refine Xe ?_|refine c1.use ?_|refine c0.use ?_|clear U K)<;>conv=>whnf)
  all_goals first
   | exact AF rfl
   | (exfalso;simp at hc;done)
 have c2:=fR p;have c3:=fQ p;have c4:=fT p q h c lev hb;have c5:=fS p q h c lev;have c6:=CheckM p q h;have c7:=fU p q h;generalize Hq p q c lev=y at *;generalize F5 p q=z at *
 have c8:Pure zP 33 (match aU p with| .t [a,_]=>[a,a]|_=>[]) (.b true):=by
  rw[aU];cases hl:(BI p).isSome
  .exact aO ⟨[],[],[]⟩ rfl true true true true true true
  .exact aO (Qu p) (E9 hl).2.2 false true false false true false
 rw[aU]at *;cases hl:(BI p).isSome<;>rw[hl]at c2 c3 c8
 all_goals
  cases z
  all_goals
   refine gQ kZ ?_;have hs:=Sn
   conv=>whnf
   repeat'((first|apply st|(apply sq;intro K U)|(apply si;intro A B hA hB)|(refine hA _ _ ?_;clear hB B hA A)|(apply U;clear U K)|apply dr|refine rk ?_ ?_|exact fun s e=>by cases e;rfl|refine⟨rfl,?_⟩|refine⟨kZ,?_⟩|refine ld ?_|refine Qe fun Z hs=>?_|refine Xe ?_|refine U0 ?_|refine c1.use ?_|refine c2.use ?_|refine c3.use ?_|refine c4.use ?_|refine c5.use ?_|refine c6.use ?_|refine c7.use ?_|refine c8.use ?_|refine c0.use ?_|(constructor<;>intro hc<;>(try rw[hc])<;>(replace hc:=bp hc)<;>(try simp(disch:=omega) only[BW,wrap64,AJ]at hc)<;>try(exfalso;omega))|(intro nn hnn;generalize hg:BO _ nn _=Z;refine NY hg fun hs=>?_;clear hg)|fail)<;>conv=>whnf)
   all_goals first
    | exact AF rfl
    | (exfalso;simp at hc;done)
end Go.Gl
