import Derived.Test.YtcfkfhaedllcpaaGreatV25
import Derived.Test.YtcfkfhaedllcpaaGreatV31
import Derived.Test.YtcfkfhaedllcpaaGreatV32
import Derived.Test.YtcfkfhaedllcpaaGreatV34
set_option linter.all false
set_option linter.defProp false
set_option maxHeartbeats 8000000
noncomputable section
namespace Go.Gl
open Go.Proofs
attribute [local irreducible] A6 Ar Ah AR AI Ae AQ AT AK Ad AN AO Ay A7 Sat AY A5 Ai W
def Z8 (f:Int):Pure zP 51 [eI f] (.b (C1 f)):=by
 refine yv kZ ?_;have hs:=Sn
 conv=>whnf
 repeat'((first|apply st|(apply sq;intro K U)|(apply si;intro A B hA hB)|(refine hA _ _ ?_;clear hB B hA A)|(apply U;clear U K)|refine⟨rfl,?_⟩|(constructor<;>intro hc<;>(try rw[hc])<;>(replace hc:=bp hc))|fail)<;>conv=>whnf)
 all_goals exact AF (by simp[C1, *]<;>omega)
def fV (p:Prog) (hp:p.CW.length<=AX) (g k:Int):Pure zP 138 [eI g,eI k,.rp (BK p)] (.b (Ha p g k)):=by
 have hM:=Mx;by_cases h1:g= -1
 .subst h1
  refine X1 kZ ?_;have hs:=Sn
  conv=>whnf
  repeat'((first|apply st|(apply sq;intro K U)|(apply si;intro A B hA hB)|(refine hA _ _ ?_;clear hB B hA A)|(apply U;clear U K)|refine⟨rfl,?_⟩|(constructor<;>intro hc<;>(try rw[hc])<;>(replace hc:=bp hc)<;>(try simp(disch:=omega) only[BL,wrap64,AM]at hc)<;>try(exfalso;omega))|fail)<;>conv=>whnf)
  all_goals first
   | exact AF rfl
   | (exfalso;omega)
   | (exfalso;simp at hc;done)
 rw[Ha,show(g== -1)=false by simpa using h1,Bool.false_or];by_cases h2:0<=g/\g<(p.CW.length:Int)
 rotate_left
 .have h3:TZ p g=false:=by
   rw[Bool.eq_false_iff];intro hc;rw[TZ,BD,CD,CD]at hc;exact h2 hc
  rw[h3,Bool.false_and];refine X1 kZ ?_;have hs:=Sn
  conv=>whnf
  repeat'((first|apply st|(apply sq;intro K U)|(apply si;intro A B hA hB)|(refine hA _ _ ?_;clear hB B hA A)|(apply U;clear U K)|refine⟨rfl,?_⟩|(constructor<;>intro hc<;>(try rw[hc])<;>(replace hc:=bp hc)<;>(try simp(disch:=omega) only[BL,wrap64,AM]at hc)<;>try(exfalso;omega))|fail)<;>conv=>whnf)
  all_goals first
   | exact AF rfl
   | (exfalso;omega)
   | (exfalso;simp at hc;done)
 .have h3:TZ p g=true:=by rw[TZ,BD,CD,CD];exact h2
  obtain⟨x,hx⟩: ∃x,p.CW[g.toNat]? =some x:=⟨_,Cw (by omega)⟩
  rw[h3,show p.CW.getD g.toNat 0=x by rw[DL,hx];rfl,GJ];refine X1 kZ ?_;have hs:=Sn
  conv=>whnf
  repeat'((first|apply st|(apply sq;intro K U)|(apply si;intro A B hA hB)|(refine hA _ _ ?_;clear hB B hA A)|(apply U;clear U K)|refine⟨rfl,?_⟩|refine Y7 ?_|(constructor<;>intro hc<;>(try rw[hc])<;>(replace hc:=bp hc)<;>(try simp(disch:=omega) only[BL,wrap64,AM]at hc)<;>try(exfalso;omega))|fail)<;>conv=>whnf)
  all_goals first
   | exact AF rfl
   | (exfalso;omega)
   | (exfalso;simp at hc;done)
   | exact AF (by simp[*])
def badM (q:RN) (hq:Ew q=true) (m:Int):Pure zP 140 [eI m,.rp (JK q)] (.b (!eN q.Bv.length m)):=by
 have hM:=Mx;have⟨q1,q2,q3⟩:=GD hq;have e2:((q.Bv.map VB).length:Int)=q.Bv.length:=by simp
 by_cases h1: -1<=m
 .rw [eN,decide_eq_true h1,GJ]
  by_cases h2:m<(q.Bv.length:Int)
  .rw[decide_eq_true h2]
   refine X0 kZ ?_;have hs:=Sn
   conv=>whnf
   repeat'((first|apply st|(apply sq;intro K U)|(apply si;intro A B hA hB)|(refine hA _ _ ?_;clear hB B hA A)|(apply U;clear U K)|refine⟨rfl,?_⟩|(constructor<;>intro hc<;>(try rw[hc])<;>(replace hc:=bp hc)<;>try(exfalso;omega))|fail)<;>conv=>whnf)
   all_goals first
    | exact AF rfl
    | (exfalso;omega)
    | exact AF (by rw[e2];simp;omega)
  .rw[decide_eq_false h2]
   refine X0 kZ ?_;have hs:=Sn
   conv=>whnf
   repeat'((first|apply st|(apply sq;intro K U)|(apply si;intro A B hA hB)|(refine hA _ _ ?_;clear hB B hA A)|(apply U;clear U K)|refine⟨rfl,?_⟩|(constructor<;>intro hc<;>(try rw[hc])<;>(replace hc:=bp hc)<;>try(exfalso;omega))|fail)<;>conv=>whnf)
   all_goals first
    | exact AF rfl
    | (exfalso;omega)
    | exact AF (by rw[e2];simp;omega)
 .rw[eN,decide_eq_false h1,Bool.false_and]
  refine X0 kZ ?_;have hs:=Sn
  conv=>whnf
  repeat'((first|apply st|(apply sq;intro K U)|(apply si;intro A B hA hB)|(refine hA _ _ ?_;clear hB B hA A)|(apply U;clear U K)|refine⟨rfl,?_⟩|(constructor<;>intro hc<;>(try rw[hc])<;>(replace hc:=bp hc)<;>try(exfalso;omega))|fail)<;>conv=>whnf)
  all_goals first
   | exact AF rfl
   | (exfalso;omega)
def ya (p : Prog) (q:RN) (hq:Ew q=true):Pure zP 81 [.a (BK p),.a (JK q)] (.b (Kj p q)):=by
 refine Pure.fit (by kernel_rfl) fun hf=>?_
 have⟨p1,p2,p3,p4⟩:=Ev hf.1;have⟨q1,q2,q3⟩:=GD hq;have hM:=Mx;have e1:((q.Cf.map Ta).length:Int)=q.Cf.length:=by simp
 have e2:((q.Bv.map VB).length:Int)=q.Bv.length:=by simp
 have e3:((p.AJ.map PG).length:Int)=p.AJ.length:=by simp
 by_cases g1:q.Cf.length=p.CW.length
 rotate_left
 .rw[NC (.inl g1)]
  refine ZP kZ ?_;have hs:=Sn
  conv=>whnf
  repeat'((first|apply st|(apply sq;intro K U)|(apply si;intro A B hA hB)|(refine hA _ _ ?_;clear hB B hA A)|(apply U;clear U K)|refine⟨rfl,?_⟩|(constructor<;>intro hc<;>(try rw[hc])<;>(replace hc:=bp hc)<;>(try simp(disch:=omega) only[BL,wrap64,AM]at hc)<;>try(exfalso;omega))|clear U K)<;>conv=>whnf)
  all_goals first|exact AF rfl|(exfalso;omega)
 by_cases g2:q.Bv.length<=4
 rotate_left
 .rw[NC (.inr (.inl g2))]
  refine ZP kZ ?_;have hs:=Sn
  conv=>whnf
  repeat'((first|apply st|(apply sq;intro K U)|(apply si;intro A B hA hB)|(refine hA _ _ ?_;clear hB B hA A)|(apply U;clear U K)|refine⟨rfl,?_⟩|(constructor<;>intro hc<;>(try rw[hc])<;>(replace hc:=bp hc)<;>(try simp(disch:=omega) only[BL,wrap64,AM]at hc)<;>try(exfalso;omega))|clear U K)<;>conv=>whnf)
  all_goals first|exact AF rfl|(exfalso;omega)
 by_cases g3:q.cls.length=p.AJ.length
 rotate_left
 .rw[NC (.inr (.inr g3))]
  refine ZP kZ ?_;have hs:=Sn
  conv=>whnf
  repeat'((first|apply st|(apply sq;intro K U)|(apply si;intro A B hA hB)|(refine hA _ _ ?_;clear hB B hA A)|(apply U;clear U K)|refine⟨rfl,?_⟩|(constructor<;>intro hc<;>(try rw[hc])<;>(replace hc:=bp hc)<;>(try simp(disch:=omega) only[BL,wrap64,AM]at hc)<;>try(exfalso;omega))|clear U K)<;>conv=>whnf)
  all_goals first|exact AF rfl|(exfalso;omega)
 have hR0:=Zp g1 g2 g3;refine ZP kZ ?_;have hs:=Sn
 conv=>whnf
 repeat'((first|apply st|(apply sq;intro K U)|(apply si;intro A B hA hB)|(refine hA _ _ ?_;clear hB B hA A)|(apply U;clear U K)|refine⟨rfl,?_⟩|(constructor<;>intro hc<;>(try rw[hc])<;>(replace hc:=bp hc)<;>(try simp(disch:=omega) only[BL,wrap64,AM]at hc)<;>try(exfalso;omega))|fail)<;>conv=>whnf)
 all_goals try(exfalso;omega)
 refine By q.Cf.length (fun k (_:Unit)=>[(35,eI (A9 k))]) (fun _ _=>[]) (fun k _=>Kj p q=((q.Cf.drop k).all RX&&(JQ p 0 q.Bv&&q.cls.all (eN q.Bv.length)))) () rfl hR0 hs ?_;clear hs hR0;rintro k - Z hk hR hs;have hck:A9 k=k:=AM (by omega);rcases A3 q.Cf hk with⟨x,hx,hlt⟩|hke
 .rw [drop_cons hx,KK]at hR
  have c1:=Z8 x.fold;cases h1:C1 x.fold<;>rw[h1]at c1
  all_goals
   conv=>whnf
   repeat'((first|apply st|(apply sq;intro K U)|(apply si;intro A B hA hB)|(refine hA _ _ ?_;clear hB B hA A)|(apply U;clear U K)|refine⟨rfl,?_⟩|refine⟨kZ,?_⟩|refine ix ?_|refine ld ?_|refine Gk fun Z hs=>?_|refine Od ?_|refine Gn ?_|(refine OY (fun hc=>?_)<;>(try rw[hc])<;>clear hc)|refine c1.use ?_|(constructor<;>intro hc<;>(try rw[hc])<;>(replace hc:=bp hc))|(intro nn hnn;generalize hg:BV _ nn _=Z;refine G5 hg fun hs=>?_;clear hg)|clear U K)<;>conv=>whnf)
   all_goals try simp only[Bool.not_true,Bool.not_false,cond_false,cond_true,CD,decide_eq_false_iff_not]at *
   all_goals first
    | exact⟨hlt,(),rfl,by rw[hR,aZ (by omega) h1 (by omega) (by omega),GJ],hs.less (Jm _)⟩
    | exact AF (by rw[hR,gz h1];rfl)
    | exact AF (by rw[hR,gy (by omega)];rfl)
    | (exfalso;omega)
 rw[Hw hke,List.all_nil,GJ]at hR
 conv=>whnf
 repeat'((first|apply st|(apply sq;intro K U)|(apply si;intro A B hA hB)|(refine hA _ _ ?_;clear hB B hA A)|(apply U;clear U K)|refine⟨rfl,?_⟩|(refine XQ (fun hc=>?_)<;>(try rw[hc])<;>clear hc)|clear U K)<;>conv=>whnf)
 all_goals try(exfalso;omega)
 refine By q.Bv.length (fun k (_:Unit)=>[(68,eI (A9 k))]) (fun _ _=>[]) (fun k _=>Kj p q=(JQ p k (q.Bv.drop k)&&q.cls.all (eN q.Bv.length))) () rfl hR hs ?_;clear hs hR;rintro k2 - Z hk2 hR hs;have hck2:A9 k2=k2:=AM (by omega);rcases A3 q.Bv hk2 with⟨x,hx,hlt⟩|hke2
 .rw [drop_cons hx,JQ,qX]at hR
  have c1:=fV p p2 x.rd 2;have c2:=fV p p2 x.wr 2;have c3:=fV p p2 x.xG 1;generalize Ha p x.rd 2=b1 at *;generalize Ha p x.wr 2=b2 at *;generalize Ha p x.xG 1=b3 at *;by_cases h1: -1<=x.of/\x.of<(k2:Int)
  .rw [decide_eq_true h1.1,decide_eq_true h1.2]at hR
   cases b1<;>cases b2<;>cases b3
   all_goals
    conv=>whnf
    repeat'((first|apply st|(apply sq;intro K U)|(apply si;intro A B hA hB)|(refine hA _ _ ?_;clear hB B hA A)|(apply U;clear U K)|refine⟨rfl,?_⟩|refine⟨kZ,?_⟩|refine ix ?_|refine ld ?_|refine Gk fun Z hs=>?_|refine Uy ?_|refine Rp ?_|refine Od ?_|refine Gn ?_|(refine OY (fun hc=>?_)<;>(try rw[hc])<;>clear hc)|refine c1.use ?_|refine c2.use ?_|refine c3.use ?_|refine Bh ?_|(constructor<;>intro hc<;>(try rw[hc])<;>(replace hc:=bp hc)<;>(try simp(disch:=omega) only[BL,wrap64,AM]at hc)<;>try(exfalso;omega))|(intro nn hnn;generalize hg:BV _ nn _=Z;refine G5 hg fun hs=>?_;clear hg)|clear U K)<;>conv=>whnf)
    all_goals try simp only[Bool.not_true,Bool.not_false,cond_false,cond_true,CD,decide_eq_false_iff_not]at *
    all_goals first
     | exact⟨hlt,(),rfl,by simpa using hR,hs.less (Jm _)⟩
     | exact AF (by rw[hR];rfl)
     | (exfalso;omega)
  .have hd:(decide (-1<=x.of)&&decide (x.of<(k2:Int)))=false:=by
    rw[Bool.eq_false_iff];intro hc;simp only[BD,CD]at hc;exact h1 hc
   rw[hd,Bool.false_and,Bool.false_and]at hR
   conv=>whnf
   repeat'((first|apply st|(apply sq;intro K U)|(apply si;intro A B hA hB)|(refine hA _ _ ?_;clear hB B hA A)|(apply U;clear U K)|refine⟨rfl,?_⟩|refine⟨kZ,?_⟩|refine ix ?_|refine ld ?_|refine Gk fun Z hs=>?_|(refine OY (fun hc=>?_)<;>(try rw[hc])<;>clear hc)|(constructor<;>intro hc<;>(try rw[hc])<;>(replace hc:=bp hc)<;>(try simp(disch:=omega) only[BL,wrap64,AM]at hc)<;>try(exfalso;omega))|(intro nn hnn;generalize hg:BV _ nn _=Z;refine G5 hg fun hs=>?_;clear hg)|clear U K)<;>conv=>whnf)
   all_goals first
    | exact AF (by rw[hR];rfl)
    | (exfalso;omega)
 rw[Hw hke2,JQ,GJ]at hR;have c4:Pure zP 139 [.l (iL q.cls) false,.f (.func 140) [] [.rp (JK q)]] (.b (q.cls.any fun c=> !eN q.Bv.length c)):=I2 false fun y _=>badM q hq y
 rw[List.all_eq_not_any_not]at hR
 conv=>whnf
 repeat'((first|apply st|(apply sq;intro K U)|(apply si;intro A B hA hB)|(refine hA _ _ ?_;clear hB B hA A)|(apply U;clear U K)|refine⟨rfl,?_⟩|(refine XQ (fun hc=>?_)<;>(try rw[hc])<;>clear hc)|refine c4.use ?_|clear U K)<;>conv=>whnf)
 all_goals first
  | exact AF (by rw[hR])
  | (exfalso;omega)
def CheckM (p:Prog) (q:RN) (hq:Ew q=true):Pure zP 31 [.a (BK p),.a (JK q)] (eI (if Jb p q then 0 else 2)):=by
 have c1:=Wl p;have c2:=ya p q hq;rw[Jb];cases h1:(BW p).isSome<;>cases h2:Kj p q<;>rw[h1]at c1<;>rw[h2]at c2
 all_goals
  first|rw[if_pos rfl]at c1|rw[if_neg (by decide)]at c1
  refine yy kZ ?_;have hs:=Sn
  conv=>whnf
  repeat'((first|apply st|(apply sq;intro K U)|(apply si;intro A B hA hB)|(refine hA _ _ ?_;clear hB B hA A)|(apply U;clear U K)|refine⟨rfl,?_⟩|refine⟨kZ,?_⟩|refine Uy ?_|refine Rp ?_|refine c1.use ?_|refine c2.use ?_|(constructor<;>intro hc<;>(try rw[hc])<;>(replace hc:=bp hc)<;>(try simp(disch:=omega) only[BL,wrap64,AM]at hc)<;>try(exfalso;omega))|clear U K)<;>conv=>whnf)
  all_goals exact AF rfl
end Go.Gl
namespace Go.Gl
variable {P:Program} {Z:AE}
def Li.fz {L:Nat} {args:List V} {Q Q':R->AE->Prop} (h:Li P L args Z Q) (hq: ∀r Z',Q r Z'->(∃b,r= .ret (.b b))/\ ∃Z2,qK Z' Z2/\Q' r Z2):Li P L args Z Q':=by
 intro F w cs hR hv;obtain⟨f,tmps,assign,body,h1,h2⟩:=h F w cs hR hv;refine⟨f,tmps,assign,body,h1,h2.mono fun e w' ⟨r,Z',hq1,hr,hR',hA⟩=>?_⟩;obtain⟨⟨b,rfl⟩,Z2,hf,hq2⟩:=hq r Z' hq1;obtain⟨c,rfl,hc⟩:=hr;exact⟨_,Z2,hq2,⟨c,rfl,by simp only[Aa]at hc ⊢;exact hc⟩,hR'.fz hf,hA.trans (Bw.fz w' hf)⟩
end Go.Gl
namespace Go.Gl
open Go.Proofs
attribute [local irreducible] A6 Ar Ah AR AI Ae AQ AT AK Ad AN AO Ay A7 Sat AY A5 Ai W
def Nb (v:Int×Int):Pure zP 107 [.a (pI v)] (eI (EL v)):=by
 obtain⟨k,x⟩:=v;refine wP kZ ?_;have hs:=Sn
 conv=>whnf
 repeat'((first|apply st|(apply sq;intro K U)|(apply si;intro A B hA hB)|(refine hA _ _ ?_;clear hB B hA A)|(apply U;clear U K)|refine⟨rfl,?_⟩|(constructor<;>intro hc<;>(try rw[hc])<;>(replace hc:=bp hc)<;>(try simp(disch:=omega) only[BL,wrap64,AM]at hc))|clear U K)<;>conv=>whnf)
 all_goals exact AF (by simp[EL, *])
def kO (n:Int):Pure zP 108 [eI n] (eI (ES n)):=by
 refine wO kZ ?_;have hs:=Sn
 conv=>whnf
 repeat'((first|apply st|(apply sq;intro K U)|(apply si;intro A B hA hB)|(refine hA _ _ ?_;clear hB B hA A)|(apply U;clear U K)|refine⟨rfl,?_⟩|fail)<;>conv=>whnf)
 have e:(if 1000000000<(if -1000000000 > n then -1000000000 else n)then 1000000000 else(if -1000000000 > n then -1000000000 else n))=ES n:=by
  simp only[ES];omega
 rw[e];exact AF rfl
def sS (n:Int):Pure zP 44 [eI n] (.a (pI (1,n))):=by
 refine yx kZ ?_;have hs:=Sn
 conv=>whnf
 repeat'((first|apply st|(apply sq;intro K U)|(apply si;intro A B hA hB)|(refine hA _ _ ?_;clear hB B hA A)|(apply U;clear U K)|refine⟨kZ,?_⟩|refine ld ?_|refine Gk fun Z hs=>?_|(intro nn hnn;generalize hg:BV _ nn _=Z;refine G5 hg fun hs=>?_;clear hg)|fail)<;>conv=>whnf)
 all_goals exact AF rfl
def dQ (f : Int) (h1:C1 f=true) (l:List (Int×Int)) (hne:l≠[]) (hv: ∀v∈l,I5 40 v=true) (fl:Bool) (hl:l.length<=60):Pure zP 61 [eI f,.l (pP l) fl] (.t [.a (pI (Ln f (l.take (DZ f l)))),eI (DZ f l)]):=by
 have hM:=Mx;have e0:((pP l).length:Int)=l.length:=by simp
 rw[C1,BD,CD,CD]at h1;have hpos:=List.length_pos_iff.2 hne;by_cases hf1:f=1
 .subst hf1
  obtain⟨x,r,rfl⟩:=List.exists_cons_of_ne_nil hne;have hn:DZ 1 (x::r)=1:=by simp[DZ,Et,B2]
  rw[hn];refine fb kZ ?_;have hs:=Sn
  conv=>whnf
  repeat'((first|apply st|(apply sq;intro K U)|(apply si;intro A B hA hB)|(refine hA _ _ ?_;clear hB B hA A)|(apply U;clear U K)|refine⟨rfl,?_⟩|refine⟨kZ,?_⟩|refine iq fun x hx=>?_|refine ld ?_|refine Gk fun Z hs=>?_|(constructor<;>intro hc<;>(try rw[hc])<;>(replace hc:=bp hc)<;>(try simp(disch:=omega) only[BL,wrap64,AM]at hc)<;>try(exfalso;omega))|(intro nn hnn;generalize hg:BV _ nn _=Z;refine G5 hg fun hs=>?_;clear hg)|clear U K)<;>conv=>whnf)
  all_goals first
   | (simp only[Int.toNat_zero,kz,HR]at hx;subst hx;exact AF rfl)
 by_cases hf2:f=5\/f=6
 .have hfold: ∀(k:Nat) (x:Int×Int),l[k]? =some x->Ln f (l.take (k+1))=x:=fun k x hx=>by
   rw[AL hx];obtain⟨y,r,hyr⟩:=List.exists_cons_of_ne_nil (l:=l.take k++[x]) (by simp);rw[hyr,Ln,if_neg (by omega),<-hyr,List.getLast?_append];simp
  have hen: ∀x:Int×Int,B2 f x=((EL x==0)==(f==5)):=fun x=>by
   rcases hf2 with rfl|rfl
   .simp[B2]
   .simp[B2];rfl
  refine fb kZ ?_;have hs:=Sn
  conv=>whnf
  repeat'((first|apply st|(apply sq;intro K U)|(apply si;intro A B hA hB)|(refine hA _ _ ?_;clear hB B hA A)|(apply U;clear U K)|refine⟨rfl,?_⟩|(constructor<;>intro hc<;>(try rw[hc])<;>(replace hc:=bp hc)<;>try(exfalso;omega))|(intro nn hnn;generalize hg:BV _ nn _=Z;refine G5 hg fun hs=>?_;clear hg)|fail)<;>conv=>whnf)
  all_goals first
   | (exfalso;omega)
   | skip
  all_goals
   refine By l.length (fun k (_:Unit)=>[(6,eI (A9 k))]) (fun _ _=>[.box nn [eI 0,eI 0]]) (fun k _=>Et (B2 f) 0 l=Et (B2 f) k (l.drop k)) () rfl rfl hs ?_;clear hs;rintro k - Z hk hn hs;have hck:A9 k=k:=AM (by omega);rcases A3 l hk with⟨x,hx,hlt⟩|hke
   .have c1:=Nb x
    have hw:IntKind.i64.wrap (A9 k+1)=(k:Int)+1:=by rw[hck,wrap64 (by omega) (by omega)]
    rw[drop_cons hx,Et,hen]at hn;cases hb:((EL x==0)==(f==5))<;>rw[hb]at hn
    .conv=>whnf
     repeat'((first|apply st|(apply sq;intro K U)|(apply si;intro A B hA hB)|(refine hA _ _ ?_;clear hB B hA A)|(apply U;clear U K)|refine⟨rfl,?_⟩|refine⟨kZ,?_⟩|refine ix ?_|refine ld ?_|refine Gk fun Z hs=>?_|(refine OY (fun hc=>?_)<;>(try rw[hc])<;>clear hc)|refine c1.use ?_|(constructor<;>intro hc<;>(try rw[hc])<;>(replace hc:=bp hc))|clear U K)<;>conv=>whnf)
     all_goals first
      | exact⟨hlt,(),rfl,by rw[hn,if_neg (by decide)],hs⟩
      | (exfalso;simp_all;done)
    .rw[if_pos rfl]at hn
     have hne2:DZ f l=k+1:=by rw[DZ,hn,if_neg (by omega)];omega
     rw[hne2,hfold k x hx]
     conv=>whnf
     repeat'((first|apply st|(apply sq;intro K U)|(apply si;intro A B hA hB)|(refine hA _ _ ?_;clear hB B hA A)|(apply U;clear U K)|refine⟨rfl,?_⟩|refine⟨kZ,?_⟩|refine ix ?_|refine ld ?_|refine Gk fun Z hs=>?_|(refine OY (fun hc=>?_)<;>(try rw[hc])<;>clear hc)|refine c1.use ?_|(constructor<;>intro hc<;>(try rw[hc])<;>(replace hc:=bp hc))|clear U K)<;>conv=>whnf)
     all_goals first
      | exact AF (by rw[hw];rfl)
      | (exfalso;simp_all;done)
   .rw[Al hke,Et]at hn
    have hne2:DZ f l=l.length:=by rw[DZ,hn,if_pos (by omega)]
    obtain⟨x,hx⟩: ∃x,l[l.length - 1]? =some x:=⟨_,Cw (by omega)⟩
    have hfx:=hfold (l.length - 1) x hx;rw[show l.length - 1+1=l.length by omega]at hfx;have hw:IntKind.i64.wrap (((pP l).length:Int) - 1)=((l.length - 1:Nat):Int):=by rw[e0,wrap64 (by omega) (by omega)];omega
    have hx2:l[(IntKind.i64.wrap (((pP l).length:Int) - 1)).toNat]? =some x:=by rw[hw];exact hx
    rw[hne2,hfx]
    conv=>whnf
    repeat'((first|apply st|(apply sq;intro K U)|(apply si;intro A B hA hB)|(refine hA _ _ ?_;clear hB B hA A)|(apply U;clear U K)|refine⟨rfl,?_⟩|refine⟨kZ,?_⟩|refine Y7 ?_|refine ld ?_|refine Gk fun Z hs=>?_|(refine XQ (fun hc=>?_)<;>(try rw[hc])<;>clear hc)|clear U K)<;>conv=>whnf)
    all_goals first
     | exact AF rfl
     | exact AF (by rw[hne2,hfx,e0];rfl)
     | (exfalso;omega)
 .have hf3:f=2\/f=3\/f=4:=by omega
  rw[jR hf3,List.take_length];obtain⟨x0,r,rfl⟩:=List.exists_cons_of_ne_nil hne;have hx0:=ZL (hv x0 (.head _));have hr: ∀v∈r,Lb (EL v):=fun v hm=>ZL (hv v (.tail _ hm))
  rw[Ln,if_pos hf3];refine fb kZ ?_;have hs:=Sn
  conv=>whnf
  repeat'((first|apply st|(apply sq;intro K U)|(apply si;intro A B hA hB)|(refine hA _ _ ?_;clear hB B hA A)|(apply U;clear U K)|refine⟨rfl,?_⟩|refine⟨kZ,?_⟩|refine iq fun x hx=>?_|refine Pure.use (Nb _) ?_|(constructor<;>intro hc<;>(try rw[hc])<;>(replace hc:=bp hc)<;>try(exfalso;omega))|(intro nn hnn;generalize hg:BV _ nn _=Z;refine G5 hg fun hs=>?_;clear hg)|fail)<;>conv=>whnf)
  all_goals first
   | (exfalso;omega)
   | skip
  obtain rfl:x0=x:=by simpa using hx
  have hlc:(x0::r).length=r.length+1:=rfl;rw[JD]at hl;refine By r.length (fun k (n:Int)=>[(7,eI n),(8,eI (JL 1 k))]) (fun _ _=>[.box nn [eI 0,eI 0]]) (fun k n=>n=JG f x0 (r.take k)) (EL x0) rfl rfl hs ?_;clear hs hx;rintro k n Z hk hn hs;have hn2:Lb n:=hn ▸ Pa _ hx0 fun v hv=>hr v (List.mem_of_mem_take hv)
  have hck:JL 1 k=(k:Int)+1:=by rw[L8 (by omega) (by omega)];omega
  rcases A3 r hk with⟨y,hy,hlt⟩|hke
  .have hy1:=hr y (Bz hy)
   have c1:=Nb y;have c2:=kO (n+EL y);have hw:IntKind.i64.wrap (n+EL y)=n+EL y:=by unfold Lb at hn2 hy1;exact wrap64 (by omega) (by omega)
   rw[<-hw]at c2;have hyx:(x0::r)[(JL 1 k).toNat]? =some y:=by rw[hck,show((k:Int)+1).toNat=k+1 by omega];exact hy
   have hst: ∀m,m=Uz f n (EL y)->m=JG f x0 (r.take (k+1)):=fun m hm=>by
    rw[hm,AL hy,JG,List.foldl_append,<-JG,<-hn];rfl
   rcases hf3 with rfl|rfl|rfl
   all_goals
    conv=>whnf
    repeat'((first|apply st|(apply sq;intro K U)|(apply si;intro A B hA hB)|(refine hA _ _ ?_;clear hB B hA A)|(apply U;clear U K)|refine⟨rfl,?_⟩|refine⟨kZ,?_⟩|refine Y7 ?_|refine c1.use ?_|refine c2.use ?_|(constructor<;>intro hc<;>(try rw[hc])<;>(replace hc:=bp hc)<;>(try simp(disch:=omega) only[BL,wrap64,AM]at hc)<;>try(exfalso;omega))|clear U K)<;>conv=>whnf)
    all_goals first
     | (exfalso;omega)
     | (refine⟨hlt,_,rfl,hst _ ?_,hs⟩;simp[Uz,hw];done)
     | (refine⟨hlt,_,rfl,hst _ ?_,hs⟩;simp[Uz];omega)
     | (refine⟨hlt,_,rfl,hst _ ?_,hs⟩;simp[Uz];split<;>omega)
  .rw[Ap hke]at hn
   have c1:=sS n;subst hn
   conv=>whnf
   repeat'((first|apply st|(apply sq;intro K U)|(apply si;intro A B hA hB)|(refine hA _ _ ?_;clear hB B hA A)|(apply U;clear U K)|refine⟨rfl,?_⟩|refine⟨kZ,?_⟩|refine ld ?_|refine Gk fun Z hs=>?_|refine c1.use ?_|(constructor<;>intro hc<;>(try rw[hc])<;>(replace hc:=bp hc)<;>(try simp(disch:=omega) only[BL,wrap64,AM]at hc)<;>try(exfalso;omega))|clear U K)<;>conv=>whnf)
   all_goals first
    | (exfalso;omega)
    | exact AF rfl
    | exact AF (by rw[e0];rfl)
end Go.Gl
