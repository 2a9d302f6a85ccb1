import Derived.KernelRfl
import Derived.Test.YtinppljblkpedaaGreatU14
import Derived.Test.YtinppljblkpedaaGreatU30
import Derived.Test.YtinppljblkpedaaGreatU40
import Derived.Test.YtinppljblkpedaaGreatU41
import Derived.Test.YtinppljblkpedaaGreatU43
set_option linter.all false
set_option linter.defProp false
set_option maxHeartbeats 8000000
noncomputable section
namespace Go.Gl
open Go.Proofs
abbrev W4:List (List Int×Int):=[([],4),([0],1),([0,2],1),([0,1],1)]
abbrev W5:List (List Int×Int):=[([],4),([0],1),([0,2],1),([0,1],1),([0,1,2],3)]
def sT:Ts K4 0 (EN (AH K4))= .t [.l (W5.map Tg) false,eI 0]:=by kernel_rfl
def js:Ts K4 0 (X4 (AH K4) [])= .t [.l (W4.map Tg) false,eI 0]:=by kernel_rfl
def x_of:nP K4 0 [4]= .t [.l ([([0,1],1)].map Tg) false,eI 0]:=by kernel_rfl
def y2:nP K4 0 [0]= .t [.l [] true,eI 2]:=by kernel_rfl
def jr:T7 K4 0 4 [1]:=fun _ _=> .here (by kernel_rfl)
def jq:T7 K4 0 1 [3]:=fun _ _=> .there (cs':=[2]) (by kernel_rfl) (by kernel_rfl) (.there (cs':=[3]) (by kernel_rfl) (by kernel_rfl) (.here (by kernel_rfl)))
def sY:Pn K4 0 3 []=false:=by kernel_rfl
def jo:T7 K4 0 3 []:=fun _ h=>by rw[sY]at h;cases h
def sX:ff K4 0 4 [1]= .t [.l (iL [1]) false,eI 0]:=by kernel_rfl
def sW:ff K4 0 1 [3]= .t [.l (iL [3]) false,eI 0]:=by kernel_rfl
def sV:ff K4 0 3 []= .t [.l [] true,eI 5]:=by kernel_rfl
def nU:Tw exH 0 [0,1,2,3]=(2,0):=by kernel_rfl
def sZ:Vq K4 0 [0,1]=(Jd (Pa 3) (Jd (Pa 4) (Ca (Pa 5))),0):=by kernel_rfl
def sU:Mu K4 0=(Ca (Pa 3),0):=by kernel_rfl
def y3:C5 K4 0=true->Ba (AH K4) (MM K4 0)=true->gY (AH K4) (MM K4 0):=fun _ h=>mH h (of_decide_eq_true (by kernel_rfl))
end Go.Gl
namespace Go.Gl
open Go.Proofs
attribute [local irreducible] As Ag AY AQ AL AX AP AR AK AW AM AN Ai Ap Sat AT An AZ W
attribute [local irreducible] Fz
def Yk (p:Prog) (gen:Int):Pure zP 50 [.a (O6 p gen)] (.b true):=by
 refine rG kZ ?_;have hs:=Sn;exact zW
def mW (p : Prog) (gen:Int) (hsh:C5 p gen=true->Ba (AH p) (MM p gen)=true->gY (AH p) (MM p gen)):Pure zP 44 [.a (BF p),eI gen] (.t [.a (xF (Mu p gen).1),eI (Mu p gen).2]):=by
 refine Pure.fit (by kernel_rfl) fun hf=>?_
 have hP:=JM hf.1;have⟨p1,p2,p3,p4⟩:=Gq hf.1;have hM:=Mx;have c1:=Lg p gen 50 [] true fun _=>Yk p gen
 rw[Mu];cases h1:C5 p gen
 .rw[(Et h1 _).1,(Et h1 _).2]at c1
  rw[if_neg (by decide)];refine gU kZ ?_;have hs:=Sn
  conv=>whnf
  repeat'((first|clear U K|apply st|(apply zk;intro K U)|refine zY ?_|refine zs fun Z hs=>?_|refine zC ?_|(refine zb (fun hc=>?_) (fun hc=>?_)<;>try exact⟨⟩)|refine zo fun nn hnn Z hs=>?_|fail)<;>conv=>whnf)
  all_goals exact Af (.t (.cons Hu (.cons (.refl _) .nil)))
 rw[if_pos rfl];replace hsh:=hsh h1;rw[(EK h1).1,(EK h1).2]at c1;by_cases h3:(Bu p gen).length<=8
 .rw [if_pos h3]at c1 ⊢
  rw[C5,A4]at h1;have h16:=(look_ok h1.1).many;have c4:=gw p gen (MM p gen) h1.1;have c5:=PU p;rw[h1.1,if_pos rfl]at c5;have hgw:=LL h1.1;have hmm:=iR (p:=p) (gen:=gen);refine gU kZ ?_;have hs:=Sn
  conv=>whnf
  repeat'((first|apply st|(refine Ta ?_;intro K U)|(apply si;intro A B hA hB)|(refine hA _ _ ?_;clear hB B hA A)|(apply U;clear U K)|refine⟨rfl,?_⟩|refine⟨kZ,?_⟩|refine ld ?_|refine FX fun Z hs=>?_|refine c1.use ?_|refine cE ?_|(constructor<;>intro hc<;>(try rw[hc])<;>(replace hc:=bp hc)<;>(try simp(disch:=omega) only[Bc,wrap64,AS]at hc)<;>try(exfalso;omega))|(intro nn hnn;generalize hg:BZ _ nn _=Z;refine GF hg fun hs=>?_;clear hg)|fail)<;>conv=>whnf)
  rename_i n4 _ _ _ _ _;refine B4 (Bu p gen).length (fun k v=>[(8,v),(27,eI (A7 k))]) (fun k v=>[.box nn (O6 p gen),.box n4 [.i .i64 0,.i .i64 0,.l [] true,.i .i64 0,.i .i64 0,.l [] true],.own v 6 (facts (F3 p ((Bu p gen).take k)))]) (fun _ _=>True) (.l [] true) rfl trivial (EY hs 6) ?_;clear hs;rintro k v Z hk - hs;rcases A9 (Bu p gen) hk with⟨x,hx,hlt⟩|hke
  .have hck:A7 k=k:=AS (by omega)
   have hst:=Y0 p ((Bu p gen).take k) x;rw[<-AU hx]at hst;have hmx:=hmm x (B6 hx);have hxP:=Cm hmx;have hxr:=hmx;simp only[Bd,A4,B7]at hxr;have hzl:(F3 p ((Bu p gen).take k)).length<=8:=Nat.le_trans (Ss _ _) (by rw[Je];omega);generalize F3 p ((Bu p gen).take k)=zl at *;have hll:zl.length<Ab/\(zl.length+1)*80<=140737488355328:=by omega
   generalize BY p x=mx at *;by_cases hkd:mx.kind=1
   .rw[if_pos (CF.2 hkd)]at hst
    conv=>whnf
    repeat'((first|clear U K|apply st|(apply zk;intro K U)|refine zY ?_|refine yZ fun v Z hs hsl=>?_|(refine zb (fun hc=>?_) (fun hc=>?_)<;>try exact⟨⟩)|fail)<;>conv=>whnf)
    all_goals try(exfalso;simp[hkd]at hc;done)
    all_goals exact⟨hlt,_,rfl,trivial,by rw[hst];exact hs⟩
   .rw[if_neg (by simpa using hkd)]at hst
    conv=>whnf
    repeat'((first|clear U K|apply st|(apply zk;intro K U)|refine zY ?_|(refine zb (fun hc=>?_) (fun hc=>?_)<;>try exact⟨⟩)|fail)<;>conv=>whnf)
    all_goals try(exfalso;simp[hkd]at hc;done)
    all_goals exact⟨hlt,_,rfl,trivial,by rw[hst];exact hs⟩
  .rw [BA hke]at hs
   have hpl:(F3 p (Bu p gen)).length<=8:=Nat.le_trans (Ss _ _) h3;have hmf:MM p gen=if(F3 p (Bu p gen)).isEmpty then .mk 1 0 [] 0 0 []else Ca (Zf 7 (F3 p (Bu p gen))):=rfl
   have c3:=sB 7 (F3 p (Bu p gen)) (by omega);generalize F3 p (Bu p gen)=ls at *
   conv=>whnf
   repeat'((first|(refine Ta ?_;intro K U)|(apply si;intro A B hA hB)|(refine hA _ _ ?_;clear hB B hA A)|(apply U;clear U K)|refine⟨rfl,?_⟩|fail)<;>conv=>whnf)
   refine cE ?_
   conv=>whnf
   repeat'((first|apply st|(refine Ta ?_;intro K U)|(apply U;clear U K)|(refine SF (fun hc=>?_)<;>(try rw[hc])<;>clear hc)|clear U K)<;>conv=>whnf)
   refine Vm hs 2 rfl (fun Z2 h=> .cons (.refl _) (.cons (.refl _) (.cons (.refl _) (.cons h .nil)))) fun Z hs=>?_
   generalize MM p gen=xf at *
   have hfin:Ba (AH p) xf=true->Pure zP 110 [.a (A5 (AH p)),.a (xF xf)] (.t [.a (xF (DN (AH p) 200 xf)),eI 0]):=fun h4=>by
    obtain⟨C,M,hS,hx,hm,-⟩:=hsh h4;exact nu (AH p) hgw hS xf hx (by rw[Ki];exact h4) hm
   clear hsh;cases ls with
   | nil =>
     rw[List.isEmpty_nil,if_pos rfl]at hmf;subst hmf;cases h4:Ba (AH p) (.mk 1 0 [] 0 0 [])<;>rw[h4]at c4
     .rw[if_neg (by decide),if_neg (by decide)]at c4
      conv=>whnf
      repeat'((first|clear U K|apply st|(apply zk;intro K U)|refine zY ?_|refine zs fun Z hs=>?_|refine Pure.use (c3 _) ?_|refine c4.use ?_|(refine zb (fun hc=>?_) (fun hc=>?_)<;>try exact⟨⟩)|refine zo fun nn hnn Z hs=>?_|fail)<;>conv=>whnf)
      all_goals try(exfalso;simp at hc;done)
      all_goals try(exfalso;simp at hc;omega)
      all_goals first
       | exact AG rfl
       | exact Af (.t (.cons Hu (.cons (.refl _) .nil)))
     .rw[if_pos rfl,if_pos rfl]at c4
      have c6:=hfin h4
      conv=>whnf
      repeat'((first|clear U K|apply st|(apply zk;intro K U)|refine zY ?_|refine zs fun Z hs=>?_|refine Pure.use (c3 _) ?_|refine c4.use ?_|refine c5.use ?_|refine c6.use ?_|(refine zb (fun hc=>?_) (fun hc=>?_)<;>try exact⟨⟩)|refine zo fun nn hnn Z hs=>?_|fail)<;>conv=>whnf)
      all_goals try(exfalso;simp at hc;done)
      all_goals try(exfalso;simp at hc;omega)
      all_goals first
       | exact AG rfl
       | exact Af (.t (.cons Hu (.cons (.refl _) .nil)))
   | cons x r=>
     rw[if_neg (by simp)]at hmf;have c2:=yo (Zf 7 (x::r));rw[<-hmf]at c2;cases h4:Ba (AH p) xf<;>rw[h4]at c4
     .rw[if_neg (by decide),if_neg (by decide)]at c4
      conv=>whnf
      repeat'((first|clear U K|apply st|(apply zk;intro K U)|refine zY ?_|refine zs fun Z hs=>?_|refine c2.use ?_|refine Pure.use (c3 _) ?_|refine c4.use ?_|(refine zb (fun hc=>?_) (fun hc=>?_)<;>try exact⟨⟩)|refine zo fun nn hnn Z hs=>?_|fail)<;>conv=>whnf)
      all_goals try(exfalso;simp at hc;done)
      all_goals try(exfalso;simp at hc;omega)
      all_goals first
       | exact AG rfl
       | exact Af (.t (.cons Hu (.cons (.refl _) .nil)))
     .rw[if_pos rfl,if_pos rfl]at c4
      have c6:=hfin h4
      conv=>whnf
      repeat'((first|clear U K|apply st|(apply zk;intro K U)|refine zY ?_|refine zs fun Z hs=>?_|refine c2.use ?_|refine Pure.use (c3 _) ?_|refine c4.use ?_|refine c5.use ?_|refine c6.use ?_|(refine zb (fun hc=>?_) (fun hc=>?_)<;>try exact⟨⟩)|refine zo fun nn hnn Z hs=>?_|fail)<;>conv=>whnf)
      all_goals try(exfalso;simp at hc;done)
      all_goals try(exfalso;simp at hc;omega)
      all_goals first
       | exact AG rfl
       | exact Af (.t (.cons Hu (.cons (.refl _) .nil)))
 .rw[if_neg h3]at c1 ⊢
  refine gU kZ ?_;have hs:=Sn
  conv=>whnf
  repeat'((first|clear U K|apply st|(apply zk;intro K U)|refine zY ?_|refine zs fun Z hs=>?_|refine zC ?_|(refine zb (fun hc=>?_) (fun hc=>?_)<;>try exact⟨⟩)|refine zo fun nn hnn Z hs=>?_|fail)<;>conv=>whnf)
  all_goals exact Af (.t (.cons Hu (.cons (.refl _) .nil)))
end Go.Gl
namespace Go.Gl
open Go.Proofs
section
variable {g:FuncId} {fi ca:List V} {p:Prog} {gen:Int} {ms:List Int} {tog:List Fact->Bool}
attribute [local irreducible] As Ag AY AQ AL AX AP AR AK AW AM AN Ai Ap Sat AT An AZ W
def SoG {S:Type} (g:FuncId) (fi ca:List V) (p:Prog) (gen:Int) (ms:List Int) (tog:List Fact->Bool) (HL:S->List At->Prop) (pre:List At):Prop:=
 ∀ s many:Nat,s<18446744073709551616->many<=ms.length-> ∀l Z z,HL z l->Sat Z (pre++l)-> ∀k kp:V->AE->Prop,k (.b (DK tog (E5 p ms) (Bw s many))) Z->
   As zP 190 [eU s,eI many,.rp [.f (.func g) fi ca],.rp (Th p gen ms)] Z (qk k kp)
def y5 {S:Type} (hfew:ms.length<=8) {fn:Fn} {fiy cay:List V} {HL:S->List At->Prop} {stp:Nat->S->Bool×S} {D:Nat->S->Prop} {nS nW:Nat}
    (hso:SoG g fi ca p gen ms tog HL (Rx g fi ca p gen ms (.f fn fiy cay) nS nW))
    (hy:P0 zP (.f fn fiy cay) eU HL stp D (Rx g fi ca p gen ms (.f fn fiy cay) nS nW)) :
    ∀(d many s:Nat) (z0:S),many+d=ms.length->s<2 ^ many->OH stp D (GG (fun s n=>DK tog (E5 p ms) (Bw s n)) d many s) z0-> ∀l Z,HL z0 l->Sat Z (Rx g fi ca p gen ms (.f fn fiy cay) nS nW++l)->
    As zP 194 [eU s,eI many,.p nS 0,.rp (Th p gen ms),.rp [.f fn fiy cay],.p nW 0] Z fun r Z'=>r= .ret (.b (By stp (GG (fun s n=>DK tog (E5 p ms) (Bw s n)) d many s) z0).1)/\
     ∃l',HL (By stp (GG (fun s n=>DK tog (E5 p ms) (Bw s n)) d many s) z0).2 l'/\Sat Z' (Rx g fi ca p gen ms (.f fn fiy cay) nS nW++l'):=by
 have hM:=Mx;intro d
 induction d with
 | zero=>
   intro many s z0 hmd hs2 hok l Z hl hs;have hs64:s<18446744073709551616:=Nat.lt_of_lt_of_le hs2 (Nat.le_trans (Nat.pow_le_pow_right (by omega) (show many<=8 by omega)) (by decide));have c1:=hso s many hs64 (by omega);rw[GG]at hok ⊢;cases hB:DK tog (E5 p ms) (Bw s many)<;>rw[hB]at c1
   .simp only[hB,JX,if_false]at hok ⊢
    refine J1 kZ ?_
    conv=>whnf
    repeat'((first|clear U K|apply st|(apply zk;intro K U)|refine zY ?_|refine A0 (c1 l _ z0 hl hs _ _ ?_)|fail)<;>conv=>whnf)
    all_goals exact AJ ⟨rfl,l,hl,hs⟩
   .simp only[hB,if_true]at hok ⊢
    rw[NB];refine J1 kZ ?_
    conv=>whnf
    repeat'((first|clear U K|apply st|(apply zk;intro K U)|refine zY ?_|refine A0 (c1 l _ z0 hl hs _ _ ?_)|(refine zb (fun hc=>?_) (fun hc=>?_)<;>try exact⟨⟩)|fail)<;>conv=>whnf)
    all_goals try(exfalso;simp at hc;omega)
    refine hy.use hok.1 hl hs ?_;clear hs;intro l' Z hl' hs;refine zz ?_;(repeat clear U K);repeat intro K U
    exact AJ ⟨rfl,l',hl',hs⟩
 | succ d ih=>
   intro many s z0 hmd hs2 hok l Z hl hs;have hs64:s<18446744073709551616:=Nat.lt_of_lt_of_le hs2 (Nat.le_trans (Nat.pow_le_pow_right (by omega) (show many<=8 by omega)) (by decide));have c1:=hso s many hs64 (by omega);obtain⟨-,-,b3,b4⟩:=L4 hs2;rw[GG]at hok ⊢;cases hB:DK tog (E5 p ms) (Bw s many)<;>rw[hB]at c1
   .simp only[hB,JX,if_false]at hok ⊢
    refine J1 kZ ?_
    conv=>whnf
    repeat'((first|clear U K|apply st|(apply zk;intro K U)|refine zY ?_|refine A0 (c1 l _ z0 hl hs _ _ ?_)|fail)<;>conv=>whnf)
    all_goals exact AJ ⟨rfl,l,hl,hs⟩
   .simp only[hB,if_true]at hok ⊢
    obtain⟨ok1,ok2⟩:=MX hok;have i1:=ih (many+1) s z0 (by omega) b4 ok1;have i2:=fun z0 h=>ih (many+1) (s|||2 ^ many) z0 (by omega) b3 h
    have c2:=Lb s (many:Int) hs64 (by omega) (by omega);rw[GR]at c2;have hwi:IntKind.i64.wrap ((many:Int)+1)=((many+1:Nat):Int):=by rw[wrap64 (by omega) (by omega)];omega
    rw[<-hwi]at i1 i2;rw[KC];generalize GG (fun s n=>DK tog (E5 p ms) (Bw s n)) d (many+1) s=A1 at *;generalize GG (fun s n=>DK tog (E5 p ms) (Bw s n)) d (many+1) (s|||2 ^ many)=A2 at *;generalize hx1:By stp A1 z0=x1 at *;obtain⟨q1,z1⟩:=x1;dsimp only at i1 ok2 ⊢;refine J1 kZ ?_
    conv=>whnf
    repeat'((first|clear U K|apply st|(apply zk;intro K U)|refine zY ?_|refine A0 (c1 l _ z0 hl hs _ _ ?_)|(refine zb (fun hc=>?_) (fun hc=>?_)<;>try exact⟨⟩)|fail)<;>conv=>whnf)
    all_goals try(exfalso;simp at hc;omega)
    refine A0 (As.mono (i1 l Z hl hs) ?_);clear hs;rintro r Z ⟨rfl,l1,hl1,hs⟩;cases q1
    .conv=>whnf
     repeat'((first|clear U K|apply st|refine rk ?_ ?_|exact fun s e=>by cases e;rfl|fail)<;>conv=>whnf)
     exact AJ ⟨rfl,l1,hl1,hs⟩
    .have i3:=i2 z1 (ok2 rfl)
     conv=>whnf
     repeat'((first|apply st|refine zY ?_|refine rk ?_ ?_|exact fun s e=>by cases e;rfl|refine zC ?_|fail)<;>conv=>whnf)
     refine A0 (As.mono (i3 l1 Z hl1 hs) ?_);clear hs;rintro r Z ⟨rfl,l2,hl2,hs⟩;refine zz ?_;(repeat clear U K);repeat intro K U
     exact AJ ⟨rfl,l2,hl2,hs⟩
def genG {S:Type} (hfew:ms.length<=8) {fn:Fn} {fiy cay:List V} {HL:S->List At->Prop} {stp:Nat->S->Bool×S} {D:Nat->S->Prop}
    (hso: ∀nS nW,SoG g fi ca p gen ms tog HL (Rx g fi ca p gen ms (.f fn fiy cay) nS nW))
    (hy: ∀nS nW,P0 zP (.f fn fiy cay) eU HL stp D (Rx g fi ca p gen ms (.f fn fiy cay) nS nW)) (z0:S) (hok:OH stp D (H8 p tog ms) z0) {l:List At} {Z:AE} (hl:HL z0 l) (hs:Sat Z l) :
    As zP 189 [.f fn fiy cay,.rp [.f (.func g) fi ca],.rp (Th p gen ms)] Z fun r Z'=>r= .ret (.t [])/\ ∃l',HL (By stp (H8 p tog ms) z0).2 l'/\Sat Z' l':=by
 refine jB kZ ?_
 conv=>whnf
 repeat'((first|clear U K|apply st|(apply zk;intro K U)|refine zY ?_|refine zs fun Z hs=>?_|refine zo fun nn hnn Z hs=>?_|fail)<;>conv=>whnf)
 refine A0 (As.mono (y5 hfew (hso _ _) (hy _ _) ms.length 0 0 z0 (by omega) (by decide) hok l Z hl hs) ?_);clear hs;rintro r Z ⟨rfl,l',hl',hs⟩
 conv=>whnf
 repeat'((first|clear U K|apply st|fail)<;>conv=>whnf)
 exact AJ ⟨rfl,l',hl',hs.less (by simp)⟩
def kG {S:Type} (h:Po p ms) {ca2:List V} (hcan:Tv g fi ca2 (AH p) tog) {HL:S->List At->Prop} {pre:List At} (hf: ∀z l Z,HL z l->Sat Z (pre++l)->Ct Z emp ca ca2):SoG g fi ca p gen ms tog HL pre:=
 fun s many h1 h2 l Z z hl hs k kp hk=>Pure.Pk (fv (gen:=gen) h hcan (s:=s) (many:=many) h1 h2) (.cons (.refl _) (.cons (.refl _) (.cons (.rp (.cons (.f (Ct.refl _ _ _) (hf z l Z hl hs)) .nil)) (.cons (.refl _) .nil)))) rfl hk
end
end Go.Gl
namespace Go.Gl
open Go.Proofs
def Td (M:List Int):List (V×V):=M.map fun k=>(.i .u64 k,.b true)
def ov (M:List Int) (k:Int):Du (.i .u64 k) (.b true) (Td M)=Td (H7 M k):=by
 induction M with
 | nil=>rfl
 | cons x r ih=>
   simp only[Td,CK,Du]at *;have he:Dw (.i .u64 k) (.i .u64 x)=(k==x):=rfl;rw[he];cases hx:k==x
   .rw[cond_false,ih]
    unfold H7;have:(x::r).contains k=r.contains k:=by rw[List.contains_cons,hx,Bool.false_or]
    rw[this];split<;>simp
   .rw[cond_true]
    have hk:k=x:=by simpa using hx
    subst hk;unfold H7;simp
def We (M:List Int) (k:Int):found (.b false) false (Cz (.i .u64 k) (Td M))= .b (M.contains k):=by
 induction M with
 | nil=>rfl
 | cons x r ih=>
   simp only[Td,CK,Cz]at *;have he:Dw (.i .u64 k) (.i .u64 x)=(k==x):=rfl;rw[he,List.contains_cons];cases k==x
   .simpa using ih
   .rfl
def QW (M:List Int): ∀kv∈Td M,Bl (.i .u64) kv.1=true:=by
 intro kv h;obtain⟨e,_,rfl⟩:=GK.1 h;rfl
abbrev X5 (q:Nat->Bool) (y:Nat) (M:List Int):Bool×List Int:=(true,if q y then H7 M y else M)
def Rs (q:Nat->Bool):List Nat->List Int->List Int
 | [],M=>M
 | y::r,M=>Rs q r (if q y then H7 M y else M)
def jS (q:Nat->Bool): ∀(l:List Nat) (M:List Int),By (X5 q) l M=(true,Rs q l M)
 | [],_=>rfl
 | y::r,M=>by rw[By];exact jS q r _
def kT (M:List Int) (k:Int):(H7 M k).length<=M.length+1:=by
 unfold H7;split
 .omega
 .simp
def QC (q:Nat->Bool): ∀(l:List Nat) (M:List Int),(Rs q l M).length<=M.length+l.length
 | [],_=>Ft _
 | y ::r,M=>by
   rw[Rs,HH];have h1:=kT M y;cases q y
   .have:=QC q r M
    simp only[JX,if_false];omega
   .have:=QC q r (H7 M y)
    simp only[if_true];omega
def Mh (q:Nat->Bool) (b:Int): ∀(l:List Nat) (M:List Int),(Rs q l M).contains b=(M.contains b||l.any fun y=>q y&&b==(y:Int))
 | [],_=>by simp[Rs]
 | y::r,M=>by
   rw[Rs,Mh q b r,Rq];cases q y
   .simp
   .rw[if_pos rfl,QM,Cc,Bool.or_assoc]
def qq (q:Nat->Bool) {Q:Nat->Prop}: ∀(l:List Nat) (M:List Int),(∀y∈l,Q y)->OH (X5 q) (fun y _=>Q y) l M
 | [],_,_=>trivial
 | y::r,_,h=>⟨h y (.head _),fun _=>qq q r _ fun z hz=>h z (.tail _ hz)⟩
def jt {q:Nat->Bool} {l:List Nat}:((Rs q l []).length=0)↔l.any q=false:=by
 rw[Xv];constructor
 .intro h
  rw[List.any_eq_false];intro y hy hq;have:=Mh q (y:Int) l [];rw[h]at this;have h2:(l.any fun z=>q z&&(y:Int)==(z:Int))=true:=GY.2 ⟨y,hy,by rw[hq];simp⟩;rw[h2]at this;simp at this
 .intro h
  cases hw:Rs q l []with
  | nil=>rfl
  | cons x r=>
    have:=Mh q x l [];rw[hw,List.contains_cons,beq_self_eq_true,Bool.true_or]at this;have h3:(l.any fun y=>q y&&x==(y:Int))=true:=by simpa using this.symm
    rw[GY]at h3;obtain⟨y,hy,h4⟩:=h3;rw[List.any_eq_false]at h;rw[A4]at h4;exact absurd h4.1 (h y hy)
attribute [local irreducible] As Ag AY AQ AL AX AP AR AK AW AM AN Ai Ap Sat AT An AZ W
def l7 (v:List V) (sv:Int):Pure zP 104 [.a v,.rp [eI sv]] (.b (qX sv)):=by
 rw[qX];refine x4 kZ ?_;have hs:=Sn
 conv=>whnf
 repeat'((first|clear U K|apply st|(apply zk;intro K U)|refine zY ?_|refine za (fun hc=>?_) fun hc=>?_|fail)<;>conv=>whnf)
 .exact AG (by rw[decide_eq_true hc];rfl)
 .exact AG (by rw[decide_eq_false (by omega)];rfl)
def zD {p:Prog} {gen:Int} {ms:List Int} (h:(BQ p).isSome=true) (n len cap:Nat):Pure zP 100 [.a (Th p gen ms),.sl n len cap] (cH 180 [] [.rp [.rp (gW (AH p) (Ah (AH p).parents))],.rp [.sl n len cap]] p gen ms):=by
 have c1:=QD (gen:=gen) (ms:=ms) h;refine jI kZ ?_;have hs:=Sn
 conv=>whnf
 repeat'((first|clear U K|apply st|(apply zk;intro K U)|refine zY ?_|refine zs fun Z hs=>?_|refine c1.use ?_|refine UM.use ?_|refine zo fun nn hnn Z hs=>?_|fail)<;>conv=>whnf)
 exact Af (.f .nil (.cons (.rp (.cons (.f .nil (.cons (hs.fk 0 rfl (.refl _ _ _)) (.cons (.refl _) .nil))) .nil)) (.cons (.refl _) .nil)))
end Go.Gl
namespace Go.Gl
open Go.Proofs
def Qf {so so':Nat->Nat->Bool} (h: ∀s n,so s n=true->so' s n=true): ∀(d many s y:Nat),y∈GG so d many s->y∈GG so' d many s
 | 0,many,s,y,hy=>by
   rw[GG]at hy ⊢;split at hy
   .rename_i hs
    rw[if_pos (h _ _ hs)];exact hy
   .cases hy
 | d + 1,many,s,y,hy=>by
   rw[GG]at hy ⊢;split at hy
   .rename_i hs
    rw[if_pos (h _ _ hs)];rcases Dn.1 hy with hy|hy
    .exact NS _ (Qf h d _ _ y hy)
    .exact NR _ (Qf h d _ _ y hy)
   .cases hy
abbrev Pm (p:Prog) (gen sv:Int) (y:Nat):Bool:=Zd p (F5 (Bu p gen) y)==sv
def Wl {p:Prog} {gen sv:Int} {cs:List Int} (hfn:Po p (Bu p gen)) (hcs:FU (3+(p.AO.length:Int)) cs):Pn p gen sv cs=(H8 p (Ji (AH p) cs) (Bu p gen)).any (Pm p gen sv):=by
 have hw:=hfn.ok.mh;have hcs2: ∀c∈cs,1<=c/\c<3+((AH p).parents.length:Int):=by rw[wpl];exact hcs
 rw[Pn,yx,<-zF (fun l hl=>IK hw fun x hx=>EB (hl x hx)) (gO hw hcs2) (Gc hfn),List.any_map];rfl
def bI {p:Prog} {gen:Int} {cs:List Int} (hfn:Po p (Bu p gen)): ∀y∈H8 p (Ji (AH p) cs) (Bu p gen),y∈H8 p (Ji (AH p) []) (Bu p gen):=fun y hy=>by
 have hw:=hfn.ok.mh;have hnf: ∀f∈E5 p (Bu p gen),Ae (AH p) f=true:=Gc hfn;refine Qf (fun s n h=>?_) _ _ _ y hy;obtain⟨M,h1,h2⟩:=(K1 (fun l hl=>IK hw fun x hx=>EB (hl x hx)) hnf _).1 h;exact(K1 (fun l hl=>IK hw fun x hx=>EB (hl x hx)) hnf _).2 ⟨M,ko h1,h2⟩
abbrev R1 (p:Prog) (gen sv:Int):List Int:=Rs (Pm p gen sv) (H8 p (Ji (AH p) []) (Bu p gen)) []
def Wa {p:Prog} {gen sv:Int} {y:Nat} (hy:y∈H8 p (Ji (AH p) []) (Bu p gen)):(R1 p gen sv).contains (y:Int)=Pm p gen sv y:=by
 rw[Mh,List.contains_nil,Bool.false_or];cases hq:Pm p gen sv y
 .rw[List.any_eq_false]
  intro z _ hz;rw[A4]at hz;have hz2:(y:Int)=(z:Int):=by simpa using hz.2
  obtain rfl:y=z:=by omega
  rw[hz.1]at hq;cases hq
 .exact GY.2 ⟨y,hy,zrH.2 ⟨hq,beq_self_eq_true _⟩⟩
def mQ {p:Prog} {gen sv:Int} {cs:List Int} (hfn:Po p (Bu p gen)) (hcs:FU (3+(p.AO.length:Int)) cs):((H8 p (Ji (AH p) cs) (Bu p gen)).all fun y=> !(R1 p gen sv).contains (y:Int))= !Pn p gen sv cs:=by
 rw[Wl hfn hcs,List.not_any_eq_all_not];refine Hl.2 ?_;rw[Cu,Cu];constructor
 .intro h y hy
  have:=h y hy;rw[Wa (bI hfn y hy)]at this;exact this
 .intro h y hy
  rw[Wa (bI hfn y hy)];exact h y hy
attribute [local irreducible] As Ag AY AQ AL AX AP AR AK AW AM AN Ai Ap Sat AT An AZ W
def Ut (p : Prog) (gen sv:Int) {R:List Int} (hR:T7 p gen sv R):Pure zP 41 [.a (BF p),eI gen,eI sv] (ff p gen sv R):=by
 have c1:=Lg p gen 104 [.rp [eI sv]] (qX sv) (fun _=>l7 _ sv);have hM:=Mx;rw[ff];cases h1:C5 p gen
 .rw[(Et h1 _).1,(Et h1 _).2]at c1
  rw[(Et h1 _).2,if_neg (by decide)];refine Zs kZ ?_;have hs:=Sn;exact zW
 cases h2:qX sv
 .rw[h2,JP.1,JP.2]at c1
  rw[JP.2,if_neg (by decide)];refine Zs kZ ?_;have hs:=Sn;exact zW
 rw[h2,(EK h1).1,(EK h1).2]at c1;rw[(EK h1).2];by_cases h8:(Bu p gen).length<=8
 .rw [if_pos h8]at c1 ⊢
  rw[if_pos rfl];have hl:=h1;rw[C5,A4]at hl;have h0:La p gen (qX sv)=0:=by rw[h2,(EK h1).2,if_pos h8]
  have hfn:=Md h1 h8;obtain⟨hg,g1,g3,g0⟩:=yC h1;have hw10:=UC hl.1;have c2:=YM (gen:=gen) (ms:=Bu p gen) hl.1 [] true;obtain⟨hgl,hgm⟩:=Wr (p:=p) (tog:=Ji (AH p) []) h8;refine Zs kZ ?_;have hs:=Sn
  conv=>whnf
  repeat'((first|clear U K|apply st|(apply zk;intro K U)|refine zY ?_|refine zs fun Z hs=>?_|refine zC ?_|(refine zb (fun hc=>?_) (fun hc=>?_)<;>try exact⟨⟩)|refine zo fun nn hnn Z hs=>?_|fail)<;>conv=>whnf)
  rename_i n8 _ _ _ _ _ nm _ _ _ nB _ _ _ _ _;have hs2:Sat Z [_,.box nB [.m nm],.map nm (Td []),.box n8 (O6 p gen)]:=hs;refine As.mono (iT hfn (O9 _ (LL hl.1) [] true (by decide)) (hs:=hs2) (stp:=X5 (Pm p gen sv)) (D:=fun y _=>y∈H8 p (Ji (AH p) []) (Bu p gen)) (fun nS nW=>Lk (HB:=fun(M:List Int) l=>l= [.box nB [.m nm],.map nm (Td M),.box n8 (O6 p gen)]) (fun _=> .ready) rfl (fun _ _ _=>rfl) ?_) [] (qq _ _ _ (fun _ h=>h)) ⟨_,rfl,rfl⟩) ?_
  .clear hs hs2
   rintro y M hy _ rfl Z hs;have hy64:y<18446744073709551616:=Nat.lt_of_lt_of_le (hgm y hy) (Nat.le_trans (Nat.pow_le_pow_right (by omega) h8) (by decide));have d1:=an (p:=p) (gen:=gen) h8 hy64;have d2:=YK p gen (F5 (Bu p gen) y) false h1 (UN (G4 _ _));cases he:Pm p gen sv y
   .have hne:Zd p (F5 (Bu p gen) y)≠sv:=by simpa[Pm]using he
    rw[show X5 (Pm p gen sv) y M=(true,M) by simp only[X5,he,JX,if_false]]
    conv=>whnf
    repeat'((first|clear U K|apply st|(apply zk;intro K U)|refine zY ?_|refine rk ?_ ?_|exact fun s e=>by cases e;rfl|refine d1.use ?_|refine d2.use ?_|(refine zb (fun hc=>?_) (fun hc=>?_)<;>try exact⟨⟩)|fail)<;>conv=>whnf)
    intro hn;exact⟨rfl,_,rfl,hs.R5 hn⟩
   .have hne:Zd p (F5 (Bu p gen) y)=sv:=by simpa[Pm]using he
    rw[show X5 (Pm p gen sv) y M=(true,H7 M y) by simp only[X5,he,if_true]]
    conv=>whnf
    repeat'((first|clear U K|apply st|(apply zk;intro K U)|refine zY ?_|refine rk ?_ ?_|exact fun s e=>by cases e;rfl|refine d1.use ?_|refine d2.use ?_|refine Hb hs 1 rfl rfl (QW _) fun Z hs=>?_|(refine zb (fun hc=>?_) (fun hc=>?_)<;>try exact⟨⟩)|fail)<;>conv=>whnf)
    simp only[ov]at hs;intro hn;exact⟨rfl,_,rfl,hs.R5 hn⟩
  .clear hs hs2
   rw[jS];rintro r Z ⟨rfl,_,⟨_,rfl,rfl⟩,hs⟩;dsimp only at hs;refine Gy hs fun Z hs=>?_
   refine zz ?_;(repeat clear U K);repeat intro K U
   have hlm:(Td (R1 p gen sv)).length=(R1 p gen sv).length:=by simp[Td]
   have hl256:(R1 p gen sv).length<=256:=by
    have:=QC (Pm p gen sv) (H8 p (Ji (AH p) []) (Bu p gen)) [];rw[List.length_nil,GZ]at this;exact Nat.le_trans this hgl
   have hz:(R1 p gen sv).length=0↔Pn p gen sv []=false:=by rw[jt,Wl hfn (fun _ h=>by cases h)]
   have hall:=fun cs hcs=>mQ (sv:=sv) (cs:=cs) hfn hcs
   have hs:Sat Z [.box nB [.m nm],.map nm (Td (R1 p gen sv)),.box n8 (O6 p gen)]:=hs;have hgm2:Z nm=some (.map (Td (R1 p gen sv))):=hs.get (i:=1) rfl;rw[hgm2];clear hgm2;have hkl:(Td (R1 p gen sv)).length<=Ab:=by rw[hlm,hM];omega
   refine⟨hkl,?_⟩;generalize R1 p gen sv=M at *;cases hC:Pn p gen sv []
   .have hz0:=hz.2 hC
    conv=>whnf
    repeat'((first|clear U K|apply st|(apply zk;intro K U)|refine zY ?_|(refine zb (fun hc=>?_) (fun hc=>?_)<;>try exact⟨⟩)|fail)<;>conv=>whnf)
    all_goals first
     | exact AG (by rw[hC,if_neg (by decide)])
     | (exfalso;omega)
   .have hz1:M.length≠0:=fun e=>by rw[hz.1 e]at hC;cases hC
    have hF:=hR h0 hC;obtain⟨n,hn⟩: ∃n:Nat,rm p gen=n:=⟨_,(Int.toNat_of_nonneg (by omega)).symm⟩
    rw[hn]at hg g1 g3 hF;rw[GR]at hF
    conv=>whnf
    repeat'((first|clear U K|apply st|(apply zk;intro K U)|refine zY ?_|(refine zb (fun hc=>?_) (fun hc=>?_)<;>try exact⟨⟩)|fail)<;>conv=>whnf)
    all_goals try(exfalso;omega)
    refine(aF 1 n (by omega) (by omega)).use (rest:=[.box nB [.m nm],.map nm (Td M),.box n8 (O6 p gen)]) hs ?_;clear hs;rintro r post Z ⟨v,rfl,rfl,hsl⟩ hs;have el:(iL (List.replicate n (1:Int))).length=n:=by simp
    obtain⟨id,cp,rfl⟩:=tJ hs (i:=0) rfl hsl;rw[el]at hs hsl ⊢;have c3:=zD (gen:=gen) (ms:=Bu p gen) hl.1 id n cp;refine zz ?_;(repeat clear U K);repeat intro K U
    rw[el];have hs:Sat Z [.own (.sl id n cp) 1 (iL (List.replicate n 1)),.box nB [.m nm],.map nm (Td M),.box n8 (O6 p gen)]:=hs;refine Ff (fun x:List Int×Int=>O2 (3+(p.AO.length:Int)) x.1) (fun x=>[(13,eI x.2)]) (fun x=>[.own (.sl id n cp) 1 (iL x.1),.box nB [.m nm],.map nm (Td M),.box n8 (O6 p gen)]) (fun x=>FU (3+(p.AO.length:Int)) x.1/\x.1.length=n/\Dz (3+(p.AO.length:Int)) (Pn p gen sv) x.1 R/\0<=x.2) (List.replicate n 1,(n:Int)) rfl ⟨Ls (by omega) _,by simp,hF,by omega⟩ hs ?_;clear hs hF;rintro⟨cs,at_⟩ Z ⟨hk,hl3,hF,hat⟩ hs;dsimp only at hk hl3 hF hat hs
    conv=>whnf
    repeat'((first|clear U K|apply st|(apply zk;intro K U)|refine zY ?_|refine zC ?_|(refine zb (fun hc=>?_) (fun hc=>?_)<;>try exact⟨⟩)|refine zo fun nn hnn Z hs=>?_|fail)<;>conv=>whnf)
    all_goals try(exfalso;omega)
    have hca:=O9 _ (LL hl.1) cs false (by omega);have hx:=hall cs hk;refine As.mono (genG h8 (tog:=Ji (AH p) cs) (fun nS nW=>kG hfn hca ?_) (stp:=Rt fun y=> !M.contains (y:Int)) (D:=fun y (s:Bool)=>y∈H8 p (Ji (AH p) cs) (Bu p gen)/\s=false) (fun nS nW=>Lk (HB:=fun(_:Bool) l=>l= [.own (.sl id n cp) 1 (iL cs),.box nB [.m nm],.map nm (Td M),.box n8 (O6 p gen)]) (fun s=>if s then .exit 2 else .ready) rfl (fun _ s h=>by rw[h.2];rfl) ?_) false (qs _ _ (fun _ h=>h)) ⟨_,rfl,rfl⟩ hs) ?_
    .rintro z _ Z ⟨_,rfl,rfl⟩ hs
     exact .cons (.refl _) (.cons (.rp (.cons (hs.MB 3 rfl) .nil)) .nil)
    .clear hs
     rintro y s ⟨hy,rfl⟩ _ rfl Z hs;cases hc0:M.contains (y:Int)
     .rw[show Rt (fun y=> !M.contains (y:Int)) y false=(true,false) by simp only[Rt,hc0];rfl]
      conv=>whnf
      repeat'((first|clear U K|apply st|(apply zk;intro K U)|refine zY ?_|(refine Hc hs 2 rfl rfl (QW _) ?_;rw[We,hc0])|fail)<;>conv=>whnf)
      intro hno;exact⟨rfl,_,rfl,hs.R5 hno⟩
     .rw[show Rt (fun y=> !M.contains (y:Int)) y false=(false,true) by simp only[Rt,hc0];rfl]
      conv=>whnf
      repeat'((first|clear U K|apply st|(apply zk;intro K U)|refine zY ?_|(refine Hc hs 2 rfl rfl (QW _) ?_;rw[We,hc0])|fail)<;>conv=>whnf)
      intro hno;exact⟨rfl,_,rfl,hs.R5 hno⟩
    .clear hs
     rw[jT,hx];cases hE:Pn p gen sv cs
     .rintro r Z ⟨rfl,_,⟨_,rfl,rfl⟩,hs⟩
      refine Gy hs fun Z hs=>?_
      refine zz ?_;(repeat clear U K);repeat intro K U
      obtain⟨cs',hnx,hF2⟩:=hF.later hE;subst hl3;have hw:IntKind.i64.wrap (3+(p.AO.length:Int))=3+(p.AO.length:Int):=wrap64 (by omega) (by omega);have ecl:((p.AO.map MG).length:Int)=p.AO.length:=by simp
      have ecs:((iL cs).length:Int)=cs.length:=by simp
      rw[ecs];refine B4 cs.length (fun k (_:Unit)=>[(13,eI (VD cs.length k))]) (fun k _=>[.own (.sl id cs.length cp) 1 (iL (VA cs k)),.box nB [.m nm],.map nm (Td M),.box n8 (O6 p gen)]) (fun k _=>Fa (3+(p.AO.length:Int)) (cs.drop (cs.length - k))=none) () rfl (by simp[Fa]) (by rw[zL];exact hs) ?_;clear hs;rintro k - Z hkn hno hs;have hdw:=iY (n:=cs.length) (by omega) k hkn;have hzl:=oO hkn;by_cases hlt:k<cs.length
      .obtain⟨c,hc⟩: ∃c,cs[cs.length - 1 - k]? =some c:=⟨_,Cd (by omega)⟩
       have hcB:=hk c (B6 hc);have hj:(VD cs.length k).toNat=cs.length - 1 - k:=by rw[hdw];omega
       have hat3:(VA cs k)[(VD cs.length k).toNat]? =some c:=by rw[hj];exact tI hlt hc
       have hge:0<=VD cs.length k:=by rw[hdw];omega
       have hlt2:VD cs.length k<(cs.length:Int):=by rw[hdw];omega
       have hlt4:(VD cs.length k).toNat<(VA cs k).length:=by rw[hj,hzl];omega
       have hw1:IntKind.i64.wrap (c+1)=c+1:=wrap64 (by omega) (by omega);have hset:((VA cs k).set (VD cs.length k).toNat (IntKind.i64.wrap (c+1)))[(VD cs.length k).toNat]? =some (IntKind.i64.wrap (c+1)):=List.getElem?_set_self hlt4;have hlt5:(VD cs.length k).toNat<((VA cs k).set (VD cs.length k).toNat (IntKind.i64.wrap (c+1))).length:=by rw[List.length_set];exact hlt4
       by_cases hB:c+1<3+(p.AO.length:Int)
       .have hfd:=kW hlt hc hno hB
        rw[hfd]at hnx;simp only[Gh]at hnx;subst hnx
        conv=>whnf
        repeat'((first|clear U K|apply st|(apply zk;intro K U)|refine zY ?_|refine zs fun Z hs=>?_|(refine zb (fun hc=>?_) (fun hc=>?_)<;>try exact⟨⟩)|fail)<;>conv=>whnf)
        all_goals try(exfalso;omega)
        rw[hj,hw1]at hs;exact⟨(_,VD cs.length k),UX hk hfd,rfl,⟨(Kc hk hfd).1,(Kc hk hfd).2,hF2,hge⟩,hs⟩
       .have hmx:=tH hlt hc hno hB
        conv=>whnf
        repeat'((first|clear U K|apply st|(apply zk;intro K U)|refine zY ?_|refine zs fun Z hs=>?_|(refine zb (fun hc=>?_) (fun hc=>?_)<;>try exact⟨⟩)|fail)<;>conv=>whnf)
        all_goals try(exfalso;omega)
        have hs:Sat Z [.own (.sl id cs.length cp) 1 (iL (((VA cs k).set (VD cs.length k).toNat (IntKind.i64.wrap (c+1))).set (VD cs.length k).toNat 1)),.box nB [.m nm],.map nm (Td M),.box n8 (O6 p gen)]:=hs;rw[List.set_set,hj,kX hlt]at hs;exact⟨hlt,(),rfl,hmx,hs⟩
      .obtain rfl:k=cs.length:=by omega
       rw[Nat.sub_self,List.drop_zero,hnx]at hno;cases hno
     .rintro r Z ⟨rfl,_,⟨_,rfl,rfl⟩,hs⟩
      refine Q6 hs fun Z hs=>?_
      refine zz ?_;(repeat clear U K);repeat intro K U
      rw[hC,if_pos rfl,hF.now hE];exact Af (.t (.cons (hs.MB 0 rfl) (.cons (.refl _) .nil)))
 .rw[if_neg h8]at c1 ⊢
  rw[if_neg (by decide)];refine Zs kZ ?_;have hs:=Sn;exact zW
end Go.Gl
namespace Go.Gl
open Go.Proofs
abbrev yU (x:List Int×Int):List V:=[.l (iL x.1) true,eI x.2]
def bE {Z Z':AE}: ∀xs:List (List Int×Int),Eg Z Z' (xs.map yU) (xs.map Tg)
 | []=> .nil
 | _::r=> .cons (.cons OQ (.cons (.refl _) .nil)) (bE r)
def slA {Z:AE} {K:V->AE->Prop} (h:K (.l (W4.map yU) false) Z):AP Z 2 (.l (W5.map yU) true) none (some (eI 4)) none K:=
 ⟨fun e he=>by obtain⟨x,_,rfl⟩:=GK.1 he;rfl,by decide,by decide,by decide,h⟩
def slB {Z:AE} {K:V->AE->Prop} (h:K (.l ([([0,1],1)].map yU) false) Z):AP Z 2 (.l (W5.map yU) true) (some (eI 3)) (some (eI 4)) none K:=
 ⟨fun e he=>by obtain⟨x,_,rfl⟩:=GK.1 he;rfl,by decide,by decide,by decide,h⟩
attribute [local irreducible] As Ag AY AQ AL AX AP AR AK AW AM AN Ai Ap Sat AT An AZ W
def UQ (xs:List (List Int×Int)) (hxl:xs.length<=256) (f g:Bool):Pure zP 40 [.l (xs.map Tg) f,.l (xs.map yU) g] (.b true):=
 (oA xs hxl f false).arg (.cons (.refl _) (.cons (.l (fun h=>by cases h) (bE xs)) .nil))
def o0:Pure zP 9 [] (.b true):=by
 have c1:=jl K4 0;rw[sT]at c1;have c2:=mX K4 0;rw[js]at c2;have c3:=y1 K4 0 [4] true;rw[x_of]at c3;have c4:=y1 K4 0 [0] true;rw[y2]at c4;have c5:=Ut K4 0 4 jr;rw[sX]at c5;have c6:=Ut K4 0 1 jq;rw[sW]at c6;have c7:=Ut K4 0 3 jo;rw[sV]at c7;have c8:=yI exH 0 [0,1,2,3] true;rw[nU]at c8;have c9:=mW K4 0 y3;rw[sU]at c9;have d1:=rS K4 0 [0,1] true;rw[sZ]at d1;have d3:=fun a b=>I4 [1] [1] a b
 have d4:=fun a b=>I4 [3] [3] a b
 have d5:=Z9 (Ca (Pa 3)) (Ca (Pa 3));rw[(Ev _ _).2 rfl]at d5;have d6:=Z9 (Jd (Pa 3) (Jd (Pa 4) (Ca (Pa 5)))) (Jd (Pa 3) (Jd (Pa 4) (Ca (Pa 5))));rw[(Ev _ _).2 rfl]at d6;refine ctr9 kZ ?_;have hs:=Sn
 conv=>whnf
 repeat'((first|apply st|(apply sq;intro K U)|(apply si;intro A B hA hB)|(refine hA _ _ ?_;clear hB B hA A)|(apply U;clear U K)|apply dr|refine rk ?_ ?_|exact fun s e=>by cases e;rfl|refine⟨rfl,?_⟩|refine⟨kZ,?_⟩|refine ld ?_|refine FX fun Z hs=>?_|refine Zg ?_|refine SG ?_|refine sO ?_|refine slA ?_|refine slB ?_|refine oI.use ?_|refine ti.use ?_|refine Pure.use (q8 _) ?_|refine Pure.use (tP _) ?_|refine Pure.use (yE _ _) ?_|refine c1.use ?_|refine c2.use ?_|refine c3.use ?_|refine c4.use ?_|refine c5.use ?_|refine c6.use ?_|refine c7.use ?_|refine c8.use ?_|refine c9.use ?_|refine d1.use ?_|refine Pure.use (UQ W5 (by decide) _ _) ?_|refine Pure.use (UQ W4 (by decide) _ _) ?_|refine Pure.use (UQ [([0,1],1)] (by decide) _ _) ?_|refine Pure.use (d3 _ _) ?_|refine Pure.use (d4 _ _) ?_|refine d5.use ?_|refine d6.use ?_|(constructor<;>intro hc<;>(try rw[hc])<;>(replace hc:=bp hc)<;>(try simp(disch:=omega) only[Bc,wrap64,AS]at hc)<;>try(exfalso;omega))|(intro nn hnn;generalize hg:BZ _ nn _=Z;refine GF hg fun hs=>?_;clear hg)|clear U K)<;>conv=>whnf)
 all_goals first
  | exact AG rfl
  | (exfalso;simp at hc;done)
  | (exfalso;clear hc;rename_i hc;simp at hc;done)
end Go.Gl
