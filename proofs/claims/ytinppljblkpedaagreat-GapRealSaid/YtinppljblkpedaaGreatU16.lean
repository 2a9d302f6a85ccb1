import Derived.Test.YtinppljblkpedaaGreatU14
import Derived.Test.YtinppljblkpedaaGreatU15
set_option linter.all false
set_option linter.defProp false
set_option maxHeartbeats 8000000
noncomputable section
namespace Go.Gl
open Go.Proofs
attribute [local irreducible] As Ag AY AQ AL AX AP AR AK AW AM AN Ai Ap Sat AT An AZ W
def Bp (op:Int):Nat:=if op=5 then 1 else if op=6\/op=7 then 2 else 0
def PY (w:AF) (f:Fact):Bool:=
 if f.op=2 then f.n==0&&O1 w f.cls else if f.op=3\/f.op=4 then f.cls==0&&(decide (-1000000000<=f.n)&&decide (f.n<=1000000000))else f.op==1||f.op==5||f.op==6||f.op==7
def CE (w:AF) (f:Fact):Bool:=
 PY w f&&(f.kids.length==Bp f.op&&(decide (0<=f.arg)&&(decide (f.arg<3)&&(EH w f.path&&(Be f||(f.arg==0&&(f.path.length==0&&(f.cls==0&&f.n==0))))))))
def Ae (w:AF) (f:Fact):Bool:=f.Fe fun f l=>CE w f&&l.all id
def BS (w:AF) (f:Fact):Ae w f=(CE w f&&f.kids.all (Ae w)):=by rw[Ae,Fact.CJ,List.all_map];rfl
def QU {w:AF} {f:Fact} (h:CE w f=false):Ae w f=false:=by rw[BS,h,Bool.false_and]
def AA0 {f:Fact} (h1:Be f=false) (h2:f.arg=0) (h3:(f.path.length:Int) > 0):true= !(Be f||(f.arg==0&&(f.path.length==0&&(f.cls==0&&f.n==0)))):=by
 have:(f.path.length==0)=false:=by simp;intro e;rw[e]at h3;simp at h3
 rw[this,h1,h2];rfl
def oa (w : AF) (f:Fact):Pure zP 96 [.a (A5 w),.a (xF f)] (.b (Ae w f)):=by
 induction f using Fact.ind with
 | h f ih=>
   refine Pure.fit (by kernel_rfl) fun hf=>?_
   have⟨h2,h3,h4⟩:=JL hf.2.1;have⟨w1,w2,w3⟩:=Vn hf.1;have hM:=Mx;refine AAJ kZ ?_
   conv=>whnf
   repeat'((first|apply st|(apply sq;intro K U)|(apply si;intro A B hA hB)|(refine hA _ _ ?_;clear hB B hA A)|(apply U;clear U K)|refine⟨rfl,?_⟩|fail)<;>conv=>whnf)
   have hJ :=SR U (fun(_:Unit)=>[(5,eI (Bp f.op))]) (fun _=>[]) (fun _=>PY w f=true) [(2,.rp (A5 w)),(3,.rp (xF f)),(5,eI 0)] (by
    clear U;rintro - Z ho -
    conv=>whnf
    repeat'((first|apply st|(apply sq;intro K U)|(apply si;intro A B hA hB)|refine⟨rfl,?_⟩|fail)<;>conv=>whnf)
    have hJ :=SR U (fun(b:Bool)=>[(66,.b b)]) (fun _=>[]) (fun b=>b= !(f.kids.length==Bp f.op&&(decide (0<=f.arg)&&(decide (f.arg<3)&&EH w f.path)))) [(2,.rp (A5 w)),(3,.rp (xF f)),(66,.b false)] (by
     clear U;rintro b Z hb -
     conv=>whnf
     repeat'((first|apply st|fail)<;>conv=>whnf)
     have hJ :=SR U (fun(_:Unit)=>[]) (fun _=>[]) (fun _=>b=false) [(2,.rp (A5 w)),(3,.rp (xF f))] (by
      clear U;rintro - Z hb' -;rw[hb']at hb
      conv=>whnf
      repeat'((first|apply st|(apply sq;intro K U)|(apply si;intro A B hA hB)|refine⟨kZ,?_⟩|refine Pure.use (au _) ?_|fail)<;>conv=>whnf)
      have hJ:=SR U (fun(b:Bool)=>[(90,.b b)]) (fun _=>[]) (fun b=>b= !(Be f||(f.arg==0&&(f.path.length==0&&(f.cls==0&&f.n==0))))) [(2,.rp (A5 w)),(3,.rp (xF f)),(90,.b false)] (by
       clear U;rintro b Z hb2 -
       conv=>whnf
       repeat'((first|apply st|fail)<;>conv=>whnf)
       have hJ:=SR U (fun(_:Unit)=>[]) (fun _=>[]) (fun _=>b=false) [(2,.rp (A5 w)),(3,.rp (xF f))] (by
        clear U;rintro - Z hb' -;rw[hb']at hb2
        have hh:CE w f=true:=by
         have hb:(f.kids.length==Bp f.op&&(decide (0<=f.arg)&&(decide (f.arg<3)&&EH w f.path)))=true:=by rw[<-Bool.not_eq_false',<-hb]
         have hb2:(Be f||(f.arg==0&&(f.path.length==0&&(f.cls==0&&f.n==0))))=true:=by rw[<-Bool.not_eq_false',<-hb2]
         simp only[A4]at hb;simp only[CE,ho,hb.1,hb.2,hb2,Bool.and_self]
        conv=>whnf
        repeat'((first|apply st|(apply sq;intro K U)|(apply si;intro A B hA hB)|(refine hA _ _ ?_;clear hB B hA A)|(apply U;clear U K)|fail)<;>conv=>whnf)
        refine B4 f.kids.length (fun k (_:Unit)=>[(94,eI (A7 k))]) (fun _ _=>[]) (fun k _=>Ae w f=(f.kids.drop k).all (Ae w)) () rfl (by rw[BS,hh];rfl) Sat.nil ?_;rintro k - Z hk hn hs
        conv=>whnf
        repeat'((first|apply st|(apply sq;intro K U)|(apply si;intro A B hA hB)|(refine hA _ _ ?_;clear hB B hA A)|(apply U;clear U K)|refine⟨rfl,?_⟩|refine⟨kZ,?_⟩|refine rb ?_|refine ld ?_|refine sn fun Z hs=>?_|(refine fc (fun x hx hlt hc=>?_) (fun hk hc=>?_)<;>(try rw[hc])<;>clear hc)|(intro nn hnn;generalize hg:BZ _ nn _=Z;refine al hg fun hs=>?_;clear hg)|clear U K)<;>conv=>whnf)
        .have hxm:=B6 hx
         refine(ih x hxm).use ?_
         conv=>whnf
         repeat'((first|apply st|(apply sq;intro K U)|(apply si;intro A B hA hB)|(refine hA _ _ ?_;clear hB B hA A)|(apply U;clear U K)|refine⟨rfl,?_⟩|(constructor<;>intro hc<;>(try rw[hc])<;>(replace hc:=bp hc))|clear U K)<;>conv=>whnf)
         .exact AG (by rw[hn,drop_cons hx];simp[hc])
         .exact⟨hlt,(),rfl,by rw[hn,drop_cons hx];simp[hc],Sat.nil⟩
        .exact AG (by rw[hn,Aj hk];rfl))
       clear U
       conv=>whnf
       repeat'((first|apply st|(apply sq;intro K U)|(apply si;intro A B hA hB)|(refine hA _ _ ?_;clear hB B hA A)|(apply U;clear U K)|(constructor<;>intro hc<;>(try rw[hc])<;>(replace hc:=bp hc))|fail)<;>conv=>whnf)
       .have hx:(Be f||(f.arg==0&&(f.path.length==0&&(f.cls==0&&f.n==0))))=false:=by rw[<-Bool.not_eq_true',<-hb2,hc]
        exact AG (by rw[QU];simp only[CE,hx,Bool.and_false])
       .exact hJ () _ _ rfl hc Sat.nil)
      clear U;clear hb
      conv=>whnf
      repeat'((first|apply st|(refine hA _ _ ?_;clear hB B hA A)|refine⟨rfl,?_⟩|(constructor<;>intro hc<;>(try rw[hc])<;>(replace hc:=bp hc)<;>(try simp(disch:=omega) only[Bc,wrap64,AS]at hc))|fail)<;>conv=>whnf)
      .have hp:f.path.length=0:=by omega
       exact hJ _ _ _ rfl (by rw[hp];simp[*,bne]) Sat.nil
      .exact hJ true _ _ rfl (by simp[*]) Sat.nil
      .exact hJ true _ _ rfl (AA0 (by assumption) (by assumption) hc) Sat.nil
      .exact hJ true _ _ rfl (by simp[*]) Sat.nil
      .exact hJ false _ _ rfl (by simp[*]) Sat.nil)
     clear U
     conv=>whnf
     repeat'((first|apply st|(apply sq;intro K U)|(apply si;intro A B hA hB)|(refine hA _ _ ?_;clear hB B hA A)|(apply U;clear U K)|(constructor<;>intro hc<;>(try rw[hc])<;>(replace hc:=bp hc))|fail)<;>conv=>whnf)
     .have hx:(f.kids.length==Bp f.op&&(decide (0<=f.arg)&&(decide (f.arg<3)&&EH w f.path)))=false:=by rw[<-Bool.not_eq_true',<-hb,hc]
      exact AG (by rw[QU];simp only[CE];simp only[Bool.and_eq_false_iff]at hx ⊢;rcases hx with h|h|h|h<;>simp[h])
     .exact hJ () _ _ rfl hc Sat.nil)
    clear U
    conv=>whnf
    repeat'((first|apply st|(refine hA _ _ ?_;clear hB B hA A)|refine⟨rfl,?_⟩|refine⟨kZ,?_⟩|refine Pure.use (oM _ _ _) ?_|(constructor<;>intro hc<;>(try rw[hc])<;>(replace hc:=bp hc)<;>(try simp(disch:=omega) only[Bc,wrap64,AS]at hc))|fail)<;>conv=>whnf)
    all_goals exact hJ _ _ _ rfl (by simp[*]<;>omega) Sat.nil)
   clear U
   conv=>whnf
   repeat'((first|apply st|(apply sq;intro K U)|(apply si;intro A B hA hB)|(refine hA _ _ ?_;clear hB B hA A)|(apply U;clear U K)|refine⟨rfl,?_⟩|refine⟨kZ,?_⟩|refine Pure.use (mC _ _) ?_|(constructor<;>intro hc<;>(try rw[hc])<;>(replace hc:=bp hc))|fail)<;>conv=>whnf)
   all_goals first
    | exact AG (by rw[QU];simp only[CE,PY];simp[*]<;>omega)
    | exact hJ () _ _ (by simp[Bp, *];rfl) (by simp[PY, *]<;>omega) Sat.nil
def pK (xs:List Int) (f:Bool) (x:Int):Pure zP 315 [.l (iL xs) f,eI x] (.b (xs.contains x)):=Pure.fit (by kernel_rfl) fun hf=>iN xs f x (OR hf.1)
def Ba (w:AF) (f:Fact):Bool:=decide (B5 f 24<=24)&&(decide (ET f<=12)&&Ae w f)
def lg (w:AF) (f:Fact):Pure zP 28 [.a (A5 w),.a (xF f)] (.b (Ba w f)):=by
 refine AAn kZ ?_
 conv=>whnf
 repeat'((first|clear U K|apply st|(apply zk;intro K U)|refine zn ?_|refine Pure.use (lA _) ?_|refine za (fun hc=>?_) fun hc=>?_|fail)<;>conv=>whnf)
 .have:=G3 f 24 (by omega) hc
  refine(ly f (by simp only[Ab];omega)).use ?_
  conv=>whnf
  repeat'((first|clear U K|apply st|refine zn ?_|refine Pure.use (oa _ _) ?_|refine za (fun hc=>?_) fun hc=>?_|fail)<;>conv=>whnf)
  .exact AG (by simp[Ba,hc,‹B5 f 24<=24›])
  .exact AG (by simp[Ba, *];intros;omega)
 .exact AG (by simp[Ba];intros;omega)
def rl (i:Nat) (pre:List Int) (c:Int):Bool:=decide (3<=c)&&(decide (c<3+i)&& !pre.contains c)
def Na (i:Nat):List Int->List Int->Bool
 | _,[]=>true
 | pre,c::r=>rl i pre c&&Na i (pre++[c]) r
def JF:Nat->List (List Int)->Bool
 | _,[]=>true
 | i,l::r=>decide (l.length<=3)&&(Na i [] l&&JF (i+1) r)
def Dv (g:List (List Int)):Bool:=decide (g.length<=16)&&JF 0 g
def YZ {ls:List (List Int)} {g:Bool} (h:Fc (.l (EV ls) g)):ls.length<=Ab/\ ∀l∈ls,l.length<=Ab:=by
 simp only[Gw,Bc,J9,Ey]at h;exact⟨h.1,fun l hl=>(h.2 l hl).1.1⟩
def pT (g:List (List Int)) (f:Bool):Pure zP 254 [.l (EV g) f] (.b (Dv g)):=by
 refine Pure.fit (by kernel_rfl) fun hf=>?_
 have⟨g1,g2⟩:=YZ hf.1;have hM:=Mx;refine wD kZ ?_
 conv=>whnf
 repeat'((first|clear U K|apply st|(apply zk;intro K U)|refine zn ?_|(refine zd (fun hc=>?_) (fun hc=>?_)<;>try exact⟨⟩)|fail)<;>conv=>whnf)
 .exact AG (by simp[Dv];intros;omega)
 .refine B4 g.length (fun k (_:Unit)=>[(3,eI (A7 k))]) (fun _ _=>[]) (fun k _=>Dv g=JF k (g.drop k)) () rfl (by simp[Dv];omega) Sat.nil ?_
  rintro k - Z hk hn hs
  conv=>whnf
  repeat'((first|clear U K|apply st|(apply zk;intro K U)|refine zn ?_|(refine fc (fun x hx hlt hc=>?_) (fun hk hc=>?_)<;>(try rw[hc])<;>clear hc)|(refine zd (fun hc=>?_) (fun hc=>?_)<;>try exact⟨⟩)|fail)<;>conv=>whnf)
  .exact AG (by rw[hn,drop_cons hx,JF];simp;intros;omega)
  .revert x
   rintro l hl hl3;have hll:=g2 l (B6 hl);have hn':Dv g=(Na k [] l&&JF (k+1) (g.drop (k+1))):=by rw[hn,drop_cons hl,JF];simp;intros;omega
   refine B4 l.length (fun j (_:Unit)=>[(4,eI (A7 j))]) (fun _ _=>[]) (fun j _=>Dv g=(Na k (l.take j) (l.drop j)&&JF (k+1) (g.drop (k+1)))) () rfl (by rw[hn'];rfl) Sat.nil ?_;rintro j - Z hj hm hs
   conv=>whnf
   repeat'((first|clear U K|apply st|(apply zk;intro K U)|refine zn ?_|(refine fc (fun x hx hlt hc=>?_) (fun hk hc=>?_)<;>(try rw[hc])<;>clear hc)|refine Pure.use (pK _ _ _) ?_|(refine zd (fun hc=>?_) (fun hc=>?_)<;>try exact⟨⟩)|fail)<;>conv=>whnf)
   .exact AG (by rw[hm,drop_cons hx,Na,rl,hc];simp)
   .refine⟨hlt,(),rfl,?_,Sat.nil⟩
    rw[hm,drop_cons hx,Na,rl,hc,AU hx];simp[*]
   .exact AG (by rw[hm,drop_cons hx,Na,rl];simp;intros;omega)
   .exact AG (by rw[hm,drop_cons hx,Na,rl];simp;intros;omega)
   .refine⟨by assumption,(),rfl,?_,Sat.nil⟩
    rw[hm,Aj hk,Na,Cc]
  .exact AG (by rw[hn,Aj hk];rfl)
end Go.Gl
namespace Go.Gl
def par (ps:List (List Int)) (c:Nat):List Int:=if c<3 then []else ps.getD (c - 3) []
def ordered (ps:List (List Int)):Prop:= ∀c p,p∈par ps c->3<=p/\p<(c:Int)
def fN (ps:List (List Int)):Nat->Nat->Nat->Bool
 | 0,c,b=>c==b
 | f+1,c,b=>c==b||(par ps c).any fun p=>fN ps f p.toNat b
def FQ (ps:List (List Int)) (c b:Nat):Bool:=fN ps c c b
def Lj {ps:List (List Int)} (ho:ordered ps): ∀(f c b:Nat),c<=f->fN ps f c b=FQ ps c b
 | 0,c,b,h=>by(obtain rfl:c=0:=by omega);rfl
 | f + 1,c,b,h=>by
   cases c with
   | zero=>
     have:par ps 0= []:=rfl;simp[FQ,fN,this]
   | succ c=>
     simp only[FQ,fN];congr 1
     have key: ∀l:List Int,(∀p∈l,p∈par ps (c+1))->(l.any fun p=>fN ps f p.toNat b)=l.any fun p=>fN ps c p.toNat b:=by
      intro l hl
      induction l with
      | nil=>rfl
      | cons p r ih=>
        have hp:=ho (c+1) p (hl p (.head _));simp only[Rq];rw[ih fun q hq=>hl q (.tail _ hq),Lj ho f p.toNat b (by omega),Lj ho c p.toNat b (by omega)]
     exact key _ fun p hp=>hp
def DM {ps:List (List Int)} (ho:ordered ps) (c b:Nat):FQ ps c b=(c==b||(par ps c).any fun p=>FQ ps p.toNat b):=by
 cases c with
 | zero=>simp[FQ,fN,par]
 | succ c=>
   simp only[FQ,fN];congr 1
   have key: ∀l:List Int,(∀p∈l,p∈par ps (c+1))->(l.any fun p=>fN ps c p.toNat b)=l.any fun p=>fN ps p.toNat p.toNat b:=by
    intro l hl
    induction l with
    | nil=>rfl
    | cons p r ih=>
      have hp:=ho (c+1) p (hl p (.head _));simp only[Rq];rw[ih fun q hq=>hl q (.tail _ hq),Lj ho c p.toNat b (by omega)];rfl
   exact key _ fun p hp=>hp
def Cl {ps:List (List Int)} (ho:ordered ps) (c:Nat):FQ ps c c=true:=by rw[DM ho];simp
def gl {ps:List (List Int)} (ho:ordered ps): ∀(c b:Nat),FQ ps c b=true->b<=c:=by
 intro c
 induction c using Nat.strongRecOn with
 | _ c ih=>
   intro b h;rw[DM ho]at h;simp only[EW,CF,GY]at h;rcases h with rfl|⟨p,hp,h⟩
   .omega
   .have:=ho c p hp
    have:=ih p.toNat (by omega) b h;omega
def IV {ps:List (List Int)} (ho:ordered ps): ∀(a b c:Nat),FQ ps a b=true->FQ ps b c=true->FQ ps a c=true:=by
 intro a
 induction a using Nat.strongRecOn with
 | _ a ih=>
   intro b c h k;rw[DM ho]at h ⊢;simp only[EW,CF,GY]at h ⊢;rcases h with rfl|⟨p,hp,h⟩
   .rw[DM ho]at k
    simpa using k
   .have:=ho a p hp
    exact .inr ⟨p,hp,ih p.toNat (by omega) b c h k⟩
def F4 (bs:List Bool) (i:Nat):List Int->List Bool
 | []=>bs
 | p::r=>F4 (bs.set p.toNat (bs.getD p.toNat false||bs.getD i false)) i r
def NI (i:Nat): ∀(a b:List Int) (bs:List Bool),F4 bs i (a++b)=F4 (F4 bs i a) i b
 | [],b,bs=>rfl
 | p::r,b,bs=>by simp only[List.cons_append,F4];exact NI i r b _
def N0 (i:Nat): ∀(l:List Int) (bs:List Bool),(F4 bs i l).length=bs.length
 | [],bs=>rfl
 | p::r,bs=>by simp only[F4];rw[N0 i r];simp
def H2 (ps:List (List Int)) (n c:Nat):Nat->List Bool
 | 0=>(List.replicate n false).set c true
 | k+1=>F4 (H2 ps n c k) (c - k) (par ps (c - k))
def MV (ps:List (List Int)) (n c:Nat): ∀k,(H2 ps n c k).length=n
 | 0=>by simp[H2]
 | k+1=>by simp only[H2];rw[N0,MV ps n c k]
def FK {bs:List Bool} {j:Nat} {x:Bool} (hj:j<bs.length) (b:Nat):(bs.set j x).getD b false=if b=j then x else bs.getD b false:=by
 simp only[Cq,List.getElem?_set];by_cases h:j=b
 .subst h;simp[hj]
 .rw[if_neg h,if_neg (fun e=>h e.symm)]
def N1 {i:Nat}: ∀(l:List Int) (bs:List Bool),(∀p∈l,0<=p/\p.toNat<bs.length/\p.toNat<i)-> ∀b,(F4 bs i l).getD b false=(bs.getD b false||(bs.getD i false&&l.contains (b:Int)))
 | [],bs,_,b=>by simp[F4]
 | p ::r,bs,h,b=>by
   obtain⟨h1,h2,h3⟩:=h p (.head _);simp only[F4];have hi:i≠p.toNat:=by omega
   rw[N1 r _ (fun q hq=>by have:=h q (.tail _ hq);simpa using this),FK h2,FK h2,if_neg hi];by_cases hb:b=p.toNat
   .subst hb
    have:((p.toNat:Nat):Int)=p:=by omega
    simp only[if_true,this,List.contains_cons,beq_self_eq_true,Bool.true_or,Bool.and_true];cases bs.getD p.toNat false<;>cases bs.getD i false<;>simp
   .rw[if_neg hb]
    have:((b:Int)==p)=false:=by simp;omega
    simp only[List.contains_cons,this,Bool.false_or]
def V2 {ps:List (List Int)} (ho:ordered ps) {n c:Nat} (hc:c<n): ∀k,k<=c - 2->(∀b,(H2 ps n c k).getD b false=true->FQ ps c b=true)/\(H2 ps n c k).getD c false=true/\
    (∀j p,c - k<j->(H2 ps n c k).getD j false=true->p∈par ps j->(H2 ps n c k).getD p.toNat false=true)
 | 0,_=>by
   have hg: ∀b,(H2 ps n c 0).getD b false=decide (b=c):=fun b=>by
    simp only[H2];rw[FK (by simpa using hc)];by_cases h:b=c
    .simp[h]
    .rw[if_neg h]
     simp[h,Cq,List.getElem?_replicate];split<;>rfl
   refine⟨fun b hb=>?_,by rw[hg];simp,fun j p hj hb hp=>?_⟩
   .rw[hg]at hb
    simp only[B7]at hb;subst hb;exact Cl ho _
   .rw[hg]at hb
    simp only[B7]at hb;omega
 | k + 1,hk=>by
   obtain⟨h1,h2,h3⟩:=V2 ho hc k (by omega)
   have hpar: ∀p∈par ps (c - k),0<=p/\p.toNat<(H2 ps n c k).length/\p.toNat<c - k:=fun p hp=>by
    have:=ho _ p hp;rw[MV];omega
   have hg: ∀b,(H2 ps n c (k+1)).getD b false=((H2 ps n c k).getD b false||((H2 ps n c k).getD (c - k) false&&(par ps (c - k)).contains (b:Int))):=fun b=>by
    simp only[H2];exact N1 _ _ hpar b
   refine⟨fun b hb=>?_,by rw[hg,h2];rfl,fun j p hj hb hp=>?_⟩
   .rw[hg]at hb
    simp only[EW,A4,List.contains_iff_mem]at hb;rcases hb with hb|⟨hb,hm⟩
    .exact h1 b hb
    .refine IV ho c (c - k) b (h1 _ hb) ?_
     rw[DM ho];simp only[EW,GY];exact .inr ⟨b,hm,by simpa using Cl ho b⟩
   .have hjp:=ho j p hp
    have hb':(H2 ps n c k).getD j false=true:=by
     rw[hg]at hb;simp only[EW,A4,List.contains_iff_mem]at hb;rcases hb with hb|⟨_,hm⟩
     .exact hb
     .have:=ho _ _ hm
      omega
    rw[hg];by_cases e:j=c - k
    .subst e
     rw[hb'];have:((p.toNat:Nat):Int)=p:=by omega
     simp only[this,Cc,EW,List.contains_iff_mem];exact .inr hp
    .rw[h3 j p (by omega) hb' hp]
     rfl
def Z2 {ps:List (List Int)} (ho:ordered ps) {n c:Nat} (hc:c<n) (b:Nat):(H2 ps n c (c - 2)).getD b false=FQ ps c b:=by
 obtain⟨h1,h2,h3⟩:=V2 ho hc (c - 2) (Ft _)
 have key: ∀a,(H2 ps n c (c - 2)).getD a false=true-> ∀b,FQ ps a b=true->(H2 ps n c (c - 2)).getD b false=true:=by
  intro a
  induction a using Nat.strongRecOn with
  | _ a ih=>
    intro ha b hb;rw[DM ho]at hb;simp only[EW,CF,GY]at hb;rcases hb with rfl|⟨p,hp,hb⟩
    .exact ha
    .have:=ho a p hp
     exact ih p.toNat (by omega) (h3 a p (by omega) ha hp) b hb
 cases hb:FQ ps c b with
 | true=>exact key c h2 b hb
 | false=>
   cases hq:(H2 ps n c (c - 2)).getD b false with
   | false=>rfl
   | true=>rw[h1 b hq]at hb;cases hb
end Go.Gl
namespace Go.Gl
open Go.Proofs
attribute [local irreducible] As Ag AY AQ AL AX AP AR AK AW AM AN Ai Ap Sat AT An AZ W
def pick (ls:List (List Int)):Option Int:=(ls.find? fun l=>match l with| []=>false|x::_=>free ls x).bind List.head?
def total (ls:List (List Int)):Nat:=(ls.map List.length).sum
def DT:Nat->List (List Int)->List Int->List Int×Bool
 | 0,ls,out=>(out,ls.all List.isEmpty)
 | n+1,ls,out=>match pick ls with
   | none=>(out,ls.all List.isEmpty)
   | some x=>DT n (ls.map fun l=>l.filter (· != x)) (out++[x])
def CH (ls:List (List Int)):List Int×Bool:=DT (total ls) ls []
def I3 {ls:List (List Int)} {x:Int} (h:pick ls=some x):total (ls.map fun l=>l.filter (· != x))<total ls:=by
 unfold pick at h;rw[Option.bind_eq_some_iff]at h;obtain⟨l,h1,h2⟩:=h;have hm:=List.mem_of_find?_eq_some h1;clear h1;cases l with
 | nil=>cases h2
 | cons y r=>
   simp only[List.head?_cons,Gh]at h2;subst h2
   have hle: ∀ls:List (List Int),total (ls.map fun l=>l.filter (· != y))<=total ls:=fun ls=>by
    induction ls with
    | nil=>simp[total]
    | cons a bs ih=>
      have:=TZ (· != y) a;simp only[total,CK,List.sum_cons]at *;omega
   induction ls with
   | nil=>cases hm
   | cons a bs ih=>
     rcases Ep.1 hm with rfl|hm
     .have h1:=hle bs
      have h2:=TZ (· != y) r;simp only[total,CK,List.sum_cons]at *;have:((y::r).filter (· != y)).length<=r.length:=by simpa using h2
      simp only[HH];omega
     .have h1:=ih hm
      have h2:=TZ (· != y) a;simp only[total,CK,List.sum_cons]at *;omega
def NW (ls:List (List Int)):Prop:=ls.length<=1000000/\ ∀l∈ls,l.length<=Ab/\ ∀x∈l,0<=x
def NW.filter {ls:List (List Int)} (h:NW ls) (x:Int):NW (ls.map fun l=>l.filter (· != x)):=by
 refine⟨by rw[Bc];exact h.1,fun l hl=>?_⟩;obtain⟨l',hl',rfl⟩:=GK.1 hl;obtain⟨h1,h2⟩:=h.2 l' hl';exact⟨Nat.le_trans (TZ _ _) h1,fun y hy=>h2 y (HD.1 hy).1⟩
def Dx (ls:List (List Int)) (k:Nat):Int:=((((ls.take k).find? fun l=>match l with| []=>false|x::_=>free ls x).bind List.head?).getD (-1))
def XX : ∀ (n:Nat) (ls:List (List Int)) (out:List Int),total ls<=n->DT n ls out=DT (total ls) ls out:=by
 intro n
 induction n using Nat.strongRecOn with
 | _ n ih=>
   intro ls out hn;by_cases he:total ls=n
   .rw[he]
   .cases n with
    | zero=>omega
    | succ n=>
      cases hp:pick ls with
      | none=>
        cases ht:total ls with
        | zero=>simp[DT,hp]
        | succ m=>simp[DT,hp]
      | some x=>
        have h1:=I3 hp;cases ht:total ls with
        | zero=>omega
        | succ m=>
          simp only[DT,hp];rw[ih n (by omega) _ _ (by omega),ih m (by omega) _ _ (by omega)]
def Of {ls:List (List Int)} {x:Int} {out:List Int} (hp:pick ls=some x):DT (total ls) ls out=DT (total (ls.map fun l=>l.filter (· != x))) (ls.map fun l=>l.filter (· != x)) (out++[x]):=by
 have h1:=I3 hp;cases ht:total ls with
 | zero=>omega
 | succ m=>
   simp only[DT,hp];exact XX m _ _ (by omega)
def RG {ls:List (List Int)} {out:List Int} (hp:pick ls=none):DT (total ls) ls out=(out,ls.all List.isEmpty):=by
 cases ht:total ls with
 | zero=>rfl
 | succ m=>simp only[DT,hp]
def FV (ls:List (List Int)) (l:List Int):Bool:=match l with| []=>false|x::_=>free ls x
def Ic (ls:List (List Int)) (k:Nat):Dx ls k=(((ls.take k).find? (FV ls)).bind List.head?).getD (-1):=rfl
def I5 {ls:List (List Int)} (hok:NW ls) {k:Nat} (h:Dx ls k<0):(ls.take k).find? (FV ls)=none:=by
 rw[Ic]at h;cases hf:(ls.take k).find? (FV ls)with
 | none=>rfl
 | some l=>
   rw[hf]at h;have hm:=List.mem_of_mem_take (List.mem_of_find?_eq_some hf);have hg:=List.find?_some hf;cases l with
   | nil=>cases hg
   | cons x r=>
     have:=(hok.2 _ hm).2 x (.head _);simp at h;omega
def XV {ls:List (List Int)} (hok:NW ls) {k:Nat} (hk:k<ls.length) (h:Dx ls k<0):Dx ls (k+1)=if FV ls ls[k]then(ls[k].head?).getD (-1)else -1:=by
 rw[Ic,List.take_succ_eq_append_getElem hk,List.find?_append,I5 hok h];by_cases hg:FV ls ls[k]=true
 .simp[hg]
 .simp[hg]
def Q8 {ls:List (List Int)} {k:Nat} (h:0<=Dx ls k):pick ls=some (Dx ls k):=by
 rw[Ic]at *;show((ls.find? (FV ls)).bind List.head?)=_;cases hf:(ls.take k).find? (FV ls)with
 | none=>rw[hf]at h;simp at h
 | some l=>
   have h1:ls.find? (FV ls)=some l:=by
    have:=List.take_append_drop k ls;rw[<-this,List.find?_append,this,hf];rfl
   rw[h1];rw[hf]at h;cases l with
   | nil=>simp at h
   | cons x r=>simp
def KH {ls:List (List Int)} (hok:NW ls) {k:Nat} {l:List Int} (hl:ls[k]? =some l) (h:Dx ls k<0):Dx ls (k+1)=if FV ls l then(l.head?).getD (-1)else -1:=by
 obtain⟨hk,rfl⟩:=Ip.1 hl;exact XV hok hk h
def cf {ls:List (List Int)} {l:List Int} (h:l∈ls):l.length<=total ls:=by
 induction ls with
 | nil=>cases h
 | cons a r ih=>
   simp only[total,CK,List.sum_cons]at *;rcases Ep.1 h with rfl|h
   .omega
   .have:=ih h;omega
def lG (ls:List (List Int)) (f:Bool) (hok:NW ls) (ht:total ls<Ab):Pure zP 356 [.l (EV ls) f] (.t [.l (iL (CH ls).1) false,.b (CH ls).2]):=by
 have hM:=Mx;refine uu kZ ?_
 conv=>whnf
 repeat((first|(refine GJ ?_;intro K U)|(refine DV ?_;intro KR KP hR hP)|(refine hR _ _ ?_;clear hP;clear KP;clear hR;clear KR)|refine IU ?_|refine PV ?_|(apply U;clear U K)|fail);conv=>whnf)
 refine Ff (fun(x:List (List Int)×Bool×V×List Int)=>total x.1) (fun x=>[(0,.l (EV x.1) x.2.1),(4,x.2.2.1)]) (fun x=>[.own x.2.2.1 1 (iL x.2.2.2)])
  (fun x=>NW x.1/\x.2.2.2.length+total x.1<=total ls/\DT (total x.1) x.1 x.2.2.2=CH ls) (ls,f,.l [] true,[]) rfl ⟨hok,by simp,rfl⟩ (EY Sat.nil 1) ?_
 rintro⟨ls',f',v,out⟩ Z ⟨hok',hlen,hm⟩ hs;dsimp only at hok' hlen hm hs;have hlm:ls'.length<=Ab:=by have:=hok'.1;omega
 conv=>whnf
 repeat((first|(refine GJ ?_;intro K U)|(refine DV ?_;intro KR KP hR hP)|(refine hR _ _ ?_;clear hP;clear KP;clear hR;clear KR)|refine IU ?_|refine PV ?_|(apply U;clear U K)|fail);conv=>whnf)
 have hJ :=SR U (fun(y:Int×Bool)=>[(5,.i .i64 y.1),(6,.b y.2)]) (fun _=>[.own v 1 (iL out)]) (fun y=>(0<=y.1/\pick ls'=some y.1)\/(y.1<0/\pick ls'=none/\y.2=ls'.any fun l=> !l.isEmpty))
  [(0,.l (EV ls') f'),(4,v),(5,.pn),(6,.pn)] (by
  rintro⟨nx,lf⟩ Z hor hs;dsimp only at hor
  conv=>whnf
  repeat((first|refine⟨rfl,?_⟩|(refine GJ ?_;intro K U)|(refine DV ?_;intro KR KP hR hP)|(refine hR _ _ ?_;clear hP;clear KP;clear hR;clear KR)|refine I1 ?_|(apply U;clear U K)|fail);conv=>whnf)
  refine fork (fun hneg=>?_) (fun hneg=>?_)
  .conv=>whnf
   repeat((first|(refine GJ ?_;intro K U)|(refine DV ?_;intro KR KP hR hP)|(refine hR _ _ ?_;clear hP;clear KP;clear hR;clear KR)|refine jg ?_|(apply U;clear U K)|(clear U K));conv=>whnf)
   rcases hor with⟨h0,_⟩|⟨_,hp,rfl⟩
   .omega
   .rw[RG hp]at hm
    refine Af ?_;rw[<-hm];refine .t (.cons (hs.MB 0 rfl) (.cons ?_ .nil));have:(!ls'.any fun l=> !l.isEmpty)=ls'.all List.isEmpty:=by simp[List.all_eq_not_any_not]
    rw[<-this];exact .refl _
  .conv=>whnf
   repeat((first|(refine GJ ?_;intro K U)|(refine DV ?_;intro KR KP hR hP)|refine Kp ?_|(apply U;clear U K)|fail);conv=>whnf)
   rcases hor with⟨_,hp⟩|⟨h0,_⟩
   .have hlt:=I3 hp
    refine GO hs 0 (x:=nx) rfl (by omega) Cs fun v' Z hs=>?_
    conv=>whnf
    repeat((first|(refine GJ ?_;intro K U)|(refine DV ?_;intro KR KP hR hP)|(refine hR _ _ ?_;clear hP;clear KP;clear hR;clear KR)|refine IU ?_|refine PV ?_|(apply U;clear U K)|fail);conv=>whnf)
    refine B4 ls'.length (fun k u=>[(8,u),(9,eI (A7 k))]) (fun k u=>[.own v' 1 (iL (out++[nx])),.own u 1 (EV ((ls'.take k).map fun l=>l.filter (· != nx)))]) (fun _ _=>True) (.l [] true) rfl trivial (EY hs 1) ?_;rintro k u Z hk - hs
    conv=>whnf
    repeat((first|refine⟨rfl,?_⟩|refine Vj ?_|(refine GJ ?_;intro K U)|(refine DV ?_;intro KR KP hR hP)|(refine hR _ _ ?_;clear hP;clear KP;clear hR;clear KR)|refine I1 ?_|(apply U;clear U K)|fail);conv=>whnf)
    refine Gv hk hlm (fun l hl hlt'=>?_) fun hk=>?_
    .conv=>whnf
     repeat((first|(refine GJ ?_;intro K U)|(refine DV ?_;intro KR KP hR hP)|refine Kp ?_|refine IU ?_|(apply U;clear U K)|fail);conv=>whnf)
     refine Jm hl hlm rfl ?_
     conv=>whnf
     repeat((first|refine Kg ?_|fail);conv=>whnf)
     refine(Qt _ _ _ (hok'.2 _ (B6 hl)).1).use ?_
     conv=>whnf
     refine GO hs 1 (x:=l.filter (· != nx)) rfl (by have:=hok'.1;simp;omega) DQ fun u' Z' hs'=>?_
     conv=>whnf
     repeat((first|refine⟨rfl,?_⟩|(refine DV ?_;intro KR KP hR hP)|(refine hR _ _ ?_;clear hP;clear KP;clear hR;clear KR)|(apply U;clear U K)|(clear U K));conv=>whnf)
     refine⟨hlt',u',rfl,trivial,?_⟩;rw[AU hl,LX];exact hs'
    .rw[BA hk]at hs
     conv=>whnf
     repeat((first|(refine DV ?_;intro KR KP hR hP)|refine PW ?_|(apply U;clear U K)|(clear U K));conv=>whnf)
     refine sK hs 1 rfl fun Z' hs'=>?_
     conv=>whnf
     repeat((first|(refine hR _ _ ?_;clear hP;clear KP;clear hR;clear KR)|fail);conv=>whnf)
     refine⟨(ls'.map fun l=>l.filter (· != nx),false,v',out++[nx]),hlt,rfl,⟨hok'.filter nx,by simp;omega,?_⟩,hs'⟩;rw[<-Of hp];exact hm
   .omega)
 clear U
 .refine B4 ls'.length (fun k (_:Unit)=>[(5,.i .i64 (Dx ls' k)),(6,.b ((ls'.take k).any fun l=> !l.isEmpty)),(7,eI (A7 k))]) (fun _ _=>[.own v 1 (iL out)]) (fun _ _=>True) () rfl trivial hs ?_
  rintro k - Z hk - hs
  conv=>whnf
  repeat((first|refine⟨rfl,?_⟩|refine Vj ?_|(refine GJ ?_;intro K U)|(refine DV ?_;intro KR KP hR hP)|fail);conv=>whnf)
  refine⟨fun h=>?_,fun h=>?_⟩<;>(try rw[h])
  .have hlt:=of_decide_eq_true h
   rw[AS (by have:=hok'.1;omega)]at hlt;have hlt:=iF hlt;have hl:=Cd hlt;have hb:=hok'.2 _ (List.getElem_mem hlt);generalize ls'[k]=l at *
   conv=>whnf
   repeat((first|refine⟨rfl,?_⟩|refine jQ ?_|(refine hR _ _ ?_;clear hP;clear KP;clear hR;clear KR)|refine I1 ?_|(apply U;clear U K)|fail);conv=>whnf)
   refine fork (fun hneg=>?_) (fun hneg=>?_)
   .conv=>whnf
    repeat((first|(refine GJ ?_;intro K U)|(refine DV ?_;intro KR KP hR hP)|refine Kp ?_|refine IU ?_|(apply U;clear U K)|fail);conv=>whnf)
    refine Jm hl hlm rfl ?_
    conv=>whnf
    repeat((first|refine⟨rfl,?_⟩|refine Kg ?_|refine Vj ?_|(refine hR _ _ ?_;clear hP;clear KP;clear hR;clear KR)|refine I1 ?_|(apply U;clear U K)|fail);conv=>whnf)
    refine fork (fun hp=>?_) (fun hp=>?_)
    .simp only[Bc]at hp
     obtain⟨x,r,rfl⟩: ∃x r,l=x::r:=by cases l with
      | nil=>simp at hp
      | cons x r=>exact⟨x,r,rfl⟩
     have hany:((ls'.take (k+1)).any fun l=> !l.isEmpty)=true:=by
      rw[AU hl];simp
     conv=>whnf
     repeat((first|(refine GJ ?_;intro K U)|(refine DV ?_;intro KR KP hR hP)|(refine hR _ _ ?_;clear hP;clear KP;clear hR;clear KR)|(apply U;clear U K)|fail);conv=>whnf)
     refine Jm hl hlm rfl ?_
     conv=>whnf
     repeat((first|refine Kg ?_|fail);conv=>whnf)
     refine VR 0 rfl rfl rfl ?_
     conv=>whnf
     repeat((first|refine Kg ?_|fail);conv=>whnf)
     refine(pZ _ _ _ hlm fun l hl=>(hok'.2 l hl).1).use ?_
     conv=>whnf
     repeat((first|(refine hR _ _ ?_;clear hP;clear KP;clear hR;clear KR)|refine I1 ?_|(apply U;clear U K)|fail);conv=>whnf)
     refine⟨fun hf=>?_,fun hf=>?_⟩
     .conv=>whnf
      repeat((first|(refine DV ?_;intro KR KP hR hP)|fail);conv=>whnf)
      refine Jm hl hlm rfl ?_
      conv=>whnf
      repeat((first|refine Kg ?_|fail);conv=>whnf)
      refine VR 0 rfl rfl rfl ?_
      conv=>whnf
      repeat((first|refine⟨rfl,?_⟩|refine Kg ?_|(refine DV ?_;intro KR KP hR hP)|(refine hR _ _ ?_;clear hP;clear KP;clear hR;clear KR)|(apply U;clear U K)|fail);conv=>whnf)
      refine⟨hlt,(),?_,trivial,hs⟩;have:Dx ls' (k+1)=x:=by rw[KH hok' hl hneg];simp[FV,hf]
      dsimp only;rw[this,hany];rfl
     .conv=>whnf
      repeat((first|refine⟨rfl,?_⟩|(refine DV ?_;intro KR KP hR hP)|(refine hR _ _ ?_;clear hP;clear KP;clear hR;clear KR)|refine Kp ?_|(apply U;clear U K)|fail);conv=>whnf)
      refine⟨hlt,(),?_,trivial,hs⟩;have:Dx ls' (k+1)=Dx ls' k:=by rw[KH hok' hl hneg,Ic ls' k,I5 hok' hneg];simp[FV,hf]
      dsimp only;rw[this,hany];rfl
    .simp only[Bc]at hp
     obtain rfl:l= []:=Xv.1 (by omega)
     conv=>whnf
     repeat((first|refine⟨rfl,?_⟩|(refine DV ?_;intro KR KP hR hP)|(refine hR _ _ ?_;clear hP;clear KP;clear hR;clear KR)|refine Kp ?_|(apply U;clear U K)|fail);conv=>whnf)
     refine⟨hlt,(),?_,trivial,hs⟩;have:Dx ls' (k+1)=Dx ls' k:=by rw[KH hok' hl hneg,Ic ls' k,I5 hok' hneg];simp[FV]
     have hany:((ls'.take (k+1)).any fun l=> !l.isEmpty)=((ls'.take k).any fun l=> !l.isEmpty):=by
      rw[AU hl,List.any_append];simp
     dsimp only;rw[this,hany];rfl
   .conv=>whnf
    repeat((first|refine PW ?_|(clear U K));conv=>whnf)
    refine hJ (Dx ls' k,(ls'.take k).any fun l=> !l.isEmpty) _ _ rfl (.inl ⟨by omega,?_⟩) hs;exact Q8 (by omega)
  .have hlt:=of_decide_eq_false h
   rw[AS (by have:=hok'.1;omega)]at hlt;have hke:=bV hk hlt
   conv=>whnf
   repeat((first|refine jR ?_|(refine hR _ _ ?_;clear hP;clear KP;clear hR;clear KR)|refine I1 ?_|refine PW ?_|(apply U;clear U K)|(clear U K));conv=>whnf)
   refine hJ (Dx ls' k,(ls'.take k).any fun l=> !l.isEmpty) _ _ rfl ?_ hs;rw[BA hke];by_cases h0:0<=Dx ls' k
   .exact .inl ⟨h0,Q8 h0⟩
   .refine .inr ⟨by omega,?_,rfl⟩
    have:=I5 hok' (k:=k) (by omega);rw[BA hke]at this;show((ls'.find? (FV ls')).bind List.head?)=none;rw[this];rfl
end Go.Gl
