import Derived.Test.YtcfkfhaedllcpaaGreatW14
import Derived.Test.YtcfkfhaedllcpaaGreatW15
set_option linter.all false
set_option linter.defProp false
set_option maxHeartbeats 8000000
noncomputable section
namespace Go.Gl
open Go.Proofs
attribute [local irreducible] A3 Aq Af AR AJ Ad AQ AT AK Ac AM AN Ax A5 Sat AX A4 Ah W
def CR (op:Int):Nat:=if op=5 then 1 else if op=6\/op=7 then 2 else 0
def W7 (w:AI) (f:Fact):Bool:=
 if f.op=2 then f.n==0&&Q7 w f.cls else if f.op=3\/f.op=4 then f.cls==0&&(decide (-1000000000<=f.n)&&decide (f.n<=1000000000))else f.op==1||f.op==5||f.op==6||f.op==7
def C6 (w:AI) (f:Fact):Bool:=
 W7 w f&&(f.kids.length==CR f.op&&(decide (0<=f.arg)&&(decide (f.arg<3)&&(E5 w f.path&&(B7 f||(f.arg==0&&(f.path.length==0&&(f.cls==0&&f.n==0))))))))
def Bh (w:AI) (f:Fact):Bool:=f.Hp fun f l=>C6 w f&&l.all id
def Cp (w:AI) (f:Fact):Bh w f=(C6 w f&&f.kids.all (Bh w)):=by rw[Bh,Fact.Du,List.all_map];rfl
def Pe {w:AI} {f:Fact} (h:C6 w f=false):Bh w f=false:=by rw[Cp,h,Bool.false_and]
def xi {f:Fact} (h1:B7 f=false) (h2:f.arg=0) (h3:(f.path.length:Int) > 0):true= !(B7 f||(f.arg==0&&(f.path.length==0&&(f.cls==0&&f.n==0)))):=by
 have:(f.path.length==0)=false:=by simp;intro e;rw[e]at h3;simp at h3
 rw[this,h1,h2];rfl
def lr (w : AI) (f:Fact):Pure zP 185 [.a (A1 w),.a (xF f)] (.b (Bh w f)):=by
 induction f using Fact.ind with
 | h f ih=>
   refine Pure.fit (by kernel_rfl) fun hf=>?_
   have⟨h2,h3,h4⟩:=J8 hf.2.1;have⟨w1,w2,w3⟩:=U7 hf.1;have hM:=Mx;refine uc kZ ?_
   conv=>whnf
   repeat'((first|apply st|(apply sq;intro K U)|(apply si;intro A B hA hB)|(refine hA _ _ ?_;clear hB B hA A)|(apply U;clear U K)|refine⟨rfl,?_⟩|fail)<;>conv=>whnf)
   have hJ :=Rf U (fun(_:Unit)=>[(5,eI (CR f.op))]) (fun _=>[]) (fun _=>W7 w f=true) [(2,.rp (A1 w)),(3,.rp (xF f)),(5,eI 0)] (by
    clear U;rintro - Z ho -
    conv=>whnf
    repeat'((first|apply st|(apply sq;intro K U)|(apply si;intro A B hA hB)|refine⟨rfl,?_⟩|fail)<;>conv=>whnf)
    have hJ :=Rf U (fun(b:Bool)=>[(66,.b b)]) (fun _=>[]) (fun b=>b= !(f.kids.length==CR f.op&&(decide (0<=f.arg)&&(decide (f.arg<3)&&E5 w f.path)))) [(2,.rp (A1 w)),(3,.rp (xF f)),(66,.b false)] (by
     clear U;rintro b Z hb -
     conv=>whnf
     repeat'((first|apply st|fail)<;>conv=>whnf)
     have hJ :=Rf U (fun(_:Unit)=>[]) (fun _=>[]) (fun _=>b=false) [(2,.rp (A1 w)),(3,.rp (xF f))] (by
      clear U;rintro - Z hb' -;rw[hb']at hb
      conv=>whnf
      repeat'((first|apply st|(apply sq;intro K U)|(apply si;intro A B hA hB)|refine⟨kZ,?_⟩|refine Pure.use (Zc _) ?_|fail)<;>conv=>whnf)
      have hJ:=Rf U (fun(b:Bool)=>[(90,.b b)]) (fun _=>[]) (fun b=>b= !(B7 f||(f.arg==0&&(f.path.length==0&&(f.cls==0&&f.n==0))))) [(2,.rp (A1 w)),(3,.rp (xF f)),(90,.b false)] (by
       clear U;rintro b Z hb2 -
       conv=>whnf
       repeat'((first|apply st|fail)<;>conv=>whnf)
       have hJ:=Rf U (fun(_:Unit)=>[]) (fun _=>[]) (fun _=>b=false) [(2,.rp (A1 w)),(3,.rp (xF f))] (by
        clear U;rintro - Z hb' -;rw[hb']at hb2
        have hh:C6 w f=true:=by
         have hb:(f.kids.length==CR f.op&&(decide (0<=f.arg)&&(decide (f.arg<3)&&E5 w f.path)))=true:=by rw[<-Bool.not_eq_false',<-hb]
         have hb2:(B7 f||(f.arg==0&&(f.path.length==0&&(f.cls==0&&f.n==0))))=true:=by rw[<-Bool.not_eq_false',<-hb2]
         simp only[BD]at hb;simp only[C6,ho,hb.1,hb.2,hb2,Bool.and_self]
        conv=>whnf
        repeat'((first|apply st|(apply sq;intro K U)|(apply si;intro A B hA hB)|(refine hA _ _ ?_;clear hB B hA A)|(apply U;clear U K)|fail)<;>conv=>whnf)
        refine B0 f.kids.length (fun k (_:Unit)=>[(94,eI (A8 k))]) (fun _ _=>[]) (fun k _=>Bh w f=(f.kids.drop k).all (Bh w)) () rfl (by rw[Cp,hh];rfl) Sat.nil ?_;rintro k - Z hk hn hs
        conv=>whnf
        repeat'((first|apply st|(apply sq;intro K U)|(apply si;intro A B hA hB)|(refine hA _ _ ?_;clear hB B hA A)|(apply U;clear U K)|refine⟨rfl,?_⟩|refine⟨kZ,?_⟩|refine xz ?_|refine ld ?_|refine sn fun Z hs=>?_|(refine fc (fun x hx hlt hc=>?_) (fun hk hc=>?_)<;>(try rw[hc])<;>clear hc)|(intro nn hnn;generalize hg:Bd _ nn _=Z;refine al hg fun hs=>?_;clear hg)|clear U K)<;>conv=>whnf)
        .have hxm:=B1 hx
         refine(ih x hxm).use ?_
         conv=>whnf
         repeat'((first|apply st|(apply sq;intro K U)|(apply si;intro A B hA hB)|(refine hA _ _ ?_;clear hB B hA A)|(apply U;clear U K)|refine⟨rfl,?_⟩|(constructor<;>intro hc<;>(try rw[hc])<;>(replace hc:=bp hc))|clear U K)<;>conv=>whnf)
         .exact AF (by rw[hn,drop_cons hx];simp[hc])
         .exact⟨hlt,(),rfl,by rw[hn,drop_cons hx];simp[hc],Sat.nil⟩
        .exact AF (by rw[hn,Ao hk];rfl))
       clear U
       conv=>whnf
       repeat'((first|apply st|(apply sq;intro K U)|(apply si;intro A B hA hB)|(refine hA _ _ ?_;clear hB B hA A)|(apply U;clear U K)|(constructor<;>intro hc<;>(try rw[hc])<;>(replace hc:=bp hc))|fail)<;>conv=>whnf)
       .have hx:(B7 f||(f.arg==0&&(f.path.length==0&&(f.cls==0&&f.n==0))))=false:=by rw[<-Bool.not_eq_true',<-hb2,hc]
        exact AF (by rw[Pe];simp only[C6,hx,Bool.and_false])
       .exact hJ () _ _ rfl hc Sat.nil)
      clear U;clear hb
      conv=>whnf
      repeat'((first|apply st|(refine hA _ _ ?_;clear hB B hA A)|refine⟨rfl,?_⟩|(constructor<;>intro hc<;>(try rw[hc])<;>(replace hc:=bp hc)<;>(try simp(disch:=omega) only[BU,wrap64,AO]at hc))|fail)<;>conv=>whnf)
      .have hp:f.path.length=0:=by omega
       exact hJ _ _ _ rfl (by rw[hp];simp[*,bne]) Sat.nil
      .exact hJ true _ _ rfl (by simp[*]) Sat.nil
      .exact hJ true _ _ rfl (xi (by assumption) (by assumption) hc) Sat.nil
      .exact hJ true _ _ rfl (by simp[*]) Sat.nil
      .exact hJ false _ _ rfl (by simp[*]) Sat.nil)
     clear U
     conv=>whnf
     repeat'((first|apply st|(apply sq;intro K U)|(apply si;intro A B hA hB)|(refine hA _ _ ?_;clear hB B hA A)|(apply U;clear U K)|(constructor<;>intro hc<;>(try rw[hc])<;>(replace hc:=bp hc))|fail)<;>conv=>whnf)
     .have hx:(f.kids.length==CR f.op&&(decide (0<=f.arg)&&(decide (f.arg<3)&&E5 w f.path)))=false:=by rw[<-Bool.not_eq_true',<-hb,hc]
      exact AF (by rw[Pe];simp only[C6];simp only[Bool.and_eq_false_iff]at hx ⊢;rcases hx with h|h|h|h<;>simp[h])
     .exact hJ () _ _ rfl hc Sat.nil)
    clear U
    conv=>whnf
    repeat'((first|apply st|(refine hA _ _ ?_;clear hB B hA A)|refine⟨rfl,?_⟩|refine⟨kZ,?_⟩|refine Pure.use (lT _ _ _) ?_|(constructor<;>intro hc<;>(try rw[hc])<;>(replace hc:=bp hc)<;>(try simp(disch:=omega) only[BU,wrap64,AO]at hc))|fail)<;>conv=>whnf)
    all_goals exact hJ _ _ _ rfl (by simp[*]<;>omega) Sat.nil)
   clear U
   conv=>whnf
   repeat'((first|apply st|(apply sq;intro K U)|(apply si;intro A B hA hB)|(refine hA _ _ ?_;clear hB B hA A)|(apply U;clear U K)|refine⟨rfl,?_⟩|refine⟨kZ,?_⟩|refine Pure.use (jX _ _) ?_|(constructor<;>intro hc<;>(try rw[hc])<;>(replace hc:=bp hc))|fail)<;>conv=>whnf)
   all_goals first
    | exact AF (by rw[Pe];simp only[C6,W7];simp[*]<;>omega)
    | exact hJ () _ _ (by simp[CR, *];rfl) (by simp[W7, *]<;>omega) Sat.nil
def mO (xs:List Int) (f:Bool) (x:Int):Pure zP 250 [.l (iL xs) f,eI x] (.b (xs.contains x)):=Pure.fit (by kernel_rfl) fun hf=>fe xs f x (LX hf.1)
def C7 (w:AI) (f:Fact):Bool:=decide (CQ f 24<=24)&&(decide (D4 f<=12)&&Bh w f)
def jA (w:AI) (f:Fact):Pure zP 129 [.a (A1 w),.a (xF f)] (.b (C7 w f)):=by
 refine uz kZ ?_
 conv=>whnf
 repeat'((first|clear U K|apply st|(apply zk;intro K U)|refine zn ?_|refine Pure.use (iQ _) ?_|refine za (fun hc=>?_) fun hc=>?_|fail)<;>conv=>whnf)
 .have:=Ky f 24 (by omega) hc
  refine(jR f (by simp only[AY];omega)).use ?_
  conv=>whnf
  repeat'((first|clear U K|apply st|refine zn ?_|refine Pure.use (lr _ _) ?_|refine za (fun hc=>?_) fun hc=>?_|fail)<;>conv=>whnf)
  .exact AF (by simp[C7,hc,‹CQ f 24<=24›])
  .exact AF (by simp[C7, *];intros;omega)
 .exact AF (by simp[C7];intros;omega)
def pO (i:Nat) (pre:List Int) (c:Int):Bool:=decide (3<=c)&&(decide (c<3+i)&& !pre.contains c)
def Mo (i:Nat):List Int->List Int->Bool
 | _,[]=>true
 | pre,c::r=>pO i pre c&&Mo i (pre++[c]) r
def IV:Nat->List (List Int)->Bool
 | _,[]=>true
 | i,l::r=>decide (l.length<=3)&&(Mo i [] l&&IV (i+1) r)
def Dd (g:List (List Int)):Bool:=decide (g.length<=16)&&IV 0 g
def TZ {ls:List (List Int)} {g:Bool} (h:E0 (.l (Ee ls) g)):ls.length<=AY/\ ∀l∈ls,l.length<=AY:=by
 simp only[Gx,BU,JH,DQ]at h;exact⟨h.1,fun l hl=>(h.2 l hl).1.1⟩
def mS (g:List (List Int)) (f:Bool):Pure zP 179 [.l (Ee g) f] (.b (Dd g)):=by
 refine Pure.fit (by kernel_rfl) fun hf=>?_
 have⟨g1,g2⟩:=TZ hf.1;have hM:=Mx;refine ui kZ ?_
 conv=>whnf
 repeat'((first|clear U K|apply st|(apply zk;intro K U)|refine zn ?_|(refine zd (fun hc=>?_) (fun hc=>?_)<;>try exact⟨⟩)|fail)<;>conv=>whnf)
 .exact AF (by simp[Dd];intros;omega)
 .refine B0 g.length (fun k (_:Unit)=>[(3,eI (A8 k))]) (fun _ _=>[]) (fun k _=>Dd g=IV k (g.drop k)) () rfl (by simp[Dd];omega) Sat.nil ?_
  rintro k - Z hk hn hs
  conv=>whnf
  repeat'((first|clear U K|apply st|(apply zk;intro K U)|refine zn ?_|(refine fc (fun x hx hlt hc=>?_) (fun hk hc=>?_)<;>(try rw[hc])<;>clear hc)|(refine zd (fun hc=>?_) (fun hc=>?_)<;>try exact⟨⟩)|fail)<;>conv=>whnf)
  .exact AF (by rw[hn,drop_cons hx,IV];simp;intros;omega)
  .revert x
   rintro l hl hl3;have hll:=g2 l (B1 hl);have hn':Dd g=(Mo k [] l&&IV (k+1) (g.drop (k+1))):=by rw[hn,drop_cons hl,IV];simp;intros;omega
   refine B0 l.length (fun j (_:Unit)=>[(4,eI (A8 j))]) (fun _ _=>[]) (fun j _=>Dd g=(Mo k (l.take j) (l.drop j)&&IV (k+1) (g.drop (k+1)))) () rfl (by rw[hn'];rfl) Sat.nil ?_;rintro j - Z hj hm hs
   conv=>whnf
   repeat'((first|clear U K|apply st|(apply zk;intro K U)|refine zn ?_|(refine fc (fun x hx hlt hc=>?_) (fun hk hc=>?_)<;>(try rw[hc])<;>clear hc)|refine Pure.use (mO _ _ _) ?_|(refine zd (fun hc=>?_) (fun hc=>?_)<;>try exact⟨⟩)|fail)<;>conv=>whnf)
   .exact AF (by rw[hm,drop_cons hx,Mo,pO,hc];simp)
   .refine⟨hlt,(),rfl,?_,Sat.nil⟩
    rw[hm,drop_cons hx,Mo,pO,hc,AL hx];simp[*]
   .exact AF (by rw[hm,drop_cons hx,Mo,pO];simp;intros;omega)
   .exact AF (by rw[hm,drop_cons hx,Mo,pO];simp;intros;omega)
   .refine⟨by assumption,(),rfl,?_,Sat.nil⟩
    rw[hm,Ao hk,Mo,G7]
  .exact AF (by rw[hn,Ao hk];rfl)
end Go.Gl
namespace Go.Gl
def par (ps:List (List Int)) (c:Nat):List Int:=if c<3 then []else ps.getD (c - 3) []
def ordered (ps:List (List Int)):Prop:= ∀c p,p∈par ps c->3<=p/\p<(c:Int)
def db (ps:List (List Int)):Nat->Nat->Nat->Bool
 | 0,c,b=>c==b
 | f+1,c,b=>c==b||(par ps c).any fun p=>db ps f p.toNat b
def Jv (ps:List (List Int)) (c b:Nat):Bool:=db ps c c b
def Kq {ps:List (List Int)} (ho:ordered ps): ∀(f c b:Nat),c<=f->db ps f c b=Jv ps c b
 | 0,c,b,h=>by(obtain rfl:c=0:=by omega);rfl
 | f + 1,c,b,h=>by
   cases c with
   | zero=>
     have:par ps 0= []:=rfl;simp[Jv,db,this]
   | succ c=>
     simp only[Jv,db];congr 1
     have key: ∀l:List Int,(∀p∈l,p∈par ps (c+1))->(l.any fun p=>db ps f p.toNat b)=l.any fun p=>db ps c p.toNat b:=by
      intro l hl
      induction l with
      | nil=>rfl
      | cons p r ih=>
        have hp:=ho (c+1) p (hl p (.head _));simp only[Q1];rw[ih fun q hq=>hl q (.tail _ hq),Kq ho f p.toNat b (by omega),Kq ho c p.toNat b (by omega)]
     exact key _ fun p hp=>hp
def FD {ps:List (List Int)} (ho:ordered ps) (c b:Nat):Jv ps c b=(c==b||(par ps c).any fun p=>Jv ps p.toNat b):=by
 cases c with
 | zero=>simp[Jv,db,par]
 | succ c=>
   simp only[Jv,db];congr 1
   have key: ∀l:List Int,(∀p∈l,p∈par ps (c+1))->(l.any fun p=>db ps c p.toNat b)=l.any fun p=>db ps p.toNat p.toNat b:=by
    intro l hl
    induction l with
    | nil=>rfl
    | cons p r ih=>
      have hp:=ho (c+1) p (hl p (.head _));simp only[Q1];rw[ih fun q hq=>hl q (.tail _ hq),Kq ho c p.toNat b (by omega)];rfl
   exact key _ fun p hp=>hp
def HN {ps:List (List Int)} (ho:ordered ps) (c:Nat):Jv ps c c=true:=by rw[FD ho];simp
def fA {ps:List (List Int)} (ho:ordered ps): ∀(c b:Nat),Jv ps c b=true->b<=c:=by
 intro c
 induction c using Nat.strongRecOn with
 | _ c ih=>
   intro b h;rw[FD ho]at h;simp only[Fl,EU,J0]at h;rcases h with rfl|⟨p,hp,h⟩
   .omega
   .have:=ho c p hp
    have:=ih p.toNat (by omega) b h;omega
def ND {ps:List (List Int)} (ho:ordered ps): ∀(a b c:Nat),Jv ps a b=true->Jv ps b c=true->Jv ps a c=true:=by
 intro a
 induction a using Nat.strongRecOn with
 | _ a ih=>
   intro b c h k;rw[FD ho]at h ⊢;simp only[Fl,EU,J0]at h ⊢;rcases h with rfl|⟨p,hp,h⟩
   .rw[FD ho]at k
    simpa using k
   .have:=ho a p hp
    exact .inr ⟨p,hp,ih p.toNat (by omega) b c h k⟩
def FX (bs:List Bool) (i:Nat):List Int->List Bool
 | []=>bs
 | p::r=>FX (bs.set p.toNat (bs.getD p.toNat false||bs.getD i false)) i r
def MP (i:Nat): ∀(a b:List Int) (bs:List Bool),FX bs i (a++b)=FX (FX bs i a) i b
 | [],b,bs=>rfl
 | p::r,b,bs=>by simp only[List.cons_append,FX];exact MP i r b _
def NP (i:Nat): ∀(l:List Int) (bs:List Bool),(FX bs i l).length=bs.length
 | [],bs=>rfl
 | p::r,bs=>by simp only[FX];rw[NP i r];simp
def HA (ps:List (List Int)) (n c:Nat):Nat->List Bool
 | 0=>(List.replicate n false).set c true
 | k+1=>FX (HA ps n c k) (c - k) (par ps (c - k))
def Ld (ps:List (List Int)) (n c:Nat): ∀k,(HA ps n c k).length=n
 | 0=>by simp[HA]
 | k+1=>by simp only[HA];rw[NP,Ld ps n c k]
def EB {bs:List Bool} {j:Nat} {x:Bool} (hj:j<bs.length) (b:Nat):(bs.set j x).getD b false=if b=j then x else bs.getD b false:=by
 simp only[DH,List.getElem?_set];by_cases h:j=b
 .subst h;simp[hj]
 .rw[if_neg h,if_neg (fun e=>h e.symm)]
def NQ {i:Nat}: ∀(l:List Int) (bs:List Bool),(∀p∈l,0<=p/\p.toNat<bs.length/\p.toNat<i)-> ∀b,(FX bs i l).getD b false=(bs.getD b false||(bs.getD i false&&l.contains (b:Int)))
 | [],bs,_,b=>by simp[FX]
 | p ::r,bs,h,b=>by
   obtain⟨h1,h2,h3⟩:=h p (.head _);simp only[FX];have hi:i≠p.toNat:=by omega
   rw[NQ r _ (fun q hq=>by have:=h q (.tail _ hq);simpa using this),EB h2,EB h2,if_neg hi];by_cases hb:b=p.toNat
   .subst hb
    have:((p.toNat:Nat):Int)=p:=by omega
    simp only[if_true,this,List.contains_cons,beq_self_eq_true,Bool.true_or,Bool.and_true];cases bs.getD p.toNat false<;>cases bs.getD i false<;>simp
   .rw[if_neg hb]
    have:((b:Int)==p)=false:=by simp;omega
    simp only[List.contains_cons,this,Bool.false_or]
def VS {ps:List (List Int)} (ho:ordered ps) {n c:Nat} (hc:c<n): ∀k,k<=c - 2->(∀b,(HA ps n c k).getD b false=true->Jv ps c b=true)/\(HA ps n c k).getD c false=true/\
    (∀j p,c - k<j->(HA ps n c k).getD j false=true->p∈par ps j->(HA ps n c k).getD p.toNat false=true)
 | 0,_=>by
   have hg: ∀b,(HA ps n c 0).getD b false=decide (b=c):=fun b=>by
    simp only[HA];rw[EB (by simpa using hc)];by_cases h:b=c
    .simp[h]
    .rw[if_neg h]
     simp[h,DH,List.getElem?_replicate];split<;>rfl
   refine⟨fun b hb=>?_,by rw[hg];simp,fun j p hj hb hp=>?_⟩
   .rw[hg]at hb
    simp only[CN]at hb;subst hb;exact HN ho _
   .rw[hg]at hb
    simp only[CN]at hb;omega
 | k + 1,hk=>by
   obtain⟨h1,h2,h3⟩:=VS ho hc k (by omega)
   have hpar: ∀p∈par ps (c - k),0<=p/\p.toNat<(HA ps n c k).length/\p.toNat<c - k:=fun p hp=>by
    have:=ho _ p hp;rw[Ld];omega
   have hg: ∀b,(HA ps n c (k+1)).getD b false=((HA ps n c k).getD b false||((HA ps n c k).getD (c - k) false&&(par ps (c - k)).contains (b:Int))):=fun b=>by
    simp only[HA];exact NQ _ _ hpar b
   refine⟨fun b hb=>?_,by rw[hg,h2];rfl,fun j p hj hb hp=>?_⟩
   .rw[hg]at hb
    simp only[Fl,BD,List.contains_iff_mem]at hb;rcases hb with hb|⟨hb,hm⟩
    .exact h1 b hb
    .refine ND ho c (c - k) b (h1 _ hb) ?_
     rw[FD ho];simp only[Fl,J0];exact .inr ⟨b,hm,by simpa using HN ho b⟩
   .have hjp:=ho j p hp
    have hb':(HA ps n c k).getD j false=true:=by
     rw[hg]at hb;simp only[Fl,BD,List.contains_iff_mem]at hb;rcases hb with hb|⟨_,hm⟩
     .exact hb
     .have:=ho _ _ hm
      omega
    rw[hg];by_cases e:j=c - k
    .subst e
     rw[hb'];have:((p.toNat:Nat):Int)=p:=by omega
     simp only[this,G7,Fl,List.contains_iff_mem];exact .inr hp
    .rw[h3 j p (by omega) hb' hp]
     rfl
def Y8 {ps:List (List Int)} (ho:ordered ps) {n c:Nat} (hc:c<n) (b:Nat):(HA ps n c (c - 2)).getD b false=Jv ps c b:=by
 obtain⟨h1,h2,h3⟩:=VS ho hc (c - 2) (Io _)
 have key: ∀a,(HA ps n c (c - 2)).getD a false=true-> ∀b,Jv ps a b=true->(HA ps n c (c - 2)).getD b false=true:=by
  intro a
  induction a using Nat.strongRecOn with
  | _ a ih=>
    intro ha b hb;rw[FD ho]at hb;simp only[Fl,EU,J0]at hb;rcases hb with rfl|⟨p,hp,hb⟩
    .exact ha
    .have:=ho a p hp
     exact ih p.toNat (by omega) (h3 a p (by omega) ha hp) b hb
 cases hb:Jv ps c b with
 | true=>exact key c h2 b hb
 | false=>
   cases hq:(HA ps n c (c - 2)).getD b false with
   | false=>rfl
   | true=>rw[h1 b hq]at hb;cases hb
end Go.Gl
namespace Go.Gl
open Go.Proofs
attribute [local irreducible] A3 Aq Af AR AJ Ad AQ AT AK Ac AM AN Ax A5 Sat AX A4 Ah W
def pick (ls:List (List Int)):Option Int:=(ls.find? fun l=>match l with| []=>false|x::_=>free ls x).bind List.head?
def total (ls:List (List Int)):Nat:=(ls.map List.length).sum
def DB:Nat->List (List Int)->List Int->List Int×Bool
 | 0,ls,out=>(out,ls.all List.isEmpty)
 | n+1,ls,out=>match pick ls with
   | none=>(out,ls.all List.isEmpty)
   | some x=>DB n (ls.map fun l=>l.filter (· != x)) (out++[x])
def CE (ls:List (List Int)):List Int×Bool:=DB (total ls) ls []
def H8 {ls:List (List Int)} {x:Int} (h:pick ls=some x):total (ls.map fun l=>l.filter (· != x))<total ls:=by
 unfold pick at h;rw[Option.bind_eq_some_iff]at h;obtain⟨l,h1,h2⟩:=h;have hm:=List.mem_of_find?_eq_some h1;clear h1;cases l with
 | nil=>cases h2
 | cons y r=>
   simp only[List.head?_cons,Hl]at h2;subst h2
   have hle: ∀ls:List (List Int),total (ls.map fun l=>l.filter (· != y))<=total ls:=fun ls=>by
    induction ls with
    | nil=>simp[total]
    | cons a bs ih=>
      have:=Qs (· != y) a;simp only[total,Ex,List.sum_cons]at *;omega
   induction ls with
   | nil=>cases hm
   | cons a bs ih=>
     rcases Fm.1 hm with rfl|hm
     .have h1:=hle bs
      have h2:=Qs (· != y) r;simp only[total,Ex,List.sum_cons]at *;have:((y::r).filter (· != y)).length<=r.length:=by simpa using h2
      simp only[LF];omega
     .have h1:=ih hm
      have h2:=Qs (· != y) a;simp only[total,Ex,List.sum_cons]at *;omega
def Mj (ls:List (List Int)):Prop:=ls.length<=1000000/\ ∀l∈ls,l.length<=AY/\ ∀x∈l,0<=x
def Mj.filter {ls:List (List Int)} (h:Mj ls) (x:Int):Mj (ls.map fun l=>l.filter (· != x)):=by
 refine⟨by rw[BU];exact h.1,fun l hl=>?_⟩;obtain⟨l',hl',rfl⟩:=Mg.1 hl;obtain⟨h1,h2⟩:=h.2 l' hl';exact⟨Nat.le_trans (Qs _ _) h1,fun y hy=>h2 y (LH.1 hy).1⟩
def Dh (ls:List (List Int)) (k:Nat):Int:=((((ls.take k).find? fun l=>match l with| []=>false|x::_=>free ls x).bind List.head?).getD (-1))
def Wd : ∀ (n:Nat) (ls:List (List Int)) (out:List Int),total ls<=n->DB n ls out=DB (total ls) ls out:=by
 intro n
 induction n using Nat.strongRecOn with
 | _ n ih=>
   intro ls out hn;by_cases he:total ls=n
   .rw[he]
   .cases n with
    | zero=>omega
    | succ n=>
      cases hp:pick ls with
      | none=>
        cases ht:total ls with
        | zero=>simp[DB,hp]
        | succ m=>simp[DB,hp]
      | some x=>
        have h1:=H8 hp;cases ht:total ls with
        | zero=>omega
        | succ m=>
          simp only[DB,hp];rw[ih n (by omega) _ _ (by omega),ih m (by omega) _ _ (by omega)]
def N8 {ls:List (List Int)} {x:Int} {out:List Int} (hp:pick ls=some x):DB (total ls) ls out=DB (total (ls.map fun l=>l.filter (· != x))) (ls.map fun l=>l.filter (· != x)) (out++[x]):=by
 have h1:=H8 hp;cases ht:total ls with
 | zero=>omega
 | succ m=>
   simp only[DB,hp];exact Wd m _ _ (by omega)
def QO {ls:List (List Int)} {out:List Int} (hp:pick ls=none):DB (total ls) ls out=(out,ls.all List.isEmpty):=by
 cases ht:total ls with
 | zero=>rfl
 | succ m=>simp only[DB,hp]
def E8 (ls:List (List Int)) (l:List Int):Bool:=match l with| []=>false|x::_=>free ls x
def Hb (ls:List (List Int)) (k:Nat):Dh ls k=(((ls.take k).find? (E8 ls)).bind List.head?).getD (-1):=rfl
def IB {ls:List (List Int)} (hok:Mj ls) {k:Nat} (h:Dh ls k<0):(ls.take k).find? (E8 ls)=none:=by
 rw[Hb]at h;cases hf:(ls.take k).find? (E8 ls)with
 | none=>rfl
 | some l=>
   rw[hf]at h;have hm:=List.mem_of_mem_take (List.mem_of_find?_eq_some hf);have hg:=List.find?_some hf;cases l with
   | nil=>cases hg
   | cons x r=>
     have:=(hok.2 _ hm).2 x (.head _);simp at h;omega
def Wb {ls:List (List Int)} (hok:Mj ls) {k:Nat} (hk:k<ls.length) (h:Dh ls k<0):Dh ls (k+1)=if E8 ls ls[k]then(ls[k].head?).getD (-1)else -1:=by
 rw[Hb,List.take_succ_eq_append_getElem hk,List.find?_append,IB hok h];by_cases hg:E8 ls ls[k]=true
 .simp[hg]
 .simp[hg]
def QG {ls:List (List Int)} {k:Nat} (h:0<=Dh ls k):pick ls=some (Dh ls k):=by
 rw[Hb]at *;show((ls.find? (E8 ls)).bind List.head?)=_;cases hf:(ls.take k).find? (E8 ls)with
 | none=>rw[hf]at h;simp at h
 | some l=>
   have h1:ls.find? (E8 ls)=some l:=by
    have:=List.take_append_drop k ls;rw[<-this,List.find?_append,this,hf];rfl
   rw[h1];rw[hf]at h;cases l with
   | nil=>simp at h
   | cons x r=>simp
def JK {ls:List (List Int)} (hok:Mj ls) {k:Nat} {l:List Int} (hl:ls[k]? =some l) (h:Dh ls k<0):Dh ls (k+1)=if E8 ls l then(l.head?).getD (-1)else -1:=by
 obtain⟨hk,rfl⟩:=IN.1 hl;exact Wb hok hk h
def bI {ls:List (List Int)} {l:List Int} (h:l∈ls):l.length<=total ls:=by
 induction ls with
 | nil=>cases h
 | cons a r ih=>
   simp only[total,Ex,List.sum_cons]at *;rcases Fm.1 h with rfl|h
   .omega
   .have:=ih h;omega
def iW (ls:List (List Int)) (f:Bool) (hok:Mj ls) (ht:total ls<AY):Pure zP 290 [.l (Ee ls) f] (.t [.l (iL (CE ls).1) false,.b (CE ls).2]):=by
 have hM:=Mx;refine tW kZ ?_
 conv=>whnf
 repeat((first|(refine Dj ?_;intro K U)|(refine Ca ?_;intro KR KP hR hP)|(refine hR _ _ ?_;clear hP;clear KP;clear hR;clear KR)|refine Dm ?_|refine Fs ?_|(apply U;clear U K)|fail);conv=>whnf)
 refine Dz (fun(x:List (List Int)×Bool×V×List Int)=>total x.1) (fun x=>[(0,.l (Ee x.1) x.2.1),(4,x.2.2.1)]) (fun x=>[.own x.2.2.1 1 (iL x.2.2.2)])
  (fun x=>Mj x.1/\x.2.2.2.length+total x.1<=total ls/\DB (total x.1) x.1 x.2.2.2=CE ls) (ls,f,.l [] true,[]) rfl ⟨hok,by simp,rfl⟩ (El Sat.nil 1) ?_
 rintro⟨ls',f',v,out⟩ Z ⟨hok',hlen,hm⟩ hs;dsimp only at hok' hlen hm hs;have hlm:ls'.length<=AY:=by have:=hok'.1;omega
 conv=>whnf
 repeat((first|(refine Dj ?_;intro K U)|(refine Ca ?_;intro KR KP hR hP)|(refine hR _ _ ?_;clear hP;clear KP;clear hR;clear KR)|refine Dm ?_|refine Fs ?_|(apply U;clear U K)|fail);conv=>whnf)
 have hJ :=Rf U (fun(y:Int×Bool)=>[(5,.i .i64 y.1),(6,.b y.2)]) (fun _=>[.own v 1 (iL out)]) (fun y=>(0<=y.1/\pick ls'=some y.1)\/(y.1<0/\pick ls'=none/\y.2=ls'.any fun l=> !l.isEmpty))
  [(0,.l (Ee ls') f'),(4,v),(5,.pn),(6,.pn)] (by
  rintro⟨nx,lf⟩ Z hor hs;dsimp only at hor
  conv=>whnf
  repeat((first|refine⟨rfl,?_⟩|(refine Dj ?_;intro K U)|(refine Ca ?_;intro KR KP hR hP)|(refine hR _ _ ?_;clear hP;clear KP;clear hR;clear KR)|refine EE ?_|(apply U;clear U K)|fail);conv=>whnf)
  refine fork (fun hneg=>?_) (fun hneg=>?_)
  .conv=>whnf
   repeat((first|(refine Dj ?_;intro K U)|(refine Ca ?_;intro KR KP hR hP)|(refine hR _ _ ?_;clear hP;clear KP;clear hR;clear KR)|refine Km ?_|(apply U;clear U K)|(clear U K));conv=>whnf)
   rcases hor with⟨h0,_⟩|⟨_,hp,rfl⟩
   .omega
   .rw[QO hp]at hm
    refine Ap ?_;rw[<-hm];refine .t (.cons (hs.GW 0 rfl) (.cons ?_ .nil));have:(!ls'.any fun l=> !l.isEmpty)=ls'.all List.isEmpty:=by simp[List.all_eq_not_any_not]
    rw[<-this];exact .refl _
  .conv=>whnf
   repeat((first|(refine Dj ?_;intro K U)|(refine Ca ?_;intro KR KP hR hP)|refine Es ?_|(apply U;clear U K)|fail);conv=>whnf)
   rcases hor with⟨_,hp⟩|⟨h0,_⟩
   .have hlt:=H8 hp
    refine Fj hs 0 (x:=nx) rfl (by omega) BZ fun v' Z hs=>?_
    conv=>whnf
    repeat((first|(refine Dj ?_;intro K U)|(refine Ca ?_;intro KR KP hR hP)|(refine hR _ _ ?_;clear hP;clear KP;clear hR;clear KR)|refine Dm ?_|refine Fs ?_|(apply U;clear U K)|fail);conv=>whnf)
    refine B0 ls'.length (fun k u=>[(8,u),(9,eI (A8 k))]) (fun k u=>[.own v' 1 (iL (out++[nx])),.own u 1 (Ee ((ls'.take k).map fun l=>l.filter (· != nx)))]) (fun _ _=>True) (.l [] true) rfl trivial (El hs 1) ?_;rintro k u Z hk - hs
    conv=>whnf
    repeat((first|refine⟨rfl,?_⟩|refine J6 ?_|(refine Dj ?_;intro K U)|(refine Ca ?_;intro KR KP hR hP)|(refine hR _ _ ?_;clear hP;clear KP;clear hR;clear KR)|refine EE ?_|(apply U;clear U K)|fail);conv=>whnf)
    refine GD hk hlm (fun l hl hlt'=>?_) fun hk=>?_
    .conv=>whnf
     repeat((first|(refine Dj ?_;intro K U)|(refine Ca ?_;intro KR KP hR hP)|refine Es ?_|refine Dm ?_|(apply U;clear U K)|fail);conv=>whnf)
     refine I2 hl hlm rfl ?_
     conv=>whnf
     repeat((first|refine Ep ?_|fail);conv=>whnf)
     refine(P6 _ _ _ (hok'.2 _ (B1 hl)).1).use ?_
     conv=>whnf
     refine Fj hs 1 (x:=l.filter (· != nx)) rfl (by have:=hok'.1;simp;omega) C3 fun u' Z' hs'=>?_
     conv=>whnf
     repeat((first|refine⟨rfl,?_⟩|(refine Ca ?_;intro KR KP hR hP)|(refine hR _ _ ?_;clear hP;clear KP;clear hR;clear KR)|(apply U;clear U K)|(clear U K));conv=>whnf)
     refine⟨hlt',u',rfl,trivial,?_⟩;rw[AL hl,Uf];exact hs'
    .rw[Au hk]at hs
     conv=>whnf
     repeat((first|(refine Ca ?_;intro KR KP hR hP)|refine Ft ?_|(apply U;clear U K)|(clear U K));conv=>whnf)
     refine pq hs 1 rfl fun Z' hs'=>?_
     conv=>whnf
     repeat((first|(refine hR _ _ ?_;clear hP;clear KP;clear hR;clear KR)|fail);conv=>whnf)
     refine⟨(ls'.map fun l=>l.filter (· != nx),false,v',out++[nx]),hlt,rfl,⟨hok'.filter nx,by simp;omega,?_⟩,hs'⟩;rw[<-N8 hp];exact hm
   .omega)
 clear U
 .refine B0 ls'.length (fun k (_:Unit)=>[(5,.i .i64 (Dh ls' k)),(6,.b ((ls'.take k).any fun l=> !l.isEmpty)),(7,eI (A8 k))]) (fun _ _=>[.own v 1 (iL out)]) (fun _ _=>True) () rfl trivial hs ?_
  rintro k - Z hk - hs
  conv=>whnf
  repeat((first|refine⟨rfl,?_⟩|refine J6 ?_|(refine Dj ?_;intro K U)|(refine Ca ?_;intro KR KP hR hP)|fail);conv=>whnf)
  refine⟨fun h=>?_,fun h=>?_⟩<;>(try rw[h])
  .have hlt:=of_decide_eq_true h
   rw[AO (by have:=hok'.1;omega)]at hlt;have hlt:=fU hlt;have hl:=Cy hlt;have hb:=hok'.2 _ (List.getElem_mem hlt);generalize ls'[k]=l at *
   conv=>whnf
   repeat((first|refine⟨rfl,?_⟩|refine Kk ?_|(refine hR _ _ ?_;clear hP;clear KP;clear hR;clear KR)|refine EE ?_|(apply U;clear U K)|fail);conv=>whnf)
   refine fork (fun hneg=>?_) (fun hneg=>?_)
   .conv=>whnf
    repeat((first|(refine Dj ?_;intro K U)|(refine Ca ?_;intro KR KP hR hP)|refine Es ?_|refine Dm ?_|(apply U;clear U K)|fail);conv=>whnf)
    refine I2 hl hlm rfl ?_
    conv=>whnf
    repeat((first|refine⟨rfl,?_⟩|refine Ep ?_|refine J6 ?_|(refine hR _ _ ?_;clear hP;clear KP;clear hR;clear KR)|refine EE ?_|(apply U;clear U K)|fail);conv=>whnf)
    refine fork (fun hp=>?_) (fun hp=>?_)
    .simp only[BU]at hp
     obtain⟨x,r,rfl⟩: ∃x r,l=x::r:=by cases l with
      | nil=>simp at hp
      | cons x r=>exact⟨x,r,rfl⟩
     have hany:((ls'.take (k+1)).any fun l=> !l.isEmpty)=true:=by
      rw[AL hl];simp
     conv=>whnf
     repeat((first|(refine Dj ?_;intro K U)|(refine Ca ?_;intro KR KP hR hP)|(refine hR _ _ ?_;clear hP;clear KP;clear hR;clear KR)|(apply U;clear U K)|fail);conv=>whnf)
     refine I2 hl hlm rfl ?_
     conv=>whnf
     repeat((first|refine Ep ?_|fail);conv=>whnf)
     refine Uy 0 rfl rfl rfl ?_
     conv=>whnf
     repeat((first|refine Ep ?_|fail);conv=>whnf)
     refine(ml _ _ _ hlm fun l hl=>(hok'.2 l hl).1).use ?_
     conv=>whnf
     repeat((first|(refine hR _ _ ?_;clear hP;clear KP;clear hR;clear KR)|refine EE ?_|(apply U;clear U K)|fail);conv=>whnf)
     refine⟨fun hf=>?_,fun hf=>?_⟩
     .conv=>whnf
      repeat((first|(refine Ca ?_;intro KR KP hR hP)|fail);conv=>whnf)
      refine I2 hl hlm rfl ?_
      conv=>whnf
      repeat((first|refine Ep ?_|fail);conv=>whnf)
      refine Uy 0 rfl rfl rfl ?_
      conv=>whnf
      repeat((first|refine⟨rfl,?_⟩|refine Ep ?_|(refine Ca ?_;intro KR KP hR hP)|(refine hR _ _ ?_;clear hP;clear KP;clear hR;clear KR)|(apply U;clear U K)|fail);conv=>whnf)
      refine⟨hlt,(),?_,trivial,hs⟩;have:Dh ls' (k+1)=x:=by rw[JK hok' hl hneg];simp[E8,hf]
      dsimp only;rw[this,hany];rfl
     .conv=>whnf
      repeat((first|refine⟨rfl,?_⟩|(refine Ca ?_;intro KR KP hR hP)|(refine hR _ _ ?_;clear hP;clear KP;clear hR;clear KR)|refine Es ?_|(apply U;clear U K)|fail);conv=>whnf)
      refine⟨hlt,(),?_,trivial,hs⟩;have:Dh ls' (k+1)=Dh ls' k:=by rw[JK hok' hl hneg,Hb ls' k,IB hok' hneg];simp[E8,hf]
      dsimp only;rw[this,hany];rfl
    .simp only[BU]at hp
     obtain rfl:l= []:=Yh.1 (by omega)
     conv=>whnf
     repeat((first|refine⟨rfl,?_⟩|(refine Ca ?_;intro KR KP hR hP)|(refine hR _ _ ?_;clear hP;clear KP;clear hR;clear KR)|refine Es ?_|(apply U;clear U K)|fail);conv=>whnf)
     refine⟨hlt,(),?_,trivial,hs⟩;have:Dh ls' (k+1)=Dh ls' k:=by rw[JK hok' hl hneg,Hb ls' k,IB hok' hneg];simp[E8]
     have hany:((ls'.take (k+1)).any fun l=> !l.isEmpty)=((ls'.take k).any fun l=> !l.isEmpty):=by
      rw[AL hl,List.any_append];simp
     dsimp only;rw[this,hany];rfl
   .conv=>whnf
    repeat((first|refine Ft ?_|(clear U K));conv=>whnf)
    refine hJ (Dh ls' k,(ls'.take k).any fun l=> !l.isEmpty) _ _ rfl (.inl ⟨by omega,?_⟩) hs;exact QG (by omega)
  .have hlt:=of_decide_eq_false h
   rw[AO (by have:=hok'.1;omega)]at hlt;have hke:=Zx hk hlt
   conv=>whnf
   repeat((first|refine Kl ?_|(refine hR _ _ ?_;clear hP;clear KP;clear hR;clear KR)|refine EE ?_|refine Ft ?_|(apply U;clear U K)|(clear U K));conv=>whnf)
   refine hJ (Dh ls' k,(ls'.take k).any fun l=> !l.isEmpty) _ _ rfl ?_ hs;rw[Au hke];by_cases h0:0<=Dh ls' k
   .exact .inl ⟨h0,QG h0⟩
   .refine .inr ⟨by omega,?_,rfl⟩
    have:=IB hok' (k:=k) (by omega);rw[Au hke]at this;show((ls'.find? (E8 ls')).bind List.head?)=none;rw[this];rfl
end Go.Gl
