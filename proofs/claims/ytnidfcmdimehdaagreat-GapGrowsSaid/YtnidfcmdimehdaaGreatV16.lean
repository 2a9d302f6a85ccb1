import Derived.Test.YtnidfcmdimehdaaGreatV14
import Derived.Test.YtnidfcmdimehdaaGreatV15
set_option linter.all false
set_option linter.defProp false
set_option maxHeartbeats 8000000
noncomputable section
namespace Go.Gl
open Go.Proofs
attribute [local irreducible] Av An Af AQ AL Ac AP AS AK Ab AN AO As A3 Sat AV A0 Ag W
def CD (op:Int):Nat:=if op=5 then 1 else if op=6\/op=7 then 2 else 0
def U9 (w:AG) (f:Fact):Bool:=
 if f.op=2 then f.n==0&&Pw w f.cls else if f.op=3\/f.op=4 then f.cls==0&&(decide (-1000000000<=f.n)&&decide (f.n<=1000000000))else f.op==1||f.op==5||f.op==6||f.op==7
def DB (w:AG) (f:Fact):Bool:=
 U9 w f&&(f.kids.length==CD f.op&&(decide (0<=f.arg)&&(decide (f.arg<3)&&(Ez w f.path&&(B4 f||(f.arg==0&&(f.path.length==0&&(f.cls==0&&f.n==0))))))))
def A6 (w:AG) (f:Fact):Bool:=f.Hm fun f l=>DB w f&&l.all id
def CA (w:AG) (f:Fact):A6 w f=(DB w f&&f.kids.all (A6 w)):=by rw[A6,Fact.Dn,List.all_map];rfl
def QR {w:AG} {f:Fact} (h:DB w f=false):A6 w f=false:=by rw[CA,h,Bool.false_and]
def z6 {f:Fact} (h1:B4 f=false) (h2:f.arg=0) (h3:(f.path.length:Int) > 0):true= !(B4 f||(f.arg==0&&(f.path.length==0&&(f.cls==0&&f.n==0)))):=by
 have:(f.path.length==0)=false:=by simp;intro e;rw[e]at h3;simp at h3
 rw[this,h1,h2];rfl
def nt (w : AG) (f:Fact):Pure zP 165 [.a (BL w),.a (xF f)] (.b (A6 w f)):=by
 induction f using Fact.ind with
 | h f ih=>
   refine Pure.fit (by kernel_rfl) fun hf=>?_
   have⟨h2,h3,h4⟩:=SH hf.2.1;have⟨w1,w2,w3⟩:=Vo hf.1;have hM:=Mx;refine wK kZ ?_
   conv=>whnf
   repeat'((first|apply st|(apply sq;intro K U)|(apply si;intro A B hA hB)|(refine hA _ _ ?_;clear hB B hA A)|(apply U;clear U K)|refine⟨rfl,?_⟩|fail)<;>conv=>whnf)
   have hJ :=SG U (fun(_:Unit)=>[(5,eI (CD f.op))]) (fun _=>[]) (fun _=>U9 w f=true) [(2,.rp (BL w)),(3,.rp (xF f)),(5,eI 0)] (by
    clear U;rintro - Z ho -
    conv=>whnf
    repeat'((first|apply st|(apply sq;intro K U)|(apply si;intro A B hA hB)|refine⟨rfl,?_⟩|fail)<;>conv=>whnf)
    have hJ :=SG U (fun(b:Bool)=>[(66,.b b)]) (fun _=>[]) (fun b=>b= !(f.kids.length==CD f.op&&(decide (0<=f.arg)&&(decide (f.arg<3)&&Ez w f.path)))) [(2,.rp (BL w)),(3,.rp (xF f)),(66,.b false)] (by
     clear U;rintro b Z hb -
     conv=>whnf
     repeat'((first|apply st|fail)<;>conv=>whnf)
     have hJ :=SG U (fun(_:Unit)=>[]) (fun _=>[]) (fun _=>b=false) [(2,.rp (BL w)),(3,.rp (xF f))] (by
      clear U;rintro - Z hb' -;rw[hb']at hb
      conv=>whnf
      repeat'((first|apply st|(apply sq;intro K U)|(apply si;intro A B hA hB)|refine⟨kZ,?_⟩|refine Pure.use (aO _) ?_|fail)<;>conv=>whnf)
      have hJ:=SG U (fun(b:Bool)=>[(90,.b b)]) (fun _=>[]) (fun b=>b= !(B4 f||(f.arg==0&&(f.path.length==0&&(f.cls==0&&f.n==0))))) [(2,.rp (BL w)),(3,.rp (xF f)),(90,.b false)] (by
       clear U;rintro b Z hb2 -
       conv=>whnf
       repeat'((first|apply st|fail)<;>conv=>whnf)
       have hJ:=SG U (fun(_:Unit)=>[]) (fun _=>[]) (fun _=>b=false) [(2,.rp (BL w)),(3,.rp (xF f))] (by
        clear U;rintro - Z hb' -;rw[hb']at hb2
        have hh:DB w f=true:=by
         have hb:(f.kids.length==CD f.op&&(decide (0<=f.arg)&&(decide (f.arg<3)&&Ez w f.path)))=true:=by rw[<-Bool.not_eq_false',<-hb]
         have hb2:(B4 f||(f.arg==0&&(f.path.length==0&&(f.cls==0&&f.n==0))))=true:=by rw[<-Bool.not_eq_false',<-hb2]
         simp only[A4]at hb;simp only[DB,ho,hb.1,hb.2,hb2,Bool.and_self]
        conv=>whnf
        repeat'((first|apply st|(apply sq;intro K U)|(apply si;intro A B hA hB)|(refine hA _ _ ?_;clear hB B hA A)|(apply U;clear U K)|fail)<;>conv=>whnf)
        refine Cn f.kids.length (fun k (_:Unit)=>[(94,eI (BR k))]) (fun _ _=>[]) (fun k _=>A6 w f=(f.kids.drop k).all (A6 w)) () rfl (by rw[CA,hh];rfl) Sat.nil ?_;rintro k - Z hk hn hs
        conv=>whnf
        repeat'((first|apply st|(apply sq;intro K U)|(apply si;intro A B hA hB)|(refine hA _ _ ?_;clear hB B hA A)|(apply U;clear U K)|refine⟨rfl,?_⟩|refine⟨kZ,?_⟩|refine ixF ?_|refine ld ?_|refine sn fun Z hs=>?_|(refine fc (fun x hx hlt hc=>?_) (fun hk hc=>?_)<;>(try rw[hc])<;>clear hc)|(intro nn hnn;generalize hg:Bu _ nn _=Z;refine al hg fun hs=>?_;clear hg)|clear U K)<;>conv=>whnf)
        .have hxm:=Cm hx
         refine(ih x hxm).use ?_
         conv=>whnf
         repeat'((first|apply st|(apply sq;intro K U)|(apply si;intro A B hA hB)|(refine hA _ _ ?_;clear hB B hA A)|(apply U;clear U K)|refine⟨rfl,?_⟩|(constructor<;>intro hc<;>(try rw[hc])<;>(replace hc:=bp hc))|clear U K)<;>conv=>whnf)
         .exact AJ (by rw[hn,drop_cons hx];simp[hc])
         .exact⟨hlt,(),rfl,by rw[hn,drop_cons hx];simp[hc],Sat.nil⟩
        .exact AJ (by rw[hn,Au hk];rfl))
       clear U
       conv=>whnf
       repeat'((first|apply st|(apply sq;intro K U)|(apply si;intro A B hA hB)|(refine hA _ _ ?_;clear hB B hA A)|(apply U;clear U K)|(constructor<;>intro hc<;>(try rw[hc])<;>(replace hc:=bp hc))|fail)<;>conv=>whnf)
       .have hx:(B4 f||(f.arg==0&&(f.path.length==0&&(f.cls==0&&f.n==0))))=false:=by rw[<-Bool.not_eq_true',<-hb2,hc]
        exact AJ (by rw[QR];simp only[DB,hx,Bool.and_false])
       .exact hJ () _ _ rfl hc Sat.nil)
      clear U;clear hb
      conv=>whnf
      repeat'((first|apply st|(refine hA _ _ ?_;clear hB B hA A)|refine⟨rfl,?_⟩|(constructor<;>intro hc<;>(try rw[hc])<;>(replace hc:=bp hc)<;>(try simp(disch:=omega) only[CW,wrap64,Ae]at hc))|fail)<;>conv=>whnf)
      .have hp:f.path.length=0:=by omega
       exact hJ _ _ _ rfl (by rw[hp];simp[*,bne]) Sat.nil
      .exact hJ true _ _ rfl (by simp[*]) Sat.nil
      .exact hJ true _ _ rfl (z6 (by assumption) (by assumption) hc) Sat.nil
      .exact hJ true _ _ rfl (by simp[*]) Sat.nil
      .exact hJ false _ _ rfl (by simp[*]) Sat.nil)
     clear U
     conv=>whnf
     repeat'((first|apply st|(apply sq;intro K U)|(apply si;intro A B hA hB)|(refine hA _ _ ?_;clear hB B hA A)|(apply U;clear U K)|(constructor<;>intro hc<;>(try rw[hc])<;>(replace hc:=bp hc))|fail)<;>conv=>whnf)
     .have hx:(f.kids.length==CD f.op&&(decide (0<=f.arg)&&(decide (f.arg<3)&&Ez w f.path)))=false:=by rw[<-Bool.not_eq_true',<-hb,hc]
      exact AJ (by rw[QR];simp only[DB];simp only[Bool.and_eq_false_iff]at hx ⊢;rcases hx with h|h|h|h<;>simp[h])
     .exact hJ () _ _ rfl hc Sat.nil)
    clear U
    conv=>whnf
    repeat'((first|apply st|(refine hA _ _ ?_;clear hB B hA A)|refine⟨rfl,?_⟩|refine⟨kZ,?_⟩|refine Pure.use (nX _ _ _) ?_|(constructor<;>intro hc<;>(try rw[hc])<;>(replace hc:=bp hc)<;>(try simp(disch:=omega) only[CW,wrap64,Ae]at hc))|fail)<;>conv=>whnf)
    all_goals exact hJ _ _ _ rfl (by simp[*]<;>omega) Sat.nil)
   clear U
   conv=>whnf
   repeat'((first|apply st|(apply sq;intro K U)|(apply si;intro A B hA hB)|(refine hA _ _ ?_;clear hB B hA A)|(apply U;clear U K)|refine⟨rfl,?_⟩|refine⟨kZ,?_⟩|refine Pure.use (lR _ _) ?_|(constructor<;>intro hc<;>(try rw[hc])<;>(replace hc:=bp hc))|fail)<;>conv=>whnf)
   all_goals first
    | exact AJ (by rw[QR];simp only[DB,U9];simp[*]<;>omega)
    | exact hJ () _ _ (by simp[CD, *];rfl) (by simp[U9, *]<;>omega) Sat.nil
def oU (xs:List Int) (f:Bool) (x:Int):Pure zP 210 [.l (iL xs) f,eI x] (.b (xs.contains x)):=Pure.fit (by kernel_rfl) fun hf=>iH xs f x (Vp hf.1)
def DL (w:AG) (f:Fact):Bool:=decide (Ca f 24<=24)&&(decide (EM f<=12)&&A6 w f)
def k9 (w:AG) (f:Fact):Pure zP 102 [.a (BL w),.a (xF f)] (.b (DL w f)):=by
 refine xH kZ ?_
 conv=>whnf
 repeat'((first|clear U K|apply st|(apply zk;intro K U)|refine zn ?_|refine Pure.use (kH _) ?_|refine za (fun hc=>?_) fun hc=>?_|fail)<;>conv=>whnf)
 .have:=Lf f 24 (by omega) hc
  refine(lK f (by simp only[Ad];omega)).use ?_
  conv=>whnf
  repeat'((first|clear U K|apply st|refine zn ?_|refine Pure.use (nt _ _) ?_|refine za (fun hc=>?_) fun hc=>?_|fail)<;>conv=>whnf)
  .exact AJ (by simp[DL,hc,‹Ca f 24<=24›])
  .exact AJ (by simp[DL, *];intros;omega)
 .exact AJ (by simp[DL];intros;omega)
def rT (i:Nat) (pre:List Int) (c:Int):Bool:=decide (3<=c)&&(decide (c<3+i)&& !pre.contains c)
def NY (i:Nat):List Int->List Int->Bool
 | _,[]=>true
 | pre,c::r=>rT i pre c&&NY i (pre++[c]) r
def I1:Nat->List (List Int)->Bool
 | _,[]=>true
 | i,l::r=>decide (l.length<=3)&&(NY i [] l&&I1 (i+1) r)
def Dy (g:List (List Int)):Bool:=decide (g.length<=16)&&I1 0 g
def YT {ls:List (List Int)} {g:Bool} (h:FF (.l (Es ls) g)):ls.length<=Ad/\ ∀l∈ls,l.length<=Ad:=by
 simp only[IZ,CW,Jr,Eo]at h;exact⟨h.1,fun l hl=>(h.2 l hl).1.1⟩
def oe (g:List (List Int)) (f:Bool):Pure zP 159 [.l (Es g) f] (.b (Dy g)):=by
 refine Pure.fit (by kernel_rfl) fun hf=>?_
 have⟨g1,g2⟩:=YT hf.1;have hM:=Mx;refine wQ kZ ?_
 conv=>whnf
 repeat'((first|clear U K|apply st|(apply zk;intro K U)|refine zn ?_|(refine zd (fun hc=>?_) (fun hc=>?_)<;>try exact⟨⟩)|fail)<;>conv=>whnf)
 .exact AJ (by simp[Dy];intros;omega)
 .refine Cn g.length (fun k (_:Unit)=>[(3,eI (BR k))]) (fun _ _=>[]) (fun k _=>Dy g=I1 k (g.drop k)) () rfl (by simp[Dy];omega) Sat.nil ?_
  rintro k - Z hk hn hs
  conv=>whnf
  repeat'((first|clear U K|apply st|(apply zk;intro K U)|refine zn ?_|(refine fc (fun x hx hlt hc=>?_) (fun hk hc=>?_)<;>(try rw[hc])<;>clear hc)|(refine zd (fun hc=>?_) (fun hc=>?_)<;>try exact⟨⟩)|fail)<;>conv=>whnf)
  .exact AJ (by rw[hn,drop_cons hx,I1];simp;intros;omega)
  .revert x
   rintro l hl hl3;have hll:=g2 l (Cm hl);have hn':Dy g=(NY k [] l&&I1 (k+1) (g.drop (k+1))):=by rw[hn,drop_cons hl,I1];simp;intros;omega
   refine Cn l.length (fun j (_:Unit)=>[(4,eI (BR j))]) (fun _ _=>[]) (fun j _=>Dy g=(NY k (l.take j) (l.drop j)&&I1 (k+1) (g.drop (k+1)))) () rfl (by rw[hn'];rfl) Sat.nil ?_;rintro j - Z hj hm hs
   conv=>whnf
   repeat'((first|clear U K|apply st|(apply zk;intro K U)|refine zn ?_|(refine fc (fun x hx hlt hc=>?_) (fun hk hc=>?_)<;>(try rw[hc])<;>clear hc)|refine Pure.use (oU _ _ _) ?_|(refine zd (fun hc=>?_) (fun hc=>?_)<;>try exact⟨⟩)|fail)<;>conv=>whnf)
   .exact AJ (by rw[hm,drop_cons hx,NY,rT,hc];simp)
   .refine⟨hlt,(),rfl,?_,Sat.nil⟩
    rw[hm,drop_cons hx,NY,rT,hc,AU hx];simp[*]
   .exact AJ (by rw[hm,drop_cons hx,NY,rT];simp;intros;omega)
   .exact AJ (by rw[hm,drop_cons hx,NY,rT];simp;intros;omega)
   .refine⟨by assumption,(),rfl,?_,Sat.nil⟩
    rw[hm,Au hk,NY,Du]
  .exact AJ (by rw[hn,Au hk];rfl)
end Go.Gl
namespace Go.Gl
def par (ps:List (List Int)) (c:Nat):List Int:=if c<3 then []else ps.getD (c - 3) []
def ordered (ps:List (List Int)):Prop:= ∀c p,p∈par ps c->3<=p/\p<(c:Int)
def fE (ps:List (List Int)):Nat->Nat->Nat->Bool
 | 0,c,b=>c==b
 | f+1,c,b=>c==b||(par ps c).any fun p=>fE ps f p.toNat b
def GA (ps:List (List Int)) (c b:Nat):Bool:=fE ps c c b
def LX {ps:List (List Int)} (ho:ordered ps): ∀(f c b:Nat),c<=f->fE ps f c b=GA ps c b
 | 0,c,b,h=>by(obtain rfl:c=0:=by omega);rfl
 | f + 1,c,b,h=>by
   cases c with
   | zero=>
     have:par ps 0= []:=rfl;simp[GA,fE,this]
   | succ c=>
     simp only[GA,fE];congr 1
     have key: ∀l:List Int,(∀p∈l,p∈par ps (c+1))->(l.any fun p=>fE ps f p.toNat b)=l.any fun p=>fE ps c p.toNat b:=by
      intro l hl
      induction l with
      | nil=>rfl
      | cons p r ih=>
        have hp:=ho (c+1) p (hl p (.head _));simp only[Rj];rw[ih fun q hq=>hl q (.tail _ hq),LX ho f p.toNat b (by omega),LX ho c p.toNat b (by omega)]
     exact key _ fun p hp=>hp
def D0 {ps:List (List Int)} (ho:ordered ps) (c b:Nat):GA ps c b=(c==b||(par ps c).any fun p=>GA ps p.toNat b):=by
 cases c with
 | zero=>simp[GA,fE,par]
 | succ c=>
   simp only[GA,fE];congr 1
   have key: ∀l:List Int,(∀p∈l,p∈par ps (c+1))->(l.any fun p=>fE ps c p.toNat b)=l.any fun p=>fE ps p.toNat p.toNat b:=by
    intro l hl
    induction l with
    | nil=>rfl
    | cons p r ih=>
      have hp:=ho (c+1) p (hl p (.head _));simp only[Rj];rw[ih fun q hq=>hl q (.tail _ hq),LX ho c p.toNat b (by omega)];rfl
   exact key _ fun p hp=>hp
def ET {ps:List (List Int)} (ho:ordered ps) (c:Nat):GA ps c c=true:=by rw[D0 ho];simp
def gY {ps:List (List Int)} (ho:ordered ps): ∀(c b:Nat),GA ps c b=true->b<=c:=by
 intro c
 induction c using Nat.strongRecOn with
 | _ c ih=>
   intro b h;rw[D0 ho]at h;simp only[EP,C1,Gx]at h;rcases h with rfl|⟨p,hp,h⟩
   .omega
   .have:=ho c p hp
    have:=ih p.toNat (by omega) b h;omega
def IB {ps:List (List Int)} (ho:ordered ps): ∀(a b c:Nat),GA ps a b=true->GA ps b c=true->GA ps a c=true:=by
 intro a
 induction a using Nat.strongRecOn with
 | _ a ih=>
   intro b c h k;rw[D0 ho]at h ⊢;simp only[EP,C1,Gx]at h ⊢;rcases h with rfl|⟨p,hp,h⟩
   .rw[D0 ho]at k
    simpa using k
   .have:=ho a p hp
    exact .inr ⟨p,hp,ih p.toNat (by omega) b c h k⟩
def Fk (bs:List Bool) (i:Nat):List Int->List Bool
 | []=>bs
 | p::r=>Fk (bs.set p.toNat (bs.getD p.toNat false||bs.getD i false)) i r
def M9 (i:Nat): ∀(a b:List Int) (bs:List Bool),Fk bs i (a++b)=Fk (Fk bs i a) i b
 | [],b,bs=>rfl
 | p::r,b,bs=>by simp only[List.cons_append,Fk];exact M9 i r b _
def OB (i:Nat): ∀(l:List Int) (bs:List Bool),(Fk bs i l).length=bs.length
 | [],bs=>rfl
 | p::r,bs=>by simp only[Fk];rw[OB i r];simp
def Hf (ps:List (List Int)) (n c:Nat):Nat->List Bool
 | 0=>(List.replicate n false).set c true
 | k+1=>Fk (Hf ps n c k) (c - k) (par ps (c - k))
def ME (ps:List (List Int)) (n c:Nat): ∀k,(Hf ps n c k).length=n
 | 0=>by simp[Hf]
 | k+1=>by simp only[Hf];rw[OB,ME ps n c k]
def E9 {bs:List Bool} {j:Nat} {x:Bool} (hj:j<bs.length) (b:Nat):(bs.set j x).getD b false=if b=j then x else bs.getD b false:=by
 simp only[DK,List.getElem?_set];by_cases h:j=b
 .subst h;simp[hj]
 .rw[if_neg h,if_neg (fun e=>h e.symm)]
def OC {i:Nat}: ∀(l:List Int) (bs:List Bool),(∀p∈l,0<=p/\p.toNat<bs.length/\p.toNat<i)-> ∀b,(Fk bs i l).getD b false=(bs.getD b false||(bs.getD i false&&l.contains (b:Int)))
 | [],bs,_,b=>by simp[Fk]
 | p ::r,bs,h,b=>by
   obtain⟨h1,h2,h3⟩:=h p (.head _);simp only[Fk];have hi:i≠p.toNat:=by omega
   rw[OC r _ (fun q hq=>by have:=h q (.tail _ hq);simpa using this),E9 h2,E9 h2,if_neg hi];by_cases hb:b=p.toNat
   .subst hb
    have:((p.toNat:Nat):Int)=p:=by omega
    simp only[if_true,this,List.contains_cons,beq_self_eq_true,Bool.true_or,Bool.and_true];cases bs.getD p.toNat false<;>cases bs.getD i false<;>simp
   .rw[if_neg hb]
    have:((b:Int)==p)=false:=by simp;omega
    simp only[List.contains_cons,this,Bool.false_or]
def WE {ps:List (List Int)} (ho:ordered ps) {n c:Nat} (hc:c<n): ∀k,k<=c - 2->(∀b,(Hf ps n c k).getD b false=true->GA ps c b=true)/\(Hf ps n c k).getD c false=true/\
    (∀j p,c - k<j->(Hf ps n c k).getD j false=true->p∈par ps j->(Hf ps n c k).getD p.toNat false=true)
 | 0,_=>by
   have hg: ∀b,(Hf ps n c 0).getD b false=decide (b=c):=fun b=>by
    simp only[Hf];rw[E9 (by simpa using hc)];by_cases h:b=c
    .simp[h]
    .rw[if_neg h]
     simp[h,DK,List.getElem?_replicate];split<;>rfl
   refine⟨fun b hb=>?_,by rw[hg];simp,fun j p hj hb hp=>?_⟩
   .rw[hg]at hb
    simp only[Cp]at hb;subst hb;exact ET ho _
   .rw[hg]at hb
    simp only[Cp]at hb;omega
 | k + 1,hk=>by
   obtain⟨h1,h2,h3⟩:=WE ho hc k (by omega)
   have hpar: ∀p∈par ps (c - k),0<=p/\p.toNat<(Hf ps n c k).length/\p.toNat<c - k:=fun p hp=>by
    have:=ho _ p hp;rw[ME];omega
   have hg: ∀b,(Hf ps n c (k+1)).getD b false=((Hf ps n c k).getD b false||((Hf ps n c k).getD (c - k) false&&(par ps (c - k)).contains (b:Int))):=fun b=>by
    simp only[Hf];exact OC _ _ hpar b
   refine⟨fun b hb=>?_,by rw[hg,h2];rfl,fun j p hj hb hp=>?_⟩
   .rw[hg]at hb
    simp only[EP,A4,List.contains_iff_mem]at hb;rcases hb with hb|⟨hb,hm⟩
    .exact h1 b hb
    .refine IB ho c (c - k) b (h1 _ hb) ?_
     rw[D0 ho];simp only[EP,Gx];exact .inr ⟨b,hm,by simpa using ET ho b⟩
   .have hjp:=ho j p hp
    have hb':(Hf ps n c k).getD j false=true:=by
     rw[hg]at hb;simp only[EP,A4,List.contains_iff_mem]at hb;rcases hb with hb|⟨_,hm⟩
     .exact hb
     .have:=ho _ _ hm
      omega
    rw[hg];by_cases e:j=c - k
    .subst e
     rw[hb'];have:((p.toNat:Nat):Int)=p:=by omega
     simp only[this,Du,EP,List.contains_iff_mem];exact .inr hp
    .rw[h3 j p (by omega) hb' hp]
     rfl
def Zt {ps:List (List Int)} (ho:ordered ps) {n c:Nat} (hc:c<n) (b:Nat):(Hf ps n c (c - 2)).getD b false=GA ps c b:=by
 obtain⟨h1,h2,h3⟩:=WE ho hc (c - 2) (IS _)
 have key: ∀a,(Hf ps n c (c - 2)).getD a false=true-> ∀b,GA ps a b=true->(Hf ps n c (c - 2)).getD b false=true:=by
  intro a
  induction a using Nat.strongRecOn with
  | _ a ih=>
    intro ha b hb;rw[D0 ho]at hb;simp only[EP,C1,Gx]at hb;rcases hb with rfl|⟨p,hp,hb⟩
    .exact ha
    .have:=ho a p hp
     exact ih p.toNat (by omega) (h3 a p (by omega) ha hp) b hb
 cases hb:GA ps c b with
 | true=>exact key c h2 b hb
 | false=>
   cases hq:(Hf ps n c (c - 2)).getD b false with
   | false=>rfl
   | true=>rw[h1 b hq]at hb;cases hb
end Go.Gl
namespace Go.Gl
open Go.Proofs
attribute [local irreducible] Av An Af AQ AL Ac AP AS AK Ab AN AO As A3 Sat AV A0 Ag W
def pick (ls:List (List Int)):Option Int:=(ls.find? fun l=>match l with| []=>false|x::_=>free ls x).bind List.head?
def total (ls:List (List Int)):Nat:=(ls.map List.length).sum
def DM:Nat->List (List Int)->List Int->List Int×Bool
 | 0,ls,out=>(out,ls.all List.isEmpty)
 | n+1,ls,out=>match pick ls with
   | none=>(out,ls.all List.isEmpty)
   | some x=>DM n (ls.map fun l=>l.filter (· != x)) (out++[x])
def CL (ls:List (List Int)):List Int×Bool:=DM (total ls) ls []
def Il {ls:List (List Int)} {x:Int} (h:pick ls=some x):total (ls.map fun l=>l.filter (· != x))<total ls:=by
 unfold pick at h;rw[Option.bind_eq_some_iff]at h;obtain⟨l,h1,h2⟩:=h;have hm:=List.mem_of_find?_eq_some h1;clear h1;cases l with
 | nil=>cases h2
 | cons y r=>
   simp only[List.head?_cons,Iy]at h2;subst h2
   have hle: ∀ls:List (List Int),total (ls.map fun l=>l.filter (· != y))<=total ls:=fun ls=>by
    induction ls with
    | nil=>simp[total]
    | cons a bs ih=>
      have:=Xv (· != y) a;simp only[total,EZ,List.sum_cons]at *;omega
   induction ls with
   | nil=>cases hm
   | cons a bs ih=>
     rcases Fg.1 hm with rfl|hm
     .have h1:=hle bs
      have h2:=Xv (· != y) r;simp only[total,EZ,List.sum_cons]at *;have:((y::r).filter (· != y)).length<=r.length:=by simpa using h2
      simp only[NM];omega
     .have h1:=ih hm
      have h2:=Xv (· != y) a;simp only[total,EZ,List.sum_cons]at *;omega
def NU (ls:List (List Int)):Prop:=ls.length<=1000000/\ ∀l∈ls,l.length<=Ad/\ ∀x∈l,0<=x
def NU.filter {ls:List (List Int)} (h:NU ls) (x:Int):NU (ls.map fun l=>l.filter (· != x)):=by
 refine⟨by rw[CW];exact h.1,fun l hl=>?_⟩;obtain⟨l',hl',rfl⟩:=Hc.1 hl;obtain⟨h1,h2⟩:=h.2 l' hl';exact⟨Nat.le_trans (Xv _ _) h1,fun y hy=>h2 y (Kj.1 hy).1⟩
def D2 (ls:List (List Int)) (k:Nat):Int:=((((ls.take k).find? fun l=>match l with| []=>false|x::_=>free ls x).bind List.head?).getD (-1))
def XZ : ∀ (n:Nat) (ls:List (List Int)) (out:List Int),total ls<=n->DM n ls out=DM (total ls) ls out:=by
 intro n
 induction n using Nat.strongRecOn with
 | _ n ih=>
   intro ls out hn;by_cases he:total ls=n
   .rw[he]
   .cases n with
    | zero=>omega
    | succ n=>
      cases hp:pick ls with
      | none=>
        cases ht:total ls with
        | zero=>simp[DM,hp]
        | succ m=>simp[DM,hp]
      | some x=>
        have h1:=Il hp;cases ht:total ls with
        | zero=>omega
        | succ m=>
          simp only[DM,hp];rw[ih n (by omega) _ _ (by omega),ih m (by omega) _ _ (by omega)]
def Oo {ls:List (List Int)} {x:Int} {out:List Int} (hp:pick ls=some x):DM (total ls) ls out=DM (total (ls.map fun l=>l.filter (· != x))) (ls.map fun l=>l.filter (· != x)) (out++[x]):=by
 have h1:=Il hp;cases ht:total ls with
 | zero=>omega
 | succ m=>
   simp only[DM,hp];exact XZ m _ _ (by omega)
def Q5 {ls:List (List Int)} {out:List Int} (hp:pick ls=none):DM (total ls) ls out=(out,ls.all List.isEmpty):=by
 cases ht:total ls with
 | zero=>rfl
 | succ m=>simp only[DM,hp]
def FJ (ls:List (List Int)) (l:List Int):Bool:=match l with| []=>false|x::_=>free ls x
def IG (ls:List (List Int)) (k:Nat):D2 ls k=(((ls.take k).find? (FJ ls)).bind List.head?).getD (-1):=rfl
def Im {ls:List (List Int)} (hok:NU ls) {k:Nat} (h:D2 ls k<0):(ls.take k).find? (FJ ls)=none:=by
 rw[IG]at h;cases hf:(ls.take k).find? (FJ ls)with
 | none=>rfl
 | some l=>
   rw[hf]at h;have hm:=List.mem_of_mem_take (List.mem_of_find?_eq_some hf);have hg:=List.find?_some hf;cases l with
   | nil=>cases hg
   | cons x r=>
     have:=(hok.2 _ hm).2 x (.head _);simp at h;omega
def XX {ls:List (List Int)} (hok:NU ls) {k:Nat} (hk:k<ls.length) (h:D2 ls k<0):D2 ls (k+1)=if FJ ls ls[k]then(ls[k].head?).getD (-1)else -1:=by
 rw[IG,List.take_succ_eq_append_getElem hk,List.find?_append,Im hok h];by_cases hg:FJ ls ls[k]=true
 .simp[hg]
 .simp[hg]
def Qy {ls:List (List Int)} {k:Nat} (h:0<=D2 ls k):pick ls=some (D2 ls k):=by
 rw[IG]at *;show((ls.find? (FJ ls)).bind List.head?)=_;cases hf:(ls.take k).find? (FJ ls)with
 | none=>rw[hf]at h;simp at h
 | some l=>
   have h1:ls.find? (FJ ls)=some l:=by
    have:=List.take_append_drop k ls;rw[<-this,List.find?_append,this,hf];rfl
   rw[h1];rw[hf]at h;cases l with
   | nil=>simp at h
   | cons x r=>simp
def Ju {ls:List (List Int)} (hok:NU ls) {k:Nat} {l:List Int} (hl:ls[k]? =some l) (h:D2 ls k<0):D2 ls (k+1)=if FJ ls l then(l.head?).getD (-1)else -1:=by
 obtain⟨hk,rfl⟩:=JM.1 hl;exact XX hok hk h
def cI {ls:List (List Int)} {l:List Int} (h:l∈ls):l.length<=total ls:=by
 induction ls with
 | nil=>cases h
 | cons a r ih=>
   simp only[total,EZ,List.sum_cons]at *;rcases Fg.1 h with rfl|h
   .omega
   .have:=ih h;omega
def kN (ls:List (List Int)) (f:Bool) (hok:NU ls) (ht:total ls<Ad):Pure zP 257 [.l (Es ls) f] (.t [.l (iL (CL ls).1) false,.b (CL ls).2]):=by
 have hM:=Mx;refine uq kZ ?_
 conv=>whnf
 repeat((first|(refine D3 ?_;intro K U)|(refine Ci ?_;intro KR KP hR hP)|(refine hR _ _ ?_;clear hP;clear KP;clear hR;clear KR)|refine D7 ?_|refine GD ?_|(apply U;clear U K)|fail);conv=>whnf)
 refine GU (fun(x:List (List Int)×Bool×V×List Int)=>total x.1) (fun x=>[(0,.l (Es x.1) x.2.1),(4,x.2.2.1)]) (fun x=>[.own x.2.2.1 1 (iL x.2.2.2)])
  (fun x=>NU x.1/\x.2.2.2.length+total x.1<=total ls/\DM (total x.1) x.1 x.2.2.2=CL ls) (ls,f,.l [] true,[]) rfl ⟨hok,by simp,rfl⟩ (IU Sat.nil 1) ?_
 rintro⟨ls',f',v,out⟩ Z ⟨hok',hlen,hm⟩ hs;dsimp only at hok' hlen hm hs;have hlm:ls'.length<=Ad:=by have:=hok'.1;omega
 conv=>whnf
 repeat((first|(refine D3 ?_;intro K U)|(refine Ci ?_;intro KR KP hR hP)|(refine hR _ _ ?_;clear hP;clear KP;clear hR;clear KR)|refine D7 ?_|refine GD ?_|(apply U;clear U K)|fail);conv=>whnf)
 have hJ :=SG U (fun(y:Int×Bool)=>[(5,.i .i64 y.1),(6,.b y.2)]) (fun _=>[.own v 1 (iL out)]) (fun y=>(0<=y.1/\pick ls'=some y.1)\/(y.1<0/\pick ls'=none/\y.2=ls'.any fun l=> !l.isEmpty))
  [(0,.l (Es ls') f'),(4,v),(5,.pn),(6,.pn)] (by
  rintro⟨nx,lf⟩ Z hor hs;dsimp only at hor
  conv=>whnf
  repeat((first|refine⟨rfl,?_⟩|(refine D3 ?_;intro K U)|(refine Ci ?_;intro KR KP hR hP)|(refine hR _ _ ?_;clear hP;clear KP;clear hR;clear KR)|refine EY ?_|(apply U;clear U K)|fail);conv=>whnf)
  refine fork (fun hneg=>?_) (fun hneg=>?_)
  .conv=>whnf
   repeat((first|(refine D3 ?_;intro K U)|(refine Ci ?_;intro KR KP hR hP)|(refine hR _ _ ?_;clear hP;clear KP;clear hR;clear KR)|refine LU ?_|(apply U;clear U K)|(clear U K));conv=>whnf)
   rcases hor with⟨h0,_⟩|⟨_,hp,rfl⟩
   .omega
   .rw[Q5 hp]at hm
    refine Be ?_;rw[<-hm];refine .t (.cons (hs.Ha 0 rfl) (.cons ?_ .nil));have:(!ls'.any fun l=> !l.isEmpty)=ls'.all List.isEmpty:=by simp[List.all_eq_not_any_not]
    rw[<-this];exact .refl _
  .conv=>whnf
   repeat((first|(refine D3 ?_;intro K U)|(refine Ci ?_;intro KR KP hR hP)|refine E6 ?_|(apply U;clear U K)|fail);conv=>whnf)
   rcases hor with⟨_,hp⟩|⟨h0,_⟩
   .have hlt:=Il hp
    refine GR hs 0 (x:=nx) rfl (by omega) Cy fun v' Z hs=>?_
    conv=>whnf
    repeat((first|(refine D3 ?_;intro K U)|(refine Ci ?_;intro KR KP hR hP)|(refine hR _ _ ?_;clear hP;clear KP;clear hR;clear KR)|refine D7 ?_|refine GD ?_|(apply U;clear U K)|fail);conv=>whnf)
    refine Cn ls'.length (fun k u=>[(8,u),(9,eI (BR k))]) (fun k u=>[.own v' 1 (iL (out++[nx])),.own u 1 (Es ((ls'.take k).map fun l=>l.filter (· != nx)))]) (fun _ _=>True) (.l [] true) rfl trivial (IU hs 1) ?_;rintro k u Z hk - hs
    conv=>whnf
    repeat((first|refine⟨rfl,?_⟩|refine Kv ?_|(refine D3 ?_;intro K U)|(refine Ci ?_;intro KR KP hR hP)|(refine hR _ _ ?_;clear hP;clear KP;clear hR;clear KR)|refine EY ?_|(apply U;clear U K)|fail);conv=>whnf)
    refine GZ hk hlm (fun l hl hlt'=>?_) fun hk=>?_
    .conv=>whnf
     repeat((first|(refine D3 ?_;intro K U)|(refine Ci ?_;intro KR KP hR hP)|refine E6 ?_|refine D7 ?_|(apply U;clear U K)|fail);conv=>whnf)
     refine JV hl hlm rfl ?_
     conv=>whnf
     repeat((first|refine E4 ?_|fail);conv=>whnf)
     refine(Qo _ _ _ (hok'.2 _ (Cm hl)).1).use ?_
     conv=>whnf
     refine GR hs 1 (x:=l.filter (· != nx)) rfl (by have:=hok'.1;simp;omega) DJ fun u' Z' hs'=>?_
     conv=>whnf
     repeat((first|refine⟨rfl,?_⟩|(refine Ci ?_;intro KR KP hR hP)|(refine hR _ _ ?_;clear hP;clear KP;clear hR;clear KR)|(apply U;clear U K)|(clear U K));conv=>whnf)
     refine⟨hlt',u',rfl,trivial,?_⟩;rw[AU hl,VB];exact hs'
    .rw[BI hk]at hs
     conv=>whnf
     repeat((first|(refine Ci ?_;intro KR KP hR hP)|refine GF ?_|(apply U;clear U K)|(clear U K));conv=>whnf)
     refine r9 hs 1 rfl fun Z' hs'=>?_
     conv=>whnf
     repeat((first|(refine hR _ _ ?_;clear hP;clear KP;clear hR;clear KR)|fail);conv=>whnf)
     refine⟨(ls'.map fun l=>l.filter (· != nx),false,v',out++[nx]),hlt,rfl,⟨hok'.filter nx,by simp;omega,?_⟩,hs'⟩;rw[<-Oo hp];exact hm
   .omega)
 clear U
 .refine Cn ls'.length (fun k (_:Unit)=>[(5,.i .i64 (D2 ls' k)),(6,.b ((ls'.take k).any fun l=> !l.isEmpty)),(7,eI (BR k))]) (fun _ _=>[.own v 1 (iL out)]) (fun _ _=>True) () rfl trivial hs ?_
  rintro k - Z hk - hs
  conv=>whnf
  repeat((first|refine⟨rfl,?_⟩|refine Kv ?_|(refine D3 ?_;intro K U)|(refine Ci ?_;intro KR KP hR hP)|fail);conv=>whnf)
  refine⟨fun h=>?_,fun h=>?_⟩<;>(try rw[h])
  .have hlt:=of_decide_eq_true h
   rw[Ae (by have:=hok'.1;omega)]at hlt;have hlt:=gy hlt;have hl:=Dp hlt;have hb:=hok'.2 _ (List.getElem_mem hlt);generalize ls'[k]=l at *
   conv=>whnf
   repeat((first|refine⟨rfl,?_⟩|refine LR ?_|(refine hR _ _ ?_;clear hP;clear KP;clear hR;clear KR)|refine EY ?_|(apply U;clear U K)|fail);conv=>whnf)
   refine fork (fun hneg=>?_) (fun hneg=>?_)
   .conv=>whnf
    repeat((first|(refine D3 ?_;intro K U)|(refine Ci ?_;intro KR KP hR hP)|refine E6 ?_|refine D7 ?_|(apply U;clear U K)|fail);conv=>whnf)
    refine JV hl hlm rfl ?_
    conv=>whnf
    repeat((first|refine⟨rfl,?_⟩|refine E4 ?_|refine Kv ?_|(refine hR _ _ ?_;clear hP;clear KP;clear hR;clear KR)|refine EY ?_|(apply U;clear U K)|fail);conv=>whnf)
    refine fork (fun hp=>?_) (fun hp=>?_)
    .simp only[CW]at hp
     obtain⟨x,r,rfl⟩: ∃x r,l=x::r:=by cases l with
      | nil=>simp at hp
      | cons x r=>exact⟨x,r,rfl⟩
     have hany:((ls'.take (k+1)).any fun l=> !l.isEmpty)=true:=by
      rw[AU hl];simp
     conv=>whnf
     repeat((first|(refine D3 ?_;intro K U)|(refine Ci ?_;intro KR KP hR hP)|(refine hR _ _ ?_;clear hP;clear KP;clear hR;clear KR)|(apply U;clear U K)|fail);conv=>whnf)
     refine JV hl hlm rfl ?_
     conv=>whnf
     repeat((first|refine E4 ?_|fail);conv=>whnf)
     refine VX 0 rfl rfl rfl ?_
     conv=>whnf
     repeat((first|refine E4 ?_|fail);conv=>whnf)
     refine(oz _ _ _ hlm fun l hl=>(hok'.2 l hl).1).use ?_
     conv=>whnf
     repeat((first|(refine hR _ _ ?_;clear hP;clear KP;clear hR;clear KR)|refine EY ?_|(apply U;clear U K)|fail);conv=>whnf)
     refine⟨fun hf=>?_,fun hf=>?_⟩
     .conv=>whnf
      repeat((first|(refine Ci ?_;intro KR KP hR hP)|fail);conv=>whnf)
      refine JV hl hlm rfl ?_
      conv=>whnf
      repeat((first|refine E4 ?_|fail);conv=>whnf)
      refine VX 0 rfl rfl rfl ?_
      conv=>whnf
      repeat((first|refine⟨rfl,?_⟩|refine E4 ?_|(refine Ci ?_;intro KR KP hR hP)|(refine hR _ _ ?_;clear hP;clear KP;clear hR;clear KR)|(apply U;clear U K)|fail);conv=>whnf)
      refine⟨hlt,(),?_,trivial,hs⟩;have:D2 ls' (k+1)=x:=by rw[Ju hok' hl hneg];simp[FJ,hf]
      dsimp only;rw[this,hany];rfl
     .conv=>whnf
      repeat((first|refine⟨rfl,?_⟩|(refine Ci ?_;intro KR KP hR hP)|(refine hR _ _ ?_;clear hP;clear KP;clear hR;clear KR)|refine E6 ?_|(apply U;clear U K)|fail);conv=>whnf)
      refine⟨hlt,(),?_,trivial,hs⟩;have:D2 ls' (k+1)=D2 ls' k:=by rw[Ju hok' hl hneg,IG ls' k,Im hok' hneg];simp[FJ,hf]
      dsimp only;rw[this,hany];rfl
    .simp only[CW]at hp
     obtain rfl:l= []:=Xy.1 (by omega)
     conv=>whnf
     repeat((first|refine⟨rfl,?_⟩|(refine Ci ?_;intro KR KP hR hP)|(refine hR _ _ ?_;clear hP;clear KP;clear hR;clear KR)|refine E6 ?_|(apply U;clear U K)|fail);conv=>whnf)
     refine⟨hlt,(),?_,trivial,hs⟩;have:D2 ls' (k+1)=D2 ls' k:=by rw[Ju hok' hl hneg,IG ls' k,Im hok' hneg];simp[FJ]
     have hany:((ls'.take (k+1)).any fun l=> !l.isEmpty)=((ls'.take k).any fun l=> !l.isEmpty):=by
      rw[AU hl,List.any_append];simp
     dsimp only;rw[this,hany];rfl
   .conv=>whnf
    repeat((first|refine GF ?_|(clear U K));conv=>whnf)
    refine hJ (D2 ls' k,(ls'.take k).any fun l=> !l.isEmpty) _ _ rfl (.inl ⟨by omega,?_⟩) hs;exact Qy (by omega)
  .have hlt:=of_decide_eq_false h
   rw[Ae (by have:=hok'.1;omega)]at hlt;have hke:=a8 hk hlt
   conv=>whnf
   repeat((first|refine LS ?_|(refine hR _ _ ?_;clear hP;clear KP;clear hR;clear KR)|refine EY ?_|refine GF ?_|(apply U;clear U K)|(clear U K));conv=>whnf)
   refine hJ (D2 ls' k,(ls'.take k).any fun l=> !l.isEmpty) _ _ rfl ?_ hs;rw[BI hke];by_cases h0:0<=D2 ls' k
   .exact .inl ⟨h0,Qy h0⟩
   .refine .inr ⟨by omega,?_,rfl⟩
    have:=Im hok' (k:=k) (by omega);rw[BI hke]at this;show((ls'.find? (FJ ls')).bind List.head?)=none;rw[this];rfl
end Go.Gl
