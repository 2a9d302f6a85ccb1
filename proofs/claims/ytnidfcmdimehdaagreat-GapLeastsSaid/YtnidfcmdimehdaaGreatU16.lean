import Derived.Test.YtnidfcmdimehdaaGreatU14
import Derived.Test.YtnidfcmdimehdaaGreatU15
set_option linter.all false
set_option linter.defProp false
set_option maxHeartbeats 8000000
noncomputable section
namespace Go.Gl
open Go.Proofs
attribute [local irreducible] As Af AV AQ AI AU AP AR AJ AT AM AN Ag Ar Sat AS Ap AX W
def B2 (op:Int):Nat:=if op=5 then 1 else if op=6\/op=7 then 2 else 0
def SH (w:AE) (f:Fact):Bool:=
 if f.op=2 then f.n==0&&R3 w f.cls else if f.op=3\/f.op=4 then f.cls==0&&(decide (-1000000000<=f.n)&&decide (f.n<=1000000000))else f.op==1||f.op==5||f.op==6||f.op==7
def Cf (w:AE) (f:Fact):Bool:=
 SH w f&&(f.kids.length==B2 f.op&&(decide (0<=f.arg)&&(decide (f.arg<3)&&(Ex w f.path&&(Bu f||(f.arg==0&&(f.path.length==0&&(f.cls==0&&f.n==0))))))))
def An (w:AE) (f:Fact):Bool:=f.Fv fun f l=>Cf w f&&l.all id
def Be (w:AE) (f:Fact):An w f=(Cf w f&&f.kids.all (An w)):=by rw[An,Fact.CT,List.all_map];rfl
def QN {w:AE} {f:Fact} (h:Cf w f=false):An w f=false:=by rw[Be,h,Bool.false_and]
def AAA {f:Fact} (h1:Bu f=false) (h2:f.arg=0) (h3:(f.path.length:Int) > 0):true= !(Bu f||(f.arg==0&&(f.path.length==0&&(f.cls==0&&f.n==0)))):=by
 have:(f.path.length==0)=false:=by simp;intro e;rw[e]at h3;simp at h3
 rw[this,h1,h2];rfl
def m4 (w : AE) (f:Fact):Pure zP 165 [.a (Ax w),.a (xF f)] (.b (An w f)):=by
 induction f using Fact.ind with
 | h f ih=>
   refine Pure.fit (by kernel_rfl) fun hf=>?_
   have⟨h2,h3,h4⟩:=JK hf.2.1;have⟨w1,w2,w3⟩:=Vi hf.1;have hM:=Mx;refine vV kZ ?_
   conv=>whnf
   repeat'((first|apply st|(apply sq;intro K U)|(apply si;intro A B hA hB)|(refine hA _ _ ?_;clear hB B hA A)|(apply U;clear U K)|refine⟨rfl,?_⟩|fail)<;>conv=>whnf)
   have hJ :=SP U (fun(_:Unit)=>[(5,eI (B2 f.op))]) (fun _=>[]) (fun _=>SH w f=true) [(2,.rp (Ax w)),(3,.rp (xF f)),(5,eI 0)] (by
    clear U;rintro - Z ho -
    conv=>whnf
    repeat'((first|apply st|(apply sq;intro K U)|(apply si;intro A B hA hB)|refine⟨rfl,?_⟩|fail)<;>conv=>whnf)
    have hJ :=SP U (fun(b:Bool)=>[(66,.b b)]) (fun _=>[]) (fun b=>b= !(f.kids.length==B2 f.op&&(decide (0<=f.arg)&&(decide (f.arg<3)&&Ex w f.path)))) [(2,.rp (Ax w)),(3,.rp (xF f)),(66,.b false)] (by
     clear U;rintro b Z hb -
     conv=>whnf
     repeat'((first|apply st|fail)<;>conv=>whnf)
     have hJ :=SP U (fun(_:Unit)=>[]) (fun _=>[]) (fun _=>b=false) [(2,.rp (Ax w)),(3,.rp (xF f))] (by
      clear U;rintro - Z hb' -;rw[hb']at hb
      conv=>whnf
      repeat'((first|apply st|(apply sq;intro K U)|(apply si;intro A B hA hB)|refine⟨kZ,?_⟩|refine Pure.use (aH _) ?_|fail)<;>conv=>whnf)
      have hJ:=SP U (fun(b:Bool)=>[(90,.b b)]) (fun _=>[]) (fun b=>b= !(Bu f||(f.arg==0&&(f.path.length==0&&(f.cls==0&&f.n==0))))) [(2,.rp (Ax w)),(3,.rp (xF f)),(90,.b false)] (by
       clear U;rintro b Z hb2 -
       conv=>whnf
       repeat'((first|apply st|fail)<;>conv=>whnf)
       have hJ:=SP U (fun(_:Unit)=>[]) (fun _=>[]) (fun _=>b=false) [(2,.rp (Ax w)),(3,.rp (xF f))] (by
        clear U;rintro - Z hb' -;rw[hb']at hb2
        have hh:Cf w f=true:=by
         have hb:(f.kids.length==B2 f.op&&(decide (0<=f.arg)&&(decide (f.arg<3)&&Ex w f.path)))=true:=by rw[<-Bool.not_eq_false',<-hb]
         have hb2:(Bu f||(f.arg==0&&(f.path.length==0&&(f.cls==0&&f.n==0))))=true:=by rw[<-Bool.not_eq_false',<-hb2]
         simp only[A7]at hb;simp only[Cf,ho,hb.1,hb.2,hb2,Bool.and_self]
        conv=>whnf
        repeat'((first|apply st|(apply sq;intro K U)|(apply si;intro A B hA hB)|(refine hA _ _ ?_;clear hB B hA A)|(apply U;clear U K)|fail)<;>conv=>whnf)
        refine Ba f.kids.length (fun k (_:Unit)=>[(94,eI (Au k))]) (fun _ _=>[]) (fun k _=>An w f=(f.kids.drop k).all (An w)) () rfl (by rw[Be,hh];rfl) Sat.nil ?_;rintro k - Z hk hn hs
        conv=>whnf
        repeat'((first|apply st|(apply sq;intro K U)|(apply si;intro A B hA hB)|(refine hA _ _ ?_;clear hB B hA A)|(apply U;clear U K)|refine⟨rfl,?_⟩|refine⟨kZ,?_⟩|refine ixF ?_|refine ld ?_|refine sn fun Z hs=>?_|(refine fc (fun x hx hlt hc=>?_) (fun hk hc=>?_)<;>(try rw[hc])<;>clear hc)|(intro nn hnn;generalize hg:Bz _ nn _=Z;refine al hg fun hs=>?_;clear hg)|clear U K)<;>conv=>whnf)
        .have hxm:=BY hx
         refine(ih x hxm).use ?_
         conv=>whnf
         repeat'((first|apply st|(apply sq;intro K U)|(apply si;intro A B hA hB)|(refine hA _ _ ?_;clear hB B hA A)|(apply U;clear U K)|refine⟨rfl,?_⟩|(constructor<;>intro hc<;>(try rw[hc])<;>(replace hc:=bp hc))|clear U K)<;>conv=>whnf)
         .exact AF (by rw[hn,drop_cons hx];simp[hc])
         .exact⟨hlt,(),rfl,by rw[hn,drop_cons hx];simp[hc],Sat.nil⟩
        .exact AF (by rw[hn,Ad hk];rfl))
       clear U
       conv=>whnf
       repeat'((first|apply st|(apply sq;intro K U)|(apply si;intro A B hA hB)|(refine hA _ _ ?_;clear hB B hA A)|(apply U;clear U K)|(constructor<;>intro hc<;>(try rw[hc])<;>(replace hc:=bp hc))|fail)<;>conv=>whnf)
       .have hx:(Bu f||(f.arg==0&&(f.path.length==0&&(f.cls==0&&f.n==0))))=false:=by rw[<-Bool.not_eq_true',<-hb2,hc]
        exact AF (by rw[QN];simp only[Cf,hx,Bool.and_false])
       .exact hJ () _ _ rfl hc Sat.nil)
      clear U;clear hb
      conv=>whnf
      repeat'((first|apply st|(refine hA _ _ ?_;clear hB B hA A)|refine⟨rfl,?_⟩|(constructor<;>intro hc<;>(try rw[hc])<;>(replace hc:=bp hc)<;>(try simp(disch:=omega) only[Bh,wrap64,AW]at hc))|fail)<;>conv=>whnf)
      .have hp:f.path.length=0:=by omega
       exact hJ _ _ _ rfl (by rw[hp];simp[*,bne]) Sat.nil
      .exact hJ true _ _ rfl (by simp[*]) Sat.nil
      .exact hJ true _ _ rfl (AAA (by assumption) (by assumption) hc) Sat.nil
      .exact hJ true _ _ rfl (by simp[*]) Sat.nil
      .exact hJ false _ _ rfl (by simp[*]) Sat.nil)
     clear U
     conv=>whnf
     repeat'((first|apply st|(apply sq;intro K U)|(apply si;intro A B hA hB)|(refine hA _ _ ?_;clear hB B hA A)|(apply U;clear U K)|(constructor<;>intro hc<;>(try rw[hc])<;>(replace hc:=bp hc))|fail)<;>conv=>whnf)
     .have hx:(f.kids.length==B2 f.op&&(decide (0<=f.arg)&&(decide (f.arg<3)&&Ex w f.path)))=false:=by rw[<-Bool.not_eq_true',<-hb,hc]
      exact AF (by rw[QN];simp only[Cf];simp only[Bool.and_eq_false_iff]at hx ⊢;rcases hx with h|h|h|h<;>simp[h])
     .exact hJ () _ _ rfl hc Sat.nil)
    clear U
    conv=>whnf
    repeat'((first|apply st|(refine hA _ _ ?_;clear hB B hA A)|refine⟨rfl,?_⟩|refine⟨kZ,?_⟩|refine Pure.use (mg _ _ _) ?_|(constructor<;>intro hc<;>(try rw[hc])<;>(replace hc:=bp hc)<;>(try simp(disch:=omega) only[Bh,wrap64,AW]at hc))|fail)<;>conv=>whnf)
    all_goals exact hJ _ _ _ rfl (by simp[*]<;>omega) Sat.nil)
   clear U
   conv=>whnf
   repeat'((first|apply st|(apply sq;intro K U)|(apply si;intro A B hA hB)|(refine hA _ _ ?_;clear hB B hA A)|(apply U;clear U K)|refine⟨rfl,?_⟩|refine⟨kZ,?_⟩|refine Pure.use (kI _ _) ?_|(constructor<;>intro hc<;>(try rw[hc])<;>(replace hc:=bp hc))|fail)<;>conv=>whnf)
   all_goals first
    | exact AF (by rw[QN];simp only[Cf,SH];simp[*]<;>omega)
    | exact hJ () _ _ (by simp[B2, *];rfl) (by simp[SH, *]<;>omega) Sat.nil
def na (xs:List Int) (f:Bool) (x:Int):Pure zP 210 [.l (iL xs) f,eI x] (.b (xs.contains x)):=Pure.fit (by kernel_rfl) fun hf=>gG xs f x (L8 hf.1)
def Bv (w:AE) (f:Fact):Bool:=decide (B1 f 24<=24)&&(decide (ES f<=12)&&An w f)
def j3 (w:AE) (f:Fact):Pure zP 102 [.a (Ax w),.a (xF f)] (.b (Bv w f)):=by
 refine wg kZ ?_
 conv=>whnf
 repeat'((first|clear U K|apply st|(apply zk;intro K U)|refine zn ?_|refine Pure.use (jd _) ?_|refine za (fun hc=>?_) fun hc=>?_|fail)<;>conv=>whnf)
 .have:=Ix f 24 (by omega) hc
  refine(kD f (by simp only[AZ];omega)).use ?_
  conv=>whnf
  repeat'((first|clear U K|apply st|refine zn ?_|refine Pure.use (m4 _ _) ?_|refine za (fun hc=>?_) fun hc=>?_|fail)<;>conv=>whnf)
  .exact AF (by simp[Bv,hc,‹B1 f 24<=24›])
  .exact AF (by simp[Bv, *];intros;omega)
 .exact AF (by simp[Bv];intros;omega)
def qX (i:Nat) (pre:List Int) (c:Int):Bool:=decide (3<=c)&&(decide (c<3+i)&& !pre.contains c)
def NS (i:Nat):List Int->List Int->Bool
 | _,[]=>true
 | pre,c::r=>qX i pre c&&NS i (pre++[c]) r
def JF:Nat->List (List Int)->Bool
 | _,[]=>true
 | i,l::r=>decide (l.length<=3)&&(NS i [] l&&JF (i+1) r)
def Dz (g:List (List Int)):Bool:=decide (g.length<=16)&&JF 0 g
def T9 {ls:List (List Int)} {g:Bool} (h:Fb (.l (EF ls) g)):ls.length<=AZ/\ ∀l∈ls,l.length<=AZ:=by
 simp only[Hj,Bh,J5,Dg]at h;exact⟨h.1,fun l hl=>(h.2 l hl).1.1⟩
def nj (g:List (List Int)) (f:Bool):Pure zP 159 [.l (EF g) f] (.b (Dz g)):=by
 refine Pure.fit (by kernel_rfl) fun hf=>?_
 have⟨g1,g2⟩:=T9 hf.1;have hM:=Mx;refine ve kZ ?_
 conv=>whnf
 repeat'((first|clear U K|apply st|(apply zk;intro K U)|refine zn ?_|(refine zd (fun hc=>?_) (fun hc=>?_)<;>try exact⟨⟩)|fail)<;>conv=>whnf)
 .exact AF (by simp[Dz];intros;omega)
 .refine Ba g.length (fun k (_:Unit)=>[(3,eI (Au k))]) (fun _ _=>[]) (fun k _=>Dz g=JF k (g.drop k)) () rfl (by simp[Dz];omega) Sat.nil ?_
  rintro k - Z hk hn hs
  conv=>whnf
  repeat'((first|clear U K|apply st|(apply zk;intro K U)|refine zn ?_|(refine fc (fun x hx hlt hc=>?_) (fun hk hc=>?_)<;>(try rw[hc])<;>clear hc)|(refine zd (fun hc=>?_) (fun hc=>?_)<;>try exact⟨⟩)|fail)<;>conv=>whnf)
  .exact AF (by rw[hn,drop_cons hx,JF];simp;intros;omega)
  .revert x
   rintro l hl hl3;have hll:=g2 l (BY hl);have hn':Dz g=(NS k [] l&&JF (k+1) (g.drop (k+1))):=by rw[hn,drop_cons hl,JF];simp;intros;omega
   refine Ba l.length (fun j (_:Unit)=>[(4,eI (Au j))]) (fun _ _=>[]) (fun j _=>Dz g=(NS k (l.take j) (l.drop j)&&JF (k+1) (g.drop (k+1)))) () rfl (by rw[hn'];rfl) Sat.nil ?_;rintro j - Z hj hm hs
   conv=>whnf
   repeat'((first|clear U K|apply st|(apply zk;intro K U)|refine zn ?_|(refine fc (fun x hx hlt hc=>?_) (fun hk hc=>?_)<;>(try rw[hc])<;>clear hc)|refine Pure.use (na _ _ _) ?_|(refine zd (fun hc=>?_) (fun hc=>?_)<;>try exact⟨⟩)|fail)<;>conv=>whnf)
   .exact AF (by rw[hm,drop_cons hx,NS,qX,hc];simp)
   .refine⟨hlt,(),rfl,?_,Sat.nil⟩
    rw[hm,drop_cons hx,NS,qX,hc,AO hx];simp[*]
   .exact AF (by rw[hm,drop_cons hx,NS,qX];simp;intros;omega)
   .exact AF (by rw[hm,drop_cons hx,NS,qX];simp;intros;omega)
   .refine⟨by assumption,(),rfl,?_,Sat.nil⟩
    rw[hm,Ad hk,NS,Db]
  .exact AF (by rw[hn,Ad hk];rfl)
end Go.Gl
namespace Go.Gl
def par (ps:List (List Int)) (c:Nat):List Int:=if c<3 then []else ps.getD (c - 3) []
def ordered (ps:List (List Int)):Prop:= ∀c p,p∈par ps c->3<=p/\p<(c:Int)
def dy (ps:List (List Int)):Nat->Nat->Nat->Bool
 | 0,c,b=>c==b
 | f+1,c,b=>c==b||(par ps c).any fun p=>dy ps f p.toNat b
def G3 (ps:List (List Int)) (c b:Nat):Bool:=dy ps c c b
def LZ {ps:List (List Int)} (ho:ordered ps): ∀(f c b:Nat),c<=f->dy ps f c b=G3 ps c b
 | 0,c,b,h=>by(obtain rfl:c=0:=by omega);rfl
 | f + 1,c,b,h=>by
   cases c with
   | zero=>
     have:par ps 0= []:=rfl;simp[G3,dy,this]
   | succ c=>
     simp only[G3,dy];congr 1
     have key: ∀l:List Int,(∀p∈l,p∈par ps (c+1))->(l.any fun p=>dy ps f p.toNat b)=l.any fun p=>dy ps c p.toNat b:=by
      intro l hl
      induction l with
      | nil=>rfl
      | cons p r ih=>
        have hp:=ho (c+1) p (hl p (.head _));simp only[Oj];rw[ih fun q hq=>hl q (.tail _ hq),LZ ho f p.toNat b (by omega),LZ ho c p.toNat b (by omega)]
     exact key _ fun p hp=>hp
def FJ {ps:List (List Int)} (ho:ordered ps) (c b:Nat):G3 ps c b=(c==b||(par ps c).any fun p=>G3 ps p.toNat b):=by
 cases c with
 | zero=>simp[G3,dy,par]
 | succ c=>
   simp only[G3,dy];congr 1
   have key: ∀l:List Int,(∀p∈l,p∈par ps (c+1))->(l.any fun p=>dy ps c p.toNat b)=l.any fun p=>dy ps p.toNat p.toNat b:=by
    intro l hl
    induction l with
    | nil=>rfl
    | cons p r ih=>
      have hp:=ho (c+1) p (hl p (.head _));simp only[Oj];rw[ih fun q hq=>hl q (.tail _ hq),LZ ho c p.toNat b (by omega)];rfl
   exact key _ fun p hp=>hp
def FR {ps:List (List Int)} (ho:ordered ps) (c:Nat):G3 ps c c=true:=by rw[FJ ho];simp
def fe {ps:List (List Int)} (ho:ordered ps): ∀(c b:Nat),G3 ps c b=true->b<=c:=by
 intro c
 induction c using Nat.strongRecOn with
 | _ c ih=>
   intro b h;rw[FJ ho]at h;simp only[Ew,Cd,G1]at h;rcases h with rfl|⟨p,hp,h⟩
   .omega
   .have:=ho c p hp
    have:=ih p.toNat (by omega) b h;omega
def Ka {ps:List (List Int)} (ho:ordered ps): ∀(a b c:Nat),G3 ps a b=true->G3 ps b c=true->G3 ps a c=true:=by
 intro a
 induction a using Nat.strongRecOn with
 | _ a ih=>
   intro b c h k;rw[FJ ho]at h ⊢;simp only[Ew,Cd,G1]at h ⊢;rcases h with rfl|⟨p,hp,h⟩
   .rw[FJ ho]at k
    simpa using k
   .have:=ho a p hp
    exact .inr ⟨p,hp,ih p.toNat (by omega) b c h k⟩
def Fx (bs:List Bool) (i:Nat):List Int->List Bool
 | []=>bs
 | p::r=>Fx (bs.set p.toNat (bs.getD p.toNat false||bs.getD i false)) i r
def M4 (i:Nat): ∀(a b:List Int) (bs:List Bool),Fx bs i (a++b)=Fx (Fx bs i a) i b
 | [],b,bs=>rfl
 | p::r,b,bs=>by simp only[List.cons_append,Fx];exact M4 i r b _
def Nw (i:Nat): ∀(l:List Int) (bs:List Bool),(Fx bs i l).length=bs.length
 | [],bs=>rfl
 | p::r,bs=>by simp only[Fx];rw[Nw i r];simp
def Hr (ps:List (List Int)) (n c:Nat):Nat->List Bool
 | 0=>(List.replicate n false).set c true
 | k+1=>Fx (Hr ps n c k) (c - k) (par ps (c - k))
def MG (ps:List (List Int)) (n c:Nat): ∀k,(Hr ps n c k).length=n
 | 0=>by simp[Hr]
 | k+1=>by simp only[Hr];rw[Nw,MG ps n c k]
def Ea {bs:List Bool} {j:Nat} {x:Bool} (hj:j<bs.length) (b:Nat):(bs.set j x).getD b false=if b=j then x else bs.getD b false:=by
 simp only[Co,List.getElem?_set];by_cases h:j=b
 .subst h;simp[hj]
 .rw[if_neg h,if_neg (fun e=>h e.symm)]
def Nx {i:Nat}: ∀(l:List Int) (bs:List Bool),(∀p∈l,0<=p/\p.toNat<bs.length/\p.toNat<i)-> ∀b,(Fx bs i l).getD b false=(bs.getD b false||(bs.getD i false&&l.contains (b:Int)))
 | [],bs,_,b=>by simp[Fx]
 | p ::r,bs,h,b=>by
   obtain⟨h1,h2,h3⟩:=h p (.head _);simp only[Fx];have hi:i≠p.toNat:=by omega
   rw[Nx r _ (fun q hq=>by have:=h q (.tail _ hq);simpa using this),Ea h2,Ea h2,if_neg hi];by_cases hb:b=p.toNat
   .subst hb
    have:((p.toNat:Nat):Int)=p:=by omega
    simp only[if_true,this,List.contains_cons,beq_self_eq_true,Bool.true_or,Bool.and_true];cases bs.getD p.toNat false<;>cases bs.getD i false<;>simp
   .rw[if_neg hb]
    have:((b:Int)==p)=false:=by simp;omega
    simp only[List.contains_cons,this,Bool.false_or]
def Vw {ps:List (List Int)} (ho:ordered ps) {n c:Nat} (hc:c<n): ∀k,k<=c - 2->(∀b,(Hr ps n c k).getD b false=true->G3 ps c b=true)/\(Hr ps n c k).getD c false=true/\
    (∀j p,c - k<j->(Hr ps n c k).getD j false=true->p∈par ps j->(Hr ps n c k).getD p.toNat false=true)
 | 0,_=>by
   have hg: ∀b,(Hr ps n c 0).getD b false=decide (b=c):=fun b=>by
    simp only[Hr];rw[Ea (by simpa using hc)];by_cases h:b=c
    .simp[h]
    .rw[if_neg h]
     simp[h,Co,List.getElem?_replicate];split<;>rfl
   refine⟨fun b hb=>?_,by rw[hg];simp,fun j p hj hb hp=>?_⟩
   .rw[hg]at hb
    simp only[CF]at hb;subst hb;exact FR ho _
   .rw[hg]at hb
    simp only[CF]at hb;omega
 | k + 1,hk=>by
   obtain⟨h1,h2,h3⟩:=Vw ho hc k (by omega)
   have hpar: ∀p∈par ps (c - k),0<=p/\p.toNat<(Hr ps n c k).length/\p.toNat<c - k:=fun p hp=>by
    have:=ho _ p hp;rw[MG];omega
   have hg: ∀b,(Hr ps n c (k+1)).getD b false=((Hr ps n c k).getD b false||((Hr ps n c k).getD (c - k) false&&(par ps (c - k)).contains (b:Int))):=fun b=>by
    simp only[Hr];exact Nx _ _ hpar b
   refine⟨fun b hb=>?_,by rw[hg,h2];rfl,fun j p hj hb hp=>?_⟩
   .rw[hg]at hb
    simp only[Ew,A7,List.contains_iff_mem]at hb;rcases hb with hb|⟨hb,hm⟩
    .exact h1 b hb
    .refine Ka ho c (c - k) b (h1 _ hb) ?_
     rw[FJ ho];simp only[Ew,G1];exact .inr ⟨b,hm,by simpa using FR ho b⟩
   .have hjp:=ho j p hp
    have hb':(Hr ps n c k).getD j false=true:=by
     rw[hg]at hb;simp only[Ew,A7,List.contains_iff_mem]at hb;rcases hb with hb|⟨_,hm⟩
     .exact hb
     .have:=ho _ _ hm
      omega
    rw[hg];by_cases e:j=c - k
    .subst e
     rw[hb'];have:((p.toNat:Nat):Int)=p:=by omega
     simp only[this,Db,Ew,List.contains_iff_mem];exact .inr hp
    .rw[h3 j p (by omega) hb' hp]
     rfl
def Zk {ps:List (List Int)} (ho:ordered ps) {n c:Nat} (hc:c<n) (b:Nat):(Hr ps n c (c - 2)).getD b false=G3 ps c b:=by
 obtain⟨h1,h2,h3⟩:=Vw ho hc (c - 2) (G0 _)
 have key: ∀a,(Hr ps n c (c - 2)).getD a false=true-> ∀b,G3 ps a b=true->(Hr ps n c (c - 2)).getD b false=true:=by
  intro a
  induction a using Nat.strongRecOn with
  | _ a ih=>
    intro ha b hb;rw[FJ ho]at hb;simp only[Ew,Cd,G1]at hb;rcases hb with rfl|⟨p,hp,hb⟩
    .exact ha
    .have:=ho a p hp
     exact ih p.toNat (by omega) (h3 a p (by omega) ha hp) b hb
 cases hb:G3 ps c b with
 | true=>exact key c h2 b hb
 | false=>
   cases hq:(Hr ps n c (c - 2)).getD b false with
   | false=>rfl
   | true=>rw[h1 b hq]at hb;cases hb
end Go.Gl
namespace Go.Gl
open Go.Proofs
attribute [local irreducible] As Af AV AQ AI AU AP AR AJ AT AM AN Ag Ar Sat AS Ap AX W
def pick (ls:List (List Int)):Option Int:=(ls.find? fun l=>match l with| []=>false|x::_=>free ls x).bind List.head?
def total (ls:List (List Int)):Nat:=(ls.map List.length).sum
def DN:Nat->List (List Int)->List Int->List Int×Bool
 | 0,ls,out=>(out,ls.all List.isEmpty)
 | n+1,ls,out=>match pick ls with
   | none=>(out,ls.all List.isEmpty)
   | some x=>DN n (ls.map fun l=>l.filter (· != x)) (out++[x])
def CH (ls:List (List Int)):List Int×Bool:=DN (total ls) ls []
def It {ls:List (List Int)} {x:Int} (h:pick ls=some x):total (ls.map fun l=>l.filter (· != x))<total ls:=by
 unfold pick at h;rw[Option.bind_eq_some_iff]at h;obtain⟨l,h1,h2⟩:=h;have hm:=List.mem_of_find?_eq_some h1;clear h1;cases l with
 | nil=>cases h2
 | cons y r=>
   simp only[List.head?_cons,Hp]at h2;subst h2
   have hle: ∀ls:List (List Int),total (ls.map fun l=>l.filter (· != y))<=total ls:=fun ls=>by
    induction ls with
    | nil=>simp[total]
    | cons a bs ih=>
      have:=NI (· != y) a;simp only[total,Cn,List.sum_cons]at *;omega
   induction ls with
   | nil=>cases hm
   | cons a bs ih=>
     rcases Ff.1 hm with rfl|hm
     .have h1:=hle bs
      have h2:=NI (· != y) r;simp only[total,Cn,List.sum_cons]at *;have:((y::r).filter (· != y)).length<=r.length:=by simpa using h2
      simp only[JU];omega
     .have h1:=ih hm
      have h2:=NI (· != y) a;simp only[total,Cn,List.sum_cons]at *;omega
def NN (ls:List (List Int)):Prop:=ls.length<=1000000/\ ∀l∈ls,l.length<=AZ/\ ∀x∈l,0<=x
def NN.filter {ls:List (List Int)} (h:NN ls) (x:Int):NN (ls.map fun l=>l.filter (· != x)):=by
 refine⟨by rw[Bh];exact h.1,fun l hl=>?_⟩;obtain⟨l',hl',rfl⟩:=GL.1 hl;obtain⟨h1,h2⟩:=h.2 l' hl';exact⟨Nat.le_trans (NI _ _) h1,fun y hy=>h2 y (Ia.1 hy).1⟩
def D2 (ls:List (List Int)) (k:Nat):Int:=((((ls.take k).find? fun l=>match l with| []=>false|x::_=>free ls x).bind List.head?).getD (-1))
def XL : ∀ (n:Nat) (ls:List (List Int)) (out:List Int),total ls<=n->DN n ls out=DN (total ls) ls out:=by
 intro n
 induction n using Nat.strongRecOn with
 | _ n ih=>
   intro ls out hn;by_cases he:total ls=n
   .rw[he]
   .cases n with
    | zero=>omega
    | succ n=>
      cases hp:pick ls with
      | none=>
        cases ht:total ls with
        | zero=>simp[DN,hp]
        | succ m=>simp[DN,hp]
      | some x=>
        have h1:=It hp;cases ht:total ls with
        | zero=>omega
        | succ m=>
          simp only[DN,hp];rw[ih n (by omega) _ _ (by omega),ih m (by omega) _ _ (by omega)]
def OY {ls:List (List Int)} {x:Int} {out:List Int} (hp:pick ls=some x):DN (total ls) ls out=DN (total (ls.map fun l=>l.filter (· != x))) (ls.map fun l=>l.filter (· != x)) (out++[x]):=by
 have h1:=It hp;cases ht:total ls with
 | zero=>omega
 | succ m=>
   simp only[DN,hp];exact XL m _ _ (by omega)
def RA {ls:List (List Int)} {out:List Int} (hp:pick ls=none):DN (total ls) ls out=(out,ls.all List.isEmpty):=by
 cases ht:total ls with
 | zero=>rfl
 | succ m=>simp only[DN,hp]
def Fc (ls:List (List Int)) (l:List Int):Bool:=match l with| []=>false|x::_=>free ls x
def IQ (ls:List (List Int)) (k:Nat):D2 ls k=(((ls.take k).find? (Fc ls)).bind List.head?).getD (-1):=rfl
def Iv {ls:List (List Int)} (hok:NN ls) {k:Nat} (h:D2 ls k<0):(ls.take k).find? (Fc ls)=none:=by
 rw[IQ]at h;cases hf:(ls.take k).find? (Fc ls)with
 | none=>rfl
 | some l=>
   rw[hf]at h;have hm:=List.mem_of_mem_take (List.mem_of_find?_eq_some hf);have hg:=List.find?_some hf;cases l with
   | nil=>cases hg
   | cons x r=>
     have:=(hok.2 _ hm).2 x (.head _);simp at h;omega
def XJ {ls:List (List Int)} (hok:NN ls) {k:Nat} (hk:k<ls.length) (h:D2 ls k<0):D2 ls (k+1)=if Fc ls ls[k]then(ls[k].head?).getD (-1)else -1:=by
 rw[IQ,List.take_succ_eq_append_getElem hk,List.find?_append,Iv hok h];by_cases hg:Fc ls ls[k]=true
 .simp[hg]
 .simp[hg]
def Q3 {ls:List (List Int)} {k:Nat} (h:0<=D2 ls k):pick ls=some (D2 ls k):=by
 rw[IQ]at *;show((ls.find? (Fc ls)).bind List.head?)=_;cases hf:(ls.take k).find? (Fc ls)with
 | none=>rw[hf]at h;simp at h
 | some l=>
   have h1:ls.find? (Fc ls)=some l:=by
    have:=List.take_append_drop k ls;rw[<-this,List.find?_append,this,hf];rfl
   rw[h1];rw[hf]at h;cases l with
   | nil=>simp at h
   | cons x r=>simp
def J9 {ls:List (List Int)} (hok:NN ls) {k:Nat} {l:List Int} (hl:ls[k]? =some l) (h:D2 ls k<0):D2 ls (k+1)=if Fc ls l then(l.head?).getD (-1)else -1:=by
 obtain⟨hk,rfl⟩:=JA.1 hl;exact XJ hok hk h
def br {ls:List (List Int)} {l:List Int} (h:l∈ls):l.length<=total ls:=by
 induction ls with
 | nil=>cases h
 | cons a r ih=>
   simp only[total,Cn,List.sum_cons]at *;rcases Ff.1 h with rfl|h
   .omega
   .have:=ih h;omega
def jj (ls:List (List Int)) (f:Bool) (hok:NN ls) (ht:total ls<AZ):Pure zP 257 [.l (EF ls) f] (.t [.l (iL (CH ls).1) false,.b (CH ls).2]):=by
 have hM:=Mx;refine uF kZ ?_
 conv=>whnf
 repeat((first|(refine GF ?_;intro K U)|(refine DO ?_;intro KR KP hR hP)|(refine hR _ _ ?_;clear hP;clear KP;clear hR;clear KR)|refine IL ?_|refine PS ?_|(apply U;clear U K)|fail);conv=>whnf)
 refine DD (fun(x:List (List Int)×Bool×V×List Int)=>total x.1) (fun x=>[(0,.l (EF x.1) x.2.1),(4,x.2.2.1)]) (fun x=>[.own x.2.2.1 1 (iL x.2.2.2)])
  (fun x=>NN x.1/\x.2.2.2.length+total x.1<=total ls/\DN (total x.1) x.1 x.2.2.2=CH ls) (ls,f,.l [] true,[]) rfl ⟨hok,by simp,rfl⟩ (Ce Sat.nil 1) ?_
 rintro⟨ls',f',v,out⟩ Z ⟨hok',hlen,hm⟩ hs;dsimp only at hok' hlen hm hs;have hlm:ls'.length<=AZ:=by have:=hok'.1;omega
 conv=>whnf
 repeat((first|(refine GF ?_;intro K U)|(refine DO ?_;intro KR KP hR hP)|(refine hR _ _ ?_;clear hP;clear KP;clear hR;clear KR)|refine IL ?_|refine PS ?_|(apply U;clear U K)|fail);conv=>whnf)
 have hJ :=SP U (fun(y:Int×Bool)=>[(5,.i .i64 y.1),(6,.b y.2)]) (fun _=>[.own v 1 (iL out)]) (fun y=>(0<=y.1/\pick ls'=some y.1)\/(y.1<0/\pick ls'=none/\y.2=ls'.any fun l=> !l.isEmpty))
  [(0,.l (EF ls') f'),(4,v),(5,.pn),(6,.pn)] (by
  rintro⟨nx,lf⟩ Z hor hs;dsimp only at hor
  conv=>whnf
  repeat((first|refine⟨rfl,?_⟩|(refine GF ?_;intro K U)|(refine DO ?_;intro KR KP hR hP)|(refine hR _ _ ?_;clear hP;clear KP;clear hR;clear KR)|refine Ir ?_|(apply U;clear U K)|fail);conv=>whnf)
  refine fork (fun hneg=>?_) (fun hneg=>?_)
  .conv=>whnf
   repeat((first|(refine GF ?_;intro K U)|(refine DO ?_;intro KR KP hR hP)|(refine hR _ _ ?_;clear hP;clear KP;clear hR;clear KR)|refine iP ?_|(apply U;clear U K)|(clear U K));conv=>whnf)
   rcases hor with⟨h0,_⟩|⟨_,hp,rfl⟩
   .omega
   .rw[RA hp]at hm
    refine AY ?_;rw[<-hm];refine .t (.cons (hs.Ic 0 rfl) (.cons ?_ .nil));have:(!ls'.any fun l=> !l.isEmpty)=ls'.all List.isEmpty:=by simp[List.all_eq_not_any_not]
    rw[<-this];exact .refl _
  .conv=>whnf
   repeat((first|(refine GF ?_;intro K U)|(refine DO ?_;intro KR KP hR hP)|refine KX ?_|(apply U;clear U K)|fail);conv=>whnf)
   rcases hor with⟨_,hp⟩|⟨h0,_⟩
   .have hlt:=It hp
    refine GJ hs 0 (x:=nx) rfl (by omega) Bg fun v' Z hs=>?_
    conv=>whnf
    repeat((first|(refine GF ?_;intro K U)|(refine DO ?_;intro KR KP hR hP)|(refine hR _ _ ?_;clear hP;clear KP;clear hR;clear KR)|refine IL ?_|refine PS ?_|(apply U;clear U K)|fail);conv=>whnf)
    refine Ba ls'.length (fun k u=>[(8,u),(9,eI (Au k))]) (fun k u=>[.own v' 1 (iL (out++[nx])),.own u 1 (EF ((ls'.take k).map fun l=>l.filter (· != nx)))]) (fun _ _=>True) (.l [] true) rfl trivial (Ce hs 1) ?_;rintro k u Z hk - hs
    conv=>whnf
    repeat((first|refine⟨rfl,?_⟩|refine Vf ?_|(refine GF ?_;intro K U)|(refine DO ?_;intro KR KP hR hP)|(refine hR _ _ ?_;clear hP;clear KP;clear hR;clear KR)|refine Ir ?_|(apply U;clear U K)|fail);conv=>whnf)
    refine Gh hk hlm (fun l hl hlt'=>?_) fun hk=>?_
    .conv=>whnf
     repeat((first|(refine GF ?_;intro K U)|(refine DO ?_;intro KR KP hR hP)|refine KX ?_|refine IL ?_|(apply U;clear U K)|fail);conv=>whnf)
     refine Jl hl hlm rfl ?_
     conv=>whnf
     repeat((first|refine KQ ?_|fail);conv=>whnf)
     refine(Qp _ _ _ (hok'.2 _ (BY hl)).1).use ?_
     conv=>whnf
     refine GJ hs 1 (x:=l.filter (· != nx)) rfl (by have:=hok'.1;simp;omega) DI fun u' Z' hs'=>?_
     conv=>whnf
     repeat((first|refine⟨rfl,?_⟩|(refine DO ?_;intro KR KP hR hP)|(refine hR _ _ ?_;clear hP;clear KP;clear hR;clear KR)|(apply U;clear U K)|(clear U K));conv=>whnf)
     refine⟨hlt',u',rfl,trivial,?_⟩;rw[AO hl,ND];exact hs'
    .rw[Ak hk]at hs
     conv=>whnf
     repeat((first|(refine DO ?_;intro KR KP hR hP)|refine PT ?_|(apply U;clear U K)|(clear U K));conv=>whnf)
     refine qp hs 1 rfl fun Z' hs'=>?_
     conv=>whnf
     repeat((first|(refine hR _ _ ?_;clear hP;clear KP;clear hR;clear KR)|fail);conv=>whnf)
     refine⟨(ls'.map fun l=>l.filter (· != nx),false,v',out++[nx]),hlt,rfl,⟨hok'.filter nx,by simp;omega,?_⟩,hs'⟩;rw[<-OY hp];exact hm
   .omega)
 clear U
 .refine Ba ls'.length (fun k (_:Unit)=>[(5,.i .i64 (D2 ls' k)),(6,.b ((ls'.take k).any fun l=> !l.isEmpty)),(7,eI (Au k))]) (fun _ _=>[.own v 1 (iL out)]) (fun _ _=>True) () rfl trivial hs ?_
  rintro k - Z hk - hs
  conv=>whnf
  repeat((first|refine⟨rfl,?_⟩|refine Vf ?_|(refine GF ?_;intro K U)|(refine DO ?_;intro KR KP hR hP)|fail);conv=>whnf)
  refine⟨fun h=>?_,fun h=>?_⟩<;>(try rw[h])
  .have hlt:=of_decide_eq_true h
   rw[AW (by have:=hok'.1;omega)]at hlt;have hlt:=gA hlt;have hl:=CQ hlt;have hb:=hok'.2 _ (List.getElem_mem hlt);generalize ls'[k]=l at *
   conv=>whnf
   repeat((first|refine⟨rfl,?_⟩|refine gz ?_|(refine hR _ _ ?_;clear hP;clear KP;clear hR;clear KR)|refine Ir ?_|(apply U;clear U K)|fail);conv=>whnf)
   refine fork (fun hneg=>?_) (fun hneg=>?_)
   .conv=>whnf
    repeat((first|(refine GF ?_;intro K U)|(refine DO ?_;intro KR KP hR hP)|refine KX ?_|refine IL ?_|(apply U;clear U K)|fail);conv=>whnf)
    refine Jl hl hlm rfl ?_
    conv=>whnf
    repeat((first|refine⟨rfl,?_⟩|refine KQ ?_|refine Vf ?_|(refine hR _ _ ?_;clear hP;clear KP;clear hR;clear KR)|refine Ir ?_|(apply U;clear U K)|fail);conv=>whnf)
    refine fork (fun hp=>?_) (fun hp=>?_)
    .simp only[Bh]at hp
     obtain⟨x,r,rfl⟩: ∃x r,l=x::r:=by cases l with
      | nil=>simp at hp
      | cons x r=>exact⟨x,r,rfl⟩
     have hany:((ls'.take (k+1)).any fun l=> !l.isEmpty)=true:=by
      rw[AO hl];simp
     conv=>whnf
     repeat((first|(refine GF ?_;intro K U)|(refine DO ?_;intro KR KP hR hP)|(refine hR _ _ ?_;clear hP;clear KP;clear hR;clear KR)|(apply U;clear U K)|fail);conv=>whnf)
     refine Jl hl hlm rfl ?_
     conv=>whnf
     repeat((first|refine KQ ?_|fail);conv=>whnf)
     refine VQ 0 rfl rfl rfl ?_
     conv=>whnf
     repeat((first|refine KQ ?_|fail);conv=>whnf)
     refine(nt _ _ _ hlm fun l hl=>(hok'.2 l hl).1).use ?_
     conv=>whnf
     repeat((first|(refine hR _ _ ?_;clear hP;clear KP;clear hR;clear KR)|refine Ir ?_|(apply U;clear U K)|fail);conv=>whnf)
     refine⟨fun hf=>?_,fun hf=>?_⟩
     .conv=>whnf
      repeat((first|(refine DO ?_;intro KR KP hR hP)|fail);conv=>whnf)
      refine Jl hl hlm rfl ?_
      conv=>whnf
      repeat((first|refine KQ ?_|fail);conv=>whnf)
      refine VQ 0 rfl rfl rfl ?_
      conv=>whnf
      repeat((first|refine⟨rfl,?_⟩|refine KQ ?_|(refine DO ?_;intro KR KP hR hP)|(refine hR _ _ ?_;clear hP;clear KP;clear hR;clear KR)|(apply U;clear U K)|fail);conv=>whnf)
      refine⟨hlt,(),?_,trivial,hs⟩;have:D2 ls' (k+1)=x:=by rw[J9 hok' hl hneg];simp[Fc,hf]
      dsimp only;rw[this,hany];rfl
     .conv=>whnf
      repeat((first|refine⟨rfl,?_⟩|(refine DO ?_;intro KR KP hR hP)|(refine hR _ _ ?_;clear hP;clear KP;clear hR;clear KR)|refine KX ?_|(apply U;clear U K)|fail);conv=>whnf)
      refine⟨hlt,(),?_,trivial,hs⟩;have:D2 ls' (k+1)=D2 ls' k:=by rw[J9 hok' hl hneg,IQ ls' k,Iv hok' hneg];simp[Fc,hf]
      dsimp only;rw[this,hany];rfl
    .simp only[Bh]at hp
     obtain rfl:l= []:=VA.1 (by omega)
     conv=>whnf
     repeat((first|refine⟨rfl,?_⟩|(refine DO ?_;intro KR KP hR hP)|(refine hR _ _ ?_;clear hP;clear KP;clear hR;clear KR)|refine KX ?_|(apply U;clear U K)|fail);conv=>whnf)
     refine⟨hlt,(),?_,trivial,hs⟩;have:D2 ls' (k+1)=D2 ls' k:=by rw[J9 hok' hl hneg,IQ ls' k,Iv hok' hneg];simp[Fc]
     have hany:((ls'.take (k+1)).any fun l=> !l.isEmpty)=((ls'.take k).any fun l=> !l.isEmpty):=by
      rw[AO hl,List.any_append];simp
     dsimp only;rw[this,hany];rfl
   .conv=>whnf
    repeat((first|refine PT ?_|(clear U K));conv=>whnf)
    refine hJ (D2 ls' k,(ls'.take k).any fun l=> !l.isEmpty) _ _ rfl (.inl ⟨by omega,?_⟩) hs;exact Q3 (by omega)
  .have hlt:=of_decide_eq_false h
   rw[AW (by have:=hok'.1;omega)]at hlt;have hke:=au hk hlt
   conv=>whnf
   repeat((first|refine hZ ?_|(refine hR _ _ ?_;clear hP;clear KP;clear hR;clear KR)|refine Ir ?_|refine PT ?_|(apply U;clear U K)|(clear U K));conv=>whnf)
   refine hJ (D2 ls' k,(ls'.take k).any fun l=> !l.isEmpty) _ _ rfl ?_ hs;rw[Ak hke];by_cases h0:0<=D2 ls' k
   .exact .inl ⟨h0,Q3 h0⟩
   .refine .inr ⟨by omega,?_,rfl⟩
    have:=Iv hok' (k:=k) (by omega);rw[Ak hke]at this;show((ls'.find? (Fc ls')).bind List.head?)=none;rw[this];rfl
end Go.Gl
