import Derived.Test.YtcfkfhaedllcpaaGreatU14
import Derived.Test.YtcfkfhaedllcpaaGreatU15
set_option linter.all false
set_option linter.defProp false
set_option maxHeartbeats 8000000
noncomputable section
namespace Go.Gl
open Go.Proofs
attribute [local irreducible] BD A3 Au AS AL Ao AU AV AM An AP AT BF BM Sat Af BK Aw W
def Ys (xs:List Int) (f:Bool) (x:Int):Pure zP 250 [.l (iL xs) f,eI x] (.b (xs.contains x)):=Pure.fit (by kernel_rfl) fun hf=>Vq xs f x (PG hf.1)
def FZ (w:Ap) (f:Fact):Bool:=decide (Bu f 24<=24)&&(decide (C9 f<=12)&&Gk w f)
def W8 (w:Ap) (f:Fact):Pure zP 129 [.a (BC w),.a (xF f)] (.b (FZ w f)):=by
 refine fK kZ ?_
 conv=>whnf
 repeat'((first|clear U K|apply st|(apply zk;intro K U)|refine zn ?_|refine Pure.use (Wj _) ?_|refine za (fun hc=>?_) fun hc=>?_|fail)<;>conv=>whnf)
 .have:=Ls f 24 (by omega) hc
  refine(XI f (by simp only[AX];omega)).use ?_
  conv=>whnf
  repeat'((first|clear U K|apply st|refine zn ?_|refine Pure.use (Yb _ _) ?_|refine za (fun hc=>?_) fun hc=>?_|fail)<;>conv=>whnf)
  .exact AF (by simp[FZ,hc,‹Bu f 24<=24›])
  .exact AF (by simp[FZ, *];intros;omega)
 .exact AF (by simp[FZ];intros;omega)
def aZ (i:Nat) (pre:List Int) (c:Int):Bool:=decide (3<=c)&&(decide (c<3+i)&& !pre.contains c)
def JM (i:Nat):List Int->List Int->Bool
 | _,[]=>true
 | pre,c::r=>aZ i pre c&&JM i (pre++[c]) r
def GL:Nat->List (List Int)->Bool
 | _,[]=>true
 | i,l::r=>decide (l.length<=3)&&(JM i [] l&&GL (i+1) r)
def Cn (g:List (List Int)):Bool:=decide (g.length<=16)&&GL 0 g
def Q5 {ls:List (List Int)} {g:Bool} (h:Dg (.l (Df ls) g)):ls.length<=AX/\ ∀l∈ls,l.length<=AX:=by
 simp only[FK,BW,Gw,C3]at h;exact⟨h.1,fun l hl=>(h.2 l hl).1.1⟩
def Yv (g:List (List Int)) (f:Bool):Pure zP 179 [.l (Df g) f] (.b (Cn g)):=by
 refine Pure.fit (by kernel_rfl) fun hf=>?_
 have⟨g1,g2⟩:=Q5 hf.1;have hM:=Mx;refine fB kZ ?_
 conv=>whnf
 repeat'((first|clear U K|apply st|(apply zk;intro K U)|refine zn ?_|(refine zd (fun hc=>?_) (fun hc=>?_)<;>try exact⟨⟩)|fail)<;>conv=>whnf)
 .exact AF (by simp[Cn];intros;omega)
 .refine Cc g.length (fun k (_:Unit)=>[(3,eI (BU k))]) (fun _ _=>[]) (fun k _=>Cn g=GL k (g.drop k)) () rfl (by simp[Cn];omega) Sat.nil ?_
  rintro k - Z hk hn hs
  conv=>whnf
  repeat'((first|clear U K|apply st|(apply zk;intro K U)|refine zn ?_|(refine fc (fun x hx hlt hc=>?_) (fun hk hc=>?_)<;>(try rw[hc])<;>clear hc)|(refine zd (fun hc=>?_) (fun hc=>?_)<;>try exact⟨⟩)|fail)<;>conv=>whnf)
  .exact AF (by rw[hn,drop_cons hx,GL];simp;intros;omega)
  .revert x
   rintro l hl hl3;have hll:=g2 l (Dx hl);have hn':Cn g=(JM k [] l&&GL (k+1) (g.drop (k+1))):=by rw[hn,drop_cons hl,GL];simp;intros;omega
   refine Cc l.length (fun j (_:Unit)=>[(4,eI (BU j))]) (fun _ _=>[]) (fun j _=>Cn g=(JM k (l.take j) (l.drop j)&&GL (k+1) (g.drop (k+1)))) () rfl (by rw[hn'];rfl) Sat.nil ?_;rintro j - Z hj hm hs
   conv=>whnf
   repeat'((first|clear U K|apply st|(apply zk;intro K U)|refine zn ?_|(refine fc (fun x hx hlt hc=>?_) (fun hk hc=>?_)<;>(try rw[hc])<;>clear hc)|refine Pure.use (Ys _ _ _) ?_|(refine zd (fun hc=>?_) (fun hc=>?_)<;>try exact⟨⟩)|fail)<;>conv=>whnf)
   .exact AF (by rw[hm,drop_cons hx,JM,aZ,hc];simp)
   .refine⟨hlt,(),rfl,?_,Sat.nil⟩
    rw[hm,drop_cons hx,JM,aZ,hc,Aa hx];simp[*]
   .exact AF (by rw[hm,drop_cons hx,JM,aZ];simp;intros;omega)
   .exact AF (by rw[hm,drop_cons hx,JM,aZ];simp;intros;omega)
   .refine⟨by assumption,(),rfl,?_,Sat.nil⟩
    rw[hm,Ax hk,JM,Fv]
  .exact AF (by rw[hn,Ax hk];rfl)
end Go.Gl
namespace Go.Gl
def par (ps:List (List Int)) (c:Nat):List Int:=if c<3 then []else ps.getD (c - 3) []
def ordered (ps:List (List Int)):Prop:= ∀c p,p∈par ps c->3<=p/\p<(c:Int)
def Ux (ps:List (List Int)):Nat->Nat->Nat->Bool
 | 0,c,b=>c==b
 | f+1,c,b=>c==b||(par ps c).any fun p=>Ux ps f p.toNat b
def Kc (ps:List (List Int)) (c b:Nat):Bool:=Ux ps c c b
def H2 {ps:List (List Int)} (ho:ordered ps): ∀(f c b:Nat),c<=f->Ux ps f c b=Kc ps c b
 | 0,c,b,h=>by(obtain rfl:c=0:=by omega);rfl
 | f + 1,c,b,h=>by
   cases c with
   | zero=>
     have:par ps 0= []:=rfl;simp[Kc,Ux,this]
   | succ c=>
     simp only[Kc,Ux];congr 1
     have key: ∀l:List Int,(∀p∈l,p∈par ps (c+1))->(l.any fun p=>Ux ps f p.toNat b)=l.any fun p=>Ux ps c p.toNat b:=by
      intro l hl
      induction l with
      | nil=>rfl
      | cons p r ih=>
        have hp:=ho (c+1) p (hl p (.head _));simp only[aR];rw[ih fun q hq=>hl q (.tail _ hq),H2 ho f p.toNat b (by omega),H2 ho c p.toNat b (by omega)]
     exact key _ fun p hp=>hp
def JP {ps:List (List Int)} (ho:ordered ps) (c b:Nat):Kc ps c b=(c==b||(par ps c).any fun p=>Kc ps p.toNat b):=by
 cases c with
 | zero=>simp[Kc,Ux,par]
 | succ c=>
   simp only[Kc,Ux];congr 1
   have key: ∀l:List Int,(∀p∈l,p∈par ps (c+1))->(l.any fun p=>Ux ps c p.toNat b)=l.any fun p=>Ux ps p.toNat p.toNat b:=by
    intro l hl
    induction l with
    | nil=>rfl
    | cons p r ih=>
      have hp:=ho (c+1) p (hl p (.head _));simp only[aR];rw[ih fun q hq=>hl q (.tail _ hq),H2 ho c p.toNat b (by omega)];rfl
   exact key _ fun p hp=>hp
def LS {ps:List (List Int)} (ho:ordered ps) (c:Nat):Kc ps c c=true:=by rw[JP ho];simp
def bN {ps:List (List Int)} (ho:ordered ps): ∀(c b:Nat),Kc ps c b=true->b<=c:=by
 intro c
 induction c using Nat.strongRecOn with
 | _ c ih=>
   intro b h;rw[JP ho]at h;simp only[Ma,Mb,Ut]at h;rcases h with rfl|⟨p,hp,h⟩
   .omega
   .have:=ho c p hp
    have:=ih p.toNat (by omega) b h;omega
def Tk {ps:List (List Int)} (ho:ordered ps): ∀(a b c:Nat),Kc ps a b=true->Kc ps b c=true->Kc ps a c=true:=by
 intro a
 induction a using Nat.strongRecOn with
 | _ a ih=>
   intro b c h k;rw[JP ho]at h ⊢;simp only[Ma,Mb,Ut]at h ⊢;rcases h with rfl|⟨p,hp,h⟩
   .rw[JP ho]at k
    simpa using k
   .have:=ho a p hp
    exact .inr ⟨p,hp,ih p.toNat (by omega) b c h k⟩
def D5 (bs:List Bool) (i:Nat):List Int->List Bool
 | []=>bs
 | p::r=>D5 (bs.set p.toNat (bs.getD p.toNat false||bs.getD i false)) i r
def I2 (i:Nat): ∀(a b:List Int) (bs:List Bool),D5 bs i (a++b)=D5 (D5 bs i a) i b
 | [],b,bs=>rfl
 | p::r,b,bs=>by simp only[List.cons_append,D5];exact I2 i r b _
def Jo (i:Nat): ∀(l:List Int) (bs:List Bool),(D5 bs i l).length=bs.length
 | [],bs=>rfl
 | p::r,bs=>by simp only[D5];rw[Jo i r];simp
def FQ (ps:List (List Int)) (n c:Nat):Nat->List Bool
 | 0=>(List.replicate n false).set c true
 | k+1=>D5 (FQ ps n c k) (c - k) (par ps (c - k))
def IW (ps:List (List Int)) (n c:Nat): ∀k,(FQ ps n c k).length=n
 | 0=>by simp[FQ]
 | k+1=>by simp only[FQ];rw[Jo,IW ps n c k]
def Iw {bs:List Bool} {j:Nat} {x:Bool} (hj:j<bs.length) (b:Nat):(bs.set j x).getD b false=if b=j then x else bs.getD b false:=by
 simp only[FD,List.getElem?_set];by_cases h:j=b
 .subst h;simp[hj]
 .rw[if_neg h,if_neg (fun e=>h e.symm)]
def Jp {i:Nat}: ∀(l:List Int) (bs:List Bool),(∀p∈l,0<=p/\p.toNat<bs.length/\p.toNat<i)-> ∀b,(D5 bs i l).getD b false=(bs.getD b false||(bs.getD i false&&l.contains (b:Int)))
 | [],bs,_,b=>by simp[D5]
 | p ::r,bs,h,b=>by
   obtain⟨h1,h2,h3⟩:=h p (.head _);simp only[D5];have hi:i≠p.toNat:=by omega
   rw[Jp r _ (fun q hq=>by have:=h q (.tail _ hq);simpa using this),Iw h2,Iw h2,if_neg hi];by_cases hb:b=p.toNat
   .subst hb
    have:((p.toNat:Nat):Int)=p:=by omega
    simp only[if_true,this,List.contains_cons,beq_self_eq_true,Bool.true_or,Bool.and_true];cases bs.getD p.toNat false<;>cases bs.getD i false<;>simp
   .rw[if_neg hb]
    have:((b:Int)==p)=false:=by simp;omega
    simp only[List.contains_cons,this,Bool.false_or]
def PX {ps:List (List Int)} (ho:ordered ps) {n c:Nat} (hc:c<n): ∀k,k<=c - 2->(∀b,(FQ ps n c k).getD b false=true->Kc ps c b=true)/\(FQ ps n c k).getD c false=true/\
    (∀j p,c - k<j->(FQ ps n c k).getD j false=true->p∈par ps j->(FQ ps n c k).getD p.toNat false=true)
 | 0,_=>by
   have hg: ∀b,(FQ ps n c 0).getD b false=decide (b=c):=fun b=>by
    simp only[FQ];rw[Iw (by simpa using hc)];by_cases h:b=c
    .simp[h]
    .rw[if_neg h]
     simp[h,FD,List.getElem?_replicate];split<;>rfl
   refine⟨fun b hb=>?_,by rw[hg];simp,fun j p hj hb hp=>?_⟩
   .rw[hg]at hb
    simp only[DG]at hb;subst hb;exact LS ho _
   .rw[hg]at hb
    simp only[DG]at hb;omega
 | k + 1,hk=>by
   obtain⟨h1,h2,h3⟩:=PX ho hc k (by omega)
   have hpar: ∀p∈par ps (c - k),0<=p/\p.toNat<(FQ ps n c k).length/\p.toNat<c - k:=fun p hp=>by
    have:=ho _ p hp;rw[IW];omega
   have hg: ∀b,(FQ ps n c (k+1)).getD b false=((FQ ps n c k).getD b false||((FQ ps n c k).getD (c - k) false&&(par ps (c - k)).contains (b:Int))):=fun b=>by
    simp only[FQ];exact Jp _ _ hpar b
   refine⟨fun b hb=>?_,by rw[hg,h2];rfl,fun j p hj hb hp=>?_⟩
   .rw[hg]at hb
    simp only[Ma,Ba,List.contains_iff_mem]at hb;rcases hb with hb|⟨hb,hm⟩
    .exact h1 b hb
    .refine Tk ho c (c - k) b (h1 _ hb) ?_
     rw[JP ho];simp only[Ma,Ut];exact .inr ⟨b,hm,by simpa using LS ho b⟩
   .have hjp:=ho j p hp
    have hb':(FQ ps n c k).getD j false=true:=by
     rw[hg]at hb;simp only[Ma,Ba,List.contains_iff_mem]at hb;rcases hb with hb|⟨_,hm⟩
     .exact hb
     .have:=ho _ _ hm
      omega
    rw[hg];by_cases e:j=c - k
    .subst e
     rw[hb'];have:((p.toNat:Nat):Int)=p:=by omega
     simp only[this,Fv,Ma,List.contains_iff_mem];exact .inr hp
    .rw[h3 j p (by omega) hb' hp]
     rfl
def SW {ps:List (List Int)} (ho:ordered ps) {n c:Nat} (hc:c<n) (b:Nat):(FQ ps n c (c - 2)).getD b false=Kc ps c b:=by
 obtain⟨h1,h2,h3⟩:=PX ho hc (c - 2) (JE _)
 have key: ∀a,(FQ ps n c (c - 2)).getD a false=true-> ∀b,Kc ps a b=true->(FQ ps n c (c - 2)).getD b false=true:=by
  intro a
  induction a using Nat.strongRecOn with
  | _ a ih=>
    intro ha b hb;rw[JP ho]at hb;simp only[Ma,Mb,Ut]at hb;rcases hb with rfl|⟨p,hp,hb⟩
    .exact ha
    .have:=ho a p hp
     exact ih p.toNat (by omega) (h3 a p (by omega) ha hp) b hb
 cases hb:Kc ps c b with
 | true=>exact key c h2 b hb
 | false=>
   cases hq:(FQ ps n c (c - 2)).getD b false with
   | false=>rfl
   | true=>rw[h1 b hq]at hb;cases hb
end Go.Gl
namespace Go.Gl
open Go.Proofs
attribute [local irreducible] BD A3 Au AS AL Ao AU AV AM An AP AT BF BM Sat Af BK Aw W
def pick (ls:List (List Int)):Option Int:=(ls.find? fun l=>match l with| []=>false|x::_=>free ls x).bind List.head?
def total (ls:List (List Int)):Nat:=(ls.map List.length).sum
def CQ:Nat->List (List Int)->List Int->List Int×Bool
 | 0,ls,out=>(out,ls.all List.isEmpty)
 | n+1,ls,out=>match pick ls with
   | none=>(out,ls.all List.isEmpty)
   | some x=>CQ n (ls.map fun l=>l.filter (· != x)) (out++[x])
def Bl (ls:List (List Int)):List Int×Bool:=CQ (total ls) ls []
def GB {ls:List (List Int)} {x:Int} (h:pick ls=some x):total (ls.map fun l=>l.filter (· != x))<total ls:=by
 unfold pick at h;rw[Option.bind_eq_some_iff]at h;obtain⟨l,h1,h2⟩:=h;have hm:=List.mem_of_find?_eq_some h1;clear h1;cases l with
 | nil=>cases h2
 | cons y r=>
   simp only[List.head?_cons,HQ]at h2;subst h2
   have hle: ∀ls:List (List Int),total (ls.map fun l=>l.filter (· != y))<=total ls:=fun ls=>by
    induction ls with
    | nil=>simp[total]
    | cons a bs ih=>
      have:=Xh (· != y) a;simp only[total,Fw,List.sum_cons]at *;omega
   induction ls with
   | nil=>cases hm
   | cons a bs ih=>
     rcases HV.1 hm with rfl|hm
     .have h1:=hle bs
      have h2:=Xh (· != y) r;simp only[total,Fw,List.sum_cons]at *;have:((y::r).filter (· != y)).length<=r.length:=by simpa using h2
      simp only[Om];omega
     .have h1:=ih hm
      have h2:=Xh (· != y) a;simp only[total,Fw,List.sum_cons]at *;omega
def JI (ls:List (List Int)):Prop:=ls.length<=1000000/\ ∀l∈ls,l.length<=AX/\ ∀x∈l,0<=x
def JI.filter {ls:List (List Int)} (h:JI ls) (x:Int):JI (ls.map fun l=>l.filter (· != x)):=by
 refine⟨by rw[BW];exact h.1,fun l hl=>?_⟩;obtain⟨l',hl',rfl⟩:=Ol.1 hl;obtain⟨h1,h2⟩:=h.2 l' hl';exact⟨Nat.le_trans (Xh _ _) h1,fun y hy=>h2 y (Zd.1 hy).1⟩
def Cp (ls:List (List Int)) (k:Nat):Int:=((((ls.take k).find? fun l=>match l with| []=>false|x::_=>free ls x).bind List.head?).getD (-1))
def QM : ∀ (n:Nat) (ls:List (List Int)) (out:List Int),total ls<=n->CQ n ls out=CQ (total ls) ls out:=by
 intro n
 induction n using Nat.strongRecOn with
 | _ n ih=>
   intro ls out hn;by_cases he:total ls=n
   .rw[he]
   .cases n with
    | zero=>omega
    | succ n=>
      cases hp:pick ls with
      | none=>
        cases ht:total ls with
        | zero=>simp[CQ,hp]
        | succ m=>simp[CQ,hp]
      | some x=>
        have h1:=GB hp;cases ht:total ls with
        | zero=>omega
        | succ m=>
          simp only[CQ,hp];rw[ih n (by omega) _ _ (by omega),ih m (by omega) _ _ (by omega)]
def KD {ls:List (List Int)} {x:Int} {out:List Int} (hp:pick ls=some x):CQ (total ls) ls out=CQ (total (ls.map fun l=>l.filter (· != x))) (ls.map fun l=>l.filter (· != x)) (out++[x]):=by
 have h1:=GB hp;cases ht:total ls with
 | zero=>omega
 | succ m=>
   simp only[CQ,hp];exact QM m _ _ (by omega)
def Lx {ls:List (List Int)} {out:List Int} (hp:pick ls=none):CQ (total ls) ls out=(out,ls.all List.isEmpty):=by
 cases ht:total ls with
 | zero=>rfl
 | succ m=>simp only[CQ,hp]
def Dk (ls:List (List Int)) (l:List Int):Bool:=match l with| []=>false|x::_=>free ls x
def Fm (ls:List (List Int)) (k:Nat):Cp ls k=(((ls.take k).find? (Dk ls)).bind List.head?).getD (-1):=rfl
def GD {ls:List (List Int)} (hok:JI ls) {k:Nat} (h:Cp ls k<0):(ls.take k).find? (Dk ls)=none:=by
 rw[Fm]at h;cases hf:(ls.take k).find? (Dk ls)with
 | none=>rfl
 | some l=>
   rw[hf]at h;have hm:=List.mem_of_mem_take (List.mem_of_find?_eq_some hf);have hg:=List.find?_some hf;cases l with
   | nil=>cases hg
   | cons x r=>
     have:=(hok.2 _ hm).2 x (.head _);simp at h;omega
def QK {ls:List (List Int)} (hok:JI ls) {k:Nat} (hk:k<ls.length) (h:Cp ls k<0):Cp ls (k+1)=if Dk ls ls[k]then(ls[k].head?).getD (-1)else -1:=by
 rw[Fm,List.take_succ_eq_append_getElem hk,List.find?_append,GD hok h];by_cases hg:Dk ls ls[k]=true
 .simp[hg]
 .simp[hg]
def Lq {ls:List (List Int)} {k:Nat} (h:0<=Cp ls k):pick ls=some (Cp ls k):=by
 rw[Fm]at *;show((ls.find? (Dk ls)).bind List.head?)=_;cases hf:(ls.take k).find? (Dk ls)with
 | none=>rw[hf]at h;simp at h
 | some l=>
   have h1:ls.find? (Dk ls)=some l:=by
    have:=List.take_append_drop k ls;rw[<-this,List.find?_append,this,hf];rfl
   rw[h1];rw[hf]at h;cases l with
   | nil=>simp at h
   | cons x r=>simp
def Gy {ls:List (List Int)} (hok:JI ls) {k:Nat} {l:List Int} (hl:ls[k]? =some l) (h:Cp ls k<0):Cp ls (k+1)=if Dk ls l then(l.head?).getD (-1)else -1:=by
 obtain⟨hk,rfl⟩:=KT.1 hl;exact QK hok hk h
def Tl {ls:List (List Int)} {l:List Int} (h:l∈ls):l.length<=total ls:=by
 induction ls with
 | nil=>cases h
 | cons a r ih=>
   simp only[total,Fw,List.sum_cons]at *;rcases HV.1 h with rfl|h
   .omega
   .have:=ih h;omega
def Wo (ls:List (List Int)) (f:Bool) (hok:JI ls) (ht:total ls<AX):Pure zP 290 [.l (Df ls) f] (.t [.l (iL (Bl ls).1) false,.b (Bl ls).2]):=by
 have hM:=Mx;refine dj kZ ?_
 conv=>whnf
 repeat((first|(refine Cs ?_;intro K U)|(refine By ?_;intro KR KP hR hP)|(refine hR _ _ ?_;clear hP;clear KP;clear hR;clear KR)|refine Cw ?_|refine EW ?_|(apply U;clear U K)|fail);conv=>whnf)
 refine LC (fun(x:List (List Int)×Bool×V×List Int)=>total x.1) (fun x=>[(0,.l (Df x.1) x.2.1),(4,x.2.2.1)]) (fun x=>[.own x.2.2.1 1 (iL x.2.2.2)])
  (fun x=>JI x.1/\x.2.2.2.length+total x.1<=total ls/\CQ (total x.1) x.1 x.2.2.2=Bl ls) (ls,f,.l [] true,[]) rfl ⟨hok,by simp,rfl⟩ (Gg Sat.nil 1) ?_
 rintro⟨ls',f',v,out⟩ Z ⟨hok',hlen,hm⟩ hs;dsimp only at hok' hlen hm hs;have hlm:ls'.length<=AX:=by have:=hok'.1;omega
 conv=>whnf
 repeat((first|(refine Cs ?_;intro K U)|(refine By ?_;intro KR KP hR hP)|(refine hR _ _ ?_;clear hP;clear KP;clear hR;clear KR)|refine Cw ?_|refine EW ?_|(apply U;clear U K)|fail);conv=>whnf)
 have hJ :=Mi U (fun(y:Int×Bool)=>[(5,.i .i64 y.1),(6,.b y.2)]) (fun _=>[.own v 1 (iL out)]) (fun y=>(0<=y.1/\pick ls'=some y.1)\/(y.1<0/\pick ls'=none/\y.2=ls'.any fun l=> !l.isEmpty))
  [(0,.l (Df ls') f'),(4,v),(5,.pn),(6,.pn)] (by
  rintro⟨nx,lf⟩ Z hor hs;dsimp only at hor
  conv=>whnf
  repeat((first|refine⟨rfl,?_⟩|(refine Cs ?_;intro K U)|(refine By ?_;intro KR KP hR hP)|(refine hR _ _ ?_;clear hP;clear KP;clear hR;clear KR)|refine DE ?_|(apply U;clear U K)|fail);conv=>whnf)
  refine fork (fun hneg=>?_) (fun hneg=>?_)
  .conv=>whnf
   repeat((first|(refine Cs ?_;intro K U)|(refine By ?_;intro KR KP hR hP)|(refine hR _ _ ?_;clear hP;clear KP;clear hR;clear KR)|refine Hz ?_|(apply U;clear U K)|(clear U K));conv=>whnf)
   rcases hor with⟨h0,_⟩|⟨_,hp,rfl⟩
   .omega
   .rw[Lx hp]at hm
    refine B1 ?_;rw[<-hm];refine .t (.cons (hs.HR 0 rfl) (.cons ?_ .nil));have:(!ls'.any fun l=> !l.isEmpty)=ls'.all List.isEmpty:=by simp[List.all_eq_not_any_not]
    rw[<-this];exact .refl _
  .conv=>whnf
   repeat((first|(refine Cs ?_;intro K U)|(refine By ?_;intro KR KP hR hP)|refine DZ ?_|(apply U;clear U K)|fail);conv=>whnf)
   rcases hor with⟨_,hp⟩|⟨h0,_⟩
   .have hlt:=GB hp
    refine E0 hs 0 (x:=nx) rfl (by omega) B8 fun v' Z hs=>?_
    conv=>whnf
    repeat((first|(refine Cs ?_;intro K U)|(refine By ?_;intro KR KP hR hP)|(refine hR _ _ ?_;clear hP;clear KP;clear hR;clear KR)|refine Cw ?_|refine EW ?_|(apply U;clear U K)|fail);conv=>whnf)
    refine Cc ls'.length (fun k u=>[(8,u),(9,eI (BU k))]) (fun k u=>[.own v' 1 (iL (out++[nx])),.own u 1 (Df ((ls'.take k).map fun l=>l.filter (· != nx)))]) (fun _ _=>True) (.l [] true) rfl trivial (Gg hs 1) ?_;rintro k u Z hk - hs
    conv=>whnf
    repeat((first|refine⟨rfl,?_⟩|refine Hb ?_|(refine Cs ?_;intro K U)|(refine By ?_;intro KR KP hR hP)|(refine hR _ _ ?_;clear hP;clear KP;clear hR;clear KR)|refine DE ?_|(apply U;clear U K)|fail);conv=>whnf)
    refine Ej hk hlm (fun l hl hlt'=>?_) fun hk=>?_
    .conv=>whnf
     repeat((first|(refine Cs ?_;intro K U)|(refine By ?_;intro KR KP hR hP)|refine DZ ?_|refine Cw ?_|(apply U;clear U K)|fail);conv=>whnf)
     refine Gi hl hlm rfl ?_
     conv=>whnf
     repeat((first|refine DX ?_|fail);conv=>whnf)
     refine(Lh _ _ _ (hok'.2 _ (Dx hl)).1).use ?_
     conv=>whnf
     refine E0 hs 1 (x:=l.filter (· != nx)) rfl (by have:=hok'.1;simp;omega) CM fun u' Z' hs'=>?_
     conv=>whnf
     repeat((first|refine⟨rfl,?_⟩|(refine By ?_;intro KR KP hR hP)|(refine hR _ _ ?_;clear hP;clear KP;clear hR;clear KR)|(apply U;clear U K)|(clear U K));conv=>whnf)
     refine⟨hlt',u',rfl,trivial,?_⟩;rw[Aa hl,R8];exact hs'
    .rw[BN hk]at hs
     conv=>whnf
     repeat((first|(refine By ?_;intro KR KP hR hP)|refine EX ?_|(apply U;clear U K)|(clear U K));conv=>whnf)
     refine bD hs 1 rfl fun Z' hs'=>?_
     conv=>whnf
     repeat((first|(refine hR _ _ ?_;clear hP;clear KP;clear hR;clear KR)|fail);conv=>whnf)
     refine⟨(ls'.map fun l=>l.filter (· != nx),false,v',out++[nx]),hlt,rfl,⟨hok'.filter nx,by simp;omega,?_⟩,hs'⟩;rw[<-KD hp];exact hm
   .omega)
 clear U
 .refine Cc ls'.length (fun k (_:Unit)=>[(5,.i .i64 (Cp ls' k)),(6,.b ((ls'.take k).any fun l=> !l.isEmpty)),(7,eI (BU k))]) (fun _ _=>[.own v 1 (iL out)]) (fun _ _=>True) () rfl trivial hs ?_
  rintro k - Z hk - hs
  conv=>whnf
  repeat((first|refine⟨rfl,?_⟩|refine Hb ?_|(refine Cs ?_;intro K U)|(refine By ?_;intro KR KP hR hP)|fail);conv=>whnf)
  refine⟨fun h=>?_,fun h=>?_⟩<;>(try rw[h])
  .have hlt:=of_decide_eq_true h
   rw[AJ (by have:=hok'.1;omega)]at hlt;have hlt:=Vm hlt;have hl:=D2 hlt;have hb:=hok'.2 _ (List.getElem_mem hlt);generalize ls'[k]=l at *
   conv=>whnf
   repeat((first|refine⟨rfl,?_⟩|refine Hx ?_|(refine hR _ _ ?_;clear hP;clear KP;clear hR;clear KR)|refine DE ?_|(apply U;clear U K)|fail);conv=>whnf)
   refine fork (fun hneg=>?_) (fun hneg=>?_)
   .conv=>whnf
    repeat((first|(refine Cs ?_;intro K U)|(refine By ?_;intro KR KP hR hP)|refine DZ ?_|refine Cw ?_|(apply U;clear U K)|fail);conv=>whnf)
    refine Gi hl hlm rfl ?_
    conv=>whnf
    repeat((first|refine⟨rfl,?_⟩|refine DX ?_|refine Hb ?_|(refine hR _ _ ?_;clear hP;clear KP;clear hR;clear KR)|refine DE ?_|(apply U;clear U K)|fail);conv=>whnf)
    refine fork (fun hp=>?_) (fun hp=>?_)
    .simp only[BW]at hp
     obtain⟨x,r,rfl⟩: ∃x r,l=x::r:=by cases l with
      | nil=>simp at hp
      | cons x r=>exact⟨x,r,rfl⟩
     have hany:((ls'.take (k+1)).any fun l=> !l.isEmpty)=true:=by
      rw[Aa hl];simp
     conv=>whnf
     repeat((first|(refine Cs ?_;intro K U)|(refine By ?_;intro KR KP hR hP)|(refine hR _ _ ?_;clear hP;clear KP;clear hR;clear KR)|(apply U;clear U K)|fail);conv=>whnf)
     refine Gi hl hlm rfl ?_
     conv=>whnf
     repeat((first|refine DX ?_|fail);conv=>whnf)
     refine O5 0 rfl rfl rfl ?_
     conv=>whnf
     repeat((first|refine DX ?_|fail);conv=>whnf)
     refine(ZA _ _ _ hlm fun l hl=>(hok'.2 l hl).1).use ?_
     conv=>whnf
     repeat((first|(refine hR _ _ ?_;clear hP;clear KP;clear hR;clear KR)|refine DE ?_|(apply U;clear U K)|fail);conv=>whnf)
     refine⟨fun hf=>?_,fun hf=>?_⟩
     .conv=>whnf
      repeat((first|(refine By ?_;intro KR KP hR hP)|fail);conv=>whnf)
      refine Gi hl hlm rfl ?_
      conv=>whnf
      repeat((first|refine DX ?_|fail);conv=>whnf)
      refine O5 0 rfl rfl rfl ?_
      conv=>whnf
      repeat((first|refine⟨rfl,?_⟩|refine DX ?_|(refine By ?_;intro KR KP hR hP)|(refine hR _ _ ?_;clear hP;clear KP;clear hR;clear KR)|(apply U;clear U K)|fail);conv=>whnf)
      refine⟨hlt,(),?_,trivial,hs⟩;have:Cp ls' (k+1)=x:=by rw[Gy hok' hl hneg];simp[Dk,hf]
      dsimp only;rw[this,hany];rfl
     .conv=>whnf
      repeat((first|refine⟨rfl,?_⟩|(refine By ?_;intro KR KP hR hP)|(refine hR _ _ ?_;clear hP;clear KP;clear hR;clear KR)|refine DZ ?_|(apply U;clear U K)|fail);conv=>whnf)
      refine⟨hlt,(),?_,trivial,hs⟩;have:Cp ls' (k+1)=Cp ls' k:=by rw[Gy hok' hl hneg,Fm ls' k,GD hok' hneg];simp[Dk,hf]
      dsimp only;rw[this,hany];rfl
    .simp only[BW]at hp
     obtain rfl:l= []:=XY.1 (by omega)
     conv=>whnf
     repeat((first|refine⟨rfl,?_⟩|(refine By ?_;intro KR KP hR hP)|(refine hR _ _ ?_;clear hP;clear KP;clear hR;clear KR)|refine DZ ?_|(apply U;clear U K)|fail);conv=>whnf)
     refine⟨hlt,(),?_,trivial,hs⟩;have:Cp ls' (k+1)=Cp ls' k:=by rw[Gy hok' hl hneg,Fm ls' k,GD hok' hneg];simp[Dk]
     have hany:((ls'.take (k+1)).any fun l=> !l.isEmpty)=((ls'.take k).any fun l=> !l.isEmpty):=by
      rw[Aa hl,List.any_append];simp
     dsimp only;rw[this,hany];rfl
   .conv=>whnf
    repeat((first|refine EX ?_|(clear U K));conv=>whnf)
    refine hJ (Cp ls' k,(ls'.take k).any fun l=> !l.isEmpty) _ _ rfl (.inl ⟨by omega,?_⟩) hs;exact Lq (by omega)
  .have hlt:=of_decide_eq_false h
   rw[AJ (by have:=hok'.1;omega)]at hlt;have hke:=S1 hk hlt
   conv=>whnf
   repeat((first|refine Hy ?_|(refine hR _ _ ?_;clear hP;clear KP;clear hR;clear KR)|refine DE ?_|refine EX ?_|(apply U;clear U K)|(clear U K));conv=>whnf)
   refine hJ (Cp ls' k,(ls'.take k).any fun l=> !l.isEmpty) _ _ rfl ?_ hs;rw[BN hke];by_cases h0:0<=Cp ls' k
   .exact .inl ⟨h0,Lq h0⟩
   .refine .inr ⟨by omega,?_,rfl⟩
    have:=GD hok' (k:=k) (by omega);rw[BN hke]at this;show((ls'.find? (Dk ls')).bind List.head?)=none;rw[this];rfl
def C2 (g os:List (List Int)) (c:Int):List Int:=
 match DD g os c with
 | none=>[]
 | some l=>if(Bl l).2 then [c]++(Bl l).1++[0]else []
def BH (g:List (List Int)):Nat->List (List Int)
 | 0=>[[0]]
 | k+1=>BH g k++[C2 g (BH g k) ((k:Int)+1)]
def Be (g:List (List Int)):List (List Int):=BH g (2+g.length)
def GN (g:List (List Int)):Prop:=g.length<=16/\ ∀(i:Nat) (l:List Int),g[i]? =some l->l.length<=3/\l.Nodup/\ ∀c∈l,(3:Int)<=c/\c<3+(i:Int)
def Bz (g:List (List Int)): ∀k,(BH g k).length=k+1
 | 0=>rfl
 | k+1=>by simp[BH,Bz g k]
def GF: ∀(n:Nat) (ls:List (List Int)) (out:List Int),(CQ n ls out).1.length<=out.length+n
 | 0,ls,out=>by simp[CQ]
 | n + 1,ls,out=>by
   simp only[CQ];split
   .simp
   .rename_i x _
    have:=GF n (ls.map fun l=>l.filter (· != x)) (out++[x]);simp only[Uw,List.length_singleton]at this;refine Nat.le_trans this ?_;omega
def QJ {ls:List (List Int)} (h: ∀l∈ls,∀x∈l,(0:Int)<=x) {x:Int} (hp:pick ls=some x):0<=x:=by
 unfold pick at hp;rw[Option.bind_eq_some_iff]at hp;obtain⟨l,h1,h2⟩:=hp;have hm:=List.mem_of_find?_eq_some h1;cases l with
 | nil=>cases h2
 | cons y r=>cases h2;exact h _ hm _ (.head _)
def Hg: ∀(n:Nat) (ls:List (List Int)) (out:List Int),(∀l∈ls,∀x∈l,(0:Int)<=x)->(∀x∈out,(0:Int)<=x)-> ∀x∈(CQ n ls out).1,(0:Int)<=x
 | 0,ls,out,_,h2=>h2
 | n + 1,ls,out,h1,h2=>by
   simp only[CQ];split
   .exact h2
   .rename_i y hy
    refine Hg n _ _ (fun l hl x hx=>?_) fun x hx=>?_
    .obtain⟨l',hl',rfl⟩:=Ol.1 hl
     exact h1 _ hl' _ (Zd.1 hx).1
    .rcases FC.1 hx with hx|hx
     .exact h2 x hx
     .rw[ME.1 hx];exact QJ h1 hy
def Cg {g:List (List Int)} (hg:GN g) {c p:Int} (hp:p∈Ai g c):3<=p/\p<c:=by
 unfold Ai at hp;split at hp
 .cases hp
 .rename_i hc
  rw[FD]at hp;cases hq:g[(c - 3).toNat]? with
  | none=>rw[hq]at hp;cases hp
  | some l=>
    rw[hq]at hp;obtain⟨_,_,h⟩:=hg.2 _ _ hq;have:=h p hp;omega
def CH {g:List (List Int)} (hg:GN g) (c:Int):(Ai g c).length<=3:=by
 unfold Ai;split
 .simp
 .rw[FD]
  cases hq:g[(c - 3).toNat]? with
  | none=>simp
  | some l=>exact(hg.2 _ _ hq).1
def FB {g os:List (List Int)} {c:Int} {ls:List (List Int)} (h:DD g os c=some ls):ls=(Ai g c).map (fun p=>(os.getD p.toNat []).filter (· != 0))++[Ai g c]:=by
 unfold DD at h;split at h
 .cases h
 .exact(Option.some.inj h).symm
def Pt {os:List (List Int)} {B:Nat} (h: ∀o∈os,o.length<=B) (n:Nat):(os.getD n []).length<=B:=by
 rw[FD];cases hq:os[n]? with
 | none=>simp
 | some l=>exact h _ (Dx hq)
def LY {os:List (List Int)} {Q:Int->Prop} (h: ∀o∈os,∀x∈o,Q x) (n:Nat): ∀x∈os.getD n [],Q x:=by
 rw[FD];cases hq:os[n]? with
 | none=>simp
 | some l=>exact h _ (Dx hq)
def D1 {g os:List (List Int)} {c:Int} {ls:List (List Int)} (h:DD g os c=some ls) {B:Nat} (hB: ∀o∈os,o.length<=B):total ls<=(Ai g c).length*(B+1):=by
 rw[FB h];simp only[total,R8,List.map_map,List.sum_append,Fw,List.map_nil,List.sum_cons,List.sum_nil,Nat.add_zero]
 have: ∀ps:List Int,(ps.map (List.length∘fun p=>(os.getD p.toNat []).filter (· != 0))).sum<=ps.length*B:=fun ps=>by
  induction ps with
  | nil=>simp
  | cons p r ih=>
    simp only[Fw,List.sum_cons,Function.comp,Om,Nat.succ_mul];have h1:=Xh (· != 0) (os.getD p.toNat []);have h2:=Pt hB p.toNat;simp only[Function.comp_def]at *;omega
 have:=this (Ai g c);rw[Nat.mul_add,Nat.mul_one];simp only[Function.comp_def]at *;omega
def QL {g os:List (List Int)} {c:Int} {B:Nat} (hB: ∀o∈os,o.length<=B):(C2 g os c).length<=(Ai g c).length*(B+1)+2:=by
 unfold C2;split
 .simp
 .rename_i ls h
  have h1:=D1 h hB;have h2:=GF (total ls) ls [];simp only[List.length_nil,Ex]at h2;split
  .simp only[Uw,List.length_singleton,Bl]
   omega
  .simp
def MB {g os:List (List Int)} {c:Int} (hg:GN g) (hc:0<=c) (h: ∀o∈os,∀x∈o,(0:Int)<=x): ∀x∈C2 g os c,0<=x:=by
 unfold C2;split
 .simp
 .rename_i ls hl
  split
  .intro x hx
   have hls: ∀l∈ls,∀x∈l,(0:Int)<=x:=by
    rw[FB hl];intro l hl x hx;rcases FC.1 hl with hl|hl
    .obtain⟨p,_,rfl⟩:=Ol.1 hl
     exact LY h p.toNat x (Zd.1 hx).1
    .rw[ME.1 hl]at hx
     have:=Cg hg hx;omega
   simp only[FC,ME]at hx;rcases hx with(rfl|hx)|rfl
   .exact hc
   .exact Hg _ _ _ hls (by simp) x hx
   .exact Int.le_refl _
  .simp
def Gh (k:Nat):Nat:=5*3 ^ (k - 3) - 3
def bf (n:Nat):1<=3 ^ n:=Nat.one_le_pow _ _ (by omega)
def GJ {g : List (List Int)} (hg:GN g): ∀(k:Nat),∀o∈BH g k,o.length<=Gh k/\ ∀x∈o,(0:Int)<=x
 | 0,o,ho=>by
   simp only[BH,ME]at ho;subst ho;simp[Gh]
 | k + 1,o,ho=>by
   have ih:=GJ hg k
   have hmono:Gh k<=Gh (k+1):=by
    unfold Gh;have:3 ^ (k - 3)<=3 ^ (k+1 - 3):=Nat.pow_le_pow_right (by omega) (by omega);omega
   simp only[BH,FC,ME]at ho;rcases ho with ho|rfl
   .exact⟨Nat.le_trans (ih o ho).1 hmono,(ih o ho).2⟩
   .refine⟨?_,MB hg (by omega) fun o ho=>(ih o ho).2⟩
    have h1:=QL (g:=g) (c:=(k:Int)+1) fun o ho=>(ih o ho).1
    by_cases hk:k<3
    .have:Ai g ((k:Int)+1)= []:=by
      apply List.eq_nil_iff_forall_not_mem.2;intro p hp;have:=Cg hg hp;omega
     rw[this]at h1
     have:Gh (k+1)=2:=by
      have:k+1 - 3=0:=by omega
      simp[Gh,this]
     simpa[this]using h1
    .have h2:=CH hg ((k:Int)+1)
     have h3:(Ai g ((k:Int)+1)).length*(Gh k+1)<=3*(Gh k+1):=Oj _ h2;have:k+1 - 3=(k - 3)+1:=by omega
     unfold Gh at *;rw[this,Nat.pow_succ];have:=bf (k - 3);omega
def TA {k:Nat} (h:k<=18):Gh k<=71744535:=by
 unfold Gh;have:3 ^ (k - 3)<=3 ^ 15:=Nat.pow_le_pow_right (by omega) (by omega);have e:(3:Nat) ^ 15=14348907:=by decide
 omega
def Dc {g:List (List Int)}: ∀ {k j:Nat},j<=k->(BH g k)[j]? =(BH g j)[j]?
 | 0,j,h=>by(obtain rfl:j=0:=by omega);rfl
 | k+1,j,h=>by
   by_cases e:j=k+1
   .subst e;rfl
   .rw[<-Dc (k:=k) (by omega),BH,fV (by rw[Bz];omega)]
def Rg {g os:List (List Int)} {c:Int} {ls:List (List Int)} (hg:GN g) (h:DD g os c=some ls) {B:Nat} (hB: ∀o∈os,o.length<=B/\ ∀x∈o,(0:Int)<=x) (hb:B<=100000000):JI ls/\total ls<AX:=by
 have h3:=CH hg c;have ht:=D1 h fun o ho=>(hB o ho).1
 have:(Ai g c).length*(B+1)<=3*(B+1):=Oj _ h3;have htl:total ls<AX:=by simp only[AX];omega
 refine⟨⟨?_,fun l hl=>⟨?_,?_⟩⟩,htl⟩
 .rw[FB h]
  simp only[Uw,BW,List.length_singleton,AX];omega
 .have:=Tl hl
  simp only[AX]at *;omega
 .intro x hx
  rw[FB h]at hl;rcases FC.1 hl with hl|hl
  .obtain⟨p,_,rfl⟩:=Ol.1 hl
   exact LY (fun o ho=>(hB o ho).2) p.toNat x (Zd.1 hx).1
  .rw[ME.1 hl]at hx
   have:=Cg hg hx;omega
def Tz (g : List (List Int)) (f:Bool) (hg:GN g):Pure zP 251 [.l (Df g) f] (.l (Df (Be g)) false):=by
 refine eH kZ ?_
 conv=>whnf
 repeat((first|clear U K|apply st|(apply zk;intro K U)|fail);conv=>whnf)
 have hg16:=hg.1;have hgm:g.length<=AX:=by simp only[AX];omega
 refine⟨.l (Df [[0]]) true,emp,fun _ _ h=>h,.l (fun _=>rfl) (.cons (.cons (.l (fun h=>(by cases h)) (.refl _ _ _)) .nil) .nil),?_⟩;refine zh ?_;(repeat clear U K);repeat intro K U
 refine Cc (2+g.length) (fun k v=>[(3,v),(4,eI (Nk 1 k))]) (fun k v=>[.own v 1 (Df (BH g k))]) (fun _ _=>True) (.l (Df [[0]]) true) rfl trivial (bC Sat.nil (by simp)) ?_;rintro k v Z hk - hs;have hc1:Nk 1 k=(k:Int)+1:=by rw[OQ (by omega) (by omega)];omega
 have hw:IntKind.i64.wrap (3+((Df g).length:Nat))=3+(g.length:Int):=by rw[BW,wrap64 (by omega) (by omega)]
 refine zh ?_;(repeat clear U K);repeat intro K U
 rw[hc1];rw[hw];refine fork (fun hlt=>?_) (fun hlt=>?_)
 .have hlt':k<2+g.length:=by omega
  have hB:=GJ hg k;have hb18:Gh k<=71744535:=TA (by omega);have hc2:Nk 1 (k+1)=IntKind.i64.wrap ((k:Int)+1+1):=by rw[Nk,hc1]
  refine zh ?_;(repeat clear U K);repeat intro K U
  refine⟨.l (iL []) false,Z,fun _ _ h=>h,.l (fun h=>(by cases h)) (.refl _ _ _),?_⟩
  conv=>whnf
  repeat((first|clear U K|apply st|(apply zk;intro K U)|fail);conv=>whnf)
  refine(Ws g (BH g k) f v ((k:Int)+1) (by omega) hgm (fun o ho=>by have:=(hB o ho).1;simp only[AX];omega) (by have:=CH hg ((k:Int)+1);omega)
   (fun p hp=>by have:=Cg hg hp;rw[Bz];omega)).use (rest:=[]) hs ?_
  rintro r post Z' ⟨rfl,rfl⟩ hs;cases hl:DD g (BH g k) ((k:Int)+1)with
  | none=>
    refine zh ?_;(repeat clear U K);repeat intro K U
    refine E0 hs 0 (x:=[]) rfl (by rw[Bz];simp only[AX];omega) CM fun v' Z' hs'=>?_
    conv=>whnf
    refine⟨v',Z',fun _ _ h=>h,.refl _,?_⟩;refine zh ?_;(repeat clear U K);repeat intro K U
    refine⟨hlt',v',?_,trivial,?_⟩
    .skip
     rw[hc2];rfl
    .have:C2 g (BH g k) ((k:Int)+1)= []:=by simp[C2,hl,]
     rw[BH,this];exact hs'
  | some ls=>
    obtain⟨hok,htot⟩:=Rg hg hl hB (by omega);refine zh ?_;(repeat clear U K);repeat intro K U
    refine(Wo ls false hok htot).use ?_;have hml:=GF (total ls) ls [];simp only[List.length_nil,Ex]at hml;refine zh ?_;(repeat clear U K);repeat intro K U
    refine⟨fun h=>?_,fun h=>?_⟩<;>(try rw[h])
    .conv=>whnf
     repeat((first|clear U K|(apply zk;intro K U)|fail);conv=>whnf)
     refine PD (bC hs (by simp)) 1 (xs:=[(k:Int)+1]) rfl (by simp[Bl];have:=D1 hl fun o ho=>(hB o ho).1;have h3:=CH hg ((k:Int)+1);have:(Ai g ((k:Int)+1)).length*(Gh k+1)<=3*(Gh k+1):=Oj _ h3;simp only[AX]at *;omega) B8 fun u Z1 hs=>?_
     conv=>whnf
     refine E0 hs 1 (x:=0) rfl (by simp[Bl];have:=D1 hl fun o ho=>(hB o ho).1;have h3:=CH hg ((k:Int)+1);have:(Ai g ((k:Int)+1)).length*(Gh k+1)<=3*(Gh k+1):=Oj _ h3;simp only[AX]at *;omega) B8 fun u Z1 hs=>?_
     conv=>whnf
     refine bD hs 1 rfl fun Z' hs=>?_
     conv=>whnf
     repeat((first|clear U K|apply st|(apply zk;intro K U)|fail);conv=>whnf)
     refine E0 hs 0 (x:=([(k:Int)+1]++(Bl ls).1++[0])) rfl (by rw[Bz];simp only[AX];omega) CM fun v' Z' hs'=>?_
     conv=>whnf
     refine⟨v',Z',fun _ _ h=>h,.refl _,?_⟩;refine zh ?_;(repeat clear U K);repeat intro K U
     refine⟨hlt',v',?_,trivial,?_⟩
     .skip
      rw[hc2];rfl
     .have:C2 g (BH g k) ((k:Int)+1)=([(k:Int)+1]++(Bl ls).1++[0]):=by simp[C2,hl,h]
      rw[BH,this];exact hs'
    .refine zh ?_;(repeat clear U K);repeat intro K U
     refine E0 hs 0 (x:=[]) rfl (by rw[Bz];simp only[AX];omega) CM fun v' Z' hs'=>?_
     conv=>whnf
     refine⟨v',Z',fun _ _ h=>h,.refl _,?_⟩;refine zh ?_;(repeat clear U K);repeat intro K U
     refine⟨hlt',v',?_,trivial,?_⟩
     .skip
      rw[hc2];rfl
     .have:C2 g (BH g k) ((k:Int)+1)= []:=by simp[C2,hl,h]
      rw[BH,this];exact hs'
 .refine zh ?_;(repeat clear U K);repeat intro K U
  have hke:k=2+g.length:=by omega
  subst hke;exact Fj hs 0 rfl rfl
end Go.Gl
