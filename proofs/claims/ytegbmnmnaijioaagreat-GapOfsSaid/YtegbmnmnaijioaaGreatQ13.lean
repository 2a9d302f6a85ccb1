import Derived.Test.YtegbmnmnaijioaaGreatRows
import Derived.HandedShaped
import Derived.Test.YtegbmnmnaijioaaGreatQ6
import Derived.Test.YtegbmnmnaijioaaGreatQ8
import Derived.Test.YtegbmnmnaijioaaGreatQ11
import Derived.Test.YtegbmnmnaijioaaGreatQ12
set_option linter.all false
set_option linter.defProp false
set_option maxHeartbeats 8000000
noncomputable section
namespace Go.Gl
open Go.Proofs
def uX {b:Nat} {Z:AE} {l:List At} (h:Sat Z l) (i j:Nat) {v:V} {n len cap off ln sz:Nat} {es ys:List (List V)} {K:V->AE->Prop} (hi:l[i]? =some (.own v sz es)) (hj:l[j]? =some (.own (.sl n len cap) sz ys)) (hle:off+ln<=ys.length) (hl:es.length+ln<=AZ/\(es.length+ln)*b<=140737488355328) (hys: ∀e∈ys,e.length=sz) (ho: ∀e∈ys,∀v∈e,CO v=true)
    (hk: ∀v' Z',Sat Z' (l.set i (.own v' sz (es++(ys.drop off).take ln)))->K v' Z'):AK b Z sz v (.sv n sz off ln) K:=by
 have hlen:((ys.drop off).take ln).length=ln:=by rw[Jd,sN];omega
 have hm: ∀e∈(ys.drop off).take ln,e∈ys:=fun e he=>List.mem_of_mem_drop (List.mem_of_mem_take he)
 have hA:AK b Z sz v (.l ((ys.drop off).take ln) true) K:=hAppend h i hi (by rw[hlen];exact hl) (fun e he=>hys e (hm e he)) (fun e he=>ho e (hm e he)) hk;rcases h.get hj with⟨e1,hel⟩|⟨n',cap',e1,hn⟩
 .cases e1
 .cases e1
  unfold AK at hA ⊢;simp only[rowsOf]at hA ⊢;rw[hn];refine⟨?_,?_,hle,hA.2⟩<;>first|trivial|rfl
def Pp {b:Nat} {Z:AE} {l:List At} (h:Sat Z l) (i j:Nat) {α:Type} {enc:α->List V} {xs ys:List α} {v:V} {n len cap off ln sz:Nat} {K:V->AE->Prop} (hi:l[i]? =some (.own v sz (xs.map enc))) (hj:l[j]? =some (.own (.sl n len cap) sz (ys.map enc))) (hle:off+ln<=ys.length) (hl:xs.length+ln<=AZ/\(xs.length+ln)*b<=140737488355328) (hg:EX enc sz)
    (hk: ∀v' Z',Sat Z' (l.set i (.own v' sz ((xs++(ys.drop off).take ln).map enc)))->K v' Z'):AK b Z sz v (.sv n sz off ln) K:=
 uX h i j hi hj (by simpa using hle) (by simpa using hl) (DL hg ys).1 (DL hg ys).2 fun v' Z' hs=>hk v' Z' (by simpa[List.map_take,List.map_drop]using hs)
def JA {b sz:Nat} {Z:AE} {v y:V} {K:V->AE->Prop} (hv:(B7 v).isSome=true) (h:AK b Z sz v y fun v' Z'=>(B7 v').isSome=true->K v' Z'):AK b Z sz v y K:=by
 obtain⟨n,l,c,rfl⟩:=gg hv;unfold AK at h ⊢;refine E0 h fun ys h=>⟨h.1,?_⟩
 have h2:=h.2;dsimp only at h2 ⊢;cases hn:Z n with
 | none=>rw[hn]at h2;exact h2
 | some o=>
   rw[hn]at h2;cases o with
   | arr s es c'=>exact⟨h2.1,h2.2.1,h2.2.2.1,h2.2.2.2.1,fun n' cap' h3 h4=>h2.2.2.2.2 n' cap' h3 h4 rfl⟩
   | _=>exact h2
def ti {Z:AE} {l:List At} (h:Sat Z l) {i:Nat} {v:V} {sz:Nat} {es:List (List V)} (hi:l[i]? =some (.own v sz es)) (hv:(B7 v).isSome=true): ∃n cp,v= .sl n es.length cp:=by
 rcases h.get hi with⟨e,_⟩|⟨n,cp,e,_⟩
 .rw[e]at hv;cases hv
 .exact⟨n,cp,e⟩
attribute [local irreducible] Au Am Ab AR AK AY AQ AS AJ AX AN AP Ao Az Sat AU Ax Ad W
def HT (x:Int) (out:List Int):List Int:=out.takeWhile (fun y=>decide (y<x))++x::out.dropWhile (fun y=>decide (y<x))
def Cx (l:List Int):List Int:=l.foldl (fun out x=>HT x out) []
def Mz (x:Int) (out:List Int):(HT x out).length=out.length+1:=by
 have:=congrArg List.length (List.takeWhile_append_dropWhile (p:=fun y=>decide (y<x)) (l:=out));rw[NW]at this;rw[HT,NW,Ky];omega
def VF {x:Int} {out:List Int} {k:Nat} (h1:out.takeWhile (fun y=>decide (y<x))=out.take k++(out.drop k).takeWhile (fun y=>decide (y<x))) (h2:(out.drop k).takeWhile (fun y=>decide (y<x))= []) (hk:k<=out.length):HT x out=out.take k++x::out.drop k:=by
 rw[h2,GA]at h1;have:=List.takeWhile_append_dropWhile (p:=fun y=>decide (y<x)) (l:=out);rw[h1]at this
 have e:out.dropWhile (fun y=>decide (y<x))=out.drop k:=by
  have h3:out.take k++out.dropWhile (fun y=>decide (y<x))=out.take k++out.drop k:=by rw[this,List.take_append_drop]
  exact List.append_cancel_left h3
 rw[HT,h1,e]
def tM (l : List Int) (f:Bool) (hl:l.length<=16):Pure zP 320 [.l (iL l) f] (.l (iL (Cx l)) false):=by
 have hM:=Mx;refine vt kZ ?_;have hs:=Sn;refine zz ?_;(repeat clear U K);repeat intro K U
 refine Bw l.length (fun i (x:V×List Int)=>[(3,x.1),(4,eI (A6 i))]) (fun _ x=>[.own x.1 1 (iL x.2)]) (fun i x=>x.2=Cx (l.take i)/\x.2.length=i/\(i=0->x.1= .l [] true)/\(1<=i->(B7 x.1).isSome=true)) (.l [] true,[]) rfl ⟨rfl,rfl,fun _=>rfl,fun h=>by omega⟩ (Dw hs 1) ?_;clear hs;rintro i ⟨v,out⟩ Z hi ⟨ho,hol,h0,h1⟩ hs;dsimp only at ho hol h0 h1 hs;dsimp only;rcases A7 l hi with⟨z,hz,hlt⟩|hie
 .have hsr:Cx (l.take (i+1))=HT z out:=by rw[AO hz,Cx,List.foldl_append,ho];rfl
  refine zz ?_;(repeat clear U K);repeat intro K U
  refine D1 (fun k:Nat=>out.length - k) (fun k=>[(5,eI (A6 k))]) (fun _=>[.own v 1 (iL out)]) (fun k=>k<=out.length/\out.takeWhile (fun y=>decide (y<z))=out.take k++(out.drop k).takeWhile (fun y=>decide (y<z))) 0 rfl ⟨Nat.zero_le _,rfl⟩ hs ?_;clear hs;rintro k Z ⟨hk,htw⟩ hs;have hck:A6 k=k:=Ae (by omega);by_cases hi0:i=0
  .obtain rfl:=h0 hi0
   have hins:=VF htw (by rw[Ai (by omega)];rfl) hk
   conv=>whnf
   repeat'((first|clear U K|apply st|(apply zk;intro K U)|refine zY ?_|refine slq (xs:=([]:List Int)) (enc:=fun x:Int=>[eI x]) ?_ (by omega) (by simp;omega) (fun _=>rfl)|refine gd (xs:=([]:List Int)) (enc:=fun x:Int=>[eI x]) ?_ (by omega) (by simp;omega) (fun _=>rfl)|(refine zd (fun hc=>?_) (fun hc=>?_)<;>try exact⟨⟩)|fail)<;>conv=>whnf)
   .exfalso
    simp at hc;omega
   replace hs:=Cp hs 1;refine FV hs 0 (xs:=[]) (ys:=List.take (A6 k).toNat []) rfl (by simp) Bm fun v1 Z hs=>?_
   conv=>whnf
   repeat'((first|apply st|refine rk ?_ ?_|exact fun s e=>by cases e;rfl|refine aq fun v Z hs hsl=>?_|refine gd (xs:=([]:List Int)) (enc:=fun x:Int=>[eI x]) ?_ (by omega) (by simp;omega) (fun _=>rfl)|fail)<;>conv=>whnf)
   refine JA (by assumption) (FV hs 0 (xs:=([]++List.take (A6 k).toNat [])++[z]) (ys:=List.drop (A6 k).toNat []) rfl (by simp[AZ]) Bm fun v1 Z hs hsl=>?_);refine zz ?_;(repeat clear U K);repeat intro K U
   refine⟨hlt,(v1,HT z out),rfl,⟨hsr.symm,by rw[Mz];omega,fun h=>by omega,fun _=>hsl⟩,?_⟩;have ho0:out= []:=YE.1 (by omega);rw[hins,ho0];simp at hs ⊢;exact hs.less (.cons₂ _ (JW _))
  .obtain⟨n,cp,rfl⟩:=ti hs (i:=0) rfl (h1 (by omega))
   have hlen:(iL out).length=out.length:=B2 _;rcases A7 out hk with⟨y,hy,hklt⟩|hke
   .conv=>whnf
    repeat'((first|clear U K|apply st|(apply zk;intro K U)|refine zY ?_|refine ze fun x hx=>?_|refine sf ?_|refine gE ?_|refine za (fun hc=>?_) fun hc=>?_|fail)<;>conv=>whnf)
    all_goals
     rw[hck,GB,hy]at hx;obtain rfl:=Option.some.inj hx
    .refine⟨k+1,by omega,rfl,⟨by omega,?_⟩,hs⟩
     rw[htw,drop_cons hy,List.takeWhile_cons,if_pos (by simpa using hc),AO hy];simp
    have hins:=VF htw (by rw[drop_cons hy,List.takeWhile_cons,if_neg (by simpa using hc)]) hk;replace hs:=Cp hs 1;refine Pp hs 0 1 (xs:=[]) (ys:=out) rfl rfl (by omega) (by simp;omega) Bm fun v1 Z hs=>?_
    conv=>whnf
    repeat'((first|apply st|refine rk ?_ ?_|exact fun s e=>by cases e;rfl|refine aq fun v Z hs hsl=>?_|refine gE ?_|fail)<;>conv=>whnf)
    refine JA (by assumption) (Pp hs 0 1 (xs:=([]++(out.drop 0).take (A6 k).toNat)++[z]) (ys:=out) rfl rfl (by omega) (by simp;omega) Bm fun v1 Z hs hsl=>?_);refine zz ?_;(repeat clear U K);repeat intro K U
    refine⟨hlt,(v1,HT z out),rfl,⟨hsr.symm,by rw[Mz];omega,fun h=>by omega,fun _=>hsl⟩,?_⟩;rw[hins]
    have e:([]++(out.drop 0).take (A6 k).toNat)++[z]++(out.drop (A6 k).toNat).take (((iL out).length:Int) - A6 k).toNat=out.take k++z::out.drop k:=by
     have e1:(out.drop k).take (((iL out).length:Int) - A6 k).toNat=out.drop k:=List.take_of_length_le (by rw[sN];omega);rw[show(A6 k).toNat=k by omega,e1];simp
    rw[e]at hs;exact hs.less (.cons₂ _ (JW _))
   .have hins:=VF htw (by rw[Ai hke];rfl) hk
    conv=>whnf
    repeat'((first|clear U K|apply st|(apply zk;intro K U)|refine zY ?_|refine sf ?_|refine gE ?_|fail)<;>conv=>whnf)
    replace hs:=Cp hs 1;refine Pp hs 0 1 (xs:=[]) (ys:=out) rfl rfl (by omega) (by simp;omega) Bm fun v1 Z hs=>?_
    conv=>whnf
    repeat'((first|apply st|refine rk ?_ ?_|exact fun s e=>by cases e;rfl|refine aq fun v Z hs hsl=>?_|refine gE ?_|fail)<;>conv=>whnf)
    refine JA (by assumption) (Pp hs 0 1 (xs:=([]++(out.drop 0).take (A6 k).toNat)++[z]) (ys:=out) rfl rfl (by omega) (by simp;omega) Bm fun v1 Z hs hsl=>?_);refine zz ?_;(repeat clear U K);repeat intro K U
    refine⟨hlt,(v1,HT z out),rfl,⟨hsr.symm,by rw[Mz];omega,fun h=>by omega,fun _=>hsl⟩,?_⟩;rw[hins]
    have e:([]++(out.drop 0).take (A6 k).toNat)++[z]++(out.drop (A6 k).toNat).take (((iL out).length:Int) - A6 k).toNat=out.take k++z::out.drop k:=by
     have e1:(out.drop k).take (((iL out).length:Int) - A6 k).toNat=out.drop k:=List.take_of_length_le (by rw[sN];omega);rw[show(A6 k).toNat=k by omega,e1];simp
    rw[e]at hs;exact hs.less (.cons₂ _ (JW _))
 .refine zz ?_;(repeat clear U K);repeat intro K U
  rw[hie,List.take_length]at ho;rw[<-ho];exact A8 (hs.GC 0 rfl)
end Go.Gl
namespace Go.Gl
open Go.Proofs
attribute [local irreducible] Au Am Ab AR AK AY AQ AS AJ AX AN AP Ao Az Sat AU Ax Ad W
def LP (A:Int->Int->Bool) (l:List Int) (i k:Nat):Bool:=(List.range k).all fun j=> !A (l.getD j 0) (l.getD i 0)
def Nc (A:Int->Int->Bool) (l:List Int):Option Nat:=(List.range l.length).find? fun i=>LP A l i l.length
def DN (A:Int->Int->Bool):Nat->List Int->List Int
 | 0,_=>[]
 | k+1,l=>l.getD ((Nc A l).getD 0) 0::DN A k (l.eraseIdx ((Nc A l).getD 0))
def dm (A:Int->Int->Bool) (l:List Int) (i k:Nat):LP A l i (k+1)=(LP A l i k&& !A (l.getD k 0) (l.getD i 0)):=by
 rw[LP,List.range_succ,List.all_append,LP];simp
def dnD (p:Nat->Bool) (n:Nat) (i a:Int):Prop:=(a=0/\ ∀t:Nat,i<t->t<n->p t=false)\/ ∃b:Nat,a=b/\i<b/\b<n/\p b=true/\ ∀t:Nat,i<t->t<b->p t=false
def qU {p:Nat->Bool} {n:Nat} {a:Int} (h:dnD p n (-1) a):a=(((List.range n).find? p).getD 0:Nat):=by
 rcases h with⟨h1,h2⟩|⟨b,h1,-,h3,h4,h5⟩
 .rw[List.find?_range_eq_none.2 fun t ht=>by rw[h2 t (by omega) ht];rfl]
  exact h1
 .rw[List.find?_range_eq_some.2 ⟨h4,List.mem_range.2 h3,fun t ht=>by rw[h5 t (by omega) ht];rfl⟩]
  exact h1
def mB {p:Nat->Bool} {n:Nat} {i:Nat} {a:Int} (h:dnD p n i a) (hi:i<n):dnD p n ((i:Int) - 1) (if p i then(i:Int)else a):=by
 cases hp:p i
 .rw[if_neg (by decide)]
  rcases h with⟨h1,h2⟩|⟨b,h1,h2,h3,h4,h5⟩
  .refine .inl ⟨h1,fun t ht hn=>?_⟩
   by_cases e:t=i
   .rw[e];exact hp
   .exact h2 t (by omega) hn
  .refine .inr ⟨b,h1,by omega,h3,h4,fun t ht hb=>?_⟩
   by_cases e:t=i
   .rw[e];exact hp
   .exact h5 t (by omega) hb
 .rw[if_pos rfl]
  exact .inr ⟨i,rfl,by omega,hi,hp,fun t h1 h2=>by omega⟩
def T2 (T : List (List Bool)) (l:List Int) (f:Bool) (h:JY T (Cx l)) (hl16:l.length<=16):Pure zP 276 [rB T,.l (iL l) f] (.l (iL (DN (Dp T) (Cx l).length (Cx l))) false):=by
 have hM:=Mx;have c1:=tM l f hl16;refine wm kZ ?_;have hs:=Sn
 conv=>whnf
 repeat'((first|clear U K|apply st|(apply zk;intro K U)|refine zC ?_|fail)<;>conv=>whnf)
 clear c1
 refine D1 (fun(x:List Int×Bool×V×List Int)=>x.1.length) (fun x=>[(1,.l (iL x.1) x.2.1),(5,x.2.2.1)]) (fun x=>[.own x.2.2.1 1 (iL x.2.2.2)])
  (fun x=>JY T x.1/\x.2.2.2.length+x.1.length<=16/\DN (Dp T) (Cx l).length (Cx l)=x.2.2.2++DN (Dp T) x.1.length x.1) (Cx l,false,.l [] true,[]) rfl ⟨h,by simpa using h.many,by simp⟩ (Dw hs 1) ?_
 clear hs;rintro⟨l',f',v,out⟩ Z ⟨ho,hlen,hm⟩ hs;dsimp only at ho hlen hm hs;dsimp only;have hll:out.length<AZ/\(out.length+1)*8<=140737488355328:=by omega
 by_cases hz:l'.length=0
 .conv=>whnf
  repeat'((first|clear U K|apply st|(apply zk;intro K U)|refine zY ?_|(refine zb (fun hc=>?_) (fun hc=>?_)<;>try exact⟨⟩)|fail)<;>conv=>whnf)
  rw[hz]at hm;simp only[DN,GA]at hm;rw[hm];exact A8 (hs.GC 0 rfl)
 .obtain⟨n,hn⟩: ∃n,l'.length=n+1:=⟨l'.length - 1,by omega⟩
  rw[hn,DN]at hm;have hm16:=ho.many
  conv=>whnf
  repeat'((first|clear U K|apply st|(apply zk;intro K U)|refine zY ?_|(refine zb (fun hc=>?_) (fun hc=>?_)<;>try exact⟨⟩)|fail)<;>conv=>whnf)
  refine D1 (fun x:Int×Int=>(x.2+1).toNat) (fun x=>[(6,eI x.1),(7,eI x.2)]) (fun _=>[.own v 1 (iL out)]) (fun x=> -1<=x.2/\x.2<l'.length/\dnD (fun i=>LP (Dp T) l' i l'.length) l'.length x.2 x.1) (0,IntKind.i64.wrap ((iL l').length - 1)) rfl (by
   have e:((iL l').length:Int)=l'.length:=by simp
   have e2:IntKind.i64.wrap ((iL l').length - 1)=(l'.length:Int) - 1:=by rw[e,wrap64 (by omega) (by omega)]
   dsimp only;rw[e2]
   exact⟨by omega,by omega,.inl ⟨rfl,fun t h1 h2=>by omega⟩⟩) hs ?_
  clear hs;rintro⟨a,i⟩ Z ⟨hi1,hi2,hok⟩ hs;dsimp only at hi1 hi2 hok hs;dsimp only;by_cases hneg:i<0
  .obtain rfl:i= -1:=by omega
   have hae:=qU hok;rw[show(List.range l'.length).find? (fun i=>LP (Dp T) l' i l'.length)=Nc (Dp T) l' from rfl]at hae
   have hj:(Nc (Dp T) l').getD 0<l'.length:=by
    cases h:Nc (Dp T) l' with
    | none=>exact Nat.pos_of_ne_zero hz
    | some j=>simpa using List.mem_of_find?_eq_some h
   generalize (Nc (Dp T) l').getD 0=j at *;subst hae;have c2:=RT l' f' j hj ho.many;obtain⟨x,hx⟩: ∃x,l'[j]? =some x:=⟨_,Cr hj⟩
   have hel:=List.length_eraseIdx_of_lt hj;rw[CS hx]at hm
   conv=>whnf
   repeat'((first|clear U K|apply st|(apply zk;intro K U)|refine zY ?_|refine aq fun v Z hs hsl=>?_|refine zC ?_|(refine zb (fun hc=>?_) (fun hc=>?_)<;>try exact⟨⟩)|fail)<;>conv=>whnf)
   refine⟨(l'.eraseIdx j,false,v,out++[x]),by dsimp only;omega,rfl,⟨ho.less j,by simp;omega,?_⟩,hs⟩;dsimp only;rw[hm,hel,show l'.length - 1=n by omega];simp
  .have hpos:0<=i:=by omega
   obtain⟨x,hx⟩: ∃x,l'[i.toNat]? =some x:=⟨_,Cr (by omega)⟩
   have hxi:=ho.ins x (Bo hx)
   conv=>whnf
   repeat'((first|clear U K|apply st|(apply zk;intro K U)|refine zY ?_|(refine zb (fun hc=>?_) (fun hc=>?_)<;>try exact⟨⟩)|fail)<;>conv=>whnf)
   refine Bw l'.length (fun k (b:Bool)=>[(8,.b b),(9,eI (A6 k))]) (fun _ _=>[.own v 1 (iL out)]) (fun k b=>b=LP (Dp T) l' i.toNat k) true rfl rfl hs ?_;clear hs;rintro k b Z hk hb hs;rcases A7 l' hk with⟨y,hy,hklt⟩|hke
   .have hyi:=ho.ins y (Bo hy)
    obtain⟨r,hr,hry⟩:=rM ho hyi hxi;have hsu:=dm (Dp T) l' i.toNat k;rw[CS hx,CS hy,<-hb]at hsu;have hck:A6 k=k:=Ae (by omega);have hrl:=ho.sq r (Bo hr);cases b
    .refine zz ?_;(repeat clear U K);repeat intro K U
     exact⟨hklt,false,rfl,(hsu.trans (by simp)).symm,hs⟩
    .refine zz ?_;(repeat clear U K);repeat intro K U
     exact⟨hklt,!Dp T y x,rfl,(hsu.trans (by simp)).symm,hs⟩
   .have hwi:IntKind.i64.wrap (i - 1)=i - 1:=wrap64 (by omega) (by omega)
    have hst:=mB (i:=i.toNat) (by rw[Int.toNat_of_nonneg hpos];exact hok) (by omega);rw[hke]at hb;rw[Int.toNat_of_nonneg hpos,<-hb]at hst
    conv=>whnf
    repeat'((first|clear U K|apply st|(apply zk;intro K U)|refine zY ?_|refine za (fun hc=>?_) fun hc=>?_|fail)<;>conv=>whnf)
    .rw[hc,if_pos rfl]at hst
     exact⟨(i,IntKind.i64.wrap (i - 1)),by dsimp only;omega,rfl,by dsimp only;rw[hwi];exact⟨by omega,by omega,hst⟩,hs⟩
    .rw[hc,if_neg (by decide)]at hst
     exact⟨(a,IntKind.i64.wrap (i - 1)),by dsimp only;omega,rfl,by dsimp only;rw[hwi];exact⟨by omega,by omega,hst⟩,hs⟩
end Go.Gl
namespace Go.Gl
open Go.Proofs
def Sat.oks {Z:AE} {l:List At} (h:Sat Z l) {a:At} (ha:a∈l):a.ok Z:=h.1 a ha
def mq {Z:AE} {v vf:V} {Q:R->AE->Prop} (hf:Fw Z emp v vf) (hq:Q (.ret vf) emp):Am Z v Q:=⟨vf,emp,fun n o ho=>(by cases ho),hf,hq⟩
structure Hid (p:Prop):Prop where
 un:p
attribute [local irreducible] Au Am Ab AR AK AY AQ AS AJ AX AN AP Ao Az Sat AU Ax Ad W
abbrev RW:=Nat×List Bool
abbrev L3 (n:Nat) (r:RW):List V:=[.sl r.1 n n]
abbrev E4 (n:Nat) (r:RW):At:= .own (.sl r.1 n n) 1 (bL r.2)
def bM (n:Nat):EX (L3 n) 1:=fun r=>⟨rfl,fun v hv=>by rw[KF.1 hv];rfl⟩
abbrev mr (n:Nat) (v6 v7:V) (R6 R7:List RW):List At:= .own v6 1 (R6.map (L3 n)):: .own v7 1 (R7.map (L3 n))::(R6.map (E4 n)++R7.map (E4 n))
def kL {n:Nat} {v6 v7:V} {R6 R7:List RW} {r6 r7:RW}:List.Perm (E4 n r7::E4 n r6:: .own v6 1 ((R6++[r6]).map (L3 n)):: .own v7 1 ((R7++[r7]).map (L3 n))::(R6.map (E4 n)++R7.map (E4 n))) (mr n v6 v7 (R6++[r6]) (R7++[r7])):=by
 have e:(R6++[r6]).map (E4 n)++(R7++[r7]).map (E4 n)=R6.map (E4 n)++(E4 n r6::(R7.map (E4 n)++[E4 n r7])):=by simp
 have h1:((R6++[r6]).map (E4 n)++(R7++[r7]).map (E4 n)).Perm (E4 n r7::E4 n r6::(R6.map (E4 n)++R7.map (E4 n))):=by
  rw[e];refine List.perm_middle.trans (.trans (.cons _ ?_) (.swap _ _ _));rw[<-PD];exact List.perm_append_singleton _ _
 exact((NV (l₁:=[E4 n r7,E4 n r6]) (l₂:=[_,_])).append_right _).trans (.cons _ (.cons _ h1.symm))
def Kv (R:List RW):List (List Bool):=R.map fun r=>r.2
def EH {l:List Int} {k:Nat} (h:k<l.length):l.getD k 0∈l:=by
 rw[C4,Cr h];exact List.getElem_mem h
structure Sb (n:Nat) (R:List RW):Prop where
 len:R.length=n
 row: ∀r∈R,r.2.length=n
def Sb.put {n:Nat} {R:List RW} {r:RW} (h:Sb n R) {j k:Nat} {b:Bool} (hr:R[j]? =some r):Sb n (R.set j (r.1,r.2.set k b)):=by
 refine⟨by rw[List.length_set];exact h.len,fun q hq=>?_⟩;rcases List.mem_or_eq_of_mem_set hq with hq|rfl
 .exact h.row q hq
 .rw[List.length_set];exact h.row r (Bo hr)
def Yc {n:Nat} {R:List RW} {r:RW} (h:Sb n R) {j k:Nat} {b:Bool} (hr:R[j]? =some r) (hk:k<n) (u v:Int):Dp (Kv (R.set j (r.1,r.2.set k b))) u v=if u.toNat=j/\v.toNat=k then b else Dp (Kv R) u v:=by
 have hj:j<R.length:=(JC.1 hr).1;have hl:=h.row r (Bo hr);rw[Dp,Dp,Kv,List.map_set];rw[C4 (l:=(R.map fun r=>r.2).set j _)];by_cases hu:u.toNat=j
 .rw[hu,List.getElem?_set_self (by simpa using hj),Option.getD_some,EZ (by omega)]
  have e:(Kv R).getD j []=r.2:=by rw[Kv,C4,Je,hr];rfl
  by_cases hv:v.toNat=k
  .rw[if_pos hv,if_pos ⟨rfl,hv⟩]
  .rw[if_neg hv,if_neg fun h=>hv h.2,e]
 .rw[List.getElem?_set_ne (fun h=>hu h.symm),if_neg fun h=>hu h.1,<-C4]
  rfl
def lZ {Z:AE} {n:Nat} {v6:V} {R:List RW} {r r':RW} {j:Nat} {B:At} {AB X:List At} (hr:R[j]? =some r) (he:r'.1=r.1) (hs:Sat Z (E4 n r'::B:: .own v6 1 (R.map (L3 n))::(AB++(R.map (E4 n)++X).eraseIdx j))):Sat Z (B:: .own v6 1 ((R.set j r').map (L3 n))::(AB++((R.set j r').map (E4 n)++X))):=by
 have hj:j<R.length:=(JC.1 hr).1
 have e1:(R.set j r').map (L3 n)=R.map (L3 n):=by
  rw[List.map_set];refine List.ext_getElem? fun i=>?_
  by_cases hi:j=i
  .subst hi
   rw[List.getElem?_set_self (by simpa using hj),Je,hr];simp only[YH,L3,he]
  .rw[List.getElem?_set_ne hi]
 have e2:(R.set j r').map (E4 n)++X=(R.map (E4 n)++X).set j (E4 n r'):=by
  rw[List.map_set,List.set_append_left _ _ (by simpa using hj)]
 rw[e1,e2]
 have hp:((R.map (E4 n)++X).set j (E4 n r')).Perm (E4 n r'::(R.map (E4 n)++X).eraseIdx j):=by
  have:=Iz (l:=(R.map (E4 n)++X).set j (E4 n r')) (j:=j) (a:=E4 n r') (List.getElem?_set_self (by rw[NW,B2];omega))
  rwa [List.eraseIdx_set_eq]at this
 refine hs.perm (List.Perm.trans ?_ (.cons _ (.cons _ ((hp.symm).append_left AB))));exact((NV (l₁:=[E4 n r']) (l₂:=B:: .own v6 1 (R.map (L3 n))::AB)).append_right _).trans (by simp)
def rL {R:List RW} {r:RW} {m n:Nat} {b:Bool} (hr:R[m]? =some r) (hb:r.2[n]? =some b):Dp (Kv R) m n=b:=by
 simp only[Dp,Kv,GB,C4,Je,hr,YH,Option.getD_some,hb]
def Te {n:Nat} {v7:V} {R Q:List RW} {r r':RW} {j:Nat} {B C:At} (hr:Q[j]? =some r) (he:r'.1=r.1):(B::C:: .own v7 1 (Q.map (L3 n))::(R.map (E4 n)++Q.map (E4 n))).set (R.length+j+3) (E4 n r')=B::C:: .own v7 1 ((Q.set j r').map (L3 n))::(R.map (E4 n)++(Q.set j r').map (E4 n)):=by
 have e1:(Q.set j r').map (L3 n)=Q.map (L3 n):=by
  have hj:j<Q.length:=(JC.1 hr).1;rw[List.map_set];refine List.ext_getElem? fun i=>?_
  by_cases hi:j=i
  .subst hi
   rw[List.getElem?_set_self (by simpa using hj),Je,hr];simp only[YH,L3,he]
  .rw[List.getElem?_set_ne hi]
 rw[e1];show B::C:: .own v7 1 (Q.map (L3 n))::(R.map (E4 n)++Q.map (E4 n)).set (R.length+j) (E4 n r')=_;rw[List.set_append_right _ _ (by rw[B2];omega),B2,show R.length+j - R.length=j by omega,List.map_set]
def Q4 {Z:AE} {n:Nat}: ∀Q:List RW,(∀r∈Q,(E4 n r).ok Z)->FR Z emp (Q.map (L3 n)) ((Kv Q).map fun r=>[.l (bL r) false])
 | [],_=> .nil
 | r ::s,h=>by
   refine .cons (.cons ?_ .nil) (Q4 s fun q hq=>h q (.tail _ hq));rcases h r (.head _)with⟨e,_⟩|⟨m,cap,e,hm⟩
   .cases e
   .injection e with e1 e2 e3
    subst e1 e3;exact .arr hm rfl e2 (.refl _ _ _)
def uf {Z:AE} {n:Nat} {v:V} {Q:List RW} (hv:(At.own v 1 (Q.map (L3 n))).ok Z) (h: ∀r∈Q,(E4 n r).ok Z):Fw Z emp v (rB (Kv Q)):=by
 rcases hv with⟨rfl,_⟩|⟨m,cap,rfl,hm⟩
 .exact .l (fun h=>by cases h) (Q4 Q h)
 .exact .arr hm rfl rfl (Q4 Q h)
def mf (p : Prog) (l:List Int) (f:Bool) (hok:EM p) (hl16:l.length<=16) (hin: ∀x∈l,BM p x=true):BT zP 136 [.a (BG p),.l (iL l) f] [] fun r post=>post= []/\ ∃T,r= .ret (rB T)/\JY T l/\ ∀x∈l,∀y∈l,Dn p x y=true->Dp T x y=Ay p x y:=by
 refine BT.fit (by kernel_rfl) fun hf=>?_
 intro Z hs;have⟨p1,p2,p3,p4⟩:=Gi hf.1;have hM:=Mx;have h16:=hok.many;have hP:=Ju hf.1;have c1:=PY p hP hok.rZ hok.AG;refine yV kZ ?_
 conv=>whnf
 repeat'((first|clear U K|apply st|(apply zk;intro K U)|refine zY ?_|refine zs fun Z hs=>?_|refine zC ?_|refine zo fun nn hnn Z hs=>?_|fail)<;>conv=>whnf)
 replace hs:=Sat.front (j:=2) (Cp (Cp hs 1) 1) rfl;refine Bw p.methods.length (fun m (x:V×V×List RW×List RW)=>[(6,x.1),(7,x.2.1),(8,eI (A6 m))]) (fun _ x=> .box nn (A0 (AL p))::mr p.methods.length x.1 x.2.1 x.2.2.1 x.2.2.2) (fun m x=>x.2.2.1.length=m/\x.2.2.2.length=m/\(∀r∈x.2.2.1,r.2=List.replicate p.methods.length false)/\ ∀r∈x.2.2.2,r.2=List.replicate p.methods.length false) (.l [] true,.l [] true,[],[]) rfl ⟨rfl,rfl,fun r h=>(by cases h),fun r h=>(by cases h)⟩ hs ?_;clear hs hnn;rintro m ⟨v6,v7,R6,R7⟩ Z hm ⟨h6,h7,ha6,ha7⟩ hs;dsimp only at h6 h7 ha6 ha7 hs;dsimp only;rcases A7 p.methods hm with⟨x,hx,hlt⟩|hme
 .have hll6:R6.length<AZ/\(R6.length+1)*24<=140737488355328:=by omega
  have hll7:R7.length<AZ/\(R7.length+1)*24<=140737488355328:=by omega
  refine zz ?_;(repeat clear U K);repeat intro K U
  simp only[B2];refine nX hs (IW _) (by omega) fun u6 Z hs hu6=>?_
  obtain⟨a6,rfl⟩:=hu6
  conv=>whnf
  repeat'((first|clear U K|apply st|(apply zk;intro K U)|refine aq (enc:=L3 p.methods.length) (x:=((_:Nat),List.replicate p.methods.length false)) (fun v Z hs hsl=>?_) (hg:=bM _)|fail)<;>conv=>whnf)
  rename V=>w6
  simp only[B2];refine nX hs (IW _) (by omega) fun u7 Z hs hu7=>?_
  obtain⟨a7,rfl⟩:=hu7
  conv=>whnf
  repeat'((first|clear U K|apply st|(apply zk;intro K U)|refine zY ?_|refine aq (enc:=L3 p.methods.length) (x:=((_:Nat),List.replicate p.methods.length false)) (fun v Z hs hsl=>?_) (hg:=bM _)|fail)<;>conv=>whnf)
  refine⟨hlt,(w6,v,R6++[(a6,List.replicate p.methods.length false)],R7++[(a7,List.replicate p.methods.length false)]),rfl,⟨by simp;omega,by simp;omega,fun r hr=>?_,fun r hr=>?_⟩,?_⟩
  .rcases Du.1 hr with hr|hr
   .exact ha6 r hr
   .rw[KF.1 hr]
  .rcases Du.1 hr with hr|hr
   .exact ha7 r hr
   .rw[KF.1 hr]
  .refine Sat.perm ?_ (((NV (l₁:=[_,_]) (l₂:=[_])).append_right _).trans (.cons _ kL))
   have hbl:bL (List.replicate p.methods.length false)=List.replicate p.methods.length [V.b false]:=by simp[bL]
   dsimp only[E4];rw[hbl];exact hs
 .refine zz ?_;(repeat clear U K);repeat intro K U
  have hs2:=hs;refine Bw l.length (fun i (R:List RW)=>[(9,eI (A6 i))]) (fun _ R=> .box nn (A0 (AL p))::mr p.methods.length v6 v7 R R7) (fun i R=>Sb p.methods.length R/\ ∀i' k',i'<i->k'<l.length->Dn p (l.getD i' 0) (l.getD k' 0)=true->Dp (Kv R) (l.getD i' 0) (l.getD k' 0)=Gg p (l.getD i' 0) (l.getD k' 0)) R6 rfl ⟨⟨by omega,fun r hr=>by rw[ha6 r hr];simp⟩,fun i' k' h=>by omega⟩ hs ?_;clear hs hs2;rintro i R Z hi ⟨hR,hE⟩ hs;rcases A7 l hi with⟨x,hx,hlt⟩|hie
  .have hxm:=hin x (Bo hx)
   have hxP:=CE hxm;have hxr:=hxm;simp only[BM,A9,Cc]at hxr;refine zz ?_;(repeat clear U K);repeat intro K U
   refine Bw l.length (fun k (R:List RW)=>[(10,eI (A6 k))]) (fun _ R=> .box nn (A0 (AL p))::mr p.methods.length v6 v7 R R7) (fun k R=>Sb p.methods.length R/\(∀i' k',i'<i->k'<l.length->Dn p (l.getD i' 0) (l.getD k' 0)=true->Dp (Kv R) (l.getD i' 0) (l.getD k' 0)=Gg p (l.getD i' 0) (l.getD k' 0))/\ ∀k',k'<k->Dn p x (l.getD k' 0)=true->Dp (Kv R) x (l.getD k' 0)=Gg p x (l.getD k' 0)) R rfl ⟨hR,hE,fun k' h=>by omega⟩ hs ?_;clear hs hR hE R;rintro k R Z hk ⟨hR,hE,hF⟩ hs;rcases A7 l hk with⟨y,hy,hklt⟩|hke
   .have hym:=hin y (Bo hy)
    have hyP:=CE hym;have hyr:=hym;simp only[BM,A9,Cc]at hyr;have c2:=qw p x y hxm hym;have c3:=eG (AL p) (Bd p x).fact (Bd p y).fact hok.zQ (hok.facts _ (Bo hxP)).1 (hok.facts _ (Bo hyP)).1 (hok.facts _ (Bo hxP)).2 (hok.facts _ (Bo hyP)).2;cases hal:Dn p x y<;>rw[hal]at c2
    .conv=>whnf
     repeat'((first|clear U K|apply st|(apply zk;intro K U)|refine zY ?_|refine zC ?_|fail)<;>conv=>whnf)
     refine⟨hklt,R,rfl,⟨hR,hE,fun k' h=>?_⟩,hs⟩;rcases Nat.lt_or_ge k' k with h'|h'
     .exact hF k' h'
     .rw[show k'=k by omega,CS hy,hal]
      intro e;cases e
    .obtain⟨r,hr⟩: ∃r,R[x.toNat]? =some r:=⟨_,Cr (by have:=hR.len;omega)⟩
     have hl0:=hR.len;have hl1:(R.map (L3 p.methods.length)).length=p.methods.length:=by rw[B2];exact hR.len
     have hl2:=hR.row r (Bo hr);have hl3:(bL r.2).length=p.methods.length:=by simpa using hl2
     have hj:(At.box nn (A0 (AL p))::mr p.methods.length v6 v7 R R7)[x.toNat+3]? =some (E4 p.methods.length r):=by
      show(R.map (E4 p.methods.length)++R7.map (E4 p.methods.length))[x.toNat]? =_;rw[cQ (by rw[B2];have:=hR.len;omega),Je,hr];rfl
     replace hs:Sat Z (E4 p.methods.length r:: .box nn (A0 (AL p)):: .own v6 1 (R.map (L3 p.methods.length)):: .own v7 1 (R7.map (L3 p.methods.length))::(R.map (E4 p.methods.length)++R7.map (E4 p.methods.length)).eraseIdx x.toNat):=hs.front hj
     conv=>whnf
     repeat'((first|clear U K|apply st|(apply zk;intro K U)|refine zY ?_|refine rk ?_ ?_|exact fun s e=>by cases e;rfl|refine zs fun Z hs=>?_|refine zC ?_|fail)<;>conv=>whnf)
     have hk2:y.toNat<p.methods.length:=by omega
     have hkeep: ∀u v,BM p u=true->BM p v=true->Dp (Kv R) u v=Gg p u v->Dp (Kv (R.set x.toNat (r.1,r.2.set y.toNat (Gg p x y)))) u v=Gg p u v:=fun u v hu hv e=>by
      simp only[BM,A9,Cc]at hu hv;rw[Yc hR hr hk2];split
      .rename_i h
       rw[show u=x by omega,show v=y by omega]
      .exact e
     refine⟨hklt,R.set x.toNat (r.1,r.2.set y.toNat (Gg p x y)),rfl,⟨hR.put hr,fun i' k' h1 h2 h3=>?_,fun k' h1 h2=>?_⟩,lZ (AB:=[_]) hr rfl hs⟩
     .exact hkeep _ _ (hin _ (EH (by omega))) (hin _ (EH h2)) (hE i' k' h1 h2 h3)
     .rcases Nat.lt_or_ge k' k with h'|h'
      .exact hkeep _ _ hxm (hin _ (EH (by omega))) (hF k' h' h2)
      .rw[show k'=k by omega,CS hy,Yc hR hr hk2,if_pos ⟨rfl,rfl⟩]
   .refine zz ?_;(repeat clear U K);repeat intro K U
    refine⟨hlt,R,rfl,⟨hR,fun i' k' h1 h2=>?_⟩,hs⟩;rcases Nat.lt_or_ge i' i with h'|h'
    .exact hE i' k' h' h2
    .rw[show i'=i by omega,CS hx]
     exact hF k' (by omega)
  .have hlR:=hR.len
   have hnr:Sb p.methods.length R7:=⟨by omega,fun r hr=>by rw[ha7 r hr];simp⟩
   refine zz ?_;(repeat clear U K);repeat intro K U
   refine Bw p.methods.length (fun m (Q:List RW)=>[(11,eI (A6 m))]) (fun _ Q=> .box nn (A0 (AL p))::mr p.methods.length v6 v7 R Q) (fun m Q=>Sb p.methods.length Q/\ ∀m' n':Nat,m'<m->n'<p.methods.length->Dp (Kv Q) m' n'=(Dp (Kv R) m' n'&& !Dp (Kv R) n' m')) R7 rfl ⟨hnr,fun m' n' h=>by omega⟩ hs ?_;clear hs hnr;rintro m Q Z hm ⟨hQ,hG⟩ hs;have hlQ:=hQ.len;have hl5:(Q.map (L3 p.methods.length)).length=p.methods.length:=by rw[B2];exact hlQ
   have hl6:(R.map (L3 p.methods.length)).length=p.methods.length:=by rw[B2];exact hlR
   rcases Nat.lt_or_ge m p.methods.length with hlt|hme
   .obtain ⟨ra,hra⟩: ∃r,R[m]? =some r:=⟨_,Cr (by omega)⟩
    conv=>whnf
    repeat'((first|clear U K|apply st|(apply zk;intro K U)|refine zY ?_|(refine zb (fun hc=>?_) (fun hc=>?_)<;>try exact⟨⟩)|fail)<;>conv=>whnf)
    refine Bw p.methods.length (fun n (Q:List RW)=>[(12,eI (A6 n))]) (fun _ Q=> .box nn (A0 (AL p))::mr p.methods.length v6 v7 R Q) (fun n Q=>Sb p.methods.length Q/\(∀m' n':Nat,m'<m->n'<p.methods.length->Dp (Kv Q) m' n'=(Dp (Kv R) m' n'&& !Dp (Kv R) n' m'))/\ ∀n':Nat,n'<n->Dp (Kv Q) m n'=(Dp (Kv R) m n'&& !Dp (Kv R) n' m)) Q rfl ⟨hQ,hG,fun n' h=>by omega⟩ hs ?_;clear hs hQ hG hlQ hl5;rintro n Q Z hn ⟨hQ,hG,hI⟩ hs;have hlQ:=hQ.len;have hl5:(Q.map (L3 p.methods.length)).length=p.methods.length:=by rw[B2];exact hlQ
    rcases Nat.lt_or_ge n p.methods.length with hnlt|hne
    .obtain⟨rb,hrb⟩: ∃r,R[n]? =some r:=⟨_,Cr (by omega)⟩
     obtain⟨rq,hrq⟩: ∃r,Q[m]? =some r:=⟨_,Cr (by omega)⟩
     have hla:=hR.row ra (Bo hra);have hlb:=hR.row rb (Bo hrb);have hlq:=hQ.row rq (Bo hrq);have hcm:A6 m=m:=Ae (by omega);have hcn:A6 n=n:=Ae (by omega);obtain⟨ba,hba⟩: ∃b,ra.2[n]? =some b:=⟨_,Cr (by omega)⟩
     obtain⟨bb,hbb⟩: ∃b,rb.2[m]? =some b:=⟨_,Cr (by omega)⟩
     have g1:Hid ((At.box nn (A0 (AL p))::mr p.methods.length v6 v7 R Q)[m+3]? =some (E4 p.methods.length ra)):=by
      refine .mk ?_;show(R.map (E4 p.methods.length)++Q.map (E4 p.methods.length))[m]? =_;rw[cQ (by rw[B2];omega),Je,hra];rfl
     have g2:Hid ((At.box nn (A0 (AL p))::mr p.methods.length v6 v7 R Q)[n+3]? =some (E4 p.methods.length rb)):=by
      refine .mk ?_;show(R.map (E4 p.methods.length)++Q.map (E4 p.methods.length))[n]? =_;rw[cQ (by rw[B2];omega),Je,hrb];rfl
     have g3:Hid ((At.box nn (A0 (AL p))::mr p.methods.length v6 v7 R Q)[R.length+m+3]? =some (E4 p.methods.length rq)):=by
      refine .mk ?_;show(R.map (E4 p.methods.length)++Q.map (E4 p.methods.length))[R.length+m]? =_;rw[List.getElem?_append_right (by rw[B2];omega),B2,show R.length+m - R.length=m by omega,Je,hrq];rfl
     have hra2:R[(A6 m).toNat]? =some ra:=by rw[hcm,GB];exact hra
     have hrb2:R[(A6 n).toNat]? =some rb:=by rw[hcn,GB];exact hrb
     have hrq2:Q[(A6 m).toNat]? =some rq:=by rw[hcm,GB];exact hrq
     have eab:=rL hra hba;have eba:=rL hrb hbb;have hput: ∀b,Sb p.methods.length (Q.set m (rq.1,rq.2.set n b)):=fun b=>hQ.put hrq
     have hnew: ∀(b:Bool) (u v:Nat),Dp (Kv (Q.set m (rq.1,rq.2.set n b))) u v=if u=m/\v=n then b else Dp (Kv Q) u v:=fun b u v=>by
      have:=Yc (b:=b) hQ hrq hnlt u v;simpa using this
     have hfin: ∀b,b=(ba&& !bb)->(∀m' n':Nat,m'<m->n'<p.methods.length->Dp (Kv (Q.set m (rq.1,rq.2.set n b))) m' n'=(Dp (Kv R) m' n'&& !Dp (Kv R) n' m'))/\ ∀n':Nat,n'<n+1->Dp (Kv (Q.set m (rq.1,rq.2.set n b))) m n'=(Dp (Kv R) m n'&& !Dp (Kv R) n' m):=fun b hb=>by
      refine⟨fun m' n' h1 h2=>?_,fun n' h1=>?_⟩
      .rw[hnew,if_neg fun h=>by omega]
       exact hG m' n' h1 h2
      .rw[hnew]
       split
       .rename_i h
        rw[h.2,eab,eba,hb]
       .exact hI n' (by omega)
     cases ba
     .conv=>whnf
      repeat'((first|clear U K|apply st|(apply zk;intro K U)|refine zY ?_|refine os2 (fun Z hs=>?_) (hi:=g3.un) (h1:=by omega)|refine oc ?_ (hi:=g1.un) (h1:=by rw[B2];omega)|refine oc ?_ (hi:=g3.un) (h1:=by rw[B2];omega)|refine sS ?_ (hi:=g1.un)|(refine zb (fun hc=>?_) (fun hc=>?_)<;>try exact⟨⟩)|fail)<;>conv=>whnf)
      refine⟨hnlt,Q.set m (rq.1,rq.2.set n false),rfl,⟨hput _,hfin _ rfl⟩,?_⟩;refine(congrArg (Sat Z) (Te (n:=p.methods.length) (v7:=v7) (R:=R) (B:= .box nn (A0 (AL p))) (C:= .own v6 1 (R.map (L3 p.methods.length))) (r':=(rq.1,rq.2.set n false)) hrq rfl)).mp ?_
      first
       | exact hs
       | (rw[hcn,GB]at hs;exact hs)
     .conv=>whnf
      repeat'((first|clear U K|apply st|(apply zk;intro K U)|refine zY ?_|refine os2 (fun Z hs=>?_) (hi:=g3.un) (h1:=by omega)|refine oc ?_ (hi:=g1.un) (h1:=by rw[B2];omega)|refine oc ?_ (hi:=g2.un) (h1:=by rw[B2];omega)|refine oc ?_ (hi:=g3.un) (h1:=by rw[B2];omega)|refine sS ?_ (hi:=g1.un)|refine sS ?_ (hi:=g2.un)|(refine zb (fun hc=>?_) (fun hc=>?_)<;>try exact⟨⟩)|fail)<;>conv=>whnf)
      refine⟨hnlt,Q.set m (rq.1,rq.2.set n (!bb)),rfl,⟨hput _,hfin _ rfl⟩,?_⟩;refine(congrArg (Sat Z) (Te (n:=p.methods.length) (v7:=v7) (R:=R) (B:= .box nn (A0 (AL p))) (C:= .own v6 1 (R.map (L3 p.methods.length))) (r':=(rq.1,rq.2.set n (!bb))) hrq rfl)).mp ?_
      first
       | exact hs
       | (rw[hcn,GB]at hs;exact hs)
    .conv=>whnf
     repeat'((first|clear U K|apply st|(apply zk;intro K U)|refine zY ?_|(refine zb (fun hc=>?_) (fun hc=>?_)<;>try exact⟨⟩)|fail)<;>conv=>whnf)
     refine⟨hlt,Q,rfl,⟨hQ,fun m' n' h1 h2=>?_⟩,hs⟩;rcases Nat.lt_or_ge m' m with h'|h'
     .exact hG m' n' h' h2
     .rw[show m'=m by omega]
      exact hI n' (by omega)
   .conv=>whnf
    repeat'((first|clear U K|apply st|(apply zk;intro K U)|refine zY ?_|(refine zb (fun hc=>?_) (fun hc=>?_)<;>try exact⟨⟩)|fail)<;>conv=>whnf)
    have hrow: ∀r∈Q,(E4 p.methods.length r).ok Z:=fun r hr=>hs.oks (.tail _ (.tail _ (.tail _ (Od _ (IX.2 ⟨r,hr,rfl⟩)))))
    refine mq (uf (hs.oks (.tail _ (.tail _ (.head _)))) hrow) ⟨[],⟨rfl,_,rfl,?_,fun x hx y hy hal=>?_⟩,Sat.nil⟩
    .have hlT:(Kv Q).length=p.methods.length:=by rw[Kv,B2];exact hlQ
     refine⟨by omega,fun r hr=>?_,fun x hx=>?_,hl16⟩
     .obtain⟨q,hq,rfl⟩:=IX.1 hr
      rw[hlT];exact hQ.row q hq
     .have:=hin x hx
      simp only[BM,A9,Cc]at this;rw[hlT];omega
    .have mx:=hin x hx
     have my:=hin y hy;simp only[BM,A9,Cc]at mx my
     have hal2:Dn p y x=true:=by
      simp only[Dn,A9,DD]at hal ⊢;exact⟨hal.1.symm,hal.2.symm⟩
     obtain⟨a,ha,rfl⟩:=List.getElem_of_mem hx;obtain⟨b,hb,rfl⟩:=List.getElem_of_mem hy;have e1:l.getD a 0=l[a]:=CS (Cr ha);have e2:l.getD b 0=l[b]:=CS (Cr hb);have h1:=hE a b (by omega) hb;have h2:=hE b a (by omega) ha;rw[e1,e2]at h1 h2;have h3:=hG l[a].toNat l[b].toNat (by omega) (by omega);rw[Int.toNat_of_nonneg mx.1,Int.toNat_of_nonneg my.1,h1 hal,h2 hal2]at h3;exact h3
end Go.Gl
namespace Go.Gl
open Go.Proofs
attribute [local irreducible] Au Am Ab AR AK AY AQ AS AJ AX AN AP Ao Az Sat AU Ax Ad W
def Lx {f g:Nat->Bool}: ∀ {l:List Nat},(∀x∈l,f x=g x)->l.all f=l.all g
 | [],_=>rfl
 | x::r,h=>by rw[KE,KE,h x (.head _),Lx fun y hy=>h y (.tail _ hy)]
def Y3 {A B:Int->Int->Bool} {l:List Int} (h: ∀x∈l,∀y∈l,A x y=B x y) {i:Nat} (hi:i<l.length):HR A l i l.length=HR B l i l.length:=by
 rw[HR,HR];refine Lx fun k hk=>?_
 rw[h _ (EH hi) _ (EH (List.mem_range.1 hk))]
def find_congr {f g:Nat->Bool}: ∀ {l:List Nat},(∀x∈l,f x=g x)->l.find? f=l.find? g
 | [],_=>rfl
 | x::r,h=>by
   rw[List.find?_cons,List.find?_cons,h x (.head _),find_congr fun y hy=>h y (.tail _ hy)]
def Vd {A B:Int->Int->Bool} {l:List Int} (h: ∀x∈l,∀y∈l,A x y=B x y):Ei A l=Ei B l:=
 find_congr fun i hi=>Y3 h (List.mem_range.1 hi)
def NQ {A B:Int->Int->Bool}: ∀(k:Nat) (l:List Int),(∀x∈l,∀y∈l,A x y=B x y)->Be A k l=Be B k l
 | 0,_,_=>rfl
 | k + 1,l,h=>by
   rw[Be,Be,Vd h];cases Ei B l with
   | none=>rfl
   | some i=>
     dsimp only;rw[NQ k (l.eraseIdx i) fun x hx y hy=>h x (List.mem_of_mem_eraseIdx hx) y (List.mem_of_mem_eraseIdx hy)]
def ZM {A B:Int->Int->Bool} {l:List Int} (h: ∀x∈l,∀y∈l,A x y=B x y):Nc A l=Nc B l:=
 find_congr fun i hi=>by
  rw[LP,LP];refine Lx fun k hk=>?_
  rw[h _ (EH (List.mem_range.1 hk)) _ (EH (List.mem_range.1 hi))]
def SG {A B:Int->Int->Bool}: ∀(k:Nat) (l:List Int),(∀x∈l,∀y∈l,A x y=B x y)->DN A k l=DN B k l
 | 0,_,_=>rfl
 | k+1,l,h=>by
   rw[DN,DN,ZM h,SG k (l.eraseIdx _) fun x hx y hy=>h x (List.mem_of_mem_eraseIdx hx) y (List.mem_of_mem_eraseIdx hy)]
def Qz {x y:Int} {out:List Int}:y∈HT x out↔y=x\/y∈out:=by
 have h:=List.takeWhile_append_dropWhile (p:=fun y=>decide (y<x)) (l:=out);rw[HT];constructor
 .intro hy
  rcases Du.1 hy with hy|hy
  .right;rw[<-h];exact PW _ hy
  .rcases GR.1 hy with rfl|hy
   .exact .inl rfl
   .right;rw[<-h];exact Od _ hy
 .rintro(rfl|hy)
  .exact Od _ (.head _)
  .rw[<-h]at hy
   rcases Du.1 hy with hy|hy
   .exact PW _ hy
   .exact Od _ (.tail _ hy)
def R1: ∀(l out:List Int) (y:Int),y∈l.foldl (fun out x=>HT x out) out↔y∈l\/y∈out
 | [],out,y=>by simp
 | x ::r,out,y=>by
   rw[List.foldl_cons,R1 r,Qz,GR];constructor
   .rintro(h|h|h)
    .exact .inl (.inr h)
    .exact .inl (.inl h)
    .exact .inr h
   .rintro((h|h)|h)
    .exact .inr (.inl h)
    .exact .inl h
    .exact .inr (.inr h)
def Kf {l:List Int} {y:Int}:y∈Cx l↔y∈l:=by rw[Cx,R1];simp
def R2: ∀(l out:List Int),(l.foldl (fun out x=>HT x out) out).length=l.length+out.length
 | [],out=>by simp
 | x::r,out=>by rw[List.foldl_cons,R2 r,Mz,Ky];omega
def TF (l:List Int):(Cx l).length=l.length:=by rw[Cx,R2];simp
structure Ud (p:Prog) (l:List Int):Prop where
 GL: ∀x∈l,BM p x=true
 alike: ∀x∈l,∀y∈l,Dn p x y=true
 many:l.length<=16
def m7 (p:Prog) (l:List Int) (kd:Bool) (x:Int):Bool:=BM p x&&((Bd p x).gen==(Bd p (l.getD 0 0)).gen&&(!kd||Dn p x (l.getD 0 0)))
def GM (p:Prog) (l:List Int) (kd:Bool):Bool:=l.all (m7 p l kd)&&decide l.Nodup
def dv {p:Prog} {l:List Int} {kd:Bool} {i:Nat} {x:Int} (hx:l[i]? =some x) (h:m7 p l kd x=false):GM p l kd=false:=by
 rw[GM,Bool.and_eq_false_iff];left;rw[<-Bool.not_eq_true,EB];intro h2;rw[h2 x (Bo hx)]at h;cases h
def du {p:Prog} {l:List Int} {kd:Bool} {i k:Nat} {x:Int} (hx:l[i]? =some x) (hk:l[k]? =some x) (h:k<i):GM p l kd=false:=by
 rw[GM,Bool.and_eq_false_iff];right;rw[decide_eq_false_iff_not];intro h2;have hi:=(JC.1 hx)
 have hj:=(JC.1 hk)
 have:=(List.nodup_iff_pairwise_ne.1 h2)
 rw[List.pairwise_iff_getElem]at this;exact this k i hj.1 hi.1 h (by rw[hj.2,hi.2])
def ZL {l:List Int} {i:Nat} {x:Int} (hx:l[i]? =some x) (h:(l.take i).Nodup) (hn: ∀k y,k<i->l[k]? =some y->y≠x):(l.take (i+1)).Nodup:=by
 rw[AO hx,List.nodup_append];refine⟨h,by simp,fun a ha b hb=>?_⟩;rw[KF.1 hb];obtain⟨k,hk⟩:=List.getElem?_of_mem ha;rw[List.getElem?_take]at hk;split at hk
 .exact hn k a (by assumption) hk
 .cases hk
def Qs: ∀(n:Nat) (l:List Int),l.Nodup->(∀x∈l,0<=x/\x<(n:Int))->l.length<=n
 | 0,l,_,h=>by
   cases l with
   | nil=>simp
   | cons x r=>have:=h x (.head _);omega
 | n + 1,l,hn,h=>by
   have h1:=Qs n (l.erase (n:Int)) (hn.erase _) fun x hx=>by
    have hm:=(List.Nodup.mem_erase_iff hn).1 hx;have:=h x hm.2;have:=hm.1;omega
   have h2:=List.length_erase (a:=(n:Int)) (l:=l);split at h2<;>omega
abbrev pI (p:Int×Int):List V:=[eI p.1,eI p.2]
abbrev pP (l:List (Int×Int)):List (List V):=l.map pI
def Sd (p:Prog) (g:Int):Bool:=decide (0<=g)&&decide (g<(p.Cs.length:Int))
def AAs (p:Prog) (g:Int):Pure zP 87 [.a (BG p),eI g] (.b (Sd p g)):=by
 refine Pure.fit (by kernel_rfl) fun hf=>?_
 have⟨p1,p2,p3,p4⟩:=Gi hf.1;refine AA1 kZ ?_;have hs:=Sn
 conv=>whnf
 repeat'((first|clear U K|apply st|(apply zk;intro K U)|refine zY ?_|refine za (fun hc=>?_) fun hc=>?_|fail)<;>conv=>whnf)
 all_goals exact AF (by simp[Sd, *]<;>omega)
abbrev Ob:=Int×List (Int×Int)
abbrev eOb (o:Ob):List V:=[eI o.1,.l (pP o.2) false]
end Go.Gl
namespace Go.Gl
open Go.Proofs
section
variable {H:Type} {enc:TypeId×Value->H} {W:World}
end
structure Giv where
 p:Prog
 gen:Int
 ms:List Int
 cl:List Int
 st:Int
abbrev YU (g:Giv):List V:=BG g.p++([eI g.gen]++([.l (iL g.ms) false]++([.l (iL g.cl) false]++([eI g.st]++[]))))
section
variable {H:Type} {enc:TypeId×Value->H} {W:World}
def AAP : Vo enc Tryz.prog W 30 YU:=fun n=>
 Il (Gb Tryz.underlying30
  (fun n=>BQ (c:=6) rfl (by kernel_rfl) (fun _=>rfl) (tW n)
   (BQ (c:=1) rfl (by kernel_rfl) (fun _=>rfl) (PF n) (BQ (c:=1) rfl (by kernel_rfl) (fun _=>rfl) (QH n)
    (BQ (c:=1) rfl (by kernel_rfl) (fun _=>rfl) (QH n) (BQ (c:=1) rfl (by kernel_rfl) (fun _=>rfl) (QZ Tryz.underlying28 n) Im))))) (fun _=>(show _=10 from rfl).trans (by kernel_rfl)) n) (fun x=>⟨x.1,x.2.1,x.2.2.1,x.2.2.2.1,x.2.2.2.2.1⟩) fun _=>rfl
end
end Go.Gl
namespace Go.Proofs.YtegbmnmnaijioaaGreat
open Go.Gl Go.ChangeShapes Go.WideShapes Go.ChangeAt Go.RowKit
theorem own:ownKnob Tryz.prog.godebug=none:=by kernel_rfl
def laidOut:laidOutB Tryz.prog=true:=by kernel_rfl
def E7 {a b:Bool} (h1:a=true) (h2:b=true):(a&&b)=true:=by rw[h1,h2];rfl
abbrev HE (w:World):=Hh (fun _=>False) emp w
def vGiv {w:World} {cs:Array Value} {g:Giv} (hp:cs.toList.length=(YU g).length/\Ba (HE w) (fun i=>cs.toList[i]?) 0 (YU g)):Ag (HE w) (.a (YU g)) (.agg cs):=by
 simp only[Ag];exact⟨cs,rfl,by simpa using hp.1,by simpa using hp.2⟩
end Go.Proofs.YtegbmnmnaijioaaGreat
namespace Go.Gl
open Go.Proofs
inductive LM where
 | int (n:Int)
 | LK
 | obj (C:Nat->Bool) (kid:Int->LM)
def LN (w:AH):LM->Prop
 | .int n=> -1000000000<=n/\n<=1000000000
 | .LK=>True
 | .obj C kid=>(∀c,3<=c->C c=true-> ∀q∈par w.parents c,C q.toNat=true)/\ ∀s,LN w (kid s)
def FA (t:LM) (f:Fact):Bool:=match t with
 | .int n=>if f.op=2 then !decide (f.cls > 1)else if f.op=3 then decide (n<f.n)else decide (n=f.n)
 | .LK=>f.op==2&&(f.cls==0||f.cls==2)
 | .obj C _=>f.op==2&&(f.cls==0||(decide (3<=f.cls)&&C f.cls.toNat))
def Oe (w:AH):LM->List Int->Fact->Bool
 | t,[],f=>FA t f
 | .obj C kid,s::r,f=>C (B4 w s).toNat&&Oe w (kid s) r f
 | _,_::_,_=>false
structure EC (w:AH) (l:Fact):Prop where
 op:(Af l).1.op=2\/(Af l).1.op=3\/(Af l).1.op=4
 cls:(Af l).1.op=2->0<=(Af l).1.cls/\(Af l).1.cls<3+w.parents.length
 arg:0<=(Af l).1.arg/\(Af l).1.arg<3
 path: ∀s∈(Af l).1.path,(0:Int)<=s/\s<w.owner.length
 short:(Af l).1.path.length<=2
def KQ {w:AH} {l:Fact} (h:Dj w l):EC w l:=by
 obtain⟨-,hn,hl⟩:=IB h;have hlo:=Ft hl;have q:=IA (w:=w) (l:=[l]) (fun x hx=>by rw[KF.1 hx];exact h);rw[CM,A9]at hn;have hn:=hn.1;simp only[DE,A9,Cc]at hn;obtain⟨ho,-,ha1,ha2,hp,-⟩:=hn;simp only[FT,A9,EB,JH,Cc]at hp;exact⟨hlo,q.2.1 l (.head _),⟨ha1,ha2⟩,fun s hs=>hp.1 s hs,hp.2⟩
def sY (t:Int×Int×List Int) (m:Int):Prop:=t.1<=m/\m<=t.2.1/\m∉t.2.2
def dL {w:AH} {l:Fact} (hl:EC w l) (t:Int×Int×List Int) (m:Int):(∃t',Hw (Af l) t=some t'/\sY t' m)↔sY t m/\FA (.int m) (Af l).1= !(Af l).2:=by
 have h1:=hl.op;generalize Af l=x at *;obtain⟨f,b⟩:=x;obtain⟨lo,hi,no⟩:=t;simp only[Hw,sY,FA]at *;rcases h1 with h|h|h
 .rw[if_pos h,if_pos h]
  by_cases hc:f.cls > 1<;>cases b<;>simp[hc]
 .have h2: ¬f.op=2:=by omega
  rw[if_neg h2,if_pos h,if_neg h2,if_pos h];cases b
  .simp only[L2,if_false,JD,exists_eq_left',Bool.not_false,Cc]
   split<;>constructor<;>rintro⟨h3,h4⟩
   .exact⟨⟨h3,by omega,h4.2⟩,by omega⟩
   .exact⟨h3.1,by omega,h3.2.2⟩
   .exact⟨⟨h3,h4⟩,by omega⟩
   .exact h3
  .simp only[if_true,JD,exists_eq_left',Bool.not_true,decide_eq_false_iff_not]
   split<;>constructor<;>rintro⟨h3,h4⟩
   .exact⟨⟨by omega,h4⟩,by omega⟩
   .exact⟨by omega,h3.2⟩
   .exact⟨⟨h3,h4⟩,by omega⟩
   .exact h3
 .have h2: ¬f.op=2:=by omega
  have h3: ¬f.op=3:=by omega
  rw[if_neg h2,if_neg h3,if_neg h2,if_neg h3];cases b
  .simp only[L2,if_false,JD,exists_eq_left',Bool.not_false,Cc]
   constructor
   .rintro⟨h3,h4,h5⟩
    split at h3<;>split at h4<;>exact⟨⟨by omega,by omega,h5⟩,by omega⟩
   .rintro⟨⟨h3,h4,h5⟩,rfl⟩
    refine⟨?_,?_,h5⟩
    .split<;>omega
    .split<;>omega
  .simp only[if_true,JD,exists_eq_left',Bool.not_true,decide_eq_false_iff_not,Du,KF,not_or]
   constructor
   .rintro⟨h3,h4,h5,h6⟩
    exact⟨⟨h3,h4,h5⟩,h6⟩
   .rintro⟨⟨h3,h4,h5⟩,h6⟩
    exact⟨h3,h4,h5,h6⟩
def Ko {w:AH} (m:Int): ∀(os:List Fact) (t:Int×Int×List Int),(∀l∈os,EC w l)->((∃t',foldI os t=some t'/\sY t' m)↔sY t m/\ ∀l∈os,FA (.int m) (Af l).1= !(Af l).2)
 | [],t,_=>by simp[foldI]
 | x ::r,t,h=>by
   have h1:=dL (h x (.head _)) t m;constructor
   .rintro⟨t',h2,h3⟩
    rw[foldI,Option.bind_eq_some_iff]at h2;obtain⟨u,h4,h5⟩:=h2;obtain⟨h6,h7⟩:=(Ko m r u fun l hl=>h l (.tail _ hl)).1 ⟨t',h5,h3⟩;obtain⟨h8,h9⟩:=h1.1 ⟨u,h4,h6⟩;refine⟨h8,fun l hl=>?_⟩;rcases GR.1 hl with rfl|hl
    .exact h9
    .exact h7 l hl
   .rintro⟨h2,h3⟩
    obtain⟨u,h4,h5⟩:=h1.2 ⟨h2,h3 x (.head _)⟩;obtain⟨t',h6,h7⟩:=(Ko m r u fun l hl=>h l (.tail _ hl)).2 ⟨h5,fun l hl=>h3 l (.tail _ hl)⟩;exact⟨t',by rw[foldI,h4];exact h6,h7⟩
def TC (t:Int×Int×List Int):(QG t).isSome=true↔ ∃m,sY t m:=by
 obtain⟨lo,hi,no⟩:=t;rw[QG,N9];constructor
 .rintro⟨j,h1,h2⟩
  exact⟨lo+j,by simp only[sY]at *;omega,by simp only[]at *;omega,h2⟩
 .rintro⟨m,h1,h2,h3⟩
  dsimp only at h1 h2 h3 ⊢;exact⟨(m - lo).toNat,by omega,by rw[show lo+((m - lo).toNat:Int)=m by omega];exact h3⟩
def Fq {a:Int} {p:List Int} {l:Fact}:Fo a p l=true↔(Af l).1.arg=a/\(Af l).1.path=p:=by
 rw[Fo,A9,DD,DD]
def lX {w:AH} {ls:List Fact} (hl: ∀l∈ls,EC w l) (a:Int) (p:List Int):(GF ls a p).isSome=true↔ ∃m,(-1000000000<=m/\m<=1000000000)/\ ∀l∈ls,(Af l).1.arg=a->(Af l).1.path=p->FA (.int m) (Af l).1= !(Af l).2:=by
 have hL: ∀l∈ls.filter (Fo a p),EC w l:=fun l h=>hl l (JX.1 h).1
 rw[GF];constructor
 .intro h
  cases hf:foldI (ls.filter (Fo a p)) t0 with
  | none=>rw[hf]at h;cases h
  | some t=>
    rw[hf]at h;obtain⟨m,hm⟩:=(TC t).1 h;obtain⟨h1,h2⟩:=(Ko m _ t0 hL).1 ⟨t,hf,hm⟩;exact⟨m,⟨h1.1,h1.2.1⟩,fun l h3 h4 h5=>h2 l (JX.2 ⟨h3,Fq.2 ⟨h4,h5⟩⟩)⟩
 .rintro⟨m,h1,h2⟩
  obtain⟨t,h3,h4⟩:=(Ko m (ls.filter (Fo a p)) t0 hL).2 ⟨⟨h1.1,h1.2,by simp[t0]⟩,fun l h=>by
   obtain⟨h5,h6⟩:=JX.1 h
   exact h2 l h5 (Fq.1 h6).1 (Fq.1 h6).2⟩
  rw[h3];exact(TC t).2 ⟨m,h4⟩
def F8 {ls:List Fact} {a:Int} {p:List Int}:DF ls a p=true↔ ∀l∈ls,(Af l).1.arg=a-> ∀q,(Af l).1.path=p++q->(Af l).2=true:=by
 rw[DF,EB];constructor
 .intro h l hl ha q hq
  have:=h l hl;rw[Fm]at this;rcases this with h1|h1
  .exact h1
  .rw[ha,hq]at h1
   have h2:Bc (p++q) p=true:=B1.2 ⟨q,rfl⟩;simp[h2]at h1
 .intro h l hl
  rw[Fm];by_cases h1:(Af l).1.arg=a/\Bc (Af l).1.path p=true
  .obtain⟨q,hq⟩:=B1.1 h1.2
   exact .inl (h l hl h1.1 q hq)
  .right
   simp only[Bool.not_eq_true',Bool.and_eq_false_iff,beq_eq_false_iff_ne];rcases Classical.em ((Af l).1.arg=a)with e|e
   .exact .inr (by simpa[e]using h1)
   .exact .inl e
def Kg {w:AH} {ls:List Fact} (hl: ∀l∈ls,EC w l) {a:Int} {p:List Int} {s:Int}:s∈BO w.owner.length ls a p↔ ∃l∈ls,(Af l).1.arg=a/\ ∃q,(Af l).1.path=p++s::q:=by
 rw[BO,JX,IY,C7];constructor
 .rintro⟨-,l,h1,h2⟩
  rw[YM,A9,DD]at h2;obtain⟨q,hq⟩:=B1.1 h2.2;exact⟨l,h1,h2.1,q,by rw[hq];simp⟩
 .rintro⟨l,h1,h2,q,hq⟩
  refine⟨(hl l h1).path s (by rw[hq];simp),l,h1,?_⟩;rw[YM,A9,DD];exact⟨h2,B1.2 ⟨q,by rw[hq];simp⟩⟩
def XK {w:AH} {ls:List Fact} (hl: ∀l∈ls,EC w l) {a:Int} {p:List Int}:DY w.owner.length ls a p=true↔ ∀l∈ls,(Af l).1.arg=a-> ∀s q,(Af l).1.path=p++s::q->(Af l).2=true:=by
 rw[DY,EB];constructor
 .intro h l h1 h2 s q hq
  exact F8.1 (h s ((Kg hl).2 ⟨l,h1,h2,q,hq⟩)) l h1 h2 q (by rw[hq];simp)
 .intro h s _
  exact F8.2 fun l h1 h2 q hq=>h l h1 h2 s q (by rw[hq];simp)
def Qa {w:AH} (hw:KG w) {s:Int} (h:0<=s/\s<(w.owner.length:Int)):3<=B4 w s/\B4 w s<3+w.parents.length:=by
 have hs:s.toNat<w.owner.length:=by omega
 have:B4 w s=w.owner[s.toNat]:=by rw[B4,C4,Cr hs];rfl
 rw[this];exact hw.own _ (List.getElem_mem hs)
def rI (t:BB) (C:Nat->Bool):Prop:=(∀c,t.1.getD c false=true->c=0\/C c=true)/\ ∀c,t.2.getD c false=true->c≠0/\C c=false
def UG (t t':BB):Prop:=t.1.length=t'.1.length/\t.2.length=t'.2.length/\(∀c,t.1.getD c false=true->t'.1.getD c false=true)/\ ∀c,t.2.getD c false=true->t'.2.getD c false=true
def UG.nM {t:BB}:UG t t:=⟨rfl,rfl,fun _ h=>h,fun _ h=>h⟩
def UG.trans {t u v:BB} (h:UG t u) (k:UG u v):UG t v:=⟨h.1.trans k.1,h.2.1.trans k.2.1,fun c hc=>k.2.2.1 c (h.2.2.1 c hc),fun c hc=>k.2.2.2 c (h.2.2.2 c hc)⟩
def Mj {l:List Bool} {c b:Nat} (h:(l.set c true).getD b false=true):l.getD b false=true\/b=c:=by
 by_cases e:b=c
 .exact .inr e
 .rw[C4,List.getElem?_set_ne (fun h=>e h.symm),<-C4]at h
  exact .inl h
def Ml {l:List Bool} {c b:Nat} (h:l.getD b false=true):(l.set c true).getD b false=true:=by
 by_cases e:c<l.length
 .rw[EZ e]
  split
  .rfl
  .exact h
 .rw[List.set_eq_of_length_le (by omega)];exact h
def Mk {l:List Bool} {c:Nat} (h:c<l.length):(l.set c true).getD c false=true:=by
 rw[EZ h,if_pos rfl]
def UG.set1 {t:BB} (c:Nat):UG t (t.1.set c true,t.2):=⟨by simp,rfl,fun _ h=>Ml h,fun _ h=>h⟩
def UG.set2 {t:BB} (c:Nat):UG t (t.1,t.2.set c true):=⟨rfl,by simp,fun _ h=>h,fun _ h=>Ml h⟩
def YY (t:BB) (f:Fact) (b:Bool):Prop:=if f.op≠2\/f.cls=1\/f.cls=2 then b=true else if b then t.2.getD f.cls.toNat false=true else t.1.getD f.cls.toNat false=true
def T3 {t t':BB} (h:UG t t') {f:Fact} {b:Bool} (k:YY t f b):YY t' f b:=by
 unfold YY at *;split
 .rename_i h1;rw[if_pos h1]at k;exact k
 .rename_i h1;rw[if_neg h1]at k
  split
  .rename_i h2;rw[if_pos h2]at k;exact h.2.2.2 _ k
  .rename_i h2;rw[if_neg h2]at k;exact h.2.2.1 _ k
def kO {w:AH} {l:Fact} (hl:EC w l) {t t':BB} (hn:t.1.length=3+w.parents.length/\t.2.length=3+w.parents.length) (h:Gh (Af l) t=some t'):UG t t'/\YY t' (Af l).1 (Af l).2:=by
 have hc:=hl.cls;generalize Af l=x at *;obtain⟨f,b⟩:=x;simp only[Gh,YY]at *;split at h
 .rename_i h1
  rw[if_pos h1];cases b
  .cases h
  .obtain rfl:=Option.some.inj h
   exact⟨UG.nM,rfl⟩
 .rename_i h1
  rw[if_neg h1]
  have h2:f.op=2:=by
   rcases Classical.em (f.op=2)with e|e
   .exact e
   .exact absurd (Or.inl e) h1
  have:=hc h2;cases b
  .obtain rfl:=Option.some.inj h
   exact⟨.set1 _,by rw[if_neg (by decide)];exact Mk (by omega)⟩
  .obtain rfl:=Option.some.inj h
   exact⟨.set2 _,by rw[if_pos rfl];exact Mk (by omega)⟩
def dI {w:AH} {l:Fact} (hl:EC w l) {t:BB} {C:Nat->Bool} {kid:Int->LM} (hi:rI t C) (h:FA (.obj C kid) (Af l).1= !(Af l).2): ∃t',Gh (Af l) t=some t'/\rI t' C:=by
 have hc:=hl.cls;generalize Af l=x at *;obtain⟨f,b⟩:=x;simp only[Gh,FA]at *;by_cases h1:f.op≠2\/f.cls=1\/f.cls=2
 .rw[if_pos h1]
  have h2:(f.op==2&&(f.cls==0||(decide (3<=f.cls)&&C f.cls.toNat)))=false:=by
   rcases h1 with h1|h1|h1
   .simp[h1]
   .simp[h1]
   .simp[h1]
  rw[h2]at h;cases b
  .cases h
  .exact⟨t,rfl,hi⟩
 .rw [if_neg h1]
  have h2:f.op=2:=by
   rcases Classical.em (f.op=2)with e|e
   .exact e
   .exact absurd (Or.inl e) h1
  have hr:=hc h2;have h3:f.cls≠1/\f.cls≠2:=⟨fun e=>h1 (.inr (.inl e)),fun e=>h1 (.inr (.inr e))⟩
  have h4:(f.op==2&&(f.cls==0||(decide (3<=f.cls)&&C f.cls.toNat)))=(decide (f.cls=0)||C f.cls.toNat):=by
   rw[h2];rcases Classical.em (f.cls=0)with e|e
   .simp[e]
   .have:3<=f.cls:=by omega
    simp[e,this]
  rw[h4]at h;cases b
  .refine⟨_,rfl,fun c hh=>?_,hi.2⟩
   rcases Mj hh with hh|rfl
   .exact hi.1 c hh
   .simp only[Bool.not_false,Fm,Cc]at h
    rcases h with h|h
    .exact .inl (by omega)
    .exact .inr h
  .refine⟨_,rfl,hi.1,fun c hh=>?_⟩
   rcases Mj hh with hh|rfl
   .exact hi.2 c hh
   .simp only[Bool.not_true,Bool.or_eq_false_iff,decide_eq_false_iff_not]at h
    exact⟨by omega,h.2⟩
def Q7 {w:AH}: ∀(os:List Fact) {t t':BB},(∀l∈os,EC w l)->(t.1.length=3+w.parents.length/\t.2.length=3+w.parents.length)->EL os t=some t'->UG t t'/\ ∀l∈os,YY t' (Af l).1 (Af l).2
 | [],t,t',_,_,h=>by
   obtain rfl:=Option.some.inj h;exact⟨UG.nM,fun l hl=>by cases hl⟩
 | x::r,t,t',hl,hn,h=>by
   rw[EL,Option.bind_eq_some_iff]at h;obtain⟨u,h1,h2⟩:=h;obtain⟨h3,h4⟩:=kO (hl x (.head _)) hn h1;obtain⟨h5,h6⟩:=Q7 r (fun l h=>hl l (.tail _ h)) ⟨by rw[<-h3.1];exact hn.1,by rw[<-h3.2.1];exact hn.2⟩ h2;refine⟨h3.trans h5,fun l h=>?_⟩;rcases GR.1 h with rfl|h
   .exact T3 h5 h4
   .exact h6 l h
def Tl {w:AH} {C:Nat->Bool} {kid:Int->LM}: ∀(os:List Fact) {t:BB},(∀l∈os,EC w l)->rI t C->(∀l∈os,FA (.obj C kid) (Af l).1= !(Af l).2)-> ∃t',EL os t=some t'/\rI t' C
 | [],t,_,hi,_=>⟨t,rfl,hi⟩
 | x::r,t,hl,hi,h=>by
   obtain⟨u,h1,h2⟩:=dI (hl x (.head _)) hi (h x (.head _));obtain⟨t',h3,h4⟩:=Tl r (fun l h=>hl l (.tail _ h)) h2 fun l hh=>h l (.tail _ hh)
   exact⟨t',by rw[EL,h1];exact h3,h4⟩
def tD (w:AH) (ls:List Fact) (a:Int) (p:List Int) (can:Int->Bool) (s:Int) (t:BB):Prop:=
 (DF ls a (p++[s])=false->t.1.getD (B4 w s).toNat false=true/\can s=true)/\(can s=false->t.2.getD (B4 w s).toNat false=true)
def Q6 {w:AH} (hw:KG w) {ls:List Fact} {a:Int} {p:List Int} {can:Int->Bool}: ∀(sl:List Int) {t t':BB},(∀s∈sl,0<=s/\s<(w.owner.length:Int))->(t.1.length=3+w.parents.length/\t.2.length=3+w.parents.length)->Dz w ls a p can sl t=some t'->UG t t'/\ ∀s∈sl,tD w ls a p can s t'
 | [],t,t',_,_,h=>by
   obtain rfl:=Option.some.inj h;exact⟨UG.nM,fun l hl=>by cases hl⟩
 | s ::r,t,t',hs,hn,h=>by
   rw[Dz,Option.bind_eq_some_iff]at h;obtain⟨u,h1,h2⟩:=h;have ho:=Qa hw (hs s (.head _))
   have h3:UG t u/\tD w ls a p can s u:=by
    rw[JF]at h1;split at h1
    .cases h1
    .rename_i hne
     obtain rfl:=Option.some.inj h1;simp only[tD];cases hb:DF ls a (p++[s])<;>cases hc:can s
     .simp[hb,hc]at hne
     .exact⟨⟨by simp,rfl,fun c h=>Ml h,fun c h=>h⟩,fun _=>⟨Mk (by omega),rfl⟩,fun h=>(by cases h)⟩
     .exact⟨⟨rfl,by simp,fun c h=>h,fun c h=>Ml h⟩,fun h=>(by cases h),fun _=>Mk (by omega)⟩
     .exact⟨UG.nM,fun h=>(by cases h),fun h=>(by cases h)⟩
   obtain⟨h5,h6⟩:=Q6 hw r (fun l h=>hs l (.tail _ h)) ⟨by rw[<-h3.1.1];exact hn.1,by rw[<-h3.1.2.1];exact hn.2⟩ h2;refine⟨h3.1.trans h5,fun l h=>?_⟩;rcases GR.1 h with rfl|h
   .exact⟨fun hb=>⟨h5.2.2.1 _ (h3.2.1 hb).1,(h3.2.1 hb).2⟩,fun hc=>h5.2.2.2 _ (h3.2.2 hc)⟩
   .exact h6 l h
def Tk {w : AH} (hw:KG w) {ls:List Fact} {a:Int} {p:List Int} {can:Int->Bool} {C:Nat->Bool}: ∀(sl:List Int) {t:BB},(∀s∈sl,0<=s/\s<(w.owner.length:Int))->rI t C->
    (∀s∈sl,(DF ls a (p++[s])=false->C (B4 w s).toNat=true)/\(C (B4 w s).toNat=true->can s=true))-> ∃t',Dz w ls a p can sl t=some t'/\rI t' C
 | [],t,_,hi,_=>⟨t,rfl,hi⟩
 | s :: r, t,hs,hi,h=>by
   have ho:=Qa hw (hs s (.head _));obtain⟨k1,k2⟩:=h s (.head _)
   have h1 : ∃u,JF w ls a p can s t=some u/\rI u C:=by
    rw[JF];cases hb:DF ls a (p++[s])
    .rw[k2 (k1 hb)]
     refine⟨_,rfl,fun c hh=>?_,hi.2⟩;rcases Mj hh with hh|rfl
     .exact hi.1 c hh
     .exact .inr (k1 hb)
    .cases hc:can s
     .refine⟨_,rfl,hi.1,fun c hh=>?_⟩
      rcases Mj hh with hh|rfl
      .exact hi.2 c hh
      .refine⟨by omega,?_⟩
       rw[<-Bool.not_eq_true];intro e;rw[k2 e]at hc;cases hc
     .exact⟨_,rfl,hi⟩
   obtain⟨u,h2,h3⟩:=h1;obtain⟨t',h4,h5⟩:=Tk hw r (fun l h=>hs l (.tail _ h)) h3 fun l hh=>h l (.tail _ hh)
   exact⟨t',by rw[Dz,h2];exact h4,h5⟩
def oe {w:AH} {C:Nat->Bool}:rI (tO w) C:=by
 have: ∀c,(List.replicate (3+w.parents.length) false).getD c false=false:=fun c=>by
  rw[C4];cases h:(List.replicate (3+w.parents.length) false)[c]? with
  | none=>rfl
  | some b=>rw[List.eq_of_mem_replicate (Bo h)];rfl
 exact⟨fun c h=>absurd ((this c).symm.trans h) (by decide),fun c h=>absurd ((this c).symm.trans h) (by decide)⟩
def fM {g:List (List Int)} (ho:ordered g) {C:Nat->Bool} (hC: ∀c,3<=c->C c=true-> ∀q∈par g c,C q.toNat=true): ∀d b:Nat,3<=d->C d=true->G9 g d b=true->C b=true:=by
 intro d
 induction d using Nat.strongRecOn with
 | _ d ih=>
   intro b h3 hd h;rw[Fa ho]at h;simp only[Fm,DD,IY]at h;rcases h with rfl|⟨p,hp,h⟩
   .exact hd
   .have:=ho d p hp
    exact ih p.toNat (by omega) b (by omega) (hC d h3 hd p hp) h
def lF {w : AH} (hw : KG w) {ls:List Fact} (hl: ∀l∈ls,EC w l) {a:Int} {p:List Int} {can:Int->Bool} {T:Int->LM->Prop} (hcan: ∀s,s∈BO w.owner.length ls a p->(can s=true↔ ∃t,LN w t/\T s t))
    (hT: ∀s t,T s t↔ ∀l∈ls,(Af l).1.arg=a-> ∀q,(Af l).1.path=p++s::q->Oe w t q (Af l).1= !(Af l).2) :
    (LO w ls a p can).isSome=true↔ ∃C kid,LN w (.obj C kid)/\ ∀l∈ls,(Af l).1.arg=a-> ∀q,(Af l).1.path=p++q->Oe w (.obj C kid) q (Af l).1= !(Af l).2:=by
 have hL: ∀l∈ls.filter (Fo a p),EC w l:=fun l h=>hl l (JX.1 h).1
 have hS: ∀s∈BO w.owner.length ls a p,0<=s/\s<(w.owner.length:Int):=fun s h=>Fc h
 have hn0:(tO w).1.length=3+w.parents.length/\(tO w).2.length=3+w.parents.length:=by simp[tO]
 constructor
 .intro h
  rw[LO]at h;cases h1:EL (ls.filter (Fo a p)) (tO w)with
  | none=>rw[h1]at h;cases h
  | some t=>
    rw[h1,Option.bind_some]at h;obtain⟨g1,g2⟩:=Q7 _ hL hn0 h1;have hn1:t.1.length=3+w.parents.length/\t.2.length=3+w.parents.length:=⟨by rw[<-g1.1];exact hn0.1,by rw[<-g1.2.1];exact hn0.2⟩
    cases h2:Dz w ls a p can (BO w.owner.length ls a p) t with
    | none=>rw[h2]at h;cases h
    | some u=>
      rw[h2,Option.bind_some,V0]at h;obtain⟨g3,g4⟩:=Q6 hw _ hS hn1 h2;have hn2:u.1.length=3+w.parents.length/\u.2.length=3+w.parents.length:=⟨by rw[<-g3.1];exact hn1.1,by rw[<-g3.2.1];exact hn1.2⟩
      split at h
      .cases h
      .rename_i h0
       split at h
       .cases h
       .rename_i h3
        clear h;have hSl:(u.1.set 0 false).length=3+w.parents.length:=by simpa using hn2.1
        generalize hSd:CC w.parents (3+w.parents.length) w.parents.length (u.1.set 0 false)=S at *
        have hin: ∀c,3<=c->u.1.getD c false=true->S.getD c false=true:=fun c hc h=>by
         rw[<-hSd];refine KB hw.ord hSl _ _ ?_;rw[C4,List.getElem?_set_ne (by omega),<-C4];exact h
        have hdis: ∀c,S.getD c false=true->u.2.getD c false=true->False:=fun c k1 k2=>by
         have hc:c<3+w.parents.length:=by
          rcases Nat.lt_or_ge c (3+w.parents.length)with h|h
          .exact h
          .rw[C4,List.getElem?_eq_none (by omega)]at k2
           cases k2
         refine h3 (IY.2 ⟨c,List.mem_range.2 hc,?_⟩);rw[k1,k2];rfl
        have hkid: ∀s,∃t,LN w t/\((∃t,LN w t/\T s t)->T s t):=fun s=>by
         rcases Classical.em (∃t,LN w t/\T s t)with⟨t,k1,k2⟩|k
         .exact⟨t,k1,fun _=>k2⟩
         .exact⟨.LK,trivial,fun h=>absurd h k⟩
        refine⟨fun c=>S.getD c false,fun s=>Classical.choose (hkid s),⟨fun c hc h q hq=>?_,fun s=>(Classical.choose_spec (hkid s)).1⟩,fun l h1 h2 q hq=>?_⟩
        .change S.getD c false=true at h
         change S.getD q.toNat false=true
         have hcl:c<3+w.parents.length:=by
          rcases Nat.lt_or_ge c (3+w.parents.length)with h'|h'
          .exact h'
          .rw[C4,List.getElem?_eq_none (by rw[<-hSd,Er];omega)]at h
           cases h
         rw[<-hSd]at h ⊢;exact Hm hw.ord hSl _ c (by omega) (by omega) h q hq
        .cases q with
         | nil =>
           have k:=g2 l (JX.2 ⟨h1,Fq.2 ⟨h2,by simpa using hq⟩⟩);have k:=T3 g3 k;have hc:=(hl l h1).cls;generalize Af l=x at *;obtain⟨f,b⟩:=x;simp only[Oe,FA,YY]at *;by_cases e1:f.op≠2\/f.cls=1\/f.cls=2
           .rw[if_pos e1]at k
            subst k;rcases e1 with e1|e1|e1
            .simp[e1]
            .simp[e1]
            .simp[e1]
           .rw [if_neg e1]at k
            have e2:f.op=2:=by
             rcases Classical.em (f.op=2)with e|e
             .exact e
             .exact absurd (Or.inl e) e1
            have hr:=hc e2;have e3:f.cls≠1/\f.cls≠2:=⟨fun e=>e1 (.inr (.inl e)),fun e=>e1 (.inr (.inr e))⟩
            rw[e2];rcases Classical.em (f.cls=0)with e|e
            .rw[e]at k ⊢
             cases b
             .rfl
             .exfalso;exact h0 k
            .have e4:(f.cls==0)=false:=by simpa using e
             have e5:decide (3<=f.cls)=true:=decide_eq_true (by omega);rw[e4,e5];cases b
             .rw[if_neg (by decide)]at k
              rw[hin _ (by omega) k];rfl
             .rw[if_pos rfl]at k
              have:S.getD f.cls.toNat false=false:=by
               rw[<-Bool.not_eq_true];exact fun e=>hdis _ e k
              rw[this];rfl
         | cons s q=>
           have hs:s∈BO w.owner.length ls a p:=(Kg hl).2 ⟨l,h1,h2,q,hq⟩;have hso:=Qa hw (hS s hs);obtain⟨k1,k2⟩:=g4 s hs;simp only[Oe];cases hm:S.getD (B4 w s).toNat false
           .rw[Bool.false_and]
            cases hb:DF ls a (p++[s])
            .have:=hin _ (by omega) (k1 hb).1
             rw[hm]at this;cases this
            .rw[F8.1 hb l h1 h2 q (by rw[hq];simp)];rfl
           .rw[EA]
            cases hc:can s
            .exact absurd (k2 hc) fun e=>hdis _ hm e
            .exact(hT s _).1 ((Classical.choose_spec (hkid s)).2 ((hcan s hs).1 hc)) l h1 h2 q hq
 .rintro ⟨C,kid,⟨hC,U⟩,h⟩
  obtain⟨t,h1,h2⟩:=Tl (C:=C) (kid:=kid) (ls.filter (Fo a p)) (t:=tO w) hL oe fun l k=>by
   obtain⟨k1,k2⟩:=JX.1 k;obtain⟨k3,k4⟩:=Fq.1 k2;exact h l k1 k3 [] (by simpa using k4)
  obtain ⟨u,h3,h4⟩:=Tk hw (C:=C) (can:=can) (ls:=ls) (a:=a) (p:=p) (BO w.owner.length ls a p) (t:=t) hS h2 fun s hs=>by
   constructor
   .intro hb
    cases e:C (B4 w s).toNat
    .rw[F8.2 fun l k1 k2 q hq=>by
      have:=h l k1 k2 (s::q) (by rw[hq];simp);simp only[Oe,e,Bool.false_and]at this
      simpa using this.symm]at hb
     cases hb
    .rfl
   .intro e
    refine(hcan s hs).2 ⟨kid s,U s,(hT s _).2 fun l k1 k2 q hq=>?_⟩;have:=h l k1 k2 (s::q) hq;simpa only[Oe,e,EA]using this
  rw[LO,h1,Option.bind_some,h3,Option.bind_some,V0]
  have h0:u.2.getD 0 false=false:=by
   rw[<-Bool.not_eq_true];exact fun e=>(h4.2 0 e).1 rfl
  rw[h0,if_neg (by decide),if_neg]
  .rfl
  .rw [IY]
   rintro⟨c,-,hc⟩;rw[A9]at hc;have q1:=(Q7 _ hL hn0 h1).1;have q2:=(Q6 hw _ hS ⟨by rw[<-q1.1];exact hn0.1,by rw[<-q1.2.1];exact hn0.2⟩ h3).1;have hlen:(u.1.set 0 false).length=3+w.parents.length:=by rw[List.length_set,<-q2.1,<-q1.1];exact hn0.1
   obtain⟨d,k1,k2⟩:=Ga hw.ord hlen _ _ hc.1
   have hd0:d≠0:=by
    rintro rfl;rw[C4,List.getElem?_set_self (by rw[List.length_set]at hlen;omega)]at k1;cases k1
   rw[C4,List.getElem?_set_ne (fun e=>hd0 e.symm),<-C4]at k1;have hCd:C d=true:=(h4.1 d k1).resolve_left hd0
   have hCc:C c=true:=by
    rcases Nat.lt_or_ge d 3 with hd|hd
    .rw[Fa hw.ord,show par w.parents d= [] from if_pos hd]at k2
     simp only[List.any_nil,Bool.or_false,DD]at k2;subst k2;exact hCd
    .exact fM hw.ord hC d c hd hCd k2
   have:=(h4.2 c hc.2).2;rw[hCc]at this;cases this
def TT (w:AH) (ls:List Fact) (a:Int) (p:List Int) (t:LM):Prop:= ∀l∈ls,(Af l).1.arg=a-> ∀q,(Af l).1.path=p++q->Oe w t q (Af l).1= !(Af l).2
def Ki {w:AH} {ls:List Fact} (hl: ∀l∈ls,EC w l) {a:Int} {p:List Int}:Eu w.owner.length ls a p=true↔TT w ls a p .LK:=by
 rw[Eu,A9,EB,XK hl];constructor
 .rintro⟨h1,h2⟩ l k1 k2 q hq
  cases q with
  | nil=>
    have:=h1 l (JX.2 ⟨k1,Fq.2 ⟨k2,by simpa using hq⟩⟩);simp only[Oe,FA,JG]at *
    revert this
    cases((Af l).1.op==2&&((Af l).1.cls==0||(Af l).1.cls==2))<;>cases(Af l).2<;>decide
  | cons s q=>simp[Oe,h2 l k1 k2 s q hq]
 .intro h
  refine⟨fun l k=>?_,fun l k1 k2 s q hq=>?_⟩
  .obtain⟨k1,k2⟩:=JX.1 k
   obtain⟨k3,k4⟩:=Fq.1 k2;have:=h l k1 k3 [] (by simpa using k4);simp only[Oe,FA,JG]at *
   revert this
   cases((Af l).1.op==2&&((Af l).1.cls==0||(Af l).1.cls==2))<;>cases(Af l).2<;>decide
  .have:=h l k1 k2 (s::q) hq
   simpa[Oe]using this.symm
def My {w:AH} {ls:List Fact} (hl: ∀l∈ls,EC w l) {a:Int} {p:List Int}:((GF ls a p).isSome&&DY w.owner.length ls a p)=true↔ ∃m,LN w (.int m)/\TT w ls a p (.int m):=by
 rw[A9,XK hl,lX hl];constructor
 .rintro⟨⟨m,h1,h2⟩,h3⟩
  refine⟨m,h1,fun l k1 k2 q hq=>?_⟩;cases q with
  | nil=>exact h2 l k1 k2 (by simpa using hq)
  | cons s q=>simp[Oe,h3 l k1 k2 s q hq]
 .rintro⟨m,h1,h2⟩
  refine⟨⟨m,h1,fun l k1 k2 k3=>h2 l k1 k2 [] (by simpa using k3)⟩,fun l k1 k2 s q hq=>?_⟩;have:=h2 l k1 k2 (s::q) hq;simpa[Oe]using this.symm
def bz {w:AH} (hw:KG w) {ls:List Fact} (hl: ∀l∈ls,EC w l) {a:Int} {p:List Int} {can:Int->Bool} (hcan: ∀s,s∈BO w.owner.length ls a p->(can s=true↔ ∃t,LN w t/\TT w ls a (p++[s]) t)) :
    (((GF ls a p).isSome&&DY w.owner.length ls a p)||(Eu w.owner.length ls a p||(LO w ls a p can).isSome))=true↔ ∃t,LN w t/\TT w ls a p t:=by
 rw[Fm,Fm,My hl,Ki hl,lF hw hl (T:=fun s t=>TT w ls a (p++[s]) t) hcan fun s t=>by simp only[TT,PD,List.singleton_append]];constructor
 .rintro(⟨m,h1,h2⟩|h|⟨C,kid,h1,h2⟩)
  .exact⟨_,h1,h2⟩
  .exact⟨.LK,trivial,h⟩
  .exact⟨_,h1,h2⟩
 .rintro⟨t,h1,h2⟩
  cases t with
  | int m=>exact .inl ⟨m,h1,h2⟩
  | LK=>exact .inr (.inl h2)
  | obj C kid=>exact .inr (.inr ⟨C,kid,h1,h2⟩)
def RF {w:AH} (hw:KG w) {ls:List Fact} (hl: ∀l∈ls,EC w l) (a:Int): ∀(d:Nat) (p:List Int),p.length+d=2->(MD w ls a d p=true↔ ∃t,LN w t/\TT w ls a p t)
 | 0,p,hp=>by
   rw[MD];refine bz hw hl fun s hs=>?_
   rw[II (m:=2) (fun l h=>(hl l h).short) (by omega)]at hs;cases hs
 | d+1,p,hp=>by
   rw[MD];exact bz hw hl fun s hs=>RF hw hl a d (p++[s]) (by simp;omega)
def GS (w:AH) (M:Int->LM) (l:Fact):Prop:=Oe w (M (Af l).1.arg) (Af l).1.path (Af l).1= !(Af l).2
def Wm {w:AH} (hw:KG w) {ls:List Fact} (hl: ∀l∈ls,EC w l):G5 w ls=true↔ ∃M:Int->LM,(∀a,LN w (M a))/\ ∀l∈ls,GS w M l:=by
 rw[G5,EB];constructor
 .intro h
  have hk: ∀a:Int,∃t,LN w t/\(0<=a/\a<3->TT w ls a [] t):=fun a=>by
   rcases Classical.em (0<=a/\a<3)with e|e
   .obtain⟨t,h1,h2⟩:=(RF hw hl a 2 [] rfl).1 (h a (C7.2 e))
    exact⟨t,h1,fun _=>h2⟩
   .exact⟨.LK,trivial,fun k=>absurd k e⟩
  exact⟨fun a=>Classical.choose (hk a),fun a=>(Classical.choose_spec (hk a)).1,fun l k=>(Classical.choose_spec (hk (Af l).1.arg)).2 (hl l k).arg l k rfl _ rfl⟩
 .rintro⟨M,h1,h2⟩ a _
  refine(RF hw hl a 2 [] rfl).2 ⟨M a,h1 a,fun l k1 k2 q hq=>?_⟩;have:=h2 l k1;rw[GS,k2]at this;rw[List.nil_append]at hq;rw[<-hq];exact this
def zH (w:AH) (M:Int->LM) (f:Fact) (l:List Bool):Bool:=
 if f.op=1 then true else if f.op=5 then !l.getD 0 false else if f.op=6 then l.getD 0 false&&l.getD 1 false else if f.op=7 then l.getD 0 false||l.getD 1 false else Oe w (M f.arg) f.path f
def UF (w:AH) (M:Int->LM) (f:Fact):Bool:=f.Hu (zH w M)
def Yn (w:AH) (M:Int->LM) (f:Fact):UF w M f=zH w M f (f.kids.map (UF w M)):=Fact.Ds (zH w M) f
def Mw (a:List Fact) (Q:Fact->Prop): ∀b:List Fact,(∀x∈CY a b,Q x)↔(∀x∈a,Q x)/\ ∀x∈b,Q x:=by
 intro b
 induction b generalizing a with
 | nil=>simp[CY]
 | cons y r ih=>
   rw[CY,ih];split
   .rename_i h
    obtain⟨z,h1,h2⟩:=IY.1 h;have:=(OB y z).1 h2;subst this;simp only[List.forall_mem_cons];constructor
    .rintro⟨h3,h4⟩;exact⟨h3,h3 _ h1,h4⟩
    .rintro⟨h3,_,h4⟩;exact⟨h3,h4⟩
   .simp only[List.forall_mem_append,List.forall_mem_cons,List.forall_mem_nil]
    constructor
    .rintro⟨⟨h1,h2,_⟩,h3⟩;exact⟨h1,h2,h3⟩
    .rintro⟨h1,h2,h3⟩;exact⟨⟨h1,h2,fun _ h=>by cases h⟩,h3⟩
def Ex {w : AH} {M:Int->LM} (f:Fact):Bb w f=true-> ∀c,(∃l∈BE f c,∀x∈l,GS w M x)↔UF w M f= !c:=by
 induction f using Fact.ind with
 | h f ih=>
   intro h c;have har:=Bl f h;have h':=h;rw[CM,A9,EB]at h';rw[Ey,Ek,Yn,zH];by_cases h1:f.op=1
   .rw[if_pos h1,if_pos h1]
    cases c<;>simp
   rw[if_neg h1,if_neg h1];by_cases h5:f.op=5
   .obtain⟨a,ha,hb⟩:=FH har h5
    rw[if_pos h5,if_pos h5,ha];have:=ih a (by rw[ha];exact .head _) (h'.2 a (by rw[ha];exact .head _)) (!c);simp only[E3,List.map_nil,List.getD_cons_zero];rw[this];cases UF w M a<;>cases c<;>decide
   rw[if_neg h5,if_neg h5];by_cases h6:f.op=6\/f.op=7
   .obtain⟨a,b,ha,hb1,hb2⟩:=FG har h6
    rw[if_pos h6,ha];have i1:=ih a (by rw[ha];exact .head _) (h'.2 a (by rw[ha];exact .head _)) c;have j1:=ih b (by rw[ha];exact .tail _ (.head _)) (h'.2 b (by rw[ha];exact .tail _ (.head _))) c;simp only[E3,List.map_nil,List.getD_cons_zero,List.getD_cons_succ]
    have happ:(∃l∈BE a c++BE b c,∀x∈l,GS w M x)↔UF w M a= !c\/UF w M b= !c:=by
     rw[<-i1,<-j1];constructor
     .rintro⟨l,hl,hx⟩
      rcases Du.1 hl with hl|hl
      .exact .inl ⟨l,hl,hx⟩
      .exact .inr ⟨l,hl,hx⟩
     .rintro(⟨l,hl,hx⟩|⟨l,hl,hx⟩)
      .exact⟨l,PW _ hl,hx⟩
      .exact⟨l,Od _ hl,hx⟩
    have hprod:(∃l∈DW (BE a c) (BE b c),∀x∈l,GS w M x)↔UF w M a= !c/\UF w M b= !c:=by
     rw[<-i1,<-j1];simp only[DW,List.mem_flatMap,IX];constructor
     .rintro⟨l,⟨y,hy,z,hz,rfl⟩,hx⟩
      rw[Mw]at hx;exact⟨⟨y,hy,hx.1⟩,z,hz,hx.2⟩
     .rintro⟨⟨y,hy,h1⟩,z,hz,h2⟩
      exact⟨_,⟨y,hy,z,hz,rfl⟩,(Mw y _ z).2 ⟨h1,h2⟩⟩
    rcases h6 with h6|h6
    .rw[if_pos h6,h6]
     cases c
     .rw[if_neg (by decide),hprod]
      simp
     .rw[if_pos (by decide),happ]
      simp only[Bool.not_true,Bool.and_eq_false_iff]
    .rw[if_neg (by omega: ¬f.op=6),if_pos h6,h6]
     cases c
     .rw[if_pos (by decide),happ]
      simp
     .rw[if_neg (by decide),hprod]
      simp only[Bool.not_true,Bool.or_eq_false_iff]
   .rw[if_neg h6,if_neg (fun e=>h6 (.inl e)),if_neg (fun e=>h6 (.inr e))]
    have e1:GS w M f↔Oe w (M f.arg) f.path f=true:=by rw[GS,Af,if_neg h5];exact Iff.rfl
    have e2:GS w M (EV f)↔Oe w (M f.arg) f.path f=false:=by
     rw[GS,show Af (EV f)=(f,true) from rfl];exact Iff.rfl
    cases c
    .simp[e1]
    .simp[e2]
def k7 {w:AH} (hw:KG w) {f:Fact} (hn:Bb w f=true):Sc w f=true↔ ∃M:Int->LM,(∀a,LN w (M a))/\UF w M f=true:=by
 rw[Sc,IY];constructor
 .rintro⟨l,h1,h2⟩
  obtain⟨M,h3,h4⟩:=(Wm hw fun x hx=>KQ (C3 f hn false l h1 x hx)).1 h2;exact⟨M,h3,(Ex f hn false).1 ⟨l,h1,h4⟩⟩
 .rintro⟨M,h1,h2⟩
  obtain⟨l,h3,h4⟩:=(Ex f hn false).2 h2;exact⟨l,h3,(Wm hw fun x hx=>KQ (C3 f hn false l h3 x hx)).2 ⟨M,h1,h4⟩⟩
def Q1 {w:AH} (hw:KG w) {a b:Fact} (ha:Bb w a=true) (hb:Bb w b=true):UP w a b=true↔ ∀M:Int->LM,(∀x,LN w (M x))->UF w M a=true->UF w M b=true:=by
 have he: ∀M,UF w M (PO a (EV b))=(UF w M a&& !UF w M b):=fun M=>by
  rw[Yn];simp only[zH,PO,Fact.op,Fact.kids,E3,List.map_nil,List.getD_cons_zero,List.getD_cons_succ];rw[Yn w M (EV b)];simp[zH,EV,Fact.op,Fact.kids]
 rw[UP,Bool.not_eq_true',<-Bool.not_eq_true,k7 hw (Qt ha hb)];constructor
 .intro h M h1 h2
  rw[<-Bool.not_eq_false];exact fun h3=>h ⟨M,h1,by rw[he,h2,h3];rfl⟩
 .rintro h ⟨M,h1,h2⟩
  rw[he,A9]at h2;rw[h M h1 h2.1]at h2;simp at h2
def imp_trans {w:AH} (hw:KG w) {a b c:Fact} (ha:Bb w a=true) (hb:Bb w b=true) (hc:Bb w c=true) (h1:UP w a b=true) (h2:UP w b c=true):UP w a c=true:=
 (Q1 hw ha hc).2 fun M hM h=>(Q1 hw hb hc).1 h2 M hM ((Q1 hw ha hb).1 h1 M hM h)
end Go.Gl
namespace Go.Gl
open Go.Proofs
def UT (l:List Int) (s:Int):List Int:=if l.contains s then l else l++[s]
def m6 (k:Kn) (s:Int):Kn:={k with AG:=UT k.AG s}
def H2 (a:Int) (p:List Int) (k:Kn) (l:Fact):Kn:=
 if(Af l).1.arg=a/\Bc (Af l).1.path p=true then
  (if(Af l).1.path=p then By (Bz k (Af l).2) (Af l).1 (Af l).2 else m6 (Bz k (Af l).2) ((Af l).1.path.getD p.length 0))
 else k
def kg (ls:List Fact) (a:Int) (p:List Int):Kn:=ls.foldl (H2 a p) k0
structure gF (k k':Kn):Prop where
 core:DZ k=DZ k'
 gO:k.Ah=k'.Ah
 AG: ∀s,s∈k.AG↔s∈k'.AG
def mg (l:List Int) (s x:Int):x∈UT l s↔x∈l\/x=s:=by
 unfold UT;split
 .rename_i h
  rw[List.contains_iff_mem]at h;exact⟨.inl,fun h'=>h'.elim id fun e=>by rw[e];exact h⟩
 .simp
def ko {k k':Kn} (h:gF k k') (a:Int) (p:List Int) (l:Fact):gF (H2 a p k l) (Cz a p k' l):=by
 unfold H2 Cz;split
 .split
  .refine⟨RC (k:=Bz k (Af l).2) (k':=Bz k' (Af l).2) h.core _ _,?_,fun s=>?_⟩
   .rw[Lv,Lv];simp[Bz,h.gO]
   .rw[IV,IV];exact h.AG s
  .refine⟨h.core,by simp[m6,fv,Bz,h.gO],fun s=>?_⟩
   show s∈UT k.AG _↔s∈JR k'.AG _;rw[T7,mg,h.AG]
 .exact h
def Wr (a:Int) (p:List Int): ∀(ls:List Fact) (k k':Kn),gF k k'->gF (ls.foldl (H2 a p) k) (ls.foldl (Cz a p) k')
 | [],_,_,h=>h
 | l::r,_,_,h=>Wr a p r _ _ (ko h a p l)
def Gm (ls:List Fact) (a:Int) (p:List Int):gF (kg ls a p) (kn ls a p):=Wr a p ls k0 k0 ⟨rfl,rfl,fun _=>Iff.rfl⟩
def bG (ls:List Fact) (a:Int) (p:List Int):DZ (kg ls a p)=DZ (EW (ls.filter (Fo a p)) k0):=(Gm ls a p).core.trans (MU ls a p)
def Ta (ls:List Fact) (a:Int) (p:List Int):(kg ls a p).Ah= !DF ls a p:=by rw[(Gm ls a p).gO,Kl]
def OD {w:AH} {ls:List Fact} (hl: ∀l∈ls,EC w l):HY w.owner.length ls:=fun l h=>(hl l h).path
def Qy {w:AH} {ls:List Fact} (hl: ∀l∈ls,EC w l) {a:Int} {p:List Int} {s:Int}:s∈(kg ls a p).AG↔ ∃l∈ls,(Af l).1.arg=a/\ ∃q,(Af l).1.path=p++s::q:=by
 rw[(Gm ls a p).AG,J4 (OD hl),Kg hl]
def AAh {w:AH} {ls:List Fact} (hl: ∀l∈ls,EC w l) {a:Int} {p:List Int} {s:Int} (h:s∈(kg ls a p).AG):0<=s/\s<(w.owner.length:Int):=by
 obtain⟨l,h1,h2,q,hq⟩:=(Qy hl).1 h;exact(hl l h1).path s (by rw[hq];simp)
def jE (ls:List Fact) (a:Int) (p:List Int):H3 (kg ls) a p=H3 (kn ls) a p:=by
 rw[H3,H3,IZ,EB,EB];constructor
 .intro h s hs
  have:=h s (((Gm ls a p).AG s).2 hs)
  rwa [(Gm ls a (p++[s])).gO]at this
 .intro h s hs
  have:=h s (((Gm ls a p).AG s).1 hs)
  rwa [(Gm ls a (p++[s])).gO]
def Mf {k k':Kn} (h:DZ k=DZ k'):k.low=k'.low/\k.high=k'.high/\k.no=k'.no/\k.BU=k'.BU/\k.Dt=k'.Dt/\k.whole=k'.whole:=by
 simpa only[DZ,Prod.mk.injEq]using h
def AAj (ls:List Fact) (a:Int) (p:List Int):Hs (kg ls) a p=Hs (kn ls) a p:=by
 obtain⟨c1,c2,c3,c4,c5,-⟩:=Mf (Gm ls a p).core;rw[Hs,Hs,Ed,Ed,jE,Eh,Eh,c1,c2,c3,c4,c5]
def tn (ls:List Fact) (a:Int) (p:List Int):Et (kg ls) a p=Et (kn ls) a p:=by
 obtain⟨-,-,-,c4,c5,c6⟩:=Mf (Gm ls a p).core;rw[Et,Et,Ed,Ed,jE,c4,c5,c6]
def RD {w:AH} {ls:List Fact} (hl: ∀l∈ls,EC w l):G6 (3+w.parents.length) ls:=fun l h ho=>by
 have:=(hl l h).cls ho;omega
def pU {w:AH} (hw:KG w) {ls:List Fact} (hl: ∀l∈ls,EC w l) (a:Int) (p:List Int):Hs (kg ls) a p=true↔ ∃m,LN w (.int m)/\TT w ls a p (.int m):=by
 rw[AAj,Yj (n:=3+w.parents.length) (by have:=hw.len;omega) (RD hl) (OD hl),My hl]
def lG {w:AH} (hw:KG w) {ls:List Fact} (hl: ∀l∈ls,EC w l) (a:Int) (p:List Int):Et (kg ls) a p=true↔TT w ls a p .LK:=by
 rw[tn,U7 (n:=3+w.parents.length) (by have:=hw.len;omega) (RD hl) (OD hl),Ki hl]
def Vq (w:AH) (kf:Int->List Int->Kn) (a:Int) (p:List Int) (up:Nat) (can:Int->Bool):Bool:=
 !(kf a p).whole&&(Hp (kf a p).BU up&&((kf a p).Dt&&&up==0&&(kf a p).AG.all fun s=>if up.testBit (B4 w s).toNat then can s else !(kf a (p++[s])).Ah))
def lE {w : AH} (hw:KG w) {ls:List Fact} (hl: ∀l∈ls,EC w l) {a:Int} {p:List Int} {up:Nat} {can:Int->Bool} {OK:LM->Prop} (hnon:OK .LK) (u0:up.testBit 0=true) (u1:up.testBit 1=false) (u2:up.testBit 2=false)
    (hcan: ∀s∈(kg ls a p).AG,(can s=true↔ ∃t,OK t/\TT w ls a (p++[s]) t)) :
    Vq w (kg ls) a p up can=true↔ ∃kid,(∀s,OK (kid s))/\TT w ls a p (.obj (fun b=>up.testBit b) kid):=by
 obtain⟨-,-,-,c4,c5,c6⟩:=Mf (bG ls a p);have hc2:G6 (3+w.parents.length) (ls.filter (Fo a p)):=fun l h=>RD hl l (JX.1 h).1
 have hlt:(EW (ls.filter (Fo a p)) k0).BU<2 ^ 64:=Nat.lt_of_lt_of_le (MT hc2) (Nat.pow_le_pow_right (by decide) (by have:=hw.len;omega));have hon: ∀l,l∈ls.filter (Fo a p)↔l∈ls/\(Af l).1.arg=a/\(Af l).1.path=p:=fun l=>by rw[JX,Fq]
 rw[Vq,A9,A9,A9,c4,c5,c6,S6,Mi hlt,M5,EB];simp only[J3,U6,hon];constructor
 .rintro ⟨h1,h2,h3,h4⟩
  have hk: ∀s,∃t,OK t/\(s∈(kg ls a p).AG->up.testBit (B4 w s).toNat=true->TT w ls a (p++[s]) t):=fun s=>by
   rcases Classical.em (s∈(kg ls a p).AG/\up.testBit (B4 w s).toNat=true)with⟨e1,e2⟩|e
   .have:=h4 s e1
    rw[if_pos e2]at this;obtain⟨t,q1,q2⟩:=(hcan s e1).1 this;exact⟨t,q1,fun _ _=>q2⟩
   .exact⟨.LK,hnon,fun e1 e2=>absurd ⟨e1,e2⟩ e⟩
  refine⟨fun s=>Classical.choose (hk s),fun s=>(Classical.choose_spec (hk s)).1,fun l k1 k2 q hq=>?_⟩;cases q with
  | nil =>
    rw[GA]at hq;have hcl:=(hl l k1).cls;show FA _ _=_;simp only[FA];cases hb:(Af l).2
    .have ho:=h1 l ⟨k1,k2,hq⟩ hb
     have hu:=h2 _ ⟨l,⟨k1,k2,hq⟩,ho,hb,rfl⟩;have:=hcl ho;rw[DD.2 ho,EA];by_cases e0:(Af l).1.cls=0
     .rw[e0];rfl
     .have e3:3<=(Af l).1.cls:=by
       rcases Int.lt_or_le (Af l).1.cls 3 with hlt|hge
       .exfalso
        have:(Af l).1.cls.toNat=1\/(Af l).1.cls.toNat=2:=by omega
        rcases this with e|e<;>rw[e]at hu
        .rw[u1]at hu;cases hu
        .rw[u2]at hu;cases hu
       .exact hge
      rw[decide_eq_true e3,hu];simp
    .by_cases ho:(Af l).1.op=2
     .have hn:=h3 _ ⟨l,⟨k1,k2,hq⟩,ho,hb,rfl⟩
      have:=hcl ho;rw[DD.2 ho,EA];have e0:(Af l).1.cls≠0:=fun e=>hn (by rw[e];exact u0)
      rw[beq_eq_false_iff_ne.2 e0,Bool.false_or];cases hu:up.testBit (Af l).1.cls.toNat
      .simp
      .exact(hn hu).elim
     .rw[beq_eq_false_iff_ne.2 ho];rfl
  | cons s r=>
    have hs:s∈(kg ls a p).AG:=(Qy hl).2 ⟨l,k1,k2,r,hq⟩;rw[Oe];have hsp:=(Classical.choose_spec (hk s)).2;generalize Classical.choose (hk s)=t at hsp ⊢;cases hu:up.testBit (B4 w s).toNat
    .have:=h4 s hs
     rw[hu,if_neg (by decide),Ta,Bool.not_not]at this;have:=F8.1 this l k1 k2 r (by rw[hq];simp);rw[this];rfl
    .rw[EA]
     exact hsp hs hu l k1 k2 r (by rw[hq];simp)
 .rintro ⟨kid,hkid,hT⟩
  have hleaf: ∀l∈ls,(Af l).1.arg=a->(Af l).1.path=p->((Af l).1.op==2&&((Af l).1.cls==0||(decide (3<=(Af l).1.cls)&&up.testBit (Af l).1.cls.toNat)))= !(Af l).2:=fun l k1 k2 k3=>hT l k1 k2 [] (by rw[k3];simp)
  refine⟨?_,?_,?_,?_⟩
  .rintro l ⟨k1,k2,k3⟩ hb
   have:=hleaf l k1 k2 k3;rw[hb,Bool.not_false,A9,DD]at this;exact this.1
  .rintro b ⟨l,⟨k1,k2,k3⟩,ho,hb,rfl⟩
   have:=hleaf l k1 k2 k3;rw[hb,Bool.not_false,A9,Fm,A9,DD,DD]at this;rcases this.2 with e|e
   .rw[e];exact u0
   .exact e.2
  .rintro b ⟨l,⟨k1,k2,k3⟩,ho,hb,rfl⟩ hu
   have:=hleaf l k1 k2 k3;have hc:=(hl l k1).cls ho;rw[hb,DD.2 ho,hu,EA,Bool.and_true]at this;by_cases e0:(Af l).1.cls=0
   .rw[e0]at this;cases this
   .have e3:3<=(Af l).1.cls:=by
     rcases Int.lt_or_le (Af l).1.cls 3 with hlt|hge
     .exfalso
      have:(Af l).1.cls.toNat=1\/(Af l).1.cls.toNat=2:=by omega
      rcases this with e|e<;>rw[e]at hu
      .rw[u1]at hu;cases hu
      .rw[u2]at hu;cases hu
     .exact hge
    rw[decide_eq_true e3]at this;simp at this
  .intro s hs
   cases hu:up.testBit (B4 w s).toNat
   .rw[if_neg (by decide),Ta,Bool.not_not]
    refine F8.2 fun l k1 k2 q hq=>?_
    have:=hT l k1 k2 (s::q) (by rw[hq];simp);rw[Oe,hu,Bool.false_and]at this;simpa using this.symm
   .rw[if_pos rfl]
    refine(hcan s hs).2 ⟨kid s,hkid s,fun l k1 k2 q hq=>?_⟩;have:=hT l k1 k2 (s::q) (by rw[hq];simp)
    rwa [Oe,hu,EA]at this
def P3 {w:AH} (hw:KG w) {ls:List Fact} (hl: ∀l∈ls,EC w l) {a:Int} {p:List Int} {C C':Nat->Bool} {kid:Int->LM} (h: ∀b,3<=b->C b=C' b) (hT:TT w ls a p (.obj C kid)):TT w ls a p (.obj C' kid):=fun l k1 k2 q hq=>by
 rw[<-hT l k1 k2 q hq];cases q with
 | nil=>
   show FA _ _=FA _ _;simp only[FA];by_cases h3:3<=(Af l).1.cls
   .rw[h _ (by omega)]
   .rw[decide_eq_false h3,Bool.false_and,Bool.false_and]
 | cons s r=>
   have:=Qa hw ((hl l k1).path s (by rw[hq];simp));rw[Oe,Oe,h _ (by omega)]
end Go.Gl
