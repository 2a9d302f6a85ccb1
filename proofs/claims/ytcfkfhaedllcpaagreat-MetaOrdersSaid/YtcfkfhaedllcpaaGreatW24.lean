import Derived.Test.YtcfkfhaedllcpaaGreatRows
import Derived.HandedShaped
import Derived.Test.YtcfkfhaedllcpaaGreatW14
import Derived.Test.YtcfkfhaedllcpaaGreatW15
import Derived.Test.YtcfkfhaedllcpaaGreatW18
import Derived.Test.YtcfkfhaedllcpaaGreatW21
import Derived.Test.YtcfkfhaedllcpaaGreatW23
set_option linter.all false
set_option linter.defProp false
set_option maxHeartbeats 8000000
noncomputable section
namespace Go.Proofs.YtcfkfhaedllcpaaGreat
open Go.Gl Go.ChangeShapes Go.WideShapes Go.ChangeAt Go.RowKit
theorem own:ownKnob Tryz.prog.godebug=none:=by kernel_rfl
def laidOut:laidOutB Tryz.prog=true:=by kernel_rfl
def Eh {a b:Bool} (h1:a=true) (h2:b=true):(a&&b)=true:=by rw[h1,h2];rfl
abbrev HE (w:World):=Hh (fun _=>False) emp w
def vU8 {w:World} {n:Int} (h:(Lit.int .u8 n).wf=true):Ab (HE w) (.i .u8 n) (.int .u8 n):=by
 simp only[Lit.wf,BD,CN]at h;simp only[Ab];exact⟨trivial,h⟩
def wc {w:World} {cs:Array Value} {p:Prog} (hp:cs.toList.length=(A9 p).length/\BT (HE w) (fun i=>cs.toList[i]?) 0 (A9 p)):Ab (HE w) (.a (A9 p)) (.agg cs):=by
 simp only[Ab];exact⟨cs,rfl,by simpa using hp.1,by simpa using hp.2⟩
end Go.Proofs.YtcfkfhaedllcpaaGreat
namespace Go.Gl
open Go.Proofs
end Go.Gl
namespace Go.Gl
open Go.Proofs
def rO {b:Nat} {Z:AE} {l:List At} (h:Sat Z l) (i j:Nat) {v:V} {n len cap off ln sz:Nat} {es ys:List (List V)} {K:V->AE->Prop} (hi:l[i]? =some (.own v sz es)) (hj:l[j]? =some (.own (.sl n len cap) sz ys)) (hle:off+ln<=ys.length) (hl:es.length+ln<=AY/\(es.length+ln)*b<=140737488355328) (hys: ∀e∈ys,e.length=sz) (ho: ∀e∈ys,∀v∈e,CC v=true)
    (hk: ∀v' Z',Sat Z' (l.set i (.own v' sz (es++(ys.drop off).take ln)))->K v' Z'):AJ b Z sz v (.sv n sz off ln) K:=by
 have hlen:((ys.drop off).take ln).length=ln:=by rw[Mf,pF];omega
 have hm: ∀e∈(ys.drop off).take ln,e∈ys:=fun e he=>List.mem_of_mem_drop (List.mem_of_mem_take he)
 have hA:AJ b Z sz v (.l ((ys.drop off).take ln) true) K:=hAppend h i hi (by rw[hlen];exact hl) (fun e he=>hys e (hm e he)) (fun e he=>ho e (hm e he)) hk;rcases h.get hj with⟨e1,hel⟩|⟨n',cap',e1,hn⟩
 .cases e1
 .cases e1
  unfold AJ at hA ⊢;simp only[rowsOf]at hA ⊢;rw[hn];refine⟨?_,?_,hle,hA.2⟩<;>first|trivial|rfl
def Om {b:Nat} {Z:AE} {l:List At} (h:Sat Z l) (i j:Nat) {α:Type} {enc:α->List V} {xs ys:List α} {v:V} {n len cap off ln sz:Nat} {K:V->AE->Prop} (hi:l[i]? =some (.own v sz (xs.map enc))) (hj:l[j]? =some (.own (.sl n len cap) sz (ys.map enc))) (hle:off+ln<=ys.length) (hl:xs.length+ln<=AY/\(xs.length+ln)*b<=140737488355328) (hg:Em enc sz)
    (hk: ∀v' Z',Sat Z' (l.set i (.own v' sz ((xs++(ys.drop off).take ln).map enc)))->K v' Z'):AJ b Z sz v (.sv n sz off ln) K:=
 rO h i j hi hj (by simpa using hle) (by simpa using hl) (C4 hg ys).1 (C4 hg ys).2 fun v' Z' hs=>hk v' Z' (by simpa[List.map_take,List.map_drop]using hs)
def IL {b sz:Nat} {Z:AE} {v y:V} {K:V->AE->Prop} (hv:(Be v).isSome=true) (h:AJ b Z sz v y fun v' Z'=>(Be v').isSome=true->K v' Z'):AJ b Z sz v y K:=by
 obtain⟨n,l,c,rfl⟩:=eM hv;unfold AJ at h ⊢;refine Eb h fun ys h=>⟨h.1,?_⟩
 have h2:=h.2;dsimp only at h2 ⊢;cases hn:Z n with
 | none=>rw[hn]at h2;exact h2
 | some o=>
   rw[hn]at h2;cases o with
   | arr s es c'=>exact⟨h2.1,h2.2.1,h2.2.2.1,h2.2.2.2.1,fun n' cap' h3 h4=>h2.2.2.2.2 n' cap' h3 h4 rfl⟩
   | _=>exact h2
def qb {Z:AE} {l:List At} (h:Sat Z l) {i:Nat} {v:V} {sz:Nat} {es:List (List V)} (hi:l[i]? =some (.own v sz es)) (hv:(Be v).isSome=true): ∃n cp,v= .sl n es.length cp:=by
 rcases h.get hi with⟨e,_⟩|⟨n,cp,e,_⟩
 .rw[e]at hv;cases hv
 .exact⟨n,cp,e⟩
attribute [local irreducible] A3 Aq Af AR AJ Ad AQ AT AK Ac AM AN Ax A5 Sat AX A4 Ah W
def Gr (x:Int) (out:List Int):List Int:=out.takeWhile (fun y=>decide (y<x))++x::out.dropWhile (fun y=>decide (y<x))
def Cl (l:List Int):List Int:=l.foldl (fun out x=>Gr x out) []
def L9 (x:Int) (out:List Int):(Gr x out).length=out.length+1:=by
 have:=congrArg List.length (List.takeWhile_append_dropWhile (p:=fun y=>decide (y<x)) (l:=out));rw[RQ]at this;rw[Gr,RQ,LF];omega
def T4 {x:Int} {out:List Int} {k:Nat} (h1:out.takeWhile (fun y=>decide (y<x))=out.take k++(out.drop k).takeWhile (fun y=>decide (y<x))) (h2:(out.drop k).takeWhile (fun y=>decide (y<x))= []) (hk:k<=out.length):Gr x out=out.take k++x::out.drop k:=by
 rw[h2,Ip]at h1;have:=List.takeWhile_append_dropWhile (p:=fun y=>decide (y<x)) (l:=out);rw[h1]at this
 have e:out.dropWhile (fun y=>decide (y<x))=out.drop k:=by
  have h3:out.take k++out.dropWhile (fun y=>decide (y<x))=out.take k++out.drop k:=by rw[this,List.take_append_drop]
  exact List.append_cancel_left h3
 rw[Gr,h1,e]
def qE (l : List Int) (f:Bool) (hl:l.length<=16):Pure zP 191 [.l (iL l) f] (.l (iL (Cl l)) false):=by
 have hM:=Mx;refine uW kZ ?_;have hs:=Sn;refine zz ?_;(repeat clear U K);repeat intro K U
 refine B0 l.length (fun i (x:V×List Int)=>[(3,x.1),(4,eI (A8 i))]) (fun _ x=>[.own x.1 1 (iL x.2)]) (fun i x=>x.2=Cl (l.take i)/\x.2.length=i/\(i=0->x.1= .l [] true)/\(1<=i->(Be x.1).isSome=true)) (.l [] true,[]) rfl ⟨rfl,rfl,fun _=>rfl,fun h=>by omega⟩ (El hs 1) ?_;clear hs;rintro i ⟨v,out⟩ Z hi ⟨ho,hol,h0,h1⟩ hs;dsimp only at ho hol h0 h1 hs;dsimp only;rcases BC l hi with⟨z,hz,hlt⟩|hie
 .have hsr:Cl (l.take (i+1))=Gr z out:=by rw[AL hz,Cl,List.foldl_append,ho];rfl
  refine zz ?_;(repeat clear U K);repeat intro K U
  refine Dz (fun k:Nat=>out.length - k) (fun k=>[(5,eI (A8 k))]) (fun _=>[.own v 1 (iL out)]) (fun k=>k<=out.length/\out.takeWhile (fun y=>decide (y<z))=out.take k++(out.drop k).takeWhile (fun y=>decide (y<z))) 0 rfl ⟨Nat.zero_le _,rfl⟩ hs ?_;clear hs;rintro k Z ⟨hk,htw⟩ hs;have hck:A8 k=k:=AO (by omega);by_cases hi0:i=0
  .obtain rfl:=h0 hi0
   have hins:=T4 htw (by rw[Ao (by omega)];rfl) hk
   conv=>whnf
   repeat'((first|clear U K|apply st|(apply zk;intro K U)|refine zY ?_|refine pH (xs:=([]:List Int)) (enc:=fun x:Int=>[eI x]) ?_ (by omega) (by simp;omega) (fun _=>rfl)|refine eL (xs:=([]:List Int)) (enc:=fun x:Int=>[eI x]) ?_ (by omega) (by simp;omega) (fun _=>rfl)|(refine zd (fun hc=>?_) (fun hc=>?_)<;>try exact⟨⟩)|fail)<;>conv=>whnf)
   .exfalso
    simp at hc;omega
   replace hs:=Cf hs 1;refine F9 hs 0 (xs:=[]) (ys:=List.take (A8 k).toNat []) rfl (by simp) BZ fun v1 Z hs=>?_
   conv=>whnf
   repeat'((first|apply st|refine rk ?_ ?_|exact fun s e=>by cases e;rfl|refine aq fun v Z hs hsl=>?_|refine eL (xs:=([]:List Int)) (enc:=fun x:Int=>[eI x]) ?_ (by omega) (by simp;omega) (fun _=>rfl)|fail)<;>conv=>whnf)
   refine IL (by assumption) (F9 hs 0 (xs:=([]++List.take (A8 k).toNat [])++[z]) (ys:=List.drop (A8 k).toNat []) rfl (by simp[AY]) BZ fun v1 Z hs hsl=>?_);refine zz ?_;(repeat clear U K);repeat intro K U
   refine⟨hlt,(v1,Gr z out),rfl,⟨hsr.symm,by rw[L9];omega,fun h=>by omega,fun _=>hsl⟩,?_⟩;have ho0:out= []:=Yh.1 (by omega);rw[hins,ho0];simp at hs ⊢;exact hs.less (.cons₂ _ (KG _))
  .obtain⟨n,cp,rfl⟩:=qb hs (i:=0) rfl (h1 (by omega))
   have hlen:(iL out).length=out.length:=BU _;rcases BC out hk with⟨y,hy,hklt⟩|hke
   .conv=>whnf
    repeat'((first|clear U K|apply st|(apply zk;intro K U)|refine zY ?_|refine ze fun x hx=>?_|refine pX ?_|refine dj ?_|refine za (fun hc=>?_) fun hc=>?_|fail)<;>conv=>whnf)
    all_goals
     rw[hck,JP,hy]at hx;obtain rfl:=Option.some.inj hx
    .refine⟨k+1,by omega,rfl,⟨by omega,?_⟩,hs⟩
     rw[htw,drop_cons hy,List.takeWhile_cons,if_pos (by simpa using hc),AL hy];simp
    have hins:=T4 htw (by rw[drop_cons hy,List.takeWhile_cons,if_neg (by simpa using hc)]) hk;replace hs:=Cf hs 1;refine Om hs 0 1 (xs:=[]) (ys:=out) rfl rfl (by omega) (by simp;omega) BZ fun v1 Z hs=>?_
    conv=>whnf
    repeat'((first|apply st|refine rk ?_ ?_|exact fun s e=>by cases e;rfl|refine aq fun v Z hs hsl=>?_|refine dj ?_|fail)<;>conv=>whnf)
    refine IL (by assumption) (Om hs 0 1 (xs:=([]++(out.drop 0).take (A8 k).toNat)++[z]) (ys:=out) rfl rfl (by omega) (by simp;omega) BZ fun v1 Z hs hsl=>?_);refine zz ?_;(repeat clear U K);repeat intro K U
    refine⟨hlt,(v1,Gr z out),rfl,⟨hsr.symm,by rw[L9];omega,fun h=>by omega,fun _=>hsl⟩,?_⟩;rw[hins]
    have e:([]++(out.drop 0).take (A8 k).toNat)++[z]++(out.drop (A8 k).toNat).take (((iL out).length:Int) - A8 k).toNat=out.take k++z::out.drop k:=by
     have e1:(out.drop k).take (((iL out).length:Int) - A8 k).toNat=out.drop k:=List.take_of_length_le (by rw[pF];omega);rw[show(A8 k).toNat=k by omega,e1];simp
    rw[e]at hs;exact hs.less (.cons₂ _ (KG _))
   .have hins:=T4 htw (by rw[Ao hke];rfl) hk
    conv=>whnf
    repeat'((first|clear U K|apply st|(apply zk;intro K U)|refine zY ?_|refine pX ?_|refine dj ?_|fail)<;>conv=>whnf)
    replace hs:=Cf hs 1;refine Om hs 0 1 (xs:=[]) (ys:=out) rfl rfl (by omega) (by simp;omega) BZ fun v1 Z hs=>?_
    conv=>whnf
    repeat'((first|apply st|refine rk ?_ ?_|exact fun s e=>by cases e;rfl|refine aq fun v Z hs hsl=>?_|refine dj ?_|fail)<;>conv=>whnf)
    refine IL (by assumption) (Om hs 0 1 (xs:=([]++(out.drop 0).take (A8 k).toNat)++[z]) (ys:=out) rfl rfl (by omega) (by simp;omega) BZ fun v1 Z hs hsl=>?_);refine zz ?_;(repeat clear U K);repeat intro K U
    refine⟨hlt,(v1,Gr z out),rfl,⟨hsr.symm,by rw[L9];omega,fun h=>by omega,fun _=>hsl⟩,?_⟩;rw[hins]
    have e:([]++(out.drop 0).take (A8 k).toNat)++[z]++(out.drop (A8 k).toNat).take (((iL out).length:Int) - A8 k).toNat=out.take k++z::out.drop k:=by
     have e1:(out.drop k).take (((iL out).length:Int) - A8 k).toNat=out.drop k:=List.take_of_length_le (by rw[pF];omega);rw[show(A8 k).toNat=k by omega,e1];simp
    rw[e]at hs;exact hs.less (.cons₂ _ (KG _))
 .refine zz ?_;(repeat clear U K);repeat intro K U
  rw[hie,List.take_length]at ho;rw[<-ho];exact Ap (hs.GW 0 rfl)
end Go.Gl
namespace Go.Gl
open Go.Proofs
attribute [local irreducible] A3 Aq Af AR AJ Ad AQ AT AK Ac AM AN Ax A5 Sat AX A4 Ah W
def KM (A:Int->Int->Bool) (l:List Int) (i k:Nat):Bool:=(List.range k).all fun j=> !A (l.getD j 0) (l.getD i 0)
def Ml (A:Int->Int->Bool) (l:List Int):Option Nat:=(List.range l.length).find? fun i=>KM A l i l.length
def C9 (A:Int->Int->Bool):Nat->List Int->List Int
 | 0,_=>[]
 | k+1,l=>l.getD ((Ml A l).getD 0) 0::C9 A k (l.eraseIdx ((Ml A l).getD 0))
def bw (A:Int->Int->Bool) (l:List Int) (i k:Nat):KM A l i (k+1)=(KM A l i k&& !A (l.getD k 0) (l.getD i 0)):=by
 rw[KM,List.range_succ,List.all_append,KM];simp
def x4 (p:Nat->Bool) (n:Nat) (i a:Int):Prop:=(a=0/\ ∀t:Nat,i<t->t<n->p t=false)\/ ∃b:Nat,a=b/\i<b/\b<n/\p b=true/\ ∀t:Nat,i<t->t<b->p t=false
def nE {p:Nat->Bool} {n:Nat} {a:Int} (h:x4 p n (-1) a):a=(((List.range n).find? p).getD 0:Nat):=by
 rcases h with⟨h1,h2⟩|⟨b,h1,-,h3,h4,h5⟩
 .rw[List.find?_range_eq_none.2 fun t ht=>by rw[h2 t (by omega) ht];rfl]
  exact h1
 .rw[List.find?_range_eq_some.2 ⟨h4,List.mem_range.2 h3,fun t ht=>by rw[h5 t (by omega) ht];rfl⟩]
  exact h1
def jM {p:Nat->Bool} {n:Nat} {i:Nat} {a:Int} (h:x4 p n i a) (hi:i<n):x4 p n ((i:Int) - 1) (if p i then(i:Int)else a):=by
 cases hp:p i
 .rw[if_neg (by decide)]
  rcases h with⟨h1,h2⟩|⟨b,h1,h2,h3,h4,h5⟩
  .refine .inl ⟨h1,fun t ht hn=>?_⟩
   by_cases e:t=i
   .rw[e];exact hp
   .exact h2 t (by omega) hn
  .refine .inr ⟨b,h1,by omega,h3,h4,fun t ht hb=>?_⟩
   by_cases e:t=i
   .rw[e];exact hp
   .exact h5 t (by omega) hb
 .rw[if_pos rfl]
  exact .inr ⟨i,rfl,by omega,hi,hp,fun t h1 h2=>by omega⟩
def Ss (T : List (List Bool)) (l:List Int) (f:Bool) (h:Jy T (Cl l)) (hl16:l.length<=16):Pure zP 135 [vU T,.l (iL l) f] (.l (iL (C9 (DY T) (Cl l).length (Cl l))) false):=by
 have hM:=Mx;have c1:=qE l f hl16;refine uu kZ ?_;have hs:=Sn
 conv=>whnf
 repeat'((first|clear U K|apply st|(apply zk;intro K U)|refine zC ?_|fail)<;>conv=>whnf)
 clear c1
 refine Dz (fun(x:List Int×Bool×V×List Int)=>x.1.length) (fun x=>[(1,.l (iL x.1) x.2.1),(5,x.2.2.1)]) (fun x=>[.own x.2.2.1 1 (iL x.2.2.2)])
  (fun x=>Jy T x.1/\x.2.2.2.length+x.1.length<=16/\C9 (DY T) (Cl l).length (Cl l)=x.2.2.2++C9 (DY T) x.1.length x.1) (Cl l,false,.l [] true,[]) rfl ⟨h,by simpa using h.many,by simp⟩ (El hs 1) ?_
 clear hs;rintro⟨l',f',v,out⟩ Z ⟨ho,hlen,hm⟩ hs;dsimp only at ho hlen hm hs;dsimp only;have hll:out.length<AY/\(out.length+1)*8<=140737488355328:=by omega
 by_cases hz:l'.length=0
 .conv=>whnf
  repeat'((first|clear U K|apply st|(apply zk;intro K U)|refine zY ?_|(refine zb (fun hc=>?_) (fun hc=>?_)<;>try exact⟨⟩)|fail)<;>conv=>whnf)
  rw[hz]at hm;simp only[C9,Ip]at hm;rw[hm];exact Ap (hs.GW 0 rfl)
 .obtain⟨n,hn⟩: ∃n,l'.length=n+1:=⟨l'.length - 1,by omega⟩
  rw[hn,C9]at hm;have hm16:=ho.many
  conv=>whnf
  repeat'((first|clear U K|apply st|(apply zk;intro K U)|refine zY ?_|(refine zb (fun hc=>?_) (fun hc=>?_)<;>try exact⟨⟩)|fail)<;>conv=>whnf)
  refine Dz (fun x:Int×Int=>(x.2+1).toNat) (fun x=>[(6,eI x.1),(7,eI x.2)]) (fun _=>[.own v 1 (iL out)]) (fun x=> -1<=x.2/\x.2<l'.length/\x4 (fun i=>KM (DY T) l' i l'.length) l'.length x.2 x.1) (0,IntKind.i64.wrap ((iL l').length - 1)) rfl (by
   have e:((iL l').length:Int)=l'.length:=by simp
   have e2:IntKind.i64.wrap ((iL l').length - 1)=(l'.length:Int) - 1:=by rw[e,wrap64 (by omega) (by omega)]
   dsimp only;rw[e2]
   exact⟨by omega,by omega,.inl ⟨rfl,fun t h1 h2=>by omega⟩⟩) hs ?_
  clear hs;rintro⟨a,i⟩ Z ⟨hi1,hi2,hok⟩ hs;dsimp only at hi1 hi2 hok hs;dsimp only;by_cases hneg:i<0
  .obtain rfl:i= -1:=by omega
   have hae:=nE hok;rw[show(List.range l'.length).find? (fun i=>KM (DY T) l' i l'.length)=Ml (DY T) l' from rfl]at hae
   have hj:(Ml (DY T) l').getD 0<l'.length:=by
    cases h:Ml (DY T) l' with
    | none=>exact Nat.pos_of_ne_zero hz
    | some j=>simpa using List.mem_of_find?_eq_some h
   generalize (Ml (DY T) l').getD 0=j at *;subst hae;have c2:=P7 l' f' j hj ho.many;obtain⟨x,hx⟩: ∃x,l'[j]? =some x:=⟨_,Cy hj⟩
   have hel:=List.length_eraseIdx_of_lt hj;rw[B4 hx]at hm
   conv=>whnf
   repeat'((first|clear U K|apply st|(apply zk;intro K U)|refine zY ?_|refine aq fun v Z hs hsl=>?_|refine zC ?_|(refine zb (fun hc=>?_) (fun hc=>?_)<;>try exact⟨⟩)|fail)<;>conv=>whnf)
   refine⟨(l'.eraseIdx j,false,v,out++[x]),by dsimp only;omega,rfl,⟨ho.less j,by simp;omega,?_⟩,hs⟩;dsimp only;rw[hm,hel,show l'.length - 1=n by omega];simp
  .have hpos:0<=i:=by omega
   obtain⟨x,hx⟩: ∃x,l'[i.toNat]? =some x:=⟨_,Cy (by omega)⟩
   have hxi:=ho.ins x (B1 hx)
   conv=>whnf
   repeat'((first|clear U K|apply st|(apply zk;intro K U)|refine zY ?_|(refine zb (fun hc=>?_) (fun hc=>?_)<;>try exact⟨⟩)|fail)<;>conv=>whnf)
   refine B0 l'.length (fun k (b:Bool)=>[(8,.b b),(9,eI (A8 k))]) (fun _ _=>[.own v 1 (iL out)]) (fun k b=>b=KM (DY T) l' i.toNat k) true rfl rfl hs ?_;clear hs;rintro k b Z hk hb hs;rcases BC l' hk with⟨y,hy,hklt⟩|hke
   .have hyi:=ho.ins y (B1 hy)
    obtain⟨r,hr,hry⟩:=oJ ho hyi hxi;have hsu:=bw (DY T) l' i.toNat k;rw[B4 hx,B4 hy,<-hb]at hsu;have hck:A8 k=k:=AO (by omega);have hrl:=ho.sq r (B1 hr);cases b
    .refine zz ?_;(repeat clear U K);repeat intro K U
     exact⟨hklt,false,rfl,(hsu.trans (by simp)).symm,hs⟩
    .refine zz ?_;(repeat clear U K);repeat intro K U
     exact⟨hklt,!DY T y x,rfl,(hsu.trans (by simp)).symm,hs⟩
   .have hwi:IntKind.i64.wrap (i - 1)=i - 1:=wrap64 (by omega) (by omega)
    have hst:=jM (i:=i.toNat) (by rw[Int.toNat_of_nonneg hpos];exact hok) (by omega);rw[hke]at hb;rw[Int.toNat_of_nonneg hpos,<-hb]at hst
    conv=>whnf
    repeat'((first|clear U K|apply st|(apply zk;intro K U)|refine zY ?_|refine za (fun hc=>?_) fun hc=>?_|fail)<;>conv=>whnf)
    .rw[hc,if_pos rfl]at hst
     exact⟨(i,IntKind.i64.wrap (i - 1)),by dsimp only;omega,rfl,by dsimp only;rw[hwi];exact⟨by omega,by omega,hst⟩,hs⟩
    .rw[hc,if_neg (by decide)]at hst
     exact⟨(a,IntKind.i64.wrap (i - 1)),by dsimp only;omega,rfl,by dsimp only;rw[hwi];exact⟨by omega,by omega,hst⟩,hs⟩
end Go.Gl
namespace Go.Gl
open Go.Proofs
def Sat.oks {Z:AE} {l:List At} (h:Sat Z l) {a:At} (ha:a∈l):a.ok Z:=h.1 a ha
def jo {Z:AE} {v vf:V} {Q:R->AE->Prop} (hf:Ez Z emp v vf) (hq:Q (.ret vf) emp):Aq Z v Q:=⟨vf,emp,fun n o ho=>(by cases ho),hf,hq⟩
structure Hid (p:Prop):Prop where
 un:p
attribute [local irreducible] A3 Aq Af AR AJ Ad AQ AT AK Ac AM AN Ax A5 Sat AX A4 Ah W
abbrev RW:=Nat×List Bool
abbrev LJ (n:Nat) (r:RW):List V:=[.sl r.1 n n]
abbrev Ed (n:Nat) (r:RW):At:= .own (.sl r.1 n n) 1 (bL r.2)
def Zk (n:Nat):Em (LJ n) 1:=fun r=>⟨rfl,fun v hv=>by rw[LD.1 hv];rfl⟩
abbrev js (n:Nat) (v6 v7:V) (R6 R7:List RW):List At:= .own v6 1 (R6.map (LJ n)):: .own v7 1 (R7.map (LJ n))::(R6.map (Ed n)++R7.map (Ed n))
def gp {n:Nat} {v6 v7:V} {R6 R7:List RW} {r6 r7:RW}:List.Perm (Ed n r7::Ed n r6:: .own v6 1 ((R6++[r6]).map (LJ n)):: .own v7 1 ((R7++[r7]).map (LJ n))::(R6.map (Ed n)++R7.map (Ed n))) (js n v6 v7 (R6++[r6]) (R7++[r7])):=by
 have e:(R6++[r6]).map (Ed n)++(R7++[r7]).map (Ed n)=R6.map (Ed n)++(Ed n r6::(R7.map (Ed n)++[Ed n r7])):=by simp
 have h1:((R6++[r6]).map (Ed n)++(R7++[r7]).map (Ed n)).Perm (Ed n r7::Ed n r6::(R6.map (Ed n)++R7.map (Ed n))):=by
  rw[e];refine List.perm_middle.trans (.trans (.cons _ ?_) (.swap _ _ _));rw[<-Wx];exact List.perm_append_singleton _ _
 exact((RP (l₁:=[Ed n r7,Ed n r6]) (l₂:=[_,_])).append_right _).trans (.cons _ (.cons _ h1.symm))
def Jw (R:List RW):List (List Bool):=R.map fun r=>r.2
def Dv {l:List Int} {k:Nat} (h:k<l.length):l.getD k 0∈l:=by
 rw[DH,Cy h];exact List.getElem_mem h
structure Q3 (n:Nat) (R:List RW):Prop where
 len:R.length=n
 row: ∀r∈R,r.2.length=n
def Q3.put {n:Nat} {R:List RW} {r:RW} (h:Q3 n R) {j k:Nat} {b:Bool} (hr:R[j]? =some r):Q3 n (R.set j (r.1,r.2.set k b)):=by
 refine⟨by rw[List.length_set];exact h.len,fun q hq=>?_⟩;rcases List.mem_or_eq_of_mem_set hq with hq|rfl
 .exact h.row q hq
 .rw[List.length_set];exact h.row r (B1 hr)
def XQ {n:Nat} {R:List RW} {r:RW} (h:Q3 n R) {j k:Nat} {b:Bool} (hr:R[j]? =some r) (hk:k<n) (u v:Int):DY (Jw (R.set j (r.1,r.2.set k b))) u v=if u.toNat=j/\v.toNat=k then b else DY (Jw R) u v:=by
 have hj:j<R.length:=(IN.1 hr).1;have hl:=h.row r (B1 hr);rw[DY,DY,Jw,List.map_set];rw[DH (l:=(R.map fun r=>r.2).set j _)];by_cases hu:u.toNat=j
 .rw[hu,List.getElem?_set_self (by simpa using hj),Option.getD_some,EB (by omega)]
  have e:(Jw R).getD j []=r.2:=by rw[Jw,DH,Md,hr];rfl
  by_cases hv:v.toNat=k
  .rw[if_pos hv,if_pos ⟨rfl,hv⟩]
  .rw[if_neg hv,if_neg fun h=>hv h.2,e]
 .rw[List.getElem?_set_ne (fun h=>hu h.symm),if_neg fun h=>hu h.1,<-DH]
  rfl
def iu {Z:AE} {n:Nat} {v6:V} {R:List RW} {r r':RW} {j:Nat} {B:At} {AB X:List At} (hr:R[j]? =some r) (he:r'.1=r.1) (hs:Sat Z (Ed n r'::B:: .own v6 1 (R.map (LJ n))::(AB++(R.map (Ed n)++X).eraseIdx j))):Sat Z (B:: .own v6 1 ((R.set j r').map (LJ n))::(AB++((R.set j r').map (Ed n)++X))):=by
 have hj:j<R.length:=(IN.1 hr).1
 have e1:(R.set j r').map (LJ n)=R.map (LJ n):=by
  rw[List.map_set];refine List.ext_getElem? fun i=>?_
  by_cases hi:j=i
  .subst hi
   rw[List.getElem?_set_self (by simpa using hj),Md,hr];simp only[W6,LJ,he]
  .rw[List.getElem?_set_ne hi]
 have e2:(R.set j r').map (Ed n)++X=(R.map (Ed n)++X).set j (Ed n r'):=by
  rw[List.map_set,List.set_append_left _ _ (by simpa using hj)]
 rw[e1,e2]
 have hp:((R.map (Ed n)++X).set j (Ed n r')).Perm (Ed n r'::(R.map (Ed n)++X).eraseIdx j):=by
  have:=IC (l:=(R.map (Ed n)++X).set j (Ed n r')) (j:=j) (a:=Ed n r') (List.getElem?_set_self (by rw[RQ,BU];omega))
  rwa [List.eraseIdx_set_eq]at this
 refine hs.perm (List.Perm.trans ?_ (.cons _ (.cons _ ((hp.symm).append_left AB))));exact((RP (l₁:=[Ed n r']) (l₂:=B:: .own v6 1 (R.map (LJ n))::AB)).append_right _).trans (by simp)
def oI {R:List RW} {r:RW} {m n:Nat} {b:Bool} (hr:R[m]? =some r) (hb:r.2[n]? =some b):DY (Jw R) m n=b:=by
 simp only[DY,Jw,JP,DH,Md,hr,W6,Option.getD_some,hb]
def SQ {n:Nat} {v7:V} {R Q:List RW} {r r':RW} {j:Nat} {B C:At} (hr:Q[j]? =some r) (he:r'.1=r.1):(B::C:: .own v7 1 (Q.map (LJ n))::(R.map (Ed n)++Q.map (Ed n))).set (R.length+j+3) (Ed n r')=B::C:: .own v7 1 ((Q.set j r').map (LJ n))::(R.map (Ed n)++(Q.set j r').map (Ed n)):=by
 have e1:(Q.set j r').map (LJ n)=Q.map (LJ n):=by
  have hj:j<Q.length:=(IN.1 hr).1;rw[List.map_set];refine List.ext_getElem? fun i=>?_
  by_cases hi:j=i
  .subst hi
   rw[List.getElem?_set_self (by simpa using hj),Md,hr];simp only[W6,LJ,he]
  .rw[List.getElem?_set_ne hi]
 rw[e1];show B::C:: .own v7 1 (Q.map (LJ n))::(R.map (Ed n)++Q.map (Ed n)).set (R.length+j) (Ed n r')=_;rw[List.set_append_right _ _ (by rw[BU];omega),BU,show R.length+j - R.length=j by omega,List.map_set]
def Pp {Z:AE} {n:Nat}: ∀Q:List RW,(∀r∈Q,(Ed n r).ok Z)->D7 Z emp (Q.map (LJ n)) ((Jw Q).map fun r=>[.l (bL r) false])
 | [],_=> .nil
 | r ::s,h=>by
   refine .cons (.cons ?_ .nil) (Pp s fun q hq=>h q (.tail _ hq));rcases h r (.head _)with⟨e,_⟩|⟨m,cap,e,hm⟩
   .cases e
   .injection e with e1 e2 e3
    subst e1 e3;exact .arr hm rfl e2 (.refl _ _ _)
def rV {Z:AE} {n:Nat} {v:V} {Q:List RW} (hv:(At.own v 1 (Q.map (LJ n))).ok Z) (h: ∀r∈Q,(Ed n r).ok Z):Ez Z emp v (vU (Jw Q)):=by
 rcases hv with⟨rfl,_⟩|⟨m,cap,rfl,hm⟩
 .exact .l (fun h=>by cases h) (Pp Q h)
 .exact .arr hm rfl rfl (Pp Q h)
def jm (p : Prog) (l:List Int) (f:Bool) (hok:EH p) (hl16:l.length<=16) (hin: ∀x∈l,BO p x=true):Bc zP 75 [.a (A9 p),.l (iL l) f] [] fun r post=>post= []/\ ∃T,r= .ret (vU T)/\Jy T l/\ ∀x∈l,∀y∈l,DC p x y=true->DY T x y=Ae p x y:=by
 refine Bc.fit (by kernel_rfl) fun hf=>?_
 intro Z hs;have⟨p1,p2,p3,p4⟩:=Fk hf.1;have hM:=Mx;have h16:=hok.many;have hP:=Nw hf.1;have c1:=Tj p hP hok.w8 hok.AG;refine xS kZ ?_
 conv=>whnf
 repeat'((first|clear U K|apply st|(apply zk;intro K U)|refine zY ?_|refine zs fun Z hs=>?_|refine zC ?_|refine zo fun nn hnn Z hs=>?_|fail)<;>conv=>whnf)
 replace hs:=Sat.front (j:=2) (Cf (Cf hs 1) 1) rfl;refine B0 p.methods.length (fun m (x:V×V×List RW×List RW)=>[(6,x.1),(7,x.2.1),(8,eI (A8 m))]) (fun _ x=> .box nn (A1 (AS p))::js p.methods.length x.1 x.2.1 x.2.2.1 x.2.2.2) (fun m x=>x.2.2.1.length=m/\x.2.2.2.length=m/\(∀r∈x.2.2.1,r.2=List.replicate p.methods.length false)/\ ∀r∈x.2.2.2,r.2=List.replicate p.methods.length false) (.l [] true,.l [] true,[],[]) rfl ⟨rfl,rfl,fun r h=>(by cases h),fun r h=>(by cases h)⟩ hs ?_;clear hs hnn;rintro m ⟨v6,v7,R6,R7⟩ Z hm ⟨h6,h7,ha6,ha7⟩ hs;dsimp only at h6 h7 ha6 ha7 hs;dsimp only;rcases BC p.methods hm with⟨x,hx,hlt⟩|hme
 .have hll6:R6.length<AY/\(R6.length+1)*24<=140737488355328:=by omega
  have hll7:R7.length<AY/\(R7.length+1)*24<=140737488355328:=by omega
  refine zz ?_;(repeat clear U K);repeat intro K U
  simp only[BU];refine kO hs (Io _) (by omega) fun u6 Z hs hu6=>?_
  obtain⟨a6,rfl⟩:=hu6
  conv=>whnf
  repeat'((first|clear U K|apply st|(apply zk;intro K U)|refine aq (enc:=LJ p.methods.length) (x:=((_:Nat),List.replicate p.methods.length false)) (fun v Z hs hsl=>?_) (hg:=Zk _)|fail)<;>conv=>whnf)
  rename V=>w6
  simp only[BU];refine kO hs (Io _) (by omega) fun u7 Z hs hu7=>?_
  obtain⟨a7,rfl⟩:=hu7
  conv=>whnf
  repeat'((first|clear U K|apply st|(apply zk;intro K U)|refine zY ?_|refine aq (enc:=LJ p.methods.length) (x:=((_:Nat),List.replicate p.methods.length false)) (fun v Z hs hsl=>?_) (hg:=Zk _)|fail)<;>conv=>whnf)
  refine⟨hlt,(w6,v,R6++[(a6,List.replicate p.methods.length false)],R7++[(a7,List.replicate p.methods.length false)]),rfl,⟨by simp;omega,by simp;omega,fun r hr=>?_,fun r hr=>?_⟩,?_⟩
  .rcases E4.1 hr with hr|hr
   .exact ha6 r hr
   .rw[LD.1 hr]
  .rcases E4.1 hr with hr|hr
   .exact ha7 r hr
   .rw[LD.1 hr]
  .refine Sat.perm ?_ (((RP (l₁:=[_,_]) (l₂:=[_])).append_right _).trans (.cons _ gp))
   have hbl:bL (List.replicate p.methods.length false)=List.replicate p.methods.length [V.b false]:=by simp[bL]
   dsimp only[Ed];rw[hbl];exact hs
 .refine zz ?_;(repeat clear U K);repeat intro K U
  have hs2:=hs;refine B0 l.length (fun i (R:List RW)=>[(9,eI (A8 i))]) (fun _ R=> .box nn (A1 (AS p))::js p.methods.length v6 v7 R R7) (fun i R=>Q3 p.methods.length R/\ ∀i' k',i'<i->k'<l.length->DC p (l.getD i' 0) (l.getD k' 0)=true->DY (Jw R) (l.getD i' 0) (l.getD k' 0)=F6 p (l.getD i' 0) (l.getD k' 0)) R6 rfl ⟨⟨by omega,fun r hr=>by rw[ha6 r hr];simp⟩,fun i' k' h=>by omega⟩ hs ?_;clear hs hs2;rintro i R Z hi ⟨hR,hE⟩ hs;rcases BC l hi with⟨x,hx,hlt⟩|hie
  .have hxm:=hin x (B1 hx)
   have hxP:=B9 hxm;have hxr:=hxm;simp only[BO,BD,CN]at hxr;refine zz ?_;(repeat clear U K);repeat intro K U
   refine B0 l.length (fun k (R:List RW)=>[(10,eI (A8 k))]) (fun _ R=> .box nn (A1 (AS p))::js p.methods.length v6 v7 R R7) (fun k R=>Q3 p.methods.length R/\(∀i' k',i'<i->k'<l.length->DC p (l.getD i' 0) (l.getD k' 0)=true->DY (Jw R) (l.getD i' 0) (l.getD k' 0)=F6 p (l.getD i' 0) (l.getD k' 0))/\ ∀k',k'<k->DC p x (l.getD k' 0)=true->DY (Jw R) x (l.getD k' 0)=F6 p x (l.getD k' 0)) R rfl ⟨hR,hE,fun k' h=>by omega⟩ hs ?_;clear hs hR hE R;rintro k R Z hk ⟨hR,hE,hF⟩ hs;rcases BC l hk with⟨y,hy,hklt⟩|hke
   .have hym:=hin y (B1 hy)
    have hyP:=B9 hym;have hyr:=hym;simp only[BO,BD,CN]at hyr;have c2:=aF p x y hxm hym;have c3:=cH (AS p) (Bi p x).fact (Bi p y).fact hok.wok (hok.facts _ (B1 hxP)).1 (hok.facts _ (B1 hyP)).1 (hok.facts _ (B1 hxP)).2 (hok.facts _ (B1 hyP)).2;cases hal:DC p x y<;>rw[hal]at c2
    .conv=>whnf
     repeat'((first|clear U K|apply st|(apply zk;intro K U)|refine zY ?_|refine zC ?_|fail)<;>conv=>whnf)
     refine⟨hklt,R,rfl,⟨hR,hE,fun k' h=>?_⟩,hs⟩;rcases Nat.lt_or_ge k' k with h'|h'
     .exact hF k' h'
     .rw[show k'=k by omega,B4 hy,hal]
      intro e;cases e
    .obtain⟨r,hr⟩: ∃r,R[x.toNat]? =some r:=⟨_,Cy (by have:=hR.len;omega)⟩
     have hl0:=hR.len;have hl1:(R.map (LJ p.methods.length)).length=p.methods.length:=by rw[BU];exact hR.len
     have hl2:=hR.row r (B1 hr);have hl3:(bL r.2).length=p.methods.length:=by simpa using hl2
     have hj:(At.box nn (A1 (AS p))::js p.methods.length v6 v7 R R7)[x.toNat+3]? =some (Ed p.methods.length r):=by
      show(R.map (Ed p.methods.length)++R7.map (Ed p.methods.length))[x.toNat]? =_;rw[jq (by rw[BU];have:=hR.len;omega),Md,hr];rfl
     replace hs:Sat Z (Ed p.methods.length r:: .box nn (A1 (AS p)):: .own v6 1 (R.map (LJ p.methods.length)):: .own v7 1 (R7.map (LJ p.methods.length))::(R.map (Ed p.methods.length)++R7.map (Ed p.methods.length)).eraseIdx x.toNat):=hs.front hj
     conv=>whnf
     repeat'((first|clear U K|apply st|(apply zk;intro K U)|refine zY ?_|refine rk ?_ ?_|exact fun s e=>by cases e;rfl|refine zs fun Z hs=>?_|refine zC ?_|fail)<;>conv=>whnf)
     have hk2:y.toNat<p.methods.length:=by omega
     have hkeep: ∀u v,BO p u=true->BO p v=true->DY (Jw R) u v=F6 p u v->DY (Jw (R.set x.toNat (r.1,r.2.set y.toNat (F6 p x y)))) u v=F6 p u v:=fun u v hu hv e=>by
      simp only[BO,BD,CN]at hu hv;rw[XQ hR hr hk2];split
      .rename_i h
       rw[show u=x by omega,show v=y by omega]
      .exact e
     refine⟨hklt,R.set x.toNat (r.1,r.2.set y.toNat (F6 p x y)),rfl,⟨hR.put hr,fun i' k' h1 h2 h3=>?_,fun k' h1 h2=>?_⟩,iu (AB:=[_]) hr rfl hs⟩
     .exact hkeep _ _ (hin _ (Dv (by omega))) (hin _ (Dv h2)) (hE i' k' h1 h2 h3)
     .rcases Nat.lt_or_ge k' k with h'|h'
      .exact hkeep _ _ hxm (hin _ (Dv (by omega))) (hF k' h' h2)
      .rw[show k'=k by omega,B4 hy,XQ hR hr hk2,if_pos ⟨rfl,rfl⟩]
   .refine zz ?_;(repeat clear U K);repeat intro K U
    refine⟨hlt,R,rfl,⟨hR,fun i' k' h1 h2=>?_⟩,hs⟩;rcases Nat.lt_or_ge i' i with h'|h'
    .exact hE i' k' h' h2
    .rw[show i'=i by omega,B4 hx]
     exact hF k' (by omega)
  .have hlR:=hR.len
   have hnr:Q3 p.methods.length R7:=⟨by omega,fun r hr=>by rw[ha7 r hr];simp⟩
   refine zz ?_;(repeat clear U K);repeat intro K U
   refine B0 p.methods.length (fun m (Q:List RW)=>[(11,eI (A8 m))]) (fun _ Q=> .box nn (A1 (AS p))::js p.methods.length v6 v7 R Q) (fun m Q=>Q3 p.methods.length Q/\ ∀m' n':Nat,m'<m->n'<p.methods.length->DY (Jw Q) m' n'=(DY (Jw R) m' n'&& !DY (Jw R) n' m')) R7 rfl ⟨hnr,fun m' n' h=>by omega⟩ hs ?_;clear hs hnr;rintro m Q Z hm ⟨hQ,hG⟩ hs;have hlQ:=hQ.len;have hl5:(Q.map (LJ p.methods.length)).length=p.methods.length:=by rw[BU];exact hlQ
   have hl6:(R.map (LJ p.methods.length)).length=p.methods.length:=by rw[BU];exact hlR
   rcases Nat.lt_or_ge m p.methods.length with hlt|hme
   .obtain ⟨ra,hra⟩: ∃r,R[m]? =some r:=⟨_,Cy (by omega)⟩
    conv=>whnf
    repeat'((first|clear U K|apply st|(apply zk;intro K U)|refine zY ?_|(refine zb (fun hc=>?_) (fun hc=>?_)<;>try exact⟨⟩)|fail)<;>conv=>whnf)
    refine B0 p.methods.length (fun n (Q:List RW)=>[(12,eI (A8 n))]) (fun _ Q=> .box nn (A1 (AS p))::js p.methods.length v6 v7 R Q) (fun n Q=>Q3 p.methods.length Q/\(∀m' n':Nat,m'<m->n'<p.methods.length->DY (Jw Q) m' n'=(DY (Jw R) m' n'&& !DY (Jw R) n' m'))/\ ∀n':Nat,n'<n->DY (Jw Q) m n'=(DY (Jw R) m n'&& !DY (Jw R) n' m)) Q rfl ⟨hQ,hG,fun n' h=>by omega⟩ hs ?_;clear hs hQ hG hlQ hl5;rintro n Q Z hn ⟨hQ,hG,hI⟩ hs;have hlQ:=hQ.len;have hl5:(Q.map (LJ p.methods.length)).length=p.methods.length:=by rw[BU];exact hlQ
    rcases Nat.lt_or_ge n p.methods.length with hnlt|hne
    .obtain⟨rb,hrb⟩: ∃r,R[n]? =some r:=⟨_,Cy (by omega)⟩
     obtain⟨rq,hrq⟩: ∃r,Q[m]? =some r:=⟨_,Cy (by omega)⟩
     have hla:=hR.row ra (B1 hra);have hlb:=hR.row rb (B1 hrb);have hlq:=hQ.row rq (B1 hrq);have hcm:A8 m=m:=AO (by omega);have hcn:A8 n=n:=AO (by omega);obtain⟨ba,hba⟩: ∃b,ra.2[n]? =some b:=⟨_,Cy (by omega)⟩
     obtain⟨bb,hbb⟩: ∃b,rb.2[m]? =some b:=⟨_,Cy (by omega)⟩
     have g1:Hid ((At.box nn (A1 (AS p))::js p.methods.length v6 v7 R Q)[m+3]? =some (Ed p.methods.length ra)):=by
      refine .mk ?_;show(R.map (Ed p.methods.length)++Q.map (Ed p.methods.length))[m]? =_;rw[jq (by rw[BU];omega),Md,hra];rfl
     have g2:Hid ((At.box nn (A1 (AS p))::js p.methods.length v6 v7 R Q)[n+3]? =some (Ed p.methods.length rb)):=by
      refine .mk ?_;show(R.map (Ed p.methods.length)++Q.map (Ed p.methods.length))[n]? =_;rw[jq (by rw[BU];omega),Md,hrb];rfl
     have g3:Hid ((At.box nn (A1 (AS p))::js p.methods.length v6 v7 R Q)[R.length+m+3]? =some (Ed p.methods.length rq)):=by
      refine .mk ?_;show(R.map (Ed p.methods.length)++Q.map (Ed p.methods.length))[R.length+m]? =_;rw[List.getElem?_append_right (by rw[BU];omega),BU,show R.length+m - R.length=m by omega,Md,hrq];rfl
     have hra2:R[(A8 m).toNat]? =some ra:=by rw[hcm,JP];exact hra
     have hrb2:R[(A8 n).toNat]? =some rb:=by rw[hcn,JP];exact hrb
     have hrq2:Q[(A8 m).toNat]? =some rq:=by rw[hcm,JP];exact hrq
     have eab:=oI hra hba;have eba:=oI hrb hbb;have hput: ∀b,Q3 p.methods.length (Q.set m (rq.1,rq.2.set n b)):=fun b=>hQ.put hrq
     have hnew: ∀(b:Bool) (u v:Nat),DY (Jw (Q.set m (rq.1,rq.2.set n b))) u v=if u=m/\v=n then b else DY (Jw Q) u v:=fun b u v=>by
      have:=XQ (b:=b) hQ hrq hnlt u v;simpa using this
     have hfin: ∀b,b=(ba&& !bb)->(∀m' n':Nat,m'<m->n'<p.methods.length->DY (Jw (Q.set m (rq.1,rq.2.set n b))) m' n'=(DY (Jw R) m' n'&& !DY (Jw R) n' m'))/\ ∀n':Nat,n'<n+1->DY (Jw (Q.set m (rq.1,rq.2.set n b))) m n'=(DY (Jw R) m n'&& !DY (Jw R) n' m):=fun b hb=>by
      refine⟨fun m' n' h1 h2=>?_,fun n' h1=>?_⟩
      .rw[hnew,if_neg fun h=>by omega]
       exact hG m' n' h1 h2
      .rw[hnew]
       split
       .rename_i h
        rw[h.2,eab,eba,hb]
       .exact hI n' (by omega)
     cases ba
     .conv=>whnf
      repeat'((first|clear U K|apply st|(apply zk;intro K U)|refine zY ?_|refine xw (fun Z hs=>?_) (hi:=g3.un) (h1:=by omega)|refine oc ?_ (hi:=g1.un) (h1:=by rw[BU];omega)|refine oc ?_ (hi:=g3.un) (h1:=by rw[BU];omega)|refine vt ?_ (hi:=g1.un)|(refine zb (fun hc=>?_) (fun hc=>?_)<;>try exact⟨⟩)|fail)<;>conv=>whnf)
      refine⟨hnlt,Q.set m (rq.1,rq.2.set n false),rfl,⟨hput _,hfin _ rfl⟩,?_⟩;refine(congrArg (Sat Z) (SQ (n:=p.methods.length) (v7:=v7) (R:=R) (B:= .box nn (A1 (AS p))) (C:= .own v6 1 (R.map (LJ p.methods.length))) (r':=(rq.1,rq.2.set n false)) hrq rfl)).mp ?_
      first
       | exact hs
       | (rw[hcn,JP]at hs;exact hs)
     .conv=>whnf
      repeat'((first|clear U K|apply st|(apply zk;intro K U)|refine zY ?_|refine xw (fun Z hs=>?_) (hi:=g3.un) (h1:=by omega)|refine oc ?_ (hi:=g1.un) (h1:=by rw[BU];omega)|refine oc ?_ (hi:=g2.un) (h1:=by rw[BU];omega)|refine oc ?_ (hi:=g3.un) (h1:=by rw[BU];omega)|refine vt ?_ (hi:=g1.un)|refine vt ?_ (hi:=g2.un)|(refine zb (fun hc=>?_) (fun hc=>?_)<;>try exact⟨⟩)|fail)<;>conv=>whnf)
      refine⟨hnlt,Q.set m (rq.1,rq.2.set n (!bb)),rfl,⟨hput _,hfin _ rfl⟩,?_⟩;refine(congrArg (Sat Z) (SQ (n:=p.methods.length) (v7:=v7) (R:=R) (B:= .box nn (A1 (AS p))) (C:= .own v6 1 (R.map (LJ p.methods.length))) (r':=(rq.1,rq.2.set n (!bb))) hrq rfl)).mp ?_
      first
       | exact hs
       | (rw[hcn,JP]at hs;exact hs)
    .conv=>whnf
     repeat'((first|clear U K|apply st|(apply zk;intro K U)|refine zY ?_|(refine zb (fun hc=>?_) (fun hc=>?_)<;>try exact⟨⟩)|fail)<;>conv=>whnf)
     refine⟨hlt,Q,rfl,⟨hQ,fun m' n' h1 h2=>?_⟩,hs⟩;rcases Nat.lt_or_ge m' m with h'|h'
     .exact hG m' n' h' h2
     .rw[show m'=m by omega]
      exact hI n' (by omega)
   .conv=>whnf
    repeat'((first|clear U K|apply st|(apply zk;intro K U)|refine zY ?_|(refine zb (fun hc=>?_) (fun hc=>?_)<;>try exact⟨⟩)|fail)<;>conv=>whnf)
    have hrow: ∀r∈Q,(Ed p.methods.length r).ok Z:=fun r hr=>hs.oks (.tail _ (.tail _ (.tail _ (RT _ (Mg.2 ⟨r,hr,rfl⟩)))))
    refine jo (rV (hs.oks (.tail _ (.tail _ (.head _)))) hrow) ⟨[],⟨rfl,_,rfl,?_,fun x hx y hy hal=>?_⟩,Sat.nil⟩
    .have hlT:(Jw Q).length=p.methods.length:=by rw[Jw,BU];exact hlQ
     refine⟨by omega,fun r hr=>?_,fun x hx=>?_,hl16⟩
     .obtain⟨q,hq,rfl⟩:=Mg.1 hr
      rw[hlT];exact hQ.row q hq
     .have:=hin x hx
      simp only[BO,BD,CN]at this;rw[hlT];omega
    .have mx:=hin x hx
     have my:=hin y hy;simp only[BO,BD,CN]at mx my
     have hal2:DC p y x=true:=by
      simp only[DC,BD,EU]at hal ⊢;exact⟨hal.1.symm,hal.2.symm⟩
     obtain⟨a,ha,rfl⟩:=List.getElem_of_mem hx;obtain⟨b,hb,rfl⟩:=List.getElem_of_mem hy;have e1:l.getD a 0=l[a]:=B4 (Cy ha);have e2:l.getD b 0=l[b]:=B4 (Cy hb);have h1:=hE a b (by omega) hb;have h2:=hE b a (by omega) ha;rw[e1,e2]at h1 h2;have h3:=hG l[a].toNat l[b].toNat (by omega) (by omega);rw[Int.toNat_of_nonneg mx.1,Int.toNat_of_nonneg my.1,h1 hal,h2 hal2]at h3;exact h3
end Go.Gl
namespace Go.Gl
open Go.Proofs
attribute [local irreducible] A3 Aq Af AR AJ Ad AQ AT AK Ac AM AN Ax A5 Sat AX A4 Ah W
def K6 {f g:Nat->Bool}: ∀ {l:List Nat},(∀x∈l,f x=g x)->l.all f=l.all g
 | [],_=>rfl
 | x::r,h=>by rw[LC,LC,h x (.head _),K6 fun y hy=>h y (.tail _ hy)]
def Xq {A B:Int->Int->Bool} {l:List Int} (h: ∀x∈l,∀y∈l,A x y=B x y) {i:Nat} (hi:i<l.length):Gm A l i l.length=Gm B l i l.length:=by
 rw[Gm,Gm];refine K6 fun k hk=>?_
 rw[h _ (Dv hi) _ (Dv (List.mem_range.1 hk))]
def find_congr {f g:Nat->Bool}: ∀ {l:List Nat},(∀x∈l,f x=g x)->l.find? f=l.find? g
 | [],_=>rfl
 | x::r,h=>by
   rw[List.find?_cons,List.find?_cons,h x (.head _),find_congr fun y hy=>h y (.tail _ hy)]
def UQ {A B:Int->Int->Bool} {l:List Int} (h: ∀x∈l,∀y∈l,A x y=B x y):D3 A l=D3 B l:=
 find_congr fun i hi=>Xq h (List.mem_range.1 hi)
def MY {A B:Int->Int->Bool}: ∀(k:Nat) (l:List Int),(∀x∈l,∀y∈l,A x y=B x y)->BQ A k l=BQ B k l
 | 0,_,_=>rfl
 | k + 1,l,h=>by
   rw[BQ,BQ,UQ h];cases D3 B l with
   | none=>rfl
   | some i=>
     dsimp only;rw[MY k (l.eraseIdx i) fun x hx y hy=>h x (List.mem_of_mem_eraseIdx hx) y (List.mem_of_mem_eraseIdx hy)]
def X6 {A B:Int->Int->Bool} {l:List Int} (h: ∀x∈l,∀y∈l,A x y=B x y):Ml A l=Ml B l:=
 find_congr fun i hi=>by
  rw[KM,KM];refine K6 fun k hk=>?_
  rw[h _ (Dv (List.mem_range.1 hk)) _ (Dv (List.mem_range.1 hi))]
def Qn {A B:Int->Int->Bool}: ∀(k:Nat) (l:List Int),(∀x∈l,∀y∈l,A x y=B x y)->C9 A k l=C9 B k l
 | 0,_,_=>rfl
 | k+1,l,h=>by
   rw[C9,C9,X6 h,Qn k (l.eraseIdx _) fun x hx y hy=>h x (List.mem_of_mem_eraseIdx hx) y (List.mem_of_mem_eraseIdx hy)]
def Pk {x y:Int} {out:List Int}:y∈Gr x out↔y=x\/y∈out:=by
 have h:=List.takeWhile_append_dropWhile (p:=fun y=>decide (y<x)) (l:=out);rw[Gr];constructor
 .intro hy
  rcases E4.1 hy with hy|hy
  .right;rw[<-h];exact RU _ hy
  .rcases Fm.1 hy with rfl|hy
   .exact .inl rfl
   .right;rw[<-h];exact RT _ hy
 .rintro(rfl|hy)
  .exact RT _ (.head _)
  .rw[<-h]at hy
   rcases E4.1 hy with hy|hy
   .exact RU _ hy
   .exact RT _ (.tail _ hy)
def Qb: ∀(l out:List Int) (y:Int),y∈l.foldl (fun out x=>Gr x out) out↔y∈l\/y∈out
 | [],out,y=>by simp
 | x ::r,out,y=>by
   rw[List.foldl_cons,Qb r,Pk,Fm];constructor
   .rintro(h|h|h)
    .exact .inl (.inr h)
    .exact .inl (.inl h)
    .exact .inr h
   .rintro((h|h)|h)
    .exact .inr (.inl h)
    .exact .inl h
    .exact .inr (.inr h)
def Jn {l:List Int} {y:Int}:y∈Cl l↔y∈l:=by rw[Cl,Qb];simp
def Qc: ∀(l out:List Int),(l.foldl (fun out x=>Gr x out) out).length=l.length+out.length
 | [],out=>by simp
 | x::r,out=>by rw[List.foldl_cons,Qc r,L9,LF];omega
def Rw (l:List Int):(Cl l).length=l.length:=by rw[Cl,Qc];simp
structure TU (p:Prog) (l:List Int):Prop where
 IW: ∀x∈l,BO p x=true
 alike: ∀x∈l,∀y∈l,DC p x y=true
 many:l.length<=16
def aW (p:Prog) (l:List Int) (kd:Bool) (x:Int):Bool:=BO p x&&((Bi p x).gen==(Bi p (l.getD 0 0)).gen&&(!kd||DC p x (l.getD 0 0)))
def D8 (p:Prog) (l:List Int) (kd:Bool):Bool:=l.all (aW p l kd)&&decide l.Nodup
def SJ {p:Prog} {l:List Int} {kd:Bool} {i:Nat} {x:Int} (hx:l[i]? =some x) (h:aW p l kd x=false):D8 p l kd=false:=by
 rw[D8,Bool.and_eq_false_iff];left;rw[<-Bool.not_eq_true,E3];intro h2;rw[h2 x (B1 hx)]at h;cases h
def SI {p:Prog} {l:List Int} {kd:Bool} {i k:Nat} {x:Int} (hx:l[i]? =some x) (hk:l[k]? =some x) (h:k<i):D8 p l kd=false:=by
 rw[D8,Bool.and_eq_false_iff];right;rw[decide_eq_false_iff_not];intro h2;have hi:=(IN.1 hx)
 have hj:=(IN.1 hk)
 have:=(List.nodup_iff_pairwise_ne.1 h2)
 rw[List.pairwise_iff_getElem]at this;exact this k i hj.1 hi.1 h (by rw[hj.2,hi.2])
def QI {l:List Int} {i:Nat} {x:Int} (hx:l[i]? =some x) (h:(l.take i).Nodup) (hn: ∀k y,k<i->l[k]? =some y->y≠x):(l.take (i+1)).Nodup:=by
 rw[AL hx,List.nodup_append];refine⟨h,by simp,fun a ha b hb=>?_⟩;rw[LD.1 hb];obtain⟨k,hk⟩:=List.getElem?_of_mem ha;rw[List.getElem?_take]at hk;split at hk
 .exact hn k a (by assumption) hk
 .cases hk
end Go.Gl
