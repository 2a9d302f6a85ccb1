import Derived.Test.YtnidfcmdimehdaaGreatU14
import Derived.Test.YtnidfcmdimehdaaGreatU21
import Derived.Test.YtnidfcmdimehdaaGreatU23
set_option linter.all false
set_option linter.defProp false
set_option maxHeartbeats 8000000
noncomputable section
namespace Go.Gl
open Go.Proofs
def sf {b:Nat} {Z:AD} {l:List At} (h:Sat Z l) (i j:Nat) {v:V} {n len cap off ln sz:Nat} {es ys:List (List V)} {K:V->AD->Prop} (hi:l[i]? =some (.own v sz es)) (hj:l[j]? =some (.own (.sl n len cap) sz ys)) (hle:off+ln<=ys.length) (hl:es.length+ln<=AZ/\(es.length+ln)*b<=140737488355328) (hys: ∀e∈ys,e.length=sz) (ho: ∀e∈ys,∀v∈e,DL v=true)
    (hk: ∀v' Z',Sat Z' (l.set i (.own v' sz (es++(ys.drop off).take ln)))->K v' Z'):AI b Z sz v (.sv n sz off ln) K:=by
 have hlen:((ys.drop off).take ln).length=ln:=by rw[Ib,lB];omega
 have hm: ∀e∈(ys.drop off).take ln,e∈ys:=fun e he=>List.mem_of_mem_drop (List.mem_of_mem_take he)
 have hA:AI b Z sz v (.l ((ys.drop off).take ln) true) K:=hAppend h i hi (by rw[hlen];exact hl) (fun e he=>hys e (hm e he)) (fun e he=>ho e (hm e he)) hk;rcases h.get hj with⟨e1,hel⟩|⟨n',cap',e1,hn⟩
 .cases e1
 .cases e1
  unfold AI at hA ⊢;simp only[rowsOf]at hA ⊢;rw[hn];refine⟨?_,?_,hle,hA.2⟩<;>first|trivial|rfl
def PI {b:Nat} {Z:AD} {l:List At} (h:Sat Z l) (i j:Nat) {α:Type} {enc:α->List V} {xs ys:List α} {v:V} {n len cap off ln sz:Nat} {K:V->AD->Prop} (hi:l[i]? =some (.own v sz (xs.map enc))) (hj:l[j]? =some (.own (.sl n len cap) sz (ys.map enc))) (hle:off+ln<=ys.length) (hl:xs.length+ln<=AZ/\(xs.length+ln)*b<=140737488355328) (hg:Dp enc sz)
    (hk: ∀v' Z',Sat Z' (l.set i (.own v' sz ((xs++(ys.drop off).take ln).map enc)))->K v' Z'):AI b Z sz v (.sv n sz off ln) K:=
 sf h i j hi hj (by simpa using hle) (by simpa using hl) (DJ hg ys).1 (DJ hg ys).2 fun v' Z' hs=>hk v' Z' (by simpa[List.map_take,List.map_drop]using hs)
def FX {b sz:Nat} {Z:AD} {v y:V} {K:V->AD->Prop} (hv:(Bd v).isSome=true) (h:AI b Z sz v y fun v' Z'=>(Bd v').isSome=true->K v' Z'):AI b Z sz v y K:=by
 obtain⟨n,l,c,rfl⟩:=VW hv;unfold AI at h ⊢;refine E6 h fun ys h=>⟨h.1,?_⟩
 have h2:=h.2;dsimp only at h2 ⊢;cases hn:Z n with
 | none=>rw[hn]at h2;exact h2
 | some o=>
   rw[hn]at h2;cases o with
   | arr s es c'=>exact⟨h2.1,h2.2.1,h2.2.2.1,h2.2.2.2.1,fun n' cap' h3 h4=>h2.2.2.2.2 n' cap' h3 h4 rfl⟩
   | _=>exact h2
def fq {Z:AD} {l:List At} (h:Sat Z l) {i:Nat} {v:V} {sz:Nat} {es:List (List V)} (hi:l[i]? =some (.own v sz es)) (hv:(Bd v).isSome=true): ∃n cp,v= .sl n es.length cp:=by
 rcases h.get hi with⟨e,_⟩|⟨n,cp,e,_⟩
 .rw[e]at hv;cases hv
 .exact⟨n,cp,e⟩
attribute [local irreducible] As Af AV AQ AI AU AP AR AJ AT AM AN Ag Ar Sat AS Ap AX W
def HX (x:Int) (out:List Int):List Int:=out.takeWhile (fun y=>decide (y<x))++x::out.dropWhile (fun y=>decide (y<x))
def Cp (l:List Int):List Int:=l.foldl (fun out x=>HX x out) []
def Mn (x:Int) (out:List Int):(HX x out).length=out.length+1:=by
 have:=congrArg List.length (List.takeWhile_append_dropWhile (p:=fun y=>decide (y<x)) (l:=out));rw[Kt]at this;rw[HX,Kt,JU];omega
def Ui {x:Int} {out:List Int} {k:Nat} (h1:out.takeWhile (fun y=>decide (y<x))=out.take k++(out.drop k).takeWhile (fun y=>decide (y<x))) (h2:(out.drop k).takeWhile (fun y=>decide (y<x))= []) (hk:k<=out.length):HX x out=out.take k++x::out.drop k:=by
 rw[h2,EU]at h1;have:=List.takeWhile_append_dropWhile (p:=fun y=>decide (y<x)) (l:=out);rw[h1]at this
 have e:out.dropWhile (fun y=>decide (y<x))=out.drop k:=by
  have h3:out.take k++out.dropWhile (fun y=>decide (y<x))=out.take k++out.drop k:=by rw[this,List.take_append_drop]
  exact List.append_cancel_left h3
 rw[HX,h1,e]
def rN (l : List Int) (f:Bool) (hl:l.length<=16):Pure zP 272 [.l (iL l) f] (.l (iL (Cp l)) false):=by
 have hM:=Mx;refine tq kZ ?_;have hs:=Sn;refine zz ?_;(repeat clear U K);repeat intro K U
 refine Ba l.length (fun i (x:V×List Int)=>[(3,x.1),(4,eI (Au i))]) (fun _ x=>[.own x.1 1 (iL x.2)]) (fun i x=>x.2=Cp (l.take i)/\x.2.length=i/\(i=0->x.1= .l [] true)/\(1<=i->(Bd x.1).isSome=true)) (.l [] true,[]) rfl ⟨rfl,rfl,fun _=>rfl,fun h=>by omega⟩ (Ce hs 1) ?_;clear hs;rintro i ⟨v,out⟩ Z hi ⟨ho,hol,h0,h1⟩ hs;dsimp only at ho hol h0 h1 hs;dsimp only;rcases Aw l hi with⟨z,hz,hlt⟩|hie
 .have hsr:Cp (l.take (i+1))=HX z out:=by rw[AO hz,Cp,List.foldl_append,ho];rfl
  refine zz ?_;(repeat clear U K);repeat intro K U
  refine DD (fun k:Nat=>out.length - k) (fun k=>[(5,eI (Au k))]) (fun _=>[.own v 1 (iL out)]) (fun k=>k<=out.length/\out.takeWhile (fun y=>decide (y<z))=out.take k++(out.drop k).takeWhile (fun y=>decide (y<z))) 0 rfl ⟨Nat.zero_le _,rfl⟩ hs ?_;clear hs;rintro k Z ⟨hk,htw⟩ hs;have hck:Au k=k:=AW (by omega);by_cases hi0:i=0
  .obtain rfl:=h0 hi0
   have hins:=Ui htw (by rw[Ad (by omega)];rfl) hk
   conv=>whnf
   repeat'((first|clear U K|apply st|(apply zk;intro K U)|refine zY ?_|refine slq (xs:=([]:List Int)) (enc:=fun x:Int=>[eI x]) ?_ (by omega) (by simp;omega) (fun _=>rfl)|refine ep (xs:=([]:List Int)) (enc:=fun x:Int=>[eI x]) ?_ (by omega) (by simp;omega) (fun _=>rfl)|(refine zd (fun hc=>?_) (fun hc=>?_)<;>try exact⟨⟩)|fail)<;>conv=>whnf)
   .exfalso
    simp at hc;omega
   replace hs:=CM hs 1;refine EH hs 0 (xs:=[]) (ys:=List.take (Au k).toNat []) rfl (by simp) Bg fun v1 Z hs=>?_
   conv=>whnf
   repeat'((first|apply st|refine rk ?_ ?_|exact fun s e=>by cases e;rfl|refine aq fun v Z hs hsl=>?_|refine ep (xs:=([]:List Int)) (enc:=fun x:Int=>[eI x]) ?_ (by omega) (by simp;omega) (fun _=>rfl)|fail)<;>conv=>whnf)
   refine FX (by assumption) (EH hs 0 (xs:=([]++List.take (Au k).toNat [])++[z]) (ys:=List.drop (Au k).toNat []) rfl (by simp[AZ]) Bg fun v1 Z hs hsl=>?_);refine zz ?_;(repeat clear U K);repeat intro K U
   refine⟨hlt,(v1,HX z out),rfl,⟨hsr.symm,by rw[Mn];omega,fun h=>by omega,fun _=>hsl⟩,?_⟩;have ho0:out= []:=VA.1 (by omega);rw[hins,ho0];simp at hs ⊢;exact hs.less (.cons₂ _ (Ie _))
  .obtain⟨n,cp,rfl⟩:=fq hs (i:=0) rfl (h1 (by omega))
   have hlen:(iL out).length=out.length:=Bh _;rcases Aw out hk with⟨y,hy,hklt⟩|hke
   .conv=>whnf
    repeat'((first|clear U K|apply st|(apply zk;intro K U)|refine zY ?_|refine ze fun x hx=>?_|refine qd ?_|refine eM ?_|refine za (fun hc=>?_) fun hc=>?_|fail)<;>conv=>whnf)
    all_goals
     rw[hck,FZ,hy]at hx;obtain rfl:=Option.some.inj hx
    .refine⟨k+1,by omega,rfl,⟨by omega,?_⟩,hs⟩
     rw[htw,drop_cons hy,List.takeWhile_cons,if_pos (by simpa using hc),AO hy];simp
    have hins:=Ui htw (by rw[drop_cons hy,List.takeWhile_cons,if_neg (by simpa using hc)]) hk;replace hs:=CM hs 1;refine PI hs 0 1 (xs:=[]) (ys:=out) rfl rfl (by omega) (by simp;omega) Bg fun v1 Z hs=>?_
    conv=>whnf
    repeat'((first|apply st|refine rk ?_ ?_|exact fun s e=>by cases e;rfl|refine aq fun v Z hs hsl=>?_|refine eM ?_|fail)<;>conv=>whnf)
    refine FX (by assumption) (PI hs 0 1 (xs:=([]++(out.drop 0).take (Au k).toNat)++[z]) (ys:=out) rfl rfl (by omega) (by simp;omega) Bg fun v1 Z hs hsl=>?_);refine zz ?_;(repeat clear U K);repeat intro K U
    refine⟨hlt,(v1,HX z out),rfl,⟨hsr.symm,by rw[Mn];omega,fun h=>by omega,fun _=>hsl⟩,?_⟩;rw[hins]
    have e:([]++(out.drop 0).take (Au k).toNat)++[z]++(out.drop (Au k).toNat).take (((iL out).length:Int) - Au k).toNat=out.take k++z::out.drop k:=by
     have e1:(out.drop k).take (((iL out).length:Int) - Au k).toNat=out.drop k:=List.take_of_length_le (by rw[lB];omega);rw[show(Au k).toNat=k by omega,e1];simp
    rw[e]at hs;exact hs.less (.cons₂ _ (Ie _))
   .have hins:=Ui htw (by rw[Ad hke];rfl) hk
    conv=>whnf
    repeat'((first|clear U K|apply st|(apply zk;intro K U)|refine zY ?_|refine qd ?_|refine eM ?_|fail)<;>conv=>whnf)
    replace hs:=CM hs 1;refine PI hs 0 1 (xs:=[]) (ys:=out) rfl rfl (by omega) (by simp;omega) Bg fun v1 Z hs=>?_
    conv=>whnf
    repeat'((first|apply st|refine rk ?_ ?_|exact fun s e=>by cases e;rfl|refine aq fun v Z hs hsl=>?_|refine eM ?_|fail)<;>conv=>whnf)
    refine FX (by assumption) (PI hs 0 1 (xs:=([]++(out.drop 0).take (Au k).toNat)++[z]) (ys:=out) rfl rfl (by omega) (by simp;omega) Bg fun v1 Z hs hsl=>?_);refine zz ?_;(repeat clear U K);repeat intro K U
    refine⟨hlt,(v1,HX z out),rfl,⟨hsr.symm,by rw[Mn];omega,fun h=>by omega,fun _=>hsl⟩,?_⟩;rw[hins]
    have e:([]++(out.drop 0).take (Au k).toNat)++[z]++(out.drop (Au k).toNat).take (((iL out).length:Int) - Au k).toNat=out.take k++z::out.drop k:=by
     have e1:(out.drop k).take (((iL out).length:Int) - Au k).toNat=out.drop k:=List.take_of_length_le (by rw[lB];omega);rw[show(Au k).toNat=k by omega,e1];simp
    rw[e]at hs;exact hs.less (.cons₂ _ (Ie _))
 .refine zz ?_;(repeat clear U K);repeat intro K U
  rw[hie,List.take_length]at ho;rw[<-ho];exact AY (hs.Ic 0 rfl)
end Go.Gl
namespace Go.Gl
open Go.Proofs
attribute [local irreducible] As Af AV AQ AI AU AP AR AJ AT AM AN Ag Ar Sat AS Ap AX W
def LM (A:Int->Int->Bool) (l:List Int) (i k:Nat):Bool:=(List.range k).all fun j=> !A (l.getD j 0) (l.getD i 0)
def NP (A:Int->Int->Bool) (l:List Int):Option Nat:=(List.range l.length).find? fun i=>LM A l i l.length
def DM (A:Int->Int->Bool):Nat->List Int->List Int
 | 0,_=>[]
 | k+1,l=>l.getD ((NP A l).getD 0) 0::DM A k (l.eraseIdx ((NP A l).getD 0))
def cW (A:Int->Int->Bool) (l:List Int) (i k:Nat):LM A l i (k+1)=(LM A l i k&& !A (l.getD k 0) (l.getD i 0)):=by
 rw[LM,List.range_succ,List.all_append,LM];simp
def dnD (p:Nat->Bool) (n:Nat) (i a:Int):Prop:=(a=0/\ ∀t:Nat,i<t->t<n->p t=false)\/ ∃b:Nat,a=b/\i<b/\b<n/\p b=true/\ ∀t:Nat,i<t->t<b->p t=false
def oF {p:Nat->Bool} {n:Nat} {a:Int} (h:dnD p n (-1) a):a=(((List.range n).find? p).getD 0:Nat):=by
 rcases h with⟨h1,h2⟩|⟨b,h1,-,h3,h4,h5⟩
 .rw[List.find?_range_eq_none.2 fun t ht=>by rw[h2 t (by omega) ht];rfl]
  exact h1
 .rw[List.find?_range_eq_some.2 ⟨h4,List.mem_range.2 h3,fun t ht=>by rw[h5 t (by omega) ht];rfl⟩]
  exact h1
def j9 {p:Nat->Bool} {n:Nat} {i:Nat} {a:Int} (h:dnD p n i a) (hi:i<n):dnD p n ((i:Int) - 1) (if p i then(i:Int)else a):=by
 cases hp:p i
 .rw[if_neg (by decide)]
  rcases h with⟨h1,h2⟩|⟨b,h1,h2,h3,h4,h5⟩
  .refine .inl ⟨h1,fun t ht hn=>?_⟩
   by_cases e:t=i
   .rw[e];exact hp
   .exact h2 t (by omega) hn
  .refine .inr ⟨b,h1,by omega,h3,h4,fun t ht hb=>?_⟩
   by_cases e:t=i
   .rw[e];exact hp
   .exact h5 t (by omega) hb
 .rw[if_pos rfl]
  exact .inr ⟨i,rfl,by omega,hi,hp,fun t h1 h2=>by omega⟩
def TP (T : List (List Bool)) (l:List Int) (f:Bool) (h:JX T (Cp l)) (hl16:l.length<=16):Pure zP 226 [ov T,.l (iL l) f] (.l (iL (DM (Dl T) (Cp l).length (Cp l))) false):=by
 have hM:=Mx;have c1:=rN l f hl16;refine uf kZ ?_;have hs:=Sn
 conv=>whnf
 repeat'((first|clear U K|apply st|(apply zk;intro K U)|refine zC ?_|fail)<;>conv=>whnf)
 clear c1
 refine DD (fun(x:List Int×Bool×V×List Int)=>x.1.length) (fun x=>[(1,.l (iL x.1) x.2.1),(5,x.2.2.1)]) (fun x=>[.own x.2.2.1 1 (iL x.2.2.2)])
  (fun x=>JX T x.1/\x.2.2.2.length+x.1.length<=16/\DM (Dl T) (Cp l).length (Cp l)=x.2.2.2++DM (Dl T) x.1.length x.1) (Cp l,false,.l [] true,[]) rfl ⟨h,by simpa using h.many,by simp⟩ (Ce hs 1) ?_
 clear hs;rintro⟨l',f',v,out⟩ Z ⟨ho,hlen,hm⟩ hs;dsimp only at ho hlen hm hs;dsimp only;have hll:out.length<AZ/\(out.length+1)*8<=140737488355328:=by omega
 by_cases hz:l'.length=0
 .conv=>whnf
  repeat'((first|clear U K|apply st|(apply zk;intro K U)|refine zY ?_|(refine zb (fun hc=>?_) (fun hc=>?_)<;>try exact⟨⟩)|fail)<;>conv=>whnf)
  rw[hz]at hm;simp only[DM,EU]at hm;rw[hm];exact AY (hs.Ic 0 rfl)
 .obtain⟨n,hn⟩: ∃n,l'.length=n+1:=⟨l'.length - 1,by omega⟩
  rw[hn,DM]at hm;have hm16:=ho.many
  conv=>whnf
  repeat'((first|clear U K|apply st|(apply zk;intro K U)|refine zY ?_|(refine zb (fun hc=>?_) (fun hc=>?_)<;>try exact⟨⟩)|fail)<;>conv=>whnf)
  refine DD (fun x:Int×Int=>(x.2+1).toNat) (fun x=>[(6,eI x.1),(7,eI x.2)]) (fun _=>[.own v 1 (iL out)]) (fun x=> -1<=x.2/\x.2<l'.length/\dnD (fun i=>LM (Dl T) l' i l'.length) l'.length x.2 x.1) (0,IntKind.i64.wrap ((iL l').length - 1)) rfl (by
   have e:((iL l').length:Int)=l'.length:=by simp
   have e2:IntKind.i64.wrap ((iL l').length - 1)=(l'.length:Int) - 1:=by rw[e,wrap64 (by omega) (by omega)]
   dsimp only;rw[e2]
   exact⟨by omega,by omega,.inl ⟨rfl,fun t h1 h2=>by omega⟩⟩) hs ?_
  clear hs;rintro⟨a,i⟩ Z ⟨hi1,hi2,hok⟩ hs;dsimp only at hi1 hi2 hok hs;dsimp only;by_cases hneg:i<0
  .obtain rfl:i= -1:=by omega
   have hae:=oF hok;rw[show(List.range l'.length).find? (fun i=>LM (Dl T) l' i l'.length)=NP (Dl T) l' from rfl]at hae
   have hj:(NP (Dl T) l').getD 0<l'.length:=by
    cases h:NP (Dl T) l' with
    | none=>exact Nat.pos_of_ne_zero hz
    | some j=>simpa using List.mem_of_find?_eq_some h
   generalize (NP (Dl T) l').getD 0=j at *;subst hae;have c2:=Qq l' f' j hj ho.many;obtain⟨x,hx⟩: ∃x,l'[j]? =some x:=⟨_,CQ hj⟩
   have hel:=List.length_eraseIdx_of_lt hj;rw[B5 hx]at hm
   conv=>whnf
   repeat'((first|clear U K|apply st|(apply zk;intro K U)|refine zY ?_|refine aq fun v Z hs hsl=>?_|refine zC ?_|(refine zb (fun hc=>?_) (fun hc=>?_)<;>try exact⟨⟩)|fail)<;>conv=>whnf)
   refine⟨(l'.eraseIdx j,false,v,out++[x]),by dsimp only;omega,rfl,⟨ho.less j,by simp;omega,?_⟩,hs⟩;dsimp only;rw[hm,hel,show l'.length - 1=n by omega];simp
  .have hpos:0<=i:=by omega
   obtain⟨x,hx⟩: ∃x,l'[i.toNat]? =some x:=⟨_,CQ (by omega)⟩
   have hxi:=ho.ins x (BY hx)
   conv=>whnf
   repeat'((first|clear U K|apply st|(apply zk;intro K U)|refine zY ?_|(refine zb (fun hc=>?_) (fun hc=>?_)<;>try exact⟨⟩)|fail)<;>conv=>whnf)
   refine Ba l'.length (fun k (b:Bool)=>[(8,.b b),(9,eI (Au k))]) (fun _ _=>[.own v 1 (iL out)]) (fun k b=>b=LM (Dl T) l' i.toNat k) true rfl rfl hs ?_;clear hs;rintro k b Z hk hb hs;rcases Aw l' hk with⟨y,hy,hklt⟩|hke
   .have hyi:=ho.ins y (BY hy)
    obtain⟨r,hr,hry⟩:=pA ho hyi hxi;have hsu:=cW (Dl T) l' i.toNat k;rw[B5 hx,B5 hy,<-hb]at hsu;have hck:Au k=k:=AW (by omega);have hrl:=ho.sq r (BY hr);cases b
    .refine zz ?_;(repeat clear U K);repeat intro K U
     exact⟨hklt,false,rfl,(hsu.trans (by simp)).symm,hs⟩
    .refine zz ?_;(repeat clear U K);repeat intro K U
     exact⟨hklt,!Dl T y x,rfl,(hsu.trans (by simp)).symm,hs⟩
   .have hwi:IntKind.i64.wrap (i - 1)=i - 1:=wrap64 (by omega) (by omega)
    have hst:=j9 (i:=i.toNat) (by rw[Int.toNat_of_nonneg hpos];exact hok) (by omega);rw[hke]at hb;rw[Int.toNat_of_nonneg hpos,<-hb]at hst
    conv=>whnf
    repeat'((first|clear U K|apply st|(apply zk;intro K U)|refine zY ?_|refine za (fun hc=>?_) fun hc=>?_|fail)<;>conv=>whnf)
    .rw[hc,if_pos rfl]at hst
     exact⟨(i,IntKind.i64.wrap (i - 1)),by dsimp only;omega,rfl,by dsimp only;rw[hwi];exact⟨by omega,by omega,hst⟩,hs⟩
    .rw[hc,if_neg (by decide)]at hst
     exact⟨(a,IntKind.i64.wrap (i - 1)),by dsimp only;omega,rfl,by dsimp only;rw[hwi];exact⟨by omega,by omega,hst⟩,hs⟩
end Go.Gl
namespace Go.Gl
open Go.Proofs
def Sat.oks {Z:AD} {l:List At} (h:Sat Z l) {a:At} (ha:a∈l):a.ok Z:=h.1 a ha
def k9 {Z:AD} {v vf:V} {Q:R->AD->Prop} (hf:Fa Z emp v vf) (hq:Q (.ret vf) emp):Af Z v Q:=⟨vf,emp,fun n o ho=>(by cases ho),hf,hq⟩
structure Hid (p:Prop):Prop where
 un:p
attribute [local irreducible] As Af AV AQ AI AU AP AR AJ AT AM AN Ag Ar Sat AS Ap AX W
abbrev RW:=Nat×List Bool
abbrev Lw (n:Nat) (r:RW):List V:=[.sl r.1 n n]
abbrev E7 (n:Nat) (r:RW):At:= .own (.sl r.1 n n) 1 (bL r.2)
def aR (n:Nat):Dp (Lw n) 1:=fun r=>⟨rfl,fun v hv=>by rw[JT.1 hv];rfl⟩
abbrev lE (n:Nat) (v6 v7:V) (R6 R7:List RW):List At:= .own v6 1 (R6.map (Lw n)):: .own v7 1 (R7.map (Lw n))::(R6.map (E7 n)++R7.map (E7 n))
def im {n:Nat} {v6 v7:V} {R6 R7:List RW} {r6 r7:RW}:List.Perm (E7 n r7::E7 n r6:: .own v6 1 ((R6++[r6]).map (Lw n)):: .own v7 1 ((R7++[r7]).map (Lw n))::(R6.map (E7 n)++R7.map (E7 n))) (lE n v6 v7 (R6++[r6]) (R7++[r7])):=by
 have e:(R6++[r6]).map (E7 n)++(R7++[r7]).map (E7 n)=R6.map (E7 n)++(E7 n r6::(R7.map (E7 n)++[E7 n r7])):=by simp
 have h1:((R6++[r6]).map (E7 n)++(R7++[r7]).map (E7 n)).Perm (E7 n r7::E7 n r6::(R6.map (E7 n)++R7.map (E7 n))):=by
  rw[e];refine List.perm_middle.trans (.trans (.cons _ ?_) (.swap _ _ _));rw[<-NJ];exact List.perm_append_singleton _ _
 exact((NF (l₁:=[E7 n r7,E7 n r6]) (l₂:=[_,_])).append_right _).trans (.cons _ (.cons _ h1.symm))
def Ku (R:List RW):List (List Bool):=R.map fun r=>r.2
def ED {l:List Int} {k:Nat} (h:k<l.length):l.getD k 0∈l:=by
 rw[Co,CQ h];exact List.getElem_mem h
structure Ru (n:Nat) (R:List RW):Prop where
 len:R.length=n
 row: ∀r∈R,r.2.length=n
def Ru.put {n:Nat} {R:List RW} {r:RW} (h:Ru n R) {j k:Nat} {b:Bool} (hr:R[j]? =some r):Ru n (R.set j (r.1,r.2.set k b)):=by
 refine⟨by rw[List.length_set];exact h.len,fun q hq=>?_⟩;rcases List.mem_or_eq_of_mem_set hq with hq|rfl
 .exact h.row q hq
 .rw[List.length_set];exact h.row r (BY hr)
def X4 {n:Nat} {R:List RW} {r:RW} (h:Ru n R) {j k:Nat} {b:Bool} (hr:R[j]? =some r) (hk:k<n) (u v:Int):Dl (Ku (R.set j (r.1,r.2.set k b))) u v=if u.toNat=j/\v.toNat=k then b else Dl (Ku R) u v:=by
 have hj:j<R.length:=(JA.1 hr).1;have hl:=h.row r (BY hr);rw[Dl,Dl,Ku,List.map_set];rw[Co (l:=(R.map fun r=>r.2).set j _)];by_cases hu:u.toNat=j
 .rw[hu,List.getElem?_set_self (by simpa using hj),Option.getD_some,Ea (by omega)]
  have e:(Ku R).getD j []=r.2:=by rw[Ku,Co,JV,hr];rfl
  by_cases hv:v.toNat=k
  .rw[if_pos hv,if_pos ⟨rfl,hv⟩]
  .rw[if_neg hv,if_neg fun h=>hv h.2,e]
 .rw[List.getElem?_set_ne (fun h=>hu h.symm),if_neg fun h=>hu h.1,<-Co]
  rfl
def jw {Z:AD} {n:Nat} {v6:V} {R:List RW} {r r':RW} {j:Nat} {B:At} {Y X:List At} (hr:R[j]? =some r) (he:r'.1=r.1) (hs:Sat Z (E7 n r'::B:: .own v6 1 (R.map (Lw n))::(Y++(R.map (E7 n)++X).eraseIdx j))):Sat Z (B:: .own v6 1 ((R.set j r').map (Lw n))::(Y++((R.set j r').map (E7 n)++X))):=by
 have hj:j<R.length:=(JA.1 hr).1
 have e1:(R.set j r').map (Lw n)=R.map (Lw n):=by
  rw[List.map_set];refine List.ext_getElem? fun i=>?_
  by_cases hi:j=i
  .subst hi
   rw[List.getElem?_set_self (by simpa using hj),JV,hr];simp only[Xg,Lw,he]
  .rw[List.getElem?_set_ne hi]
 have e2:(R.set j r').map (E7 n)++X=(R.map (E7 n)++X).set j (E7 n r'):=by
  rw[List.map_set,List.set_append_left _ _ (by simpa using hj)]
 rw[e1,e2]
 have hp:((R.map (E7 n)++X).set j (E7 n r')).Perm (E7 n r'::(R.map (E7 n)++X).eraseIdx j):=by
  have:=Iw (l:=(R.map (E7 n)++X).set j (E7 n r')) (j:=j) (a:=E7 n r') (List.getElem?_set_self (by rw[Kt,Bh];omega))
  rwa [List.eraseIdx_set_eq]at this
 refine hs.perm (List.Perm.trans ?_ (.cons _ (.cons _ ((hp.symm).append_left Y))));exact((NF (l₁:=[E7 n r']) (l₂:=B:: .own v6 1 (R.map (Lw n))::Y)).append_right _).trans (by simp)
def o9 {R:List RW} {r:RW} {m n:Nat} {b:Bool} (hr:R[m]? =some r) (hb:r.2[n]? =some b):Dl (Ku R) m n=b:=by
 simp only[Dl,Ku,FZ,Co,JV,hr,Xg,Option.getD_some,hb]
def S3 {n:Nat} {v7:V} {R Q:List RW} {r r':RW} {j:Nat} {B C:At} (hr:Q[j]? =some r) (he:r'.1=r.1):(B::C:: .own v7 1 (Q.map (Lw n))::(R.map (E7 n)++Q.map (E7 n))).set (R.length+j+3) (E7 n r')=B::C:: .own v7 1 ((Q.set j r').map (Lw n))::(R.map (E7 n)++(Q.set j r').map (E7 n)):=by
 have e1:(Q.set j r').map (Lw n)=Q.map (Lw n):=by
  have hj:j<Q.length:=(JA.1 hr).1;rw[List.map_set];refine List.ext_getElem? fun i=>?_
  by_cases hi:j=i
  .subst hi
   rw[List.getElem?_set_self (by simpa using hj),JV,hr];simp only[Xg,Lw,he]
  .rw[List.getElem?_set_ne hi]
 rw[e1];show B::C:: .own v7 1 (Q.map (Lw n))::(R.map (E7 n)++Q.map (E7 n)).set (R.length+j) (E7 n r')=_;rw[List.set_append_right _ _ (by rw[Bh];omega),Bh,show R.length+j - R.length=j by omega,List.map_set]
def Qa {Z:AD} {n:Nat}: ∀Q:List RW,(∀r∈Q,(E7 n r).ok Z)->EL Z emp (Q.map (Lw n)) ((Ku Q).map fun r=>[.l (bL r) false])
 | [],_=> .nil
 | r ::s,h=>by
   refine .cons (.cons ?_ .nil) (Qa s fun q hq=>h q (.tail _ hq));rcases h r (.head _)with⟨e,_⟩|⟨m,cap,e,hm⟩
   .cases e
   .injection e with e1 e2 e3
    subst e1 e3;exact .arr hm rfl e2 (.refl _ _ _)
def su {Z:AD} {n:Nat} {v:V} {Q:List RW} (hv:(At.own v 1 (Q.map (Lw n))).ok Z) (h: ∀r∈Q,(E7 n r).ok Z):Fa Z emp v (ov (Ku Q)):=by
 rcases hv with⟨rfl,_⟩|⟨m,cap,rfl,hm⟩
 .exact .l (fun h=>by cases h) (Qa Q h)
 .exact .arr hm rfl rfl (Qa Q h)
def ko (p : Prog) (l:List Int) (f:Bool) (hok:EN p) (hl16:l.length<=16) (hin: ∀x∈l,BG p x=true):BL zP 111 [.a (A3 p),.l (iL l) f] [] fun r post=>post= []/\ ∃T,r= .ret (ov T)/\JX T l/\ ∀x∈l,∀y∈l,Dk p x y=true->Dl T x y=Az p x y:=by
 refine BL.fit (by kernel_rfl) fun hf=>?_
 intro Z hs;have⟨p1,p2,p3,p4⟩:=F0 hf.1;have hM:=Mx;have h16:=hok.many;have hP:=H6 hf.1;have c1:=O4 p hP hok.pV hok.AL;refine wW kZ ?_
 conv=>whnf
 repeat'((first|clear U K|apply st|(apply zk;intro K U)|refine zY ?_|refine zs fun Z hs=>?_|refine zC ?_|refine zo fun nn hnn Z hs=>?_|fail)<;>conv=>whnf)
 replace hs:=Sat.front (j:=2) (CM (CM hs 1) 1) rfl;refine Ba p.methods.length (fun m (x:V×V×List RW×List RW)=>[(6,x.1),(7,x.2.1),(8,eI (Au m))]) (fun _ x=> .box nn (Ax (AG p))::lE p.methods.length x.1 x.2.1 x.2.2.1 x.2.2.2) (fun m x=>x.2.2.1.length=m/\x.2.2.2.length=m/\(∀r∈x.2.2.1,r.2=List.replicate p.methods.length false)/\ ∀r∈x.2.2.2,r.2=List.replicate p.methods.length false) (.l [] true,.l [] true,[],[]) rfl ⟨rfl,rfl,fun r h=>(by cases h),fun r h=>(by cases h)⟩ hs ?_;clear hs hnn;rintro m ⟨v6,v7,R6,R7⟩ Z hm ⟨h6,h7,ha6,ha7⟩ hs;dsimp only at h6 h7 ha6 ha7 hs;dsimp only;rcases Aw p.methods hm with⟨x,hx,hlt⟩|hme
 .have hll6:R6.length<AZ/\(R6.length+1)*24<=140737488355328:=by omega
  have hll7:R7.length<AZ/\(R7.length+1)*24<=140737488355328:=by omega
  refine zz ?_;(repeat clear U K);repeat intro K U
  simp only[Bh];refine lk hs (G0 _) (by omega) fun u6 Z hs hu6=>?_
  obtain⟨a6,rfl⟩:=hu6
  conv=>whnf
  repeat'((first|clear U K|apply st|(apply zk;intro K U)|refine aq (enc:=Lw p.methods.length) (x:=((_:Nat),List.replicate p.methods.length false)) (fun v Z hs hsl=>?_) (hg:=aR _)|fail)<;>conv=>whnf)
  rename V=>w6
  simp only[Bh];refine lk hs (G0 _) (by omega) fun u7 Z hs hu7=>?_
  obtain⟨a7,rfl⟩:=hu7
  conv=>whnf
  repeat'((first|clear U K|apply st|(apply zk;intro K U)|refine zY ?_|refine aq (enc:=Lw p.methods.length) (x:=((_:Nat),List.replicate p.methods.length false)) (fun v Z hs hsl=>?_) (hg:=aR _)|fail)<;>conv=>whnf)
  refine⟨hlt,(w6,v,R6++[(a6,List.replicate p.methods.length false)],R7++[(a7,List.replicate p.methods.length false)]),rfl,⟨by simp;omega,by simp;omega,fun r hr=>?_,fun r hr=>?_⟩,?_⟩
  .rcases Du.1 hr with hr|hr
   .exact ha6 r hr
   .rw[JT.1 hr]
  .rcases Du.1 hr with hr|hr
   .exact ha7 r hr
   .rw[JT.1 hr]
  .refine Sat.perm ?_ (((NF (l₁:=[_,_]) (l₂:=[_])).append_right _).trans (.cons _ im))
   have hbl:bL (List.replicate p.methods.length false)=List.replicate p.methods.length [V.b false]:=by simp[bL]
   dsimp only[E7];rw[hbl];exact hs
 .refine zz ?_;(repeat clear U K);repeat intro K U
  have hs2:=hs;refine Ba l.length (fun i (R:List RW)=>[(9,eI (Au i))]) (fun _ R=> .box nn (Ax (AG p))::lE p.methods.length v6 v7 R R7) (fun i R=>Ru p.methods.length R/\ ∀i' k',i'<i->k'<l.length->Dk p (l.getD i' 0) (l.getD k' 0)=true->Dl (Ku R) (l.getD i' 0) (l.getD k' 0)=GY p (l.getD i' 0) (l.getD k' 0)) R6 rfl ⟨⟨by omega,fun r hr=>by rw[ha6 r hr];simp⟩,fun i' k' h=>by omega⟩ hs ?_;clear hs hs2;rintro i R Z hi ⟨hR,hE⟩ hs;rcases Aw l hi with⟨x,hx,hlt⟩|hie
  .have hxm:=hin x (BY hx)
   have hxP:=Br hxm;have hxr:=hxm;simp only[BG,A7,CF]at hxr;refine zz ?_;(repeat clear U K);repeat intro K U
   refine Ba l.length (fun k (R:List RW)=>[(10,eI (Au k))]) (fun _ R=> .box nn (Ax (AG p))::lE p.methods.length v6 v7 R R7) (fun k R=>Ru p.methods.length R/\(∀i' k',i'<i->k'<l.length->Dk p (l.getD i' 0) (l.getD k' 0)=true->Dl (Ku R) (l.getD i' 0) (l.getD k' 0)=GY p (l.getD i' 0) (l.getD k' 0))/\ ∀k',k'<k->Dk p x (l.getD k' 0)=true->Dl (Ku R) x (l.getD k' 0)=GY p x (l.getD k' 0)) R rfl ⟨hR,hE,fun k' h=>by omega⟩ hs ?_;clear hs hR hE R;rintro k R Z hk ⟨hR,hE,hF⟩ hs;rcases Aw l hk with⟨y,hy,hklt⟩|hke
   .have hym:=hin y (BY hy)
    have hyP:=Br hym;have hyr:=hym;simp only[BG,A7,CF]at hyr;have c2:=oj p x y hxm hym;have c3:=ct (AG p) (BK p x).fact (BK p y).fact hok.dw (hok.facts _ (BY hxP)).1 (hok.facts _ (BY hyP)).1 (hok.facts _ (BY hxP)).2 (hok.facts _ (BY hyP)).2;cases hal:Dk p x y<;>rw[hal]at c2
    .conv=>whnf
     repeat'((first|clear U K|apply st|(apply zk;intro K U)|refine zY ?_|refine zC ?_|fail)<;>conv=>whnf)
     refine⟨hklt,R,rfl,⟨hR,hE,fun k' h=>?_⟩,hs⟩;rcases Nat.lt_or_ge k' k with h'|h'
     .exact hF k' h'
     .rw[show k'=k by omega,B5 hy,hal]
      intro e;cases e
    .obtain⟨r,hr⟩: ∃r,R[x.toNat]? =some r:=⟨_,CQ (by have:=hR.len;omega)⟩
     have hl0:=hR.len;have hl1:(R.map (Lw p.methods.length)).length=p.methods.length:=by rw[Bh];exact hR.len
     have hl2:=hR.row r (BY hr);have hl3:(bL r.2).length=p.methods.length:=by simpa using hl2
     have hj:(At.box nn (Ax (AG p))::lE p.methods.length v6 v7 R R7)[x.toNat+3]? =some (E7 p.methods.length r):=by
      show(R.map (E7 p.methods.length)++R7.map (E7 p.methods.length))[x.toNat]? =_;rw[Xm (by rw[Bh];have:=hR.len;omega),JV,hr];rfl
     replace hs:Sat Z (E7 p.methods.length r:: .box nn (Ax (AG p)):: .own v6 1 (R.map (Lw p.methods.length)):: .own v7 1 (R7.map (Lw p.methods.length))::(R.map (E7 p.methods.length)++R7.map (E7 p.methods.length)).eraseIdx x.toNat):=hs.front hj
     conv=>whnf
     repeat'((first|clear U K|apply st|(apply zk;intro K U)|refine zY ?_|refine rk ?_ ?_|exact fun s e=>by cases e;rfl|refine zs fun Z hs=>?_|refine zC ?_|fail)<;>conv=>whnf)
     have hk2:y.toNat<p.methods.length:=by omega
     have hkeep: ∀u v,BG p u=true->BG p v=true->Dl (Ku R) u v=GY p u v->Dl (Ku (R.set x.toNat (r.1,r.2.set y.toNat (GY p x y)))) u v=GY p u v:=fun u v hu hv e=>by
      simp only[BG,A7,CF]at hu hv;rw[X4 hR hr hk2];split
      .rename_i h
       rw[show u=x by omega,show v=y by omega]
      .exact e
     refine⟨hklt,R.set x.toNat (r.1,r.2.set y.toNat (GY p x y)),rfl,⟨hR.put hr,fun i' k' h1 h2 h3=>?_,fun k' h1 h2=>?_⟩,jw (Y:=[_]) hr rfl hs⟩
     .exact hkeep _ _ (hin _ (ED (by omega))) (hin _ (ED h2)) (hE i' k' h1 h2 h3)
     .rcases Nat.lt_or_ge k' k with h'|h'
      .exact hkeep _ _ hxm (hin _ (ED (by omega))) (hF k' h' h2)
      .rw[show k'=k by omega,B5 hy,X4 hR hr hk2,if_pos ⟨rfl,rfl⟩]
   .refine zz ?_;(repeat clear U K);repeat intro K U
    refine⟨hlt,R,rfl,⟨hR,fun i' k' h1 h2=>?_⟩,hs⟩;rcases Nat.lt_or_ge i' i with h'|h'
    .exact hE i' k' h' h2
    .rw[show i'=i by omega,B5 hx]
     exact hF k' (by omega)
  .have hlR:=hR.len
   have hnr:Ru p.methods.length R7:=⟨by omega,fun r hr=>by rw[ha7 r hr];simp⟩
   refine zz ?_;(repeat clear U K);repeat intro K U
   refine Ba p.methods.length (fun m (Q:List RW)=>[(11,eI (Au m))]) (fun _ Q=> .box nn (Ax (AG p))::lE p.methods.length v6 v7 R Q) (fun m Q=>Ru p.methods.length Q/\ ∀m' n':Nat,m'<m->n'<p.methods.length->Dl (Ku Q) m' n'=(Dl (Ku R) m' n'&& !Dl (Ku R) n' m')) R7 rfl ⟨hnr,fun m' n' h=>by omega⟩ hs ?_;clear hs hnr;rintro m Q Z hm ⟨hQ,hG⟩ hs;have hlQ:=hQ.len;have hl5:(Q.map (Lw p.methods.length)).length=p.methods.length:=by rw[Bh];exact hlQ
   have hl6:(R.map (Lw p.methods.length)).length=p.methods.length:=by rw[Bh];exact hlR
   rcases Nat.lt_or_ge m p.methods.length with hlt|hme
   .obtain ⟨ra,hra⟩: ∃r,R[m]? =some r:=⟨_,CQ (by omega)⟩
    conv=>whnf
    repeat'((first|clear U K|apply st|(apply zk;intro K U)|refine zY ?_|(refine zb (fun hc=>?_) (fun hc=>?_)<;>try exact⟨⟩)|fail)<;>conv=>whnf)
    refine Ba p.methods.length (fun n (Q:List RW)=>[(12,eI (Au n))]) (fun _ Q=> .box nn (Ax (AG p))::lE p.methods.length v6 v7 R Q) (fun n Q=>Ru p.methods.length Q/\(∀m' n':Nat,m'<m->n'<p.methods.length->Dl (Ku Q) m' n'=(Dl (Ku R) m' n'&& !Dl (Ku R) n' m'))/\ ∀n':Nat,n'<n->Dl (Ku Q) m n'=(Dl (Ku R) m n'&& !Dl (Ku R) n' m)) Q rfl ⟨hQ,hG,fun n' h=>by omega⟩ hs ?_;clear hs hQ hG hlQ hl5;rintro n Q Z hn ⟨hQ,hG,hI⟩ hs;have hlQ:=hQ.len;have hl5:(Q.map (Lw p.methods.length)).length=p.methods.length:=by rw[Bh];exact hlQ
    rcases Nat.lt_or_ge n p.methods.length with hnlt|hne
    .obtain⟨rb,hrb⟩: ∃r,R[n]? =some r:=⟨_,CQ (by omega)⟩
     obtain⟨rq,hrq⟩: ∃r,Q[m]? =some r:=⟨_,CQ (by omega)⟩
     have hla:=hR.row ra (BY hra);have hlb:=hR.row rb (BY hrb);have hlq:=hQ.row rq (BY hrq);have hcm:Au m=m:=AW (by omega);have hcn:Au n=n:=AW (by omega);obtain⟨ba,hba⟩: ∃b,ra.2[n]? =some b:=⟨_,CQ (by omega)⟩
     obtain⟨bb,hbb⟩: ∃b,rb.2[m]? =some b:=⟨_,CQ (by omega)⟩
     have g1:Hid ((At.box nn (Ax (AG p))::lE p.methods.length v6 v7 R Q)[m+3]? =some (E7 p.methods.length ra)):=by
      refine .mk ?_;show(R.map (E7 p.methods.length)++Q.map (E7 p.methods.length))[m]? =_;rw[Xm (by rw[Bh];omega),JV,hra];rfl
     have g2:Hid ((At.box nn (Ax (AG p))::lE p.methods.length v6 v7 R Q)[n+3]? =some (E7 p.methods.length rb)):=by
      refine .mk ?_;show(R.map (E7 p.methods.length)++Q.map (E7 p.methods.length))[n]? =_;rw[Xm (by rw[Bh];omega),JV,hrb];rfl
     have g3:Hid ((At.box nn (Ax (AG p))::lE p.methods.length v6 v7 R Q)[R.length+m+3]? =some (E7 p.methods.length rq)):=by
      refine .mk ?_;show(R.map (E7 p.methods.length)++Q.map (E7 p.methods.length))[R.length+m]? =_;rw[List.getElem?_append_right (by rw[Bh];omega),Bh,show R.length+m - R.length=m by omega,JV,hrq];rfl
     have hra2:R[(Au m).toNat]? =some ra:=by rw[hcm,FZ];exact hra
     have hrb2:R[(Au n).toNat]? =some rb:=by rw[hcn,FZ];exact hrb
     have hrq2:Q[(Au m).toNat]? =some rq:=by rw[hcm,FZ];exact hrq
     have eab:=o9 hra hba;have eba:=o9 hrb hbb;have hput: ∀b,Ru p.methods.length (Q.set m (rq.1,rq.2.set n b)):=fun b=>hQ.put hrq
     have hnew: ∀(b:Bool) (u v:Nat),Dl (Ku (Q.set m (rq.1,rq.2.set n b))) u v=if u=m/\v=n then b else Dl (Ku Q) u v:=fun b u v=>by
      have:=X4 (b:=b) hQ hrq hnlt u v;simpa using this
     have hfin: ∀b,b=(ba&& !bb)->(∀m' n':Nat,m'<m->n'<p.methods.length->Dl (Ku (Q.set m (rq.1,rq.2.set n b))) m' n'=(Dl (Ku R) m' n'&& !Dl (Ku R) n' m'))/\ ∀n':Nat,n'<n+1->Dl (Ku (Q.set m (rq.1,rq.2.set n b))) m n'=(Dl (Ku R) m n'&& !Dl (Ku R) n' m):=fun b hb=>by
      refine⟨fun m' n' h1 h2=>?_,fun n' h1=>?_⟩
      .rw[hnew,if_neg fun h=>by omega]
       exact hG m' n' h1 h2
      .rw[hnew]
       split
       .rename_i h
        rw[h.2,eab,eba,hb]
       .exact hI n' (by omega)
     cases ba
     .conv=>whnf
      repeat'((first|clear U K|apply st|(apply zk;intro K U)|refine zY ?_|refine os2 (fun Z hs=>?_) (hi:=g3.un) (h1:=by omega)|refine oc ?_ (hi:=g1.un) (h1:=by rw[Bh];omega)|refine oc ?_ (hi:=g3.un) (h1:=by rw[Bh];omega)|refine xg ?_ (hi:=g1.un)|(refine zb (fun hc=>?_) (fun hc=>?_)<;>try exact⟨⟩)|fail)<;>conv=>whnf)
      refine⟨hnlt,Q.set m (rq.1,rq.2.set n false),rfl,⟨hput _,hfin _ rfl⟩,?_⟩;refine(congrArg (Sat Z) (S3 (n:=p.methods.length) (v7:=v7) (R:=R) (B:= .box nn (Ax (AG p))) (C:= .own v6 1 (R.map (Lw p.methods.length))) (r':=(rq.1,rq.2.set n false)) hrq rfl)).mp ?_
      first
       | exact hs
       | (rw[hcn,FZ]at hs;exact hs)
     .conv=>whnf
      repeat'((first|clear U K|apply st|(apply zk;intro K U)|refine zY ?_|refine os2 (fun Z hs=>?_) (hi:=g3.un) (h1:=by omega)|refine oc ?_ (hi:=g1.un) (h1:=by rw[Bh];omega)|refine oc ?_ (hi:=g2.un) (h1:=by rw[Bh];omega)|refine oc ?_ (hi:=g3.un) (h1:=by rw[Bh];omega)|refine xg ?_ (hi:=g1.un)|refine xg ?_ (hi:=g2.un)|(refine zb (fun hc=>?_) (fun hc=>?_)<;>try exact⟨⟩)|fail)<;>conv=>whnf)
      refine⟨hnlt,Q.set m (rq.1,rq.2.set n (!bb)),rfl,⟨hput _,hfin _ rfl⟩,?_⟩;refine(congrArg (Sat Z) (S3 (n:=p.methods.length) (v7:=v7) (R:=R) (B:= .box nn (Ax (AG p))) (C:= .own v6 1 (R.map (Lw p.methods.length))) (r':=(rq.1,rq.2.set n (!bb))) hrq rfl)).mp ?_
      first
       | exact hs
       | (rw[hcn,FZ]at hs;exact hs)
    .conv=>whnf
     repeat'((first|clear U K|apply st|(apply zk;intro K U)|refine zY ?_|(refine zb (fun hc=>?_) (fun hc=>?_)<;>try exact⟨⟩)|fail)<;>conv=>whnf)
     refine⟨hlt,Q,rfl,⟨hQ,fun m' n' h1 h2=>?_⟩,hs⟩;rcases Nat.lt_or_ge m' m with h'|h'
     .exact hG m' n' h' h2
     .rw[show m'=m by omega]
      exact hI n' (by omega)
   .conv=>whnf
    repeat'((first|clear U K|apply st|(apply zk;intro K U)|refine zY ?_|(refine zb (fun hc=>?_) (fun hc=>?_)<;>try exact⟨⟩)|fail)<;>conv=>whnf)
    have hrow: ∀r∈Q,(E7 p.methods.length r).ok Z:=fun r hr=>hs.oks (.tail _ (.tail _ (.tail _ (Lu _ (GL.2 ⟨r,hr,rfl⟩)))))
    refine k9 (su (hs.oks (.tail _ (.tail _ (.head _)))) hrow) ⟨[],⟨rfl,_,rfl,?_,fun x hx y hy hal=>?_⟩,Sat.nil⟩
    .have hlT:(Ku Q).length=p.methods.length:=by rw[Ku,Bh];exact hlQ
     refine⟨by omega,fun r hr=>?_,fun x hx=>?_,hl16⟩
     .obtain⟨q,hq,rfl⟩:=GL.1 hr
      rw[hlT];exact hQ.row q hq
     .have:=hin x hx
      simp only[BG,A7,CF]at this;rw[hlT];omega
    .have mx:=hin x hx
     have my:=hin y hy;simp only[BG,A7,CF]at mx my
     have hal2:Dk p y x=true:=by
      simp only[Dk,A7,Cd]at hal ⊢;exact⟨hal.1.symm,hal.2.symm⟩
     obtain⟨a,ha,rfl⟩:=List.getElem_of_mem hx;obtain⟨b,hb,rfl⟩:=List.getElem_of_mem hy;have e1:l.getD a 0=l[a]:=B5 (CQ ha);have e2:l.getD b 0=l[b]:=B5 (CQ hb);have h1:=hE a b (by omega) hb;have h2:=hE b a (by omega) ha;rw[e1,e2]at h1 h2;have h3:=hG l[a].toNat l[b].toNat (by omega) (by omega);rw[Int.toNat_of_nonneg mx.1,Int.toNat_of_nonneg my.1,h1 hal,h2 hal2]at h3;exact h3
end Go.Gl
namespace Go.Gl
open Go.Proofs
attribute [local irreducible] As Af AV AQ AI AU AP AR AJ AT AM AN Ag Ar Sat AS Ap AX W
def Lq {f g:Nat->Bool}: ∀ {l:List Nat},(∀x∈l,f x=g x)->l.all f=l.all g
 | [],_=>rfl
 | x::r,h=>by rw[Jd,Jd,h x (.head _),Lq fun y hy=>h y (.tail _ hy)]
def YV {A B:Int->Int->Bool} {l:List Int} (h: ∀x∈l,∀y∈l,A x y=B x y) {i:Nat} (hi:i<l.length):HV A l i l.length=HV B l i l.length:=by
 rw[HV,HV];refine Lq fun k hk=>?_
 rw[h _ (ED hi) _ (ED (List.mem_range.1 hk))]
def find_congr {f g:Nat->Bool}: ∀ {l:List Nat},(∀x∈l,f x=g x)->l.find? f=l.find? g
 | [],_=>rfl
 | x::r,h=>by
   rw[List.find?_cons,List.find?_cons,h x (.head _),find_congr fun y hy=>h y (.tail _ hy)]
def U5 {A B:Int->Int->Bool} {l:List Int} (h: ∀x∈l,∀y∈l,A x y=B x y):El A l=El B l:=
 find_congr fun i hi=>YV h (List.mem_range.1 hi)
def M9 {A B:Int->Int->Bool}: ∀(k:Nat) (l:List Int),(∀x∈l,∀y∈l,A x y=B x y)->BW A k l=BW B k l
 | 0,_,_=>rfl
 | k + 1,l,h=>by
   rw[BW,BW,U5 h];cases El B l with
   | none=>rfl
   | some i=>
     dsimp only;rw[M9 k (l.eraseIdx i) fun x hx y hy=>h x (List.mem_of_mem_eraseIdx hx) y (List.mem_of_mem_eraseIdx hy)]
def Yn {A B:Int->Int->Bool} {l:List Int} (h: ∀x∈l,∀y∈l,A x y=B x y):NP A l=NP B l:=
 find_congr fun i hi=>by
  rw[LM,LM];refine Lq fun k hk=>?_
  rw[h _ (ED (List.mem_range.1 hk)) _ (ED (List.mem_range.1 hi))]
def Rb {A B:Int->Int->Bool}: ∀(k:Nat) (l:List Int),(∀x∈l,∀y∈l,A x y=B x y)->DM A k l=DM B k l
 | 0,_,_=>rfl
 | k+1,l,h=>by
   rw[DM,DM,Yn h,Rb k (l.eraseIdx _) fun x hx y hy=>h x (List.mem_of_mem_eraseIdx hx) y (List.mem_of_mem_eraseIdx hy)]
def QT {x y:Int} {out:List Int}:y∈HX x out↔y=x\/y∈out:=by
 have h:=List.takeWhile_append_dropWhile (p:=fun y=>decide (y<x)) (l:=out);rw[HX];constructor
 .intro hy
  rcases Du.1 hy with hy|hy
  .right;rw[<-h];exact NK _ hy
  .rcases Ff.1 hy with rfl|hy
   .exact .inl rfl
   .right;rw[<-h];exact Lu _ hy
 .rintro(rfl|hy)
  .exact Lu _ (.head _)
  .rw[<-h]at hy
   rcases Du.1 hy with hy|hy
   .exact NK _ hy
   .exact Lu _ (.tail _ hy)
def RP: ∀(l out:List Int) (y:Int),y∈l.foldl (fun out x=>HX x out) out↔y∈l\/y∈out
 | [],out,y=>by simp
 | x ::r,out,y=>by
   rw[List.foldl_cons,RP r,QT,Ff];constructor
   .rintro(h|h|h)
    .exact .inl (.inr h)
    .exact .inl (.inl h)
    .exact .inr h
   .rintro((h|h)|h)
    .exact .inr (.inl h)
    .exact .inl h
    .exact .inr (.inr h)
def Kc {l:List Int} {y:Int}:y∈Cp l↔y∈l:=by rw[Cp,RP];simp
def RQ: ∀(l out:List Int),(l.foldl (fun out x=>HX x out) out).length=l.length+out.length
 | [],out=>by simp
 | x::r,out=>by rw[List.foldl_cons,RQ r,Mn,JU];omega
def Se (l:List Int):(Cp l).length=l.length:=by rw[Cp,RQ];simp
structure T4 (p:Prog) (l:List Int):Prop where
 FH: ∀x∈l,BG p x=true
 alike: ∀x∈l,∀y∈l,Dk p x y=true
 many:l.length<=16
end Go.Gl
