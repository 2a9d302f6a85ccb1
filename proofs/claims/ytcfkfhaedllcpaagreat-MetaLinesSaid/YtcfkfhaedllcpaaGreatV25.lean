import Derived.Test.YtcfkfhaedllcpaaGreatRows
import Derived.HandedShaped
import Derived.Test.YtcfkfhaedllcpaaGreatV14
import Derived.Test.YtcfkfhaedllcpaaGreatV22
import Derived.Test.YtcfkfhaedllcpaaGreatV24
set_option linter.all false
set_option linter.defProp false
set_option maxHeartbeats 8000000
noncomputable section
namespace Go.Proofs.YtcfkfhaedllcpaaGreat
open Go.Gl Go.ChangeShapes Go.WideShapes Go.ChangeAt Go.RowKit
theorem own:ownKnob Tryz.prog.godebug=none:=by kernel_rfl
def laidOut:laidOutB Tryz.prog=true:=by kernel_rfl
def En {a b:Bool} (h1:a=true) (h2:b=true):(a&&b)=true:=by rw[h1,h2];rfl
abbrev HE (w:World):=Hh (fun _=>False) emp w
def vInt {w:World} {n:Int} (h:(Lit.int .i64 n).wf=true):Aa (HE w) (eI n) (.int .i64 n):=by
 simp only[Lit.wf,BD,CD]at h;simp only[Aa];exact⟨trivial,h⟩
def xy {w:World} {cs:Array Value} {p:Prog} (hp:cs.toList.length=(BK p).length/\BS (HE w) (fun i=>cs.toList[i]?) 0 (BK p)):Aa (HE w) (.a (BK p)) (.agg cs):=by
 simp only[Aa];exact⟨cs,rfl,by simpa using hp.1,by simpa using hp.2⟩
def vPrt {w:World} {cs:Array Value} {q:RN} (hp:cs.toList.length=(JK q).length/\BS (HE w) (fun i=>cs.toList[i]?) 0 (JK q)):Aa (HE w) (.a (JK q)) (.agg cs):=by
 simp only[Aa];exact⟨cs,rfl,by simpa using hp.1,by simpa using hp.2⟩
end Go.Proofs.YtcfkfhaedllcpaaGreat
namespace Go.Gl
open Go.Proofs
def EL (v:Int×Int):Int:=if v.1=1 then v.2 else 0
def ES (n:Int):Int:=min (max n (-1000000000)) 1000000000
def Lb (n:Int):Prop:= -1000000000<=n/\n<=1000000000
def Uz (f a b:Int):Int:=if f=2 then ES (a+b)else if f=3 then min a b else max a b
def JG (f:Int) (x:Int×Int) (r:List (Int×Int)):Int:=r.foldl (fun n v=>Uz f n (EL v)) (EL x)
def kN (n:Int):Lb (ES n):=by unfold Lb ES;omega
def QC {n:Int} (h:Lb n):ES n=n:=by unfold Lb at h;unfold ES;omega
def qs {f a b:Int} (ha:Lb a) (hb:Lb b):Lb (Uz f a b):=by
 unfold Uz;split
 .exact kN _
 .unfold Lb at *
  split<;>omega
def Pa {f:Int}: ∀(r:List (Int×Int)) {n:Int},Lb n->(∀v∈r,Lb (EL v))->Lb (r.foldl (fun n v=>Uz f n (EL v)) n)
 | [],_,h,_=>h
 | v::r,_,h,hr=>Pa r (qs h (hr v (.head _))) fun u hu=>hr u (.tail _ hu)
def ZL {v:Int×Int} {n:Int} (h:I5 n v=true):Lb (EL v):=by
 unfold I5 at h;unfold EL Lb;split
 .rename_i h1
  rw[if_pos h1,BD,CD,CD]at h;exact h
 .omega
def B2 (f:Int) (v:Int×Int):Bool:=f==1||(f==5&&EL v==0||f==6&&EL v != 0)
def Et (q:Int×Int->Bool):Nat->List (Int×Int)->Int
 | _,[]=> -1
 | k,v::r=>if q v then(k:Int)else Et q (k+1) r
def P0 {q:Int×Int->Bool}: ∀(l:List (Int×Int)) (k:Nat),(l.any q=false↔Et q k l= -1)/\(l.any q=true↔0<=Et q k l)
 | [],k=>by simp[Et]
 | v::r,k=>by
   have ih:=P0 (q:=q) r (k+1);simp only[Q7,Et];cases hp:q v with
   | true=>simp<;>omega
   | false=>simpa using ih
def Xu {q:Int×Int->Bool}: ∀(l:List (Int×Int)) (k:Nat),0<=Et q k l->(k:Int)<=Et q k l/\Et q k l<k+l.length
 | [],k,h=>by simp[Et]at h
 | v ::r,k,h=>by
   simp only[Et]at h ⊢;cases hp:q v with
   | true=>simp only[if_true,JD];omega
   | false=>
     rw[hp,if_neg (by decide)]at h;rw[if_neg (by decide)];have:=Xu r (k+1) h;simp only[JD];omega
def gU {q:Int×Int->Bool} (h: ∀v,q v=false): ∀(l:List (Int×Int)) (k:Nat),Et q k l= -1
 | [],_=>rfl
 | v::r,k=>by rw[Et,h v,if_neg (by decide),gU h r]
def DZ (f:Int) (l:List (Int×Int)):Nat:=if Et (B2 f) 0 l<0 then l.length else(Et (B2 f) 0 l).toNat+1
def jQ {f:Int} {l:List (Int×Int)} (h:l≠[]):0<DZ f l/\DZ f l<=l.length:=by
 have h0:=List.length_pos_iff.2 h;unfold DZ;split
 .omega
 .have:=Xu (q:=B2 f) l 0 (by omega)
  omega
def Ln (f:Int):List (Int×Int)->Int×Int
 | []=>(0,0)
 | x::r=>if f=2\/f=3\/f=4 then(1,JG f x r)else((x::r).getLast?).getD (0,0)
def jR {f:Int} (hf:f=2\/f=3\/f=4) (l:List (Int×Int)):DZ f l=l.length:=by
 have: ∀v,B2 f v=false:=fun v=>by rcases hf with rfl|rfl|rfl<;>simp[B2]
 rw[DZ,gU this,if_pos (by omega)]
def PT (f:Int) (l:List (Int×Int)):(Int×Int)×Int×Int:=
 if C1 f&&l.all (I5 40)then(if l.isEmpty then((0,0),0,5)else(Ln f (l.take (DZ f l)),DZ f l,0))else((0,0),0,2)
end Go.Gl
namespace Go.Gl
open Go.Proofs
def sZ {b:Nat} {Z:AE} {l:List At} (h:Sat Z l) (i j:Nat) {v:V} {n len cap off ln sz:Nat} {es ys:List (List V)} {K:V->AE->Prop} (hi:l[i]? =some (.own v sz es)) (hj:l[j]? =some (.own (.sl n len cap) sz ys)) (hle:off+ln<=ys.length) (hl:es.length+ln<=AX/\(es.length+ln)*b<=140737488355328) (hys: ∀e∈ys,e.length=sz) (ho: ∀e∈ys,∀v∈e,CE v=true)
    (hk: ∀v' Z',Sat Z' (l.set i (.own v' sz (es++(ys.drop off).take ln)))->K v' Z'):AI b Z sz v (.sv n sz off ln) K:=by
 have hlen:((ys.drop off).take ln).length=ln:=by rw[LY,lH];omega
 have hm: ∀e∈(ys.drop off).take ln,e∈ys:=fun e he=>List.mem_of_mem_drop (List.mem_of_mem_take he)
 have hA:AI b Z sz v (.l ((ys.drop off).take ln) true) K:=hAppend h i hi (by rw[hlen];exact hl) (fun e he=>hys e (hm e he)) (fun e he=>ho e (hm e he)) hk;rcases h.get hj with⟨e1,hel⟩|⟨n',cap',e1,hn⟩
 .cases e1
 .cases e1
  unfold AI at hA ⊢;simp only[rowsOf]at hA ⊢;rw[hn];refine⟨?_,?_,hle,hA.2⟩<;>first|trivial|rfl
def O1 {b:Nat} {Z:AE} {l:List At} (h:Sat Z l) (i j:Nat) {α:Type} {enc:α->List V} {xs ys:List α} {v:V} {n len cap off ln sz:Nat} {K:V->AE->Prop} (hi:l[i]? =some (.own v sz (xs.map enc))) (hj:l[j]? =some (.own (.sl n len cap) sz (ys.map enc))) (hle:off+ln<=ys.length) (hl:xs.length+ln<=AX/\(xs.length+ln)*b<=140737488355328) (hg:FI enc sz)
    (hk: ∀v' Z',Sat Z' (l.set i (.own v' sz ((xs++(ys.drop off).take ln).map enc)))->K v' Z'):AI b Z sz v (.sv n sz off ln) K:=
 sZ h i j hi hj (by simpa using hle) (by simpa using hl) (C8 hg ys).1 (C8 hg ys).2 fun v' Z' hs=>hk v' Z' (by simpa[List.map_take,List.map_drop]using hs)
def Ig {b sz:Nat} {Z:AE} {v y:V} {K:V->AE->Prop} (hv:(Bg v).isSome=true) (h:AI b Z sz v y fun v' Z'=>(Bg v').isSome=true->K v' Z'):AI b Z sz v y K:=by
 obtain⟨n,l,c,rfl⟩:=fM hv;unfold AI at h ⊢;refine Eh h fun ys h=>⟨h.1,?_⟩
 have h2:=h.2;dsimp only at h2 ⊢;cases hn:Z n with
 | none=>rw[hn]at h2;exact h2
 | some o=>
   rw[hn]at h2;cases o with
   | arr s es c'=>exact⟨h2.1,h2.2.1,h2.2.2.1,h2.2.2.2.1,fun n' cap' h3 h4=>h2.2.2.2.2 n' cap' h3 h4 rfl⟩
   | _=>exact h2
def rU {Z:AE} {l:List At} (h:Sat Z l) {i:Nat} {v:V} {sz:Nat} {es:List (List V)} (hi:l[i]? =some (.own v sz es)) (hv:(Bg v).isSome=true): ∃n cp,v= .sl n es.length cp:=by
 rcases h.get hi with⟨e,_⟩|⟨n,cp,e,_⟩
 .rw[e]at hv;cases hv
 .exact⟨n,cp,e⟩
attribute [local irreducible] A6 Ar Ah AR AI Ae AQ AT AK Ad AN AO Ay A7 Sat AY A5 Ai W
def G9 (x:Int) (out:List Int):List Int:=out.takeWhile (fun y=>decide (y<x))++x::out.dropWhile (fun y=>decide (y<x))
def Co (l:List Int):List Int:=l.foldl (fun out x=>G9 x out) []
def MR (x:Int) (out:List Int):(G9 x out).length=out.length+1:=by
 have:=congrArg List.length (List.takeWhile_append_dropWhile (p:=fun y=>decide (y<x)) (l:=out));rw[Ro]at this;rw[G9,Ro,JD];omega
def UM {x:Int} {out:List Int} {k:Nat} (h1:out.takeWhile (fun y=>decide (y<x))=out.take k++(out.drop k).takeWhile (fun y=>decide (y<x))) (h2:(out.drop k).takeWhile (fun y=>decide (y<x))= []) (hk:k<=out.length):G9 x out=out.take k++x::out.drop k:=by
 rw[h2,I4]at h1;have:=List.takeWhile_append_dropWhile (p:=fun y=>decide (y<x)) (l:=out);rw[h1]at this
 have e:out.dropWhile (fun y=>decide (y<x))=out.drop k:=by
  have h3:out.take k++out.dropWhile (fun y=>decide (y<x))=out.take k++out.drop k:=by rw[this,List.take_append_drop]
  exact List.append_cancel_left h3
 rw[G9,h1,e]
def qx (l : List Int) (f:Bool) (hl:l.length<=16):Pure zP 191 [.l (iL l) f] (.l (iL (Co l)) false):=by
 have hM:=Mx;refine vW kZ ?_;have hs:=Sn;refine zz ?_;(repeat clear U K);repeat intro K U
 refine By l.length (fun i (x:V×List Int)=>[(3,x.1),(4,eI (A9 i))]) (fun _ x=>[.own x.1 1 (iL x.2)]) (fun i x=>x.2=Co (l.take i)/\x.2.length=i/\(i=0->x.1= .l [] true)/\(1<=i->(Bg x.1).isSome=true)) (.l [] true,[]) rfl ⟨rfl,rfl,fun _=>rfl,fun h=>by omega⟩ (FA hs 1) ?_;clear hs;rintro i ⟨v,out⟩ Z hi ⟨ho,hol,h0,h1⟩ hs;dsimp only at ho hol h0 h1 hs;dsimp only;rcases A3 l hi with⟨z,hz,hlt⟩|hie
 .have hsr:Co (l.take (i+1))=G9 z out:=by rw[AL hz,Co,List.foldl_append,ho];rfl
  refine zz ?_;(repeat clear U K);repeat intro K U
  refine DF (fun k:Nat=>out.length - k) (fun k=>[(5,eI (A9 k))]) (fun _=>[.own v 1 (iL out)]) (fun k=>k<=out.length/\out.takeWhile (fun y=>decide (y<z))=out.take k++(out.drop k).takeWhile (fun y=>decide (y<z))) 0 rfl ⟨Nat.zero_le _,rfl⟩ hs ?_;clear hs;rintro k Z ⟨hk,htw⟩ hs;have hck:A9 k=k:=AM (by omega);by_cases hi0:i=0
  .obtain rfl:=h0 hi0
   have hins:=UM htw (by rw[Al (by omega)];rfl) hk
   conv=>whnf
   repeat'((first|clear U K|apply st|(apply zk;intro K U)|refine zY ?_|refine lI (xs:=([]:List Int)) (enc:=fun x:Int=>[eI x]) ?_ (by omega) (by simp;omega) (fun _=>rfl)|refine fL (xs:=([]:List Int)) (enc:=fun x:Int=>[eI x]) ?_ (by omega) (by simp;omega) (fun _=>rfl)|(refine zd (fun hc=>?_) (fun hc=>?_)<;>try exact⟨⟩)|fail)<;>conv=>whnf)
   .exfalso
    simp at hc;omega
   replace hs:=Ci hs 1;refine GP hs 0 (xs:=[]) (ys:=List.take (A9 k).toNat []) rfl (by simp) Bc fun v1 Z hs=>?_
   conv=>whnf
   repeat'((first|apply st|refine rk ?_ ?_|exact fun s e=>by cases e;rfl|refine aq fun v Z hs hsl=>?_|refine fL (xs:=([]:List Int)) (enc:=fun x:Int=>[eI x]) ?_ (by omega) (by simp;omega) (fun _=>rfl)|fail)<;>conv=>whnf)
   refine Ig (by assumption) (GP hs 0 (xs:=([]++List.take (A9 k).toNat [])++[z]) (ys:=List.drop (A9 k).toNat []) rfl (by simp[AX]) Bc fun v1 Z hs hsl=>?_);refine zz ?_;(repeat clear U K);repeat intro K U
   refine⟨hlt,(v1,G9 z out),rfl,⟨hsr.symm,by rw[MR];omega,fun h=>by omega,fun _=>hsl⟩,?_⟩;have ho0:out= []:=Y5.1 (by omega);rw[hins,ho0];simp at hs ⊢;exact hs.less (.cons₂ _ (Jm _))
  .obtain⟨n,cp,rfl⟩:=rU hs (i:=0) rfl (h1 (by omega))
   have hlen:(iL out).length=out.length:=BL _;rcases A3 out hk with⟨y,hy,hklt⟩|hke
   .conv=>whnf
    repeat'((first|clear U K|apply st|(apply zk;intro K U)|refine zY ?_|refine ze fun x hx=>?_|refine qQ ?_|refine eg ?_|refine za (fun hc=>?_) fun hc=>?_|fail)<;>conv=>whnf)
    all_goals
     rw[hck,JC,hy]at hx;obtain rfl:=Option.some.inj hx
    .refine⟨k+1,by omega,rfl,⟨by omega,?_⟩,hs⟩
     rw[htw,drop_cons hy,List.takeWhile_cons,if_pos (by simpa using hc),AL hy];simp
    have hins:=UM htw (by rw[drop_cons hy,List.takeWhile_cons,if_neg (by simpa using hc)]) hk;replace hs:=Ci hs 1;refine O1 hs 0 1 (xs:=[]) (ys:=out) rfl rfl (by omega) (by simp;omega) Bc fun v1 Z hs=>?_
    conv=>whnf
    repeat'((first|apply st|refine rk ?_ ?_|exact fun s e=>by cases e;rfl|refine aq fun v Z hs hsl=>?_|refine eg ?_|fail)<;>conv=>whnf)
    refine Ig (by assumption) (O1 hs 0 1 (xs:=([]++(out.drop 0).take (A9 k).toNat)++[z]) (ys:=out) rfl rfl (by omega) (by simp;omega) Bc fun v1 Z hs hsl=>?_);refine zz ?_;(repeat clear U K);repeat intro K U
    refine⟨hlt,(v1,G9 z out),rfl,⟨hsr.symm,by rw[MR];omega,fun h=>by omega,fun _=>hsl⟩,?_⟩;rw[hins]
    have e:([]++(out.drop 0).take (A9 k).toNat)++[z]++(out.drop (A9 k).toNat).take (((iL out).length:Int) - A9 k).toNat=out.take k++z::out.drop k:=by
     have e1:(out.drop k).take (((iL out).length:Int) - A9 k).toNat=out.drop k:=List.take_of_length_le (by rw[lH];omega);rw[show(A9 k).toNat=k by omega,e1];simp
    rw[e]at hs;exact hs.less (.cons₂ _ (Jm _))
   .have hins:=UM htw (by rw[Al hke];rfl) hk
    conv=>whnf
    repeat'((first|clear U K|apply st|(apply zk;intro K U)|refine zY ?_|refine qQ ?_|refine eg ?_|fail)<;>conv=>whnf)
    replace hs:=Ci hs 1;refine O1 hs 0 1 (xs:=[]) (ys:=out) rfl rfl (by omega) (by simp;omega) Bc fun v1 Z hs=>?_
    conv=>whnf
    repeat'((first|apply st|refine rk ?_ ?_|exact fun s e=>by cases e;rfl|refine aq fun v Z hs hsl=>?_|refine eg ?_|fail)<;>conv=>whnf)
    refine Ig (by assumption) (O1 hs 0 1 (xs:=([]++(out.drop 0).take (A9 k).toNat)++[z]) (ys:=out) rfl rfl (by omega) (by simp;omega) Bc fun v1 Z hs hsl=>?_);refine zz ?_;(repeat clear U K);repeat intro K U
    refine⟨hlt,(v1,G9 z out),rfl,⟨hsr.symm,by rw[MR];omega,fun h=>by omega,fun _=>hsl⟩,?_⟩;rw[hins]
    have e:([]++(out.drop 0).take (A9 k).toNat)++[z]++(out.drop (A9 k).toNat).take (((iL out).length:Int) - A9 k).toNat=out.take k++z::out.drop k:=by
     have e1:(out.drop k).take (((iL out).length:Int) - A9 k).toNat=out.drop k:=List.take_of_length_le (by rw[lH];omega);rw[show(A9 k).toNat=k by omega,e1];simp
    rw[e]at hs;exact hs.less (.cons₂ _ (Jm _))
 .refine zz ?_;(repeat clear U K);repeat intro K U
  rw[hie,List.take_length]at ho;rw[<-ho];exact Ab (hs.HP 0 rfl)
end Go.Gl
namespace Go.Gl
open Go.Proofs
attribute [local irreducible] A6 Ar Ah AR AI Ae AQ AT AK Ad AN AO Ay A7 Sat AY A5 Ai W
def Kl (A:Int->Int->Bool) (l:List Int) (i k:Nat):Bool:=(List.range k).all fun j=> !A (l.getD j 0) (l.getD i 0)
def M1 (A:Int->Int->Bool) (l:List Int):Option Nat:=(List.range l.length).find? fun i=>Kl A l i l.length
def DE (A:Int->Int->Bool):Nat->List Int->List Int
 | 0,_=>[]
 | k+1,l=>l.getD ((M1 A l).getD 0) 0::DE A k (l.eraseIdx ((M1 A l).getD 0))
def cd (A:Int->Int->Bool) (l:List Int) (i k:Nat):Kl A l i (k+1)=(Kl A l i k&& !A (l.getD k 0) (l.getD i 0)):=by
 rw[Kl,List.range_succ,List.all_append,Kl];simp
def zQ (p:Nat->Bool) (n:Nat) (i a:Int):Prop:=(a=0/\ ∀t:Nat,i<t->t<n->p t=false)\/ ∃b:Nat,a=b/\i<b/\b<n/\p b=true/\ ∀t:Nat,i<t->t<b->p t=false
def oK {p:Nat->Bool} {n:Nat} {a:Int} (h:zQ p n (-1) a):a=(((List.range n).find? p).getD 0:Nat):=by
 rcases h with⟨h1,h2⟩|⟨b,h1,-,h3,h4,h5⟩
 .rw[List.find?_range_eq_none.2 fun t ht=>by rw[h2 t (by omega) ht];rfl]
  exact h1
 .rw[List.find?_range_eq_some.2 ⟨h4,List.mem_range.2 h3,fun t ht=>by rw[h5 t (by omega) ht];rfl⟩]
  exact h1
def kB {p:Nat->Bool} {n:Nat} {i:Nat} {a:Int} (h:zQ p n i a) (hi:i<n):zQ p n ((i:Int) - 1) (if p i then(i:Int)else a):=by
 cases hp:p i
 .rw[if_neg (by decide)]
  rcases h with⟨h1,h2⟩|⟨b,h1,h2,h3,h4,h5⟩
  .refine .inl ⟨h1,fun t ht hn=>?_⟩
   by_cases e:t=i
   .rw[e];exact hp
   .exact h2 t (by omega) hn
  .refine .inr ⟨b,h1,by omega,h3,h4,fun t ht hb=>?_⟩
   by_cases e:t=i
   .rw[e];exact hp
   .exact h5 t (by omega) hb
 .rw[if_pos rfl]
  exact .inr ⟨i,rfl,by omega,hi,hp,fun t h1 h2=>by omega⟩
def S8 (T : List (List Bool)) (l:List Int) (f:Bool) (h:KG T (Co l)) (hl16:l.length<=16):Pure zP 135 [xA T,.l (iL l) f] (.l (iL (DE (Dd T) (Co l).length (Co l))) false):=by
 have hM:=Mx;have c1:=qx l f hl16;refine wH kZ ?_;have hs:=Sn
 conv=>whnf
 repeat'((first|clear U K|apply st|(apply zk;intro K U)|refine zC ?_|fail)<;>conv=>whnf)
 clear c1
 refine DF (fun(x:List Int×Bool×V×List Int)=>x.1.length) (fun x=>[(1,.l (iL x.1) x.2.1),(5,x.2.2.1)]) (fun x=>[.own x.2.2.1 1 (iL x.2.2.2)])
  (fun x=>KG T x.1/\x.2.2.2.length+x.1.length<=16/\DE (Dd T) (Co l).length (Co l)=x.2.2.2++DE (Dd T) x.1.length x.1) (Co l,false,.l [] true,[]) rfl ⟨h,by simpa using h.many,by simp⟩ (FA hs 1) ?_
 clear hs;rintro⟨l',f',v,out⟩ Z ⟨ho,hlen,hm⟩ hs;dsimp only at ho hlen hm hs;dsimp only;have hll:out.length<AX/\(out.length+1)*8<=140737488355328:=by omega
 by_cases hz:l'.length=0
 .conv=>whnf
  repeat'((first|clear U K|apply st|(apply zk;intro K U)|refine zY ?_|(refine zb (fun hc=>?_) (fun hc=>?_)<;>try exact⟨⟩)|fail)<;>conv=>whnf)
  rw[hz]at hm;simp only[DE,I4]at hm;rw[hm];exact Ab (hs.HP 0 rfl)
 .obtain⟨n,hn⟩: ∃n,l'.length=n+1:=⟨l'.length - 1,by omega⟩
  rw[hn,DE]at hm;have hm16:=ho.many
  conv=>whnf
  repeat'((first|clear U K|apply st|(apply zk;intro K U)|refine zY ?_|(refine zb (fun hc=>?_) (fun hc=>?_)<;>try exact⟨⟩)|fail)<;>conv=>whnf)
  refine DF (fun x:Int×Int=>(x.2+1).toNat) (fun x=>[(6,eI x.1),(7,eI x.2)]) (fun _=>[.own v 1 (iL out)]) (fun x=> -1<=x.2/\x.2<l'.length/\zQ (fun i=>Kl (Dd T) l' i l'.length) l'.length x.2 x.1) (0,IntKind.i64.wrap ((iL l').length - 1)) rfl (by
   have e:((iL l').length:Int)=l'.length:=by simp
   have e2:IntKind.i64.wrap ((iL l').length - 1)=(l'.length:Int) - 1:=by rw[e,wrap64 (by omega) (by omega)]
   dsimp only;rw[e2]
   exact⟨by omega,by omega,.inl ⟨rfl,fun t h1 h2=>by omega⟩⟩) hs ?_
  clear hs;rintro⟨a,i⟩ Z ⟨hi1,hi2,hok⟩ hs;dsimp only at hi1 hi2 hok hs;dsimp only;by_cases hneg:i<0
  .obtain rfl:i= -1:=by omega
   have hae:=oK hok;rw[show(List.range l'.length).find? (fun i=>Kl (Dd T) l' i l'.length)=M1 (Dd T) l' from rfl]at hae
   have hj:(M1 (Dd T) l').getD 0<l'.length:=by
    cases h:M1 (Dd T) l' with
    | none=>exact Nat.pos_of_ne_zero hz
    | some j=>simpa using List.mem_of_find?_eq_some h
   generalize (M1 (Dd T) l').getD 0=j at *;subst hae;have c2:=QM l' f' j hj ho.many;obtain⟨x,hx⟩: ∃x,l'[j]? =some x:=⟨_,Cw hj⟩
   have hel:=List.length_eraseIdx_of_lt hj;rw[B6 hx]at hm
   conv=>whnf
   repeat'((first|clear U K|apply st|(apply zk;intro K U)|refine zY ?_|refine aq fun v Z hs hsl=>?_|refine zC ?_|(refine zb (fun hc=>?_) (fun hc=>?_)<;>try exact⟨⟩)|fail)<;>conv=>whnf)
   refine⟨(l'.eraseIdx j,false,v,out++[x]),by dsimp only;omega,rfl,⟨ho.less j,by simp;omega,?_⟩,hs⟩;dsimp only;rw[hm,hel,show l'.length - 1=n by omega];simp
  .have hpos:0<=i:=by omega
   obtain⟨x,hx⟩: ∃x,l'[i.toNat]? =some x:=⟨_,Cw (by omega)⟩
   have hxi:=ho.ins x (Bz hx)
   conv=>whnf
   repeat'((first|clear U K|apply st|(apply zk;intro K U)|refine zY ?_|(refine zb (fun hc=>?_) (fun hc=>?_)<;>try exact⟨⟩)|fail)<;>conv=>whnf)
   refine By l'.length (fun k (b:Bool)=>[(8,.b b),(9,eI (A9 k))]) (fun _ _=>[.own v 1 (iL out)]) (fun k b=>b=Kl (Dd T) l' i.toNat k) true rfl rfl hs ?_;clear hs;rintro k b Z hk hb hs;rcases A3 l' hk with⟨y,hy,hklt⟩|hke
   .have hyi:=ho.ins y (Bz hy)
    obtain⟨r,hr,hry⟩:=pD ho hyi hxi;have hsu:=cd (Dd T) l' i.toNat k;rw[B6 hx,B6 hy,<-hb]at hsu;have hck:A9 k=k:=AM (by omega);have hrl:=ho.sq r (Bz hr);cases b
    .refine zz ?_;(repeat clear U K);repeat intro K U
     exact⟨hklt,false,rfl,(hsu.trans (by simp)).symm,hs⟩
    .refine zz ?_;(repeat clear U K);repeat intro K U
     exact⟨hklt,!Dd T y x,rfl,(hsu.trans (by simp)).symm,hs⟩
   .have hwi:IntKind.i64.wrap (i - 1)=i - 1:=wrap64 (by omega) (by omega)
    have hst:=kB (i:=i.toNat) (by rw[Int.toNat_of_nonneg hpos];exact hok) (by omega);rw[hke]at hb;rw[Int.toNat_of_nonneg hpos,<-hb]at hst
    conv=>whnf
    repeat'((first|clear U K|apply st|(apply zk;intro K U)|refine zY ?_|refine za (fun hc=>?_) fun hc=>?_|fail)<;>conv=>whnf)
    .rw[hc,if_pos rfl]at hst
     exact⟨(i,IntKind.i64.wrap (i - 1)),by dsimp only;omega,rfl,by dsimp only;rw[hwi];exact⟨by omega,by omega,hst⟩,hs⟩
    .rw[hc,if_neg (by decide)]at hst
     exact⟨(a,IntKind.i64.wrap (i - 1)),by dsimp only;omega,rfl,by dsimp only;rw[hwi];exact⟨by omega,by omega,hst⟩,hs⟩
end Go.Gl
namespace Go.Gl
open Go.Proofs
def Sat.oks {Z:AE} {l:List At} (h:Sat Z l) {a:At} (ha:a∈l):a.ok Z:=h.1 a ha
def ky {Z:AE} {v vf:V} {Q:R->AE->Prop} (hf:FD Z emp v vf) (hq:Q (.ret vf) emp):Ar Z v Q:=⟨vf,emp,fun n o ho=>(by cases ho),hf,hq⟩
structure Hid (p:Prop):Prop where
 un:p
attribute [local irreducible] A6 Ar Ah AR AI Ae AQ AT AK Ad AN AO Ay A7 Sat AY A5 Ai W
abbrev RW:=Nat×List Bool
abbrev La (n:Nat) (r:RW):List V:=[.sl r.1 n n]
abbrev Ej (n:Nat) (r:RW):At:= .own (.sl r.1 n n) 1 (bL r.2)
def aF (n:Nat):FI (La n) 1:=fun r=>⟨rfl,fun v hv=>by rw[LV.1 hv];rfl⟩
abbrev k9 (n:Nat) (v6 v7:V) (R6 R7:List RW):List At:= .own v6 1 (R6.map (La n)):: .own v7 1 (R7.map (La n))::(R6.map (Ej n)++R7.map (Ej n))
def ic {n:Nat} {v6 v7:V} {R6 R7:List RW} {r6 r7:RW}:List.Perm (Ej n r7::Ej n r6:: .own v6 1 ((R6++[r6]).map (La n)):: .own v7 1 ((R7++[r7]).map (La n))::(R6.map (Ej n)++R7.map (Ej n))) (k9 n v6 v7 (R6++[r6]) (R7++[r7])):=by
 have e:(R6++[r6]).map (Ej n)++(R7++[r7]).map (Ej n)=R6.map (Ej n)++(Ej n r6::(R7.map (Ej n)++[Ej n r7])):=by simp
 have h1:((R6++[r6]).map (Ej n)++(R7++[r7]).map (Ej n)).Perm (Ej n r7::Ej n r6::(R6.map (Ej n)++R7.map (Ej n))):=by
  rw[e];refine List.perm_middle.trans (.trans (.cons _ ?_) (.swap _ _ _));rw[<-XO];exact List.perm_append_singleton _ _
 exact((Rn (l₁:=[Ej n r7,Ej n r6]) (l₂:=[_,_])).append_right _).trans (.cons _ (.cons _ h1.symm))
def KE (R:List RW):List (List Bool):=R.map fun r=>r.2
def D0 {l:List Int} {k:Nat} (h:k<l.length):l.getD k 0∈l:=by
 rw[DL,Cw h];exact List.getElem_mem h
structure RQ (n:Nat) (R:List RW):Prop where
 len:R.length=n
 row: ∀r∈R,r.2.length=n
def RQ.put {n:Nat} {R:List RW} {r:RW} (h:RQ n R) {j k:Nat} {b:Bool} (hr:R[j]? =some r):RQ n (R.set j (r.1,r.2.set k b)):=by
 refine⟨by rw[List.length_set];exact h.len,fun q hq=>?_⟩;rcases List.mem_or_eq_of_mem_set hq with hq|rfl
 .exact h.row q hq
 .rw[List.length_set];exact h.row r (Bz hr)
def Xm {n:Nat} {R:List RW} {r:RW} (h:RQ n R) {j k:Nat} {b:Bool} (hr:R[j]? =some r) (hk:k<n) (u v:Int):Dd (KE (R.set j (r.1,r.2.set k b))) u v=if u.toNat=j/\v.toNat=k then b else Dd (KE R) u v:=by
 have hj:j<R.length:=(Ii.1 hr).1;have hl:=h.row r (Bz hr);rw[Dd,Dd,KE,List.map_set];rw[DL (l:=(R.map fun r=>r.2).set j _)];by_cases hu:u.toNat=j
 .rw[hu,List.getElem?_set_self (by simpa using hj),Option.getD_some,EE (by omega)]
  have e:(KE R).getD j []=r.2:=by rw[KE,DL,Mu,hr];rfl
  by_cases hv:v.toNat=k
  .rw[if_pos hv,if_pos ⟨rfl,hv⟩]
  .rw[if_neg hv,if_neg fun h=>hv h.2,e]
 .rw[List.getElem?_set_ne (fun h=>hu h.symm),if_neg fun h=>hu h.1,<-DL]
  rfl
def jl {Z:AE} {n:Nat} {v6:V} {R:List RW} {r r':RW} {j:Nat} {B:At} {AB X:List At} (hr:R[j]? =some r) (he:r'.1=r.1) (hs:Sat Z (Ej n r'::B:: .own v6 1 (R.map (La n))::(AB++(R.map (Ej n)++X).eraseIdx j))):Sat Z (B:: .own v6 1 ((R.set j r').map (La n))::(AB++((R.set j r').map (Ej n)++X))):=by
 have hj:j<R.length:=(Ii.1 hr).1
 have e1:(R.set j r').map (La n)=R.map (La n):=by
  rw[List.map_set];refine List.ext_getElem? fun i=>?_
  by_cases hi:j=i
  .subst hi
   rw[List.getElem?_set_self (by simpa using hj),Mu,hr];simp only[XU,La,he]
  .rw[List.getElem?_set_ne hi]
 have e2:(R.set j r').map (Ej n)++X=(R.map (Ej n)++X).set j (Ej n r'):=by
  rw[List.map_set,List.set_append_left _ _ (by simpa using hj)]
 rw[e1,e2]
 have hp:((R.map (Ej n)++X).set j (Ej n r')).Perm (Ej n r'::(R.map (Ej n)++X).eraseIdx j):=by
  have:=IV (l:=(R.map (Ej n)++X).set j (Ej n r')) (j:=j) (a:=Ej n r') (List.getElem?_set_self (by rw[Ro,BL];omega))
  rwa [List.eraseIdx_set_eq]at this
 refine hs.perm (List.Perm.trans ?_ (.cons _ (.cons _ ((hp.symm).append_left AB))));exact((Rn (l₁:=[Ej n r']) (l₂:=B:: .own v6 1 (R.map (La n))::AB)).append_right _).trans (by simp)
def pC {R:List RW} {r:RW} {m n:Nat} {b:Bool} (hr:R[m]? =some r) (hb:r.2[n]? =some b):Dd (KE R) m n=b:=by
 simp only[Dd,KE,JC,DL,Mu,hr,XU,Option.getD_some,hb]
def Si {n:Nat} {v7:V} {R Q:List RW} {r r':RW} {j:Nat} {B C:At} (hr:Q[j]? =some r) (he:r'.1=r.1):(B::C:: .own v7 1 (Q.map (La n))::(R.map (Ej n)++Q.map (Ej n))).set (R.length+j+3) (Ej n r')=B::C:: .own v7 1 ((Q.set j r').map (La n))::(R.map (Ej n)++(Q.set j r').map (Ej n)):=by
 have e1:(Q.set j r').map (La n)=Q.map (La n):=by
  have hj:j<Q.length:=(Ii.1 hr).1;rw[List.map_set];refine List.ext_getElem? fun i=>?_
  by_cases hi:j=i
  .subst hi
   rw[List.getElem?_set_self (by simpa using hj),Mu,hr];simp only[XU,La,he]
  .rw[List.getElem?_set_ne hi]
 rw[e1];show B::C:: .own v7 1 (Q.map (La n))::(R.map (Ej n)++Q.map (Ej n)).set (R.length+j) (Ej n r')=_;rw[List.set_append_right _ _ (by rw[BL];omega),BL,show R.length+j - R.length=j by omega,List.map_set]
def P4 {Z:AE} {n:Nat}: ∀Q:List RW,(∀r∈Q,(Ej n r).ok Z)->EB Z emp (Q.map (La n)) ((KE Q).map fun r=>[.l (bL r) false])
 | [],_=> .nil
 | r ::s,h=>by
   refine .cons (.cons ?_ .nil) (P4 s fun q hq=>h q (.tail _ hq));rcases h r (.head _)with⟨e,_⟩|⟨m,cap,e,hm⟩
   .cases e
   .injection e with e1 e2 e3
    subst e1 e3;exact .arr hm rfl e2 (.refl _ _ _)
def sg {Z:AE} {n:Nat} {v:V} {Q:List RW} (hv:(At.own v 1 (Q.map (La n))).ok Z) (h: ∀r∈Q,(Ej n r).ok Z):FD Z emp v (xA (KE Q)):=by
 rcases hv with⟨rfl,_⟩|⟨m,cap,rfl,hm⟩
 .exact .l (fun h=>by cases h) (P4 Q h)
 .exact .arr hm rfl rfl (P4 Q h)
def ku (p : Prog) (l:List Int) (f:Bool) (hok:EM p) (hl16:l.length<=16) (hin: ∀x∈l,BQ p x=true):Be zP 75 [.a (BK p),.l (iL l) f] [] fun r post=>post= []/\ ∃T,r= .ret (xA T)/\KG T l/\ ∀x∈l,∀y∈l,DH p x y=true->Dd T x y=Af p x y:=by
 refine Be.fit (by kernel_rfl) fun hf=>?_
 intro Z hs;have⟨p1,p2,p3,p4⟩:=Ev hf.1;have hM:=Mx;have h16:=hok.many;have hP:=N9 hf.1;have c1:=T2 p hP hok.yL hok.AG;refine yg kZ ?_
 conv=>whnf
 repeat'((first|clear U K|apply st|(apply zk;intro K U)|refine zY ?_|refine zs fun Z hs=>?_|refine zC ?_|refine zo fun nn hnn Z hs=>?_|fail)<;>conv=>whnf)
 replace hs:=Sat.front (j:=2) (Ci (Ci hs 1) 1) rfl;refine By p.methods.length (fun m (x:V×V×List RW×List RW)=>[(6,x.1),(7,x.2.1),(8,eI (A9 m))]) (fun _ x=> .box nn (A1 (AS p))::k9 p.methods.length x.1 x.2.1 x.2.2.1 x.2.2.2) (fun m x=>x.2.2.1.length=m/\x.2.2.2.length=m/\(∀r∈x.2.2.1,r.2=List.replicate p.methods.length false)/\ ∀r∈x.2.2.2,r.2=List.replicate p.methods.length false) (.l [] true,.l [] true,[],[]) rfl ⟨rfl,rfl,fun r h=>(by cases h),fun r h=>(by cases h)⟩ hs ?_;clear hs hnn;rintro m ⟨v6,v7,R6,R7⟩ Z hm ⟨h6,h7,ha6,ha7⟩ hs;dsimp only at h6 h7 ha6 ha7 hs;dsimp only;rcases A3 p.methods hm with⟨x,hx,hlt⟩|hme
 .have hll6:R6.length<AX/\(R6.length+1)*24<=140737488355328:=by omega
  have hll7:R7.length<AX/\(R7.length+1)*24<=140737488355328:=by omega
  refine zz ?_;(repeat clear U K);repeat intro K U
  simp only[BL];refine lX hs (I3 _) (by omega) fun u6 Z hs hu6=>?_
  obtain⟨a6,rfl⟩:=hu6
  conv=>whnf
  repeat'((first|clear U K|apply st|(apply zk;intro K U)|refine aq (enc:=La p.methods.length) (x:=((_:Nat),List.replicate p.methods.length false)) (fun v Z hs hsl=>?_) (hg:=aF _)|fail)<;>conv=>whnf)
  rename V=>w6
  simp only[BL];refine lX hs (I3 _) (by omega) fun u7 Z hs hu7=>?_
  obtain⟨a7,rfl⟩:=hu7
  conv=>whnf
  repeat'((first|clear U K|apply st|(apply zk;intro K U)|refine zY ?_|refine aq (enc:=La p.methods.length) (x:=((_:Nat),List.replicate p.methods.length false)) (fun v Z hs hsl=>?_) (hg:=aF _)|fail)<;>conv=>whnf)
  refine⟨hlt,(w6,v,R6++[(a6,List.replicate p.methods.length false)],R7++[(a7,List.replicate p.methods.length false)]),rfl,⟨by simp;omega,by simp;omega,fun r hr=>?_,fun r hr=>?_⟩,?_⟩
  .rcases FC.1 hr with hr|hr
   .exact ha6 r hr
   .rw[LV.1 hr]
  .rcases FC.1 hr with hr|hr
   .exact ha7 r hr
   .rw[LV.1 hr]
  .refine Sat.perm ?_ (((Rn (l₁:=[_,_]) (l₂:=[_])).append_right _).trans (.cons _ ic))
   have hbl:bL (List.replicate p.methods.length false)=List.replicate p.methods.length [V.b false]:=by simp[bL]
   dsimp only[Ej];rw[hbl];exact hs
 .refine zz ?_;(repeat clear U K);repeat intro K U
  have hs2:=hs;refine By l.length (fun i (R:List RW)=>[(9,eI (A9 i))]) (fun _ R=> .box nn (A1 (AS p))::k9 p.methods.length v6 v7 R R7) (fun i R=>RQ p.methods.length R/\ ∀i' k',i'<i->k'<l.length->DH p (l.getD i' 0) (l.getD k' 0)=true->Dd (KE R) (l.getD i' 0) (l.getD k' 0)=GM p (l.getD i' 0) (l.getD k' 0)) R6 rfl ⟨⟨by omega,fun r hr=>by rw[ha6 r hr];simp⟩,fun i' k' h=>by omega⟩ hs ?_;clear hs hs2;rintro i R Z hi ⟨hR,hE⟩ hs;rcases A3 l hi with⟨x,hx,hlt⟩|hie
  .have hxm:=hin x (Bz hx)
   have hxP:=CA hxm;have hxr:=hxm;simp only[BQ,BD,CD]at hxr;refine zz ?_;(repeat clear U K);repeat intro K U
   refine By l.length (fun k (R:List RW)=>[(10,eI (A9 k))]) (fun _ R=> .box nn (A1 (AS p))::k9 p.methods.length v6 v7 R R7) (fun k R=>RQ p.methods.length R/\(∀i' k',i'<i->k'<l.length->DH p (l.getD i' 0) (l.getD k' 0)=true->Dd (KE R) (l.getD i' 0) (l.getD k' 0)=GM p (l.getD i' 0) (l.getD k' 0))/\ ∀k',k'<k->DH p x (l.getD k' 0)=true->Dd (KE R) x (l.getD k' 0)=GM p x (l.getD k' 0)) R rfl ⟨hR,hE,fun k' h=>by omega⟩ hs ?_;clear hs hR hE R;rintro k R Z hk ⟨hR,hE,hF⟩ hs;rcases A3 l hk with⟨y,hy,hklt⟩|hke
   .have hym:=hin y (Bz hy)
    have hyP:=CA hym;have hyr:=hym;simp only[BQ,BD,CD]at hyr;have c2:=aw p x y hxm hym;have c3:=c9 (AS p) (Bf p x).fact (Bf p y).fact hok.wok (hok.facts _ (Bz hxP)).1 (hok.facts _ (Bz hyP)).1 (hok.facts _ (Bz hxP)).2 (hok.facts _ (Bz hyP)).2;cases hal:DH p x y<;>rw[hal]at c2
    .conv=>whnf
     repeat'((first|clear U K|apply st|(apply zk;intro K U)|refine zY ?_|refine zC ?_|fail)<;>conv=>whnf)
     refine⟨hklt,R,rfl,⟨hR,hE,fun k' h=>?_⟩,hs⟩;rcases Nat.lt_or_ge k' k with h'|h'
     .exact hF k' h'
     .rw[show k'=k by omega,B6 hy,hal]
      intro e;cases e
    .obtain⟨r,hr⟩: ∃r,R[x.toNat]? =some r:=⟨_,Cw (by have:=hR.len;omega)⟩
     have hl0:=hR.len;have hl1:(R.map (La p.methods.length)).length=p.methods.length:=by rw[BL];exact hR.len
     have hl2:=hR.row r (Bz hr);have hl3:(bL r.2).length=p.methods.length:=by simpa using hl2
     have hj:(At.box nn (A1 (AS p))::k9 p.methods.length v6 v7 R R7)[x.toNat+3]? =some (Ej p.methods.length r):=by
      show(R.map (Ej p.methods.length)++R7.map (Ej p.methods.length))[x.toNat]? =_;rw[k7 (by rw[BL];have:=hR.len;omega),Mu,hr];rfl
     replace hs:Sat Z (Ej p.methods.length r:: .box nn (A1 (AS p)):: .own v6 1 (R.map (La p.methods.length)):: .own v7 1 (R7.map (La p.methods.length))::(R.map (Ej p.methods.length)++R7.map (Ej p.methods.length)).eraseIdx x.toNat):=hs.front hj
     conv=>whnf
     repeat'((first|clear U K|apply st|(apply zk;intro K U)|refine zY ?_|refine rk ?_ ?_|exact fun s e=>by cases e;rfl|refine zs fun Z hs=>?_|refine zC ?_|fail)<;>conv=>whnf)
     have hk2:y.toNat<p.methods.length:=by omega
     have hkeep: ∀u v,BQ p u=true->BQ p v=true->Dd (KE R) u v=GM p u v->Dd (KE (R.set x.toNat (r.1,r.2.set y.toNat (GM p x y)))) u v=GM p u v:=fun u v hu hv e=>by
      simp only[BQ,BD,CD]at hu hv;rw[Xm hR hr hk2];split
      .rename_i h
       rw[show u=x by omega,show v=y by omega]
      .exact e
     refine⟨hklt,R.set x.toNat (r.1,r.2.set y.toNat (GM p x y)),rfl,⟨hR.put hr,fun i' k' h1 h2 h3=>?_,fun k' h1 h2=>?_⟩,jl (AB:=[_]) hr rfl hs⟩
     .exact hkeep _ _ (hin _ (D0 (by omega))) (hin _ (D0 h2)) (hE i' k' h1 h2 h3)
     .rcases Nat.lt_or_ge k' k with h'|h'
      .exact hkeep _ _ hxm (hin _ (D0 (by omega))) (hF k' h' h2)
      .rw[show k'=k by omega,B6 hy,Xm hR hr hk2,if_pos ⟨rfl,rfl⟩]
   .refine zz ?_;(repeat clear U K);repeat intro K U
    refine⟨hlt,R,rfl,⟨hR,fun i' k' h1 h2=>?_⟩,hs⟩;rcases Nat.lt_or_ge i' i with h'|h'
    .exact hE i' k' h' h2
    .rw[show i'=i by omega,B6 hx]
     exact hF k' (by omega)
  .have hlR:=hR.len
   have hnr:RQ p.methods.length R7:=⟨by omega,fun r hr=>by rw[ha7 r hr];simp⟩
   refine zz ?_;(repeat clear U K);repeat intro K U
   refine By p.methods.length (fun m (Q:List RW)=>[(11,eI (A9 m))]) (fun _ Q=> .box nn (A1 (AS p))::k9 p.methods.length v6 v7 R Q) (fun m Q=>RQ p.methods.length Q/\ ∀m' n':Nat,m'<m->n'<p.methods.length->Dd (KE Q) m' n'=(Dd (KE R) m' n'&& !Dd (KE R) n' m')) R7 rfl ⟨hnr,fun m' n' h=>by omega⟩ hs ?_;clear hs hnr;rintro m Q Z hm ⟨hQ,hG⟩ hs;have hlQ:=hQ.len;have hl5:(Q.map (La p.methods.length)).length=p.methods.length:=by rw[BL];exact hlQ
   have hl6:(R.map (La p.methods.length)).length=p.methods.length:=by rw[BL];exact hlR
   rcases Nat.lt_or_ge m p.methods.length with hlt|hme
   .obtain ⟨ra,hra⟩: ∃r,R[m]? =some r:=⟨_,Cw (by omega)⟩
    conv=>whnf
    repeat'((first|clear U K|apply st|(apply zk;intro K U)|refine zY ?_|(refine zb (fun hc=>?_) (fun hc=>?_)<;>try exact⟨⟩)|fail)<;>conv=>whnf)
    refine By p.methods.length (fun n (Q:List RW)=>[(12,eI (A9 n))]) (fun _ Q=> .box nn (A1 (AS p))::k9 p.methods.length v6 v7 R Q) (fun n Q=>RQ p.methods.length Q/\(∀m' n':Nat,m'<m->n'<p.methods.length->Dd (KE Q) m' n'=(Dd (KE R) m' n'&& !Dd (KE R) n' m'))/\ ∀n':Nat,n'<n->Dd (KE Q) m n'=(Dd (KE R) m n'&& !Dd (KE R) n' m)) Q rfl ⟨hQ,hG,fun n' h=>by omega⟩ hs ?_;clear hs hQ hG hlQ hl5;rintro n Q Z hn ⟨hQ,hG,hI⟩ hs;have hlQ:=hQ.len;have hl5:(Q.map (La p.methods.length)).length=p.methods.length:=by rw[BL];exact hlQ
    rcases Nat.lt_or_ge n p.methods.length with hnlt|hne
    .obtain⟨rb,hrb⟩: ∃r,R[n]? =some r:=⟨_,Cw (by omega)⟩
     obtain⟨rq,hrq⟩: ∃r,Q[m]? =some r:=⟨_,Cw (by omega)⟩
     have hla:=hR.row ra (Bz hra);have hlb:=hR.row rb (Bz hrb);have hlq:=hQ.row rq (Bz hrq);have hcm:A9 m=m:=AM (by omega);have hcn:A9 n=n:=AM (by omega);obtain⟨ba,hba⟩: ∃b,ra.2[n]? =some b:=⟨_,Cw (by omega)⟩
     obtain⟨bb,hbb⟩: ∃b,rb.2[m]? =some b:=⟨_,Cw (by omega)⟩
     have g1:Hid ((At.box nn (A1 (AS p))::k9 p.methods.length v6 v7 R Q)[m+3]? =some (Ej p.methods.length ra)):=by
      refine .mk ?_;show(R.map (Ej p.methods.length)++Q.map (Ej p.methods.length))[m]? =_;rw[k7 (by rw[BL];omega),Mu,hra];rfl
     have g2:Hid ((At.box nn (A1 (AS p))::k9 p.methods.length v6 v7 R Q)[n+3]? =some (Ej p.methods.length rb)):=by
      refine .mk ?_;show(R.map (Ej p.methods.length)++Q.map (Ej p.methods.length))[n]? =_;rw[k7 (by rw[BL];omega),Mu,hrb];rfl
     have g3:Hid ((At.box nn (A1 (AS p))::k9 p.methods.length v6 v7 R Q)[R.length+m+3]? =some (Ej p.methods.length rq)):=by
      refine .mk ?_;show(R.map (Ej p.methods.length)++Q.map (Ej p.methods.length))[R.length+m]? =_;rw[List.getElem?_append_right (by rw[BL];omega),BL,show R.length+m - R.length=m by omega,Mu,hrq];rfl
     have hra2:R[(A9 m).toNat]? =some ra:=by rw[hcm,JC];exact hra
     have hrb2:R[(A9 n).toNat]? =some rb:=by rw[hcn,JC];exact hrb
     have hrq2:Q[(A9 m).toNat]? =some rq:=by rw[hcm,JC];exact hrq
     have eab:=pC hra hba;have eba:=pC hrb hbb;have hput: ∀b,RQ p.methods.length (Q.set m (rq.1,rq.2.set n b)):=fun b=>hQ.put hrq
     have hnew: ∀(b:Bool) (u v:Nat),Dd (KE (Q.set m (rq.1,rq.2.set n b))) u v=if u=m/\v=n then b else Dd (KE Q) u v:=fun b u v=>by
      have:=Xm (b:=b) hQ hrq hnlt u v;simpa using this
     have hfin: ∀b,b=(ba&& !bb)->(∀m' n':Nat,m'<m->n'<p.methods.length->Dd (KE (Q.set m (rq.1,rq.2.set n b))) m' n'=(Dd (KE R) m' n'&& !Dd (KE R) n' m'))/\ ∀n':Nat,n'<n+1->Dd (KE (Q.set m (rq.1,rq.2.set n b))) m n'=(Dd (KE R) m n'&& !Dd (KE R) n' m):=fun b hb=>by
      refine⟨fun m' n' h1 h2=>?_,fun n' h1=>?_⟩
      .rw[hnew,if_neg fun h=>by omega]
       exact hG m' n' h1 h2
      .rw[hnew]
       split
       .rename_i h
        rw[h.2,eab,eba,hb]
       .exact hI n' (by omega)
     cases ba
     .conv=>whnf
      repeat'((first|clear U K|apply st|(apply zk;intro K U)|refine zY ?_|refine zL (fun Z hs=>?_) (hi:=g3.un) (h1:=by omega)|refine oc ?_ (hi:=g1.un) (h1:=by rw[BL];omega)|refine oc ?_ (hi:=g3.un) (h1:=by rw[BL];omega)|refine xP ?_ (hi:=g1.un)|(refine zb (fun hc=>?_) (fun hc=>?_)<;>try exact⟨⟩)|fail)<;>conv=>whnf)
      refine⟨hnlt,Q.set m (rq.1,rq.2.set n false),rfl,⟨hput _,hfin _ rfl⟩,?_⟩;refine(congrArg (Sat Z) (Si (n:=p.methods.length) (v7:=v7) (R:=R) (B:= .box nn (A1 (AS p))) (C:= .own v6 1 (R.map (La p.methods.length))) (r':=(rq.1,rq.2.set n false)) hrq rfl)).mp ?_
      first
       | exact hs
       | (rw[hcn,JC]at hs;exact hs)
     .conv=>whnf
      repeat'((first|clear U K|apply st|(apply zk;intro K U)|refine zY ?_|refine zL (fun Z hs=>?_) (hi:=g3.un) (h1:=by omega)|refine oc ?_ (hi:=g1.un) (h1:=by rw[BL];omega)|refine oc ?_ (hi:=g2.un) (h1:=by rw[BL];omega)|refine oc ?_ (hi:=g3.un) (h1:=by rw[BL];omega)|refine xP ?_ (hi:=g1.un)|refine xP ?_ (hi:=g2.un)|(refine zb (fun hc=>?_) (fun hc=>?_)<;>try exact⟨⟩)|fail)<;>conv=>whnf)
      refine⟨hnlt,Q.set m (rq.1,rq.2.set n (!bb)),rfl,⟨hput _,hfin _ rfl⟩,?_⟩;refine(congrArg (Sat Z) (Si (n:=p.methods.length) (v7:=v7) (R:=R) (B:= .box nn (A1 (AS p))) (C:= .own v6 1 (R.map (La p.methods.length))) (r':=(rq.1,rq.2.set n (!bb))) hrq rfl)).mp ?_
      first
       | exact hs
       | (rw[hcn,JC]at hs;exact hs)
    .conv=>whnf
     repeat'((first|clear U K|apply st|(apply zk;intro K U)|refine zY ?_|(refine zb (fun hc=>?_) (fun hc=>?_)<;>try exact⟨⟩)|fail)<;>conv=>whnf)
     refine⟨hlt,Q,rfl,⟨hQ,fun m' n' h1 h2=>?_⟩,hs⟩;rcases Nat.lt_or_ge m' m with h'|h'
     .exact hG m' n' h' h2
     .rw[show m'=m by omega]
      exact hI n' (by omega)
   .conv=>whnf
    repeat'((first|clear U K|apply st|(apply zk;intro K U)|refine zY ?_|(refine zb (fun hc=>?_) (fun hc=>?_)<;>try exact⟨⟩)|fail)<;>conv=>whnf)
    have hrow: ∀r∈Q,(Ej p.methods.length r).ok Z:=fun r hr=>hs.oks (.tail _ (.tail _ (.tail _ (N1 _ (Mt.2 ⟨r,hr,rfl⟩)))))
    refine ky (sg (hs.oks (.tail _ (.tail _ (.head _)))) hrow) ⟨[],⟨rfl,_,rfl,?_,fun x hx y hy hal=>?_⟩,Sat.nil⟩
    .have hlT:(KE Q).length=p.methods.length:=by rw[KE,BL];exact hlQ
     refine⟨by omega,fun r hr=>?_,fun x hx=>?_,hl16⟩
     .obtain⟨q,hq,rfl⟩:=Mt.1 hr
      rw[hlT];exact hQ.row q hq
     .have:=hin x hx
      simp only[BQ,BD,CD]at this;rw[hlT];omega
    .have mx:=hin x hx
     have my:=hin y hy;simp only[BQ,BD,CD]at mx my
     have hal2:DH p y x=true:=by
      simp only[DH,BD,EZ]at hal ⊢;exact⟨hal.1.symm,hal.2.symm⟩
     obtain⟨a,ha,rfl⟩:=List.getElem_of_mem hx;obtain⟨b,hb,rfl⟩:=List.getElem_of_mem hy;have e1:l.getD a 0=l[a]:=B6 (Cw ha);have e2:l.getD b 0=l[b]:=B6 (Cw hb);have h1:=hE a b (by omega) hb;have h2:=hE b a (by omega) ha;rw[e1,e2]at h1 h2;have h3:=hG l[a].toNat l[b].toNat (by omega) (by omega);rw[Int.toNat_of_nonneg mx.1,Int.toNat_of_nonneg my.1,h1 hal,h2 hal2]at h3;exact h3
end Go.Gl
