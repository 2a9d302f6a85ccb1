import Derived.Test.YtegbmnmnaijioaaGreatRows
import Derived.HandedShaped
import Derived.Test.YtegbmnmnaijioaaGreatA6
import Derived.Test.YtegbmnmnaijioaaGreatA13
set_option linter.all false
set_option linter.defProp false
noncomputable section
namespace Go.Gl
open Go.Proofs
def qn {b:Nat} {σ:AH} {l:List At} (h:Sat σ l) (i j:Nat) {v:V} {n len cap off ln sz:Nat} {es ys:List (List V)} {K:V→AH→Prop} (hi:l[i]? =some (.own v sz es)) (hj:l[j]? =some (.own (.sl n len cap) sz ys)) (hle:off+ln≤ys.length) (hl:es.length+ln≤Ad∧(es.length+ln)*b≤140737488355328) (hys: ∀e∈ys,e.length=sz) (ho: ∀e∈ys,∀v∈e,CL v=true)
    (hk: ∀v' σ',Sat σ' (l.set i (.own v' sz (es++(ys.drop off).take ln)))→K v' σ'):AM b σ sz v (.sv n sz off ln) K:=by
 have hlen:((ys.drop off).take ln).length=ln:=by rw[K1,oR];omega
 have hm: ∀e∈(ys.drop off).take ln,e∈ys:=fun e he=>List.mem_of_mem_drop (List.mem_of_mem_take he)
 have Y:AM b σ sz v (.l ((ys.drop off).take ln) true) K:=hAppend h i hi (by rw[hlen];exact hl) (fun e he=>hys e (hm e he)) (fun e he=>ho e (hm e he)) hk;rcases h.get hj with⟨e1,hel⟩|⟨n',cap',e1,hn⟩
 ·cases e1
 ·cases e1
  unfold AM at Y ⊢;simp only[rowsOf]at Y ⊢;rw[hn];refine⟨?_,?_,hle,Y.2⟩<;>first|trivial|rfl
def OS {b:Nat} {σ:AH} {l:List At} (h:Sat σ l) (i j:Nat) {α:Type} {enc:α→List V} {xs ys:List α} {v:V} {n len cap off ln sz:Nat} {K:V→AH→Prop} (hi:l[i]? =some (.own v sz (xs.map enc))) (hj:l[j]? =some (.own (.sl n len cap) sz (ys.map enc))) (hle:off+ln≤ys.length) (hl:xs.length+ln≤Ad∧(xs.length+ln)*b≤140737488355328) (hg:FD enc sz)
    (hk: ∀v' σ',Sat σ' (l.set i (.own v' sz ((xs++(ys.drop off).take ln).map enc)))→K v' σ'):AM b σ sz v (.sv n sz off ln) K:=
 qn h i j hi hj (by simpa using hle) (by simpa using hl) (DG hg ys).1 (DG hg ys).2 fun v' σ' hs=>hk v' σ' (by simpa[List.map_take,List.map_drop]using hs)
def IP {b sz:Nat} {σ:AH} {v y:V} {K:V→AH→Prop} (hv:(B5 v).isSome=true) (h:AM b σ sz v y fun v' σ'=>(B5 v').isSome=true→K v' σ'):AM b σ sz v y K:=by
 obtain⟨n,l,c,rfl⟩:=di hv;unfold AM at h ⊢;refine Ed h fun ys h=>⟨h.1,?_⟩
 have h2:=h.2;dsimp only at h2 ⊢;cases hn:σ n with
 | none=>rw[hn]at h2;exact h2
 | some o=>
   rw[hn]at h2;cases o with
   | arr s es c'=>exact⟨h2.1,h2.2.1,h2.2.2.1,h2.2.2.2.1,fun n' cap' h3 h4=>h2.2.2.2.2 n' cap' h3 h4 rfl⟩
   | _=>exact h2
def py {σ:AH} {l:List At} (h:Sat σ l) {i:Nat} {v:V} {sz:Nat} {es:List (List V)} (hi:l[i]? =some (.own v sz es)) (hv:(B5 v).isSome=true): ∃n cp,v= .sl n es.length cp:=by
 rcases h.get hi with⟨e,_⟩|⟨n,cp,e,_⟩
 ·rw[e]at hv;cases hv
 ·exact⟨n,cp,e⟩
attribute [local irreducible] BC Aw Ai AV AM Ah AU AW AN Ag AQ AS A3 BA Sat Ab A8 Ak W
def Gx (x:Int) (out:List Int):List Int:=out.takeWhile (fun y=>decide (y<x))++x::out.dropWhile (fun y=>decide (y<x))
def Cv (l:List Int):List Int:=l.foldl (fun out x=>Gx x out) []
def Lv (x:Int) (out:List Int):(Gx x out).length=out.length+1:=by
 have:=congrArg List.length (List.takeWhile_append_dropWhile (p:=fun y=>decide (y<x)) (l:=out));rw[Qv]at this;rw[Gx,Qv,K2];omega
def Te {x:Int} {out:List Int} {k:Nat} (h1:out.takeWhile (fun y=>decide (y<x))=out.take k++(out.drop k).takeWhile (fun y=>decide (y<x))) (h2:(out.drop k).takeWhile (fun y=>decide (y<x))= []) (hk:k≤out.length):Gx x out=out.take k++x::out.drop k:=by
 rw[h2,Im]at h1;have:=List.takeWhile_append_dropWhile (p:=fun y=>decide (y<x)) (l:=out);rw[h1]at this
 have e:out.dropWhile (fun y=>decide (y<x))=out.drop k:=by
  have h3:out.take k++out.dropWhile (fun y=>decide (y<x))=out.take k++out.drop k:=by rw[this,List.take_append_drop]
  exact List.append_cancel_left h3
 rw[Gx,h1,e]
set_option maxHeartbeats 4000000 in
def pS (l : List Int) (f:Bool) (hl:l.length≤16):Pure Tryz.prog 320 [.l (iL l) f] (.l (iL (Cv l)) false):=by
 have hM:=Mx;refine sB kZ ?_;have hs:=Sn
 conv=>whnf
 repeat'((first|apply st|(apply sq;intro K U)|(apply si;intro A B Y Z)|(apply Y;clear Z B Y A)|(apply U;clear U K)|fail)<;>conv=>whnf)
 refine CA l.length (fun i (x:V×List Int)=>[(3,x.1),(4,eI (BG i))]) (fun _ x=>[.own x.1 1 (iL x.2)]) (fun i x=>x.2=Cv (l.take i)∧x.2.length=i∧(i=0→x.1= .l [] true)∧(1≤i→(B5 x.1).isSome=true)) (.l [] true,[]) rfl ⟨rfl,rfl,fun _=>rfl,fun h=>by omega⟩ (EM hs 1) ?_;clear hs;rintro i ⟨v,out⟩ σ hi ⟨ho,hol,h0,h1⟩ hs;dsimp only at ho hol h0 h1 hs;dsimp only;rcases BI l hi with⟨z,hz,hlt⟩|hie
 ·have hsr:Cv (l.take (i+1))=Gx z out:=by rw[AO hz,Cv,List.foldl_append,ho];rfl
  conv=>whnf
  repeat'((first|apply st|(apply sq;intro K U)|(apply si;intro A B Y Z)|(apply Y;clear Z B Y A)|(apply U;clear U K)|refine⟨rfl,?_⟩|(refine CU (fun hc=>?_)<;>(try rw[hc])<;>clear hc)|fail)<;>conv=>whnf)
  refine EA (fun k:Nat=>out.length - k) (fun k=>[(5,eI (BG k))]) (fun _=>[.own v 1 (iL out)]) (fun k=>k≤out.length∧out.takeWhile (fun y=>decide (y<z))=out.take k++(out.drop k).takeWhile (fun y=>decide (y<z))) 0 rfl ⟨Nat.zero_le _,rfl⟩ hs ?_;clear hs;rintro k σ ⟨hk,htw⟩ hs;have hck:BG k=k:=AK (by omega);by_cases hi0:i=0
  ·obtain rfl:=h0 hi0
   have hins:=Te htw (by rw[As (by omega)];rfl) hk
   conv=>whnf
   repeat'((first|apply st|(apply sq;intro K U)|(apply si;intro A B Y Z)|(apply Y;clear Z B Y A)|(apply U;clear U K)|apply dr|refine⟨rfl,?_⟩|refine ix ?_|refine xn (xs:=([]:List Int)) (enc:=fun x:Int=>[eI x]) ?_ (by omega) (by simp;omega) (fun _=>rfl)|refine dh (xs:=([]:List Int)) (enc:=fun x:Int=>[eI x]) ?_ (by omega) (by simp;omega) (fun _=>rfl)|(constructor<;>intro hc<;>(try rw[hc])<;>(replace hc:=bp hc)<;>(try simp(disch:=omega) only[A9,wrap64,AK]at hc))|clear U K)<;>conv=>whnf)
   ·exfalso
    simp at hc;omega
   replace hs:=DA hs 1;refine HU hs 0 (xs:=[]) (ys:=List.take (BG k).toNat []) rfl (by simp) Bk fun v1 σ hs=>?_
   conv=>whnf
   repeat'((first|apply dr|refine rk ?_ ?_|exact fun s e=>by cases e;rfl|refine aq fun v σ hs hsl=>?_|refine dh (xs:=([]:List Int)) (enc:=fun x:Int=>[eI x]) ?_ (by omega) (by simp;omega) (fun _=>rfl)|fail)<;>conv=>whnf)
   refine IP (by assumption) (HU hs 0 (xs:=([]++List.take (BG k).toNat [])++[z]) (ys:=List.drop (BG k).toNat []) rfl (by simp[Ad]) Bk fun v1 σ hs hsl=>?_)
   conv=>whnf
   repeat'((first|(apply si;intro A B Y Z)|(apply Y;clear Z B Y A)|(apply U;clear U K)|apply dr|refine⟨rfl,?_⟩|clear U K)<;>conv=>whnf)
   refine⟨hlt,(v1,Gx z out),rfl,⟨hsr.symm,by rw[Lv];omega,fun h=>by omega,fun _=>hsl⟩,?_⟩;have ho0:out= []:=YL.1 (by omega);rw[hins,ho0];simp at hs ⊢;exact hs.less (.cons₂ _ (NT _))
  ·obtain⟨n,cp,rfl⟩:=py hs (i:=0) rfl (h1 (by omega))
   have hlen:(iL out).length=out.length:=A9 _;rcases BI out hk with⟨y,hy,hklt⟩|hke
   ·conv=>whnf
    repeat'((first|apply st|(apply sq;intro K U)|(apply si;intro A B Y Z)|(apply Y;clear Z B Y A)|(apply U;clear U K)|apply dr|refine⟨rfl,?_⟩|refine ix ?_|refine lo ?_|refine oi ?_|refine ol fun x hx=>?_|(refine CU (fun hc=>?_)<;>(try rw[hc])<;>clear hc)|refine oo ?_|refine dQ ?_|(constructor<;>intro hc<;>(try rw[hc])<;>(replace hc:=bp hc))|clear U K)<;>conv=>whnf)
    all_goals
     rw[hck,Iv,hy]at hx;obtain rfl:=Option.some.inj hx
    ·refine⟨k+1,by omega,rfl,⟨by omega,?_⟩,hs⟩
     rw[htw,drop_cons hy,List.takeWhile_cons,if_pos (by simpa using hc),AO hy];simp
    have hins:=Te htw (by rw[drop_cons hy,List.takeWhile_cons,if_neg (by simpa using hc)]) hk;replace hs:=DA hs 1;refine OS hs 0 1 (xs:=[]) (ys:=out) rfl rfl (by omega) (by simp;omega) Bk fun v1 σ hs=>?_
    conv=>whnf
    repeat'((first|apply dr|refine rk ?_ ?_|exact fun s e=>by cases e;rfl|refine aq fun v σ hs hsl=>?_|refine dQ ?_|fail)<;>conv=>whnf)
    refine IP (by assumption) (OS hs 0 1 (xs:=([]++(out.drop 0).take (BG k).toNat)++[z]) (ys:=out) rfl rfl (by omega) (by simp;omega) Bk fun v1 σ hs hsl=>?_)
    conv=>whnf
    repeat'((first|(apply si;intro A B Y Z)|(apply Y;clear Z B Y A)|(apply U;clear U K)|apply dr|refine⟨rfl,?_⟩|clear U K)<;>conv=>whnf)
    refine⟨hlt,(v1,Gx z out),rfl,⟨hsr.symm,by rw[Lv];omega,fun h=>by omega,fun _=>hsl⟩,?_⟩;rw[hins]
    have e:([]++(out.drop 0).take (BG k).toNat)++[z]++(out.drop (BG k).toNat).take (((iL out).length:Int) - BG k).toNat=out.take k++z::out.drop k:=by
     have e1:(out.drop k).take (((iL out).length:Int) - BG k).toNat=out.drop k:=List.take_of_length_le (by rw[oR];omega);rw[show(BG k).toNat=k by omega,e1];simp
    rw[e]at hs;exact hs.less (.cons₂ _ (NT _))
   ·have hins:=Te htw (by rw[As hke];rfl) hk
    conv=>whnf
    repeat'((first|apply st|(apply sq;intro K U)|(apply si;intro A B Y Z)|(apply Y;clear Z B Y A)|(apply U;clear U K)|apply dr|refine⟨rfl,?_⟩|refine ix ?_|refine lo ?_|(refine Dl (fun hc=>?_)<;>(try rw[hc])<;>clear hc)|refine oo ?_|refine dQ ?_|clear U K)<;>conv=>whnf)
    replace hs:=DA hs 1;refine OS hs 0 1 (xs:=[]) (ys:=out) rfl rfl (by omega) (by simp;omega) Bk fun v1 σ hs=>?_
    conv=>whnf
    repeat'((first|apply dr|refine rk ?_ ?_|exact fun s e=>by cases e;rfl|refine aq fun v σ hs hsl=>?_|refine dQ ?_|fail)<;>conv=>whnf)
    refine IP (by assumption) (OS hs 0 1 (xs:=([]++(out.drop 0).take (BG k).toNat)++[z]) (ys:=out) rfl rfl (by omega) (by simp;omega) Bk fun v1 σ hs hsl=>?_)
    conv=>whnf
    repeat'((first|(apply si;intro A B Y Z)|(apply Y;clear Z B Y A)|(apply U;clear U K)|apply dr|refine⟨rfl,?_⟩|clear U K)<;>conv=>whnf)
    refine⟨hlt,(v1,Gx z out),rfl,⟨hsr.symm,by rw[Lv];omega,fun h=>by omega,fun _=>hsl⟩,?_⟩;rw[hins]
    have e:([]++(out.drop 0).take (BG k).toNat)++[z]++(out.drop (BG k).toNat).take (((iL out).length:Int) - BG k).toNat=out.take k++z::out.drop k:=by
     have e1:(out.drop k).take (((iL out).length:Int) - BG k).toNat=out.drop k:=List.take_of_length_le (by rw[oR];omega);rw[show(BG k).toNat=k by omega,e1];simp
    rw[e]at hs;exact hs.less (.cons₂ _ (NT _))
 ·conv=>whnf
  repeat'((first|apply st|(apply sq;intro K U)|(apply si;intro A B Y Z)|(apply Y;clear Z B Y A)|(apply U;clear U K)|refine⟨rfl,?_⟩|(refine Dl (fun hc=>?_)<;>(try rw[hc])<;>clear hc)|clear U K)<;>conv=>whnf)
  rw[hie,List.take_length]at ho;rw[←ho];exact Al (hs.GX 0 rfl)
end Go.Gl
namespace Go.Gl
open Go.Proofs
attribute [local irreducible] BC Aw Ai AV AM Ah AU AW AN Ag AQ AS A3 BA Sat Ab A8 Ak W
def KG (A:Int→Int→Bool) (l:List Int) (i k:Nat):Bool:=(List.range k).all fun j=> !A (l.getD j 0) (l.getD i 0)
def MW (A:Int→Int→Bool) (l:List Int):Option Nat:=(List.range l.length).find? fun i=>KG A l i l.length
def DK (A:Int→Int→Bool):Nat→List Int→List Int
 | 0,_=>[]
 | k+1,l=>l.getD ((MW A l).getD 0) 0::DK A k (l.eraseIdx ((MW A l).getD 0))
def bN (A:Int→Int→Bool) (l:List Int) (i k:Nat):KG A l i (k+1)=(KG A l i k&& !A (l.getD k 0) (l.getD i 0)):=by
 rw[KG,List.range_succ,List.all_append,KG];simp
def xc (p:Nat→Bool) (n:Nat) (i a:Int):Prop:=(a=0∧ ∀t:Nat,i<t→t<n→p t=false)∨ ∃b:Nat,a=b∧i<b∧b<n∧p b=true∧ ∀t:Nat,i<t→t<b→p t=false
def mS {p:Nat→Bool} {n:Nat} {a:Int} (h:xc p n (-1) a):a=(((List.range n).find? p).getD 0:Nat):=by
 rcases h with⟨h1,h2⟩|⟨b,h1,-,h3,h4,h5⟩
 ·rw[List.find?_range_eq_none.2 fun t ht=>by rw[h2 t (by omega) ht];rfl]
  exact h1
 ·rw[List.find?_range_eq_some.2 ⟨h4,List.mem_range.2 h3,fun t ht=>by rw[h5 t (by omega) ht];rfl⟩]
  exact h1
def ic {p:Nat→Bool} {n:Nat} {i:Nat} {a:Int} (h:xc p n i a) (hi:i<n):xc p n ((i:Int) - 1) (if p i then(i:Int)else a):=by
 cases hp:p i
 ·rw[if_neg (by decide)]
  rcases h with⟨h1,h2⟩|⟨b,h1,h2,h3,h4,h5⟩
  ·refine .inl ⟨h1,fun t ht hn=>?_⟩
   by_cases e:t=i
   ·rw[e];exact hp
   ·exact h2 t (by omega) hn
  ·refine .inr ⟨b,h1,by omega,h3,h4,fun t ht hb=>?_⟩
   by_cases e:t=i
   ·rw[e];exact hp
   ·exact h5 t (by omega) hb
 ·rw[if_pos rfl]
  exact .inr ⟨i,rfl,by omega,hi,hp,fun t h1 h2=>by omega⟩
set_option maxHeartbeats 4000000 in
def SS (T : List (List Bool)) (l:List Int) (f:Bool) (h:Iy T (Cv l)) (hl16:l.length≤16):Pure Tryz.prog 276 [oV T,.l (iL l) f] (.l (iL (DK (Di T) (Cv l).length (Cv l))) false):=by
 have hM:=Mx;have c1:=pS l f hl16;refine sm kZ ?_;have hs:=Sn
 conv=>whnf
 repeat'((first|apply st|(apply sq;intro K U)|(apply si;intro A B Y Z)|(apply Y;clear Z B Y A)|(apply U;clear U K)|refine c1.use ?_|fail)<;>conv=>whnf)
 clear c1
 refine EA (fun(x:List Int×Bool×V×List Int)=>x.1.length) (fun x=>[(1,.l (iL x.1) x.2.1),(5,x.2.2.1)]) (fun x=>[.own x.2.2.1 1 (iL x.2.2.2)])
  (fun x=>Iy T x.1∧x.2.2.2.length+x.1.length≤16∧DK (Di T) (Cv l).length (Cv l)=x.2.2.2++DK (Di T) x.1.length x.1) (Cv l,false,.l [] true,[]) rfl ⟨h,by simpa using h.many,by simp⟩ (EM hs 1) ?_
 clear hs;rintro⟨l',f',v,out⟩ σ ⟨ho,hlen,hm⟩ hs;dsimp only at ho hlen hm hs;dsimp only;have hll:out.length<Ad∧(out.length+1)*8≤140737488355328:=by omega
 by_cases hz:l'.length=0
 ·conv=>whnf
  repeat'((first|apply st|(apply sq;intro K U)|(apply si;intro A B Y Z)|(apply Y;clear Z B Y A)|(apply U;clear U K)|refine⟨rfl,?_⟩|(constructor<;>intro hc<;>(try rw[hc])<;>(replace hc:=bp hc)<;>(try simp(disch:=omega) only[A9,wrap64,AK]at hc)<;>try(exfalso;omega))|clear U K)<;>conv=>whnf)
  rw[hz]at hm;simp only[DK,Im]at hm;rw[hm];exact Al (hs.GX 0 rfl)
 ·obtain⟨n,hn⟩: ∃n,l'.length=n+1:=⟨l'.length - 1,by omega⟩
  rw[hn,DK]at hm;have hm16:=ho.many
  conv=>whnf
  repeat'((first|apply st|(apply sq;intro K U)|(apply si;intro A B Y Z)|(apply Y;clear Z B Y A)|(apply U;clear U K)|refine⟨rfl,?_⟩|(constructor<;>intro hc<;>(try rw[hc])<;>(replace hc:=bp hc)<;>(try simp(disch:=omega) only[A9,wrap64,AK]at hc)<;>try(exfalso;omega))|fail)<;>conv=>whnf)
  refine EA (fun x:Int×Int=>(x.2+1).toNat) (fun x=>[(6,eI x.1),(7,eI x.2)]) (fun _=>[.own v 1 (iL out)]) (fun x=> -1≤x.2∧x.2<l'.length∧xc (fun i=>KG (Di T) l' i l'.length) l'.length x.2 x.1) (0,IntKind.i64.wrap ((iL l').length - 1)) rfl (by
   have e:((iL l').length:Int)=l'.length:=by simp
   have e2:IntKind.i64.wrap ((iL l').length - 1)=(l'.length:Int) - 1:=by rw[e,wrap64 (by omega) (by omega)]
   dsimp only;rw[e2]
   exact⟨by omega,by omega,.inl ⟨rfl,fun t h1 h2=>by omega⟩⟩) hs ?_
  clear hs;rintro⟨a,i⟩ σ ⟨hi1,hi2,hok⟩ hs;dsimp only at hi1 hi2 hok hs;dsimp only;by_cases hneg:i<0
  ·obtain rfl:i= -1:=by omega
   have hae:=mS hok;rw[show(List.range l'.length).find? (fun i=>KG (Di T) l' i l'.length)=MW (Di T) l' from rfl]at hae
   have hj:(MW (Di T) l').getD 0<l'.length:=by
    cases h:MW (Di T) l' with
    | none=>exact Nat.pos_of_ne_zero hz
    | some j=>simpa using List.mem_of_find?_eq_some h
   generalize (MW (Di T) l').getD 0=j at *;subst hae;have c2:=Pq l' f' j hj ho.many;obtain⟨x,hx⟩: ∃x,l'[j]? =some x:=⟨_,C7 hj⟩
   have hel:=List.length_eraseIdx_of_lt hj;rw[By hx]at hm
   conv=>whnf
   repeat'((first|apply st|(apply sq;intro K U)|(apply si;intro A B Y Z)|(apply Y;clear Z B Y A)|(apply U;clear U K)|refine⟨rfl,?_⟩|refine HI ?_|refine aq fun v σ hs hsl=>?_|refine c2.use ?_|(constructor<;>intro hc<;>(try rw[hc])<;>(replace hc:=bp hc)<;>try(exfalso;omega))|clear U K)<;>conv=>whnf)
   refine⟨(l'.eraseIdx j,false,v,out++[x]),by dsimp only;omega,rfl,⟨ho.less j,by simp;omega,?_⟩,hs⟩;dsimp only;rw[hm,hel,show l'.length - 1=n by omega];simp
  ·have hpos:0≤i:=by omega
   obtain⟨x,hx⟩: ∃x,l'[i.toNat]? =some x:=⟨_,C7 (by omega)⟩
   have hxi:=ho.ins x (B9 hx)
   conv=>whnf
   repeat'((first|apply st|(apply sq;intro K U)|(apply si;intro A B Y Z)|(apply Y;clear Z B Y A)|(apply U;clear U K)|refine⟨rfl,?_⟩|(constructor<;>intro hc<;>(try rw[hc])<;>(replace hc:=bp hc)<;>try(exfalso;omega))|fail)<;>conv=>whnf)
   refine CA l'.length (fun k (b:Bool)=>[(8,.b b),(9,eI (BG k))]) (fun _ _=>[.own v 1 (iL out)]) (fun k b=>b=KG (Di T) l' i.toNat k) true rfl rfl hs ?_;clear hs;rintro k b σ hk hb hs;rcases BI l' hk with⟨y,hy,hklt⟩|hke
   ·have hyi:=ho.ins y (B9 hy)
    obtain⟨r,hr,hry⟩:=nN ho hyi hxi;have hsu:=bN (Di T) l' i.toNat k;rw[By hx,By hy,←hb]at hsu;have hck:BG k=k:=AK (by omega);have hrl:=ho.sq r (B9 hr);cases b
    ·conv=>whnf
     repeat'((first|apply st|(apply sq;intro K U)|(apply si;intro A B Y Z)|(apply Y;clear Z B Y A)|(apply U;clear U K)|apply dr|refine⟨rfl,?_⟩|(refine CU (fun hc=>?_)<;>(try rw[hc])<;>clear hc)|clear U K)<;>conv=>whnf)
     exact⟨hklt,false,rfl,(hsu.trans (by simp)).symm,hs⟩
    ·conv=>whnf
     repeat'((first|apply st|(apply sq;intro K U)|(apply si;intro A B Y Z)|(apply Y;clear Z B Y A)|(apply U;clear U K)|apply dr|refine⟨rfl,?_⟩|refine ix ?_|refine HI ?_|(refine CU (fun hc=>?_)<;>(try rw[hc])<;>clear hc)|clear U K)<;>conv=>whnf)
     exact⟨hklt,!Di T y x,rfl,(hsu.trans (by simp)).symm,hs⟩
   ·have hwi:IntKind.i64.wrap (i - 1)=i - 1:=wrap64 (by omega) (by omega)
    have hst:=ic (i:=i.toNat) (by rw[Int.toNat_of_nonneg hpos];exact hok) (by omega);rw[hke]at hb;rw[Int.toNat_of_nonneg hpos,←hb]at hst
    conv=>whnf
    repeat'((first|apply st|(apply sq;intro K U)|(apply si;intro A B Y Z)|(apply Y;clear Z B Y A)|(apply U;clear U K)|refine⟨rfl,?_⟩|(refine Dl (fun hc=>?_)<;>(try rw[hc])<;>clear hc)|(constructor<;>intro hc<;>(try rw[hc])<;>(replace hc:=bp hc))|clear U K)<;>conv=>whnf)
    ·rw[hc,if_pos rfl]at hst
     exact⟨(i,IntKind.i64.wrap (i - 1)),by dsimp only;omega,rfl,by dsimp only;rw[hwi];exact⟨by omega,by omega,hst⟩,hs⟩
    ·rw[hc,if_neg (by decide)]at hst
     exact⟨(a,IntKind.i64.wrap (i - 1)),by dsimp only;omega,rfl,by dsimp only;rw[hwi];exact⟨by omega,by omega,hst⟩,hs⟩
end Go.Gl
namespace Go.Gl
open Go.Proofs
def Sat.oks {σ:AH} {l:List At} (h:Sat σ l) {a:At} (ha:a∈l):a.ok σ:=h.1 a ha
def jR {σ:AH} {v vf:V} {Q:R→AH→Prop} (hf:FV σ emp v vf) (hq:Q (.ret vf) emp):Aw σ v Q:=⟨vf,emp,fun n o ho=>(by cases ho),hf,hq⟩
structure Hid (p:Prop):Prop where
 un:p
attribute [local irreducible] BC Aw Ai AV AM Ah AU AW AN Ag AQ AS A3 BA Sat Ab A8 Ak W
abbrev RW:=Nat×List Bool
abbrev K4 (n:Nat) (r:RW):List V:=[.sl r.1 n n]
abbrev Eg (n:Nat) (r:RW):At:= .own (.sl r.1 n n) 1 (bL r.2)
def ZQ (n:Nat):FD (K4 n) 1:=fun r=>⟨rfl,fun v hv=>by rw[Kz.1 hv];rfl⟩
abbrev jT (n:Nat) (v6 v7:V) (R6 R7:List RW):List At:= .own v6 1 (R6.map (K4 n)):: .own v7 1 (R7.map (K4 n))::(R6.map (Eg n)++R7.map (Eg n))
def gP {n:Nat} {v6 v7:V} {R6 R7:List RW} {r6 r7:RW}:List.Perm (Eg n r7::Eg n r6:: .own v6 1 ((R6++[r6]).map (K4 n)):: .own v7 1 ((R7++[r7]).map (K4 n))::(R6.map (Eg n)++R7.map (Eg n))) (jT n v6 v7 (R6++[r6]) (R7++[r7])):=by
 have e:(R6++[r6]).map (Eg n)++(R7++[r7]).map (Eg n)=R6.map (Eg n)++(Eg n r6::(R7.map (Eg n)++[Eg n r7])):=by simp
 have h1:((R6++[r6]).map (Eg n)++(R7++[r7]).map (Eg n)).Perm (Eg n r7::Eg n r6::(R6.map (Eg n)++R7.map (Eg n))):=by
  rw[e];refine List.perm_middle.trans (.trans (.cons _ ?_) (.swap _ _ _));rw[←Wd];exact List.perm_append_singleton _ _
 exact((Qu (l₁:=[Eg n r7,Eg n r6]) (l₂:=[_,_])).append_right _).trans (.cons _ (.cons _ h1.symm))
def Jv (R:List RW):List (List Bool):=R.map fun r=>r.2
def D5 {l:List Int} {k:Nat} (h:k<l.length):l.getD k 0∈l:=by
 rw[DZ,C7 h];exact List.getElem_mem h
structure Qd (n:Nat) (R:List RW):Prop where
 len:R.length=n
 row: ∀r∈R,r.2.length=n
def Qd.put {n:Nat} {R:List RW} {r:RW} (h:Qd n R) {j k:Nat} {b:Bool} (hr:R[j]? =some r):Qd n (R.set j (r.1,r.2.set k b)):=by
 refine⟨by rw[List.length_set];exact h.len,fun q hq=>?_⟩;rcases List.mem_or_eq_of_mem_set hq with hq|rfl
 ·exact h.row q hq
 ·rw[List.length_set];exact h.row r (B9 hr)
def W5 {n:Nat} {R:List RW} {r:RW} (h:Qd n R) {j k:Nat} {b:Bool} (hr:R[j]? =some r) (hk:k<n) (u v:Int):Di (Jv (R.set j (r.1,r.2.set k b))) u v=if u.toNat=j∧v.toNat=k then b else Di (Jv R) u v:=by
 have hj:j<R.length:=(IS.1 hr).1;have hl:=h.row r (B9 hr);rw[Di,Di,Jv,List.map_set];rw[DZ (l:=(R.map fun r=>r.2).set j _)];by_cases hu:u.toNat=j
 ·rw[hu,List.getElem?_set_self (by simpa using hj),Option.getD_some,EI (by omega)]
  have e:(Jv R).getD j []=r.2:=by rw[Jv,DZ,MP,hr];rfl
  by_cases hv:v.toNat=k
  ·rw[if_pos hv,if_pos ⟨rfl,hv⟩]
  ·rw[if_neg hv,if_neg fun h=>hv h.2,e]
 ·rw[List.getElem?_set_ne (fun h=>hu h.symm),if_neg fun h=>hu h.1,←DZ]
  rfl
def iO {σ:AH} {n:Nat} {v6:V} {R:List RW} {r r':RW} {j:Nat} {B:At} {AA X:List At} (hr:R[j]? =some r) (he:r'.1=r.1) (hs:Sat σ (Eg n r'::B:: .own v6 1 (R.map (K4 n))::(AA++(R.map (Eg n)++X).eraseIdx j))):Sat σ (B:: .own v6 1 ((R.set j r').map (K4 n))::(AA++((R.set j r').map (Eg n)++X))):=by
 have hj:j<R.length:=(IS.1 hr).1
 have e1:(R.set j r').map (K4 n)=R.map (K4 n):=by
  rw[List.map_set];refine List.ext_getElem? fun i=>?_
  by_cases hi:j=i
  ·subst hi
   rw[List.getElem?_set_self (by simpa using hj),MP,hr];simp only[Wi,K4,he]
  ·rw[List.getElem?_set_ne hi]
 have e2:(R.set j r').map (Eg n)++X=(R.map (Eg n)++X).set j (Eg n r'):=by
  rw[List.map_set,List.set_append_left _ _ (by simpa using hj)]
 rw[e1,e2]
 have hp:((R.map (Eg n)++X).set j (Eg n r')).Perm (Eg n r'::(R.map (Eg n)++X).eraseIdx j):=by
  have:=IE (l:=(R.map (Eg n)++X).set j (Eg n r')) (j:=j) (a:=Eg n r') (List.getElem?_set_self (by rw[Qv,A9];omega))
  rwa [List.eraseIdx_set_eq]at this
 refine hs.perm (List.Perm.trans ?_ (.cons _ (.cons _ ((hp.symm).append_left AA))));exact((Qu (l₁:=[Eg n r']) (l₂:=B:: .own v6 1 (R.map (K4 n))::AA)).append_right _).trans (by simp)
def nM {R:List RW} {r:RW} {m n:Nat} {b:Bool} (hr:R[m]? =some r) (hb:r.2[n]? =some b):Di (Jv R) m n=b:=by
 simp only[Di,Jv,Iv,DZ,MP,hr,Wi,Option.getD_some,hb]
def R2 {n:Nat} {v7:V} {R Q:List RW} {r r':RW} {j:Nat} {B AF:At} (hr:Q[j]? =some r) (he:r'.1=r.1):(B::AF:: .own v7 1 (Q.map (K4 n))::(R.map (Eg n)++Q.map (Eg n))).set (R.length+j+3) (Eg n r')=B::AF:: .own v7 1 ((Q.set j r').map (K4 n))::(R.map (Eg n)++(Q.set j r').map (Eg n)):=by
 have e1:(Q.set j r').map (K4 n)=Q.map (K4 n):=by
  have hj:j<Q.length:=(IS.1 hr).1;rw[List.map_set];refine List.ext_getElem? fun i=>?_
  by_cases hi:j=i
  ·subst hi
   rw[List.getElem?_set_self (by simpa using hj),MP,hr];simp only[Wi,K4,he]
  ·rw[List.getElem?_set_ne hi]
 rw[e1];show B::AF:: .own v7 1 (Q.map (K4 n))::(R.map (Eg n)++Q.map (Eg n)).set (R.length+j) (Eg n r')=_;rw[List.set_append_right _ _ (by rw[A9];omega),A9,show R.length+j - R.length=j by omega,List.map_set]
def PX {σ:AH} {n:Nat}: ∀Q:List RW,(∀r∈Q,(Eg n r).ok σ)→E6 σ emp (Q.map (K4 n)) ((Jv Q).map fun r=>[.l (bL r) false])
 | [],_=> .nil
 | r ::s,h=>by
   refine .cons (.cons ?_ .nil) (PX s fun q hq=>h q (.tail _ hq));rcases h r (.head _)with⟨e,_⟩|⟨m,cap,e,hm⟩
   ·cases e
   ·injection e with e1 e2 e3
    subst e1 e3;exact .arr hm rfl e2 (.refl _ _ _)
def qs {σ:AH} {n:Nat} {v:V} {Q:List RW} (hv:(At.own v 1 (Q.map (K4 n))).ok σ) (h: ∀r∈Q,(Eg n r).ok σ):FV σ emp v (oV (Jv Q)):=by
 rcases hv with⟨rfl,_⟩|⟨m,cap,rfl,hm⟩
 ·exact .l (fun h=>by cases h) (PX Q h)
 ·exact .arr hm rfl rfl (PX Q h)
set_option maxHeartbeats 4000000 in
def jK (p : Prog) (l:List Int) (f:Bool) (hok:EN p) (hl16:l.length≤16) (hin: ∀x∈l,BQ p x=true):Bj Tryz.prog 136 [.a (BR p),.l (iL l) f] [] fun r post=>post= []∧ ∃T,r= .ret (oV T)∧Iy T l∧ ∀x∈l,∀y∈l,Dv p x y=true→Di T x y=A1 p x y:=by
 refine Bj.fit (by kernel_rfl) fun hf=>?_
 intro σ hs;have⟨p1,p2,p3,p4⟩:=Er hf.1;have hM:=Mx;have h16:=hok.many;have F:=HV hf.1;have c1:=OF p F hok.nf hok.AJ;refine uJ kZ ?_
 conv=>whnf
 repeat'((first|apply st|(apply sq;intro K U)|(apply si;intro A B Y Z)|(apply Y;clear Z B Y A)|(apply U;clear U K)|refine⟨kZ,?_⟩|refine Cw fun σ hs=>?_|refine c1.use ?_|(intro nn hnn;generalize hg:A0 _ nn _=σ;refine CZ hg fun hs=>?_;clear hg)|fail)<;>conv=>whnf)
 replace hs:=Sat.front (j:=2) (DA (DA hs 1) 1) rfl;refine CA p.methods.length (fun m (x:V×V×List RW×List RW)=>[(6,x.1),(7,x.2.1),(8,eI (BG m))]) (fun _ x=> .box nn (A7 (AR p))::jT p.methods.length x.1 x.2.1 x.2.2.1 x.2.2.2) (fun m x=>x.2.2.1.length=m∧x.2.2.2.length=m∧(∀r∈x.2.2.1,r.2=List.replicate p.methods.length false)∧ ∀r∈x.2.2.2,r.2=List.replicate p.methods.length false) (.l [] true,.l [] true,[],[]) rfl ⟨rfl,rfl,fun r h=>(by cases h),fun r h=>(by cases h)⟩ hs ?_;clear hs hnn;rintro m ⟨v6,v7,R6,R7⟩ σ hm ⟨h6,h7,ha6,ha7⟩ hs;dsimp only at h6 h7 ha6 ha7 hs;dsimp only;rcases BI p.methods hm with⟨x,hx,hlt⟩|hme
 ·have hll6:R6.length<Ad∧(R6.length+1)*24≤140737488355328:=by omega
  have hll7:R7.length<Ad∧(R7.length+1)*24≤140737488355328:=by omega
  conv=>whnf
  repeat'((first|apply st|(apply sq;intro K U)|(apply si;intro A B Y Z)|(apply Y;clear Z B Y A)|(apply U;clear U K)|refine⟨rfl,?_⟩|(refine CU (fun hc=>?_)<;>(try rw[hc])<;>clear hc)|fail)<;>conv=>whnf)
  simp only[A9];refine ju hs (Iu _) (by omega) fun u6 σ hs hu6=>?_
  obtain⟨a6,rfl⟩:=hu6
  conv=>whnf
  repeat'((first|apply st|(apply si;intro A B Y Z)|(apply Y;clear Z B Y A)|(apply U;clear U K)|refine aq (enc:=K4 p.methods.length) (x:=((_:Nat),List.replicate p.methods.length false)) (fun v σ hs hsl=>?_) (hg:=ZQ _)|fail)<;>conv=>whnf)
  rename V=>w6
  simp only[A9];refine ju hs (Iu _) (by omega) fun u7 σ hs hu7=>?_
  obtain⟨a7,rfl⟩:=hu7
  conv=>whnf
  repeat'((first|(apply si;intro A B Y Z)|(apply Y;clear Z B Y A)|(apply U;clear U K)|refine⟨rfl,?_⟩|refine aq (enc:=K4 p.methods.length) (x:=((_:Nat),List.replicate p.methods.length false)) (fun v σ hs hsl=>?_) (hg:=ZQ _)|clear U K)<;>conv=>whnf)
  refine⟨hlt,(w6,v,R6++[(a6,List.replicate p.methods.length false)],R7++[(a7,List.replicate p.methods.length false)]),rfl,⟨by simp;omega,by simp;omega,fun r hr=>?_,fun r hr=>?_⟩,?_⟩
  ·rcases E7.1 hr with hr|hr
   ·exact ha6 r hr
   ·rw[Kz.1 hr]
  ·rcases E7.1 hr with hr|hr
   ·exact ha7 r hr
   ·rw[Kz.1 hr]
  ·refine Sat.perm ?_ (((Qu (l₁:=[_,_]) (l₂:=[_])).append_right _).trans (.cons _ gP))
   have hbl:bL (List.replicate p.methods.length false)=List.replicate p.methods.length [V.b false]:=by simp[bL]
   dsimp only[Eg];rw[hbl];exact hs
 ·conv => whnf
  repeat'((first|apply st|(apply sq;intro K U)|(apply si;intro A B Y Z)|(apply Y;clear Z B Y A)|(apply U;clear U K)|refine⟨rfl,?_⟩|(refine Dl (fun hc=>?_)<;>(try rw[hc])<;>clear hc)|clear U K)<;>conv=>whnf)
  have hs2:=hs;refine CA l.length (fun i (R:List RW)=>[(9,eI (BG i))]) (fun _ R=> .box nn (A7 (AR p))::jT p.methods.length v6 v7 R R7) (fun i R=>Qd p.methods.length R∧ ∀i' k',i'<i→k'<l.length→Dv p (l.getD i' 0) (l.getD k' 0)=true→Di (Jv R) (l.getD i' 0) (l.getD k' 0)=F8 p (l.getD i' 0) (l.getD k' 0)) R6 rfl ⟨⟨by omega,fun r hr=>by rw[ha6 r hr];simp⟩,fun i' k' h=>by omega⟩ hs ?_;clear hs hs2;rintro i R σ hi ⟨G,hE⟩ hs;rcases BI l hi with⟨x,hx,hlt⟩|hie
  ·have hxm:=hin x (B9 hx)
   have hxP:=B8 hxm;have hxr:=hxm;simp only[BQ,BJ,Cn]at hxr
   conv=>whnf
   repeat'((first|apply st|(apply sq;intro K U)|(apply si;intro A B Y Z)|(apply Y;clear Z B Y A)|(apply U;clear U K)|refine⟨rfl,?_⟩|(refine CU (fun hc=>?_)<;>(try rw[hc])<;>clear hc)|fail)<;>conv=>whnf)
   refine CA l.length (fun k (R:List RW)=>[(10,eI (BG k))]) (fun _ R=> .box nn (A7 (AR p))::jT p.methods.length v6 v7 R R7) (fun k R=>Qd p.methods.length R∧(∀i' k',i'<i→k'<l.length→Dv p (l.getD i' 0) (l.getD k' 0)=true→Di (Jv R) (l.getD i' 0) (l.getD k' 0)=F8 p (l.getD i' 0) (l.getD k' 0))∧ ∀k',k'<k→Dv p x (l.getD k' 0)=true→Di (Jv R) x (l.getD k' 0)=F8 p x (l.getD k' 0)) R rfl ⟨G,hE,fun k' h=>by omega⟩ hs ?_;clear hs G hE R;rintro k R σ hk ⟨G,hE,hF⟩ hs;rcases BI l hk with⟨y,hy,hklt⟩|hke
   ·have hym:=hin y (B9 hy)
    have hyP:=B8 hym;have hyr:=hym;simp only[BQ,BJ,Cn]at hyr;have c2:=mz p x y hxm hym;have c3:=bc (AR p) (Bh p x).fact (Bh p y).fact hok.wok (hok.facts _ (B9 hxP)).1 (hok.facts _ (B9 hyP)).1 (hok.facts _ (B9 hxP)).2 (hok.facts _ (B9 hyP)).2;cases hal:Dv p x y<;>rw[hal]at c2
    ·conv=>whnf
     repeat'((first|apply st|(apply sq;intro K U)|(apply si;intro A B Y Z)|(apply Y;clear Z B Y A)|(apply U;clear U K)|apply dr|refine⟨rfl,?_⟩|refine⟨kZ,?_⟩|refine ix ?_|(refine CU (fun hc=>?_)<;>(try rw[hc])<;>clear hc)|refine c2.use ?_|clear U K)<;>conv=>whnf)
     refine⟨hklt,R,rfl,⟨G,hE,fun k' h=>?_⟩,hs⟩;rcases Nat.lt_or_ge k' k with h'|h'
     ·exact hF k' h'
     ·rw[show k'=k by omega,By hy,hal]
      intro e;cases e
    ·obtain⟨r,hr⟩: ∃r,R[x.toNat]? =some r:=⟨_,C7 (by have:=G.len;omega)⟩
     have hl0:=G.len;have hl1:(R.map (K4 p.methods.length)).length=p.methods.length:=by rw[A9];exact G.len
     have hl2:=G.row r (B9 hr);have hl3:(bL r.2).length=p.methods.length:=by simpa using hl2
     have hj:(At.box nn (A7 (AR p))::jT p.methods.length v6 v7 R R7)[x.toNat+3]? =some (Eg p.methods.length r):=by
      show(R.map (Eg p.methods.length)++R7.map (Eg p.methods.length))[x.toNat]? =_;rw[jS (by rw[A9];have:=G.len;omega),MP,hr];rfl
     replace hs:Sat σ (Eg p.methods.length r:: .box nn (A7 (AR p)):: .own v6 1 (R.map (K4 p.methods.length)):: .own v7 1 (R7.map (K4 p.methods.length))::(R.map (Eg p.methods.length)++R7.map (Eg p.methods.length)).eraseIdx x.toNat):=hs.front hj
     conv=>whnf
     repeat'((first|apply st|(apply sq;intro K U)|(apply si;intro A B Y Z)|(apply Y;clear Z B Y A)|(apply U;clear U K)|apply dr|refine rk ?_ ?_|exact fun s e=>by cases e;rfl|refine⟨rfl,?_⟩|refine⟨kZ,?_⟩|refine ix ?_|refine HI ?_|refine ja fun σ hs=>?_|refine ld ?_|refine oi ?_|refine Oc ?_|(refine CU (fun hc=>?_)<;>(try rw[hc])<;>clear hc)|refine c2.use ?_|refine c3.use ?_|clear U K)<;>conv=>whnf)
     have hk2:y.toNat<p.methods.length:=by omega
     have hkeep: ∀u v,BQ p u=true→BQ p v=true→Di (Jv R) u v=F8 p u v→Di (Jv (R.set x.toNat (r.1,r.2.set y.toNat (F8 p x y)))) u v=F8 p u v:=fun u v hu hv e=>by
      simp only[BQ,BJ,Cn]at hu hv;rw[W5 G hr hk2];split
      ·rename_i h
       rw[show u=x by omega,show v=y by omega]
      ·exact e
     refine⟨hklt,R.set x.toNat (r.1,r.2.set y.toNat (F8 p x y)),rfl,⟨G.put hr,fun i' k' h1 h2 h3=>?_,fun k' h1 h2=>?_⟩,iO (AA:=[_]) hr rfl hs⟩
     ·exact hkeep _ _ (hin _ (D5 (by omega))) (hin _ (D5 h2)) (hE i' k' h1 h2 h3)
     ·rcases Nat.lt_or_ge k' k with h'|h'
      ·exact hkeep _ _ hxm (hin _ (D5 (by omega))) (hF k' h' h2)
      ·rw[show k'=k by omega,By hy,W5 G hr hk2,if_pos ⟨rfl,rfl⟩]
   ·conv=>whnf
    repeat'((first|apply st|(apply sq;intro K U)|(apply si;intro A B Y Z)|(apply Y;clear Z B Y A)|(apply U;clear U K)|refine⟨rfl,?_⟩|(refine Dl (fun hc=>?_)<;>(try rw[hc])<;>clear hc)|clear U K)<;>conv=>whnf)
    refine⟨hlt,R,rfl,⟨G,fun i' k' h1 h2=>?_⟩,hs⟩;rcases Nat.lt_or_ge i' i with h'|h'
    ·exact hE i' k' h' h2
    ·rw[show i'=i by omega,By hx]
     exact hF k' (by omega)
  ·have hlR:=G.len
   have hnr:Qd p.methods.length R7:=⟨by omega,fun r hr=>by rw[ha7 r hr];simp⟩
   conv=>whnf
   repeat'((first|apply st|(apply sq;intro K U)|(apply si;intro A B Y Z)|(apply Y;clear Z B Y A)|(apply U;clear U K)|refine⟨rfl,?_⟩|(refine Dl (fun hc=>?_)<;>(try rw[hc])<;>clear hc)|clear U K)<;>conv=>whnf)
   refine CA p.methods.length (fun m (Q:List RW)=>[(11,eI (BG m))]) (fun _ Q=> .box nn (A7 (AR p))::jT p.methods.length v6 v7 R Q) (fun m Q=>Qd p.methods.length Q∧ ∀m' n':Nat,m'<m→n'<p.methods.length→Di (Jv Q) m' n'=(Di (Jv R) m' n'&& !Di (Jv R) n' m')) R7 rfl ⟨hnr,fun m' n' h=>by omega⟩ hs ?_;clear hs hnr;rintro m Q σ hm ⟨hQ,hG⟩ hs;have hlQ:=hQ.len;have hl5:(Q.map (K4 p.methods.length)).length=p.methods.length:=by rw[A9];exact hlQ
   have hl6:(R.map (K4 p.methods.length)).length=p.methods.length:=by rw[A9];exact hlR
   rcases Nat.lt_or_ge m p.methods.length with hlt|hme
   ·obtain ⟨ra,hra⟩: ∃r,R[m]? =some r:=⟨_,C7 (by omega)⟩
    conv=>whnf
    repeat'((first|apply st|(apply sq;intro K U)|(apply si;intro A B Y Z)|(apply Y;clear Z B Y A)|(apply U;clear U K)|refine⟨rfl,?_⟩|refine lo ?_|(constructor<;>intro hc<;>(try rw[hc])<;>(replace hc:=bp hc)<;>(try simp(disch:=omega) only[A9,wrap64,AK]at hc)<;>try(exfalso;omega))|fail)<;>conv=>whnf)
    refine CA p.methods.length (fun n (Q:List RW)=>[(12,eI (BG n))]) (fun _ Q=> .box nn (A7 (AR p))::jT p.methods.length v6 v7 R Q) (fun n Q=>Qd p.methods.length Q∧(∀m' n':Nat,m'<m→n'<p.methods.length→Di (Jv Q) m' n'=(Di (Jv R) m' n'&& !Di (Jv R) n' m'))∧ ∀n':Nat,n'<n→Di (Jv Q) m n'=(Di (Jv R) m n'&& !Di (Jv R) n' m)) Q rfl ⟨hQ,hG,fun n' h=>by omega⟩ hs ?_;clear hs hQ hG hlQ hl5;rintro n Q σ hn ⟨hQ,hG,hI⟩ hs;have hlQ:=hQ.len;have hl5:(Q.map (K4 p.methods.length)).length=p.methods.length:=by rw[A9];exact hlQ
    rcases Nat.lt_or_ge n p.methods.length with hnlt|hne
    ·obtain⟨rb,hrb⟩: ∃r,R[n]? =some r:=⟨_,C7 (by omega)⟩
     obtain⟨rq,hrq⟩: ∃r,Q[m]? =some r:=⟨_,C7 (by omega)⟩
     have hla:=G.row ra (B9 hra);have hlb:=G.row rb (B9 hrb);have hlq:=hQ.row rq (B9 hrq);have hcm:BG m=m:=AK (by omega);have hcn:BG n=n:=AK (by omega);obtain⟨ba,hba⟩: ∃b,ra.2[n]? =some b:=⟨_,C7 (by omega)⟩
     obtain⟨bb,hbb⟩: ∃b,rb.2[m]? =some b:=⟨_,C7 (by omega)⟩
     have g1:Hid ((At.box nn (A7 (AR p))::jT p.methods.length v6 v7 R Q)[m+3]? =some (Eg p.methods.length ra)):=by
      refine .mk ?_;show(R.map (Eg p.methods.length)++Q.map (Eg p.methods.length))[m]? =_;rw[jS (by rw[A9];omega),MP,hra];rfl
     have g2:Hid ((At.box nn (A7 (AR p))::jT p.methods.length v6 v7 R Q)[n+3]? =some (Eg p.methods.length rb)):=by
      refine .mk ?_;show(R.map (Eg p.methods.length)++Q.map (Eg p.methods.length))[n]? =_;rw[jS (by rw[A9];omega),MP,hrb];rfl
     have g3:Hid ((At.box nn (A7 (AR p))::jT p.methods.length v6 v7 R Q)[R.length+m+3]? =some (Eg p.methods.length rq)):=by
      refine .mk ?_;show(R.map (Eg p.methods.length)++Q.map (Eg p.methods.length))[R.length+m]? =_;rw[List.getElem?_append_right (by rw[A9];omega),A9,show R.length+m - R.length=m by omega,MP,hrq];rfl
     have hra2:R[(BG m).toNat]? =some ra:=by rw[hcm,Iv];exact hra
     have hrb2:R[(BG n).toNat]? =some rb:=by rw[hcn,Iv];exact hrb
     have hrq2:Q[(BG m).toNat]? =some rq:=by rw[hcm,Iv];exact hrq
     have eab:=nM hra hba;have eba:=nM hrb hbb;have hput: ∀b,Qd p.methods.length (Q.set m (rq.1,rq.2.set n b)):=fun b=>hQ.put hrq
     have hnew: ∀(b:Bool) (u v:Nat),Di (Jv (Q.set m (rq.1,rq.2.set n b))) u v=if u=m∧v=n then b else Di (Jv Q) u v:=fun b u v=>by
      have:=W5 (b:=b) hQ hrq hnlt u v;simpa using this
     have hfin: ∀b,b=(ba&& !bb)→(∀m' n':Nat,m'<m→n'<p.methods.length→Di (Jv (Q.set m (rq.1,rq.2.set n b))) m' n'=(Di (Jv R) m' n'&& !Di (Jv R) n' m'))∧ ∀n':Nat,n'<n+1→Di (Jv (Q.set m (rq.1,rq.2.set n b))) m n'=(Di (Jv R) m n'&& !Di (Jv R) n' m):=fun b hb=>by
      refine⟨fun m' n' h1 h2=>?_,fun n' h1=>?_⟩
      ·rw[hnew,if_neg fun h=>by omega]
       exact hG m' n' h1 h2
      ·rw[hnew]
       split
       ·rename_i h
        rw[h.2,eab,eba,hb]
       ·exact hI n' (by omega)
     cases ba
     ·conv=>whnf
      repeat'((first|apply st|(apply sq;intro K U)|(apply si;intro A B Y Z)|(apply Y;clear Z B Y A)|(apply U;clear U K)|apply dr|refine⟨rfl,?_⟩|refine lo ?_|refine oi ?_|refine Oc ?_|refine ja (fun σ hs=>?_) (hi:=g3.un) (h1:=by omega)|refine oc ?_ (hi:=g1.un) (h1:=by rw[A9];omega)|refine oc ?_ (hi:=g3.un) (h1:=by rw[A9];omega)|refine Oc ?_ (hi:=g1.un)|(constructor<;>intro hc<;>(try rw[hc])<;>(replace hc:=bp hc)<;>(try simp(disch:=omega) only[A9,wrap64,AK]at hc)<;>try(exfalso;omega))|clear U K)<;>conv=>whnf)
      refine⟨hnlt,Q.set m (rq.1,rq.2.set n false),rfl,⟨hput _,hfin _ rfl⟩,?_⟩;refine(congrArg (Sat σ) (R2 (n:=p.methods.length) (v7:=v7) (R:=R) (B:= .box nn (A7 (AR p))) (AF:= .own v6 1 (R.map (K4 p.methods.length))) (r':=(rq.1,rq.2.set n false)) hrq rfl)).mp ?_
      first
       | exact hs
       | (rw[hcn,Iv]at hs;exact hs)
     ·conv=>whnf
      repeat'((first|apply st|(apply sq;intro K U)|(apply si;intro A B Y Z)|(apply Y;clear Z B Y A)|(apply U;clear U K)|apply dr|refine⟨rfl,?_⟩|refine lo ?_|refine oi ?_|refine Oc ?_|refine ja (fun σ hs=>?_) (hi:=g3.un) (h1:=by omega)|refine oc ?_ (hi:=g1.un) (h1:=by rw[A9];omega)|refine oc ?_ (hi:=g2.un) (h1:=by rw[A9];omega)|refine oc ?_ (hi:=g3.un) (h1:=by rw[A9];omega)|refine Oc ?_ (hi:=g1.un)|refine Oc ?_ (hi:=g2.un)|(constructor<;>intro hc<;>(try rw[hc])<;>(replace hc:=bp hc)<;>(try simp(disch:=omega) only[A9,wrap64,AK]at hc)<;>try(exfalso;omega))|clear U K)<;>conv=>whnf)
      refine⟨hnlt,Q.set m (rq.1,rq.2.set n (!bb)),rfl,⟨hput _,hfin _ rfl⟩,?_⟩;refine(congrArg (Sat σ) (R2 (n:=p.methods.length) (v7:=v7) (R:=R) (B:= .box nn (A7 (AR p))) (AF:= .own v6 1 (R.map (K4 p.methods.length))) (r':=(rq.1,rq.2.set n (!bb))) hrq rfl)).mp ?_
      first
       | exact hs
       | (rw[hcn,Iv]at hs;exact hs)
    ·conv=>whnf
     repeat'((first|apply st|(apply sq;intro K U)|(apply si;intro A B Y Z)|(apply Y;clear Z B Y A)|(apply U;clear U K)|refine⟨rfl,?_⟩|refine lo ?_|(constructor<;>intro hc<;>(try rw[hc])<;>(replace hc:=bp hc)<;>(try simp(disch:=omega) only[A9,wrap64,AK]at hc)<;>try(exfalso;omega))|clear U K)<;>conv=>whnf)
     refine⟨hlt,Q,rfl,⟨hQ,fun m' n' h1 h2=>?_⟩,hs⟩;rcases Nat.lt_or_ge m' m with h'|h'
     ·exact hG m' n' h' h2
     ·rw[show m'=m by omega]
      exact hI n' (by omega)
   ·conv=>whnf
    repeat'((first|apply st|(apply sq;intro K U)|(apply si;intro A B Y Z)|(apply Y;clear Z B Y A)|(apply U;clear U K)|refine⟨rfl,?_⟩|refine lo ?_|(constructor<;>intro hc<;>(try rw[hc])<;>(replace hc:=bp hc)<;>(try simp(disch:=omega) only[A9,wrap64,AK]at hc)<;>try(exfalso;omega))|clear U K)<;>conv=>whnf)
    have hrow: ∀r∈Q,(Eg p.methods.length r).ok σ:=fun r hr=>hs.oks (.tail _ (.tail _ (.tail _ (Se _ (MN.2 ⟨r,hr,rfl⟩)))))
    refine jR (qs (hs.oks (.tail _ (.tail _ (.head _)))) hrow) ⟨[],⟨rfl,_,rfl,?_,fun x hx y hy hal=>?_⟩,Sat.nil⟩
    ·have hlT:(Jv Q).length=p.methods.length:=by rw[Jv,A9];exact hlQ
     refine⟨by omega,fun r hr=>?_,fun x hx=>?_,hl16⟩
     ·obtain⟨q,hq,rfl⟩:=MN.1 hr
      rw[hlT];exact hQ.row q hq
     ·have:=hin x hx
      simp only[BQ,BJ,Cn]at this;rw[hlT];omega
    ·have mx:=hin x hx
     have my:=hin y hy;simp only[BQ,BJ,Cn]at mx my
     have hal2:Dv p y x=true:=by
      simp only[Dv,BJ,D9]at hal ⊢;exact⟨hal.1.symm,hal.2.symm⟩
     obtain⟨a,ha,rfl⟩:=List.getElem_of_mem hx;obtain⟨b,hb,rfl⟩:=List.getElem_of_mem hy;have e1:l.getD a 0=l[a]:=By (C7 ha);have e2:l.getD b 0=l[b]:=By (C7 hb);have h1:=hE a b (by omega) hb;have h2:=hE b a (by omega) ha;rw[e1,e2]at h1 h2;have h3:=hG l[a].toNat l[b].toNat (by omega) (by omega);rw[Int.toNat_of_nonneg mx.1,Int.toNat_of_nonneg my.1,h1 hal,h2 hal2]at h3;exact h3
end Go.Gl
namespace Go.Gl
open Go.Proofs
attribute [local irreducible] BC Aw Ai AV AM Ah AU AW AN Ag AQ AS A3 BA Sat Ab A8 Ak W
def Kv {f g:Nat→Bool}: ∀ {l:List Nat},(∀x∈l,f x=g x)→l.all f=l.all g
 | [],_=>rfl
 | x::r,h=>by rw[NS,NS,h x (.head _),Kv fun y hy=>h y (.tail _ hy)]
def XV {A B:Int→Int→Bool} {l:List Int} (h: ∀x∈l,∀y∈l,A x y=B x y) {i:Nat} (hi:i<l.length):Gt A l i l.length=Gt B l i l.length:=by
 rw[Gt,Gt];refine Kv fun k hk=>?_
 rw[h _ (D5 hi) _ (D5 (List.mem_range.1 hk))]
def find_congr {f g:Nat→Bool}: ∀ {l:List Nat},(∀x∈l,f x=g x)→l.find? f=l.find? g
 | [],_=>rfl
 | x::r,h=>by
   rw[List.find?_cons,List.find?_cons,h x (.head _),find_congr fun y hy=>h y (.tail _ hy)]
def T2 {A B:Int→Int→Bool} {l:List Int} (h: ∀x∈l,∀y∈l,A x y=B x y):ES A l=ES B l:=
 find_congr fun i hi=>XV h (List.mem_range.1 hi)
def MI {A B:Int→Int→Bool}: ∀(k:Nat) (l:List Int),(∀x∈l,∀y∈l,A x y=B x y)→Bc A k l=Bc B k l
 | 0,_,_=>rfl
 | k + 1,l,h=>by
   rw[Bc,Bc,T2 h];cases ES B l with
   | none=>rfl
   | some i=>
     dsimp only;rw[MI k (l.eraseIdx i) fun x hx y hy=>h x (List.mem_of_mem_eraseIdx hx) y (List.mem_of_mem_eraseIdx hy)]
def Xm {A B:Int→Int→Bool} {l:List Int} (h: ∀x∈l,∀y∈l,A x y=B x y):MW A l=MW B l:=
 find_congr fun i hi=>by
  rw[KG,KG];refine Kv fun k hk=>?_
  rw[h _ (D5 (List.mem_range.1 hk)) _ (D5 (List.mem_range.1 hi))]
def QV {A B:Int→Int→Bool}: ∀(k:Nat) (l:List Int),(∀x∈l,∀y∈l,A x y=B x y)→DK A k l=DK B k l
 | 0,_,_=>rfl
 | k+1,l,h=>by
   rw[DK,DK,Xm h,QV k (l.eraseIdx _) fun x hx y hy=>h x (List.mem_of_mem_eraseIdx hx) y (List.mem_of_mem_eraseIdx hy)]
def PT {x y:Int} {out:List Int}:y∈Gx x out↔y=x∨y∈out:=by
 have h:=List.takeWhile_append_dropWhile (p:=fun y=>decide (y<x)) (l:=out);rw[Gx];constructor
 ·intro hy
  rcases E7.1 hy with hy|hy
  ·right;rw[←h];exact Qw _ hy
  ·rcases F6.1 hy with rfl|hy
   ·exact .inl rfl
   ·right;rw[←h];exact Se _ hy
 ·rintro(rfl|hy)
  ·exact Se _ (.head _)
  ·rw[←h]at hy
   rcases E7.1 hy with hy|hy
   ·exact Qw _ hy
   ·exact Se _ (.tail _ hy)
def QJ: ∀(l out:List Int) (y:Int),y∈l.foldl (fun out x=>Gx x out) out↔y∈l∨y∈out
 | [],out,y=>by simp
 | x ::r,out,y=>by
   rw[List.foldl_cons,QJ r,PT,F6];constructor
   ·rintro(h|h|h)
    ·exact .inl (.inr h)
    ·exact .inl (.inl h)
    ·exact .inr h
   ·rintro((h|h)|h)
    ·exact .inr (.inl h)
    ·exact .inl h
    ·exact .inr (.inr h)
def Jj {l:List Int} {y:Int}:y∈Cv l↔y∈l:=by rw[Cv,QJ];simp
def QK: ∀(l out:List Int),(l.foldl (fun out x=>Gx x out) out).length=l.length+out.length
 | [],out=>by simp
 | x::r,out=>by rw[List.foldl_cons,QK r,Lv,K2];omega
def Rb (l:List Int):(Cv l).length=l.length:=by rw[Cv,QK];simp
structure S6 (p:Prog) (l:List Int):Prop where
 I4: ∀x∈l,BQ p x=true
 alike: ∀x∈l,∀y∈l,Dv p x y=true
 many:l.length≤16
def jb (p:Prog) (l:List Int) (kd:Bool) (x:Int):Bool:=BQ p x&&((Bh p x).gen==(Bh p (l.getD 0 0)).gen&&(!kd||Dv p x (l.getD 0 0)))
def Fj (p:Prog) (l:List Int) (kd:Bool):Bool:=l.all (jb p l kd)&&decide l.Nodup
def bT {p:Prog} {l:List Int} {kd:Bool} {i:Nat} {x:Int} (hx:l[i]? =some x) (h:jb p l kd x=false):Fj p l kd=false:=by
 rw[Fj,Bool.and_eq_false_iff];left;rw[←Bool.not_eq_true,Em];intro h2;rw[h2 x (B9 hx)]at h;cases h
def bS {p:Prog} {l:List Int} {kd:Bool} {i k:Nat} {x:Int} (hx:l[i]? =some x) (hk:l[k]? =some x) (h:k<i):Fj p l kd=false:=by
 rw[Fj,Bool.and_eq_false_iff];right;rw[decide_eq_false_iff_not];intro h2;have hi:=(IS.1 hx)
 have hj:=(IS.1 hk)
 have:=(List.nodup_iff_pairwise_ne.1 h2)
 rw[List.pairwise_iff_getElem]at this;exact this k i hj.1 hi.1 h (by rw[hj.2,hi.2])
def Xl {l:List Int} {i:Nat} {x:Int} (hx:l[i]? =some x) (h:(l.take i).Nodup) (hn: ∀k y,k<i→l[k]? =some y→y≠x):(l.take (i+1)).Nodup:=by
 rw[AO hx,List.nodup_append];refine⟨h,by simp,fun a ha b hb=>?_⟩;rw[Kz.1 hb];obtain⟨k,hk⟩:=List.getElem?_of_mem ha;rw[List.getElem?_take]at hk;split at hk
 ·exact hn k a (by assumption) hk
 ·cases hk
def PM: ∀(n:Nat) (l:List Int),l.Nodup→(∀x∈l,0≤x∧x<(n:Int))→l.length≤n
 | 0,l,_,h=>by
   cases l with
   | nil=>simp
   | cons x r=>have:=h x (.head _);omega
 | n + 1,l,hn,h=>by
   have h1:=PM n (l.erase (n:Int)) (hn.erase _) fun x hx=>by
    have hm:=(List.Nodup.mem_erase_iff hn).1 hx;have:=h x hm.2;have:=hm.1;omega
   have h2:=List.length_erase (a:=(n:Int)) (l:=l);split at h2<;>omega
abbrev pI (p:Int×Int):List V:=[eI p.1,eI p.2]
abbrev pP (l:List (Int×Int)):List (List V):=l.map pI
def Wr (p:Prog) (g:Int):Bool:=decide (0≤g)&&decide (g<(p.Dj.length:Int))
def wX (p:Prog) (g:Int):Pure Tryz.prog 87 [.a (BR p),eI g] (.b (Wr p g)):=by
 refine Pure.fit (by kernel_rfl) fun hf=>?_
 have⟨p1,p2,p3,p4⟩:=Er hf.1;refine wi kZ ?_;have hs:=Sn
 conv=>whnf
 repeat'((first|apply st|(apply sq;intro K U)|(apply si;intro A B Y Z)|(apply Y;clear Z B Y A)|(apply U;clear U K)|refine⟨rfl,?_⟩|(constructor<;>intro hc<;>(try rw[hc])<;>(replace hc:=bp hc))|fail)<;>conv=>whnf)
 all_goals exact AI (by simp[Wr, *]<;>omega)
abbrev Ob:=Int×List (Int×Int)
abbrev eOb (o:Ob):List V:=[eI o.1,.l (pP o.2) false]
end Go.Gl
namespace Go.Gl
open Go.Proofs
section
variable {H:Type} {enc:TypeId×Value→H} {W:World}
end
structure vE where
 p:Prog
 gen:Int
 ms:List Int
 cl:List Int
 st:Int
abbrev Qg (g:vE):List V:=BR g.p++([eI g.gen]++([.l (iL g.ms) false]++([.l (iL g.cl) false]++([eI g.st]++[]))))
section
variable {H:Type} {enc:TypeId×Value→H} {W:World}
def nR:UG enc Tryz.prog W 30 Qg:=fun n=>
 H2 (Fy Tryz.underlying30
  (fun n=>BU (c:=6) rfl (by kernel_rfl) (fun _=>rfl) (pc n)
   (BU (c:=1) rfl (by kernel_rfl) (fun _=>rfl) (N2 n) (BU (c:=1) rfl (by kernel_rfl) (fun _=>rfl) (Ou n)
    (BU (c:=1) rfl (by kernel_rfl) (fun _=>rfl) (Ou n) (BU (c:=1) rfl (by kernel_rfl) (fun _=>rfl) (O6 Tryz.underlying28 n) H3))))) (fun _=>(show _=10 from rfl).trans (by kernel_rfl)) n) (fun x=>⟨x.1,x.2.1,x.2.2.1,x.2.2.2.1,x.2.2.2.2.1⟩) fun _=>rfl
end
end Go.Gl
namespace Go.Proofs.YtegbmnmnaijioaaGreat
open Go.Gl Go.ChangeShapes Go.WideShapes Go.ChangeAt Go.RowKit
theorem own:ownKnob Tryz.prog.godebug=none:=by kernel_rfl
def laidOut:laidOutB Tryz.prog=true:=by kernel_rfl
def B4 {a b:Bool} (h1:a=true) (h2:b=true):(a&&b)=true:=by rw[h1,h2];rfl
abbrev HE (w:World):=Hh (fun _=>False) emp w
def vP {w:World} {cs:Array Value} {g:vE} (hp:cs.toList.length=(Qg g).length∧BZ (HE w) (fun i=>cs.toList[i]?) 0 (Qg g)):Af (HE w) (.a (Qg g)) (.agg cs):=by
 simp only[Af];exact⟨cs,rfl,by simpa using hp.1,by simpa using hp.2⟩
end Go.Proofs.YtegbmnmnaijioaaGreat
namespace Go.Gl
open Go.Proofs
attribute [local irreducible] BC Aw Ai AV AM Ah AU AW AN Ag AQ AS A3 BA Sat Ab A8 Ak W
def iW (g:FuncId) (fi ca:List V) (q:Int→Bool) (xs:List Int) (hpf: ∀y∈xs,Pure Tryz.prog g (fi++[eI y]++ca) (.b (q y))) (f:Bool) (hxl:xs.length≤1000):Pure Tryz.prog 170 [.l (iL xs) f,.f (.func g) fi ca] (.l (iL (xs.filter q)) true):=by
 refine Pure.of ?_;have hM:=Mx;refine tx kZ ?_;have hs:=Sn
 conv=>whnf
 repeat'((first|apply st|(apply sq;intro K U)|(apply si;intro A B Y Z)|(apply Y;clear Z B Y A)|(apply U;clear U K)|fail)<;>conv=>whnf)
 refine CA xs.length (fun k v=>[(5,v),(10,eI (BG k))]) (fun k v=>[.own v 1 (iL ((xs.take k).filter q))]) (fun _ _=>True) (.l [] true) rfl trivial (EM hs 1) ?_;clear hs;rintro k v σ hk - hs;have hfl:=Oa q (xs.take k);rw[K1]at hfl;rcases BI xs hk with⟨y,hy,hlt⟩|hke
 ·have hpy:=hpf y (B9 hy)
  have hst:(xs.take (k+1)).filter q=if q y then(xs.take k).filter q++[y]else(xs.take k).filter q:=by
   rw[AO hy,List.filter_append];cases hp:q y<;>simp[hp]
  generalize (xs.take k).filter q=zs at *;have hll:zs.length<Ad∧(zs.length+1)*8≤140737488355328:=by omega
  conv=>whnf
  repeat'((first|apply st|(apply sq;intro K U)|(apply si;intro A B Y Z)|(apply Y;clear Z B Y A)|(apply U;clear U K)|refine⟨rfl,?_⟩|refine ix ?_|refine aq fun v σ hs hsl=>?_|(refine CU (fun hc=>?_)<;>(try rw[hc])<;>clear hc)|refine B2 (hpy.use ?_)|(constructor<;>intro hc<;>(try rw[hc])<;>(replace hc:=bp hc))|clear U K)<;>conv=>whnf)
  ·rw[if_pos (by assumption)]at hst
   exact⟨hlt,_,rfl,trivial,by rw[hst];exact hs⟩
  ·rw[if_neg (by simp[*])]at hst
   exact⟨hlt,_,rfl,trivial,by rw[hst];exact hs⟩
 ·rw[Ap hke]at hs
  conv=>whnf
  repeat'((first|apply st|(apply sq;intro K U)|(apply si;intro A B Y Z)|(apply Y;clear Z B Y A)|(apply U;clear U K)|refine⟨rfl,?_⟩|(refine Dl (fun hc=>?_)<;>(try rw[hc])<;>clear hc)|clear U K)<;>conv=>whnf)
  refine(PD (xs.filter q) v (by have:=Oa q xs;omega)).use (rest:=[]) (by simpa using hs) ?_;clear hs;rintro r post σ ⟨rfl,rfl⟩ hs
  conv=>whnf
  repeat'((first|apply st|(apply Y;clear Z B Y A)|(apply U;clear U K)|fail)<;>conv=>whnf)
  exact AX (by rfl)
def wM (x y:Int):Pure Tryz.prog 311 [eI y,.rp [eI x]] (.b (y != x)):=by
 refine sK kZ ?_;have hs:=Sn
 conv=>whnf
 repeat'((first|apply st|(apply sq;intro K U)|(apply si;intro A B Y Z)|(apply Y;clear Z B Y A)|(apply U;clear U K)|refine⟨rfl,?_⟩|fail)<;>conv=>whnf)
 all_goals exact AI (by rfl)
def Mt (xs:List Int) (f:Bool) (x:Int) (hxl:xs.length≤1000):Pure Tryz.prog 259 [.l (iL xs) f,eI x] (.l (iL (xs.filter (· != x))) true):=by
 have c1:=iW 311 [] [.rp [eI x]] (· != x) xs (fun y _=>wM x y) f hxl;refine tB kZ ?_;have hs:=Sn
 conv=>whnf
 repeat'((first|apply st|(apply sq;intro K U)|(apply si;intro A B Y Z)|(apply Y;clear Z B Y A)|(apply U;clear U K)|refine c1.use ?_|fail)<;>conv=>whnf)
 all_goals exact AI (by rfl)
end Go.Gl
namespace Go.Gl
open Go.Proofs
attribute [local irreducible] BC Aw Ai AV AM Ah AU AW AN Ag AQ AS A3 BA Sat Ab A8 Ak W
def lM (l:List Int) (f kd:Bool):Pure Tryz.prog 201 [.pn,.l (iL l) f,.b kd] (.b false):=by
 have c1:=qi l f;refine XI kZ ?_;have hs:=Sn
 conv=>whnf
 repeat'((first|apply st|(apply sq;intro K U)|(apply si;intro A B Y Z)|(apply Y;clear Z B Y A)|(apply U;clear U K)|refine HK ?_|refine Pure.use (by assumption) ?_|clear U K)<;>conv=>whnf)
 all_goals exact AI rfl
def gg {M:List Int} {x:Int} (h:M.contains x=false):Oh M x=M++[x]:=by
 rw[Oh,if_neg (by rw[h];decide)]
set_option maxHeartbeats 2000000 in
def qV (p : Prog) (L:Nat) (l:List Int) (f kd:Bool) (hl:l.length≤1000):Pure Tryz.prog 201 [Sf p L,.l (iL l) f,.b kd] (.b (Fj p l kd)):=by
 refine Pure.fit (by kernel_rfl) fun hf=>?_
 have hM:=Mx;have c1:=wT p L l f;cases hm:l.all (BQ p)<;>rw[hm]at c1
 ·have hb:Fj p l kd=false:=by
   rw[←Bool.not_eq_true];intro h;rw[Fj,BJ,Em]at h;rw[←Bool.not_eq_true,Em]at hm;refine hm fun x hx=>?_
   have:=h.1 x hx;simp only[jb,BJ]at this;exact this.1
  refine XI kZ ?_;have hs:=Sn
  conv=>whnf
  repeat'((first|apply st|(apply sq;intro K U)|(apply si;intro A B Y Z)|(apply Y;clear Z B Y A)|(apply U;clear U K)|refine HK ?_|refine c1.use ?_|clear U K)<;>conv=>whnf)
  all_goals exact AI (by rw[hb])
 rw[Em]at hm;refine XI kZ ?_;have hs:=Sn
 conv=>whnf
 repeat'((first|apply st|(apply sq;intro K U)|(apply si;intro A B Y Z)|(apply Y;clear Z B Y A)|(apply U;clear U K)|refine FP ?_|refine c1.use ?_|(intro nn hnn;generalize hg:A0 _ nn _=σ;refine CZ hg fun hs=>?_;clear hg)|fail)<;>conv=>whnf)
 clear c1;replace hs:Sat σ [.map nn (Sg [])]:=hs;refine CA l.length (fun i (_:Unit)=>[(17,eI (BG i))]) (fun i _=>[.map nn (Sg (l.take i))]) (fun i _=>(∀k y,k<i→l[k]? =some y→jb p l kd y=true)∧(l.take i).Nodup) () rfl ⟨fun k y h=>by omega,by simp⟩ hs ?_;clear hs;rintro i - σ hi ⟨ho,hn⟩ hs;rcases BI l hi with⟨x,hx,hlt⟩|hie
 ·have hci : BG i=i:=AK (by omega)
  obtain⟨z,hz⟩: ∃z,l[0]? =some z:=⟨_,C7 (by omega)⟩
  have hz0:=By hz;have hmx:=hm x (B9 hx);have hmz:=hm z (B9 hz);have hbad:=fun h=>bT (p:=p) (kd:=kd) hx h
  rw[jb,hz0]at hbad;have hxP:=B8 hmx;have hzP:=B8 hmz;have c2:=m4 p L x z hmx hmz;have hxr:=hmx;have hzr:=hmz;simp only[BQ,BJ,Cn]at hxr hzr;cases hcon:(l.take i).contains x
  ·have hne : ∀k y,k<i→l[k]? =some y→y≠x:=fun k y h h2 e=>by
    rw[←Bool.not_eq_true,List.contains_iff_mem]at hcon;exact hcon (B9 (i:=k) (by rw[List.getElem?_take,if_pos h,h2,e]))
   have hnd:=Xl hx hn hne;have hput:=gg hcon;rw[←AO hx]at hput;by_cases hg:(Bh p x).gen=(Bh p z).gen
   ·have hoxF:(!kd||Dv p x z)=true→jb p l kd x=true:=fun h=>by rw[jb,hz0,hmx,hg,h];simp
    cases hal:Dv p x z<;>rw[hal]at c2 hoxF<;>cases kd
    all_goals
     conv=>whnf
     repeat'((first|apply st|(apply sq;intro K U)|(apply si;intro A B Y Z)|(apply Y;clear Z B Y A)|(apply U;clear U K)|apply dr|refine⟨rfl,?_⟩|refine ix ?_|refine HI ?_|refine HK ?_|refine FP ?_|(refine CU (fun hc=>?_)<;>(try rw[hc])<;>clear hc)|refine c2.use ?_|(refine Ja hs 0 rfl rfl (He _) ?_;rw[Lt,hcon])|(refine JZ hs 0 rfl rfl (He _) fun σ hs=>?_)|(constructor<;>intro hc<;>(try rw[hc])<;>(replace hc:=bp hc)<;>try(exfalso;omega))|clear U K)<;>conv=>whnf)
    all_goals first
     | exact AI (by rw[hbad (by simp[hal,hg])])
     | (exfalso;simp[hg]at hc;done)
     | (have hox:=hoxF rfl
        refine⟨hlt,(),rfl,⟨fun k' y' h h2=>?_,hnd⟩,?_⟩
        ·rcases Nat.lt_or_ge k' i with h'|h'
         ·exact ho k' y' h' h2
         ·rw[show k'=i by omega,hx]at h2
          rw[←Option.some.inj h2];exact hox
        ·replace hs:Sat σ [.map nn (De (eI x) (.b true) (Sg (l.take i)))]:=hs
         rw[ZK,hput]at hs
         exact hs)
   ·conv=>whnf
    repeat'((first|apply st|(apply sq;intro K U)|(apply si;intro A B Y Z)|(apply Y;clear Z B Y A)|(apply U;clear U K)|apply dr|refine⟨rfl,?_⟩|refine ix ?_|refine HI ?_|(refine CU (fun hc=>?_)<;>(try rw[hc])<;>clear hc)|(refine Ja hs 0 rfl rfl (He _) ?_;rw[Lt,hcon])|(constructor<;>intro hc<;>(try rw[hc])<;>(replace hc:=bp hc)<;>try(exfalso;omega))|clear U K)<;>conv=>whnf)
    all_goals first
     | exact AI (by rw[hbad (by simp[hg])])
     | (exfalso;have q:(Bh p x).gen=(Bh p z).gen:=(by assumption);exact hg q)
     | (exfalso;simp[hg]at hc;done)
  ·obtain⟨k,hk⟩:=List.getElem?_of_mem (List.contains_iff_mem.1 hcon)
   rw[List.getElem?_take]at hk;split at hk
   ·conv=>whnf
    repeat'((first|apply st|(apply sq;intro K U)|(apply si;intro A B Y Z)|(apply Y;clear Z B Y A)|(apply U;clear U K)|apply dr|refine⟨rfl,?_⟩|refine ix ?_|(refine CU (fun hc=>?_)<;>(try rw[hc])<;>clear hc)|(refine Ja hs 0 rfl rfl (He _) ?_;rw[Lt,hcon])|clear U K)<;>conv=>whnf)
    all_goals exact AI (by rw[bS hx hk (by assumption)])
   ·cases hk
 ·conv=>whnf
  repeat'((first|apply st|(apply sq;intro K U)|(apply si;intro A B Y Z)|(apply Y;clear Z B Y A)|(apply U;clear U K)|refine⟨rfl,?_⟩|(refine Dl (fun hc=>?_)<;>(try rw[hc])<;>clear hc)|clear U K)<;>conv=>whnf)
  have hall:Fj p l kd=true:=by
   rw[Fj,BJ,Em];refine⟨fun y hy=>?_,decide_eq_true (by rw[hie,List.take_length]at hn;exact hn)⟩;obtain⟨k,hk⟩:=List.getElem?_of_mem hy;exact ho k y (by rw[hie];exact(IS.1 hk).1) hk
  exact AI (by rw[hall])
def aO (M:List (Int×Int)) (x:Int×Int):List (Int×Int):=if M.contains x then M else M++[x]
def aP (p:Prog) (M:List (Int×Int)) (m n:Int):List (Int×Int):=if F8 p m n then aO (aO M (m,n)) (n,m)else aO M (m,n)
def QD (p:Prog) (L:Nat) (m n:Int) (hk:EN p) (hgw:D7 (AR p)) (hfm: ∀x∈p.methods,CS (AR p) x.fact=true) (hm:BQ p m=true) (hn:BQ p n=true) (M:List (Int×Int)) :
    Bj Tryz.prog 310 [Sf p L,eI m,eI n] [.map L (KE p M)] fun r post=>r= .ret (.b (F8 p m n))∧post= [.map L (KE p (aO M (m,n)))]:=by
 intro σ hs;have hxm:=B8 hm;have hxn:=B8 hn;have hmm:=B9 hxm;have hmn:=B9 hxn;have hip:=cu (AR p) hgw (Bh p m).fact (Bh p n).fact (hfm _ hmm) (hfm _ hmn) (hk.facts _ hmm).1 (hk.facts _ hmn).1 (by have:=(hk.facts _ hmm).2;have:=(hk.facts _ hmn).2;omega);simp only[BQ,BJ,Cn]at hm hn;have hfd:=VN p (m,n) M;refine sL kZ ?_;cases hc:M.contains (m,n)
 ·rw[hc,if_neg (by decide)]at hfd
  conv=>whnf
  repeat'((first|apply st|(apply sq;intro K U)|(apply si;intro A B Y Z)|(apply Y;clear Z B Y A)|(apply U;clear U K)|apply dr|refine⟨kZ,?_⟩|refine HI ?_|refine ld ?_|refine Cw fun σ hs=>?_|refine HK ?_|refine S9 hs 1 rfl rfl (PR _ _) hfd ?_|refine JZ hs 1 rfl rfl (PR _ _) fun σ hs=>?_|refine hip.use ?_|(intro nn hnn;generalize hg:A0 _ nn _=σ;refine CZ hg fun hs=>?_;clear hg)|fail)<;>conv=>whnf)
  replace hs:Sat σ [.box nn [eI m,eI n],.map L (De (kM (m,n)) (.b (F8 p m n)) (KE p M))]:=hs;rw[ZJ p (m,n) M hc]at hs;exact AX ⟨_,⟨rfl,rfl⟩,by rw[aO,hc];exact hs.less (Jz _ _)⟩
 ·rw[hc,if_pos rfl]at hfd
  conv=>whnf
  repeat'((first|apply st|(apply sq;intro K U)|(apply si;intro A B Y Z)|(apply Y;clear Z B Y A)|(apply U;clear U K)|apply dr|refine⟨kZ,?_⟩|refine ld ?_|refine Cw fun σ hs=>?_|refine FP ?_|refine S9 hs 1 rfl rfl (PR _ _) hfd ?_|(intro nn hnn;generalize hg:A0 _ nn _=σ;refine CZ hg fun hs=>?_;clear hg)|fail)<;>conv=>whnf)
  exact AX ⟨_,⟨rfl,rfl⟩,by rw[aO,hc];exact hs.less (Jz _ _)⟩
def Vt (p:Prog) (L:Nat) (m n:Int) (hk:EN p) (hgw:D7 (AR p)) (hfm: ∀x∈p.methods,CS (AR p) x.fact=true) (hm:BQ p m=true) (hn:BQ p n=true) (M:List (Int×Int)) :
    Bj Tryz.prog 258 [Sf p L,eI m,eI n] [.map L (KE p M)] fun r post=>r= .ret (.b (A1 p m n))∧post= [.map L (KE p (aP p M m n))]:=by
 intro σ hs;have h1:=fun M=>QD p L m n hk hgw hfm hm hn M
 have h2:=fun M=>QD p L n m hk hgw hfm hn hm M
 unfold A1 aP;cases hb1:F8 p m n<;>cases hb2:F8 p n m<;>rw[hb1]at h1<;>rw[hb2]at h2
 all_goals
  refine tC kZ ?_
  conv=>whnf
  repeat'((first|(apply sq;intro K U)|(apply si;intro A B Y Z)|(apply Y;clear Z B Y A)|(apply U;clear U K)|fail)<;>conv=>whnf)
  refine(h1 M).use (rest:=[]) (by simpa using hs) ?_;clear hs;rintro r post σ ⟨rfl,rfl⟩ hs
  conv=>whnf
  repeat'((first|apply st|(apply Y;clear Z B Y A)|(apply U;clear U K)|fail)<;>conv=>whnf)
 ·exact AX ⟨_,⟨rfl,rfl⟩,hs⟩
 ·exact AX ⟨_,⟨rfl,rfl⟩,hs⟩
 all_goals
  refine(h2 _).use (rest:=[]) (by simpa using hs) ?_;clear hs;rintro r post σ ⟨rfl,rfl⟩ hs
  conv=>whnf
  repeat'((first|apply st|(apply Y;clear Z B Y A)|(apply U;clear U K)|fail)<;>conv=>whnf)
  exact AX ⟨_,⟨rfl,rfl⟩,hs⟩
def Fv: ∀ {l:List Int} {i:Nat} {x:Int},l.Nodup→l[i]? =some x→l.filter (· != x)=l.eraseIdx i
 | y::r,0,x,hn,hx=>by
   obtain rfl:y=x:=by simpa using hx
   rw[List.nodup_cons]at hn;rw[List.filter_cons,if_neg (by simp),List.eraseIdx_cons_zero];exact List.filter_eq_self.2 fun z hz=>by rw[xR];rintro rfl;exact hn.1 hz
 | y::r,i+1,x,hn,hx=>by
   rw[List.nodup_cons]at hn;rw[uu]at hx;have hyx:y≠x:=fun e=>hn.1 (e ▸ B9 hx)
   rw[List.filter_cons,if_pos (by simpa using hyx),List.eraseIdx_cons_succ,Fv hn.2 hx]
def cB {A:Int→Int→Bool} {l:List Int} {i:Nat} (hi:i<l.length) (h:Gt A l i l.length=true) (hn: ∀j,j<i→Gt A l j l.length=false):ES A l=some i:=by
 rw[ES,List.find?_range_eq_some];exact⟨h,List.mem_range.2 hi,fun j hj=>by rw[hn j hj];rfl⟩
def b7 {A:Int→Int→Bool} {l:List Int} (hn: ∀j,j<l.length→Gt A l j l.length=false):ES A l=none:=by
 rw[ES,List.find?_range_eq_none];exact fun j hj=>by rw[hn j hj];rfl
def kI {A:Int→Int→Bool} {l:List Int} {i k n:Nat} (hk:k<n) (h:(k==i||A (l.getD i 0) (l.getD k 0))=false):Gt A l i n=false:=by
 rw[Gt,←Bool.not_eq_true,Em];intro h2;rw[h2 k (List.mem_range.2 hk)]at h;cases h
def gu {l:List Int} (hn:l.Nodup) {i k:Nat} {x y:Int} (hx:l[i]? =some x) (hy:l[k]? =some y) (h:k≠i):x≠y:=by
 rintro rfl;have hi:=(IS.1 hx)
 have hj:=(IS.1 hy)
 have:=(List.nodup_iff_pairwise_ne.1 hn)
 rw[List.pairwise_iff_getElem]at this;rcases Nat.lt_or_gt_of_ne h with h'|h'
 ·exact this k i hj.1 hi.1 h' (by rw[hj.2,hi.2])
 ·exact this i k hi.1 hj.1 h' (by rw[hj.2,hi.2])
set_option maxHeartbeats 4000000 in
def Zl (p : Prog) (L:Nat) (l:List Int) (f:Bool) (hok:EN p) (hgw:D7 (AR p)) (hfm: ∀x∈p.methods,CS (AR p) x.fact=true) (hl:S6 p l) (hnd:l.Nodup) (M:List (Int×Int)) :
    Bj Tryz.prog 183 [Sf p L,.l (iL l) f] [.map L (KE p M)] fun r post=>r= .ret (.t [.l (iL (Bc (A1 p) l.length l).1) true,.b (Bc (A1 p) l.length l).2])∧ ∃M',post= [.map L (KE p M')]:=by
 intro σ hs;have hM:=Mx;refine tr kZ ?_
 conv=>whnf
 repeat'((first|apply st|(apply sq;intro K U)|(apply si;intro A B Y Z)|(apply Y;clear Z B Y A)|(apply U;clear U K)|fail)<;>conv=>whnf)
 refine EA (fun(x:List Int×Bool×V×List Int×List (Int×Int))=>x.1.length) (fun x=>[(1,.l (iL x.1) x.2.1),(6,x.2.2.1)]) (fun x=>[.own x.2.2.1 1 (iL x.2.2.2.1),.map L (KE p x.2.2.2.2)])
  (fun x=>(∀y∈x.1,BQ p y=true)∧x.1.Nodup∧x.2.2.2.1.length+x.1.length≤16∧Bc (A1 p) l.length l=(x.2.2.2.1++(Bc (A1 p) x.1.length x.1).1,(Bc (A1 p) x.1.length x.1).2)) (l,f,.l [] true,[],M) rfl ⟨hl.I4,hnd,by simpa using hl.many,by simp⟩ (DA hs 1) ?_
 clear hs;rintro⟨l',f',v,out,M⟩ σ ⟨hme,hn,hlen,hm⟩ hs;dsimp only at hme hn hlen hm hs;dsimp only;have hll:out.length<Ad∧(out.length+1)*8≤140737488355328:=by omega
 by_cases hz:l'.length=0
 ·rw[hz]at hm
  simp only[Bc,Im]at hm
  conv=>whnf
  repeat'((first|apply st|(apply sq;intro K U)|(apply si;intro A B Y Z)|(apply Y;clear Z B Y A)|(apply U;clear U K)|refine⟨rfl,?_⟩|(constructor<;>intro hc<;>(try rw[hc])<;>(replace hc:=bp hc)<;>(try simp(disch:=omega) only[A9,wrap64,AK]at hc)<;>try(exfalso;omega))|clear U K)<;>conv=>whnf)
  refine(PD out v (by omega)).use (rest:=[_]) hs ?_;clear hs;rintro r post σ ⟨rfl,rfl⟩ hs
  conv=>whnf
  repeat'((first|apply st|(apply Y;clear Z B Y A)|(apply U;clear U K)|fail)<;>conv=>whnf)
  exact AX ⟨_,⟨by rw[hm],M,rfl⟩,hs⟩
 ·obtain ⟨n,hnn⟩: ∃n,l'.length=n+1:=⟨l'.length - 1,by omega⟩
  have hne:l'.isEmpty=false:=by cases l' with
   | nil=>simp at hz
   | cons=>rfl
  rw[hnn,Bc]at hm
  conv=>whnf
  repeat'((first|apply st|(apply sq;intro K U)|(apply si;intro A B Y Z)|(apply Y;clear Z B Y A)|(apply U;clear U K)|refine⟨rfl,?_⟩|(constructor<;>intro hc<;>(try rw[hc])<;>(replace hc:=bp hc)<;>(try simp(disch:=omega) only[A9,wrap64,AK]at hc)<;>try(exfalso;omega))|fail)<;>conv=>whnf)
  refine CA l'.length (fun i (_:List (Int×Int))=>[(16,eI (BG i))]) (fun _ M=>[.own v 1 (iL out),.map L (KE p M)]) (fun i _=> ∀j,j<i→Gt (A1 p) l' j l'.length=false) M rfl (fun j h=>by omega) hs ?_;clear hs;rintro i M σ hi hno hs;rcases BI l' hi with⟨x,hx,hlt⟩|hie
  ·have hmx:=hme x (B9 hx)
   conv=>whnf
   repeat'((first|apply st|(apply sq;intro K U)|(apply si;intro A B Y Z)|(apply Y;clear Z B Y A)|(apply U;clear U K)|refine⟨rfl,?_⟩|refine ix ?_|(refine CU (fun hc=>?_)<;>(try rw[hc])<;>clear hc)|fail)<;>conv=>whnf)
   refine CA l'.length (fun k (_:List (Int×Int))=>[(22,eI (BG k))]) (fun _ M=>[.own v 1 (iL out),.map L (KE p M)]) (fun k _=>Gt (A1 p) l' i k=true) M rfl rfl hs ?_;clear hs;rintro k M σ hk htop hs;rcases BI l' hk with⟨y,hy,hklt⟩|hke
   ·have hmy:=hme y (B9 hy)
    have hsu:=RX (A1 p) l' i k;rw[By hx,By hy,htop,Il]at hsu;by_cases hki:k=i
    ·obtain rfl:x=y:=by
      rw[hki,hx]at hy;exact Option.some.inj hy
     conv=>whnf
     repeat'((first|apply st|(apply sq;intro K U)|(apply si;intro A B Y Z)|(apply Y;clear Z B Y A)|(apply U;clear U K)|refine⟨rfl,?_⟩|refine ix ?_|(refine CU (fun hc=>?_)<;>(try rw[hc])<;>clear hc)|(constructor<;>intro hc<;>(try rw[hc])<;>(replace hc:=bp hc)<;>(try simp(disch:=omega) only[A9,wrap64,AK]at hc)<;>try(exfalso;omega))|clear U K)<;>conv=>whnf)
     exact⟨hklt,M,rfl,by rw[hsu,hki];simp,hs⟩
    ·have hxy:=gu hn hx hy hki
     have c5:=Vt p L x y hok hgw hfm hmx hmy M;cases hah:A1 p x y<;>rw[hah]at c5
     all_goals
      conv=>whnf
      repeat'((first|apply st|(apply sq;intro K U)|(apply si;intro A B Y Z)|(apply Y;clear Z B Y A)|(apply U;clear U K)|refine⟨rfl,?_⟩|refine ix ?_|(refine CU (fun hc=>?_)<;>(try rw[hc])<;>clear hc)|(constructor<;>intro hc<;>(try rw[hc])<;>(replace hc:=bp hc)<;>try(exfalso;omega))|fail)<;>conv=>whnf)
      refine c5.use (rest:=[_]) (hs.perm (.swap _ _ _)) ?_;clear hs;rintro r post σ ⟨rfl,rfl⟩ hs
      conv=>whnf
      repeat'((first|apply st|(apply si;intro A B Y Z)|(apply Y;clear Z B Y A)|(apply U;clear U K)|refine⟨rfl,?_⟩|refine HK ?_|refine FP ?_|clear U K)<;>conv=>whnf)
     ·refine⟨hlt,_,rfl,fun j hj=>?_,hs.perm (.swap _ _ _)⟩
      rcases Nat.lt_or_ge j i with h'|h'
      ·exact hno j h'
      ·rw[show j=i by omega]
       exact kI hklt (by rw[By hx,By hy,hah];simpa using hki)
     ·exact⟨hklt,_,rfl,by rw[hsu,hah];simp,hs.perm (.swap _ _ _)⟩
   ·have c1:=Mt l' f' x (by omega)
    rw[Fv hn hx]at c1;have hel:=List.length_eraseIdx_of_lt hlt;rw[cB hlt (hke ▸ htop) hno]at hm;dsimp only at hm;rw[By hx]at hm
    conv=>whnf
    repeat'((first|apply st|(apply sq;intro K U)|(apply si;intro A B Y Z)|(apply Y;clear Z B Y A)|(apply U;clear U K)|refine⟨rfl,?_⟩|refine aq fun v σ hs hsl=>?_|(refine Dl (fun hc=>?_)<;>(try rw[hc])<;>clear hc)|refine c1.use ?_|clear U K)<;>conv=>whnf)
    refine⟨(l'.eraseIdx i,true,v,out++[x],M),by dsimp only;omega,rfl,⟨fun y hy=>hme y (List.mem_of_mem_eraseIdx hy),hn.sublist (List.eraseIdx_sublist _ _),by simp;omega,?_⟩,hs⟩;dsimp only;rw[hm,hel,show l'.length - 1=n by omega];simp
  ·rw[b7 fun j hj=>hno j (by omega)]at hm
   dsimp only at hm;rw[hne,Im]at hm
   conv=>whnf
   repeat'((first|apply st|(apply sq;intro K U)|(apply si;intro A B Y Z)|(apply Y;clear Z B Y A)|(apply U;clear U K)|refine⟨rfl,?_⟩|(refine Dl (fun hc=>?_)<;>(try rw[hc])<;>clear hc)|clear U K)<;>conv=>whnf)
   refine(PD out v (by omega)).use (rest:=[_]) hs ?_;clear hs;rintro r post σ ⟨rfl,rfl⟩ hs
   conv=>whnf
   repeat'((first|apply st|(apply Y;clear Z B Y A)|(apply U;clear U K)|clear U K)<;>conv=>whnf)
   exact AX ⟨_,⟨by rw[hm];rfl,M,rfl⟩,hs⟩
end Go.Gl
