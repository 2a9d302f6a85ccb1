import Derived.Test.YtnidfcmdimehdaaGreatU14
import Derived.Test.YtnidfcmdimehdaaGreatU22
import Derived.Test.YtnidfcmdimehdaaGreatU26
import Derived.Test.YtnidfcmdimehdaaGreatU28
import Derived.Test.YtnidfcmdimehdaaGreatU31
import Derived.Test.YtnidfcmdimehdaaGreatU32
set_option linter.all false
set_option linter.defProp false
set_option maxHeartbeats 8000000
noncomputable section
namespace Go.Gl
open Go.Proofs
def Dq (f:Fact) (c:Bool) (j:Nat) (a:Int) (p:List Int) (k:Kn):Kn:=
 if f.arg=a/\BV f.path p=true then(if p.length<j then lK (Bt k c) (f.path.getD p.length 0)else if p.length=j then Bt k c else k)else k
def nf (f:Fact) (c:Bool) (a:Int) (p:List Int) (k:Kn):Dq f c 0 a p k=if a=f.arg/\p= []then Bt k c else k:=by
 unfold Dq;by_cases h:f.arg=a/\BV f.path p=true
 .rw[if_pos h,if_neg (by omega)]
  by_cases hp:p.length=0
  .rw[if_pos hp,if_pos ⟨h.1.symm,VA.1 hp⟩]
  .rw[if_neg hp,if_neg (fun h'=>hp (by rw[h'.2];rfl))]
 .rw[if_neg h,if_neg]
  rintro⟨rfl,rfl⟩;exact h ⟨rfl,Bw.2 ⟨f.path,by simp⟩⟩
def ng (f:Fact) (c:Bool) {j:Nat} (hj:j<f.path.length) (a:Int) (p:List Int) (k:Kn):Dq f c (j+1) a p k=if a=f.arg/\p=f.path.take (j+1)then Bt (Dq f c j a p k) c else if a=f.arg/\p=f.path.take j then lK (Dq f c j a p k) (f.path.getD j 0)else Dq f c j a p k:=by
 unfold Dq;by_cases h:f.arg=a/\BV f.path p=true
 .rw [if_pos h,if_pos h]
  obtain⟨h1,h2⟩:=h;rw[HT]at h2;obtain⟨h2,h3⟩:=h2;have l1:p=f.path.take (j+1)↔p.length=j+1:=⟨fun e=>by rw[e,Ib];omega,fun e=>by rw[e]at h3;exact h3⟩
  have l2:p=f.path.take j↔p.length=j:=⟨fun e=>by rw[e,Ib];omega,fun e=>by rw[e]at h3;exact h3⟩
  have n1:p.length≠j+1-> ¬(a=f.arg/\p=f.path.take (j+1)):=fun h h'=>h (l1.1 h'.2)
  have n2:p.length≠j-> ¬(a=f.arg/\p=f.path.take j):=fun h h'=>h (l2.1 h'.2)
  by_cases q1:p.length<j
  .rw[if_pos (show p.length<j+1 by omega),if_neg (n1 (by omega)),if_neg (n2 (by omega)),if_pos q1]
  .by_cases q2:p.length=j
   .rw[if_pos (show p.length<j+1 by omega),if_neg (n1 (by omega)),if_pos (show a=f.arg/\p=f.path.take j from⟨h1.symm,l2.2 q2⟩),if_neg q1,if_pos q2,q2]
   .by_cases q3:p.length=j+1
    .rw[if_neg (show¬p.length<j+1 by omega),if_pos q3,if_pos (show a=f.arg/\p=f.path.take (j+1) from⟨h1.symm,l1.2 q3⟩),if_neg q1,if_neg q2]
    .rw[if_neg (show¬p.length<j+1 by omega),if_neg q3,if_neg (n1 q3),if_neg (n2 q2),if_neg q1,if_neg q2]
 .rw[if_neg h,if_neg h,if_neg,if_neg]
  .rintro⟨rfl,rfl⟩
   exact h ⟨rfl,Bw.2 ⟨f.path.drop j,by rw[List.take_append_drop]⟩⟩
  .rintro⟨rfl,rfl⟩
   exact h ⟨rfl,Bw.2 ⟨f.path.drop (j+1),by rw[List.take_append_drop]⟩⟩
def sh (a : Int) (p:List Int) (k:Kn) (l:Fact):H5 a p k l=if a=(Ac l).1.arg/\p=(Ac l).1.path then Bs (Dq (Ac l).1 (Ac l).2 (Ac l).1.path.length a p k) (Ac l).1 (Ac l).2 else Dq (Ac l).1 (Ac l).2 (Ac l).1.path.length a p k:=by
 unfold H5 Dq;by_cases h:(Ac l).1.arg=a/\BV (Ac l).1.path p=true
 .rw [if_pos h,if_pos h]
  obtain⟨h1,h2⟩:=h;rw[HT]at h2;obtain⟨h2,h3⟩:=h2;by_cases hp:(Ac l).1.path=p
  .rw[if_pos hp,if_pos ⟨h1.symm,hp.symm⟩,if_neg (by rw[hp];omega),if_pos (by rw[hp])]
  .have hne:p.length<(Ac l).1.path.length:=by
    rcases Nat.lt_or_ge p.length (Ac l).1.path.length with h'|h'
    .exact h'
    .rw[List.take_of_length_le h']at h3
     exact absurd h3.symm hp
   rw[if_neg hp,if_neg (fun h=>hp h.2.symm),if_pos hne]
 .rw[if_neg h,if_neg h,if_neg]
  rintro⟨rfl,rfl⟩;exact h ⟨rfl,KD _⟩
def nV (ls:List Fact) (l:Fact) (a:Int) (p:List Int):kg (ls++[l]) a p=H5 a p (kg ls a p) l:=by
 rw[kg,List.foldl_append];rfl
def Wv (l:List Int) (s:Int):(Ts l s).length<=l.length+1:=by
 unfold Ts;split
 .omega
 .simp
def gF (a:Int) (p:List Int): ∀(ls:List Fact) (k:Kn),(ls.foldl (H5 a p) k).no.length<=k.no.length+ls.length/\(ls.foldl (H5 a p) k).AL.length<=k.AL.length+ls.length
 | [],k=>⟨G0 _,G0 _⟩
 | l ::r,k=>by
   obtain⟨h1,h2⟩:=gF a p r (H5 a p k l)
   have h3:(H5 a p k l).no.length<=k.no.length+1/\(H5 a p k l).AL.length<=k.AL.length+1:=by
    unfold H5
    repeat' split
    .have:=Rc (Bt k (Ac l).2) (Ac l).1 (Ac l).2
     rw[IZ];simp only[Bt]at this ⊢;omega
    .have:=Wv k.AL ((Ac l).1.path.getD p.length 0)
     simp only[lK,Bt]at this ⊢;omega
    .omega
   rw[List.foldl_cons,JU];omega
def nX {n:Nat} {ls:List Fact} (h:G6 n ls) (a:Int) (p:List Int):(kg ls a p).BJ<2 ^ n/\(kg ls a p).Dv<2 ^ n:=by
 obtain⟨-,-,-,c4,c5,-⟩:=KW (Uh ls a p);have hc2:G6 n (ls.filter (Fq a p)):=fun l hl=>h l (Ia.1 hl).1
 rw[c4,c5];exact⟨ML hc2,ft hc2⟩
def Sat.flip {Z:AD} {X Y:List At} (h:Sat Z (X++Y)):Sat Z (Y++X):=h.perm NF
def nh (f:Fact) (c:Bool) (j:Nat) (a:Int) (p:List Int) (k:Kn):(Dq f c j a p k).BJ=k.BJ:=by unfold Dq;(repeat' split)<;>rfl
def sg (f:Fact) (c:Bool) (j:Nat) (a:Int) (p:List Int) (k:Kn):(Dq f c j a p k).Dv=k.Dv:=by unfold Dq;(repeat' split)<;>rfl
def yh (f:Fact) (c:Bool) (j:Nat) (a:Int) (p:List Int) (k:Kn):(Dq f c j a p k).no=k.no:=by unfold Dq;(repeat' split)<;>rfl
def jz (f:Fact) (c:Bool) (j:Nat) (a:Int) (p:List Int) (k:Kn):(Dq f c j a p k).AL.length<=k.AL.length+1:=by
 unfold Dq
 repeat' split
 .exact Wv _ _
 all_goals simp[Bt]
def yg {m:Nat} {k:Kn} (h:bR m k) (f:Fact) (c:Bool) (j:Nat) (a:Int) (p:List Int):bR (m+1) (Dq f c j a p k):=by
 obtain⟨h1,h2,h3,h4⟩:=h;refine⟨by rw[nh];exact h1,by rw[sg];exact h2,by rw[yh];omega,?_⟩;have:=jz f c j a p k;omega
def gE {ls:List Fact} (h:Nj ls) (a:Int) (p:List Int):bR ls.length (kg ls a p):=by
 have hc:G6 64 ls:=fun l hl ho=>(h l hl).cls ho
 obtain⟨h1,h2⟩:=nX hc a p;obtain⟨h3,h4⟩:=gF a p ls k0;exact⟨by simpa using h1,by simpa using h2,by simpa[kg,k0]using h3,by simpa[kg,k0]using h4⟩
def yZ:Bp (kg []) []:=⟨fun x hx=>(by cases hx),fun a p _=>rfl,.nil,fun x hx=>(by cases hx)⟩
attribute [local irreducible] As Af AV AQ AI AU AP AR AJ AT AM AN Ag Ar Sat AS Ap AX W
abbrev Jh (y:Fact×Bool):List V:=[eI y.1.op,eI y.1.arg,.l (iL y.1.path) false,eI y.1.cls,eI y.1.n,.l (y.1.kids.map EY) false,.b y.2]
def yV (w : AE) (us:List Nat) (ls:List Fact) (ps:List (Fact×Bool)) (hps:ps=ls.map Ac) (b:Bool) (h:Nj ls) (hlen:ls.length<900) :
    BL zP 93 [.rp (gW w us),.l (ps.map Jh) b] [] fun r post=> ∃L es,r= .ret (.a (gv w us L))/\Bp (kg ls) es/\post=Bm L es:=by
 intro Z hs;have hM:=Mx;have hpl:ps.length=ls.length:=by rw[hps,Bh]
 refine yq kZ ?_
 conv=>whnf
 repeat'((first|apply st|(apply sq;intro K U)|(apply si;intro A B hA hB)|(refine hA _ _ ?_;clear hB B hA A)|(apply U;clear U K)|refine ZL fun Z hs=>?_|(intro nn hnn;generalize hg:Bz _ nn _=Z;refine bT hg fun hs=>?_;clear hg)|fail)<;>conv=>whnf)
 rename_i n4 _ _ _ L _ _ _ _ _;generalize nn=n5 at *;refine Ba ps.length (fun k (x:List Bx)=>[(17,eI (Au k))]) (fun k x=> .box n5 (gv w us L):: .box n4 [.pn,.mn]::Bm L x) (fun k x=>Bp (kg (ls.take k)) x) [] rfl yZ (hs.perm (.cons _ (.swap _ _ _))) ?_;clear hs hnn;rintro k es Z hk hinv hs;rcases Aw ps hk with⟨y,hy,hlt⟩|hke
 .obtain ⟨l,hlk⟩: ∃l,ls[k]? =some l:=⟨_,CQ (by omega)⟩
  have hyl:y=Ac l:=by
   rw[hps,JV,hlk]at hy;exact(Option.some.inj hy).symm
  have hlm:l∈ls:=BY hlk;have htk:ls.take (k+1)=ls.take k++[l]:=AO hlk;have hbk: ∀a p,bR (ls.take k).length (kg (ls.take k) a p):=gE fun x hx=>h x (List.mem_of_mem_take hx)
  obtain⟨l1,l2,l3,l4⟩:=h l hlm;have hkl:(ls.take k).length<900:=by rw[Ib];omega
  have hend: ∀a p,kg (ls.take (k+1)) a p=if a=(Ac l).1.arg/\p=(Ac l).1.path then Bs (Dq (Ac l).1 (Ac l).2 (Ac l).1.path.length a p (kg (ls.take k) a p)) (Ac l).1 (Ac l).2 else Dq (Ac l).1 (Ac l).2 (Ac l).1.path.length a p (kg (ls.take k) a p):=fun a p=>by
   rw[htk,nV];exact sh a p (kg (ls.take k) a p) l
  generalize kg (ls.take k)=kf at *;rw[<-hyl]at l1 l2 l3 l4 hend;clear hyl;obtain⟨f,c⟩:=y;dsimp only at l1 l2 l3 l4 hend;generalize (ls.take k).length=m at *
  conv=>whnf
  repeat'((first|apply st|(apply sq;intro K U)|(apply si;intro A B hA hB)|(refine hA _ _ ?_;clear hB B hA A)|(apply U;clear U K)|refine⟨rfl,?_⟩|refine⟨kZ,?_⟩|refine ix ?_|refine ld ?_|refine ZL fun Z hs=>?_|(refine qU (fun hc=>?_)<;>(try rw[hc])<;>clear hc)|(intro nn hnn;generalize hg:Bz _ nn _=Z;refine bT hg fun hs=>?_;clear hg)|fail)<;>conv=>whnf)
  rename_i n7 _ _ _ _ _ _ _;generalize nn=n8 at *;replace hs:Sat Z ([.box n8 (F7 f.arg []),.box n7 (Jh (f,c)),.box n5 (gv w us L),.box n4 [.pn,.mn]]++Bm L es):=hs;refine(lH w us hinv (a:=f.arg) (p:=[]) (by simp)).use (rest:=[.box n8 (F7 f.arg []),.box n7 (Jh (f,c)),.box n5 (gv w us L),.box n4 [.pn,.mn]]) hs.flip ?_;clear hs;rintro r post Z ⟨es1,e1,got,rfl,rfl⟩ hs;have hek:=got.k;obtain⟨hea,hep⟩:=Gg.1 got.is;obtain⟨pre,post,rfl⟩:=List.append_of_mem got.mem;replace hs:=Jp (X:=[.box n8 (F7 f.arg []),.box n7 (Jh (f,c)),.box n5 (gv w us L),.box n4 [.pn,.mn]]) hs.flip;cases hnd:e1.k.Ab<;>rw[hnd]at hs
  all_goals
   conv=>whnf
   repeat'((first|apply st|(apply sq;intro K U)|(apply si;intro A B hA hB)|(refine hA _ _ ?_;clear hB B hA A)|(apply U;clear U K)|refine ld ?_|refine xO fun Z hs=>?_|fail)<;>conv=>whnf)
   obtain⟨e2,es2,hP,hQ,hR⟩: ∃(e2:Bx) (es2:List Bx),(Bp (fun a p=>Dq f c 0 a p (kf a p)) es2/\e2∈es2/\e2.is f.arg (f.path.take 0)=true)/\e2.b=e1.b/\Sat Z ([.box n8 (F7 f.arg (f.path.take 0)),.box n7 (Jh (f,c)),.box n5 (gv w us L),.box n4 [.pn,.mn]]++Bm L es2):=by
    refine⟨⟨e1.a,e1.p,e1.b,e1.vn,e1.vs,Bt e1.k c⟩,_,⟨(got.inv.change e1.b e1.vn e1.vs (Bt e1.k c)).congr fun a p=>?_,Lu _ (.head _),got.is⟩,rfl,?_⟩
    .rw[nf,NL,hea,hep,hek]
     by_cases ha:a=f.arg/\p= []
     .rw[if_pos ha,if_pos ha,ha.1,ha.2]
     .rw[if_neg ha,if_neg ha]
    .refine Dj (X:=[.box n8 (F7 f.arg []),.box n7 (Jh (f,c)),.box n5 (gv w us L),.box n4 [.pn,.mn]]) (e:=e1) rfl rfl rfl ?_
     first
      | (rw[Ki c hnd];exact hs)
      | (rw[Iy c hnd];exact hs)
   rw[<-hQ];clear hs hnd got hek hea hep;refine Ba f.path.length (fun j (x:List Bx×Bx)=>[(44,eI (Au j)),(9,.p x.2.b 0)]) (fun j x=>[.box n8 (F7 f.arg (f.path.take j)),.box n7 (Jh (f,c)),.box n5 (gv w us L),.box n4 [.pn,.mn]]++Bm L x.1) (fun j x=>Bp (fun a p=>Dq f c j a p (kf a p)) x.1/\x.2∈x.1/\x.2.is f.arg (f.path.take j)=true) (es2,e2) rfl hP hR ?_;clear hP hR;generalize e2.b=b0 at *;clear hQ e2 es2;rintro j ⟨es2,e2⟩ Z hj ⟨hinv2,hmem,his⟩ hs;simp only at hinv2 hmem his hs
   have hek:e2.k=Dq f c j f.arg (f.path.take j) (kf f.arg (f.path.take j)):=by
    have:=hinv2.val e2 hmem;obtain⟨h1,h2⟩:=Gg.1 his;rw[this,h1,h2]
   have hok:bR (m+1) e2.k:=by rw[hek];exact yg (hbk _ _) f c j _ _
   obtain⟨hea,hep⟩:=Gg.1 his;obtain⟨pre2,post2,rfl⟩:=List.append_of_mem hmem;replace hs:=Jp (X:=[.box n8 (F7 f.arg (f.path.take j)),.box n7 (Jh (f,c)),.box n5 (gv w us L),.box n4 [.pn,.mn]]) hs;have hck:Au j=j:=AW (by omega);rcases Aw f.path hj with⟨s,hsj,hjlt⟩|hje
   .have hct:=fun b=>CP e2.k.AL b s
    have hk4:=hok.2.2.2;have hsl0:lK e2.k s= {e2.k with AL:=Ts e2.k.AL s}:=rfl
    have hne:f.path.take j++[s]≠f.path.take j:=by
     intro e;have:=congrArg List.length e;simp at this
    have hgd:f.path.getD j 0=s:=by rw[Co,hsj];rfl
    have htk2:f.path.take (j+1)=f.path.take j++[s]:=AO hsj;cases hcB:e2.k.AL.contains s
    all_goals
     rw[hcB]at hct
     conv=>whnf
     repeat'((first|apply st|(apply sq;intro K U)|(apply si;intro A B hA hB)|(refine hA _ _ ?_;clear hB B hA A)|(apply U;clear U K)|refine⟨rfl,?_⟩|refine⟨kZ,?_⟩|refine ix ?_|refine ld ?_|refine xO fun Z hs=>?_|refine ZL fun Z hs=>?_|refine aq fun v Z hs hsl=>?_|refine cft ?_|refine cff ?_|(refine qU (fun hc=>?_)<;>(try rw[hc])<;>clear hc)|refine Pure.use (MT f.arg (f.path.take j) s (by rw[Ib];omega)) ?_|refine Pure.LO (hct false) (.cons (hs.Ic 2 rfl) (.cons (.refl _) .nil)) rfl ?_|fail)<;>conv=>whnf)
    have hs3: ∃vs3,Sat Z ([.box n8 (F7 f.arg (f.path.take j++[s])),.box n7 (Jh (f,c)),.box n5 (gv w us L),.box n4 [.pn,.mn]]++Bm L (pre2++⟨e2.a,e2.p,e2.b,e2.vn,vs3,lK e2.k s⟩::post2)):=⟨_,Dj (X:=[.box n8 (F7 f.arg (f.path.take j++[s])),.box n7 (Jh (f,c)),.box n5 (gv w us L),.box n4 [.pn,.mn]]) (e:=e2) rfl rfl rfl (by rw[hsl0,Ts,if_neg (by rw[hcB];decide)];exact hs)⟩
    rotate_left
    have hs3: ∃vs3,Sat Z ([.box n8 (F7 f.arg (f.path.take j++[s])),.box n7 (Jh (f,c)),.box n5 (gv w us L),.box n4 [.pn,.mn]]++Bm L (pre2++⟨e2.a,e2.p,e2.b,e2.vn,vs3,lK e2.k s⟩::post2)):=⟨e2.vs,Dj (X:=[.box n8 (F7 f.arg (f.path.take j++[s])),.box n7 (Jh (f,c)),.box n5 (gv w us L),.box n4 [.pn,.mn]]) (e:=e2) rfl rfl rfl (by rw[hsl0,Ts,if_pos hcB];exact hs)⟩
    all_goals
     clear hs;obtain⟨vs3,hs⟩:=hs3;have hinv3:=hinv2.change e2.b e2.vn vs3 (lK e2.k s);refine(lH w us hinv3 (a:=f.arg) (p:=f.path.take j++[s]) (by rw[Kt,Ib];simp;omega)).use (rest:=[.box n8 (F7 f.arg (f.path.take j++[s])),.box n7 (Jh (f,c)),.box n5 (gv w us L),.box n4 [.pn,.mn]]) hs.flip ?_;clear hs;rintro r post Z ⟨es4,e4,got,rfl,rfl⟩ hs;have hek4:=got.k;obtain⟨hea4,hep4⟩:=Gg.1 got.is;obtain⟨pre4,post4,rfl⟩:=List.append_of_mem got.mem;replace hs:=Jp (X:=[.box n8 (F7 f.arg (f.path.take j++[s])),.box n7 (Jh (f,c)),.box n5 (gv w us L),.box n4 [.pn,.mn]]) hs.flip;cases hnd:e4.k.Ab<;>rw[hnd]at hs
     all_goals
      conv=>whnf
      repeat'((first|apply st|(apply si;intro A B hA hB)|(refine hA _ _ ?_;clear hB B hA A)|(apply U;clear U K)|refine⟨rfl,?_⟩|refine ld ?_|refine xO fun Z hs=>?_|clear U K)<;>conv=>whnf)
      refine⟨hjlt,(pre4++⟨e4.a,e4.p,e4.b,e4.vn,e4.vs,Bt e4.k c⟩::post4,⟨e4.a,e4.p,e4.b,e4.vn,e4.vs,Bt e4.k c⟩),rfl,⟨(got.inv.change e4.b e4.vn e4.vs (Bt e4.k c)).congr fun a p=>?_,Lu _ (.head _),by rw[htk2];exact got.is⟩,?_⟩
      .rw[ng f c hjlt,NL,hea4,hep4,htk2,hgd]
       by_cases h1:a=f.arg/\p=f.path.take j++[s]
       .rw[if_pos h1,if_pos h1,hek4,NL,hea,hep,if_neg (fun h=>hne h.2),h1.1,h1.2]
       .rw[if_neg h1,if_neg h1,NL,hea,hep]
        by_cases h2:a=f.arg/\p=f.path.take j
        .rw[if_pos h2,if_pos h2,hek,h2.1,h2.2]
        .rw[if_neg h2,if_neg h2]
      .rw[htk2]
       refine Dj (X:=[.box n8 (F7 f.arg (f.path.take j++[s])),.box n7 (Jh (f,c)),.box n5 (gv w us L),.box n4 [.pn,.mn]]) (e:=e4) rfl rfl rfl ?_
       first
        | (rw[Ki c hnd];exact hs)
        | (rw[Iy c hnd];exact hs)
   .have etk:f.path.take j=f.path:=Ak hje
    rw[etk]at his hs hek hep
    conv=>whnf
    repeat'((first|apply st|(apply sq;intro K U)|(apply si;intro A B hA hB)|(refine hA _ _ ?_;clear hB B hA A)|(apply U;clear U K)|refine⟨rfl,?_⟩|refine⟨kZ,?_⟩|refine ld ?_|(refine qT (fun hc=>?_)<;>(try rw[hc])<;>clear hc)|clear U K)<;>conv=>whnf)
    refine(yE f c l1 l3 hok.1 hok.2.1 (by have:=hok.2.2.1;omega) l4).use (rest:=[.box n8 (F7 f.arg f.path),.box n7 (Jh (f,c)),.box n5 (gv w us L),.box n4 [.pn,.mn]]++JG L (pre2++e2::post2) pre2 post2) hs ?_;clear hs;rintro r post Z ⟨rfl,vn',rfl⟩ hs;have hs2:=Dj (X:=[.box n8 (F7 f.arg f.path),.box n7 (Jh (f,c)),.box n5 (gv w us L),.box n4 [.pn,.mn]]) (e:=e2) (e':=⟨e2.a,e2.p,e2.b,vn',e2.vs,Bs e2.k f c⟩) rfl rfl rfl hs;clear hs;have hs:=hs2;clear hs2
    conv=>whnf
    repeat'((first|(apply si;intro A B hA hB)|(refine hA _ _ ?_;clear hB B hA A)|(apply U;clear U K)|refine⟨rfl,?_⟩|clear U K)<;>conv=>whnf)
    refine⟨hlt,_,rfl,(hinv2.change e2.b vn' e2.vs (Bs e2.k f c)).congr fun a p=>?_,hs.less ((HU _ _).trans (HU _ _))⟩;rw[hend,NL,hea,hep,hek,<-hje];by_cases h1:a=f.arg/\p=f.path
    .rw[if_pos h1,if_pos h1,h1.1,h1.2]
    .rw[if_neg h1,if_neg h1]
 .have etk:ls.take k=ls:=Ak (by omega)
  rw[etk]at hinv
  conv=>whnf
  repeat'((first|apply st|(apply sq;intro K U)|(apply si;intro A B hA hB)|(refine hA _ _ ?_;clear hB B hA A)|(apply U;clear U K)|refine⟨rfl,?_⟩|refine⟨kZ,?_⟩|refine ld ?_|refine ZL fun Z hs=>?_|(refine qT (fun hc=>?_)<;>(try rw[hc])<;>clear hc)|clear U K)<;>conv=>whnf)
  exact AH ⟨Bm L es,⟨L,es,rfl,hinv,rfl⟩,hs.less ((HU _ _).trans (HU _ _))⟩
end Go.Gl
namespace Go.Gl
open Go.Proofs
def W0 (w:AE) (us:List Nat) (ls:List Fact) (b:Bool) (h:Nj ls) (hlen:ls.length<900) :
    BL zP 93 [.rp (gW w us),.l (Dx ls) b] [] fun r post=> ∃L es,r= .ret (.a (gv w us L))/\Bp (kg ls) es/\post=Bm L es:=by
 have:=yV w us ls (ls.map Ac) rfl b h hlen;rw[qG]at this;exact this
abbrev dv (L:Nat) (pre post:List Bx) (e:Bx) (s:List Bx):List At:=
 .box e.b [eU e.k.BJ,eU e.k.Dv,eI e.k.low,eI e.k.high,e.vn,.b e.k.whole,.b e.k.Ab,e.vs]:: .own e.vn 1 (iL e.k.no)::JG L (pre++e::(post++s)) pre (post++s)
def He {Z:AD} {X:List At} {L:Nat} {pre post:List Bx} {e:Bx} {s:List Bx} (h:Sat Z (X++Bm L (pre++e::(post++s)))):Sat Z (.own e.vs 1 (iL e.k.AL)::(X++dv L pre post e s)):=by
 have h2:=Jp h;refine h2.perm ((Jn _ _ _ _).symm.trans (.cons _ ?_));exact(List.perm_middle.trans (.cons _ List.perm_middle)).symm
def HO {Z:AD} {X:List At} {L:Nat} {pre post:List Bx} {e:Bx} {s:List Bx} (h:Sat Z (.own e.vs 1 (iL e.k.AL)::(X++dv L pre post e s))):Sat Z (X++Bm L (pre++e::(post++s))):=by
 refine Dj (X:=X) (e:=e) (e':=e) rfl rfl rfl ?_;refine h.perm ?_;refine List.Perm.trans (.cons _ (List.perm_middle.trans (.cons _ List.perm_middle))) ?_;exact Jn _ _ _ _
def G9 (kf:Int->List Int->Kn) (L:Nat) (es:List Bx) (post:List At):Prop:= ∃es',K1 es es'/\Bp kf es'/\post=Bm L es'
def fY (g:List (List Int)):(BR g)[0]? =some 1/\(BR g)[1]? =some 3/\(BR g)[2]? =some 5:=by
 have key: ∀k,(Bk g k)[0]? =some 1/\(Bk g k)[1]? =some 3/\(Bk g k)[2]? =some 5:=fun k=>by
  induction k with
  | zero=>exact⟨rfl,rfl,rfl⟩
  | succ k ih=>
    have hl:=Dc g k;rw[Bk,Xm (by omega),Xm (by omega),Xm (by omega)];exact ih
 exact key g.length
attribute [local irreducible] As Af AV AQ AI AU AP AR AJ AT AM AN Ag Ar Sat AS Ap AX W
def pT (w : AE) {kf:Int->List Int->Kn} (hr:EM w kf) {L:Nat} {es:List Bx} (h:Bp kf es) {a:Int} {p:List Int} (hp:p.length<=2) :
    BL zP 154 [.a (gv w (BR w.parents) L),CC a p,eI 2] (Bm L es) fun r post=>r= .ret (.b (DV kf a p))/\G9 kf L es post:=by
 intro Z hs;have hM:=Mx;obtain⟨-,hu1,hu2⟩:=fY w.parents;generalize BR w.parents=us at *;refine gk kZ ?_;refine zz ?_;(repeat clear U K);repeat intro K U
 refine(lH w us h (a:=a) (p:=p) hp).use (rest:=[]) (by simpa using hs) ?_;clear hs;rintro r post Z ⟨es4,e4,got,rfl,rfl⟩ hs;have hek:=got.k;obtain⟨pre,post,rfl⟩:=List.append_of_mem got.mem;rw[EU]at hs;replace hs:=Jp (X:=[]) hs;have hok:=hr.ok a p;have hsl:=(hr.ok a p).2.2.2;have hsh:=hr.short a p;rw[<-hek]at hok hsl hsh;have hb1:bits .andNot .u64 (e4.k.BJ:Int) ((5:Nat):Int)=((L3 e4.k.BJ 5:Nat):Int):=IY;have hb2:bits .and .u64 (e4.k.Dv:Int) ((5:Nat):Int)=((e4.k.Dv&&&5:Nat):Int):=F4 hok.2.1 (by decide);have hb3:=Mu (u:=5) hok.1
 have hP:DV kf a p=(!e4.k.whole&&(Hu e4.k.BJ 5&&(e4.k.Dv&&&5==0&&e4.k.AL.all fun s=> !(kf a (p++[s])).Ab))):=by
  rw[DV,Ei,H7,hek];rfl
 generalize DV kf a p=R at *
 conv=>whnf
 repeat'((first|clear U K|apply st|(apply zk;intro K U)|refine zY ?_|refine za (fun hc=>?_) fun hc=>?_|fail)<;>conv=>whnf)
 .have h2:(e4.k.Dv&&&5==0)=false:=by rw[beq_eq_false_iff_ne];omega
  exact AH ⟨_,⟨by rw[hP,h2];simp,_,got.ext,got.inv,rfl⟩,by simpa using Dj (X:=[]) (e:=e4) (e':=e4) rfl rfl rfl hs⟩
 .have h1:Hu e4.k.BJ 5=true:=hb3.1 (by omega)
  have h2:(e4.k.Dv&&&5==0)=true:=by rw[Cd];omega
  rw[h1,h2,Db,Db]at hP
  have hs1:Sat Z (.own e4.vs 1 (iL e4.k.AL)::dv L pre post e4 []):=by
   have h2:=He (X:=[]) (L:=L) (pre:=pre) (post:=post) (e:=e4) (s:=[]) (by simpa using Dj (X:=[]) (e:=e4) (e':=e4) rfl rfl rfl hs);simpa using h2
  refine Ba e4.k.AL.length (fun k (x:List Bx)=>[(49,eI (Au k))]) (fun k x=> .own e4.vs 1 (iL e4.k.AL)::dv L pre post e4 x) (fun k x=>(Bp kf (pre++e4::(post++x))/\ ∀y∈x,y.k=k0)/\R=(!e4.k.whole&&(e4.k.AL.drop k).all fun s=> !(kf a (p++[s])).Ab)) [] rfl ⟨⟨by simpa using got.inv,by simp⟩,hP⟩ hs1 ?_;clear hs hs1 hP;rintro k new Z hk ⟨⟨hinv,hnew⟩,hF⟩ hs;have hck:Au k=k:=AW (by omega);rcases Aw e4.k.AL hk with⟨s,hsk,hlt⟩|hke
  .have hsm:=BY hsk
   have hp2:p.length<2:=by
    rcases Nat.lt_or_ge p.length 2 with h'|h'
    .exact h'
    .rw[hsh h']at hsm;cases hsm
   rw[drop_cons hsk,Jd]at hF
   conv=>whnf
   repeat'((first|clear U K|apply st|(apply zk;intro K U)|refine zY ?_|refine rk ?_ ?_|exact fun s e=>by cases e;rfl|refine ze fun x hx=>?_|refine Pure.use (MT a p _ hp2) ?_|fail)<;>conv=>whnf)
   obtain rfl:x=s:=by rw[hck,FZ,hsk]at hx;exact(Option.some.inj hx).symm
   refine(lH w us hinv (a:=a) (p:=p++[x]) (by simp;omega)).use (rest:=[]) (by simpa using HO (X:=[]) (by simpa using hs)) ?_;clear hs;rintro r post' Z ⟨es5,e5,got5,rfl,rfl⟩ hs;have hek5:=congrArg Kn.Ab got5.k;obtain⟨newA,heA,hnA⟩:=got5.ext;obtain⟨pre5,post5,he5⟩:=List.append_of_mem got5.mem;have e7:es5=pre++e4::(post++(new++newA)):=by rw[heA];simp
   have hi7:=got5.inv;rw[e7]at hi7;have hn7: ∀y∈new++newA,y.k=k0:=fun y hy=>(Du.1 hy).elim (hnew y) (hnA y)
   rw[EU,he5]at hs;replace hs:=Jp (X:=[]) hs;cases hnx:(kf a (p++[x])).Ab<;>rw[hnx]at hek5 hF<;>rw[hek5]at hs
   all_goals
    refine zz ?_;(repeat clear U K);repeat intro K U
    have hs3:Sat Z (Bm L (pre++e4::(post++(new++newA)))):=by
     rw[<-hek5]at hs;have h3:=Dj (X:=[]) (e:=e5) (e':=e5) rfl rfl rfl hs;rw[<-he5,e7]at h3;exact h3
   .exact⟨hlt,new++newA,rfl,⟨⟨hi7,hn7⟩,by rw[hF];rfl⟩,He (X:=[]) hs3⟩
   .exact AH ⟨_,⟨by rw[hF];simp,_,got.ext.trans ⟨_,by simp,hn7⟩,hi7,rfl⟩,hs3⟩
  .rw[Ad hke,List.all_nil,Bool.and_true]at hF
   conv=>whnf
   repeat'((first|clear U K|apply st|(apply zk;intro K U)|refine zY ?_|(refine zb (fun hc=>?_) (fun hc=>?_)<;>try exact⟨⟩)|fail)<;>conv=>whnf)
   exact AH ⟨_,⟨by rw[hF],_,got.ext.trans ⟨_,by simp,hnew⟩,hinv,rfl⟩,HO (X:=[]) hs⟩
 .have h1:Hu e4.k.BJ 5=false:=by
   rw[<-Bool.not_eq_true,<-hb3];omega
  exact AH ⟨_,⟨by rw[hP,h1];simp,_,got.ext,got.inv,rfl⟩,by simpa using Dj (X:=[]) (e:=e4) (e':=e4) rfl rfl rfl hs⟩
def x2 (w : AE) {kf:Int->List Int->Kn} (hr:EM w kf) {L:Nat} {es:List Bx} (h:Bp kf es) {a:Int} {p:List Int} (hp:p.length<=2) :
    BL zP 154 [.a (gv w (BR w.parents) L),CC a p,eI 1] (Bm L es) fun r post=>r= .ret (.b (GA kf a p))/\G9 kf L es post:=by
 intro Z hs;have hM:=Mx;obtain⟨-,hu1,hu2⟩:=fY w.parents;generalize BR w.parents=us at *;refine gk kZ ?_;refine zz ?_;(repeat clear U K);repeat intro K U
 refine(lH w us h (a:=a) (p:=p) hp).use (rest:=[]) (by simpa using hs) ?_;clear hs;rintro r post Z ⟨es4,e4,got,rfl,rfl⟩ hs;have hek:=got.k;obtain⟨pre,post,rfl⟩:=List.append_of_mem got.mem;rw[EU]at hs;replace hs:=Jp (X:=[]) hs;have hok:=hr.ok a p;have hsl:=(hr.ok a p).2.2.2;have hsh:=hr.short a p;rw[<-hek]at hok hsl hsh;have hb1:bits .andNot .u64 (e4.k.BJ:Int) ((3:Nat):Int)=((L3 e4.k.BJ 3:Nat):Int):=IY;have hb2:bits .and .u64 (e4.k.Dv:Int) ((3:Nat):Int)=((e4.k.Dv&&&3:Nat):Int):=F4 hok.2.1 (by decide);have hb3:=Mu (u:=3) hok.1
 have hP:GA kf a p=(decide (Ek (kf a p)<=e4.k.high)&&(Hu e4.k.BJ 3&&(e4.k.Dv&&&3==0&&e4.k.AL.all fun s=> !(kf a (p++[s])).Ab))):=by
  rw[GA,Ei,H7,hek];rfl
 generalize GA kf a p=R at *
 conv=>whnf
 repeat'((first|clear U K|apply st|(apply zk;intro K U)|refine zY ?_|refine za (fun hc=>?_) fun hc=>?_|fail)<;>conv=>whnf)
 .have h2:(e4.k.Dv&&&3==0)=false:=by rw[beq_eq_false_iff_ne];omega
  exact AH ⟨_,⟨by rw[hP,h2];simp,_,got.ext,got.inv,rfl⟩,by simpa using Dj (X:=[]) (e:=e4) (e':=e4) rfl rfl rfl hs⟩
 .have h1:Hu e4.k.BJ 3=true:=hb3.1 (by omega)
  have h2:(e4.k.Dv&&&3==0)=true:=by rw[Cd];omega
  rw[h1,h2,Db,Db]at hP
  have hs1:Sat Z (.own e4.vs 1 (iL e4.k.AL)::dv L pre post e4 []):=by
   have h2:=He (X:=[]) (L:=L) (pre:=pre) (post:=post) (e:=e4) (s:=[]) (by simpa using Dj (X:=[]) (e:=e4) (e':=e4) rfl rfl rfl hs);simpa using h2
  refine Ba e4.k.AL.length (fun k (x:List Bx)=>[(49,eI (Au k))]) (fun k x=> .own e4.vs 1 (iL e4.k.AL)::dv L pre post e4 x) (fun k x=>(Bp kf (pre++e4::(post++x))/\ ∀y∈x,y.k=k0)/\R=(decide (Ek (kf a p)<=e4.k.high)&&(e4.k.AL.drop k).all fun s=> !(kf a (p++[s])).Ab)) [] rfl ⟨⟨by simpa using got.inv,by simp⟩,hP⟩ hs1 ?_;clear hs hs1 hP;rintro k new Z hk ⟨⟨hinv,hnew⟩,hF⟩ hs;have hck:Au k=k:=AW (by omega);rcases Aw e4.k.AL hk with⟨s,hsk,hlt⟩|hke
  .have hsm:=BY hsk
   have hp2:p.length<2:=by
    rcases Nat.lt_or_ge p.length 2 with h'|h'
    .exact h'
    .rw[hsh h']at hsm;cases hsm
   rw[drop_cons hsk,Jd]at hF
   conv=>whnf
   repeat'((first|clear U K|apply st|(apply zk;intro K U)|refine zY ?_|refine rk ?_ ?_|exact fun s e=>by cases e;rfl|refine ze fun x hx=>?_|refine Pure.use (MT a p _ hp2) ?_|fail)<;>conv=>whnf)
   obtain rfl:x=s:=by rw[hck,FZ,hsk]at hx;exact(Option.some.inj hx).symm
   refine(lH w us hinv (a:=a) (p:=p++[x]) (by simp;omega)).use (rest:=[]) (by simpa using HO (X:=[]) (by simpa using hs)) ?_;clear hs;rintro r post' Z ⟨es5,e5,got5,rfl,rfl⟩ hs;have hek5:=congrArg Kn.Ab got5.k;obtain⟨newA,heA,hnA⟩:=got5.ext;obtain⟨pre5,post5,he5⟩:=List.append_of_mem got5.mem;have e7:es5=pre++e4::(post++(new++newA)):=by rw[heA];simp
   have hi7:=got5.inv;rw[e7]at hi7;have hn7: ∀y∈new++newA,y.k=k0:=fun y hy=>(Du.1 hy).elim (hnew y) (hnA y)
   rw[EU,he5]at hs;replace hs:=Jp (X:=[]) hs;cases hnx:(kf a (p++[x])).Ab<;>rw[hnx]at hek5 hF<;>rw[hek5]at hs
   all_goals
    refine zz ?_;(repeat clear U K);repeat intro K U
    have hs3:Sat Z (Bm L (pre++e4::(post++(new++newA)))):=by
     rw[<-hek5]at hs;have h3:=Dj (X:=[]) (e:=e5) (e':=e5) rfl rfl rfl hs;rw[<-he5,e7]at h3;exact h3
   .exact⟨hlt,new++newA,rfl,⟨⟨hi7,hn7⟩,by rw[hF];rfl⟩,He (X:=[]) hs3⟩
   .exact AH ⟨_,⟨by rw[hF];simp,_,got.ext.trans ⟨_,by simp,hn7⟩,hi7,rfl⟩,hs3⟩
  .rw[Ad hke,List.all_nil,Bool.and_true]at hF
   have hlo:=hr.low a p;rw[<-hek]at hlo;have hno:=hok.2.2.1;have hle:=Uk e4.k.no e4.k.low;have hL:Ek (kf a p)=G4 e4.k.no (from_ e4.k.no e4.k.low) e4.k.low:=by rw[Ek,<-hek];exact PQ hle (G0 _)
   conv=>whnf
   repeat'((first|clear U K|apply st|(apply zk;intro K U)|refine zY ?_|(refine zb (fun hc=>?_) (fun hc=>?_)<;>try exact⟨⟩)|fail)<;>conv=>whnf)
   refine DD (fun n:Int=>from_ e4.k.no n) (fun n=>[(10,eI n)]) (fun _=> .own e4.vs 1 (iL e4.k.AL)::dv L pre post e4 new) (fun n=> -1000000000<=n/\n+from_ e4.k.no n<=1000001000/\Ek (kf a p)=G4 e4.k.no (from_ e4.k.no n) n) e4.k.low rfl ⟨by omega,by omega,hL⟩ hs ?_;clear hs hL hle;rintro n Z ⟨hn0,hn1,hL⟩ hs;have hct2:=fun b=>CP e4.k.no b n
   cases hcB:e4.k.no.contains n<;>rw[hcB]at hct2
   .have hout:n∉e4.k.no:=by simpa using hcB
    rw[bK hout]at hL;rw[hL]at hF
    conv=>whnf
    repeat'((first|clear U K|apply st|(apply zk;intro K U)|refine zY ?_|refine Pure.LO (hct2 false) (.cons (hs.Ic 2 rfl) (.cons (.refl _) .nil)) rfl ?_|fail)<;>conv=>whnf)
    all_goals exact AH ⟨_,⟨by rw[hF],_,got.ext.trans ⟨_,by simp,hnew⟩,hinv,rfl⟩,HO (X:=[]) hs⟩
   .have hin:n∈e4.k.no:=by simpa using hcB
    have hlt:=PM hin;have hwr:IntKind.i64.wrap (n+1)=n+1:=wrap64 (by omega) (by omega);obtain⟨m,hm⟩: ∃m,from_ e4.k.no n=m+1:=⟨from_ e4.k.no n - 1,by omega⟩
    have hL2:Ek (kf a p)=G4 e4.k.no (from_ e4.k.no (n+1)) (n+1):=by rw[hL,hm,iG hin];exact PQ (by omega) (G0 _)
    conv=>whnf
    repeat'((first|clear U K|apply st|(apply zk;intro K U)|refine zY ?_|refine Pure.LO (hct2 false) (.cons (hs.Ic 2 rfl) (.cons (.refl _) .nil)) rfl ?_|fail)<;>conv=>whnf)
    exact⟨n+1,hlt,by rw[hwr];rfl,⟨by omega,by omega,hL2⟩,hs⟩
 .have h1:Hu e4.k.BJ 3=false:=by
   rw[<-Bool.not_eq_true,<-hb3];omega
  exact AH ⟨_,⟨by rw[hP,h1];simp,_,got.ext,got.inv,rfl⟩,by simpa using Dj (X:=[]) (e:=e4) (e':=e4) rfl rfl rfl hs⟩
end Go.Gl
namespace Go.Gl
open Go.Proofs
attribute [local irreducible] As Af AV AQ AI AU AP AR AJ AT AM AN Ag Ar Sat AS Ap AX W
def Z8 (w : AE) (hw:CS w) (us:List Nat) {kf:Int->List Int->Kn} (hr:EM w kf) {a:Int} {p:List Int} (hp:p.length<=2) (up:Nat) (hup:up<18446744073709551616) (g:FuncId) (fi ca:List V) (can:Int->Bool) {L:Nat}
    (hcan: ∀s∈(kf a p).AL,∀es,Bp kf es->BL zP g (fi++[CC a (p++[s])]++ca) (Bm L es) fun r post=>r= .ret (.b (can s))/\G9 kf L es post) {es:List Bx} (h:Bp kf es) :
    BL zP 155 [.a (gv w us L),CC a p,eU up,.f (.func g) fi ca] (Bm L es) fun r post=>r= .ret (.b (Rz w kf a p up can))/\G9 kf L es post:=by
 intro Z hs;have hM:=Mx;refine vq kZ ?_;refine zz ?_;(repeat clear U K);repeat intro K U
 refine(lH w us h (a:=a) (p:=p) hp).use (rest:=[]) (by simpa using hs) ?_;clear hs;rintro r post Z ⟨es4,e4,got,rfl,rfl⟩ hs;have hek:=got.k;obtain⟨pre,post,rfl⟩:=List.append_of_mem got.mem;rw[EU]at hs;replace hs:=Jp (X:=[]) hs;have hok:=hr.ok a p;have hsl:=(hr.ok a p).2.2.2;have hsh:=hr.short a p;have hsw:=hr.AL a p;rw[<-hek]at hok hsl hsh hsw hcan;have hb1:bits .andNot .u64 (e4.k.BJ:Int) (up:Int)=((L3 e4.k.BJ up:Nat):Int):=IY;have hb2:bits .and .u64 (e4.k.Dv:Int) (up:Int)=((e4.k.Dv&&&up:Nat):Int):=F4 hok.2.1 hup;have hb3:=Mu (u:=up) hok.1
 have hP:Rz w kf a p up can=(!e4.k.whole&&(Hu e4.k.BJ up&&(e4.k.Dv&&&up==0&&e4.k.AL.all fun s=>if up.testBit (Bb w s).toNat then can s else !(kf a (p++[s])).Ab))):=by
  rw[Rz,hek]
 generalize Rz w kf a p up can=R at *;cases hwh:e4.k.whole<;>rw[hwh]at hP hs
 rotate_left
 .refine zz ?_;(repeat clear U K);repeat intro K U
  exact AH ⟨_,⟨by rw[hP];rfl,_,got.ext,got.inv,rfl⟩,by rw[<-hwh]at hs;simpa using Dj (X:=[]) (e:=e4) (e':=e4) rfl rfl rfl hs⟩
 have hcl: ∀ {Z:AD},Sat Z (.box e4.b [eU e4.k.BJ,eU e4.k.Dv,eI e4.k.low,eI e4.k.high,e4.vn,.b false,.b e4.k.Ab,e4.vs]:: .own e4.vn 1 (iL e4.k.no):: .own e4.vs 1 (iL e4.k.AL)::([]++JG L (pre++e4::post) pre post))->Sat Z (Bm L (pre++e4::post)):=fun h=>by
  rw[<-hwh]at h;simpa using Dj (X:=[]) (e:=e4) (e':=e4) rfl rfl rfl h
 conv=>whnf
 repeat'((first|clear U K|apply st|(apply zk;intro K U)|refine zY ?_|refine za (fun hc=>?_) fun hc=>?_|fail)<;>conv=>whnf)
 .have h2:(e4.k.Dv&&&up==0)=false:=by rw[beq_eq_false_iff_ne];omega
  exact AH ⟨_,⟨by rw[hP,h2];simp,_,got.ext,got.inv,rfl⟩,hcl hs⟩
 .have h1 : Hu e4.k.BJ up=true:=hb3.1 (by omega)
  have h2:(e4.k.Dv&&&up==0)=true:=by rw[Cd];omega
  rw[h1,h2,Bool.not_false,Db,Db,Db]at hP
  have hs1:Sat Z (.own e4.vs 1 (iL e4.k.AL)::dv L pre post e4 []):=by
   have h2:=He (X:=[]) (L:=L) (pre:=pre) (post:=post) (e:=e4) (s:=[]) (by simpa using hcl hs);simpa using h2
  clear hb1 hb2 hb3 h1 h2;refine Ba e4.k.AL.length (fun k (x:List Bx)=>[(44,eI (Au k))]) (fun k x=> .own e4.vs 1 (iL e4.k.AL)::dv L pre post e4 x) (fun k x=>(Bp kf (pre++e4::(post++x))/\ ∀y∈x,y.k=k0)/\R=(e4.k.AL.drop k).all fun s=>if up.testBit (Bb w s).toNat then can s else !(kf a (p++[s])).Ab) [] rfl ⟨⟨by simpa using got.inv,by simp⟩,hP⟩ hs1 ?_;clear hs hs1 hP hcl;rintro k new Z hk ⟨⟨hinv,hnew⟩,hF⟩ hs;have hck:Au k=k:=AW (by omega);rcases Aw e4.k.AL hk with⟨s,hsk,hlt⟩|hke
  .have hsm:=BY hsk
   have hp2:p.length<2:=by
    rcases Nat.lt_or_ge p.length 2 with h'|h'
    .exact h'
    .rw[hsh h']at hsm;cases hsm
   obtain⟨hs0,hs1⟩:=hsw s hsm;obtain⟨o,ho⟩: ∃o,w.owner[s.toNat]? =some o:=⟨_,CQ (by omega)⟩
   have hoI:Bb w s=o:=by simp only[Bb,Co,ho];rfl
   obtain⟨ho1,ho2⟩:=hw.2.2 o (BY ho);have hwp:=hw.1.1;rw[drop_cons hsk,Jd,hoI]at hF;have hcx:=hcan s hsm
   conv=>whnf
   repeat'((first|clear U K|apply st|(apply zk;intro K U)|refine zY ?_|refine ze fun x hx=>?_|refine zs fun Z hs=>?_|refine Pure.use (MT a p _ hp2) ?_|refine zo fun nn hnn Z hs=>?_|fail)<;>conv=>whnf)
   obtain rfl:x=s:=by rw[hck,FZ,hsk]at hx;exact(Option.some.inj hx).symm
   generalize nn=n7 at *;have hs2:Sat Z ([.box n7 (F7 a (p++[x]))]++Bm L (pre++e4::(post++new))):=HO (X:=[.box n7 (F7 a (p++[x]))]) (hs.perm (.swap _ _ _));clear hs;have hs:=hs2;clear hs2;have c2:=ZV up o hup (by omega) (by omega);cases hbo:up.testBit o.toNat<;>rw[hbo]at hF c2
   .rw [if_neg (by decide)]at hF
    conv=>whnf
    repeat'((first|clear U K|apply st|(apply zk;intro K U)|refine zY ?_|refine zC ?_|fail)<;>conv=>whnf)
    refine(lH w us hinv (a:=a) (p:=p++[x]) (by simp;omega)).use (rest:=[.box n7 (F7 a (p++[x]))]) hs.flip ?_;clear hs;rintro r post' Z ⟨es5,e5,got5,rfl,rfl⟩ hs;have hek5:=congrArg Kn.Ab got5.k;obtain⟨newA,heA,hnA⟩:=got5.ext;obtain⟨pre5,post5,he5⟩:=List.append_of_mem got5.mem;have e7:es5=pre++e4::(post++(new++newA)):=by rw[heA];simp
    have hi7:=got5.inv;rw[e7]at hi7;have hn7: ∀y∈new++newA,y.k=k0:=fun y hy=>(Du.1 hy).elim (hnew y) (hnA y)
    rw[he5]at hs;replace hs:=Jp (X:=[.box n7 (F7 a (p++[x]))]) hs.flip;cases hnx:(kf a (p++[x])).Ab<;>rw[hnx]at hek5 hF<;>rw[hek5]at hs
    all_goals
     refine zz ?_;(repeat clear U K);repeat intro K U
     have hs3:Sat Z (Bm L (pre++e4::(post++(new++newA)))):=by
      rw[<-hek5]at hs;have h3:=Dj (X:=[.box n7 (F7 a (p++[x]))]) (e:=e5) (e':=e5) rfl rfl rfl hs;rw[<-he5,e7]at h3;exact h3.less (List.sublist_append_right _ _)
    .exact⟨hlt,new++newA,rfl,⟨⟨hi7,hn7⟩,by rw[hF];rfl⟩,He (X:=[]) hs3⟩
    .exact AH ⟨_,⟨by rw[hF];rfl,_,got.ext.trans ⟨_,by simp,hn7⟩,hi7,rfl⟩,hs3⟩
   .rw[if_pos rfl]at hF
    cases hcy:can x<;>rw[hcy]at hF hcx
    all_goals
     conv=>whnf
     repeat'((first|clear U K|apply st|(apply zk;intro K U)|refine zY ?_|refine zC ?_|fail)<;>conv=>whnf)
     refine A6 ((hcx _ hinv).use (rest:=[.box n7 (F7 a (p++[x]))]) hs.flip ?_);clear hs;rintro r post' Z ⟨rfl,es6,⟨new6,he6,hn6⟩,hi6,rfl⟩ hs;have e7:es6=pre++e4::(post++(new++new6)):=by rw[he6];simp
     rw[e7]at hi6 hs;have hn7: ∀y∈new++new6,y.k=k0:=fun y hy=>(Du.1 hy).elim (hnew y) (hn6 y)
     have hs3:Sat Z (Bm L (pre++e4::(post++(new++new6)))):=hs.less (List.sublist_append_left _ _);clear hs;have hs:=hs3;refine zz ?_;(repeat clear U K);repeat intro K U
    .exact AH ⟨_,⟨by rw[hF];rfl,_,got.ext.trans ⟨_,by simp,hn7⟩,hi6,rfl⟩,hs3⟩
    .exact⟨hlt,new++new6,rfl,⟨⟨hi6,hn7⟩,by rw[hF];rfl⟩,He (X:=[]) hs3⟩
  .rw[Ad hke,List.all_nil]at hF
   refine zz ?_;(repeat clear U K);repeat intro K U
   exact AH ⟨_,⟨by rw[hF],_,got.ext.trans ⟨_,by simp,hnew⟩,hinv,rfl⟩,HO (X:=[]) hs⟩
 .have h1:Hu e4.k.BJ up=false:=by
   rw[<-Bool.not_eq_true,<-hb3];omega
  exact AH ⟨_,⟨by rw[hP,h1];simp,_,got.ext,got.inv,rfl⟩,hcl hs⟩
end Go.Gl
