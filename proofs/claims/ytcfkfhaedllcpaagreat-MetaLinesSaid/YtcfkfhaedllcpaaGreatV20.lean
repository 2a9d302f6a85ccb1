import Derived.Test.YtcfkfhaedllcpaaGreatV14
import Derived.Test.YtcfkfhaedllcpaaGreatV19
set_option linter.all false
set_option linter.defProp false
set_option maxHeartbeats 8000000
noncomputable section
namespace Go.Gl
open Go.Proofs
attribute [local irreducible] A6 Ar Ah AR AI Ae AQ AT AK Ad AN AO Ay A7 Sat AY A5 Ai W
def rO (p:Prog):Pure zP 21 [.a (BK p)] (.b (BW p).isSome):=by
 refine y3 kZ ?_;have h:=sE p;unfold N8 at h;cases hl:BW p with
 | none=>
   rw[hl]at h
   conv=>whnf
   repeat'((first|clear U K|apply st|(apply zk;intro K U)|refine zn ?_|refine zC ?_|fail)<;>conv=>whnf)
   all_goals exact AF (by first|rfl|simp)
 | some s=>
   rw[hl]at h
   conv=>whnf
   repeat'((first|clear U K|apply st|(apply zk;intro K U)|refine zn ?_|refine zC ?_|fail)<;>conv=>whnf)
   all_goals exact AF (by first|rfl|simp)
def IQ (xs ys:List Int) (f g:Bool):Pure zP 17 [.l (iL xs) f,.l (iL ys) g] (.b (xs==ys)):=by
 refine Pure.fit (by kernel_rfl) fun hf=>?_
 have hx:=Lo hf.1;have hy:=Lo hf.2.1;have hM:=Mx;refine y4 kZ ?_;have hs:=Sn
 conv=>whnf
 repeat'((first|clear U K|apply st|(apply zk;intro K U)|refine zn ?_|(refine zd (fun hc=>?_) (fun hc=>?_)<;>try exact⟨⟩)|fail)<;>conv=>whnf)
 .exact AF (by(have:(xs==ys)=false:=by(simp;intro e;subst e;simp at hc));rw[this])
 have hl:xs.length=ys.length:=by omega
 refine By xs.length (fun k (_:Unit)=>[(13,eI (A9 k))]) (fun _ _=>[]) (fun k _=>(xs==ys)=(xs.drop k==ys.drop k)) () rfl rfl Sat.nil ?_;clear hs;rintro k - Z hk hn hs;by_cases hlt:k<xs.length
 .obtain⟨y,hyk⟩: ∃y,ys[k]? =some y:=⟨_,Cw (by omega)⟩
  conv=>whnf
  repeat'((first|clear U K|apply st|(apply zk;intro K U)|refine zn ?_|(refine fc (fun x hx hlt hc=>?_) (fun hk hc=>?_)<;>(try rw[hc])<;>clear hc)|refine za (fun hc=>?_) fun hc=>?_|fail)<;>conv=>whnf)
  .exact AF (by rw[hn,drop_cons hx,drop_cons hyk];simp[hc])
  .exact⟨hlt,(),rfl,by rw[hn,drop_cons hx,drop_cons hyk,hc];simp,hs⟩
  .omega
 .conv=>whnf
  repeat'((first|clear U K|apply st|(apply zk;intro K U)|refine zn ?_|refine ze fun x hx=>?_|(refine fc (fun x hx hlt hc=>?_) (fun hk hc=>?_)<;>(try rw[hc])<;>clear hc)|(refine zb (fun hc=>?_) (fun hc=>?_)<;>try exact⟨⟩)|fail)<;>conv=>whnf)
  exact AF (by rw[hn,Al hk,Al (by omega)];rfl)
def Rb:List (Fact->Bool)->List Fact->Bool
 | h::r,k::s=>h k&&Rb r s
 | _,_=>true
def pF (f:Fact) (l:List (Fact->Bool)) (g:Fact):Bool:=f.op==g.op&&(f.arg==g.arg&&(f.cls==g.cls&&(f.n==g.n&&(f.path==g.path&&(f.kids.length==g.kids.length&&Rb l g.kids)))))
def Fj (f:Fact):Fact->Bool:=f.H7 pF
def MG (f g:Fact):Fj f g=(f.op==g.op&&(f.arg==g.arg&&(f.cls==g.cls&&(f.n==g.n&&(f.path==g.path&&(f.kids.length==g.kids.length&&Rb (f.kids.map Fj) g.kids)))))):=congrFun (Fact.Dy pF f) g
def Wf {xs ys:List Fact} (h: ∀x∈xs,∀y,Fj x y=true↔x=y) (hl:xs.length=ys.length):Rb (xs.map Fj) ys=true↔xs=ys:=by
 induction xs generalizing ys with
 | nil=>cases ys with
   | nil=>simp[Rb]
   | cons _ _=>simp at hl
 | cons x r ih=>cases ys with
   | nil=>simp at hl
   | cons y s=>
     simp only[E8,Rb,BD,List.cons.injEq];rw[h x (.head _) y,ih (fun x hx=>h x (.tail _ hx)) (by simpa using hl)]
def NX (f g:Fact):Fj f g=true↔f=g:=by
 induction f using Fact.ind generalizing g with
 | h f ih=>
   rw[MG];cases f with
   | mk o a p c n k=>cases g with
     | mk o' a' p' c' n' k'=>
       simp only[Fact.op,Fact.arg,Fact.cls,Fact.n,Fact.path,Fact.kids,BD,EZ,Fact.mk.injEq]at *;constructor
       .rintro⟨rfl,rfl,rfl,rfl,rfl,hl,h⟩
        exact⟨rfl,rfl,rfl,rfl,rfl,(Wf (fun x hx y=>ih x hx y) hl).1 h⟩
       .rintro⟨rfl,rfl,rfl,rfl,rfl,rfl⟩
        exact⟨rfl,rfl,rfl,rfl,rfl,rfl,(Wf (fun x hx y=>ih x hx y) rfl).2 rfl⟩
def mL (f g:Fact):Pure zP 320 [.a (xF f),.a (xF g)] (.b (Fj f g)):=by
 induction f using Fact.ind generalizing g with
 | h f ih=>
   refine Pure.fit (by kernel_rfl) fun hf=>?_
   have⟨h2,h3,h4⟩:=KZ hf.1;have⟨g2,g3,g4⟩:=KZ hf.2.1;have hM:=Mx;refine uG kZ ?_;have hs:=Sn
   conv=>whnf
   repeat'((first|clear U K|apply st|(apply zk;intro K U)|refine zn ?_|refine Pure.use (IQ _ _ _ _) ?_|(refine zd (fun hc=>?_) (fun hc=>?_)<;>try exact⟨⟩)|fail)<;>conv=>whnf)
   rotate_left
   all_goals try exact AF (by rw[MG];simp[*]<;>omega)
   rotate_left
   .have hkl:f.kids.length=g.kids.length:=by omega
    refine By f.kids.length (fun k (_:Unit)=>[(52,eI (A9 k))]) (fun _ _=>[]) (fun k _=>Fj f g=Rb ((f.kids.drop k).map Fj) (g.kids.drop k)) () rfl (by rw[MG];simp[*]) Sat.nil ?_;clear hs;rintro k - Z hk hn hs;by_cases hlt:k<f.kids.length
    .obtain⟨y,hyk⟩: ∃y,g.kids[k]? =some y:=⟨_,Cw (by omega)⟩
     conv=>whnf
     repeat'((first|clear U K|apply st|(apply zk;intro K U)|refine zn ?_|(refine fc (fun x hx hlt hc=>?_) (fun hk hc=>?_)<;>(try rw[hc])<;>clear hc)|fail)<;>conv=>whnf)
     .refine(ih x (Bz hx) y).use ?_
      conv=>whnf
      repeat'((first|clear U K|apply st|(apply zk;intro K U)|refine zn ?_|refine za (fun hc=>?_) fun hc=>?_|fail)<;>conv=>whnf)
      .exact AF (by rw[hn,drop_cons hx,drop_cons hyk,E8,Rb,hc];rfl)
      .exact⟨hlt,(),rfl,by rw[hn,drop_cons hx,drop_cons hyk,E8,Rb,hc];rfl,hs⟩
     .omega
    .conv=>whnf
     repeat'((first|clear U K|apply st|(apply zk;intro K U)|refine zn ?_|refine ze fun x hx=>?_|(refine fc (fun x hx hlt hc=>?_) (fun hk hc=>?_)<;>(try rw[hc])<;>clear hc)|fail)<;>conv=>whnf)
     all_goals first|(exfalso;omega)|exact AF (by rw[hn,Al hk];rfl)
def Fi (f:Fact):Fact:= .mk 5 0 [] 0 0 [f]
def Of (f g:Fact):Fact:= .mk 6 0 [] 0 0 [f,g]
def gJ (f:Fact):Pure zP 194 [.a (xF f)] (.a (xF (Fi f))):=by
 refine vT kZ ?_;have hs:=Sn
 conv=>whnf
 repeat'((first|clear U K|apply st|(apply zk;intro K U)|refine zX ?_|refine zr fun Z hs=>?_|refine zp fun nn hnn Z hs=>?_|fail)<;>conv=>whnf)
 refine Ab (.a (.cons (.refl _) (.cons (.refl _) (.cons II (.cons (.refl _) (.cons (.refl _) (.cons ?_ .nil)))))));refine .l (fun h=>by cases h) ?_;simp only[Fi,Fact.kids,List.map,BX];exact Eg _
def wi (f g:Fact):Pure zP 193 [.a (xF f),.a (xF g)] (.a (xF (Of f g))):=by
 refine vU kZ ?_;have hs:=Sn
 conv=>whnf
 repeat'((first|clear U K|apply st|(apply zk;intro K U)|refine zX ?_|refine zr fun Z hs=>?_|refine zp fun nn hnn Z hs=>?_|fail)<;>conv=>whnf)
 refine Ab (.a (.cons (.refl _) (.cons (.refl _) (.cons II (.cons (.refl _) (.cons (.refl _) (.cons ?_ .nil)))))));refine .l (fun h=>by cases h) ?_;simp only[Of,Fact.kids,List.map,BX];exact Eg _
def GO (l:Fact):Prop:=l.op=5->l.kids≠[]
def Av (l:Fact):Fact×Bool:=if l.op=5 then(l.kids.headD default,true)else(l,false)
def Hi (l:Fact) (h:GO l):Pure zP 355 [.a (xF l)] (.t [.a (xF (Av l).1),.b (Av l).2]):=by
 refine Pure.fit (by kernel_rfl) fun hf=>?_
 have⟨h2,h3,h4⟩:=KZ hf.1;refine tn kZ ?_;have hs:=Sn;by_cases h5:l.op=5
 .have hk:0<l.kids.length:=List.length_pos_iff.2 (h h5)
  conv=>whnf
  repeat'((first|clear U K|apply st|(apply zk;intro K U)|refine zX ?_|refine ze fun x hx=>?_|refine zr fun Z hs=>?_|(refine zb (fun hc=>?_) (fun hc=>?_)<;>try exact⟨⟩)|refine zp fun nn hnn Z hs=>?_|fail)<;>conv=>whnf)
  all_goals try(exfalso;omega)
  refine AF ?_
  have:l.kids.headD default=x:=by
   cases hl:l.kids with
   | nil=>rw[hl]at hk;simp at hk
   | cons y r=>rw[hl]at hx;simpa using hx
  simp only[Av,if_pos h5,this];rfl
 .conv=>whnf
  repeat'((first|clear U K|apply st|(apply zk;intro K U)|refine zX ?_|refine zr fun Z hs=>?_|(refine zb (fun hc=>?_) (fun hc=>?_)<;>try exact⟨⟩)|refine zp fun nn hnn Z hs=>?_|fail)<;>conv=>whnf)
  all_goals try(exfalso;omega)
  refine AF ?_;simp only[Av,if_neg h5];rfl
def Br (path pre:List Int):Bool:=decide (pre.length<=path.length)&&path.take pre.length==pre
def S7 (xs ys:List Int) (f g:Bool):Pure zP 380 [.l (iL xs) f,.l (iL ys) g] (.b (Br xs ys)):=by
 refine Pure.fit (by kernel_rfl) fun hf=>?_
 have hx:=Lo hf.1;have hy:=Lo hf.2.1;have hM:=Mx;refine tW kZ ?_;have hs:=Sn
 conv=>whnf
 repeat'((first|clear U K|apply st|(apply zk;intro K U)|refine zX ?_|refine Pure.use (IQ _ _ _ _) ?_|(refine zd (fun hc=>?_) (fun hc=>?_)<;>try exact⟨⟩)|fail)<;>conv=>whnf)
 .refine AF ?_
  have:ys.length<=xs.length:=by omega
  simp[Br,this]
 .refine AF ?_
  have: ¬ys.length<=xs.length:=by omega
  simp[Br,this]
def Gs (w:AH) (ls:List Fact) (a:Int) (p:List Int) (c:Bool):List V:=[.l (Ek w.parents) false,.l (iL w.owner) false,.l (facts ls) false,eI a,.l (iL p) false,.b c]
def Jq (w:AH) (ls:List Fact) (a:Int) (p:List Int) (c:Bool) (s:Int) (hp:p.length<100):Pure zP 358 [.a (Gs w ls a p c),eI s] (.a (Gs w ls a (p++[s]) c)):=by
 have hM:=Mx;refine tj kZ ?_;have hs:=Sn
 conv=>whnf
 repeat'((first|clear U K|apply st|(apply zk;intro K U)|refine zX ?_|refine zp fun nn hnn Z hs=>?_|fail)<;>conv=>whnf)
 replace hs:=FA hs 1;refine GP hs 1 (xs:=[]) (ys:=p) rfl (by simp;omega) Bc fun v Z hs=>?_
 conv=>whnf
 repeat'((first|apply st|refine zX ?_|refine rk ?_ ?_|exact fun s e=>by cases e;rfl|refine aq fun v Z hs hsl=>?_|fail)<;>conv=>whnf)
 obtain⟨n,l,cc,rfl⟩:=fM hsl
 conv=>whnf
 repeat'((first|clear U K|apply st|refine zX ?_|refine zr fun Z hs=>?_|fail)<;>conv=>whnf)
 exact Ab (.a (.cons (.refl _) (.cons (.refl _) (.cons (.refl _) (.cons (.refl _) (.cons (hs.HP 1 rfl) (.cons (.refl _) .nil)))))))
def G4 (a:Int) (p:List Int) (l:Fact):Bool:=(Av l).1.arg==a&&(Av l).1.path==p
def GX {w:AH} {ls:List Fact} {a:Int} {p:List Int} {c:Bool} (h:Eu (.a (Gs w ls a p c))):ls.length<=AX/\p.length<=AX/\w.owner.length<=AX/\w.parents.length<=AX:=by
 simp only[Gs,GV,C9,Ex,BL]at h;exact⟨h.2.2.1.1,h.2.2.2.2.1.1,h.2.1.1,h.1.1⟩
def fQ (w:AH) (ls:List Fact) (a:Int) (p:List Int) (c:Bool) (hok: ∀l∈ls,GO l) (hln:ls.length<=1000000):Pure zP 354 [.a (Gs w ls a p c)] (.l (facts (ls.filter (G4 a p))) false):=by
 refine Pure.fit (by kernel_rfl) fun hf=>?_
 have⟨h1,h2,h3,h4⟩:=GX hf.1;have hM:=Mx;refine tp kZ ?_;have hs:=Sn;refine zv ?_;(repeat clear U K);repeat intro K U
 refine By ls.length (fun k v=>[(3,v),(11,eI (A9 k))]) (fun k v=>[.own v 6 (facts ((ls.take k).filter (G4 a p)))]) (fun _ _=>True) (.l [] true) rfl trivial (FA hs 6) ?_;clear hs;rintro k v Z hk - hs;have hfl:=Q8 (G4 a p) (ls.take k)
 conv=>whnf
 repeat'((first|clear U K|apply st|(apply zk;intro K U)|refine zX ?_|refine zr fun Z hs=>?_|refine apF fun v Z hs hsl=>?_|(refine fc (fun x hx hlt hc=>?_) (fun hk hc=>?_)<;>(try rw[hc])<;>clear hc)|refine Pure.use (Hi _ (hok _ (Bz (by assumption)))) ?_|refine Pure.use (IQ _ _ _ _) ?_|refine za (fun hc=>?_) fun hc=>?_|refine zp fun nn hnn Z hs=>?_|fail)<;>conv=>whnf)
 .exact⟨hlt,_,rfl,trivial,by rw[AL hx,List.filter_append];simpa[G4, *]using hs.take 1⟩
 .exact⟨hlt,_,rfl,trivial,by rw[AL hx,List.filter_append];simpa[G4, *]using hs.take 1⟩
 .exact⟨hlt,_,rfl,trivial,by rw[AL hx,List.filter_append];simpa[G4, *]using hs.take 1⟩
 .exact EF hs 0 rfl (by rw[Ap hk])
def EC (ls:List Fact) (a:Int) (p:List Int):Bool:=ls.all fun l=>(Av l).2|| !((Av l).1.arg==a&&Br (Av l).1.path p)
def an (w:AH) (ls:List Fact) (a:Int) (p:List Int) (c:Bool) (hok: ∀l∈ls,GO l):Pure zP 359 [.a (Gs w ls a p c)] (.b (EC ls a p)):=by
 refine Pure.fit (by kernel_rfl) fun hf=>?_
 have⟨h1,h2,h3,h4⟩:=GX hf.1;have hM:=Mx;refine ti kZ ?_;have hs:=Sn;refine zv ?_;(repeat clear U K);repeat intro K U
 refine By ls.length (fun k (_:Unit)=>[(10,eI (A9 k))]) (fun k _=>[]) (fun k _=>EC ls a p=(ls.drop k).all fun l=>(Av l).2|| !((Av l).1.arg==a&&Br (Av l).1.path p)) () rfl rfl hs ?_;clear hs;rintro k - Z hk hn hs
 conv=>whnf
 repeat'((first|clear U K|apply st|(apply zk;intro K U)|refine zX ?_|refine zr fun Z hs=>?_|(refine fc (fun x hx hlt hc=>?_) (fun hk hc=>?_)<;>(try rw[hc])<;>clear hc)|refine Pure.use (Hi _ (hok _ (Bz (by assumption)))) ?_|refine Pure.use (S7 _ _ _ _) ?_|refine za (fun hc=>?_) fun hc=>?_|refine zp fun nn hnn Z hs=>?_|fail)<;>conv=>whnf)
 .exact AF (by rw[hn,drop_cons hx,KK];simp[*])
 .exact⟨hlt,(),rfl,by rw[hn,drop_cons hx,KK];simp[*],hs.take 0⟩
 .exact⟨hlt,(),rfl,by rw[hn,drop_cons hx,KK];simp[*],hs.take 0⟩
 .exact⟨hlt,(),rfl,by rw[hn,drop_cons hx,KK];simp[*],hs.take 0⟩
 .exact AF (by rw[hn,Al hk];rfl)
def Cq (n:Nat):List Int:=(List.range n).map Int.ofNat
def OI (n:Nat):Cq (n+1)=Cq n++[(n:Int)]:=by simp[Cq,List.range_succ]
def IT (n:Nat):(Cq n).length=n:=by simp[Cq]
def Y8 (a:Int) (p:List Int) (s:Int) (l:Fact):Bool:=(Av l).1.arg==a&&Br (Av l).1.path (p++[s])
def Bj (n:Nat) (ls:List Fact) (a:Int) (p:List Int):List Int:=(Cq n).filter fun s=>ls.any (Y8 a p s)
def Vt (w:AH) (ls:List Fact) (a:Int) (p:List Int) (c:Bool) (hok: ∀l∈ls,GO l) (hp:p.length<100) :
    Pure zP 357 [.a (Gs w ls a p c)] (.l (iL (Bj w.owner.length ls a p)) false):=by
 refine Pure.fit (by kernel_rfl) fun hf=>?_
 have⟨h1,h2,h3,h4⟩:=GX hf.1;have hM:=Mx;refine tk kZ ?_;have hs:=Sn;refine zv ?_;(repeat clear U K);repeat intro K U
 refine By w.owner.length (fun k v=>[(3,v),(14,eI (A9 k))]) (fun k v=>[.own v 1 (iL (Bj k ls a p))]) (fun _ _=>True) (.l [] true) rfl trivial (FA hs 1) ?_;clear hs;rintro k v Z hk - hs;have hck:A9 k=k:=AM (by omega);have hfl:=Q8 (fun s=>ls.any (Y8 a p s)) (Cq k);rw[IT]at hfl;have hfl2:(Bj k ls a p).length<=k:=hfl
 conv=>whnf
 repeat'((first|clear U K|apply st|(apply zk;intro K U)|refine zX ?_|(refine fc (fun x hx hlt hc=>?_) (fun hk hc=>?_)<;>(try rw[hc])<;>clear hc)|fail)<;>conv=>whnf)
 .refine By ls.length (fun j b=>[(5,.b b),(20,eI (A9 j))]) (fun j _=>[.own v 1 (iL (Bj k ls a p))]) (fun j b=>b=(ls.take j).any (Y8 a p (A9 k))) false rfl (by simp) hs ?_
  clear hs;rintro j b Z hj hb hs;subst hb
  conv=>whnf
  repeat'((first|clear U K|apply st|(apply zk;intro K U)|refine zX ?_|refine rk ?_ ?_|exact fun s e=>by cases e;rfl|refine zr fun Z hs=>?_|refine aq fun v Z hs hsl=>?_|(refine fc (fun x hx hlt hc=>?_) (fun hk hc=>?_)<;>(try rw[hc])<;>clear hc)|refine Pure.use (Hi _ (hok _ (Bz (by assumption)))) ?_|refine Pure.use (S7 _ _ _ _) ?_|refine Pure.use (Jq _ _ _ _ _ _ (by omega)) ?_|(refine zd (fun hc=>?_) (fun hc=>?_)<;>try exact⟨⟩)|refine zp fun nn hnn Z hs=>?_|fail)<;>conv=>whnf)
  .exact⟨hlt,_,rfl,by rw[AL hx,List.any_append];simp[Y8, *],hs.take 1⟩
  .exact⟨hlt,_,rfl,by rw[AL hx,List.any_append];simp[Y8, *],hs.take 1⟩
  .exact⟨hlt,true,rfl,by rw[AL hx,List.any_append];simp[*],hs.take 1⟩
  .refine⟨by assumption,_,rfl,trivial,?_⟩
   rw[Ap hk]at hc;rw[Bj,OI,List.filter_append];simp only[Bj]at hs;simpa[hc,hck]using hs
  .refine⟨by assumption,_,rfl,trivial,?_⟩
   rw[Ap hk]at hc;rw[Bj,OI,List.filter_append];simp only[Bj]at hs;simpa[hc,hck]using hs
 .exact EF hs 0 rfl (by rw[hk])
def FJ (n:Nat) (ls:List Fact) (a:Int) (p:List Int):Bool:=(Bj n ls a p).all fun s=>EC ls a (p++[s])
def aR (w:AH) (ls:List Fact) (a:Int) (p:List Int) (c:Bool) (hok: ∀l∈ls,GO l) (hp:p.length<50):Pure zP 356 [.a (Gs w ls a p c)] (.b (FJ w.owner.length ls a p)):=by
 refine Pure.fit (by kernel_rfl) fun hf=>?_
 have⟨h1,h2,h3,h4⟩:=GX hf.1;have hM:=Mx;refine tl kZ ?_;have hs:=Sn;have hfl:=Q8 (fun s=>ls.any (Y8 a p s)) (Cq w.owner.length);rw[IT]at hfl;have hfl2:(Bj w.owner.length ls a p).length<=w.owner.length:=hfl
 conv=>whnf
 repeat'((first|clear U K|apply st|(apply zk;intro K U)|refine zX ?_|refine Pure.use (Vt _ _ _ _ _ hok (by omega)) ?_|fail)<;>conv=>whnf)
 refine By (Bj w.owner.length ls a p).length (fun k (_:Unit)=>[(8,eI (A9 k))]) (fun k _=>[]) (fun k _=>FJ w.owner.length ls a p=((Bj w.owner.length ls a p).drop k).all fun s=>EC ls a (p++[s])) () rfl rfl hs ?_;clear hs;rintro k - Z hk hn hs
 conv=>whnf
 repeat'((first|clear U K|apply st|(apply zk;intro K U)|refine zX ?_|(refine fc (fun x hx hlt hc=>?_) (fun hk hc=>?_)<;>(try rw[hc])<;>clear hc)|refine Pure.use (Jq _ _ _ _ _ _ (by omega)) ?_|refine Pure.use (an _ _ _ _ _ hok) ?_|refine za (fun hc=>?_) fun hc=>?_|fail)<;>conv=>whnf)
 .exact AF (by rw[hn,drop_cons hx,KK];simp[*])
 .exact⟨hlt,(),rfl,by rw[hn,drop_cons hx,KK];simp[*],hs⟩
 .exact AF (by rw[hn,Al hk];rfl)
def Kr (ls:List Fact):Prop:= ∀l∈ls,-1000000000<=(Av l).1.n/\(Av l).1.n<=1000000000
def HV (x:Fact×Bool) (t:Int×Int×List Int):Option (Int×Int×List Int):=
 if x.1.op=2 then if decide (x.1.cls > 1) != x.2 then none else some t
 else if x.1.op=3 then(if x.2 then some (if x.1.n > t.1 then x.1.n else t.1,t.2.1,t.2.2)else some (t.1,if x.1.n - 1<t.2.1 then x.1.n - 1 else t.2.1,t.2.2))
 else if x.2 then some (t.1,t.2.1,t.2.2++[x.1.n])else some (if x.1.n > t.1 then x.1.n else t.1,if x.1.n<t.2.1 then x.1.n else t.2.1,t.2.2)
def foldI:List Fact->Int×Int×List Int->Option (Int×Int×List Int)
 | [],t=>some t
 | x::r,t=>(HV (Av x) t).bind (foldI r)
def Nq: ∀(xs ys:List Fact) (t:Int×Int×List Int),foldI (xs++ys) t=(foldI xs t).bind (foldI ys)
 | [],_,_=>rfl
 | x::r,ys,t=>by
   simp only[List.cons_append,foldI];cases HV (Av x) t with
   | none=>rfl
   | some u=>exact Nq r ys u
def Gd {os:List Fact} {k:Nat} {x:Fact} (hx:os[k]? =some x) (t:Int×Int×List Int):foldI (os.take (k+1)) t=(foldI (os.take k) t).bind (HV (Av x)):=by
 rw[AL hx,Nq];congr 1;funext u;simp only[foldI];cases HV (Av x) u<;>rfl
def Yk {os:List Fact} (k:Nat) {t:Int×Int×List Int} (h:foldI (os.take k) t=none):foldI os t=none:=by
 rw[<-List.take_append_drop k os,Nq,h];rfl
def TO (no:List Int):Nat->Int->Option Int
 | 0,_=>none
 | k+1,n=>if no.all (· != n)then some n else TO no k (n+1)
def PK (t:Int×Int×List Int):Option Int:=TO t.2.2 (t.2.1+1 - t.1).toNat t.1
def t0:Int×Int×List Int:=(-1000000000,1000000000,[])
def I9 (ls:List Fact) (a:Int) (p:List Int):Option Int:=(foldI (ls.filter (G4 a p)) t0).bind PK
def bc (n:Nat) (ls:List Fact) (a:Int) (p:List Int):V:=match I9 ls a p with
 | some x=> .t [eI x,.b (FJ n ls a p)]
 | none=> .t [eI 0,.b false]
def Qk (w : AH) (ls:List Fact) (a:Int) (p:List Int) (c:Bool) (hokL: ∀l∈ls,GO l) (hln:ls.length<=1000000) (hp:p.length<50) (hsm:Kr ls):Pure zP 321 [.a (Gs w ls a p c)] (bc w.owner.length ls a p):=by
 refine Pure.fit (by kernel_rfl) fun hf=>?_
 have⟨h1,h2,h3,h4⟩:=GX hf.1;have hM:=Mx;refine uF kZ ?_;have hs:=Sn;have hfl:=Q8 (G4 a p) ls;have hok2: ∀l∈ls.filter (G4 a p),GO l:=fun l hl=>hokL l ((LX.1 hl).1)
 have hsm2:Kr (ls.filter (G4 a p)):=fun l hl=>hsm l ((LX.1 hl).1)
 conv=>whnf
 repeat'((first|clear U K|apply st|(apply zk;intro K U)|refine zX ?_|refine Pure.use (fQ _ _ _ _ _ hokL hln) ?_|fail)<;>conv=>whnf)
 generalize hos:ls.filter (G4 a p)=os at *;have hV:I9 ls a p=(foldI os t0).bind PK:=by rw[I9,hos]
 refine By os.length (fun k (x:Int×Int×List Int×V)=>[(4,eI x.1),(5,eI x.2.1),(6,x.2.2.2),(18,eI (A9 k))]) (fun k x=>[.own x.2.2.2 1 (iL x.2.2.1)]) (fun k x=>foldI (os.take k) t0=some (x.1,x.2.1,x.2.2.1)/\ -1000000000<=x.1/\x.1<=1000000000/\ -1000000001<=x.2.1/\x.2.1<=1000000000/\x.2.2.1.length<=k) (-1000000000,1000000000,[],.l [] true) rfl ⟨rfl,by simp⟩ (FA hs 1) ?_;clear hs;rintro k ⟨low,high,no,v⟩ Z hk ⟨hno,hb1,hb2,hb3,hb4,hb5⟩ hs;simp only at hb1 hb2 hb3 hb4 hb5 hno;have hok:=hok2
 conv=>whnf
 repeat'((first|clear U K|apply st|(apply zk;intro K U)|refine zX ?_|refine zr fun Z hs=>?_|refine aq fun v Z hs hsl=>?_|(refine fc (fun x hx hlt hc=>?_) (fun hk hc=>?_)<;>(try rw[hc])<;>clear hc)|refine Pure.use (Hi _ (hok _ (Bz (by assumption)))) ?_|(refine zb (fun hc=>?_) (fun hc=>?_)<;>try exact⟨⟩)|refine zp fun nn hnn Z hs=>?_|fail)<;>conv=>whnf)
 all_goals first
  | (have hb:=hsm2 _ (Bz hx)
     first
      | (refine⟨hlt,(_,_,_,_),rfl,⟨?_,?_⟩,hs.take 1⟩
         .rw[Gd hx,hno]
          have hw:IntKind.i64.wrap ((Av ‹Fact›).1.n - 1)=(Av ‹Fact›).1.n - 1:=wrap64 (by omega) (by omega);simp[HV, *]
          done
         .have hw:IntKind.i64.wrap ((Av ‹Fact›).1.n - 1)=(Av ‹Fact›).1.n - 1:=wrap64 (by omega) (by omega)
          simp only[Ro,List.length_singleton,hw]
          refine⟨?_,?_,?_,?_,?_⟩<;>(try split)<;>omega)
      | (refine AF ?_
         have:foldI os t0=none:=Yk (k+1) (by rw[Gd hx,hno];simp[HV, *]);rw[this]at hV;simp only[bc,hV]
         rfl))
  | skip
 .have hb:=hsm2 _ (Bz hx)
  refine⟨hlt,(if(Av x).1.n > low then(Av x).1.n else low,high,no,v),rfl,⟨?_,?_⟩,hs.take 1⟩
  .rw[Gd hx,hno]
   simp[HV, *]
  .dsimp only
   refine⟨?_,?_,?_,?_,?_⟩<;>(try split)<;>omega
 .have hb:=hsm2 _ (Bz hx)
  have hw:IntKind.i64.wrap ((Av x).1.n - 1)=(Av x).1.n - 1:=wrap64 (by omega) (by omega);rw[hw];refine⟨hlt,(low,if(Av x).1.n - 1<high then(Av x).1.n - 1 else high,no,v),rfl,⟨?_,?_⟩,hs.take 1⟩
  .rw[Gd hx,hno]
   simp[HV, *]
  .dsimp only
   refine⟨?_,?_,?_,?_,?_⟩<;>(try split)<;>omega
 .have hb:=hsm2 _ (Bz hx)
  refine⟨hlt,(if(Av x).1.n > low then(Av x).1.n else low,if(Av x).1.n<high then(Av x).1.n else high,no,v),rfl,⟨?_,?_⟩,hs.take 1⟩
  .rw[Gd hx,hno]
   simp[HV, *]
  .dsimp only
   refine⟨?_,?_,?_,?_,?_⟩<;>(try split)<;>omega
 rw[Ap (by assumption)]at hno;have hV2:I9 ls a p=PK (low,high,no):=by rw[hV,hno];rfl
 dsimp only;refine DF (fun n:Int=>(high+1 - n).toNat) (fun n=>[(11,eI n)]) (fun _=>[.own v 1 (iL no)]) (fun n=>low<=n/\n<=1000000001/\I9 ls a p=TO no (high+1 - n).toNat n) low rfl ⟨by omega,by omega,hV2⟩ hs ?_;clear hs;rintro n Z ⟨hn1,hn2,hn⟩ hs;have hnl:no.length<=AX:=by omega
 conv=>whnf
 repeat'((first|clear U K|apply st|(apply zk;intro K U)|refine zX ?_|refine za (fun hc=>?_) fun hc=>?_|fail)<;>conv=>whnf)
 .refine By no.length (fun j b=>[(12,.b b),(80,eI (A9 j))]) (fun j _=>[.own v 1 (iL no)]) (fun j b=>b=(no.take j).all (· != n)) true rfl (by simp) hs ?_
  clear hs;rintro j b Z hj hb hs;subst hb
  conv=>whnf
  repeat'((first|clear U K|apply st|(apply zk;intro K U)|refine zX ?_|(refine fc (fun x hx hlt hc=>?_) (fun hk hc=>?_)<;>(try rw[hc])<;>clear hc)|refine Pure.use (aR _ _ _ _ _ hokL (by omega)) ?_|refine za (fun hc=>?_) fun hc=>?_|fail)<;>conv=>whnf)
  .exact⟨hlt,_,rfl,by rw[AL hx,List.all_append,hc];simp,hs⟩
  .exact⟨hlt,false,rfl,by rw[AL hx,List.all_append,hc];simp,hs⟩
  .refine AF ?_
   rw[Ap hk]at hc;rw[show(high+1 - n).toNat=(high - n).toNat+1 by omega,TO,if_pos hc]at hn;simp only[bc,hn]
  .rw[Ap hk]at hc
   rw[show(high+1 - n).toNat=(high+1 - (n+1)).toNat+1 by omega,TO,if_neg (by simp[hc])]at hn;rw[wrap64 (by omega) (by omega)];exact⟨n+1,by omega,rfl,⟨by omega,by omega,hn⟩,hs⟩
 .refine AF ?_
  have:(high+1 - n).toNat=0:=by omega
  rw[this,TO]at hn;simp only[bc,hn]
def Il (x:Fact×Bool):Bool:=((x.1.op==2&&(x.1.cls==0||x.1.cls==2))==x.2)
def HZ (n:Nat) (ls:List Fact) (a:Int) (p:List Int):Bool:=(ls.filter (G4 a p)).all (fun l=> !Il (Av l))&&FJ n ls a p
def Z0 (w:AH) (ls:List Fact) (a:Int) (p:List Int) (c:Bool) (hokL: ∀l∈ls,GO l) (hln:ls.length<=1000000) (hp:p.length<50):Pure zP 322 [.a (Gs w ls a p c)] (.b (HZ w.owner.length ls a p)):=by
 refine Pure.fit (by kernel_rfl) fun hf=>?_
 have⟨h1,h2,h3,h4⟩:=GX hf.1;have hM:=Mx;refine uE kZ ?_;have hs:=Sn;have hfl:=Q8 (G4 a p) ls;have hok: ∀l∈ls.filter (G4 a p),GO l:=fun l hl=>hokL l (LX.1 hl).1
 conv=>whnf
 repeat'((first|clear U K|apply st|(apply zk;intro K U)|refine zX ?_|refine Pure.use (fQ _ _ _ _ _ hokL hln) ?_|fail)<;>conv=>whnf)
 generalize hos:ls.filter (G4 a p)=os at *;have hV:HZ w.owner.length ls a p=(os.all (fun l=> !Il (Av l))&&FJ w.owner.length ls a p):=by rw[HZ,hos]
 refine By os.length (fun k (_:Unit)=>[(11,eI (A9 k))]) (fun k _=>[]) (fun k _=>HZ w.owner.length ls a p=((os.drop k).all (fun l=> !Il (Av l))&&FJ w.owner.length ls a p)) () rfl hV hs ?_;clear hs;rintro k - Z hk hn hs
 conv=>whnf
 repeat'((first|clear U K|apply st|(apply zk;intro K U)|refine zX ?_|refine zr fun Z hs=>?_|(refine fc (fun x hx hlt hc=>?_) (fun hk hc=>?_)<;>(try rw[hc])<;>clear hc)|refine Pure.use (Hi _ (hok _ (Bz (by assumption)))) ?_|refine Pure.use (aR _ _ _ _ _ hokL (by omega)) ?_|refine za (fun hc=>?_) fun hc=>?_|refine zp fun nn hnn Z hs=>?_|fail)<;>conv=>whnf)
 all_goals first
  | (have hst:Il (Av x)=true:=by clear hV hn;cases hz:(Av x).2<;>cases hy:((Av x).1.cls==2)<;>simp_all [Il]
     exact AF (by rw[hn,drop_cons hx,KK,hst];simp))
  | (have hst:Il (Av x)=false:=by clear hV hn;cases hz:(Av x).2<;>cases hy:((Av x).1.cls==2)<;>simp_all [Il]
     exact⟨hlt,(),rfl,by rw[hn,drop_cons hx,KK,hst];simp,hs.take 0⟩)
  | exact AF (by rw[hn,Al (by assumption)];simp)
end Go.Gl
