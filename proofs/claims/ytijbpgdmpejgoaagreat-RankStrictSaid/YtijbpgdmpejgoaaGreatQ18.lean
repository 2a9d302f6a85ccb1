import Derived.Test.YtijbpgdmpejgoaaGreatQ11
import Derived.Test.YtijbpgdmpejgoaaGreatQ13
import Derived.Test.YtijbpgdmpejgoaaGreatQ15
import Derived.Test.YtijbpgdmpejgoaaGreatQ17
set_option linter.all false
set_option linter.unusedVariables false
set_option linter.unusedSimpArgs false
namespace Go.Gl
open Go.Proofs
attribute [local irreducible] BQ BJ A5 Ab AQ A4 Ac Af AR Az AW Aa BT Bf Sat An BZ A6 W
theorem ky (p:Prog) (L:Nat) (g:Int):Pure Tryz.prog 49 [Kw p L,eI g] (.b (Uf p g)):=by
 refine Pure.fit (by kernel_rfl) fun hf=>?_
 have hM:=Mx;refine oh nb ?_;have hs:=Sn
 conv=>whnf
 repeat'((first|refine st ?_|(refine sq ?_;intro K U)|(refine si ?_;intro A B Y Z)|(refine Y _ _ ?_;clear Z B Y A)|(refine U _ _ ?_;clear U K)|refine⟨rfl,?_⟩|(constructor<;>intro hc<;>(try rw[hc])<;>(replace hc:=bp hc))|fail)<;>conv=>whnf)
 all_goals exact AY (by simp[Uf, *]<;>omega)
theorem aJ (g:Int):Pure Tryz.prog 49 [.pn,eI g] (.b false):=by
 refine oh nb ?_;have hs:=Sn
 conv=>whnf
 repeat'((first|refine st ?_|(refine sq ?_;intro K U)|(refine si ?_;intro A B Y Z)|(refine Y _ _ ?_;clear Z B Y A)|(refine U _ _ ?_;clear U K)|refine G5 ?_|fail)<;>conv=>whnf)
 all_goals exact AY rfl
theorem ZQ (p:Prog) (L:Nat) (g:Int):Pure Tryz.prog 50 [Kw p L,eI g] (.f (.func 75) [] [.rp [Kw p L],.rp [eI g]]):=by
 refine yb nb ?_;have hs:=Sn
 conv=>whnf
 repeat'((first|refine st ?_|(refine sq ?_;intro K U)|(refine si ?_;intro A B Y Z)|(refine Y _ _ ?_;clear Z B Y A)|(refine U _ _ ?_;clear U K)|fail)<;>conv=>whnf)
 all_goals exact AY rfl
theorem aY (xs:List (Int×Int)) (v:V) (hl:xs.length≤Ax):Bx Tryz.prog 51 [v] [.own v 2 (pP xs)] fun r post=>r= .ret (.l (pP xs) true)∧post= []:=by
 intro σ hs;have hg:=FU U0 xs;refine ya nb ?_
 conv=>whnf
 repeat'((first|(refine sq ?_;intro K U)|(refine si ?_;intro A B Y Z)|(refine Y _ _ ?_;clear Z B Y A)|(refine U _ _ ?_;clear U K)|refine lo ?_|fail)<;>conv=>whnf)
 refine Zn (i:=0) hs rfl hg.1 (by simpa using hl) fun σ hs=>?_
 conv=>whnf
 repeat'((first|refine st ?_|(refine Y _ _ ?_;clear Z B Y A)|(refine U _ _ ?_;clear U K)|fail)<;>conv=>whnf)
 exact BU hs (List.Sublist.refl _) (.refl _) fun σ' hs'=>⟨_,⟨rfl,rfl⟩,hs'⟩
def K2 (M:List (Int×Int)) (x:Int×Int):List (Int×Int):=if M.contains x then M else M++[x]
def Uo (p:Prog) (M:List (Int×Int)) (m n:Int):List (Int×Int):=if EA p m n then K2 (K2 M (m,n)) (n,m)else K2 M (m,n)
theorem HM (p:Prog) (L:Nat) (m n:Int) (hk:Hs p) (hgw:Er (Ar p)) (hfm: ∀x∈p.methods,GY (Ar p) x.fact=true) (hm:CL p m=true) (hn:CL p n=true) (M:List (Int×Int)) :
 Bx Tryz.prog 54 [Kw p L,eI m,eI n] [.map L (I4 p M)] fun r post=>r= .ret (.b (EA p m n))∧post= [.map L (I4 p (K2 M (m,n)))]:=by
 intro σ hs;have hxm:=EM hm;have hxn:=EM hn;have hmm:=Fo hxm;have hmn:=Fo hxn;have hip:=Yy (Ar p) hgw (Ct p m).fact (Ct p n).fact (hfm _ hmm) (hfm _ hmn) (hk.facts _ hmm).1 (hk.facts _ hmn).1 (by have:=(hk.facts _ hmm).2;have:=(hk.facts _ hmn).2;omega);simp only[CL,BO,DU]at hm hn;have hfd:=S7 p (m,n) M;refine yZ nb ?_;cases hc:M.contains (m,n)
 ·rw[hc,if_neg (by decide)]at hfd
  conv=>whnf
  repeat'((first|refine st ?_|(refine sq ?_;intro K U)|(refine si ?_;intro A B Y Z)|(refine Y _ _ ?_;clear Z B Y A)|(refine U _ _ ?_;clear U K)|refine dr ?_|refine⟨nb,?_⟩|refine Y7 ?_|refine ld ?_|refine GM fun σ hs=>?_|refine MM ?_|refine Qh hs 1 rfl rfl (Ni _ _) hfd ?_|refine J2 hs 1 rfl rfl (Ni _ _) fun σ hs=>?_|refine Pure.use hip ?_|(intro nn hnn;generalize hg:BI _ nn _=σ;refine D8 hg fun hs=>?_;clear hg)|fail)<;>conv=>whnf)
  replace hs:Sat σ [.box nn [eI m,eI n],.map L (DW (kM (m,n)) (.b (EA p m n)) (I4 p M))]:=hs;rw[Wr p (m,n) M hc]at hs;exact AO ⟨_,⟨rfl,rfl⟩,by rw[K2,hc];exact hs.less (List.sublist_cons_self _ _)⟩
 ·rw[hc,if_pos rfl]at hfd
  conv=>whnf
  repeat'((first|refine st ?_|(refine sq ?_;intro K U)|(refine si ?_;intro A B Y Z)|(refine Y _ _ ?_;clear Z B Y A)|(refine U _ _ ?_;clear U K)|refine dr ?_|refine⟨nb,?_⟩|refine ld ?_|refine GM fun σ hs=>?_|refine G5 ?_|refine Qh hs 1 rfl rfl (Ni _ _) hfd ?_|(intro nn hnn;generalize hg:BI _ nn _=σ;refine D8 hg fun hs=>?_;clear hg)|fail)<;>conv=>whnf)
  exact AO ⟨_,⟨rfl,rfl⟩,by rw[K2,hc];exact hs.less (List.sublist_cons_self _ _)⟩
theorem cn (p:Prog) (L:Nat) (m n:Int) (hk:Hs p) (hgw:Er (Ar p)) (hfm: ∀x∈p.methods,GY (Ar p) x.fact=true) (hm:CL p m=true) (hn:CL p n=true) (M:List (Int×Int)) :
 Bx Tryz.prog 45 [Kw p L,eI m,eI n] [.map L (I4 p M)] fun r post=>r= .ret (.b (Cp p m n))∧post= [.map L (I4 p (Uo p M m n))]:=by
 intro σ hs;have h1:=fun M=>HM p L m n hk hgw hfm hm hn M
 have h2:=fun M=>HM p L n m hk hgw hfm hn hm M
 unfold Cp Uo;cases hb1:EA p m n<;>cases hb2:EA p n m<;>rw[hb1]at h1<;>rw[hb2]at h2
 all_goals
  refine yc nb ?_
  conv=>whnf
  repeat'((first|(refine sq ?_;intro K U)|(refine si ?_;intro A B Y Z)|(refine Y _ _ ?_;clear Z B Y A)|(refine U _ _ ?_;clear U K)|fail)<;>conv=>whnf)
  refine(h1 M).use (rest:=[]) (by simpa using hs) ?_;clear hs;rintro r post σ ⟨rfl,rfl⟩ hs
  conv=>whnf
  repeat'((first|refine st ?_|(refine Y _ _ ?_;clear Z B Y A)|(refine U _ _ ?_;clear U K)|fail)<;>conv=>whnf)
 ·exact AO ⟨_,⟨rfl,rfl⟩,hs⟩
 ·exact AO ⟨_,⟨rfl,rfl⟩,hs⟩
 all_goals
  refine(h2 _).use (rest:=[]) (by simpa using hs) ?_;clear hs;rintro r post σ ⟨rfl,rfl⟩ hs
  conv=>whnf
  repeat'((first|refine st ?_|(refine Y _ _ ?_;clear Z B Y A)|(refine U _ _ ?_;clear U K)|fail)<;>conv=>whnf)
  exact AO ⟨_,⟨rfl,rfl⟩,hs⟩
end Go.Gl
namespace Go.Gl
variable {P:Program} {σ:AG}
theorem wE {L:Nat} {args:List V} {Q:R→AG→Prop} (h:MV P L args σ Q):BT P (.f (.yield L) [] []) args σ Q:=h
theorem F4 {L:Nat} {E:Env} {ps:List Nat} {a b:AJ} {args:List V} {l:List At} (hl:args.length=ps.length) (hs:Sat σ (.obj L (.loop .ready E (By P ps a b))::l)) {Q:R→AG→Prop}
 (h: ∀σ,Sat σ l→W P a (Cm (W P b fun ex env' σ'=>σ' L=none→Qt L E (By P ps a b) Q ex env' σ')) (EI ps args E) σ):MV P L args σ Q:=
 OS (hs.get (i:=0) rfl) hl (h _ hs.del)
end Go.Gl
namespace Go.Gl
open Go.Proofs
attribute [local irreducible] BQ BJ A5 Ab AQ A4 Ac Af AR Az AW Aa BT Bf Sat An BZ A6 W
theorem yF (p:Prog) (L:Nat) (g:Int) (h16:p.methods.length≤16) {S:Type} {fn:Fn} {fi ca:List V} {H:S→List At} (Inv:Nat→S→Prop) {s:S} (h0:Inv 0 s)
 (hsk: ∀k s,k<p.methods.length→(Ct p (k:Nat)).gen≠g→Inv k s→Inv (k+1) s)
 (hT: ∀(k:Nat) s,k<p.methods.length→(Ct p (k:Nat)).gen=g→Inv k s→ ∀(rest:List At) (σ:AG),Sat σ (H s++rest)→BT Tryz.prog (.f fn fi ca) [eI (k:Int)] σ fun r σ'=> ∃s',r= .ret (.b true)∧Inv (k+1) s'∧Sat σ' (H s'++rest)) (σ:AG) (hs:Sat σ (H s)) :
 BQ Tryz.prog 75 [.f fn fi ca,.rp [Kw p L],.rp [eI g]] σ fun r σ'=> ∃s',r= .ret (.t [])∧Inv p.methods.length s'∧Sat σ' (H s'):=by
 have hM:=Mx;refine yY nb ?_
 conv=>whnf
 repeat'((first|refine st ?_|(refine sq ?_;intro K U)|(refine si ?_;intro A B Y Z)|(refine Y _ _ ?_;clear Z B Y A)|(refine U _ _ ?_;clear U K)|fail)<;>conv=>whnf)
 refine FR p.methods.length (fun k (_:S)=>[(12,eI (Bo k))]) (fun _ s'=>H s') (fun k s'=>Inv k s') s rfl h0 hs ?_;clear hs;rintro k s' σ hk ho hs;rcases Bq p.methods hk with⟨x,hx,hlt⟩|hke
 ·have hck:Bo k=k:=Ad (by omega)
  have hxe:Ct p (k:Int)=x:=by
   have:=EM (p:=p) (m:=k) (by simp[CL];omega);rw[Int.toNat_natCast,hx]at this;exact(Option.some.inj this).symm
  have hsk':=hsk k s' hlt;have hT':=hT k s' hlt;rw[hxe]at hsk' hT';rw[←hck]at hT';by_cases hg:x.gen=g
  ·conv=>whnf
   repeat'((first|refine st ?_|(refine sq ?_;intro K U)|(refine si ?_;intro A B Y Z)|(refine Y _ _ ?_;clear Z B Y A)|(refine U _ _ ?_;clear U K)|refine⟨rfl,?_⟩|refine⟨nb,?_⟩|refine ix ?_|refine ld ?_|refine GM fun σ hs=>?_|(refine FB (fun hc=>?_)<;>(try rw[hc])<;>clear hc)|(constructor<;>intro hc<;>(try rw[hc])<;>(replace hc:=bp hc)<;>try(exfalso;omega))|(intro nn hnn;generalize hg:BI _ nn _=σ;refine D8 hg fun hs=>?_;clear hg)|fail)<;>conv=>whnf)
   refine(hT' hg ho [_] σ (Sat.perm hs (List.perm_append_singleton _ _).symm)).mono ?_;rintro r σ ⟨s2,rfl,hi2,hs⟩
   conv=>whnf
   repeat'((first|refine st ?_|(refine si ?_;intro A B Y Z)|(refine Y _ _ ?_;clear Z B Y A)|(refine U _ _ ?_;clear U K)|refine⟨rfl,?_⟩|refine G5 ?_|fail)<;>conv=>whnf)
   exact⟨hlt,_,rfl,hi2,hs.less (List.sublist_append_left _ _)⟩
  ·conv=>whnf
   repeat'((first|refine st ?_|(refine sq ?_;intro K U)|(refine si ?_;intro A B Y Z)|(refine Y _ _ ?_;clear Z B Y A)|(refine U _ _ ?_;clear U K)|refine⟨rfl,?_⟩|refine⟨nb,?_⟩|refine ix ?_|refine ld ?_|refine GM fun σ hs=>?_|(refine FB (fun hc=>?_)<;>(try rw[hc])<;>clear hc)|(constructor<;>intro hc<;>(try rw[hc])<;>(replace hc:=bp hc)<;>try(exfalso;omega))|(intro nn hnn;generalize hg:BI _ nn _=σ;refine D8 hg fun hs=>?_;clear hg)|fail)<;>conv=>whnf)
   exact⟨hlt,_,rfl,hsk' hg ho,hs.less (List.sublist_cons_self _ _)⟩
 ·rw[hke]at ho
  conv=>whnf
  repeat'((first|refine st ?_|(refine sq ?_;intro K U)|(refine si ?_;intro A B Y Z)|(refine Y _ _ ?_;clear Z B Y A)|(refine U _ _ ?_;clear U K)|refine⟨rfl,?_⟩|(refine F5 (fun hc=>?_)<;>(try rw[hc])<;>clear hc)|clear U K)<;>conv=>whnf)
  exact AO ⟨_,rfl,ho,hs⟩
theorem WC (p:Prog) (L:Nat) (g:Int) (h16:p.methods.length≤16) {nn:Nat} {E:Env} {ok:FuncId→Array Tmp→Code→Code→Nat→Prop} {S:Type} (H:S→List At) (Inv:Nat→S→Prop) (s:S) {σ:AG} (h0:Inv 0 s) (hs:Sat σ (.obj nn (.loop .ready E ok)::H s))
 (hsk: ∀k s,k<p.methods.length→(Ct p (k:Nat)).gen≠g→Inv k s→Inv (k+1) s)
 (hT: ∀(k:Nat) s,k<p.methods.length→(Ct p (k:Nat)).gen=g→Inv k s→ ∀(rest:List At) (σ:AG),Sat σ (.obj nn (.loop .ready E ok)::(H s++rest))→MV Tryz.prog nn [eI (k:Int)] σ fun r σ'=> ∃s',r= .ret (.b true)∧Inv (k+1) s'∧Sat σ' (.obj nn (.loop .ready E ok)::(H s'++rest)))
 {Q:R→AG→Prop} (hq: ∀s' σ',Inv p.methods.length s'→Sat σ' (.obj nn (.loop .ready E ok)::H s')→Q (.ret (.t [])) σ') :
 BQ Tryz.prog 75 [.f (.yield nn) [] [],.rp [Kw p L],.rp [eI g]] σ Q:=
 BQ.mono (yF p L g h16 (fn:= .yield nn) (fi:=[]) (ca:=[]) (H:=fun s=> .obj nn (.loop .ready E ok)::H s) Inv h0 hsk (fun k s hk hg hi rest σ hs=>wE (hT k s hk hg hi rest σ hs)) σ hs) fun r σ' ⟨s',e,hi,h⟩=>e ▸ hq s' σ' hi h
end Go.Gl
namespace Go.Gl
open Go.Proofs
inductive UQ where
 | int (n:Int)
 | Y5
 | obj (AE:Nat→Bool) (kid:Int→UQ)
def Jm (w:AM):UQ→Prop
 | .int n=> -1000000000≤n∧n≤1000000000
 | .Y5=>True
 | .obj AE kid=>(∀c,3≤c→AE c=true→ ∀q∈par w.parents c,AE q.toNat=true)∧ ∀s,Jm w (kid s)
def Hm (t:UQ) (f:Fact):Bool:=match t with
 | .int n=>if f.op=2 then !decide (f.cls > 1)else if f.op=3 then decide (n<f.n)else decide (n=f.n)
 | .Y5=>f.op==2&&(f.cls==0||f.cls==2)
 | .obj AE _=>f.op==2&&(f.cls==0||(decide (3≤f.cls)&&AE f.cls.toNat))
def Rr (w:AM):UQ→List Int→Fact→Bool
 | t,[],f=>Hm t f
 | .obj AE kid,s::r,f=>AE (C0 w s).toNat&&Rr w (kid s) r f
 | _,_::_,_=>false
structure Hd (w:AM) (l:Fact):Prop where
 op:(Ay l).1.op=2∨(Ay l).1.op=3∨(Ay l).1.op=4
 cls:(Ay l).1.op=2→0≤(Ay l).1.cls∧(Ay l).1.cls<3+w.parents.length
 arg:0≤(Ay l).1.arg∧(Ay l).1.arg<3
 path: ∀s∈(Ay l).1.path,(0:Int)≤s∧s<w.owner.length
 short:(Ay l).1.path.length≤2
theorem Wq {w:AM} {l:Fact} (h:He w l):Hd w l:=by
 obtain⟨-,hn,hl⟩:=Gk h;have hlo:=FJ hl;have q:=KT (w:=w) (l:=[l]) (fun x hx=>by rw[List.mem_singleton.1 hx];exact h);rw[DG,BO]at hn;have hn:=hn.1;simp only[D6,BO,DU]at hn;obtain⟨ho,-,ha1,ha2,hp,-⟩:=hn;simp only[Hl,BO,GL,M8,DU]at hp;exact⟨hlo,q.2.1 l (.head _),⟨ha1,ha2⟩,fun s hs=>hp.1 s hs,hp.2⟩
def q8 (t:Int×Int×List Int) (m:Int):Prop:=t.1≤m∧m≤t.2.1∧m∉t.2.2
theorem Xs {w:AM} {l:Fact} (hl:Hd w l) (t:Int×Int×List Int) (m:Int):(∃t',SL (Ay l) t=some t'∧q8 t' m)↔q8 t m∧Hm (.int m) (Ay l).1= !(Ay l).2:=by
 have h1:=hl.op;generalize Ay l=x at *;obtain⟨f,b⟩:=x;obtain⟨lo,hi,no⟩:=t;simp only[SL,q8,Hm]at *;rcases h1 with h|h|h
 ·rw[if_pos h,if_pos h]
  by_cases hc:f.cls > 1<;>cases b<;>simp[hc]
 ·have h2: ¬f.op=2:=by omega
  rw[if_neg h2,if_pos h,if_neg h2,if_pos h];cases b
  ·simp only[Ls,if_false,Ha,exists_eq_left',Bool.not_false,DU]
   split<;>constructor<;>rintro⟨h3,h4⟩
   ·exact⟨⟨h3,by omega,h4.2⟩,by omega⟩
   ·exact⟨h3.1,by omega,h3.2.2⟩
   ·exact⟨⟨h3,h4⟩,by omega⟩
   ·exact h3
  ·simp only[if_true,Ha,exists_eq_left',Bool.not_true,decide_eq_false_iff_not]
   split<;>constructor<;>rintro⟨h3,h4⟩
   ·exact⟨⟨by omega,h4⟩,by omega⟩
   ·exact⟨by omega,h3.2⟩
   ·exact⟨⟨h3,h4⟩,by omega⟩
   ·exact h3
 ·have h2: ¬f.op=2:=by omega
  have h3: ¬f.op=3:=by omega
  rw[if_neg h2,if_neg h3,if_neg h2,if_neg h3];cases b
  ·simp only[Ls,if_false,Ha,exists_eq_left',Bool.not_false,DU]
   constructor
   ·rintro⟨h3,h4,h5⟩
    split at h3<;>split at h4<;>exact⟨⟨by omega,by omega,h5⟩,by omega⟩
   ·rintro⟨⟨h3,h4,h5⟩,rfl⟩
    refine⟨?_,?_,h5⟩
    ·split<;>omega
    ·split<;>omega
  ·simp only[if_true,Ha,exists_eq_left',Bool.not_true,decide_eq_false_iff_not,FQ,List.mem_singleton,not_or]
   constructor
   ·rintro⟨h3,h4,h5,h6⟩
    exact⟨⟨h3,h4,h5⟩,h6⟩
   ·rintro⟨⟨h3,h4,h5⟩,h6⟩
    exact⟨h3,h4,h5,h6⟩
theorem IY {w:AM} (m:Int): ∀(os:List Fact) (t:Int×Int×List Int),(∀l∈os,Hd w l)→((∃t',foldI os t=some t'∧q8 t' m)↔q8 t m∧ ∀l∈os,Hm (.int m) (Ay l).1= !(Ay l).2)
 | [],t,_=>by simp[foldI]
 | x ::r,t,h=>by
   have h1:=Xs (h x (.head _)) t m;constructor
   ·rintro⟨t',h2,h3⟩
    rw[foldI,Option.bind_eq_some_iff]at h2;obtain⟨u,h4,h5⟩:=h2;obtain⟨h6,h7⟩:=(IY m r u fun l hl=>h l (.tail _ hl)).1 ⟨t',h5,h3⟩;obtain⟨h8,h9⟩:=h1.1 ⟨u,h4,h6⟩;refine⟨h8,fun l hl=>?_⟩;rcases G3.1 hl with rfl|hl
    ·exact h9
    ·exact h7 l hl
   ·rintro⟨h2,h3⟩
    obtain⟨u,h4,h5⟩:=h1.2 ⟨h2,h3 x (.head _)⟩;obtain⟨t',h6,h7⟩:=(IY m r u fun l hl=>h l (.tail _ hl)).2 ⟨h5,fun l hl=>h3 l (.tail _ hl)⟩;exact⟨t',by rw[foldI,h4];exact h6,h7⟩
theorem PO (t:Int×Int×List Int):(SM t).isSome=true↔ ∃m,q8 t m:=by
 obtain⟨lo,hi,no⟩:=t;rw[SM,LV];constructor
 ·rintro⟨j,h1,h2⟩
  exact⟨lo+j,by simp only[q8]at *;omega,by simp only[]at *;omega,h2⟩
 ·rintro⟨m,h1,h2,h3⟩
  dsimp only at h1 h2 h3 ⊢;exact⟨(m - lo).toNat,by omega,by rw[show lo+((m - lo).toNat:Int)=m by omega];exact h3⟩
theorem HG {a:Int} {p:List Int} {l:Fact}:Lt a p l=true↔(Ay l).1.arg=a∧(Ay l).1.path=p:=by
 rw[Lt,BO,Dp,Dp]
theorem bz {w:AM} {ls:List Fact} (hl: ∀l∈ls,Hd w l) (a:Int) (p:List Int):(R5 ls a p).isSome=true↔ ∃m,(-1000000000≤m∧m≤1000000000)∧ ∀l∈ls,(Ay l).1.arg=a→(Ay l).1.path=p→Hm (.int m) (Ay l).1= !(Ay l).2:=by
 have hL: ∀l∈ls.filter (Lt a p),Hd w l:=fun l h=>hl l (Mt.1 h).1
 rw[R5];constructor
 ·intro h
  cases hf:foldI (ls.filter (Lt a p)) t0 with
  | none=>rw[hf]at h;cases h
  | some t=>
    rw[hf]at h;obtain⟨m,hm⟩:=(PO t).1 h;obtain⟨h1,h2⟩:=(IY m _ t0 hL).1 ⟨t,hf,hm⟩;exact⟨m,⟨h1.1,h1.2.1⟩,fun l h3 h4 h5=>h2 l (Mt.2 ⟨h3,HG.2 ⟨h4,h5⟩⟩)⟩
 ·rintro⟨m,h1,h2⟩
  obtain⟨t,h3,h4⟩:=(IY m (ls.filter (Lt a p)) t0 hL).2 ⟨⟨h1.1,h1.2,by simp[t0]⟩,fun l h=>by
   obtain⟨h5,h6⟩:=Mt.1 h
   exact h2 l h5 (HG.1 h6).1 (HG.1 h6).2⟩
  rw[h3];exact(PO t).2 ⟨m,h4⟩
theorem Ka {ls:List Fact} {a:Int} {p:List Int}:Et ls a p=true↔ ∀l∈ls,(Ay l).1.arg=a→ ∀q,(Ay l).1.path=p++q→(Ay l).2=true:=by
 rw[Et,GL];constructor
 ·intro h l hl ha q hq
  have:=h l hl;rw[Bool.or_eq_true]at this;rcases this with h1|h1
  ·exact h1
  ·rw[ha,hq]at h1
   have h2:B2 (p++q) p=true:=CJ.2 ⟨q,rfl⟩;simp[h2]at h1
 ·intro h l hl
  rw[Bool.or_eq_true];by_cases h1:(Ay l).1.arg=a∧B2 (Ay l).1.path p=true
  ·obtain⟨q,hq⟩:=CJ.1 h1.2
   exact .inl (h l hl h1.1 q hq)
  ·right
   simp only[Bool.not_eq_true',Bool.and_eq_false_iff,beq_eq_false_iff_ne];rcases Classical.em ((Ay l).1.arg=a)with e|e
   ·exact .inr (by simpa[e]using h1)
   ·exact .inl e
theorem PS {w:AM} {ls:List Fact} (hl: ∀l∈ls,Hd w l) {a:Int} {p:List Int} {s:Int}:s∈DY w.owner.length ls a p↔ ∃l∈ls,(Ay l).1.arg=a∧ ∃q,(Ay l).1.path=p++s::q:=by
 rw[DY,Mt,List.any_eq_true,JU];constructor
 ·rintro⟨-,l,h1,h2⟩
  rw[kJ,BO,Dp]at h2;obtain⟨q,hq⟩:=CJ.1 h2.2;exact⟨l,h1,h2.1,q,by rw[hq];simp⟩
 ·rintro⟨l,h1,h2,q,hq⟩
  refine⟨(hl l h1).path s (by rw[hq];simp),l,h1,?_⟩;rw[kJ,BO,Dp];exact⟨h2,CJ.2 ⟨q,by rw[hq];simp⟩⟩
theorem TM {w:AM} {ls:List Fact} (hl: ∀l∈ls,Hd w l) {a:Int} {p:List Int}:Ix w.owner.length ls a p=true↔ ∀l∈ls,(Ay l).1.arg=a→ ∀s q,(Ay l).1.path=p++s::q→(Ay l).2=true:=by
 rw[Ix,GL];constructor
 ·intro h l h1 h2 s q hq
  exact Ka.1 (h s ((PS hl).2 ⟨l,h1,h2,q,hq⟩)) l h1 h2 q (by rw[hq];simp)
 ·intro h s _
  exact Ka.2 fun l h1 h2 q hq=>h l h1 h2 s q (by rw[hq];simp)
theorem Ut {w:AM} (hw:Y2 w) {s:Int} (h:0≤s∧s<(w.owner.length:Int)):3≤C0 w s∧C0 w s<3+w.parents.length:=by
 have hs:s.toNat<w.owner.length:=by omega
 have:C0 w s=w.owner[s.toNat]:=by rw[C0,FA,Fs hs];rfl
 rw[this];exact hw.own _ (List.getElem_mem hs)
def kP (t:BB) (AE:Nat→Bool):Prop:=(∀c,t.1.getD c false=true→c=0∨AE c=true)∧ ∀c,t.2.getD c false=true→c≠0∧AE c=false
def QG (t t':BB):Prop:=t.1.length=t'.1.length∧t.2.length=t'.2.length∧(∀c,t.1.getD c false=true→t'.1.getD c false=true)∧ ∀c,t.2.getD c false=true→t'.2.getD c false=true
theorem QG.dF {t:BB}:QG t t:=⟨rfl,rfl,fun _ h=>h,fun _ h=>h⟩
theorem QG.trans {t u v:BB} (h:QG t u) (k:QG u v):QG t v:=⟨h.1.trans k.1,h.2.1.trans k.2.1,fun c hc=>k.2.2.1 c (h.2.2.1 c hc),fun c hc=>k.2.2.2 c (h.2.2.2 c hc)⟩
theorem KF {l:List Bool} {c b:Nat} (h:(l.set c true).getD b false=true):l.getD b false=true∨b=c:=by
 by_cases e:b=c
 ·exact .inr e
 ·rw[FA,List.getElem?_set_ne (fun h=>e h.symm),←FA]at h
  exact .inl h
theorem KH {l:List Bool} {c b:Nat} (h:l.getD b false=true):(l.set c true).getD b false=true:=by
 by_cases e:c<l.length
 ·rw[EN e]
  split
  ·rfl
  ·exact h
 ·rw[List.set_eq_of_length_le (by omega)];exact h
theorem KG {l:List Bool} {c:Nat} (h:c<l.length):(l.set c true).getD c false=true:=by
 rw[EN h,if_pos rfl]
theorem QG.set1 {t:BB} (c:Nat):QG t (t.1.set c true,t.2):=⟨by simp,rfl,fun _ h=>KH h,fun _ h=>h⟩
theorem QG.set2 {t:BB} (c:Nat):QG t (t.1,t.2.set c true):=⟨rfl,by simp,fun _ h=>h,fun _ h=>KH h⟩
def Um (t:BB) (f:Fact) (b:Bool):Prop:=if f.op≠2∨f.cls=1∨f.cls=2 then b=true else if b then t.2.getD f.cls.toNat false=true else t.1.getD f.cls.toNat false=true
theorem P6 {t t':BB} (h:QG t t') {f:Fact} {b:Bool} (k:Um t f b):Um t' f b:=by
 unfold Um at *;split
 ·rename_i h1;rw[if_pos h1]at k;exact k
 ·rename_i h1;rw[if_neg h1]at k
  split
  ·rename_i h2;rw[if_pos h2]at k;exact h.2.2.2 _ k
  ·rename_i h2;rw[if_neg h2]at k;exact h.2.2.1 _ k
theorem bM {w:AM} {l:Fact} (hl:Hd w l) {t t':BB} (hn:t.1.length=3+w.parents.length∧t.2.length=3+w.parents.length) (h:Lu (Ay l) t=some t'):QG t t'∧Um t' (Ay l).1 (Ay l).2:=by
 have hc:=hl.cls;generalize Ay l=x at *;obtain⟨f,b⟩:=x;simp only[Lu,Um]at *;split at h
 ·rename_i h1
  rw[if_pos h1];cases b
  ·cases h
  ·obtain rfl:=Option.some.inj h
   exact⟨QG.dF,rfl⟩
 ·rename_i h1
  rw[if_neg h1]
  have h2:f.op=2:=by
   rcases Classical.em (f.op=2)with e|e
   ·exact e
   ·exact absurd (Or.inl e) h1
  have:=hc h2;cases b
  ·obtain rfl:=Option.some.inj h
   exact⟨.set1 _,by rw[if_neg (by decide)];exact KG (by omega)⟩
  ·obtain rfl:=Option.some.inj h
   exact⟨.set2 _,by rw[if_pos rfl];exact KG (by omega)⟩
theorem Xp {w:AM} {l:Fact} (hl:Hd w l) {t:BB} {AE:Nat→Bool} {kid:Int→UQ} (hi:kP t AE) (h:Hm (.obj AE kid) (Ay l).1= !(Ay l).2): ∃t',Lu (Ay l) t=some t'∧kP t' AE:=by
 have hc:=hl.cls;generalize Ay l=x at *;obtain⟨f,b⟩:=x;simp only[Lu,Hm]at *;by_cases h1:f.op≠2∨f.cls=1∨f.cls=2
 ·rw[if_pos h1]
  have h2:(f.op==2&&(f.cls==0||(decide (3≤f.cls)&&AE f.cls.toNat)))=false:=by
   rcases h1 with h1|h1|h1
   ·simp[h1]
   ·simp[h1]
   ·simp[h1]
  rw[h2]at h;cases b
  ·cases h
  ·exact⟨t,rfl,hi⟩
 ·rw [if_neg h1]
  have h2:f.op=2:=by
   rcases Classical.em (f.op=2)with e|e
   ·exact e
   ·exact absurd (Or.inl e) h1
  have hr:=hc h2;have h3:f.cls≠1∧f.cls≠2:=⟨fun e=>h1 (.inr (.inl e)),fun e=>h1 (.inr (.inr e))⟩
  have h4:(f.op==2&&(f.cls==0||(decide (3≤f.cls)&&AE f.cls.toNat)))=(decide (f.cls=0)||AE f.cls.toNat):=by
   rw[h2];rcases Classical.em (f.cls=0)with e|e
   ·simp[e]
   ·have:3≤f.cls:=by omega
    simp[e,this]
  rw[h4]at h;cases b
  ·refine⟨_,rfl,fun c hh=>?_,hi.2⟩
   rcases KF hh with hh|rfl
   ·exact hi.1 c hh
   ·simp only[Bool.not_false,Bool.or_eq_true,DU]at h
    rcases h with h|h
    ·exact .inl (by omega)
    ·exact .inr h
  ·refine⟨_,rfl,hi.1,fun c hh=>?_⟩
   rcases KF hh with hh|rfl
   ·exact hi.2 c hh
   ·simp only[Bool.not_true,Bool.or_eq_false_iff,decide_eq_false_iff_not]at h
    exact⟨by omega,h.2⟩
theorem Np {w:AM}: ∀(os:List Fact) {t t':BB},(∀l∈os,Hd w l)→(t.1.length=3+w.parents.length∧t.2.length=3+w.parents.length)→Iv os t=some t'→QG t t'∧ ∀l∈os,Um t' (Ay l).1 (Ay l).2
 | [],t,t',_,_,h=>by
   obtain rfl:=Option.some.inj h;exact⟨QG.dF,fun l hl=>by cases hl⟩
 | x::r,t,t',hl,hn,h=>by
   rw[Iv,Option.bind_eq_some_iff]at h;obtain⟨u,h1,h2⟩:=h;obtain⟨h3,h4⟩:=bM (hl x (.head _)) hn h1;obtain⟨h5,h6⟩:=Np r (fun l h=>hl l (.tail _ h)) ⟨by rw[←h3.1];exact hn.1,by rw[←h3.2.1];exact hn.2⟩ h2;refine⟨h3.trans h5,fun l h=>?_⟩;rcases G3.1 h with rfl|h
   ·exact P6 h5 h4
   ·exact h6 l h
theorem Ps {w:AM} {AE:Nat→Bool} {kid:Int→UQ}: ∀(os:List Fact) {t:BB},(∀l∈os,Hd w l)→kP t AE→(∀l∈os,Hm (.obj AE kid) (Ay l).1= !(Ay l).2)→ ∃t',Iv os t=some t'∧kP t' AE
 | [],t,_,hi,_=>⟨t,rfl,hi⟩
 | x::r,t,hl,hi,h=>by
   obtain⟨u,h1,h2⟩:=Xp (hl x (.head _)) hi (h x (.head _));obtain⟨t',h3,h4⟩:=Ps r (fun l h=>hl l (.tail _ h)) h2 fun l hh=>h l (.tail _ hh)
   exact⟨t',by rw[Iv,h1];exact h3,h4⟩
def rS (w:AM) (ls:List Fact) (a:Int) (p:List Int) (can:Int→Bool) (s:Int) (t:BB):Prop:=
 (Et ls a (p++[s])=false→t.1.getD (C0 w s).toNat false=true∧can s=true)∧(can s=false→t.2.getD (C0 w s).toNat false=true)
theorem No {w:AM} (hw:Y2 w) {ls:List Fact} {a:Int} {p:List Int} {can:Int→Bool}: ∀(sl:List Int) {t t':BB},(∀s∈sl,0≤s∧s<(w.owner.length:Int))→(t.1.length=3+w.parents.length∧t.2.length=3+w.parents.length)→Iu w ls a p can sl t=some t'→QG t t'∧ ∀s∈sl,rS w ls a p can s t'
 | [],t,t',_,_,h=>by
   obtain rfl:=Option.some.inj h;exact⟨QG.dF,fun l hl=>by cases hl⟩
 | s ::r,t,t',hs,hn,h=>by
   rw[Iu,Option.bind_eq_some_iff]at h;obtain⟨u,h1,h2⟩:=h;have ho:=Ut hw (hs s (.head _))
   have h3:QG t u∧rS w ls a p can s u:=by
    rw[SJ]at h1;split at h1
    ·cases h1
    ·rename_i hne
     obtain rfl:=Option.some.inj h1;simp only[rS];cases hb:Et ls a (p++[s])<;>cases hc:can s
     ·simp[hb,hc]at hne
     ·exact⟨⟨by simp,rfl,fun c h=>KH h,fun c h=>h⟩,fun _=>⟨KG (by omega),rfl⟩,fun h=>(by cases h)⟩
     ·exact⟨⟨rfl,by simp,fun c h=>h,fun c h=>KH h⟩,fun h=>(by cases h),fun _=>KG (by omega)⟩
     ·exact⟨QG.dF,fun h=>(by cases h),fun h=>(by cases h)⟩
   obtain⟨h5,h6⟩:=No hw r (fun l h=>hs l (.tail _ h)) ⟨by rw[←h3.1.1];exact hn.1,by rw[←h3.1.2.1];exact hn.2⟩ h2;refine⟨h3.1.trans h5,fun l h=>?_⟩;rcases G3.1 h with rfl|h
   ·exact⟨fun hb=>⟨h5.2.2.1 _ (h3.2.1 hb).1,(h3.2.1 hb).2⟩,fun hc=>h5.2.2.2 _ (h3.2.2 hc)⟩
   ·exact h6 l h
theorem Pr {w:AM} (hw:Y2 w) {ls:List Fact} {a:Int} {p:List Int} {can:Int→Bool} {AE:Nat→Bool}: ∀(sl:List Int) {t:BB},(∀s∈sl,0≤s∧s<(w.owner.length:Int))→kP t AE→
 (∀s∈sl,(Et ls a (p++[s])=false→AE (C0 w s).toNat=true)∧(AE (C0 w s).toNat=true→can s=true))→ ∃t',Iu w ls a p can sl t=some t'∧kP t' AE
 | [],t,_,hi,_=>⟨t,rfl,hi⟩
 | s :: r, t,hs,hi,h=>by
   have ho:=Ut hw (hs s (.head _));obtain⟨k1,k2⟩:=h s (.head _)
   have h1 : ∃u,SJ w ls a p can s t=some u∧kP u AE:=by
    rw[SJ];cases hb:Et ls a (p++[s])
    ·rw[k2 (k1 hb)]
     refine⟨_,rfl,fun c hh=>?_,hi.2⟩;rcases KF hh with hh|rfl
     ·exact hi.1 c hh
     ·exact .inr (k1 hb)
    ·cases hc:can s
     ·refine⟨_,rfl,hi.1,fun c hh=>?_⟩
      rcases KF hh with hh|rfl
      ·exact hi.2 c hh
      ·refine⟨by omega,?_⟩
       rw[←Bool.not_eq_true];intro e;rw[k2 e]at hc;cases hc
     ·exact⟨_,rfl,hi⟩
   obtain⟨u,h2,h3⟩:=h1;obtain⟨t',h4,h5⟩:=Pr hw r (fun l h=>hs l (.tail _ h)) h3 fun l hh=>h l (.tail _ hh)
   exact⟨t',by rw[Iu,h2];exact h4,h5⟩
theorem eN {w:AM} {AE:Nat→Bool}:kP (tO w) AE:=by
 have: ∀c,(List.replicate (3+w.parents.length) false).getD c false=false:=fun c=>by
  rw[FA];cases h:(List.replicate (3+w.parents.length) false)[c]? with
  | none=>rfl
  | some b=>rw[List.eq_of_mem_replicate (Fo h)];rfl
 exact⟨fun c h=>absurd ((this c).symm.trans h) (by decide),fun c h=>absurd ((this c).symm.trans h) (by decide)⟩
theorem Yp {g:List (List Int)} (ho:ordered g) {AE:Nat→Bool} (hC: ∀c,3≤c→AE c=true→ ∀q∈par g c,AE q.toNat=true): ∀d b:Nat,3≤d→AE d=true→Ih g d b=true→AE b=true:=by
 intro d
 induction d using Nat.strongRecOn with
 | _ d ih=>
   intro b h3 hd h;rw[EZ ho]at h;simp only[Bool.or_eq_true,Dp,List.any_eq_true]at h;rcases h with rfl|⟨p,hp,h⟩
   ·exact hd
   ·have:=ho d p hp
    exact ih p.toNat (by omega) b (by omega) (hC d h3 hd p hp) h
theorem bb {w : AM} (hw : Y2 w) {ls:List Fact} (hl: ∀l∈ls,Hd w l) {a:Int} {p:List Int} {can:Int→Bool} {T:Int→UQ→Prop} (hcan: ∀s,s∈DY w.owner.length ls a p→(can s=true↔ ∃t,Jm w t∧T s t))
 (hT: ∀s t,T s t↔ ∀l∈ls,(Ay l).1.arg=a→ ∀q,(Ay l).1.path=p++s::q→Rr w t q (Ay l).1= !(Ay l).2) :
 (Rz w ls a p can).isSome=true↔ ∃AE kid,Jm w (.obj AE kid)∧ ∀l∈ls,(Ay l).1.arg=a→ ∀q,(Ay l).1.path=p++q→Rr w (.obj AE kid) q (Ay l).1= !(Ay l).2:=by
 have hL: ∀l∈ls.filter (Lt a p),Hd w l:=fun l h=>hl l (Mt.1 h).1
 have hS: ∀s∈DY w.owner.length ls a p,0≤s∧s<(w.owner.length:Int):=fun s h=>LW h
 have hn0:(tO w).1.length=3+w.parents.length∧(tO w).2.length=3+w.parents.length:=by simp[tO]
 constructor
 ·intro h
  rw[Rz]at h;cases h1:Iv (ls.filter (Lt a p)) (tO w)with
  | none=>rw[h1]at h;cases h
  | some t=>
    rw[h1,Option.bind_some]at h;obtain⟨g1,g2⟩:=Np _ hL hn0 h1;have hn1:t.1.length=3+w.parents.length∧t.2.length=3+w.parents.length:=⟨by rw[←g1.1];exact hn0.1,by rw[←g1.2.1];exact hn0.2⟩
    cases h2:Iu w ls a p can (DY w.owner.length ls a p) t with
    | none=>rw[h2]at h;cases h
    | some u=>
      rw[h2,Option.bind_some,ZW]at h;obtain⟨g3,g4⟩:=No hw _ hS hn1 h2;have hn2:u.1.length=3+w.parents.length∧u.2.length=3+w.parents.length:=⟨by rw[←g3.1];exact hn1.1,by rw[←g3.2.1];exact hn1.2⟩
      split at h
      ·cases h
      ·rename_i h0
       split at h
       ·cases h
       ·rename_i h3
        clear h;have hSl:(u.1.set 0 false).length=3+w.parents.length:=by simpa using hn2.1
        generalize hSd:Ch w.parents (3+w.parents.length) w.parents.length (u.1.set 0 false)=S at *
        have hin: ∀c,3≤c→u.1.getD c false=true→S.getD c false=true:=fun c hc h=>by
         rw[←hSd];refine H4 hw.ord hSl _ _ ?_;rw[FA,List.getElem?_set_ne (by omega),←FA];exact h
        have hdis: ∀c,S.getD c false=true→u.2.getD c false=true→False:=fun c k1 k2=>by
         have hc:c<3+w.parents.length:=by
          rcases Nat.lt_or_ge c (3+w.parents.length)with h|h
          ·exact h
          ·rw[FA,List.getElem?_eq_none (by omega)]at k2
           cases k2
         refine h3 (List.any_eq_true.2 ⟨c,List.mem_range.2 hc,?_⟩);rw[k1,k2];rfl
        have hkid: ∀s,∃t,Jm w t∧((∃t,Jm w t∧T s t)→T s t):=fun s=>by
         rcases Classical.em (∃t,Jm w t∧T s t)with⟨t,k1,k2⟩|k
         ·exact⟨t,k1,fun _=>k2⟩
         ·exact⟨.Y5,trivial,fun h=>absurd h k⟩
        refine⟨fun c=>S.getD c false,fun s=>Classical.choose (hkid s),⟨fun c hc h q hq=>?_,fun s=>(Classical.choose_spec (hkid s)).1⟩,fun l h1 h2 q hq=>?_⟩
        ·change S.getD c false=true at h
         change S.getD q.toNat false=true
         have hcl:c<3+w.parents.length:=by
          rcases Nat.lt_or_ge c (3+w.parents.length)with h'|h'
          ·exact h'
          ·rw[FA,List.getElem?_eq_none (by rw[←hSd,Eh];omega)]at h
           cases h
         rw[←hSd]at h ⊢;exact GK hw.ord hSl _ c (by omega) (by omega) h q hq
        ·cases q with
         | nil =>
           have k:=g2 l (Mt.2 ⟨h1,HG.2 ⟨h2,by simpa using hq⟩⟩);have k:=P6 g3 k;have hc:=(hl l h1).cls;generalize Ay l=x at *;obtain⟨f,b⟩:=x;simp only[Rr,Hm,Um]at *;by_cases e1:f.op≠2∨f.cls=1∨f.cls=2
           ·rw[if_pos e1]at k
            subst k;rcases e1 with e1|e1|e1
            ·simp[e1]
            ·simp[e1]
            ·simp[e1]
           ·rw [if_neg e1]at k
            have e2:f.op=2:=by
             rcases Classical.em (f.op=2)with e|e
             ·exact e
             ·exact absurd (Or.inl e) e1
            have hr:=hc e2;have e3:f.cls≠1∧f.cls≠2:=⟨fun e=>e1 (.inr (.inl e)),fun e=>e1 (.inr (.inr e))⟩
            rw[e2];rcases Classical.em (f.cls=0)with e|e
            ·rw[e]at k ⊢
             cases b
             ·rfl
             ·exfalso;exact h0 k
            ·have e4:(f.cls==0)=false:=by simpa using e
             have e5:decide (3≤f.cls)=true:=decide_eq_true (by omega);rw[e4,e5];cases b
             ·rw[if_neg (by decide)]at k
              rw[hin _ (by omega) k];rfl
             ·rw[if_pos rfl]at k
              have:S.getD f.cls.toNat false=false:=by
               rw[←Bool.not_eq_true];exact fun e=>hdis _ e k
              rw[this];rfl
         | cons s q=>
           have hs:s∈DY w.owner.length ls a p:=(PS hl).2 ⟨l,h1,h2,q,hq⟩;have hso:=Ut hw (hS s hs);obtain⟨k1,k2⟩:=g4 s hs;simp only[Rr];cases hm:S.getD (C0 w s).toNat false
           ·rw[Bool.false_and]
            cases hb:Et ls a (p++[s])
            ·have:=hin _ (by omega) (k1 hb).1
             rw[hm]at this;cases this
            ·rw[Ka.1 hb l h1 h2 q (by rw[hq];simp)];rfl
           ·rw[Bool.true_and]
            cases hc:can s
            ·exact absurd (k2 hc) fun e=>hdis _ hm e
            ·exact(hT s _).1 ((Classical.choose_spec (hkid s)).2 ((hcan s hs).1 hc)) l h1 h2 q hq
 ·rintro ⟨AE,kid,⟨hC,U⟩,h⟩
  obtain⟨t,h1,h2⟩:=Ps (AE:=AE) (kid:=kid) (ls.filter (Lt a p)) (t:=tO w) hL eN fun l k=>by
   obtain⟨k1,k2⟩:=Mt.1 k;obtain⟨k3,k4⟩:=HG.1 k2;exact h l k1 k3 [] (by simpa using k4)
  obtain ⟨u,h3,h4⟩:=Pr hw (AE:=AE) (can:=can) (ls:=ls) (a:=a) (p:=p) (DY w.owner.length ls a p) (t:=t) hS h2 fun s hs=>by
   constructor
   ·intro hb
    cases e:AE (C0 w s).toNat
    ·rw[Ka.2 fun l k1 k2 q hq=>by
      have:=h l k1 k2 (s::q) (by rw[hq];simp);simp only[Rr,e,Bool.false_and]at this
      simpa using this.symm]at hb
     cases hb
    ·rfl
   ·intro e
    refine(hcan s hs).2 ⟨kid s,U s,(hT s _).2 fun l k1 k2 q hq=>?_⟩;have:=h l k1 k2 (s::q) hq;simpa only[Rr,e,Bool.true_and]using this
  rw[Rz,h1,Option.bind_some,h3,Option.bind_some,ZW]
  have h0:u.2.getD 0 false=false:=by
   rw[←Bool.not_eq_true];exact fun e=>(h4.2 0 e).1 rfl
  rw[h0,if_neg (by decide),if_neg]
  ·rfl
  ·rw [List.any_eq_true]
   rintro⟨c,-,hc⟩;rw[BO]at hc;have q1:=(Np _ hL hn0 h1).1;have q2:=(No hw _ hS ⟨by rw[←q1.1];exact hn0.1,by rw[←q1.2.1];exact hn0.2⟩ h3).1;have hlen:(u.1.set 0 false).length=3+w.parents.length:=by rw[List.length_set,←q2.1,←q1.1];exact hn0.1
   obtain⟨d,k1,k2⟩:=FP hw.ord hlen _ _ hc.1
   have hd0:d≠0:=by
    rintro rfl;rw[FA,List.getElem?_set_self (by rw[List.length_set]at hlen;omega)]at k1;cases k1
   rw[FA,List.getElem?_set_ne (fun e=>hd0 e.symm),←FA]at k1;have hCd:AE d=true:=(h4.1 d k1).resolve_left hd0
   have hCc:AE c=true:=by
    rcases Nat.lt_or_ge d 3 with hd|hd
    ·rw[EZ hw.ord,show par w.parents d= [] from if_pos hd]at k2
     simp only[List.any_nil,Bool.or_false,Dp]at k2;subst k2;exact hCd
    ·exact Yp hw.ord hC d c hd hCd k2
   have:=(h4.2 c hc.2).2;rw[hCc]at this;cases this
def TT (w:AM) (ls:List Fact) (a:Int) (p:List Int) (t:UQ):Prop:= ∀l∈ls,(Ay l).1.arg=a→ ∀q,(Ay l).1.path=p++q→Rr w t q (Ay l).1= !(Ay l).2
theorem YA {w:AM} {ls:List Fact} (hl: ∀l∈ls,Hd w l) {a:Int} {p:List Int}:NA w.owner.length ls a p=true↔TT w ls a p .Y5:=by
 rw[NA,BO,GL,TM hl];constructor
 ·rintro⟨h1,h2⟩ l k1 k2 q hq
  cases q with
  | nil=>
    have:=h1 l (Mt.2 ⟨k1,HG.2 ⟨k2,by simpa using hq⟩⟩);simp only[Rr,Hm,O7]at *
    revert this
    cases((Ay l).1.op==2&&((Ay l).1.cls==0||(Ay l).1.cls==2))<;>cases(Ay l).2<;>decide
  | cons s q=>simp[Rr,h2 l k1 k2 s q hq]
 ·intro h
  refine⟨fun l k=>?_,fun l k1 k2 s q hq=>?_⟩
  ·obtain⟨k1,k2⟩:=Mt.1 k
   obtain⟨k3,k4⟩:=HG.1 k2;have:=h l k1 k3 [] (by simpa using k4);simp only[Rr,Hm,O7]at *
   revert this
   cases((Ay l).1.op==2&&((Ay l).1.cls==0||(Ay l).1.cls==2))<;>cases(Ay l).2<;>decide
  ·have:=h l k1 k2 (s::q) hq
   simpa[Rr]using this.symm
theorem b6 {w:AM} {ls:List Fact} (hl: ∀l∈ls,Hd w l) {a:Int} {p:List Int}:((R5 ls a p).isSome&&Ix w.owner.length ls a p)=true↔ ∃m,Jm w (.int m)∧TT w ls a p (.int m):=by
 rw[BO,TM hl,bz hl];constructor
 ·rintro⟨⟨m,h1,h2⟩,h3⟩
  refine⟨m,h1,fun l k1 k2 q hq=>?_⟩;cases q with
  | nil=>exact h2 l k1 k2 (by simpa using hq)
  | cons s q=>simp[Rr,h3 l k1 k2 s q hq]
 ·rintro⟨m,h1,h2⟩
  refine⟨⟨m,h1,fun l k1 k2 k3=>h2 l k1 k2 [] (by simpa using k3)⟩,fun l k1 k2 s q hq=>?_⟩;have:=h2 l k1 k2 (s::q) hq;simpa[Rr]using this.symm
theorem XH {w:AM} (hw:Y2 w) {ls:List Fact} (hl: ∀l∈ls,Hd w l) {a:Int} {p:List Int} {can:Int→Bool} (hcan: ∀s,s∈DY w.owner.length ls a p→(can s=true↔ ∃t,Jm w t∧TT w ls a (p++[s]) t)) :
 (((R5 ls a p).isSome&&Ix w.owner.length ls a p)||(NA w.owner.length ls a p||(Rz w ls a p can).isSome))=true↔ ∃t,Jm w t∧TT w ls a p t:=by
 rw[Bool.or_eq_true,Bool.or_eq_true,b6 hl,YA hl,bb hw hl (T:=fun s t=>TT w ls a (p++[s]) t) hcan fun s t=>by simp only[TT,UR,List.singleton_append]];constructor
 ·rintro(⟨m,h1,h2⟩|h|⟨AE,kid,h1,h2⟩)
  ·exact⟨_,h1,h2⟩
  ·exact⟨.Y5,trivial,h⟩
  ·exact⟨_,h1,h2⟩
 ·rintro⟨t,h1,h2⟩
  cases t with
  | int m=>exact .inl ⟨m,h1,h2⟩
  | Y5=>exact .inr (.inl h2)
  | obj AE kid=>exact .inr (.inr ⟨AE,kid,h1,h2⟩)
theorem Nv {w:AM} (hw:Y2 w) {ls:List Fact} (hl: ∀l∈ls,Hd w l) (a:Int): ∀(d:Nat) (p:List Int),p.length+d=2→(QV w ls a d p=true↔ ∃t,Jm w t∧TT w ls a p t)
 | 0,p,hp=>by
   rw[QV];refine XH hw hl fun s hs=>?_
   rw[PR (m:=2) (fun l h=>(hl l h).short) (by omega)]at hs;cases hs
 | d+1,p,hp=>by
   rw[QV];exact XH hw hl fun s hs=>Nv hw hl a d (p++[s]) (by simp;omega)
def QO (w:AM) (M:Int→UQ) (l:Fact):Prop:=Rr w (M (Ay l).1.arg) (Ay l).1.path (Ay l).1= !(Ay l).2
theorem Sl {w:AM} (hw:Y2 w) {ls:List Fact} (hl: ∀l∈ls,Hd w l):Ij w ls=true↔ ∃M:Int→UQ,(∀a,Jm w (M a))∧ ∀l∈ls,QO w M l:=by
 rw[Ij,GL];constructor
 ·intro h
  have hk: ∀a:Int,∃t,Jm w t∧(0≤a∧a<3→TT w ls a [] t):=fun a=>by
   rcases Classical.em (0≤a∧a<3)with e|e
   ·obtain⟨t,h1,h2⟩:=(Nv hw hl a 2 [] rfl).1 (h a (JU.2 e))
    exact⟨t,h1,fun _=>h2⟩
   ·exact⟨.Y5,trivial,fun k=>absurd k e⟩
  exact⟨fun a=>Classical.choose (hk a),fun a=>(Classical.choose_spec (hk a)).1,fun l k=>(Classical.choose_spec (hk (Ay l).1.arg)).2 (hl l k).arg l k rfl _ rfl⟩
 ·rintro⟨M,h1,h2⟩ a _
  refine(Nv hw hl a 2 [] rfl).2 ⟨M a,h1 a,fun l k1 k2 q hq=>?_⟩;have:=h2 l k1;rw[QO,k2]at this;rw[List.nil_append]at hq;rw[←hq];exact this
def wL (w:AM) (M:Int→UQ) (f:Fact) (l:List Bool):Bool:=
 if f.op=1 then true else if f.op=5 then !l.getD 0 false else if f.op=6 then l.getD 0 false&&l.getD 1 false else if f.op=7 then l.getD 0 false||l.getD 1 false else Rr w (M f.arg) f.path f
def V4 (w:AM) (M:Int→UQ) (f:Fact):Bool:=f.G8 (wL w M)
theorem U5 (w:AM) (M:Int→UQ) (f:Fact):V4 w M f=wL w M f (f.kids.map (V4 w M)):=Fact.Dg (wL w M) f
theorem TC (a:List Fact) (Q:Fact→Prop): ∀b:List Fact,(∀x∈Ck a b,Q x)↔(∀x∈a,Q x)∧ ∀x∈b,Q x:=by
 intro b
 induction b generalizing a with
 | nil=>simp[Ck]
 | cons y r ih=>
   rw[Ck,ih];split
   ·rename_i h
    obtain⟨z,h1,h2⟩:=List.any_eq_true.1 h;have:=(LX y z).1 h2;subst this;simp only[List.forall_mem_cons];constructor
    ·rintro⟨h3,h4⟩;exact⟨h3,h3 _ h1,h4⟩
    ·rintro⟨h3,_,h4⟩;exact⟨h3,h4⟩
   ·simp only[List.forall_mem_append,List.forall_mem_cons,List.forall_mem_nil]
    constructor
    ·rintro⟨⟨h1,h2,_⟩,h3⟩;exact⟨h1,h2,h3⟩
    ·rintro⟨h1,h2,h3⟩;exact⟨⟨h1,h2,fun _ h=>by cases h⟩,h3⟩
theorem P3 {w:AM} {M:Int→UQ} (f:Fact):B6 w f=true→ ∀c,(∃l∈Bd f c,∀x∈l,QO w M x)↔V4 w M f= !c:=by
 induction f using Fact.ind with
 | h f ih=>
   intro h c;have har:=C2 f h;have h':=h;rw[DG,BO,GL]at h';rw[G2,Hv,U5,wL];by_cases h1:f.op=1
   ·rw[if_pos h1,if_pos h1]
    cases c<;>simp
   rw[if_neg h1,if_neg h1];by_cases h5:f.op=5
   ·obtain⟨a,ha,hb⟩:=IG har h5
    rw[if_pos h5,if_pos h5,ha];have:=ih a (by rw[ha];exact .head _) (h'.2 a (by rw[ha];exact .head _)) (!c);simp only[List.map_cons,List.map_nil,List.getD_cons_zero];rw[this];cases V4 w M a<;>cases c<;>decide
   rw[if_neg h5,if_neg h5];by_cases h6:f.op=6∨f.op=7
   ·obtain⟨a,b,ha,hb1,hb2⟩:=IF har h6
    rw[if_pos h6,ha];have i1:=ih a (by rw[ha];exact .head _) (h'.2 a (by rw[ha];exact .head _)) c;have j1:=ih b (by rw[ha];exact .tail _ (.head _)) (h'.2 b (by rw[ha];exact .tail _ (.head _))) c;simp only[List.map_cons,List.map_nil,List.getD_cons_zero,List.getD_cons_succ]
    have happ:(∃l∈Bd a c++Bd b c,∀x∈l,QO w M x)↔V4 w M a= !c∨V4 w M b= !c:=by
     rw[←i1,←j1];constructor
     ·rintro⟨l,hl,hx⟩
      rcases FQ.1 hl with hl|hl
      ·exact .inl ⟨l,hl,hx⟩
      ·exact .inr ⟨l,hl,hx⟩
     ·rintro(⟨l,hl,hx⟩|⟨l,hl,hx⟩)
      ·exact⟨l,Ru _ hl,hx⟩
      ·exact⟨l,US _ hl,hx⟩
    have hprod:(∃l∈Fa (Bd a c) (Bd b c),∀x∈l,QO w M x)↔V4 w M a= !c∧V4 w M b= !c:=by
     rw[←i1,←j1];simp only[Fa,List.mem_flatMap,Oe];constructor
     ·rintro⟨l,⟨y,hy,z,hz,rfl⟩,hx⟩
      rw[TC]at hx;exact⟨⟨y,hy,hx.1⟩,z,hz,hx.2⟩
     ·rintro⟨⟨y,hy,h1⟩,z,hz,h2⟩
      exact⟨_,⟨y,hy,z,hz,rfl⟩,(TC y _ z).2 ⟨h1,h2⟩⟩
    rcases h6 with h6|h6
    ·rw[if_pos h6,h6]
     cases c
     ·rw[if_neg (by decide),hprod]
      simp
     ·rw[if_pos (by decide),happ]
      simp only[Bool.not_true,Bool.and_eq_false_iff]
    ·rw[if_neg (by omega: ¬f.op=6),if_pos h6,h6]
     cases c
     ·rw[if_pos (by decide),happ]
      simp
     ·rw[if_neg (by decide),hprod]
      simp only[Bool.not_true,Bool.or_eq_false_iff]
   ·rw[if_neg h6,if_neg (fun e=>h6 (.inl e)),if_neg (fun e=>h6 (.inr e))]
    have e1:QO w M f↔Rr w (M f.arg) f.path f=true:=by rw[QO,Ay,if_neg h5];exact Iff.rfl
    have e2:QO w M (FY f)↔Rr w (M f.arg) f.path f=false:=by
     rw[QO,show Ay (FY f)=(f,true) from rfl];exact Iff.rfl
    cases c
    ·simp[e1]
    ·simp[e2]
theorem bW {w:AM} (hw:Y2 w) {f:Fact} (hn:B6 w f=true):Ua w f=true↔ ∃M:Int→UQ,(∀a,Jm w (M a))∧V4 w M f=true:=by
 rw[Ua,List.any_eq_true];constructor
 ·rintro⟨l,h1,h2⟩
  obtain⟨M,h3,h4⟩:=(Sl hw fun x hx=>Wq (E0 f hn false l h1 x hx)).1 h2;exact⟨M,h3,(P3 f hn false).1 ⟨l,h1,h4⟩⟩
 ·rintro⟨M,h1,h2⟩
  obtain⟨l,h3,h4⟩:=(P3 f hn false).2 h2;exact⟨l,h3,(Sl hw fun x hx=>Wq (E0 f hn false l h3 x hx)).2 ⟨M,h1,h4⟩⟩
theorem Nk {w:AM} (hw:Y2 w) {a b:Fact} (ha:B6 w a=true) (hb:B6 w b=true):R6 w a b=true↔ ∀M:Int→UQ,(∀x,Jm w (M x))→V4 w M a=true→V4 w M b=true:=by
 have he: ∀M,V4 w M (Ot a (FY b))=(V4 w M a&& !V4 w M b):=fun M=>by
  rw[U5];simp only[wL,Ot,Fact.op,Fact.kids,List.map_cons,List.map_nil,List.getD_cons_zero,List.getD_cons_succ];rw[U5 w M (FY b)];simp[wL,FY,Fact.op,Fact.kids]
 rw[R6,Bool.not_eq_true',←Bool.not_eq_true,bW hw (S3 ha hb)];constructor
 ·intro h M h1 h2
  rw[←Bool.not_eq_false];exact fun h3=>h ⟨M,h1,by rw[he,h2,h3];rfl⟩
 ·rintro h ⟨M,h1,h2⟩
  rw[he,BO]at h2;rw[h M h1 h2.1]at h2;simp at h2
theorem imp_trans {w:AM} (hw:Y2 w) {a b c:Fact} (ha:B6 w a=true) (hb:B6 w b=true) (hc:B6 w c=true) (h1:R6 w a b=true) (h2:R6 w b c=true):R6 w a c=true:=
 (Nk hw ha hc).2 fun M hM h=>(Nk hw hb hc).1 h2 M hM ((Nk hw ha hb).1 h1 M hM h)
theorem Ef {p:Prog} (hok:Hs p) {i j k:Int} (hi:CL p i=true) (hj:CL p j=true) (hk:CL p k=true) (h1:EA p i j=true) (h2:EA p j k=true):EA p i k=true:=
 imp_trans hok.wok (hok.facts _ (Fo (EM hi))).1 (hok.facts _ (Fo (EM hj))).1 (hok.facts _ (Fo (EM hk))).1 h1 h2
theorem HO {p:Prog} {i j:Int}:Cp p i j=true↔EA p i j=true∧EA p j i=false:=by
 rw[Cp,BO,Bool.not_eq_true']
theorem V1 {p:Prog} (i:Int):Cp p i i=false:=by
 rw[Cp];cases EA p i i<;>rfl
theorem UB {p:Prog} {i j:Int} (h:Cp p i j=true):Cp p j i=false:=by
 rw[HO]at h;rw[Cp,h.1,h.2];rfl
theorem Rn {p:Prog} (hok:Hs p) {i j k:Int} (hi:CL p i=true) (hj:CL p j=true) (hk:CL p k=true) (h1:Cp p i j=true) (h2:Cp p j k=true):Cp p i k=true:=by
 rw[HO]at *;refine⟨Ef hok hi hj hk h1.1 h2.1,?_⟩;rw[←Bool.not_eq_true];intro e;have:=Ef hok hk hi hj e h1.1;rw[h2.2]at this;cases this
theorem OZ {p:Prog} (hok:Hs p) {i j k:Int} (hi:CL p i=true) (hj:CL p j=true) (hk:CL p k=true) (h1:EA p k i=true) (h3:EA p i k=true) (h2:Cp p i j=true):Cp p k j=true:=by
 rw[HO]at *;refine⟨Ef hok hk hi hj h1 h2.1,?_⟩;rw[←Bool.not_eq_true];intro e;have:=Ef hok hj hk hi e h1;rw[h2.2]at this;cases this
theorem OY {p:Prog} (hok:Hs p) {i j k:Int} (hi:CL p i=true) (hj:CL p j=true) (hk:CL p k=true) (h1:EA p j k=true) (h3:EA p k j=true) (h2:Cp p i j=true):Cp p i k=true:=by
 rw[HO]at *;refine⟨Ef hok hi hj hk h2.1 h1,?_⟩;rw[←Bool.not_eq_true];intro e;have:=Ef hok hj hk hi h1 e;rw[h2.2]at this;cases this
theorem Dh {n:Nat} {f:Nat→Nat→Bool} {x:Int×Int}:x∈GB n f↔ ∃i j:Nat,i<n∧j<n∧f i j=true∧x=((i:Int),(j:Int)):=by
 simp only[GB,I5,List.mem_flatMap,Oe,Mt,List.mem_range];constructor
 ·rintro⟨i,hi,j,⟨hj,hf⟩,rfl⟩
  exact⟨i,j,hi,hj,hf,rfl⟩
 ·rintro⟨i,j,hi,hj,hf,rfl⟩
  exact⟨i,hi,j,⟨hj,hf⟩,rfl⟩
theorem KQ {p:Prog} {i:Nat} (h:i<p.methods.length):CL p (i:Int)=true:=by
 simp only[CL,BO,DU];omega
theorem Dn {p:Prog} {gen kind:Int} {i j:Nat}:GO p gen kind i j=true↔((Ct p i).gen=gen∧(Ct p i).kind=kind)∧((Ct p j).gen=gen∧(Ct p j).kind=kind)∧Cp p i j=true:=by
 simp only[GO,E9,BO,Dp];constructor
 ·rintro⟨h1,h2,⟨h3,h4⟩,h5⟩
  exact⟨⟨h1,h2⟩,⟨by rw[←h3,h1],by rw[←h4,h2]⟩,h5⟩
 ·rintro⟨⟨h1,h2⟩,⟨h3,h4⟩,h5⟩
  exact⟨h1,h2,⟨by rw[h1,h3],by rw[h2,h4]⟩,h5⟩
theorem WV {p:Prog} {gen:Int} {i j:Nat} (h:O5 p gen i j=true):((Ct p i).gen=gen∧(Ct p j).gen=gen)∧(Ct p i).kind=(Ct p j).kind∧EA p i j=true∧EA p j i=true:=by
 simp only[O5,E9,BO,Dp]at h;obtain⟨-,h1,⟨h2,h3⟩,h4,h5⟩:=h;exact⟨⟨h1,by rw[←h2,h1]⟩,h3,h4,h5⟩
structure bA (l t:List (Int×Int)):Prop where
 irr: ∀x∈l,x.1≠x.2∧l.contains (x.2,x.1)=false
 tr: ∀x∈l,∀y∈l,y.1=x.2→l.contains (x.1,y.2)=true
 a1: ∀x∈l,∀y∈t,y.1=x.1→l.contains (y.2,x.2)=true
 a2: ∀x∈l,∀y∈t,y.2=x.1→l.contains (y.1,x.2)=true
 b1: ∀x∈l,∀y∈t,y.1=x.2→l.contains (x.1,y.2)=true
 b2: ∀x∈l,∀y∈t,y.2=x.2→l.contains (x.1,y.1)=true
theorem RY {p:Prog} (hok:Hs p) (gen kind:Int):bA (GB p.methods.length (GO p gen kind)) (GB p.methods.length (O5 p gen)):=by
 refine⟨fun x hx=>?_,fun x hx y hy e=>?_,fun x hx y hy e=>?_,fun x hx y hy e=>?_,fun x hx y hy e=>?_,fun x hx y hy e=>?_⟩
 ·obtain⟨i,j,hi,hj,hf,rfl⟩:=Dh.1 hx
  rw[Dn]at hf;refine⟨fun e=>?_,?_⟩
  ·dsimp only at e
   have:=hf.2.2;rw[e,V1]at this;cases this
  ·rw[←Bool.not_eq_true,List.contains_iff_mem]
   intro h;obtain⟨i',j',-,-,hf',e⟩:=Dh.1 h;rw[Dn]at hf';obtain⟨e1,e2⟩:=Prod.mk.inj e;dsimp only at e1 e2;obtain rfl:j=i':=by omega
   obtain rfl:i=j':=by omega
   have:=UB hf.2.2;rw[hf'.2.2]at this;cases this
 all_goals
  obtain⟨i,j,hi,hj,hf,rfl⟩:=Dh.1 hx;obtain⟨c,d,hc,hd,hg,rfl⟩:=Dh.1 hy;rw[Dn]at hf;obtain⟨q1,q2,q3⟩:=hf;dsimp only at e ⊢;rw[List.contains_iff_mem];have mi:=KQ hi;have mj:=KQ hj;have mc:=KQ hc;have md:=KQ hd
 ·obtain rfl:c=j:=by omega
  rw[Dn]at hg;exact Dh.2 ⟨i,d,hi,hd,Dn.2 ⟨q1,hg.2.1,Rn hok mi mj md q3 hg.2.2⟩,rfl⟩
 all_goals obtain⟨⟨g1,g2⟩,g3,g4,g5⟩:=WV hg
 ·obtain rfl:c=i:=by omega
  exact Dh.2 ⟨d,j,hd,hj,Dn.2 ⟨⟨g2,by rw[←g3,q1.2]⟩,q2,OZ hok mi mj md g5 g4 q3⟩,rfl⟩
 ·obtain rfl:d=i:=by omega
  exact Dh.2 ⟨c,j,hc,hj,Dn.2 ⟨⟨g1,by rw[g3,q1.2]⟩,q2,OZ hok mi mj mc g4 g5 q3⟩,rfl⟩
 ·obtain rfl:c=j:=by omega
  exact Dh.2 ⟨i,d,hi,hd,Dn.2 ⟨q1,⟨g2,by rw[←g3,q2.2]⟩,OY hok mi mj md g4 g5 q3⟩,rfl⟩
 ·obtain rfl:d=j:=by omega
  exact Dh.2 ⟨i,c,hi,hc,Dn.2 ⟨q1,⟨g1,by rw[g3,q2.2]⟩,OY hok mi mj mc g5 g4 q3⟩,rfl⟩
end Go.Gl
namespace Go.Gl
open Go.Proofs
attribute [local irreducible] BQ BJ A5 Ab AQ A4 Ac Af AR Az AW Aa BT Bf Sat An BZ A6 W
theorem Sv {n:Nat} {f:Nat→Nat→Bool} {i:Nat} (h: ∀j,f i j=false):I5 n f i= []:=by
 rw[I5,List.filter_eq_nil_iff.2 fun j _=>by rw[h j];decide];rfl
set_option maxHeartbeats 4000000 in
theorem eP (p : Prog) (gen kind:Int):Pure Tryz.prog 15 [.a (Bz p),eI gen,eI kind] (.t [.l (pP (Dr p gen kind).1) true,eI (Dr p gen kind).2]):=by
 refine Pure.of ?_;have hM:=Mx;have hr:=Sx p;refine yg nb ?_;have hs:=Sn
 conv=>whnf
 repeat'((first|refine st ?_|(refine sq ?_;intro K U)|(refine si ?_;intro A B Y Z)|(refine Y _ _ ?_;clear Z B Y A)|(refine U _ _ ?_;clear U K)|refine⟨nb,?_⟩|fail)<;>conv=>whnf)
 refine hr.use (rest:=[]) (by simpa using hs) ?_;clear hs;cases h:(Br p).isSome
 ·have hg:=aJ gen
  rintro r post σ ⟨rfl,rfl⟩ hs
  conv=>whnf
  repeat'((first|refine st ?_|(refine sq ?_;intro K U)|(refine si ?_;intro A B Y Z)|(refine Y _ _ ?_;clear Z B Y A)|(refine U _ _ ?_;clear U K)|refine ld ?_|refine G4 fun σ hs=>?_|refine xn ?_|refine Pure.use hg ?_|(intro nn hnn;generalize hg:BI _ nn _=σ;refine D8 hg fun hs=>?_;clear hg)|clear U K)<;>conv=>whnf)
  exact AO (by simp[Dr,h])
 ·rintro r post σ ⟨L,rfl,rfl⟩ hs
  have hg:=ky p L gen;have hok:=look_ok h;have h16:=hok.many;have hgw:=kz h;have hfm:=W5 h;cases h2:Uf p gen
  ·rw[h2]at hg
   conv=>whnf
   repeat'((first|refine st ?_|(refine sq ?_;intro K U)|(refine si ?_;intro A B Y Z)|(refine Y _ _ ?_;clear Z B Y A)|(refine U _ _ ?_;clear U K)|refine ld ?_|refine G4 fun σ hs=>?_|refine xn ?_|refine Pure.use hg ?_|(intro nn hnn;generalize hg:BI _ nn _=σ;refine D8 hg fun hs=>?_;clear hg)|clear U K)<;>conv=>whnf)
   exact AO (by simp[Dr,h,h2])
  rw[h2]at hg;by_cases h3:PB kind=true
  ·have hk :=h3
   simp only[PB,BO,DU]at hk
   conv=>whnf
   repeat'((first|refine st ?_|(refine sq ?_;intro K U)|(refine si ?_;intro A B Y Z)|(refine Y _ _ ?_;clear Z B Y A)|(refine U _ _ ?_;clear U K)|refine⟨rfl,?_⟩|refine ld ?_|refine G4 fun σ hs=>?_|refine Zc ?_|refine Pure.use hg ?_|refine Pure.use (ZQ _ _ _) ?_|(constructor<;>intro hc<;>(try rw[hc])<;>(replace hc:=bp hc)<;>try(exfalso;omega))|(intro nn hnn;generalize hg:BI _ nn _=σ;refine D8 hg fun hs=>?_;clear hg)|clear U K)<;>conv=>whnf)
   ·rename_i nr _ _ _ _ _ _ nO _ _ _
    refine WC p L gen h16 (nn:=nn) (fun s:List (Int×Int)×List (Int×Int)×V=>[.box nO [s.2.2],.own s.2.2 2 (pP s.2.1),.box nr [Kw p L],.map L (I4 p s.1)]) (fun k s=>s.2.1=(List.range k).flatMap (I5 p.methods.length (GO p gen kind))) ([],[],.l [] true) rfl ((FF hs 2).perm (Iq _ _ _ _)) ?_ ?_ ?_
    ·intro k s hlt hne hi
     rw[Gz,←hi,Sv (fun j=>by simp[GO,hne]),List.append_nil]
    ·clear hs hnn
     intro k s hlt hgk hi rest σ hs;have hck:Bo k=k:=Ad (by omega);have hmk:CL p (k:Int)=true:=by simp[CL];omega
     rw[←hck];refine F4 (l:=[.box nO [s.2.2],.own s.2.2 2 (pP s.2.1),.box nr [Kw p L],.map L (I4 p s.1)]++rest) rfl hs ?_;clear hs;intro σ hs
     conv=>whnf
     repeat'((first|refine st ?_|(refine sq ?_;intro K U)|(refine si ?_;intro A B Y Z)|(refine Y _ _ ?_;clear Z B Y A)|(refine U _ _ ?_;clear U K)|refine ld ?_|refine G4 fun σ hs=>?_|refine Pure.use (ZQ _ _ _) ?_|(intro nn hnn;generalize hg:BI _ nn _=σ;refine D8 hg fun hs=>?_;clear hg)|clear U K)<;>conv=>whnf)
     rename_i nm _ _ _ _ _;clear hnn;refine WC p L gen h16 (nn:=nn) (fun s':List (Int×Int)×List (Int×Int)×V=> .box nm [eI (Bo k)]::([.box nO [s'.2.2],.own s'.2.2 2 (pP s'.2.1),.box nr [Kw p L],.map L (I4 p s'.1)]++rest)) (fun j s'=>s'.2.1=(List.range k).flatMap (I5 p.methods.length (GO p gen kind))++Ky (GO p gen kind) k j) s (by simp[Ky,hi]) hs ?_ ?_ ?_
     ·intro j s' hjlt hne hi'
      have:GO p gen kind k j=false:=by
       rw[←Bool.not_eq_true,Dn];exact fun e=>hne e.2.1.1
      rw[IW,this,hi'];simp
     ·clear hs hi
      intro j s' hjlt hgj hi' rest2 σ hs;have hcj:Bo j=j:=Ad (by omega);have hmj:CL p (j:Int)=true:=by simp[CL];omega
      obtain⟨x,hx⟩: ∃x,p.methods[k]? =some x:=⟨_,Fs hlt⟩
      have hxe:Ct p (k:Int)=x:=by
       have:=EM hmk;rw[Int.toNat_natCast,hx]at this;exact(Option.some.inj this).symm
      have c4:Pure Tryz.prog 44 [Kw p L,eI (Bo k),eI (Bo j)] (.b (E9 p k j)):=by rw[hck,hcj];exact XL p L k j hmk hmj
      have c5:Bx Tryz.prog 45 [Kw p L,eI (Bo k),eI (Bo j)] [.map L (I4 p s'.1)] fun r post=>r= .ret (.b (Cp p k j))∧post= [.map L (I4 p (Uo p s'.1 k j))]:=by rw[hck,hcj];exact cn p L k j hok hgw hfm hmk hmj s'.1
      have hoe:GO p gen kind k j=(x.kind==kind&&(E9 p k j&&Cp p k j)):=by rw[GO,hxe,←hxe,hgk,hxe];simp
      have hrs:=IW (GO p gen kind) k j;have hfl:=IA p.methods.length (GO p gen kind) k;have hrl:=Q3 (GO p gen kind) k j;have hkk:k*p.methods.length≤16*16:=Nat.mul_le_mul (by omega) h16;have hll:s'.2.1.length<Ax∧(s'.2.1.length+1)*16≤140737488355328:=by rw[hi',UE];omega
      have hno:GO p gen kind k j=false→s'.2.1=(List.range k).flatMap (I5 p.methods.length (GO p gen kind))++Ky (GO p gen kind) k (j+1):=fun e=>by rw[hrs,e,hi'];simp
      rw[←hcj];refine F4 (l:= .box nm [eI (Bo k)]::([.box nO [s'.2.2],.own s'.2.2 2 (pP s'.2.1),.box nr [Kw p L],.map L (I4 p s'.1)]++rest)++rest2) rfl hs ?_;clear hs;intro σ hs;by_cases hkd:x.kind=kind
      ·cases hal:E9 p k j<;>rw[hal]at c4
       ·conv=>whnf
        repeat'((first|refine st ?_|(refine sq ?_;intro K U)|(refine si ?_;intro A B Y Z)|(refine Y _ _ ?_;clear Z B Y A)|(refine U _ _ ?_;clear U K)|refine dr ?_|refine⟨rfl,?_⟩|refine ix ?_|refine ld ?_|refine G5 ?_|refine Pure.use c4 ?_|(constructor<;>intro hc<;>(try rw[hc])<;>(replace hc:=bp hc)<;>try(exfalso;omega))|fail)<;>conv=>whnf)
        intro hn;exact⟨s',rfl,hno (by rw[hoe,hal];simp),hs.K3 hn⟩
       ·cases hah:Cp p k j<;>rw[hah]at c5
        all_goals
         conv=>whnf
         repeat'((first|refine st ?_|(refine sq ?_;intro K U)|(refine si ?_;intro A B Y Z)|(refine Y _ _ ?_;clear Z B Y A)|refine dr ?_|refine⟨rfl,?_⟩|refine ix ?_|refine ld ?_|refine MM ?_|refine Pure.use c4 ?_|(constructor<;>intro hc<;>(try rw[hc])<;>(replace hc:=bp hc)<;>try(exfalso;omega))|fail)<;>conv=>whnf)
         refine c5.use (rest:=_) (hs.front (j:=4) rfl) ?_;clear hs;rintro r post σ ⟨rfl,rfl⟩ hs
         conv=>whnf
         repeat'((first|refine st ?_|(refine si ?_;intro A B Y Z)|(refine Y _ _ ?_;clear Z B Y A)|(refine U _ _ ?_;clear U K)|refine dr ?_|refine ld ?_|refine G4 fun σ hs=>?_|refine MM ?_|refine G5 ?_|refine aq (enc:=pI) (x:=((_:Int),(_:Int))) (fun v σ hs hsl=>?_) (hg:=U0)|fail)<;>conv=>whnf)
        ·intro hn
         exact⟨(Uo p s'.1 k j,s'.2.1,s'.2.2),rfl,hno (by rw[hoe,hah];simp),(Sat.back (l:=(.box nm [eI (Bo k)]::([.box nO [s'.2.2],.own s'.2.2 2 (pP s'.2.1),.box nr [Kw p L],.map L (I4 p (Uo p s'.1 k j))]++rest))++rest2) (j:=4) hs rfl).K3 hn⟩
        ·intro hn
         refine⟨(Uo p s'.1 k j,s'.2.1++[((k:Int),(j:Int))],v),rfl,?_,Sat.K3 ?_ hn⟩
         ·rw[hrs,show GO p gen kind k j=true by rw[hoe,hah,hal];simp[hkd],hi',if_pos rfl,UR]
         ·rw[show((k:Int),(j:Int))=(Bo k,Bo j) by rw[hck,hcj]]
          exact Sat.back (l:=(.box nm [eI (Bo k)]::([.box nO [v],.own v 2 (pP (s'.2.1++[(Bo k,Bo j)])),.box nr [Kw p L],.map L (I4 p (Uo p s'.1 k j))]++rest))++rest2) (j:=4) hs rfl
      ·conv=>whnf
       repeat'((first|refine st ?_|(refine sq ?_;intro K U)|(refine si ?_;intro A B Y Z)|(refine Y _ _ ?_;clear Z B Y A)|(refine U _ _ ?_;clear U K)|refine dr ?_|refine⟨rfl,?_⟩|refine ix ?_|refine ld ?_|(constructor<;>intro hc<;>(try rw[hc])<;>(replace hc:=bp hc)<;>try(exfalso;omega))|fail)<;>conv=>whnf)
       intro hn;exact⟨s',rfl,hno (by rw[hoe];simp[hkd]),hs.K3 hn⟩
     ·clear hs hi
      intro s' σ hi' hs;refine Gh hs fun σ hs=>?_
      conv=>whnf
      intro hn;exact⟨s',rfl,by rw[Gz];exact hi',(hs.less (List.sublist_cons_self _ _)).K3 hn⟩
    ·clear hs hnn
     intro s σ hi hs;refine Gh hs fun σ hs=>?_
     conv=>whnf
     repeat'((first|(refine sq ?_;intro K U)|(refine si ?_;intro A B Y Z)|(refine U _ _ ?_;clear U K)|refine ld ?_|fail)<;>conv=>whnf)
     refine(aY s.2.1 s.2.2 (by have:=IA p.methods.length (GO p gen kind) p.methods.length;have:p.methods.length*p.methods.length≤16*16:=Nat.mul_le_mul h16 h16;rw[hi];omega)).use (rest:=_) (hs.front (j:=1) rfl) ?_;clear hs;rintro r post σ ⟨rfl,rfl⟩ hs
     conv=>whnf
     repeat'((first|refine st ?_|(refine Y _ _ ?_;clear Z B Y A)|(refine U _ _ ?_;clear U K)|fail)<;>conv=>whnf)
     exact AO (by simp[Dr,h,h2,h3,GB,hi])
   ·exfalso
    simp at hc;omega
  ·have hk:kind<1∨4<kind:=by simp only[PB,BO,DU]at h3;omega
   have h3':PB kind=false:=by simpa using h3
   rcases hk with hk|hk
   ·conv=>whnf
    repeat'((first|refine st ?_|(refine sq ?_;intro K U)|(refine si ?_;intro A B Y Z)|(refine Y _ _ ?_;clear Z B Y A)|(refine U _ _ ?_;clear U K)|refine⟨rfl,?_⟩|refine ld ?_|refine G4 fun σ hs=>?_|refine Zc ?_|refine Pure.use hg ?_|refine Pure.use (ZQ _ _ _) ?_|(constructor<;>intro hc<;>(try rw[hc])<;>(replace hc:=bp hc)<;>try(exfalso;omega))|(intro nn hnn;generalize hg:BI _ nn _=σ;refine D8 hg fun hs=>?_;clear hg)|clear U K)<;>conv=>whnf)
    ·exfalso
     have q:(bif !true then true else decide (kind<1))=false:=by assumption
     simp at q;omega
    ·exact AO (by simp[Dr,h,h2,h3'])
   ·conv=>whnf
    repeat'((first|refine st ?_|(refine sq ?_;intro K U)|(refine si ?_;intro A B Y Z)|(refine Y _ _ ?_;clear Z B Y A)|(refine U _ _ ?_;clear U K)|refine⟨rfl,?_⟩|refine ld ?_|refine G4 fun σ hs=>?_|refine Zc ?_|refine Pure.use hg ?_|(constructor<;>intro hc<;>(try rw[hc])<;>(replace hc:=bp hc)<;>try(exfalso;omega))|(intro nn hnn;generalize hg:BI _ nn _=σ;refine D8 hg fun hs=>?_;clear hg)|clear U K)<;>conv=>whnf)
    all_goals exact AO (by simp[Dr,h,h2,h3'])
end Go.Gl
