import Derived.Test.YtegbmnmnaijioaaGreatH7
set_option linter.all false
set_option linter.defProp false
noncomputable section
namespace Go.Gl
open Go.Proofs
attribute [local irreducible] A7 Ap Af AT AM Ae AS AU AL Ad AO AP Aw A1 Sat AX Az Ah W
def QG {w:AJ} (f:Fact):Al w f=true→O3 f=true:=by
 induction f using Fact.ind with
 | h f ih=>
   intro h;rw[Bs]at h;simp only[Cq,A9,Ev,Cf]at h;rw[Lw];simp only[A9,Cf,List.all_map,Ev,Function.comp_apply,id];exact⟨⟨h.1.2.2.1,h.1.2.2.2.1⟩,fun k hk=>ih k hk (h.2 k hk)⟩
def Qj (p:Prog) (m:MX):Bool:=decide (1≤m.kind)&&(decide (m.kind≤4)&&(decide (0≤m.gen)&&(decide (m.gen<(p.C1.length:Int))&&(CA (AR p) m.fact&&decide (BQ m.fact≤p.C1.getD m.gen.toNat 0)))))
def runM (p:Prog):List MX→List Int→Option (List Int)
 | [],s=>some s
 | m::r,s=>if Qj p m then match CU p (Jz m.kind) 12 m.node (p.C1.getD m.gen.toNat 0) s with
   | none=>none
   | some s'=>runM p r s' else none
def C4 (p:Prog):Bool:=BE p&&(decide (p.C1.length≤8)&&(decide (p.methods.length≤16)&&(decide (1≤p.nodes.length)&&(decide (p.nodes.length≤120)&&p.C1.all fun g=>decide (1≤g)&&decide (g≤3)))))
def Bd (p:Prog):Option (List Int):=if C4 p then match runM p p.methods (List.replicate p.nodes.length (-1))with
 | none=>none
 | some s=>match CU p false 12 p.main 0 s with
   | none=>none
   | some s=>if s.all fun n=>decide (0≤n)then some s else none else none
def J0 (p:Prog):Option (List Int)→Option (List Int)
 | none=>none
 | some s=>match CU p false 12 p.main 0 s with
   | none=>none
   | some s=>if s.all fun n=>decide (0≤n)then some s else none
def NW (p:Prog):V:=match Bd p with
 | none=> .t [.l [] true,.b false]
 | some s=> .t [.l (iL s) false,.b true]
def ow {p:Prog} (h:Bd p=none):NW p= .t [.l [] true,.b false]:=by simp only[NW,h]
def xT {p:Prog} (h:C4 p=false):NW p= .t [.l [] true,.b false]:=ow (by unfold Bd;rw[h];rfl)
def LH {p:Prog} {σ:AH} (h:Bd p=none):Ap σ (.t [.l [] true,.b false]) fun r σ'=>r=R.ret (NW p)∧σ'=emp:=by
 rw[ow h];exact AI rfl
def Oz {p:Prog} {σ:AH} (h:C4 p=false):Ap σ (.t [.l [] true,.b false]) fun r σ'=>r=R.ret (NW p)∧σ'=emp:=by
 rw[xT h];exact AI rfl
def Zo {p:Prog} (h:C4 p=true):Bd p=J0 p (runM p p.methods (List.replicate p.nodes.length (-1))):=by
 unfold Bd;rw[if_pos h];rfl
def Di {p:Prog} {k:Nat} {x:MX} {s:List Int} (hx:p.methods[k]? =some x) (hn:Bd p=J0 p (runM p (p.methods.drop k) s)) (hok:Qj p x=false):Bd p=none:=by
 rw[hn,drop_cons hx,runM,if_neg (by simp[hok])];rfl
def Rh {p:Prog} {k:Nat} {x:MX} {s:List Int} (hx:p.methods[k]? =some x) (hn:Bd p=J0 p (runM p (p.methods.drop k) s)) (hok:Qj p x=true) (hw:CU p (Jz x.kind) 12 x.node (p.C1.getD x.gen.toNat 0) s=none):Bd p=none:=by
 rw[hn,drop_cons hx,runM,if_pos hok,hw];rfl
def ZS {p:Prog} {k:Nat} {x:MX} {s s':List Int} (hx:p.methods[k]? =some x) (hn:Bd p=J0 p (runM p (p.methods.drop k) s)) (hok:Qj p x=true) (hw:CU p (Jz x.kind) 12 x.node (p.C1.getD x.gen.toNat 0) s=some s'):Bd p=J0 p (runM p (p.methods.drop (k+1)) s'):=by
 rw[hn,drop_cons hx,runM,if_pos hok,hw]
def R2 {p:Prog} (h:C4 p=true) {k:Nat} {x:Int} (hx:p.C1[k]? =some x):1≤x∧x≤3:=by
 simp only[C4,A9,Ev,Cf]at h;exact h.2.2.2.2.2 x (DL hx)
set_option maxHeartbeats 4000000 in
def ri (p:Prog):Pure Tryz.prog 97 [.a (Be p)] (NW p):=by
 refine Pure.fit (by kernel_rfl) fun hf=>?_
 have⟨p1,p2,p3,p4⟩:=GD hf.1;have hM:=Mx;refine xn kZ ?_;have hs:=Sn
 conv=>whnf
 repeat'((first|apply st|(apply sq;intro K U)|(apply si;intro A B Y Z)|(apply Y;clear Z B Y A)|(apply U;clear U K)|refine⟨rfl,?_⟩|refine⟨kZ,?_⟩|refine Pure.use (dO _) ?_|(constructor<;>intro hc<;>(try rw[hc])<;>(replace hc:=bp hc)<;>(try simp(disch:=omega) only[BT,wrap64,AN]at hc))|clear U K)<;>conv=>whnf)
 ·exact Oz (by simp[C4];intros;omega)
 rotate_left
 ·exact Oz (by simp[C4];intros;omega)
 ·exact Oz (by simp[C4];intros;omega)
 ·exact Oz (by simp[C4];intros;omega)
 ·exact Oz (by simp[C4, *])
 have a1:p.C1.length≤8:=by omega
 have a2:p.methods.length≤16:=by omega
 have a3:1≤p.nodes.length:=by omega
 have a4:p.nodes.length≤120:=by omega
 have hg:C4 p=p.C1.all fun g=>decide (1≤g)&&decide (g≤3):=by
  simp only[C4,a1,a2,a3,a4,decide_true,EW];simp[*]
 refine C3 p.C1.length (fun k (_:Unit)=>[(4,eI (Bc k))]) (fun _ _=>[]) (fun k _=>C4 p=(p.C1.drop k).all fun g=>decide (1≤g)&&decide (g≤3)) () rfl (by simpa using hg) hs ?_;clear hs;rintro k - σ hk hn hs
 conv=>whnf
 repeat'((first|apply st|(apply sq;intro K U)|(apply si;intro A B Y Z)|(apply Y;clear Z B Y A)|(apply U;clear U K)|refine⟨rfl,?_⟩|refine ix ?_|(refine fc (fun x hx hlt hc=>?_) (fun hk hc=>?_)<;>(try rw[hc])<;>clear hc)|(constructor<;>intro hc<;>(try rw[hc])<;>(replace hc:=bp hc))|clear U K)<;>conv=>whnf)
 ·exact Oz (by rw[hn,drop_cons hx];simp;intros;omega)
 ·exact⟨hlt,(),rfl,by rw[hn,drop_cons hx];simp[*],hs⟩
 ·exact Oz (by rw[hn,drop_cons hx];simp;intros;omega)
 have hh:C4 p=true:=by rw[hn,Au hk];rfl
 have F:=I6 hf.1;have hcB:BE p=true:=by assumption
 have hsb:Cw 0 p.AQ=true:=by simp only[BE,A9]at hcB;exact hcB.2.1
 have hc10:p.AQ.length≤1000:=by simp only[BE,A9,Cf]at hcB;omega
 have hmS:Bu p.AQ≤Aj:=by have:=(FZ _ _ hsb).1;simp only[BE,A9,Cf]at hcB;omega
 have hL:=Zo hh;clear hn hg;refine C3 p.nodes.length (fun j v=>[(5,v),(6,eI (Bc j))]) (fun j v=>[.own v 1 (iL (List.replicate j (-1)))]) (fun j v=>1≤j→(EI v).isSome=true) (.l [] true) rfl (fun h=>by omega) (GV hs 1) ?_;clear hs;rintro j v σ hj hv hs
 conv=>whnf
 repeat'((first|apply st|(apply sq;intro K U)|(apply si;intro A B Y Z)|(apply Y;clear Z B Y A)|(apply U;clear U K)|refine⟨rfl,?_⟩|refine⟨kZ,?_⟩|refine sn fun σ hs=>?_|refine aq fun v σ hs hsl=>?_|(refine fc (fun x hx hlt hc=>?_) (fun hk hc=>?_)<;>(try rw[hc])<;>clear hc)|refine Pure.use (OC _ (by assumption) (by omega) (by assumption)) ?_|(intro nn hnn;generalize hg:A5 _ nn _=σ;refine al hg fun hs=>?_;clear hg)|clear U K)<;>conv=>whnf)
 ·exact⟨hlt,_,rfl,fun _=>hsl,by rw[List.replicate_succ'];exact hs⟩
 have hsv:=hv (by omega);subst hk;refine C3 p.methods.length (fun k (s:List Int)=>[(8,eI (Bc k))]) (fun _ s=>[.own v 1 (iL s),.box nn (BC (AR p))]) (fun k s=>s.length=p.nodes.length∧Bd p=J0 p (runM p (p.methods.drop k) s)) (List.replicate p.nodes.length (-1)) rfl ⟨by simp,hL⟩ hs ?_;clear hs;rintro k s σ hk ⟨hl,hn⟩ hs
 conv=>whnf
 repeat'((first|apply st|(apply sq;intro K U)|(apply si;intro A B Y Z)|(apply Y;clear Z B Y A)|(apply U;clear U K)|apply dr|refine rk ?_ ?_|exact fun s e=>by cases e;rfl|refine⟨rfl,?_⟩|refine⟨kZ,?_⟩|refine ix ?_|refine iq fun x hx=>?_|refine ld ?_|refine sn fun σ hs=>?_|(refine fc (fun x hx hlt hc=>?_) (fun hk hc=>?_)<;>(try rw[hc])<;>clear hc)|refine Pure.use (jW _ _) ?_|(constructor<;>intro hc<;>(try rw[hc])<;>(replace hc:=bp hc)<;>(try simp(disch:=omega) only[BT,wrap64,AN]at hc))|(intro nn hnn;generalize hg:A5 _ nn _=σ;refine al hg fun hs=>?_;clear hg)|clear U K)<;>conv=>whnf)
 rotate_left
 ·exact LH (Di hx hn (by simp[Qj, *]))
 ·exact LH (Di hx hn (by simp[Qj];intros;omega))
 ·exact LH (Di hx hn (by simp[Qj];intros;omega))
 ·exact LH (Di hx hn (by simp[Qj];intros;omega))
 ·exact LH (Di hx hn (by simp[Qj];intros;omega))
 ·refine(fH p false 12 (Ht _) p.main 0 1 s v rfl (by omega) (by omega) hl hsv).use hs ?_
  clear hs;rintro r post σ ⟨s2,hl2,rfl,⟨ho,rfl⟩|⟨ho,rfl⟩⟩ hs
  ·conv=>whnf
   repeat'((first|apply st|(apply sq;intro K U)|(apply si;intro A B Y Z)|(apply Y;clear Z B Y A)|(apply U;clear U K)|(constructor<;>intro hc<;>(try rw[hc])<;>(replace hc:=bp hc)<;>(try simp(disch:=omega) only[BT,wrap64,AN]at hc))|clear U K)<;>conv=>whnf)
   ·cases hc
   have hz:Bd p=if s2.all fun n=>decide (0≤n)then some s2 else none:=by rw[hn,Au hk,runM,J0,ho]
   refine C3 s2.length (fun j (_:Unit)=>[(10,eI (Bc j))]) (fun _ _=>[.own v 1 (iL s2),.box nn (BC (AR p))]) (fun j _=>Bd p=if(s2.drop j).all fun n=>decide (0≤n)then some s2 else none) () rfl hz hs ?_;clear hs;rintro j - σ hj hz hs
   conv=>whnf
   repeat'((first|apply st|(apply sq;intro K U)|(apply si;intro A B Y Z)|(apply Y;clear Z B Y A)|(apply U;clear U K)|refine⟨rfl,?_⟩|refine oc ?_|refine ol fun x hx=>?_|(refine fc (fun x hx hlt hc=>?_) (fun hk hc=>?_)<;>(try rw[hc])<;>clear hc)|refine lo ?_|(constructor<;>intro hc<;>(try rw[hc])<;>(replace hc:=bp hc))|clear U K)<;>conv=>whnf)
   ·exact LH (by rw[hz,drop_cons hx,SZ,if_neg];simp;intros;omega)
   ·exact⟨hlt,(),rfl,by rw[hz,drop_cons hx,SZ];simp[*],hs⟩
   ·have hz2:Bd p=some s2:=by rw[hz,Au (by assumption)];rfl
    simp only[NW,hz2];exact A8 (.t (.cons (hs.IV 0 rfl) (.cons (.refl _) .nil)))
  ·conv=>whnf
   repeat'((first|apply st|(apply sq;intro K U)|(apply si;intro A B Y Z)|(apply Y;clear Z B Y A)|(apply U;clear U K)|(constructor<;>intro hc<;>(try rw[hc])<;>(replace hc:=bp hc)<;>(try simp(disch:=omega) only[BT,wrap64,AN]at hc))|clear U K)<;>conv=>whnf)
   ·exact LH (by rw[hn,Au hk,runM,J0,ho])
   ·cases hc
 rename MX=>m
 rename p.methods[k]? =some m=>hm
 refine(iU m.fact (QG _ (by(have:CA (AR p) m.fact=true:=by assumption);simp only[CA,A9]at this;exact this.2.2))).use ?_
 conv=>whnf
 repeat'((first|apply st|(apply sq;intro K U)|(apply si;intro A B Y Z)|(apply Y;clear Z B Y A)|(apply U;clear U K)|apply dr|refine rk ?_ ?_|exact fun s e=>by cases e;rfl|refine⟨rfl,?_⟩|refine⟨kZ,?_⟩|refine iq fun x hx=>?_|refine ld ?_|refine Pure.use (rV _) ?_|(constructor<;>intro hc<;>(try rw[hc])<;>(replace hc:=bp hc))|clear U K)<;>conv=>whnf)
 ·exact LH (Di hm hn (by simp[Qj,D9,hx];intros;omega))
 obtain⟨hx1,hx3⟩:=R2 hh hx;have hgd:p.C1.getD m.gen.toNat 0=x:=by rw[D9,hx];rfl
 rename p.C1[m.gen.toNat]? =some _=>hx2
 have hxe:=Option.some.inj (hx.symm.trans hx2);subst hxe;have hok:Qj p m=true:=by simp only[Qj,hgd,A9,Cf];exact⟨by assumption,by omega,by assumption,by assumption,by assumption,by assumption⟩
 refine(fH p (Jz m.kind) 12 (Ht _) m.node x 1 s v rfl (by omega) (by omega) hl hsv).use (rest:=[_,_]) hs ?_;clear hs;rintro r post σ ⟨s2,hl2,rfl,⟨ho,rfl⟩|⟨ho,rfl⟩⟩ hs
 ·conv=>whnf
  repeat'((first|apply st|(apply sq;intro K U)|(apply si;intro A B Y Z)|(apply Y;clear Z B Y A)|(apply U;clear U K)|apply dr|refine⟨rfl,?_⟩|(constructor<;>intro hc<;>(try rw[hc])<;>(replace hc:=bp hc)<;>(try simp(disch:=omega) only[BT,wrap64,AN]at hc))|clear U K)<;>conv=>whnf)
  ·cases hc
  ·exact⟨by assumption,s2,rfl,⟨by omega,ZS hm hn hok (by rw[hgd];exact ho)⟩,hs.less (.cons₂ _ (.cons₂ _ (MJ _)))⟩
 ·conv=>whnf
  repeat'((first|apply st|(apply sq;intro K U)|(apply si;intro A B Y Z)|(apply Y;clear Z B Y A)|(apply U;clear U K)|apply dr|refine⟨rfl,?_⟩|(constructor<;>intro hc<;>(try rw[hc])<;>(replace hc:=bp hc)<;>(try simp(disch:=omega) only[BT,wrap64,AN]at hc))|clear U K)<;>conv=>whnf)
  ·exact LH (Rh hm hn hok (by rw[hgd];exact ho))
  ·cases hc
def qy (p:Prog):Pure Tryz.prog 36 [.a (Be p)] (.b (Bd p).isSome):=by
 refine x5 kZ ?_;have h:=ri p;unfold NW at h;cases hl:Bd p with
 | none=>
   rw[hl]at h
   conv=>whnf
   repeat'((first|apply st|(apply sq;intro K U)|(apply si;intro A B Y Z)|(apply Y;clear Z B Y A)|(apply U;clear U K)|refine⟨kZ,?_⟩|refine Pure.use (by assumption) ?_|fail)<;>conv=>whnf)
   all_goals exact AI (by first|rfl|simp)
 | some s=>
   rw[hl]at h
   conv=>whnf
   repeat'((first|apply st|(apply sq;intro K U)|(apply si;intro A B Y Z)|(apply Y;clear Z B Y A)|(apply U;clear U K)|refine⟨kZ,?_⟩|refine Pure.use (by assumption) ?_|fail)<;>conv=>whnf)
   all_goals exact AI (by first|rfl|simp)
def K9:List (Fact→Bool)→List Fact→Bool
 | h::r,k::s=>h k&&K9 r s
 | _,_=>true
def oa (f:Fact) (l:List (Fact→Bool)) (g:Fact):Bool:=f.op==g.op&&(f.arg==g.arg&&(f.cls==g.cls&&(f.n==g.n&&(f.path==g.path&&(f.kids.length==g.kids.length&&K9 l g.kids)))))
def Cp (f:Fact):Fact→Bool:=f.FL oa
def PW (f g:Fact):Cp f g=(f.op==g.op&&(f.arg==g.arg&&(f.cls==g.cls&&(f.n==g.n&&(f.path==g.path&&(f.kids.length==g.kids.length&&K9 (f.kids.map Cp) g.kids)))))):=congrFun (Fact.CG oa f) g
def WI {xs ys:List Fact} (h: ∀x∈xs,∀y,Cp x y=true↔x=y) (hl:xs.length=ys.length):K9 (xs.map Cp) ys=true↔xs=ys:=by
 induction xs generalizing ys with
 | nil=>cases ys with
   | nil=>simp[K9]
   | cons _ _=>simp at hl
 | cons x r ih=>cases ys with
   | nil=>simp at hl
   | cons y s=>
     simp only[Ct,K9,A9,List.cons.injEq];rw[h x (.head _) y,ih (fun x hx=>h x (.tail _ hx)) (by simpa using hl)]
def Dh (f g:Fact):Cp f g=true↔f=g:=by
 induction f using Fact.ind generalizing g with
 | h f ih=>
   rw[PW];cases f with
   | mk o a p c n k=>cases g with
     | mk o' a' p' c' n' k'=>
       simp only[Fact.op,Fact.arg,Fact.cls,Fact.n,Fact.path,Fact.kids,A9,DK,Fact.mk.injEq]at *;constructor
       ·rintro⟨rfl,rfl,rfl,rfl,rfl,hl,h⟩
        exact⟨rfl,rfl,rfl,rfl,rfl,(WI (fun x hx y=>ih x hx y) hl).1 h⟩
       ·rintro⟨rfl,rfl,rfl,rfl,rfl,rfl⟩
        exact⟨rfl,rfl,rfl,rfl,rfl,rfl,(WI (fun x hx y=>ih x hx y) rfl).2 rfl⟩
def C9 (f:Fact):Fact:= .mk 5 0 [] 0 0 [f]
def Qx (f g:Fact):Fact:= .mk 6 0 [] 0 0 [f,g]
def ox (l:Fact):Prop:=l.op=5→l.kids≠[]
def BA (l:Fact):Fact×Bool:=if l.op=5 then(l.kids.headD default,true)else(l,false)
def CH (path pre:List Int):Bool:=decide (pre.length≤path.length)&&path.take pre.length==pre
def NN (a:Int) (p:List Int) (l:Fact):Bool:=(BA l).1.arg==a&&(BA l).1.path==p
def Fx (ls:List Fact) (a:Int) (p:List Int):Bool:=ls.all fun l=>(BA l).2|| !((BA l).1.arg==a&&CH (BA l).1.path p)
def Bk (n:Nat):List Int:=(List.range n).map Int.ofNat
def G5 (n:Nat):Bk (n+1)=Bk n++[(n:Int)]:=by simp[Bk,List.range_succ]
def IJ (n:Nat):(Bk n).length=n:=by simp[Bk]
def oR (a:Int) (p:List Int) (s:Int) (l:Fact):Bool:=(BA l).1.arg==a&&CH (BA l).1.path (p++[s])
def Dz (n:Nat) (ls:List Fact) (a:Int) (p:List Int):List Int:=(Bk n).filter fun s=>ls.any (oR a p s)
def J7 (n:Nat) (ls:List Fact) (a:Int) (p:List Int):Bool:=(Dz n ls a p).all fun s=>Fx ls a (p++[s])
def XX (ls:List Fact):Prop:= ∀l∈ls,-1000000000≤(BA l).1.n∧(BA l).1.n≤1000000000
def Ur (x:Fact×Bool) (t:Int×Int×List Int):Option (Int×Int×List Int):=
 if x.1.op=2 then if decide (x.1.cls > 1) != x.2 then none else some t
 else if x.1.op=3 then(if x.2 then some (if x.1.n > t.1 then x.1.n else t.1,t.2.1,t.2.2)else some (t.1,if x.1.n - 1<t.2.1 then x.1.n - 1 else t.2.1,t.2.2))
 else if x.2 then some (t.1,t.2.1,t.2.2++[x.1.n])else some (if x.1.n > t.1 then x.1.n else t.1,if x.1.n<t.2.1 then x.1.n else t.2.1,t.2.2)
def foldI:List Fact→Int×Int×List Int→Option (Int×Int×List Int)
 | [],t=>some t
 | x::r,t=>(Ur (BA x) t).bind (foldI r)
def eE (no:List Int):Nat→Int→Option Int
 | 0,_=>none
 | k+1,n=>if no.all (· != n)then some n else eE no k (n+1)
def Us (t:Int×Int×List Int):Option Int:=eE t.2.2 (t.2.1+1 - t.1).toNat t.1
def t0:Int×Int×List Int:=(-1000000000,1000000000,[])
def Ud (ls:List Fact) (a:Int) (p:List Int):Option Int:=(foldI (ls.filter (NN a p)) t0).bind Us
def RC (x:Fact×Bool):Bool:=((x.1.op==2&&(x.1.cls==0||x.1.cls==2))==x.2)
def Oq (n:Nat) (ls:List Fact) (a:Int) (p:List Int):Bool:=(ls.filter (NN a p)).all (fun l=> !RC (BA l))&&J7 n ls a p
abbrev BB:=List Bool×List Bool
def NP (x:Fact×Bool) (t:BB):Option BB:=
 if x.1.op≠2∨x.1.cls=1∨x.1.cls=2 then(if x.2 then some t else none)else
 if x.2 then some (t.1,t.2.set x.1.cls.toNat true)else some (t.1.set x.1.cls.toNat true,t.2)
def J4:List Fact→BB→Option BB
 | [],t=>some t
 | x::r,t=>(NP (BA x) t).bind (J4 r)
def Uq (w:AJ) (ls:List Fact) (a:Int) (p:List Int) (can:Int→Bool) (s:Int) (t:BB):Option BB:=
 if !Fx ls a (p++[s])&& !can s then none else some (if Fx ls a (p++[s])then t.1 else t.1.set (CZ w s).toNat true,if can s then t.2 else t.2.set (CZ w s).toNat true)
def J3 (w:AJ) (ls:List Fact) (a:Int) (p:List Int) (can:Int→Bool):List Int→BB→Option BB
 | [],t=>some t
 | s::r,t=>(Uq w ls a p can s t).bind (J3 w ls a p can r)
def Jn (ps:List (List Int)) (c:Nat) (bs:List Bool):List Bool:=if bs.getD c false then(par ps c).foldl (fun b q=>b.set q.toNat true) bs else bs
def C7 (ps:List (List Int)) (n:Nat):Nat→List Bool→List Bool
 | 0,bs=>bs
 | k+1,bs=>Jn ps (n - 1 - k) (C7 ps n k bs)
def KA: ∀(l:List Int) (bs:List Bool),(l.foldl (fun b q=>b.set q.toNat true) bs).length=bs.length
 | [],_=>rfl
 | q::r,bs=>by rw[List.foldl_cons,KA r,List.length_set]
def Fg (ps:List (List Int)) (n:Nat): ∀(k:Nat) (bs:List Bool),(C7 ps n k bs).length=bs.length
 | 0,_=>rfl
 | k+1,bs=>by
   rw[C7,Jn];split
   ·rw[KA,Fg ps n k bs]
   ·exact Fg ps n k bs
def eR (w:AJ) (t:BB):Option (List Bool):=
 if t.2.getD 0 false then none else
 if(List.range (3+w.parents.length)).any (fun c=>(C7 w.parents (3+w.parents.length) w.parents.length (t.1.set 0 false)).getD c false&&t.2.getD c false)then none else some (C7 w.parents (3+w.parents.length) w.parents.length (t.1.set 0 false))
def tO (w:AJ):BB:=(List.replicate (3+w.parents.length) false,List.replicate (3+w.parents.length) false)
def UX (w:AJ) (ls:List Fact) (a:Int) (p:List Int) (can:Int→Bool):Option (List Bool):=
 ((J4 (ls.filter (NN a p)) (tO w)).bind (J3 w ls a p can (Dz w.owner.length ls a p))).bind (eR w)
def Mw {n:Nat} {ls:List Fact} {a:Int} {p:List Int} {s:Int} (h:s∈Dz n ls a p):0≤s∧s<n:=by
 have:=(JS.1 h).1;simp only[Bk,KE,List.mem_range]at this;obtain⟨m,hm,rfl⟩:=this;exact⟨Int.natCast_nonneg m,by simpa using hm⟩
def x8 (w:AJ) (ls:List Fact):Prop:= ∀l∈ls,(BA l).1.op=2→0≤(BA l).1.cls∧(BA l).1.cls<3+w.parents.length
def Sq (w:AJ) (ls:List Fact) (a:Int):Nat→List Int→Bool
 | 0,p=>((Ud ls a p).isSome&&J7 w.owner.length ls a p)||(Oq w.owner.length ls a p||(UX w ls a p fun _=>false).isSome)
 | d+1,p=>((Ud ls a p).isSome&&J7 w.owner.length ls a p)||(Oq w.owner.length ls a p||(UX w ls a p fun s=>Sq w ls a d (p++[s])).isSome)
def fV (ls:List Fact) (n:Nat):Prop:= ∀l∈ls,(BA l).1.path.length≤n
def Ra {n m:Nat} {ls:List Fact} {a:Int} {p:List Int} (h:fV ls m) (hp:m≤p.length):Dz n ls a p= []:=by
 rw[Dz,List.filter_eq_nil_iff];intro s _ hs;rw[JR]at hs;obtain⟨l,hl,hg⟩:=hs;have:=h l hl;simp only[oR,CH,A9,Cf,Qi,List.length_singleton]at hg;omega
def Jt (w:AJ) (ls:List Fact):Bool:=(Bk 3).all fun a=>Sq w ls a 2 []
def Zx {b:Nat} {σ:AH} {l:List At} (h:Sat σ l) (i j:Nat) {v u:V} {sz:Nat} {es ys:List (List V)} {K:V→AH→Prop} (hi:l[i]? =some (.own v sz es)) (hj:l[j]? =some (.own u sz ys)) (hl:es.length+ys.length≤Aj∧(es.length+ys.length)*b≤140737488355328) (hys: ∀e∈ys,e.length=sz) (ho: ∀e∈ys,∀v∈e,CO v=true)
    (hk: ∀v' σ',Sat σ' (l.set i (.own v' sz (es++ys)))→K v' σ'):AM b σ sz v u K:=by
 have Y:AM b σ sz v (.l ys true) K:=hAppend h i hi hl hys ho hk;rcases h.get hj with⟨rfl,hel⟩|⟨n,cap,rfl,hn⟩
 ·exact Y
 ·unfold AM at Y ⊢
  simp only[rowsOf]at Y ⊢;rw[hn];refine⟨rfl,Ht _,?_⟩;rw[List.take_length];exact Y.2
def DA (a:List Fact):List Fact→List Fact
 | []=>a
 | x::r=>DA (if a.any (Cp x)then a else a++[x]) r
def YP (a:List Fact): ∀(b:List Fact) (x:Fact),DA a (b++[x])=if(DA a b).any (Cp x)then DA a b else DA a b++[x]:=by
 intro b
 induction b generalizing a with
 | nil=>intro x;rfl
 | cons y r ih=>intro x;simp only[List.cons_append,DA];exact ih _ x
def R1 (a:List Fact): ∀(b:List Fact),(DA a b).length≤a.length+b.length:=by
 intro b
 induction b generalizing a with
 | nil=>simp[DA]
 | cons y r ih=>
   simp only[DA,K1];refine Nat.le_trans (ih _) ?_;split
   ·omega
   ·simp;omega
def R0 (a:List Fact): ∀(b:List Fact) (x:Fact),x∈DA a b→x∈a∨x∈b:=by
 intro b
 induction b generalizing a with
 | nil=>intro x hx;exact .inl hx
 | cons y r ih=>
   intro x hx;simp only[DA]at hx;rcases ih _ x hx with h|h
   ·split at h
    ·exact .inl h
    ·rcases FK.1 h with h|h
     ·exact .inl h
     ·rw[Nx.1 h];exact .inr (.head _)
   ·exact .inr (.tail _ h)
def GW (A B:List (List Fact)):List (List Fact):=A.flatMap fun x=>B.map fun y=>DA x y
def JF (f:Fact) (l:List (Bool→List (List Fact))) (c:Bool):List (List Fact):=
 if f.op=1 then(if c then []else [[]])else
 if f.op=5 then(l.getD 0 (fun _=>[])) (!c)else
 if f.op=6∨f.op=7 then(if c != (f.op==7)then l.getD 0 (fun _=>[]) c++l.getD 1 (fun _=>[]) c else GW (l.getD 0 (fun _=>[]) c) (l.getD 1 (fun _=>[]) c))else
 if c then [[C9 f]]else [[f]]
def Bn (f:Fact):Bool→List (List Fact):=f.FL JF
def Hr (f:Fact) (c:Bool):Bn f c=JF f (f.kids.map Bn) c:=congrFun (Fact.CG JF f) c
def dw (f:Fact) (l:List Nat):Nat:=if f.op=5 then l.getD 0 0 else if f.op=6∨f.op=7 then l.getD 0 0+l.getD 1 0 else 1
def lv (f:Fact):Nat:=f.FL dw
def NV (f:Fact):lv f=dw f (f.kids.map lv):=Fact.CG dw f
def arity (f:Fact):Bool:=f.FL fun f l=>f.kids.length==Bp f.op&&l.all id
def ET (f:Fact):arity f=(f.kids.length==Bp f.op&&f.kids.all arity):=by
 rw[arity,Fact.CG,List.all_map];rfl
def Ao {w:AJ} (f:Fact):Al w f=true→arity f=true:=by
 induction f using Fact.ind with
 | h f ih=>
   intro h;rw[Bs]at h;simp only[Cq,A9,Ev]at h;rw[ET,A9,Ev];exact⟨h.1.2.1,fun k hk=>ih k hk (h.2 k hk)⟩
def FB {f:Fact} (h:arity f=true) (h5:f.op=5): ∃a,f.kids= [a]∧arity a=true:=by
 rw[ET,A9,Ev,h5]at h;have hl:f.kids.length=1:=by simpa[Bp]using h.1
 obtain⟨a,ha⟩:=List.length_eq_one_iff.1 hl;exact⟨a,ha,h.2 a (by rw[ha];exact .head _)⟩
def EV {f:Fact} (h:arity f=true) (h6:f.op=6∨f.op=7): ∃a b,f.kids= [a,b]∧arity a=true∧arity b=true:=by
 rw[ET,A9,Ev]at h
 have hl:f.kids.length=2:=by
  have h5:f.op≠5:=by omega
  simpa[Bp,h5,h6]using h.1
 match hk:f.kids,hl with
 | [a,b],_=>exact⟨a,b,rfl,h.2 a (by rw[hk];exact .head _),h.2 b (by rw[hk];exact .tail _ (.head _))⟩
def Xc (f:Fact):arity f=true→1≤lv f:=by
 induction f using Fact.ind with
 | h f ih=>
   intro h;rw[NV,dw];split
   ·rename_i h5
    obtain⟨a,ha,hb⟩:=FB h h5;rw[ha];exact ih a (by rw[ha];exact .head _) hb
   ·split
    ·rename_i h6
     obtain⟨a,b,ha,hb,_⟩:=EV h h6;rw[ha];have:=ih a (by rw[ha];exact .head _) hb;simp only[Ct,List.getD_cons_zero];omega
    ·omega
def l6 {a b:Nat} (ha:1≤a) (hb:1≤b):2 ^ a+2 ^ b≤2 ^ (a+b):=by
 rw[Nat.pow_add];have h1:2≤2 ^ a:=by simpa using Nat.pow_le_pow_right (show 0<2 by omega) ha
 have h2:2≤2 ^ b:=by simpa using Nat.pow_le_pow_right (show 0<2 by omega) hb
 generalize 2 ^ a=x at *;generalize 2 ^ b=y at *;have:=Nat.mul_le_mul_left (x - 1) (show 1≤y - 1 by omega);obtain⟨x,rfl⟩: ∃u,x=u+1:=⟨x - 1,by omega⟩
 obtain⟨y,rfl⟩: ∃u,y=u+1:=⟨y - 1,by omega⟩
 simp only[Nat.add_sub_cancel,Nat.mul_one]at this;rw[Nat.add_mul,Nat.mul_add];omega
def br (A B:List (List Fact)):(GW A B).length=A.length*B.length:=by
 induction A with
 | nil=>simp[GW]
 | cons x r ih=>
   simp only[GW,List.flatMap_cons,Qi,BT,K1]at *;rw[ih,Nat.add_mul];omega
def Kv (f : Fact):arity f=true→ ∀c,(Bn f c).length≤2 ^ lv f∧ ∀l∈Bn f c,l.length≤lv f:=by
 induction f using Fact.ind with
 | h f ih=>
   intro h c;rw[Hr,NV,JF,dw];by_cases h1:f.op=1
   ·have e5: ¬f.op=5:=by omega
    have e6: ¬(f.op=6∨f.op=7):=by omega
    rw[if_pos h1,if_neg e5,if_neg e6];cases c
    ·rw[if_neg (by decide)]
     exact⟨by simp,fun l hl=>by simp at hl;subst hl;simp⟩
    ·rw[if_pos rfl]
     exact⟨by simp,fun l hl=>by cases hl⟩
   rw[if_neg h1];by_cases h5:f.op=5
   ·obtain⟨a,ha,hb⟩:=FB h h5
    rw[if_pos h5,if_pos h5,ha];exact ih a (by rw[ha];exact .head _) hb (!c)
   rw[if_neg h5,if_neg h5];by_cases h6:f.op=6∨f.op=7
   ·obtain⟨a,b,ha,hb1,hb2⟩:=EV h h6
    rw[if_pos h6,if_pos h6,ha];simp only[Ct,List.map_nil,List.getD_cons_zero,List.getD_cons_succ];obtain⟨i1,i2⟩:=ih a (by rw[ha];exact .head _) hb1 c;obtain⟨j1,j2⟩:=ih b (by rw[ha];exact .tail _ (.head _)) hb2 c;have p1:=Xc a hb1;have p2:=Xc b hb2;split
    ·refine⟨?_,fun l hl=>?_⟩
     ·rw[Qi]
      have:=l6 p1 p2;omega
     ·rcases FK.1 hl with hl|hl
      ·have:=i2 l hl;omega
      ·have:=j2 l hl;omega
    ·refine⟨?_,fun l hl=>?_⟩
     ·rw[br,Nat.pow_add]
      exact Nat.mul_le_mul i1 j1
     ·simp only[GW,List.mem_flatMap,KE]at hl
      obtain⟨x,hx,y,hy,rfl⟩:=hl;have:=R1 x y;have:=i2 x hx;have:=j2 y hy;omega
   ·rw[if_neg h6,if_neg h6]
    cases c
    ·exact⟨by simp,fun l hl=>by simp at hl;subst hl;simp⟩
    ·exact⟨by simp,fun l hl=>by simp at hl;subst hl;simp⟩
def rh (f:Fact):arity f=true→2*lv f≤Br f+1:=by
 induction f using Fact.ind with
 | h f ih=>
   intro h;rw[NV,dw,Cm];by_cases h5:f.op=5
   ·obtain⟨a,ha,hb⟩:=FB h h5
    rw[if_pos h5,ha];have:=ih a (by rw[ha];exact .head _) hb;simp only[Ct,List.map_nil,List.getD_cons_zero,List.sum_cons,List.sum_nil];omega
   rw[if_neg h5];by_cases h6:f.op=6∨f.op=7
   ·obtain⟨a,b,ha,hb1,hb2⟩:=EV h h6
    rw[if_pos h6,ha];have:=ih a (by rw[ha];exact .head _) hb1;have:=ih b (by rw[ha];exact .tail _ (.head _)) hb2;simp only[Ct,List.map_nil,List.getD_cons_zero,List.getD_cons_succ,List.sum_cons,List.sum_nil];omega
   ·rw[if_neg h6]
    omega
def Ir (w:AJ) (x:Fact):Prop:= ∃g,Al w g=true∧Bj g=true∧(x=g∨x=C9 g)
def GK {g:Fact} (h:Bj g=true):g.op=2∨g.op=3∨g.op=4:=by
 simp only[Bj,F6,DK]at h;omega
def F5 {w : AJ} (f:Fact):Al w f=true→ ∀c,∀l∈Bn f c,∀x∈l,Ir w x:=by
 induction f using Fact.ind with
 | h f ih=>
   intro h c;have har:=Ao f h;have h':=h;rw[Bs,A9,Ev]at h';rw[Hr,JF];by_cases h1:f.op=1
   ·rw[if_pos h1]
    cases c
    ·rw[if_neg (by decide)]
     intro l hl x hx;simp at hl;subst hl;cases hx
    ·rw[if_pos rfl]
     intro l hl;cases hl
   rw[if_neg h1];by_cases h5:f.op=5
   ·obtain⟨a,ha,hb⟩:=FB har h5
    rw[if_pos h5,ha];exact ih a (by rw[ha];exact .head _) (h'.2 a (by rw[ha];exact .head _)) (!c)
   rw[if_neg h5];by_cases h6:f.op=6∨f.op=7
   ·obtain⟨a,b,ha,hb1,hb2⟩:=EV har h6
    rw[if_pos h6,ha];have i1:=ih a (by rw[ha];exact .head _) (h'.2 a (by rw[ha];exact .head _)) c;have j1:=ih b (by rw[ha];exact .tail _ (.head _)) (h'.2 b (by rw[ha];exact .tail _ (.head _))) c;simp only[Ct,List.map_nil,List.getD_cons_zero,List.getD_cons_succ];split
    ·intro l hl
     rcases FK.1 hl with hl|hl
     ·exact i1 l hl
     ·exact j1 l hl
    ·intro l hl x hx
     simp only[GW,List.mem_flatMap,KE]at hl;obtain⟨y,hy,z,hz,rfl⟩:=hl;rcases R0 _ _ _ hx with h|h
     ·exact i1 y hy x h
     ·exact j1 z hz x h
   ·rw [if_neg h6]
    have hlf:Bj f=true:=by
     have ho:Qp w f=true:=by
      have:=h'.1;simp only[Cq,A9]at this;exact this.1
     simp only[Bj,F6,DK];unfold Qp at ho;split at ho
     ·omega
     ·split at ho
      ·omega
      ·simp only[F6,DK]at ho
       omega
    cases c
    ·rw[if_neg (by decide)]
     intro l hl x hx;simp at hl;subst hl;simp at hx;subst hx;exact⟨x,h,hlf,.inl rfl⟩
    ·rw[if_pos rfl]
     intro l hl x hx;simp at hl;subst hl;simp at hx;subst hx;exact⟨f,h,hlf,.inr rfl⟩
def Hg {w:AJ} {x:Fact} (h:Ir w x):ox x∧Al w (BA x).1=true∧Bj (BA x).1=true:=by
 obtain⟨g,hn,hl,rfl|rfl⟩:=h
 ·have:=GK hl
  have h5: ¬x.op=5:=by omega
  exact⟨fun e=>absurd e h5,by simp only[BA,if_neg h5];exact⟨hn,hl⟩⟩
 ·exact⟨fun _ e=>(by cases e),hn,hl⟩
def Lo {w:AJ} {l:List Fact} (h: ∀x∈l,Ir w x):(∀x∈l,ox x)∧x8 w l∧XX l∧fV l 2:=by
 refine⟨fun x hx=>(Hg (h x hx)).1,fun x hx h2=>?_,fun x hx=>?_,fun x hx=>?_⟩
 all_goals
  obtain⟨-,hn,hl⟩:=Hg (h x hx);have hlo:=GK hl;generalize (BA x).1=g at *;rw[Bs,A9]at hn;have hn:=hn.1;simp only[Cq,A9]at hn;obtain⟨ho,-,-,-,hp,-⟩:=hn
 ·unfold Qp at ho
  rw[if_pos h2]at ho;simp only[Oj,A9,Cf]at ho;exact ho.2
 ·unfold Qp at ho
  split at ho
  ·simp only[A9,DK]at ho
   omega
  ·split at ho
   ·simp only[A9,Cf]at ho
    omega
   ·omega
 ·simp only[EH,A9,Cf]at hp
  omega
def XG (w:AJ) (f:Fact):Bool:=(Bn f false).any (Jt w)
def XK (w:AJ) (a b:Fact):Bool:= !XG w (Qx a (C9 b))
def rf (a b:Fact):lv (Qx a (C9 b))=lv a+lv b:=by
 rw[NV];simp only[dw,Qx,Fact.op,Fact.kids,Ct,List.map_nil,List.getD_cons_zero,List.getD_cons_succ];rw[NV (C9 b)];simp[dw,C9,Fact.op,Fact.kids]
def Vk {w:AJ} {a b:Fact} (ha:Al w a=true) (hb:Al w b=true):Al w (Qx a (C9 b))=true:=by
 have hnb:Al w (C9 b)=true:=by
  rw[Bs];simp[C9,Cq,Qp,Fact.op,Fact.kids,Fact.arg,Fact.path,Fact.cls,Fact.n,Bp,EH,Bj,hb]
 rw[Bs];simp[Qx,Cq,Qp,Fact.op,Fact.kids,Fact.arg,Fact.path,Fact.cls,Fact.n,Bp,EH,Bj,ha,hnb]
def Va {p:Prog}: ∀ {ms:List MX} {s:List Int},(runM p ms s).isSome=true→ ∀m∈ms,Qj p m=true
 | [],_,_,_,h=>by cases h
 | m ::r,s,h,x,hx=>by
   rw[runM]at h;split at h
   ·rename_i hok
    split at h
    ·cases h
    ·rcases F7.1 hx with rfl|hx
     ·exact hok
     ·exact Va h x hx
   ·cases h
def Es {p:Prog} (h:(Bd p).isSome=true):C4 p=true∧ ∀m∈p.methods,Qj p m=true:=by
 unfold Bd at h;split at h
 ·rename_i hh
  refine⟨hh,?_⟩;split at h
  ·cases h
  ·rename_i s hs
   exact Va (by rw[hs];rfl)
 ·cases h
structure qx (p:Prog):Prop where
 kT:It (AR p)
 AK:Bu p.AQ≤Aj
 ou:p.AQ.length≤1000
 facts: ∀m∈p.methods,Al (AR p) m.fact=true∧lv m.fact≤12
 many:p.methods.length≤16
def look_ok {p:Prog} (h:(Bd p).isSome=true):qx p:=by
 obtain⟨hh,hm⟩:=Es h;simp only[C4,A9,Cf]at hh;have hc:=hh.1;simp only[BE,A9,Cf]at hc;have hM:=Mx;refine⟨Pw hc.1 hc.2.1 hc.2.2.2.1,by have:=(FZ _ _ hc.2.1).1;omega,by have:=hc.1;omega,fun m h=>?_,hh.2.2.1⟩;have:=hm m h;simp only[Qj,CA,A9,Cf]at this;have hn:=this.2.2.2.2.1.2.2;refine⟨hn,?_⟩;have hcn:=Gg m.fact 24 (by omega) this.2.2.2.2.1.1;have:=rh m.fact (Ao _ hn);omega
def Dq (p:Prog) (m:Int):Bool:=decide (0≤m)&&decide (m<(p.methods.length:Int))
def BG (p:Prog) (m:Int):MX:=p.methods.getD m.toNat default
def He {p:Prog} {m:Int} (h:Dq p m=true):p.methods[m.toNat]? =some (BG p m):=by
 simp only[Dq,A9,Cf]at h;rw[BG,D9,EN (by omega)];rfl
def gq (p:Prog) (m n:Int):Bool:=(BG p m).gen==(BG p n).gen&&(BG p m).kind==(BG p n).kind
def iz (p:Prog) (m:Int):Pure Tryz.prog 51 [.a (Be p),eI m] (.b (Dq p m)):=by
 refine Pure.fit (by kernel_rfl) fun hf=>?_
 have⟨p1,p2,p3,p4⟩:=GD hf.1;refine x3 kZ ?_;have hs:=Sn
 conv=>whnf
 repeat'((first|apply st|(apply sq;intro K U)|(apply si;intro A B Y Z)|(apply Y;clear Z B Y A)|(apply U;clear U K)|refine⟨rfl,?_⟩|(constructor<;>intro hc<;>(try rw[hc])<;>(replace hc:=bp hc))|fail)<;>conv=>whnf)
 all_goals exact AI (by simp[Dq, *]<;>omega)
end Go.Gl
namespace Go.Gl
variable {P:Program} {σ:AH}
abbrev eU (n:Nat):V:= .i .u64 (n:Int)
def Hc {n:Nat} (h:n<18446744073709551616):IntKind.u64.wrap (n:Int)=n:=by
 simp only[IntKind.wrap,IntKind.signed,IntKind.bits];simp;omega
def La {a b:Nat} (ha:a<18446744073709551616) (hb:b<18446744073709551616):bits .or .u64 (a:Int) (b:Int)=((a|||b:Nat):Int):=by
 have h:a|||b<2 ^ 64:=Nat.or_lt_two_pow (n:=64) (by simpa using ha) (by simpa using hb)
 simp only[bits,IntKind.bits]
 have e1:(BitVec.ofInt 64 (a:Int)|||BitVec.ofInt 64 (b:Int)).toNat=a|||b:=by
  simp only[BitVec.ofInt_natCast,BitVec.toNat_or,BitVec.toNat_ofNat];rw[Nat.mod_eq_of_lt (by simpa using ha),Nat.mod_eq_of_lt (by simpa using hb)]
 have e2:=Hc (n:=a|||b) (by simpa using h);rw[←e1]at e2;rw[←e1];exact e2
def Lu {a b:Nat} (ha:a<18446744073709551616) (hb:b<18446744073709551616):bits .and .u64 (a:Int) (b:Int)=((a&&&b:Nat):Int):=by
 have h:a&&&b<2 ^ 64:=Nat.and_lt_two_pow (n:=64) a (by simpa using hb);simp only[bits,IntKind.bits]
 have e1:(BitVec.ofInt 64 (a:Int)&&&BitVec.ofInt 64 (b:Int)).toNat=a&&&b:=by
  simp only[BitVec.ofInt_natCast,BitVec.toNat_and,BitVec.toNat_ofNat];rw[Nat.mod_eq_of_lt (by simpa using ha),Nat.mod_eq_of_lt (by simpa using hb)]
 have e2:=Hc (n:=a&&&b) (by simpa using h);rw[←e1]at e2;rw[←e1];exact e2
def On (a b:Nat):Nat:=(BitVec.ofNat 64 a&&& ~~~BitVec.ofNat 64 b).toNat
def Tt (a b:Nat):On a b<18446744073709551616:=by
 have:=(BitVec.ofNat 64 a&&& ~~~BitVec.ofNat 64 b).isLt;simpa[On]using this
def SL {a b:Nat}:bits .andNot .u64 (a:Int) (b:Int)=((On a b:Nat):Int):=by
 simp only[bits,IntKind.bits]
 have e1:(BitVec.ofInt 64 (a:Int)&&& ~~~BitVec.ofInt 64 (b:Int)).toNat=On a b:=by
  simp only[BitVec.ofInt_natCast,On]
 have e2:=Hc (n:=On a b) (Tt a b);rw[←e1]at e2;rw[←e1];exact e2
def Ps {a b i:Nat} (hi:i<64):(On a b).testBit i=(a.testBit i&& !b.testBit i):=by
 rw[On,BitVec.testBit_toNat,BitVec.getLsbD_and,BitVec.getLsbD_not];rw[BitVec.getLsbD_ofNat,BitVec.getLsbD_ofNat];simp only[hi,decide_true,EW]
def ZP {c:Nat} (h:c<64):IntKind.u64.wrap (1*2 ^ (min c IntKind.u64.bits))=((2 ^ c:Nat):Int):=by
 have hb:IntKind.u64.bits=64:=rfl;rw[hb,Nat.min_eq_left (by omega),Int.one_mul];have:=Hc (n:=2 ^ c) (by have:=Nat.pow_lt_pow_right (show 1<2 by omega) h;simpa using this);rw[←this];simp
def KO {c:Nat} (h:c<64):2 ^ c<18446744073709551616:=by
 have:=Nat.pow_lt_pow_right (show 1<2 by omega) h;simpa using this
def ZO {a c:Nat} (h:c<64):(a:Int).fdiv (2 ^ (min c IntKind.u64.bits))=((a >>> c:Nat):Int):=by
 have hb:IntKind.u64.bits=64:=rfl;rw[hb,Nat.min_eq_left (by omega),Nat.shiftRight_eq_div_pow,Int.fdiv_eq_ediv_of_nonneg _ (Int.pow_nonneg (by omega))];simp
def DX {v:V} {Q:R→AH→Prop} (h:Q (.Bo v) σ):Af σ v Q:=⟨v,σ,fun _ _ h=>h,.refl v,h⟩
def Bg {g:FuncId} {fi ca args:List V} {Q:R→AH→Prop} (h:A7 P g (fi++args++ca) σ Q):Aw P (.f (.func g) fi ca) args σ Q:=h
def Pure.of {f:FuncId} {args:List V} {v:V} (h:A7 P f args emp fun r _=>r= .ret v):Pure P f args v:=by
 refine⟨h.1,fun Λ w cs G hv=>Calls.mono (h.2 Λ w cs G hv) fun e w' ⟨r,σ',hr,h1,h2,h3⟩=>?_⟩;subst hr;obtain⟨c,rfl,hv'⟩:=h1;have hsub:Sub emp σ':=fun n o ho=>by cases ho
 exact⟨.ret v,emp,⟨rfl,rfl⟩,⟨c,rfl,Fj.rel h2 hsub (.refl v) hv'⟩,h2.drop hsub,⟨h3.frame,h3.size,h3.os,h3.tape,h3.output,fun _ _ _=>rfl⟩⟩
def DI {α S:Type} (P:Program) (x:V) (ea:α→V) (H:S→List At) (stp:α→S→Bool×S) (D:α→S→Prop):Prop:=
 ∀y s,D y s→ ∀σ,Sat σ (H s)→Aw P x [ea y] σ fun r σ'=>r= .ret (.b (stp y s).1)∧Sat σ' (H (stp y s).2)
def DI.use {α S:Type} {x:V} {ea:α→V} {H:S→List At} {stp:α→S→Bool×S} {D:α→S→Prop} (h:DI P x ea H stp D) {y:α} {s:S} (hd:D y s) (hs:Sat σ (H s)) {k kp:V→AH→Prop} (hk: ∀σ',Sat σ' (H (stp y s).2)→k (.b (stp y s).1) σ'):Aw P x [ea y] σ (qk k kp):=
 (h y s hd σ hs).mono fun r σ' ⟨e,h'⟩=>by rw[e];exact hk σ' h'
def DI.yq {α S:Type} {g:FuncId} {fi ca:List V} {ea:α→V} {H:S→List At} {stp:α→S→Bool×S} {D:α→S→Prop} (h:DI P (.f (.func g) fi ca) ea H stp D) {y:α} {s:S} (hd:D y s) {rest:List At} (hs:Sat σ (H s++rest)) {k kp:V→AH→Prop} (hk: ∀σ',Sat σ' (H (stp y s).2++rest)→k (.b (stp y s).1) σ'):Aw P (.f (.func g) fi ca) [ea y] σ (qk k kp):=by
 refine Bg ?_;have h1:B3 P g (fi++[ea y]++ca) (H s) fun r post=>r= .ret (.b (stp y s).1)∧post=H (stp y s).2:=fun σ hs=>A7.mono (h y s hd σ hs) fun r σ' ⟨e,h2⟩=>⟨_,⟨e,rfl⟩,h2⟩
 refine h1.use hs ?_;rintro r post σ' ⟨rfl,rfl⟩ hs';exact hk σ' hs'
def B7 {α S:Type} (stp:α→S→Bool×S):List α→Nat→S→Int×S
 | [],_,s=>(-1,s)
 | y::r,k,s=>if(stp y s).1 then((k:Int),(stp y s).2)else B7 stp r (k+1) (stp y s).2
def Cu {α S:Type} (stp:α→S→Bool×S):List α→S→Bool×S
 | [],s=>(true,s)
 | y::r,s=>if(stp y s).1 then Cu stp r (stp y s).2 else(false,(stp y s).2)
def Sb {α S:Type} (stp:α→S→Bool×S) (D:α→S→Prop):List α→S→Prop
 | [],_=>True
 | y::r,s=>D y s∧Sb stp D r (stp y s).2
def NB {α S:Type} {stp:α→S→Bool×S}: ∀(xs:List α) (k:Nat) (s:S),(B7 (fun y s=>(!(stp y s).1,(stp y s).2)) xs k s).2=(Cu stp xs s).2∧(decide ((B7 (fun y s=>(!(stp y s).1,(stp y s).2)) xs k s).1≥0)= !(Cu stp xs s).1)
 | [],_,_=>⟨rfl,rfl⟩
 | y::r,k,s=>by
   simp only[B7,Cu];cases h:(stp y s).1
   ·simp
   ·simpa using NB r (k+1) (stp y s).2
def TW {α S:Type} {stp:α→S→Bool×S} {D:α→S→Prop}: ∀(xs:List α) (s:S),Sb stp D xs s→Sb (fun y s=>(!(stp y s).1,(stp y s).2)) D xs s
 | [],_,_=>trivial
 | _::r,_,h=>⟨h.1,TW r _ h.2⟩
def Jq {α:Type} (f:α→Bool): ∀(xs:List α),Cu (fun y (_:Unit)=>(f y,())) xs ()=(xs.all f,())
 | []=>rfl
 | y::r=>by
   simp only[Cu,SZ];cases f y
   ·rfl
   ·simpa using Jq f r
def KT {α S:Type} {stp:α→S→Bool×S} {D:α→S→Prop}: ∀ {xs:List α} {s:S},(∀y∈xs,∀s,D y s)→Sb stp D xs s
 | [],_,_=>trivial
 | y::r,s,h=>⟨h y (.head _) s,KT fun z hz=>h z (.tail _ hz)⟩
end Go.Gl
namespace Go.Gl
open Go.Proofs
attribute [local irreducible] A7 Ap Af AT AM Ae AS AU AL Ad AO AP Aw A1 Sat AX Az Ah W
def S8 {xs:List Int} {f:Bool} (h:FU (.l (iL xs) f)):xs.length≤Aj:=RJ h
def iv:Pure Tryz.prog 283 [.b true] (.t []):=by
 refine gQ kZ ?_;have hs:=Sn
 conv=>whnf
 repeat'((first|apply st|(apply sq;intro K U)|(apply si;intro A B Y Z)|(apply Y;clear Z B Y A)|(apply U;clear U K)|refine GS ?_|fail)<;>conv=>whnf)
 all_goals exact AI rfl
abbrev D3:V:= .FJ 377 (.a [])
def eO (xs:List Int) (x:Int):Int:=(B7 (fun y (_:Unit)=>(x==y,())) xs 0 ()).1
def Lt {α:Type} (f:α→Bool): ∀(xs:List α) (k:Nat),(decide ((B7 (fun y (_:Unit)=>(f y,())) xs k ()).1≥0))=xs.any f
 | [],_=>rfl
 | y::r,k=>by
   simp only[B7,SY];cases f y
   ·simpa using Lt f r (k+1)
   ·simp
def T9 (xs:List Int) (x:Int):xs.any (x== ·)=xs.contains x:=by
 induction xs with
 | nil=>rfl
 | cons y r ih=>rw[SY,List.contains_cons,ih]
def mh (xs:List Int) (x:Int):decide (eO xs x≥0)=xs.contains x:=by
 rw[←T9];exact Lt (x== ·) xs 0
def Vu (xs:List Int) (f:Bool) (x:Int):Pure Tryz.prog 96 [.l (iL xs) f,eI x] (eI (eO xs x)):=by
 refine Pure.fit (by kernel_rfl) fun hf=>?_
 have hxl:=S8 hf.1;have hM:=Mx;refine xp kZ ?_;have hs:=Sn
 conv=>whnf
 repeat'((first|apply st|(apply sq;intro K U)|(apply si;intro A B Y Z)|(apply Y;clear Z B Y A)|(apply U;clear U K)|fail)<;>conv=>whnf)
 refine C3 xs.length (fun k (_:Unit)=>[(8,eI (Bc k))]) (fun _ _=>[]) (fun k _=>eO xs x=(B7 (fun y (_:Unit)=>(x==y,())) (xs.drop k) k ()).1) () rfl rfl hs ?_;clear hs;rintro k - σ hk hn hs;have hck:Bc k=k:=AN (by omega);rcases BU xs hk with⟨y,hy,hlt⟩|hke
 ·rw[drop_cons hy,B7]at hn
  conv=>whnf
  repeat'((first|apply st|(apply sq;intro K U)|(apply si;intro A B Y Z)|(apply Y;clear Z B Y A)|(apply U;clear U K)|refine⟨rfl,?_⟩|refine ix ?_|(refine DR (fun hc=>?_)<;>(try rw[hc])<;>clear hc)|(constructor<;>intro hc<;>(try rw[hc])<;>(replace hc:=bp hc))|clear U K)<;>conv=>whnf)
  ·exact AI (by rw[hn,hc,hck];simp)
  ·exact⟨hlt,(),rfl,by rw[hn];simp[hc],hs⟩
 ·rw[Au hke,B7]at hn
  conv=>whnf
  repeat'((first|apply st|(apply sq;intro K U)|(apply si;intro A B Y Z)|(apply Y;clear Z B Y A)|(apply U;clear U K)|refine⟨rfl,?_⟩|(refine Ew (fun hc=>?_)<;>(try rw[hc])<;>clear hc)|clear U K)<;>conv=>whnf)
  exact AI (by rw[hn])
def D7 (xs:List Int) (f:Bool) (x:Int):Pure Tryz.prog 34 [.l (iL xs) f,eI x] (.b (xs.contains x)):=by
 refine x6 kZ ?_;have hs:=Sn
 conv=>whnf
 repeat'((first|apply st|(apply sq;intro K U)|(apply si;intro A B Y Z)|(apply Y;clear Z B Y A)|(apply U;clear U K)|refine⟨rfl,?_⟩|refine Pure.use (Vu _ _ _) ?_|fail)<;>conv=>whnf)
 all_goals exact AI (by rw[←mh])
def Qe (n:Int):Pure Tryz.prog 326 [eI n] (.b (Sr n)):=by
 refine sw kZ ?_;have hs:=Sn
 conv=>whnf
 repeat'((first|apply st|(apply sq;intro K U)|(apply si;intro A B Y Z)|(apply Y;clear Z B Y A)|(apply U;clear U K)|refine⟨rfl,?_⟩|(constructor<;>intro hc<;>(try rw[hc])<;>(replace hc:=bp hc))|fail)<;>conv=>whnf)
 all_goals exact AI (by simp[Sr, *]<;>omega)
def Pc (f:Fact):Bj f=(decide (2≤f.op)&&decide (f.op≤4)):=by
 rw[Hu];simp only[Bj,F6,A9,DK,Cf];omega
def OP (f:Fact):Pure Tryz.prog 180 [.a (xF f)] (.b (Bj f)):=by
 refine uZ kZ ?_;have hs:=Sn
 conv=>whnf
 repeat'((first|apply st|(apply sq;intro K U)|(apply si;intro A B Y Z)|(apply Y;clear Z B Y A)|(apply U;clear U K)|refine⟨rfl,?_⟩|(constructor<;>intro hc<;>(try rw[hc])<;>(replace hc:=bp hc))|fail)<;>conv=>whnf)
 all_goals exact AI (by rw[Pc];simp[*]<;>omega)
def ZJ (s c:Nat) (hs0:s<18446744073709551616) (hc:c<64):Pure Tryz.prog 245 [eU s,eI c] (eU (s|||2 ^ c)):=by
 refine tq kZ ?_;have hs:=Sn
 conv=>whnf
 repeat'((first|(apply sq;intro K U)|(apply si;intro A B Y Z)|(apply Y;clear Z B Y A)|(apply U;clear U K)|fail)<;>conv=>whnf)
 refine⟨Int.natCast_nonneg _,?_⟩
 conv=>whnf
 repeat'((first|apply st|(apply Y;clear Z B Y A)|(apply U;clear U K)|refine⟨rfl,?_⟩|fail)<;>conv=>whnf)
 exact AI (by rw[MH,ZP hc,La hs0 (KO hc)])
def PC (s c:Nat) (hs0:s<18446744073709551616) (hc:c<64):Pure Tryz.prog 182 [eU s,eI c] (.b (s.testBit c)):=by
 refine uX kZ ?_;have hs:=Sn
 conv=>whnf
 repeat'((first|(apply sq;intro K U)|(apply si;intro A B Y Z)|(apply Y;clear Z B Y A)|(apply U;clear U K)|fail)<;>conv=>whnf)
 refine⟨Int.natCast_nonneg _,?_⟩
 conv=>whnf
 repeat'((first|apply st|(apply Y;clear Z B Y A)|(apply U;clear U K)|refine⟨rfl,?_⟩|fail)<;>conv=>whnf)
 refine AI ?_;rw[MH,ZO hc];have h1:s >>> c<18446744073709551616:=by rw[Nat.shiftRight_eq_div_pow];exact Nat.lt_of_le_of_lt (Nat.div_le_self _ _) hs0
 have h2:bits .and .u64 ((s >>> c:Nat):Int) 1=((s >>> c&&&1:Nat):Int):=Lu h1 (show 1<_ by decide);rw[h2];simp only[Nat.testBit,Nat.and_comm 1];congr 1;rcases Nat.mod_two_eq_zero_or_one (s >>> c)with h|h<;>simp[Nat.and_one_is_mod,h]
def me (op:Int):Pure Tryz.prog 303 [eI op] (eI (Bp op)):=by
 refine tF kZ ?_;have hs:=Sn
 conv=>whnf
 repeat'((first|apply st|(apply sq;intro K U)|(apply si;intro A B Y Z)|(apply Y;clear Z B Y A)|(apply U;clear U K)|refine⟨rfl,?_⟩|(constructor<;>intro hc<;>(try rw[hc])<;>(replace hc:=bp hc))|clear U K)<;>conv=>whnf)
 all_goals exact AI (by simp[Bp, *])
def YB (b:Bool):Pure Tryz.prog 218 [.b b] (eI (if b then 0 else 2)):=by
 refine uL kZ ?_;have hs:=Sn
 conv=>whnf
 repeat'((first|apply st|(apply sq;intro K U)|(apply si;intro A B Y Z)|(apply Y;clear Z B Y A)|(apply U;clear U K)|(constructor<;>intro hc<;>(try rw[hc])<;>(replace hc:=bp hc))|clear U K)<;>conv=>whnf)
 all_goals exact AI (by simp[*])
def T4 {S:Type} (g:FuncId) (fi ca:List V) (H:S→List At) (stp:Int→S→Bool×S) (D:Int→S→Prop) (hx:DI Tryz.prog (.f (.func g) fi ca) eI H stp D) (xs:List Int) (f:Bool) (s0:S) (hd:Sb stp D xs s0) :
    B3 Tryz.prog 117 [.l (iL xs) f,.f (.func g) fi ca] (H s0) fun r post=>r= .ret (eI (B7 stp xs 0 s0).1)∧post=H (B7 stp xs 0 s0).2:=by
 intro σ hs;refine A7.fit (by kernel_rfl) fun hf=>?_
 have hxl:=S8 hf.1;have hM:=Mx;refine gb kZ ?_
 conv=>whnf
 repeat'((first|apply st|(apply sq;intro K U)|(apply si;intro A B Y Z)|(apply Y;clear Z B Y A)|(apply U;clear U K)|fail)<;>conv=>whnf)
 refine C3 xs.length (fun k (_:S)=>[(8,eI (Bc k))]) (fun _ s=>H s) (fun k s=>Sb stp D (xs.drop k) s∧B7 stp xs 0 s0=B7 stp (xs.drop k) k s) s0 rfl ⟨hd,rfl⟩ hs ?_;clear hs;rintro k s σ hk ⟨hd,hn⟩ hs;have hck:Bc k=k:=AN (by omega);rcases BU xs hk with⟨y,hy,hlt⟩|hke
 ·rw[drop_cons hy]at hn hd
  obtain⟨hd1,hd2⟩:=hd;rw[B7]at hn
  conv=>whnf
  repeat'((first|apply st|(apply sq;intro K U)|(apply si;intro A B Y Z)|(apply Y;clear Z B Y A)|(apply U;clear U K)|refine⟨rfl,?_⟩|refine ix ?_|(refine DR (fun hc=>?_)<;>(try rw[hc])<;>clear hc)|fail)<;>conv=>whnf)
  refine hx.use hd1 hs ?_;clear hs;intro σ hs
  conv=>whnf
  repeat'((first|apply st|(apply sq;intro K U)|(apply si;intro A B Y Z)|(apply Y;clear Z B Y A)|(apply U;clear U K)|refine⟨rfl,?_⟩|(constructor<;>intro hc<;>(try rw[hc])<;>(replace hc:=bp hc))|clear U K)<;>conv=>whnf)
  ·rw[hc,if_pos rfl]at hn
   rw[hn];exact A4 hs (List.Sublist.refl _) (by rw[hck];exact .refl _) fun σ' hs'=>⟨_,⟨rfl,rfl⟩,hs'⟩
  ·rw[hc,if_neg (by decide)]at hn
   exact⟨hlt,_,rfl,⟨hd2,hn⟩,hs⟩
 ·rw[Au hke,B7]at hn
  conv=>whnf
  repeat'((first|apply st|(apply sq;intro K U)|(apply si;intro A B Y Z)|(apply Y;clear Z B Y A)|(apply U;clear U K)|refine⟨rfl,?_⟩|(refine Ew (fun hc=>?_)<;>(try rw[hc])<;>clear hc)|clear U K)<;>conv=>whnf)
  rw[hn];exact A4 hs (List.Sublist.refl _) (.refl _) fun σ' hs'=>⟨_,⟨rfl,rfl⟩,hs'⟩
section
variable {S:Type} (g:FuncId) (fi ca:List V) (H:S→List At)
def JQ (stp:Int→S→Bool×S) (D:Int→S→Prop) (hx:DI Tryz.prog (.f (.func g) fi ca) eI H stp D) (xs:List Int) (f:Bool) (s0:S) (hd:Sb stp D xs s0) :
    B3 Tryz.prog 49 [.l (iL xs) f,.f (.func g) fi ca] (H s0) fun r post=>r= .ret (.b (decide ((B7 stp xs 0 s0).1≥0)))∧post=H (B7 stp xs 0 s0).2:=by
 intro σ hs;refine pM kZ ?_
 conv=>whnf
 repeat'((first|(apply sq;intro K U)|(apply si;intro A B Y Z)|(apply Y;clear Z B Y A)|(apply U;clear U K)|fail)<;>conv=>whnf)
 refine(T4 g fi ca H stp D hx xs f s0 hd).use (rest:=[]) (by simpa using hs) ?_;rintro r post σ ⟨rfl,rfl⟩ hs
 conv=>whnf
 repeat'((first|apply st|(apply Y;clear Z B Y A)|(apply U;clear U K)|refine⟨rfl,?_⟩|fail)<;>conv=>whnf)
 exact A4 hs (by simp) (.refl _) fun σ' hs'=>⟨_,⟨rfl,rfl⟩,hs'⟩
def rX (stp:Int→S→Bool×S) (D:Int→S→Prop) (hx:DI Tryz.prog (.f (.func g) fi ca) eI H stp D):DI Tryz.prog (.f (.func 301) [] [.rp [.f (.func g) fi ca]]) eI H (fun y s=>(!(stp y s).1,(stp y s).2)) D:=by
 intro y s hd σ hs;refine Bg ?_;show A7 Tryz.prog 301 ([]++[eI y]++[.rp [.f (.func g) fi ca]]) σ _;refine gO kZ ?_
 conv=>whnf
 repeat'((first|apply st|(apply sq;intro K U)|(apply si;intro A B Y Z)|(apply Y;clear Z B Y A)|(apply U;clear U K)|fail)<;>conv=>whnf)
 refine hx.use hd hs ?_;clear hs;intro σ hs
 conv=>whnf
 repeat'((first|apply st|(apply Y;clear Z B Y A)|(apply U;clear U K)|fail)<;>conv=>whnf)
 exact A4 hs (List.Sublist.refl _) (.refl _) fun σ' hs'=>⟨rfl,hs'⟩
def gn (stp:Int→S→Bool×S) (D:Int→S→Prop) (hx:DI Tryz.prog (.f (.func g) fi ca) eI H stp D) (xs:List Int) (f:Bool) (s0:S) (hd:Sb stp D xs s0) :
    B3 Tryz.prog 246 [.l (iL xs) f,.f (.func g) fi ca] (H s0) fun r post=>r= .ret (.b (Cu stp xs s0).1)∧post=H (Cu stp xs s0).2:=by
 intro σ hs;obtain⟨e1,e2⟩:=NB (stp:=stp) xs 0 s0;refine gT kZ ?_
 conv=>whnf
 repeat'((first|(apply sq;intro K U)|(apply si;intro A B Y Z)|(apply Y;clear Z B Y A)|(apply U;clear U K)|fail)<;>conv=>whnf)
 refine(JQ 301 [] [.rp [.f (.func g) fi ca]] H _ D (rX g fi ca H stp D hx) xs f s0 (TW xs s0 hd)).use (rest:=[]) (by simpa using hs) ?_;rintro r post σ ⟨rfl,rfl⟩ hs;rw[e2];rw[e1]at hs
 conv=>whnf
 repeat'((first|apply st|(apply Y;clear Z B Y A)|(apply U;clear U K)|fail)<;>conv=>whnf)
 exact A4 hs (by simp) (by rw[Bool.not_not];exact .refl _) fun σ' hs'=>⟨_,⟨rfl,rfl⟩,hs'⟩
def T3 (stp:Fact→S→Bool×S) (D:Fact→S→Prop) (hx:DI Tryz.prog (.f (.func g) fi ca) (fun y=> .a (xF y)) H stp D) (xs:List Fact) (f:Bool) (s0:S) (hxl:xs.length≤Aj) (hd:Sb stp D xs s0) :
    B3 Tryz.prog 330 [.l (facts xs) f,.f (.func g) fi ca] (H s0) fun r post=>r= .ret (eI (B7 stp xs 0 s0).1)∧post=H (B7 stp xs 0 s0).2:=by
 intro σ hs;have hM:=Mx;refine so kZ ?_
 conv=>whnf
 repeat'((first|apply st|(apply sq;intro K U)|(apply si;intro A B Y Z)|(apply Y;clear Z B Y A)|(apply U;clear U K)|fail)<;>conv=>whnf)
 refine C3 xs.length (fun k (_:S)=>[(8,eI (Bc k))]) (fun _ s=>H s) (fun k s=>Sb stp D (xs.drop k) s∧B7 stp xs 0 s0=B7 stp (xs.drop k) k s) s0 rfl ⟨hd,rfl⟩ hs ?_;clear hs;rintro k s σ hk ⟨hd,hn⟩ hs;have hck:Bc k=k:=AN (by omega);rcases BU xs hk with⟨y,hy,hlt⟩|hke
 ·rw[drop_cons hy]at hn hd
  obtain⟨hd1,hd2⟩:=hd;rw[B7]at hn
  conv=>whnf
  repeat'((first|apply st|(apply sq;intro K U)|(apply si;intro A B Y Z)|(apply Y;clear Z B Y A)|(apply U;clear U K)|refine⟨rfl,?_⟩|refine⟨kZ,?_⟩|refine UR ?_|(refine DR (fun hc=>?_)<;>(try rw[hc])<;>clear hc)|fail)<;>conv=>whnf)
  refine hx.use hd1 hs ?_;clear hs;intro σ hs
  conv=>whnf
  repeat'((first|apply st|(apply sq;intro K U)|(apply si;intro A B Y Z)|(apply Y;clear Z B Y A)|(apply U;clear U K)|refine⟨rfl,?_⟩|(constructor<;>intro hc<;>(try rw[hc])<;>(replace hc:=bp hc))|clear U K)<;>conv=>whnf)
  ·rw[hc,if_pos rfl]at hn
   rw[hn];exact A4 hs (List.Sublist.refl _) (by rw[hck];exact .refl _) fun σ' hs'=>⟨_,⟨rfl,rfl⟩,hs'⟩
  ·rw[hc,if_neg (by decide)]at hn
   exact⟨hlt,_,rfl,⟨hd2,hn⟩,hs⟩
 ·rw[Au hke,B7]at hn
  conv=>whnf
  repeat'((first|apply st|(apply sq;intro K U)|(apply si;intro A B Y Z)|(apply Y;clear Z B Y A)|(apply U;clear U K)|refine⟨rfl,?_⟩|(refine Ew (fun hc=>?_)<;>(try rw[hc])<;>clear hc)|clear U K)<;>conv=>whnf)
  rw[hn];exact A4 hs (List.Sublist.refl _) (.refl _) fun σ' hs'=>⟨_,⟨rfl,rfl⟩,hs'⟩
def Il (stp:Fact→S→Bool×S) (D:Fact→S→Prop) (hx:DI Tryz.prog (.f (.func g) fi ca) (fun y=> .a (xF y)) H stp D) (xs:List Fact) (f:Bool) (s0:S) (hxl:xs.length≤Aj) (hd:Sb stp D xs s0) :
    B3 Tryz.prog 291 [.l (facts xs) f,.f (.func g) fi ca] (H s0) fun r post=>r= .ret (.b (decide ((B7 stp xs 0 s0).1≥0)))∧post=H (B7 stp xs 0 s0).2:=by
 intro σ hs;refine tN kZ ?_
 conv=>whnf
 repeat'((first|(apply sq;intro K U)|(apply si;intro A B Y Z)|(apply Y;clear Z B Y A)|(apply U;clear U K)|fail)<;>conv=>whnf)
 refine(T3 g fi ca H stp D hx xs f s0 hxl hd).use (rest:=[]) (by simpa using hs) ?_;rintro r post σ ⟨rfl,rfl⟩ hs
 conv=>whnf
 repeat'((first|apply st|(apply Y;clear Z B Y A)|(apply U;clear U K)|refine⟨rfl,?_⟩|fail)<;>conv=>whnf)
 exact A4 hs (by simp) (.refl _) fun σ' hs'=>⟨_,⟨rfl,rfl⟩,hs'⟩
def rW (stp:Fact→S→Bool×S) (D:Fact→S→Prop) (hx:DI Tryz.prog (.f (.func g) fi ca) (fun y=> .a (xF y)) H stp D):DI Tryz.prog (.f (.func 302) [] [.rp [.f (.func g) fi ca]]) (fun y=> .a (xF y)) H (fun y s=>(!(stp y s).1,(stp y s).2)) D:=by
 intro y s hd σ hs;refine Bg ?_;show A7 Tryz.prog 302 ([]++[.a (xF y)]++[.rp [.f (.func g) fi ca]]) σ _;refine tG kZ ?_
 conv=>whnf
 repeat'((first|apply st|(apply sq;intro K U)|(apply si;intro A B Y Z)|(apply Y;clear Z B Y A)|(apply U;clear U K)|refine⟨kZ,?_⟩|fail)<;>conv=>whnf)
 refine hx.use hd hs ?_;clear hs;intro σ hs
 conv=>whnf
 repeat'((first|apply st|(apply Y;clear Z B Y A)|(apply U;clear U K)|fail)<;>conv=>whnf)
 exact A4 hs (List.Sublist.refl _) (.refl _) fun σ' hs'=>⟨rfl,hs'⟩
def gm (stp:Fact→S→Bool×S) (D:Fact→S→Prop) (hx:DI Tryz.prog (.f (.func g) fi ca) (fun y=> .a (xF y)) H stp D) (xs:List Fact) (f:Bool) (s0:S) (hxl:xs.length≤Aj) (hd:Sb stp D xs s0) :
    B3 Tryz.prog 248 [.l (facts xs) f,.f (.func g) fi ca] (H s0) fun r post=>r= .ret (.b (Cu stp xs s0).1)∧post=H (Cu stp xs s0).2:=by
 intro σ hs;obtain⟨e1,e2⟩:=NB (stp:=stp) xs 0 s0;refine tp kZ ?_
 conv=>whnf
 repeat'((first|(apply sq;intro K U)|(apply si;intro A B Y Z)|(apply Y;clear Z B Y A)|(apply U;clear U K)|fail)<;>conv=>whnf)
 refine(Il 302 [] [.rp [.f (.func g) fi ca]] H _ D (rW g fi ca H stp D hx) xs f s0 hxl (TW xs s0 hd)).use (rest:=[]) (by simpa using hs) ?_;rintro r post σ ⟨rfl,rfl⟩ hs;rw[e2];rw[e1]at hs
 conv=>whnf
 repeat'((first|apply st|(apply Y;clear Z B Y A)|(apply U;clear U K)|fail)<;>conv=>whnf)
 exact A4 hs (by simp) (by rw[Bool.not_not];exact .refl _) fun σ' hs'=>⟨_,⟨rfl,rfl⟩,hs'⟩
end
abbrev Uv (f:Int→Bool):Int→Unit→Bool×Unit:=fun y _=>(f y,())
def P2 {g:FuncId} {fi ca:List V} {f:Int→Bool} {D:Int→Unit→Prop} (h: ∀y,D y ()→Pure Tryz.prog g (fi++[eI y]++ca) (.b (f y))):DI Tryz.prog (.f (.func g) fi ca) eI (fun _=>[]) (Uv f) D:=by
 intro y s hd σ hs;refine Bg ?_;show A7 Tryz.prog g (fi++[eI y]++ca) σ _;refine A7.mono ((h y hd).use (k:=fun v σ'=>v= .b (f y)∧Sat σ' []) (kp:=fun _ _=>False) ⟨rfl,Sat.nil⟩) ?_;rintro(v|v) σ' hq
 ·obtain⟨rfl,h⟩:=hq
  exact⟨rfl,h⟩
 ·exact hq.elim
def oG {g:FuncId} {fi ca:List V} {f:Int→Bool} {xs:List Int} (b:Bool) (h: ∀y∈xs,Pure Tryz.prog g (fi++[eI y]++ca) (.b (f y))):Pure Tryz.prog 246 [.l (iL xs) b,.f (.func g) fi ca] (.b (xs.all f)):=by
 have:=gn g fi ca (fun _=>[]) (Uv f) (fun y _=>y∈xs) (P2 fun y hy=>h y hy) xs b () (KT fun y hy _=>hy);rw[Jq]at this;exact Pure.of (A7.mono (this emp Sat.nil) fun r σ' ⟨post,⟨h1,h2⟩,h3⟩=>h1)
def VB (g:FuncId) (fi ca:List V) (f:Int→Bool):Prop:= ∀y:Int,Pure Tryz.prog g (fi++[eI y]++ca) (.b (f y))
def VB.use {g:FuncId} {fi ca:List V} {f:Int→Bool} (h:VB g fi ca f) {y:Int} {σ:AH} {k kp:V→AH→Prop} (hk:k (.b (f y)) σ):Aw Tryz.prog (.f (.func g) fi ca) [eI y] σ (qk k kp):=Bg ((h y).use hk)
def mg (g:FuncId) (fi ca:List V) (L:List At) (p:Int→Bool) (hx:DI Tryz.prog (.f (.func g) fi ca) eI (fun _:Unit=>L) (Uv p) (fun _ _=>True)) (xs:List Int) (f:Bool):B3 Tryz.prog 380 [.l (iL xs) f,.f (.func g) fi ca] L fun r post=>r= .ret (.l (iL (xs.filter p)) false)∧post=L:=by
 intro σ hs;refine A7.fit (by kernel_rfl) fun hf=>?_
 have hxl:=S8 hf.1;have hM:=Mx;refine gM kZ ?_
 conv=>whnf
 repeat'((first|apply st|(apply sq;intro K U)|(apply si;intro A B Y Z)|(apply Y;clear Z B Y A)|(apply U;clear U K)|fail)<;>conv=>whnf)
 refine C3 xs.length (fun k v=>[(5,v),(10,eI (Bc k))]) (fun k v=>L++[.own v 1 (iL ((xs.take k).filter p))]) (fun _ _=>True) (.l [] true) rfl trivial (GV hs 1) ?_;clear hs;rintro k v σ hk - hs;have hfl:=Q7 p (xs.take k);rw[Ny]at hfl;rcases BU xs hk with⟨y,hy,hlt⟩|hke
 ·have hst:(xs.take (k+1)).filter p=if p y then(xs.take k).filter p++[y]else(xs.take k).filter p:=by
   rw[Aa hy,List.filter_append];cases hp:p y<;>simp[hp]
  generalize (xs.take k).filter p=zs at *
  conv=>whnf
  repeat'((first|apply st|(apply sq;intro K U)|(apply si;intro A B Y Z)|(apply Y;clear Z B Y A)|(apply U;clear U K)|refine⟨rfl,?_⟩|refine ix ?_|(refine DR (fun hc=>?_)<;>(try rw[hc])<;>clear hc)|refine hx.yq (s:=()) (rest:=[_]) trivial hs (fun σ hs=>?_)|(constructor<;>intro hc<;>(try rw[hc])<;>(replace hc:=bp hc)<;>(try simp(disch:=omega) only[BT,wrap64,AN]at hc))|clear U K)<;>conv=>whnf)
  ·refine Gh (GC hs L.length (xs:=zs) (x:=y) List.getElem?_concat_length (by omega) DV fun v' σ' hs' hsl=>?_)
   rw[List.set_append_right _ _ (Ht _),Nat.sub_self]at hs';replace hs:=hs'
   conv=>whnf
   repeat'((first|(apply si;intro A B Y Z)|(apply Y;clear Z B Y A)|(apply U;clear U K)|refine⟨rfl,?_⟩|clear U K)<;>conv=>whnf)
   rw[if_pos (by assumption)]at hst;exact⟨hlt,_,rfl,trivial,by rw[hst];exact hs⟩
  ·rw[if_neg (by simp[*])]at hst
   exact⟨hlt,_,rfl,trivial,by rw[hst];exact hs⟩
 ·conv=>whnf
  repeat'((first|apply st|(apply sq;intro K U)|(apply si;intro A B Y Z)|(apply Y;clear Z B Y A)|(apply U;clear U K)|refine⟨rfl,?_⟩|(refine Ew (fun hc=>?_)<;>(try rw[hc])<;>clear hc)|clear U K)<;>conv=>whnf)
  rw[BI hke]at hs;obtain⟨σ2,h1,h2,h3⟩:=NX hs L.length List.getElem?_concat_length;refine Jc h1 h2 ⟨_,⟨rfl,rfl⟩,?_⟩;rw[List.eraseIdx_append_of_length_le (Ht _),Nat.sub_self]at h3;simpa using h3
def jK (g:FuncId) (fi ca:List V) (p:Int→Bool) (hpf:VB g fi ca p) (xs:List Int) (u:V) (hxl:xs.length≤Aj):B3 Tryz.prog 380 [u,.f (.func g) fi ca] [.own u 1 (iL xs)] fun r post=>r= .ret (.l (iL (xs.filter p)) false)∧post= [.own u 1 (iL xs)]:=by
 intro σ hs;have hM:=Mx;refine gM kZ ?_
 conv=>whnf
 repeat'((first|apply st|(apply sq;intro K U)|(apply si;intro A B Y Z)|(apply Y;clear Z B Y A)|(apply U;clear U K)|refine lo ?_|fail)<;>conv=>whnf)
 refine C3 xs.length (fun k v=>[(5,v),(10,eI (Bc k))]) (fun k v=>[.own u 1 (iL xs),.own v 1 (iL ((xs.take k).filter p))]) (fun _ _=>True) (.l [] true) rfl trivial (GV hs 1) ?_;clear hs;rintro k v σ hk - hs;have hfl:=Q7 p (xs.take k);rw[Ny]at hfl;rcases BU xs hk with⟨y,hy,hlt⟩|hke
 ·have hst:(xs.take (k+1)).filter p=if p y then(xs.take k).filter p++[y]else(xs.take k).filter p:=by
   rw[Aa hy,List.filter_append];cases hp:p y<;>simp[hp]
  generalize (xs.take k).filter p=zs at *
  conv=>whnf
  repeat'((first|apply st|(apply sq;intro K U)|(apply si;intro A B Y Z)|(apply Y;clear Z B Y A)|(apply U;clear U K)|refine⟨rfl,?_⟩|refine oc ?_|refine wL ?_|refine aq fun v σ hs hsl=>?_|(refine DR (fun hc=>?_)<;>(try rw[hc])<;>clear hc)|refine VB.use hpf ?_|(constructor<;>intro hc<;>(try rw[hc])<;>(replace hc:=bp hc))|clear U K)<;>conv=>whnf)
  ·rw[if_pos (by assumption)]at hst
   exact⟨hlt,_,rfl,trivial,by rw[hst];exact hs.take 2⟩
  ·rw[if_neg (by simp[*])]at hst
   exact⟨hlt,_,rfl,trivial,by rw[hst];exact hs.take 2⟩
 ·conv=>whnf
  repeat'((first|apply st|(apply sq;intro K U)|(apply si;intro A B Y Z)|(apply Y;clear Z B Y A)|(apply U;clear U K)|refine⟨rfl,?_⟩|(refine Ew (fun hc=>?_)<;>(try rw[hc])<;>clear hc)|clear U K)<;>conv=>whnf)
  rw[BI hke]at hs;obtain⟨σ2,h1,h2,h3⟩:=NX hs 1 rfl;exact Jc h1 h2 ⟨_,⟨rfl,rfl⟩,h3⟩
def xP:VB 382 [] [] (· != 0):=by
 intro y;refine sP kZ ?_;have hs:=Sn
 conv=>whnf
 repeat'((first|apply st|(apply sq;intro K U)|(apply si;intro A B Y Z)|(apply Y;clear Z B Y A)|(apply U;clear U K)|refine⟨rfl,?_⟩|fail)<;>conv=>whnf)
 all_goals exact AI rfl
def kC (xs:List Int) (u:V) (hxl:xs.length≤Aj):B3 Tryz.prog 379 [u] [.own u 1 (iL xs)] fun r post=>r= .ret (.l (iL (xs.filter (· != 0))) false)∧post= [.own u 1 (iL xs)]:=by
 intro σ hs;refine sR kZ ?_
 conv=>whnf
 repeat'((first|(apply sq;intro K U)|(apply si;intro A B Y Z)|(apply Y;clear Z B Y A)|(apply U;clear U K)|fail)<;>conv=>whnf)
 refine(jK 382 [] [] (· != 0) xP xs u hxl).use (rest:=[]) hs ?_;clear hs;rintro r post σ ⟨rfl,rfl⟩ hs
 conv=>whnf
 repeat'((first|apply st|(apply Y;clear Z B Y A)|(apply U;clear U K)|fail)<;>conv=>whnf)
 exact A4 hs (by simp) (.refl _) fun σ' hs'=>⟨_,⟨rfl,rfl⟩,hs'⟩
def Z7 (g : List (List Int)) (f:Bool):Pure Tryz.prog 352 [.l (E3 g) f] (.b (Dy g)):=by
 refine Pure.fit (by kernel_rfl) fun hf=>?_
 have⟨g1,g2⟩:=Xj hf.1;have hM:=Mx;refine sb kZ ?_;have hs:=Sn;by_cases h16:g.length≤16
 ·conv=>whnf
  repeat'((first|apply st|(apply sq;intro K U)|(apply si;intro A B Y Z)|(apply Y;clear Z B Y A)|(apply U;clear U K)|refine⟨rfl,?_⟩|(constructor<;>intro hc<;>(try rw[hc])<;>(replace hc:=bp hc)<;>(try simp(disch:=omega) only[BT,wrap64,AN]at hc)<;>try(exfalso;omega))|fail)<;>conv=>whnf)
  all_goals try(exfalso;omega)
  refine C3 g.length (fun k (_:Unit)=>[(12,eI (Bc k))]) (fun _ _=>[]) (fun k _=>Dy g=IX k (g.drop k)) () rfl (by simp[Dy,h16]) hs ?_;clear hs;rintro k - σ hk hn hs;have hck:Bc k=k:=AN (by omega);rcases BU g hk with⟨l,hl,hlt⟩|hke
  ·have hll:=g2 l (DL hl)
   rw[drop_cons hl,IX]at hn;by_cases h3:l.length≤3
   ·rw[decide_eq_true h3,EW]at hn
    conv=>whnf
    repeat'((first|apply st|(apply sq;intro K U)|(apply si;intro A B Y Z)|(apply Y;clear Z B Y A)|(apply U;clear U K)|refine⟨rfl,?_⟩|refine ix ?_|(refine DR (fun hc=>?_)<;>(try rw[hc])<;>clear hc)|(constructor<;>intro hc<;>(try rw[hc])<;>(replace hc:=bp hc)<;>(try simp(disch:=omega) only[BT,wrap64,AN]at hc)<;>try(exfalso;omega))|fail)<;>conv=>whnf)
    all_goals try(exfalso;omega)
    refine C3 l.length (fun j (_:Unit)=>[(22,eI (Bc j))]) (fun _ _=>[]) (fun j _=>Dy g=(MV k (l.take j) (l.drop j)&&IX (k+1) (g.drop (k+1)))) () rfl hn hs ?_;clear hs hn;rintro j - σ hj hn hs;rcases BU l hj with⟨c,hc0,hjlt⟩|hje
    ·rw[drop_cons hc0,MV,pr]at hn
     have hw:IntKind.i64.wrap (3+Bc k)=3+(k:Int):=by rw[hck,wrap64 (by omega) (by omega)]
     conv=>whnf
     repeat'((first|apply st|(apply sq;intro K U)|(apply si;intro A B Y Z)|(apply Y;clear Z B Y A)|(apply U;clear U K)|refine⟨rfl,?_⟩|refine ix ?_|refine ya ?_|(refine DR (fun hc=>?_)<;>(try rw[hc])<;>clear hc)|refine Pure.use (D7 _ _ _) ?_|(constructor<;>intro hc<;>(try rw[hc])<;>(replace hc:=bp hc)<;>(try simp(disch:=omega) only[BT,wrap64,AN]at hc))|clear U K)<;>conv=>whnf)
     ·exact AI (by rw[hn,hc];simp)
     ·exact⟨hjlt,(),rfl,by rw[hn,hc,Aa hc0];simp[*],hs⟩
     ·exact AI (by(rw[hn];have: ¬c<3+(k:Int):=by omega);simp[this])
     ·exact AI (by(rw[hn];have: ¬3≤c:=by omega);simp[this])
    ·conv=>whnf
     repeat'((first|apply st|(apply sq;intro K U)|(apply si;intro A B Y Z)|(apply Y;clear Z B Y A)|(apply U;clear U K)|refine⟨rfl,?_⟩|(refine Ew (fun hc=>?_)<;>(try rw[hc])<;>clear hc)|clear U K)<;>conv=>whnf)
     exact⟨hlt,(),rfl,by rw[hn,Au hje];rfl,hs⟩
   ·conv=>whnf
    repeat'((first|apply st|(apply sq;intro K U)|(apply si;intro A B Y Z)|(apply Y;clear Z B Y A)|(apply U;clear U K)|refine⟨rfl,?_⟩|refine ix ?_|(refine DR (fun hc=>?_)<;>(try rw[hc])<;>clear hc)|(constructor<;>intro hc<;>(try rw[hc])<;>(replace hc:=bp hc)<;>(try simp(disch:=omega) only[BT,wrap64,AN]at hc)<;>try(exfalso;omega))|clear U K)<;>conv=>whnf)
    all_goals try(exfalso;omega)
    exact AI (by rw[hn];simp[h3])
  ·conv=>whnf
   repeat'((first|apply st|(apply sq;intro K U)|(apply si;intro A B Y Z)|(apply Y;clear Z B Y A)|(apply U;clear U K)|refine⟨rfl,?_⟩|(refine Ew (fun hc=>?_)<;>(try rw[hc])<;>clear hc)|clear U K)<;>conv=>whnf)
   exact AI (by rw[hn,Au hke];rfl)
 ·conv=>whnf
  repeat'((first|apply st|(apply sq;intro K U)|(apply si;intro A B Y Z)|(apply Y;clear Z B Y A)|(apply U;clear U K)|refine⟨rfl,?_⟩|(constructor<;>intro hc<;>(try rw[hc])<;>(replace hc:=bp hc)<;>(try simp(disch:=omega) only[BT,wrap64,AN]at hc)<;>try(exfalso;omega))|clear U K)<;>conv=>whnf)
  all_goals try(exfalso;omega)
  exact AI (by simp[Dy,h16])
def WB (g:List (List Int)) (f:Bool):Pure Tryz.prog 323 [.l (E3 g) f] (eI (if Dy g then 0 else 2)):=by
 refine s4 kZ ?_;have hs:=Sn
 conv=>whnf
 repeat'((first|apply st|(apply sq;intro K U)|(apply si;intro A B Y Z)|(apply Y;clear Z B Y A)|(apply U;clear U K)|refine Pure.use (Z7 _ _) ?_|(constructor<;>intro hc<;>(try rw[hc])<;>(replace hc:=bp hc))|clear U K)<;>conv=>whnf)
 all_goals exact AI (by simp[*])
def xQ (n:Nat) (h:Int):DI Tryz.prog (.f (.func 381) [] [.p n 0]) eI (fun _:Unit=>[.box n [eI h]]) (Uv (· != h)) (fun _ _=>True):=by
 intro y s _ σ hs;refine Bg ?_;show A7 Tryz.prog 381 ([]++[eI y]++[.p n 0]) σ _;refine sQ kZ ?_
 conv=>whnf
 repeat'((first|apply st|(apply sq;intro K U)|(apply si;intro A B Y Z)|(apply Y;clear Z B Y A)|(apply U;clear U K)|refine⟨rfl,?_⟩|refine ld ?_|fail)<;>conv=>whnf)
 exact A4 hs (List.Sublist.refl _) (.refl _) fun σ' hs'=>⟨rfl,hs'⟩
def cd (ls:List (List Int)):FQ ls []=false:=rfl
def YV (ls:List (List Int)) (x:Int) (r:List Int):FQ ls (x::r)=free ls x:=rfl
def ct {α:Type} {p:α→Bool} {xs:List α} {k:Nat} {x:α} (hx:xs[k]? =some x) (h:(xs.take k).find? p=none):(xs.take (k+1)).find? p=if p x then some x else none:=by
 rw[Aa hx,List.find?_append,h];simp only[List.find?_cons,List.find?_nil,Option.none_or];cases p x<;>rfl
def cr {α:Type} {p:α→Bool} {xs:List α} {k:Nat} {x:α} (h:(xs.take k).find? p=some x):xs.find? p=some x:=by
 conv=>lhs;rw[←List.take_append_drop k xs]
 rw[List.find?_append,h];rfl
def Zb (ls:List (List Int)):pick ls=(ls.find? (FQ ls)).bind List.head? :=rfl
set_option maxHeartbeats 4000000 in
def jA (ls:List (List Int)) (f:Bool) (hok:MQ ls) (ht:total ls<Aj):Pure Tryz.prog 377 [.l (E3 ls) f] (.t [.l (iL (CM ls).1) false,.b (CM ls).2]):=by
 have hM:=Mx;refine sS kZ ?_;have hs:=Sn
 conv=>whnf
 repeat'((first|apply st|(apply sq;intro K U)|(apply si;intro A B Y Z)|(apply Y;clear Z B Y A)|(apply U;clear U K)|fail)<;>conv=>whnf)
 refine KI (fun(x:List (List Int)×Bool×V×List Int)=>total x.1) (fun x=>[(0,.l (E3 x.1) x.2.1),(4,x.2.2.1)]) (fun x=>[.own x.2.2.1 1 (iL x.2.2.2)])
  (fun x=>MQ x.1∧x.2.2.2.length+total x.1≤total ls∧DU (total x.1) x.1 x.2.2.2=CM ls) (ls,f,.l [] true,[]) rfl ⟨hok,by simp,rfl⟩ (GV hs 1) ?_
 clear hs;rintro⟨ls',f',v,out⟩ σ ⟨hok',hlen,hm⟩ hs;dsimp only at hok' hlen hm hs;dsimp only;have hol:=hok'.1
 conv=>whnf
 repeat'((first|apply st|(apply sq;intro K U)|(apply si;intro A B Y Z)|(apply Y;clear Z B Y A)|(apply U;clear U K)|fail)<;>conv=>whnf)
 refine C3 ls'.length (fun k (t:Bool)=>[(5,.b t),(16,eI (Bc k))]) (fun _ _=>[.own v 1 (iL out)]) (fun k t=>(ls'.take k).find? (FQ ls')=none∧t=(ls'.take k).any fun l=> !l.isEmpty) false rfl ⟨rfl,rfl⟩ hs ?_;clear hs;rintro k t σ hk ⟨hfd,hta⟩ hs;rcases BU ls' hk with⟨l,hl,hlt⟩|hke
 ·have hfs:=ct (p:=FQ ls') hl hfd
  have has:((ls'.take (k+1)).any fun l=> !l.isEmpty)=(t|| !l.isEmpty):=by rw[Aa hl,List.any_append,←hta];simp
  have hb:=hok'.2 _ (DL hl);cases l with
  | nil=>
    have hnl:([]:List Int).length=0:=rfl;rw[cd,if_neg (by decide)]at hfs
    conv=>whnf
    repeat'((first|apply st|(apply sq;intro K U)|(apply si;intro A B Y Z)|(apply Y;clear Z B Y A)|(apply U;clear U K)|refine⟨rfl,?_⟩|refine ix ?_|(refine DR (fun hc=>?_)<;>(try rw[hc])<;>clear hc)|(constructor<;>intro hc<;>(try rw[hc])<;>(replace hc:=bp hc)<;>(try simp(disch:=omega) only[BT,wrap64,AN]at hc)<;>try(exfalso;omega))|clear U K)<;>conv=>whnf)
    exact⟨hlt,_,rfl,⟨hfs,by rw[has];simp⟩,hs⟩
  | cons x r=>
    have hx0:(x::r)[Int.toNat 0]? =some x:=rfl;have hnl:(x::r).length=r.length+1:=rfl;rw[YV]at hfs;simp only[List.isEmpty_cons,Bool.not_false,Bool.or_true]at has
    conv=>whnf
    repeat'((first|apply st|(apply sq;intro K U)|(apply si;intro A B Y Z)|(apply Y;clear Z B Y A)|(apply U;clear U K)|refine⟨rfl,?_⟩|refine ix ?_|(refine DR (fun hc=>?_)<;>(try rw[hc])<;>clear hc)|(constructor<;>intro hc<;>(try rw[hc])<;>(replace hc:=bp hc)<;>(try simp(disch:=omega) only[BT,wrap64,AN]at hc)<;>try(exfalso;omega))|fail)<;>conv=>whnf)
    refine C3 ls'.length (fun j (_:Unit)=>[(25,eI (Bc j))]) (fun _ _=>[.own v 1 (iL out)]) (fun j _=>free ls' x=(ls'.drop j).all fun m=> !(m.drop 1).contains x) () rfl rfl hs ?_;clear hs;rintro j - σ hj hfr hs;rcases BU ls' hj with⟨m,hm0,hjlt⟩|hje
    ·have hmb:=(hok'.2 _ (DL hm0)).1
     rw[drop_cons hm0,SZ]at hfr;cases m with
     | nil=>
       have hml:([]:List Int).length=0:=rfl
       conv=>whnf
       repeat'((first|apply st|(apply sq;intro K U)|(apply si;intro A B Y Z)|(apply Y;clear Z B Y A)|(apply U;clear U K)|apply dr|refine⟨rfl,?_⟩|refine ix ?_|(refine DR (fun hc=>?_)<;>(try rw[hc])<;>clear hc)|(constructor<;>intro hc<;>(try rw[hc])<;>(replace hc:=bp hc)<;>(try simp(disch:=omega) only[BT,wrap64,AN]at hc)<;>try(exfalso;omega))|clear U K)<;>conv=>whnf)
       exact⟨hjlt,(),rfl,by rw[hfr];rfl,hs⟩
     | cons y s=>
       have hml:(y::s).length=s.length+1:=rfl
       conv=>whnf
       repeat'((first|apply st|(apply sq;intro K U)|(apply si;intro A B Y Z)|(apply Y;clear Z B Y A)|(apply U;clear U K)|apply dr|refine⟨rfl,?_⟩|refine ix ?_|(refine DR (fun hc=>?_)<;>(try rw[hc])<;>clear hc)|(constructor<;>intro hc<;>(try rw[hc])<;>(replace hc:=bp hc)<;>(try simp(disch:=omega) only[BT,wrap64,AN]at hc)<;>try(exfalso;omega))|fail)<;>conv=>whnf)
       refine VY 1 rfl (by omega) (fun _=>rfl) ?_
       conv=>whnf
       repeat'((first|apply st|(apply si;intro A B Y Z)|(apply Y;clear Z B Y A)|(apply U;clear U K)|apply dr|refine⟨rfl,?_⟩|refine MI ?_|refine Pure.use (D7 _ _ _) ?_|(constructor<;>intro hc<;>(try rw[hc])<;>(replace hc:=bp hc))|clear U K)<;>conv=>whnf)
       ·rw[hc]at hfr
        have hfr2:free ls' x=false:=by rw[hfr];rfl
        rw[hfr2,if_neg (by decide)]at hfs;exact⟨hlt,true,rfl,⟨hfs,by rw[has]⟩,hs⟩
       ·exact⟨hjlt,(),rfl,by rw[hfr,hc];rfl,hs⟩
    ·rw[Au hje]at hfr
     have hgood:free ls' x=true:=hfr;rw[hgood,if_pos rfl]at hfs;have hp:pick ls'=some x:=by rw[Zb,cr hfs];rfl
     have htp:=IG hp
     conv=>whnf
     repeat'((first|apply st|(apply sq;intro K U)|(apply si;intro A B Y Z)|(apply Y;clear Z B Y A)|(apply U;clear U K)|refine⟨rfl,?_⟩|refine MI ?_|refine ld ?_|refine s1 fun σ hs=>?_|refine aq fun v σ hs hsl=>?_|(refine Ew (fun hc=>?_)<;>(try rw[hc])<;>clear hc)|(intro nn hnn;generalize hg:A5 _ nn _=σ;refine al hg fun hs=>?_;clear hg)|clear U K)<;>conv=>whnf)
     have hs2:Sat σ [.own v 1 (iL (out++[x])),.box nn [eI x]]:=hs;refine C3 ls'.length (fun k u=>[(11,u),(50,eI (Bc k))]) (fun k u=>[.own v 1 (iL (out++[x])),.box nn [eI x],.own u 1 (E3 ((ls'.take k).map fun l=>l.filter (· != x)))]) (fun _ _=>True) (.l [] true) rfl trivial (GV hs2 1) ?_;clear hs hs2;rintro q u σ hq - hs;rcases BU ls' hq with⟨w,hw,hqlt⟩|hqe
     ·conv=>whnf
      repeat'((first|apply st|(apply sq;intro K U)|(apply si;intro A B Y Z)|(apply Y;clear Z B Y A)|(apply U;clear U K)|refine⟨rfl,?_⟩|refine ix ?_|(refine DR (fun hc=>?_)<;>(try rw[hc])<;>clear hc)|fail)<;>conv=>whnf)
      refine(mg 381 [] [.p nn 0] [.box nn [eI x]] (· != x) (xQ nn x) w false).use (rest:=[_,_]) (hs.perm (.swap _ _ _)) ?_;clear hs;rintro rr post σ ⟨rfl,rfl⟩ hs
      conv=>whnf
      repeat'((first|(apply si;intro A B Y Z)|(apply Y;clear Z B Y A)|(apply U;clear U K)|refine⟨rfl,?_⟩|refine aq fun v σ hs hsl=>?_|clear U K)<;>conv=>whnf)
      refine⟨hqlt,_,rfl,trivial,?_⟩;rw[Aa hw,Qn];exact hs.perm (.swap _ _ _)
     ·conv=>whnf
      repeat'((first|apply st|(apply sq;intro K U)|(apply si;intro A B Y Z)|(apply Y;clear Z B Y A)|(apply U;clear U K)|refine⟨rfl,?_⟩|(refine Ew (fun hc=>?_)<;>(try rw[hc])<;>clear hc)|clear U K)<;>conv=>whnf)
      rw[BI hqe]at hs;refine qL hs 2 rfl fun σ' hs'=>?_
      conv=>whnf
      repeat'((first|apply st|(apply Y;clear Z B Y A)|(apply U;clear U K)|clear U K)<;>conv=>whnf)
      refine⟨(ls'.map fun l=>l.filter (· != x),false,v,out++[x]),htp,rfl,⟨hok'.filter x,by simp;omega,?_⟩,hs'.take 1⟩;rw[←Nl hp];exact hm
 ·rw[BI hke]at hfd hta
  have hp:pick ls'=none:=by rw[Zb,hfd];rfl
  rw[QL hp]at hm
  conv=>whnf
  repeat'((first|apply st|(apply sq;intro K U)|(apply si;intro A B Y Z)|(apply Y;clear Z B Y A)|(apply U;clear U K)|refine⟨rfl,?_⟩|(refine Ew (fun hc=>?_)<;>(try rw[hc])<;>clear hc)|clear U K)<;>conv=>whnf)
  refine A8 ?_;rw[←hm];refine .t (.cons (hs.IV 0 rfl) (.cons ?_ .nil));have:(!t)=ls'.all List.isEmpty:=by rw[hta];simp[List.all_eq_not_any_not]
  rw[←this];exact .refl _
end Go.Gl
namespace Go.Gl
variable {P:Program} {σ:AH}
def Sat.wK {l:List At} {a:At} (h:Sat σ (l++[a])):Sat σ (a::l):=h.perm (by
 have:=UB (l₁:=l) (l₂:=[a])
 simpa using this)
def FP {l:List At} (h:Sat σ l) (sz:Nat):Sat σ (.own (.l [] true) sz []::l):=(GV h sz).wK
def o6 {l:List At} (h:Sat σ l) {sz:Nat} {es:List (List V)} (hs: ∀e∈es,e.length=sz):Sat σ (.own (.l es true) sz es::l):=(qK h hs).wK
def CN {l:List At} {o:O} {n:Nat} {K:Prop} {σ':AH} (e:A5 σ n o=σ') (hk:Sat σ' (.obj n o::l)→K) (hn:σ n=none:=by assumption) (h:Sat σ l:=by assumption):K:=hk (e ▸ (eP h hn).wK)
def Kp {α:Type}: ∀ {l:List α} {j:Nat} {a:α},l[j]? =some a→l.Perm (a::l.eraseIdx j)
 | x::r,0,a,h=>by simp at h;subst h;simp
 | x::r,j+1,a,h=>by
   simp only[vq]at h;simp only[List.eraseIdx_cons_succ];exact((Kp h).cons x).trans (.swap _ _ _)
def Sat.front {l:List At} {j:Nat} {a:At} (h:Sat σ l) (hj:l[j]? =some a):Sat σ (a::l.eraseIdx j):=h.perm (Kp hj)
def Sat.back {l:List At} {j:Nat} {a:At} (h:Sat σ (a::l.eraseIdx j)) (hj:l[j]? =some a):Sat σ l:=h.perm (Kp hj).symm
def B3.oY {f:FuncId} {args:List V} {a:At} {Φ:R→Prop} (h:B3 P f args [a] fun r post=>Φ r∧post= [a]) {l:List At} {j:Nat} (hs:Sat σ l) (hj:l[j]? =some a) {Q:R→AH→Prop} (hk: ∀r σ',Φ r→Sat σ' l→Q r σ'):A7 P f args σ Q:=by
 refine h.use (rest:=l.eraseIdx j) (hs.front hj) ?_;rintro r post σ' ⟨hr,rfl⟩ hs';exact hk r σ' hr (Sat.back hs' hj)
def Io {l:List At} {i n off:Nat} {vs:List V} {x:V} {K:AH→Prop} (hk: ∀σ',Sat σ' (l.set i (.box n (vs.set off x)))→K σ') (h:Sat σ l:=by assumption)
    (hi:l[i]? =some (.box n vs):=by first|exact UL|exact UK|exact UJ|exact UI|exact UH|exact UG)
    (h1:CO x=true:=by first|rfl|exact G9 (by assumption) 0 rfl|exact G9 (by assumption) 1 rfl|exact G9 (by assumption) 2 rfl|exact G9 (by assumption) 3 rfl|(simp<;>fail)) (ho:off+1≤vs.length:=by exact Nat.le_of_ble_eq_true rfl):AU σ 1 (.p n off) x K:=
 LR h i hi h1 ho hk
def Cg {l:List At} {i n off sz:Nat} {vs vc:List V} {x:V} {K:AH→Prop} (hk: ∀σ',Sat σ' (l.set i (.box n (putAt vs off vc)))→K σ') (h:Sat σ l:=by assumption)
    (hi:l[i]? =some (.box n vs):=by first|exact UL|exact UK|exact UJ|exact UI|exact UH|exact UG)
    (hc:cellsOf x=some vc:=by rfl) (hl:vc.length=sz:=by rfl) (h1:vc.all CO=true:=by first|rfl|(simp<;>fail)|(simp[*]<;>fail)) (ho:off+sz≤vs.length:=by exact Nat.le_of_ble_eq_true rfl):AU σ sz (.p n off) x K:=
 H5 h i hi hc hl h1 ho hk
def pq {sz m n o:Nat} {ki:IntKind} {j:Int} {K:V→Prop} (h:K (.p n (o+j.toNat*sz))) (h0:0≤j:=by omega) (h1:j<m:=by omega):AT sz (some m) (.p n o) (.i ki j) K:=⟨h0,h1,h⟩
def wN {sz m:Nat} {cs:List V} {ki:IntKind} {j:Int} {K:V→Prop} (h:K (.rp (cs.drop (j.toNat*sz)))) (h0:0≤j:=by omega) (h1:j<m:=by omega):AT sz (some m) (.rp cs) (.i ki j) K:=⟨h0,h1,h⟩
def rn {l:List At} (h:Sat σ l) (i:Nat) {v:V} {sz:Nat} {es es':List (List V)} (hi:l[i]? =some (.own v sz es)) (he: ∀σ2,Fp σ σ2 es es'): ∃σ2,Sub σ2 σ∧Fj σ σ2 v (.l es' false)∧Sat σ2 (l.eraseIdx i):=by
 rcases h.get hi with⟨rfl,_⟩|⟨n,cap,rfl,hn⟩
 ·exact⟨σ,fun _ _ h=>h,.l (fun h=>(by cases h)) (he _),h.less (List.eraseIdx_sublist _ _)⟩
 ·refine⟨del σ n,GG σ n,.arr hn (De σ n) rfl (he _),?_⟩
  refine⟨fun b hb=>?_,h.2.sublist (List.eraseIdx_sublist _ _)⟩;refine Fq (h.1 b (List.mem_of_mem_eraseIdx hb)) fun m hm=>?_
  rw[HD];intro e;subst e;exact FH h.2 hi b hb m rfl hm
def wh {l:List At} (h:Sat σ l) {sz:Nat} {z:List V} {n m:Nat} {K:V→AH→Prop} (hnm:n≤m) (hn:m≤1073741824) (hk: ∀v σ',Sat σ' (.own v sz (List.replicate n z)::l)→(∃id,v= .sl id n m)→K v σ') {ki kj:IntKind} :
    AL σ sz z (.i ki (n:Int)) (.i kj (m:Int)) K:=by
 refine⟨by omega,by omega,by omega,fun id hid=>?_⟩;simp only[MH];refine hk _ _ (h.add (a:= .own (.sl id n m) sz (List.replicate n z)) (fun b hb=>Fq hb fun m hm=>?_) (fun b hb m hm hb'=>?_) (.inr ⟨id,m,by simp,by simp[A5]⟩)).wK ⟨id,rfl⟩
 ·obtain⟨o,ho⟩:=DB hb hm
  rw[Cl];intro e;subst e;rw[hid]at ho;cases ho
 ·cases hm
  obtain⟨o,ho⟩:=DB hb hb';rw[hid]at ho;cases ho
def fE {σ:AH} {l:List At} {i:Nat} {v:V} {sz:Nat} {es:List (List V)} (hs:Sat σ l) (hi:l[i]? =some (.own v sz es)) (he: ∀e∈es,e.length=sz) (hm:es.length≤Aj) {K:V→AH→Prop} (hk: ∀σ',Sat σ' (l.eraseIdx i)→K (.l es true) σ'):AS σ sz v none (some (.i .i64 (es.length:Int))) (some (.i .i64 (es.length:Int))) K:=by
 rcases hs.get hi with⟨rfl,_⟩|⟨n,cap,rfl,hn⟩
 ·refine⟨he,?_⟩
  simp only[Ql];refine⟨Int.le_refl _,Int.natCast_nonneg _,Int.le_refl _,trivial,?_⟩;have:=hk σ (hs.less (List.eraseIdx_sublist _ _));simpa using this
 ·unfold AS
  simp only[Ql];refine⟨Int.le_refl _,Int.natCast_nonneg _,Int.le_refl _,trivial,trivial,trivial,?_⟩;rw[hn];refine⟨rfl,rfl,rfl,.inl (hk _ ?_)⟩;refine⟨fun b hb=>?_,hs.2.sublist (List.eraseIdx_sublist _ _)⟩;refine Fq (hs.1 b (List.mem_of_mem_eraseIdx hb)) fun m hm=>?_
  rw[HD];intro e;subst e;exact FH hs.2 hi b hb m rfl hm
end Go.Gl
namespace Go.Gl
open Go.Proofs
attribute [local irreducible] A7 Ap Af AT AM Ae AS AU AL Ad AO AP Aw A1 Sat AX Az Ah W
abbrev Ord:=Int×V×List Int
def kW (e:Ord):V×V:=(eI e.1,e.2.1)
def dk (e:Ord):At:= .own e.2.1 1 (iL e.2.2)
abbrev pL (ps:List (List Int×Bool)):List (List V):=ps.map fun p=>[.l (iL p.1) p.2]
abbrev gH (n mm:Nat) (vp vu:V) (ps:List (List Int×Bool)) (us:List Nat) (M:List Ord):List At:=
 .box n [vp,vu,.m mm]:: .own vp 1 (pL ps):: .own vu 1 (us.map fun u=>[eU u]):: .map mm (M.map kW)::M.map dk
def CE (M:List Ord) (c:Int):List Int:=((M.find? fun e=>c==e.1).map fun e=>e.2.2).getD []
def Iy (M:List Ord) (c:Int):V:=((M.find? fun e=>c==e.1).map fun e=>e.2.1).getD (.l [] true)
def jH (M:List Ord) (c:Int):found (.l [] true) false (C6 (eI c) (M.map kW))=Iy M c:=by
 induction M with
 | nil=>rfl
 | cons e r ih=>
   simp only[Ct,kW,C6,Iy,List.find?_cons]at *;have he:En (eI c) (eI e.1)=(c==e.1):=rfl;rw[he];cases c==e.1
   ·exact ih
   ·rfl
def Xd (M:List Ord): ∀kv∈M.map kW,BW (.i .i64) kv.1=true:=by
 intro kv h;obtain⟨e,_,rfl⟩:=KE.1 h;rfl
def mV {M:List Ord} {c:Int} (v:V) (l:List Int) (h: ∀e∈M,e.1≠c):Em (eI c) v (M.map kW)=(M++[(c,v,l)]).map kW:=by
 induction M with
 | nil=>rfl
 | cons e r ih=>
   simp only[Ct,List.cons_append,kW,Em];have he:En (eI c) (eI e.1)=(c==e.1):=rfl;rw[he,beq_false_of_ne (fun e'=>h e (.head _) e'.symm)];simp only[cond_false];rw[ih fun e he=>h e (.tail _ he)]
def PN (M:List Ord) (c:Int):(CE M c= []∧Iy M c= .l [] true)∨ ∃j:Nat,(M.map dk)[j]? =some (At.own (Iy M c) 1 (iL (CE M c))):=by
 unfold CE Iy;cases h:M.find? fun e=>c==e.1 with
 | none=>exact .inl ⟨rfl,rfl⟩
 | some e=>
   refine .inr ?_;obtain⟨j,hj⟩:=List.getElem?_of_mem (List.mem_of_find?_eq_some h);refine⟨j,?_⟩;rw[Q8,hj];rfl
def PO {M:List Ord} {c:Int} {σ:AH} {fx:List At} (hs:Sat σ (fx++M.map dk)) (hl:(CE M c).length≤Aj) {K:V→Prop} (hk:K (.i .i64 (CE M c).length)):Az (Iy M c) K:=by
 rcases PN M c with⟨h1,h2⟩|⟨j,hj⟩
 ·rw[h2]
  rw[h1]at hk;exact FO hk
 ·have hj':(fx++M.map dk)[fx.length+j]? =some (At.own (Iy M c) 1 (iL (CE M c))):=by
   rw[List.getElem?_append_right (by omega),Nat.add_sub_cancel_left,hj]
  exact wi hs _ hj' (by simpa using hl) (by simpa using hk)
def yg {σ:AH} {l:List At} {i mm:Nat} {M:List Ord} {c:Int} {K:V→Prop} (hk:K (Iy M c)) (h:Sat σ l:=by assumption)
    (hi:l[i]? =some (.map mm (M.map kW)):=by first|exact UL|exact UK|exact UJ|exact UI|exact UH|exact UG):AO σ (.i .i64) (.l [] true) false (.m mm) (eI c) K:=
 Th h i hi rfl (Xd M) (by rw[jH];exact hk)
def yA {M:List Ord} {c:Int} {σ:AH} {fx:List At} (hs:Sat σ (fx++M.map dk)) (hl:(CE M c).length≤Aj) (hne:CE M c≠[]) {k kp:V→AH→Prop} (hk: ∀σ',Sat σ' (fx++M.map dk)→k (.l (iL ((CE M c).filter (· != 0))) false) σ'):A7 Tryz.prog 379 [Iy M c] σ (qk k kp):=by
 rcases PN M c with⟨h1,h2⟩|⟨j,hj⟩
 ·exact absurd h1 hne
 ·have hj':(fx++M.map dk)[fx.length+j]? =some (At.own (Iy M c) 1 (iL (CE M c))):=by
   rw[List.getElem?_append_right (by omega),Nat.add_sub_cancel_left,hj]
  refine(kC (CE M c) (Iy M c) hl).oY hs hj' ?_;rintro r σ' rfl hs';exact hk σ' hs'
def WN {σ σ2:AH}: ∀ {a a' b b':List (List V)},Fp σ σ2 a a'→Fp σ σ2 b b'→Fp σ σ2 (a++b) (a'++b')
 | [],[],_,_,.nil,h=>h
 | _::_,_::_,_,_,.cons h1 h2,h=> .cons h1 (WN h2 h)
def jE (n mm:Nat) (vp vu:V) (ps:List (List Int×Bool)) (us:List Nat) (M:List Ord) (c:Int) (l:List Int) (b:Bool) (hc0:0≤c) (hl:ps[c.toNat]? =some (l,b)) (hll:l.length≤3) (hol: ∀c,(CE M c).length≤Aj) :
    B3 Tryz.prog 376 [.p n 0,eI c] (gH n mm vp vu ps us M) fun r post=>r= .ret (if l.any fun p=>(CE M p).isEmpty then .t [.l [] true,.b false]else .t [.l (E3 (l.map (fun p=>(CE M p).filter (· != 0))++[l])) false,.b true])∧post=gH n mm vp vu ps us M:=by
 intro σ hs;have hM:=Mx;have hci:c<ps.length:=by have:=(MK.1 hl).1;omega
 refine sT kZ ?_
 conv=>whnf
 repeat'((first|apply st|(apply sq;intro K U)|(apply si;intro A B Y Z)|(apply Y;clear Z B Y A)|(apply U;clear U K)|refine ld ?_|refine oi ?_|refine wL ?_|fail)<;>conv=>whnf)
 refine C3 l.length (fun k v=>[(6,v),(17,eI (Bc k))]) (fun k v=> .own v 1 (E3 ((l.take k).map fun p=>(CE M p).filter (· != 0)))::gH n mm vp vu ps us M) (fun k _=>((l.take k).any fun p=>(CE M p).isEmpty)=false) (.l [] true) rfl rfl (FP hs 1) ?_;clear hs;rintro k v σ hk hne hs;rcases BU l hk with⟨p,hp,hlt⟩|hke
 ·have han:((l.take (k+1)).any fun p=>(CE M p).isEmpty)=(CE M p).isEmpty:=by rw[Aa hp,List.any_append,hne];simp
  have hap:(l.take k).length≤3:=by rw[Ny];omega
  conv=>whnf
  repeat'((first|apply st|(apply sq;intro K U)|(apply si;intro A B Y Z)|(apply Y;clear Z B Y A)|(apply U;clear U K)|refine⟨rfl,?_⟩|refine ix ?_|refine ld ?_|(refine DR (fun hc=>?_)<;>(try rw[hc])<;>clear hc)|refine yg ?_|refine PO (fx:=_::_::_::_::_:: []) hs (hol _) ?_|(constructor<;>intro hc<;>(try rw[hc])<;>(replace hc:=bp hc))|clear U K)<;>conv=>whnf)
  ·have h0:(CE M p).isEmpty=true:=by rw[List.isEmpty_iff_length_eq_zero];omega
   have hany:(l.any fun p=>(CE M p).isEmpty)=true:=JR.2 ⟨p,DL hp,h0⟩;refine A4 (l':=gH n mm vp vu ps us M) hs (K0 _ _) (.refl _) fun σ' hs'=>⟨_,⟨?_,rfl⟩,hs'⟩
   rw[if_pos hany]
  ·have h0:(CE M p).isEmpty=false:=by
    cases h:(CE M p).isEmpty
    ·rfl
    ·rw[List.isEmpty_iff_length_eq_zero]at h;omega
   refine yA (fx:=_::_::_::_::_:: []) hs (hol _) (fun e=>by rw[e]at h0;cases h0) fun σ hs=>?_
   conv=>whnf
   repeat'((first|(apply si;intro A B Y Z)|(apply Y;clear Z B Y A)|(apply U;clear U K)|refine⟨rfl,?_⟩|refine aq fun v σ hs hsl=>?_|clear U K)<;>conv=>whnf)
   refine⟨hlt,_,rfl,by rw[han];exact h0,?_⟩;rw[Aa hp,Qn];exact hs
 ·rw[BI hke]at hne hs
  conv=>whnf
  repeat'((first|apply st|(apply sq;intro K U)|(apply si;intro A B Y Z)|(apply Y;clear Z B Y A)|(apply U;clear U K)|refine⟨rfl,?_⟩|refine ld ?_|refine oi ?_|refine wL ?_|(refine Ew (fun hc=>?_)<;>(try rw[hc])<;>clear hc)|clear U K)<;>conv=>whnf)
  refine hAppend hs 0 rfl (by simp;omega) (fun e he=>by simp at he;subst he;rfl) (fun e he v hv=>by simp at he;subst he;simp at hv;subst hv;rfl) fun v σ hs=>?_
  conv=>whnf
  repeat'((first|apply st|(apply Y;clear Z B Y A)|(apply U;clear U K)|fail)<;>conv=>whnf)
  obtain⟨σ2,h1,h2,h3⟩:=rn (es':=E3 (l.map (fun p=>(CE M p).filter (· != 0))++[l])) hs 0 rfl fun σ2=>by
   have e:E3 (l.map (fun p=>(CE M p).filter (· != 0))++[l])=E3 (l.map fun p=>(CE M p).filter (· != 0))++[[.l (iL l) false]]:=by simp only[E3,Qn,Ct,List.map_nil]
   rw[e];exact WN (EG _) (.cons (.cons ez .nil) .nil)
  refine Jc h1 (.t (.cons h2 (.cons (.refl _) .nil))) ⟨_,⟨?_,rfl⟩,h3⟩;rw[hne,if_neg (by decide)]
end Go.Gl
