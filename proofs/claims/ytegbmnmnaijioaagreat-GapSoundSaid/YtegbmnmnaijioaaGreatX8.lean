import Derived.Test.YtegbmnmnaijioaaGreatX6
import Derived.Test.YtegbmnmnaijioaaGreatX7
set_option linter.all false
set_option linter.defProp false
set_option maxHeartbeats 8000000
noncomputable section
namespace Go.Gl
open Go.Proofs
attribute [local irreducible] Ar Aj AZ AQ AL AX AP AR AJ AW AM AN Am Av Sat AT As Aa W
def RZ {w:AF} (f:Fact):BN w f=true->QI f=true:=by
 induction f using Fact.ind with
 | h f ih=>
   intro h;rw[By]at h;simp only[C8,A0,DJ,CC]at h;rw[My];simp only[A0,CC,List.all_map,DJ,Function.comp_apply,id];exact⟨⟨h.1.2.2.1,h.1.2.2.2.1⟩,fun k hk=>ih k hk (h.2 k hk)⟩
def Pt (p:Prog) (m:Na):Bool:=decide (1<=m.kind)&&(decide (m.kind<=4)&&(decide (0<=m.gen)&&(decide (m.gen<(p.Cb.length:Int))&&(Ct (AK p) m.fact&&decide (DE m.fact<=p.Cb.getD m.gen.toNat 0)))))
def runM (p:Prog):List Na->List Int->Option (List Int)
 | [],s=>some s
 | m::r,s=>if Pt p m then match CS p (Ks m.kind) 12 m.node (p.Cb.getD m.gen.toNat 0) s with
   | none=>none
   | some s'=>runM p r s' else none
def C2 (p:Prog):Bool:=A7 p&&(decide (p.Cb.length<=8)&&(decide (p.methods.length<=16)&&(decide (1<=p.nodes.length)&&(decide (p.nodes.length<=120)&&p.Cb.all fun g=>decide (1<=g)&&decide (g<=3)))))
def BQ (p:Prog):Option (List Int):=if C2 p then match runM p p.methods (List.replicate p.nodes.length (-1))with
 | none=>none
 | some s=>match CS p false 12 p.main 0 s with
   | none=>none
   | some s=>if s.all fun n=>decide (0<=n)then some s else none else none
def Ku (p:Prog):Option (List Int)->Option (List Int)
 | none=>none
 | some s=>match CS p false 12 p.main 0 s with
   | none=>none
   | some s=>if s.all fun n=>decide (0<=n)then some s else none
def OZ (p:Prog):V:=match BQ p with
 | none=> .t [.l [] true,.b false]
 | some s=> .t [.l (iL s) false,.b true]
def sC {p:Prog} (h:BQ p=none):OZ p= .t [.l [] true,.b false]:=by simp only[OZ,h]
def AAp {p:Prog} (h:C2 p=false):OZ p= .t [.l [] true,.b false]:=sC (by unfold BQ;rw[h];rfl)
def L7 {p:Prog} {Z:AE} (h:BQ p=none):Aj Z (.t [.l [] true,.b false]) fun r Z'=>r=R.ret (OZ p)/\Z'=emp:=by
 rw[sC h];exact AG rfl
def QC {p:Prog} {Z:AE} (h:C2 p=false):Aj Z (.t [.l [] true,.b false]) fun r Z'=>r=R.ret (OZ p)/\Z'=emp:=by
 rw[AAp h];exact AG rfl
def bR {p:Prog} (h:C2 p=true):BQ p=Ku p (runM p p.methods (List.replicate p.nodes.length (-1))):=by
 unfold BQ;rw[if_pos h];rfl
def Di {p:Prog} {k:Nat} {x:Na} {s:List Int} (hx:p.methods[k]? =some x) (hn:BQ p=Ku p (runM p (p.methods.drop k) s)) (hok:Pt p x=false):BQ p=none:=by
 rw[hn,drop_cons hx,runM,if_neg (by simp[hok])];rfl
def TA {p:Prog} {k:Nat} {x:Na} {s:List Int} (hx:p.methods[k]? =some x) (hn:BQ p=Ku p (runM p (p.methods.drop k) s)) (hok:Pt p x=true) (hw:CS p (Ks x.kind) 12 x.node (p.Cb.getD x.gen.toNat 0) s=none):BQ p=none:=by
 rw[hn,drop_cons hx,runM,if_pos hok,hw];rfl
def a6 {p:Prog} {k:Nat} {x:Na} {s s':List Int} (hx:p.methods[k]? =some x) (hn:BQ p=Ku p (runM p (p.methods.drop k) s)) (hok:Pt p x=true) (hw:CS p (Ks x.kind) 12 x.node (p.Cb.getD x.gen.toNat 0) s=some s'):BQ p=Ku p (runM p (p.methods.drop (k+1)) s'):=by
 rw[hn,drop_cons hx,runM,if_pos hok,hw]
def TS {p:Prog} (h:C2 p=true) {k:Nat} {x:Int} (hx:p.Cb[k]? =some x):1<=x/\x<=3:=by
 simp only[C2,A0,DJ,CC]at h;exact h.2.2.2.2.2 x (CY hx)
def uZ (p:Prog):Pure zP 97 [.a (BR p)] (OZ p):=by
 refine Pure.fit (by kernel_rfl) fun hf=>?_
 have⟨p1,p2,p3,p4⟩:=G7 hf.1;have hM:=Mx;refine ABB kZ ?_;have hs:=Sn
 conv=>whnf
 repeat'((first|apply st|(apply sq;intro K U)|(apply si;intro A B hA hB)|(refine hA _ _ ?_;clear hB B hA A)|(apply U;clear U K)|refine⟨rfl,?_⟩|refine⟨kZ,?_⟩|refine Pure.use (fj _) ?_|(constructor<;>intro hc<;>(try rw[hc])<;>(replace hc:=bp hc)<;>(try simp(disch:=omega) only[Ca,wrap64,Ag]at hc))|clear U K)<;>conv=>whnf)
 .exact QC (by simp[C2];intros;omega)
 rotate_left
 .exact QC (by simp[C2];intros;omega)
 .exact QC (by simp[C2];intros;omega)
 .exact QC (by simp[C2];intros;omega)
 .exact QC (by simp[C2, *])
 have a1:p.Cb.length<=8:=by omega
 have a2:p.methods.length<=16:=by omega
 have a3:1<=p.nodes.length:=by omega
 have a4:p.nodes.length<=120:=by omega
 have hg:C2 p=p.Cb.all fun g=>decide (1<=g)&&decide (g<=3):=by
  simp only[C2,a1,a2,a3,a4,decide_true,Cm];simp[*]
 refine CZ p.Cb.length (fun k (_:Unit)=>[(4,eI (BL k))]) (fun _ _=>[]) (fun k _=>C2 p=(p.Cb.drop k).all fun g=>decide (1<=g)&&decide (g<=3)) () rfl (by simpa using hg) hs ?_;clear hs;rintro k - Z hk hn hs
 conv=>whnf
 repeat'((first|apply st|(apply sq;intro K U)|(apply si;intro A B hA hB)|(refine hA _ _ ?_;clear hB B hA A)|(apply U;clear U K)|refine⟨rfl,?_⟩|refine ix ?_|(refine fc (fun x hx hlt hc=>?_) (fun hk hc=>?_)<;>(try rw[hc])<;>clear hc)|(constructor<;>intro hc<;>(try rw[hc])<;>(replace hc:=bp hc))|clear U K)<;>conv=>whnf)
 .exact QC (by rw[hn,drop_cons hx];simp;intros;omega)
 .exact⟨hlt,(),rfl,by rw[hn,drop_cons hx];simp[*],hs⟩
 .exact QC (by rw[hn,drop_cons hx];simp;intros;omega)
 have hh:C2 p=true:=by rw[hn,Ao hk];rfl
 have hP:=L6 hf.1;have hcB:A7 p=true:=by assumption
 have hsb:Cv 0 p.AO=true:=by simp only[A7,A0]at hcB;exact hcB.2.1
 have hc10:p.AO.length<=1000:=by simp only[A7,A0,CC]at hcB;omega
 have hmS:Br p.AO<=Ae:=by have:=(FT _ _ hsb).1;simp only[A7,A0,CC]at hcB;omega
 have hL:=bR hh;clear hn hg;refine CZ p.nodes.length (fun j v=>[(5,v),(6,eI (BL j))]) (fun j v=>[.own v 1 (iL (List.replicate j (-1)))]) (fun j v=>1<=j->(Ce v).isSome=true) (.l [] true) rfl (fun h=>by omega) (Gy hs 1) ?_;clear hs;rintro j v Z hj hv hs
 conv=>whnf
 repeat'((first|apply st|(apply sq;intro K U)|(apply si;intro A B hA hB)|(refine hA _ _ ?_;clear hB B hA A)|(apply U;clear U K)|refine⟨rfl,?_⟩|refine⟨kZ,?_⟩|refine sn fun Z hs=>?_|refine aq fun v Z hs hsl=>?_|(refine fc (fun x hx hlt hc=>?_) (fun hk hc=>?_)<;>(try rw[hc])<;>clear hc)|refine Pure.use (Uk _ (by assumption) (by omega) (by assumption)) ?_|(intro nn hnn;generalize hg:B5 _ nn _=Z;refine al hg fun hs=>?_;clear hg)|clear U K)<;>conv=>whnf)
 .exact⟨hlt,_,rfl,fun _=>hsl,by rw[List.replicate_succ'];exact hs⟩
 have hsv:=hv (by omega);subst hk;refine CZ p.methods.length (fun k (s:List Int)=>[(8,eI (BL k))]) (fun _ s=>[.own v 1 (iL s),.box nn (A9 (AK p))]) (fun k s=>s.length=p.nodes.length/\BQ p=Ku p (runM p (p.methods.drop k) s)) (List.replicate p.nodes.length (-1)) rfl ⟨by simp,hL⟩ hs ?_;clear hs;rintro k s Z hk ⟨hl,hn⟩ hs
 conv=>whnf
 repeat'((first|apply st|(apply sq;intro K U)|(apply si;intro A B hA hB)|(refine hA _ _ ?_;clear hB B hA A)|(apply U;clear U K)|apply dr|refine rk ?_ ?_|exact fun s e=>by cases e;rfl|refine⟨rfl,?_⟩|refine⟨kZ,?_⟩|refine ix ?_|refine iq fun x hx=>?_|refine ld ?_|refine sn fun Z hs=>?_|(refine fc (fun x hx hlt hc=>?_) (fun hk hc=>?_)<;>(try rw[hc])<;>clear hc)|refine Pure.use (mW _ _) ?_|(constructor<;>intro hc<;>(try rw[hc])<;>(replace hc:=bp hc)<;>(try simp(disch:=omega) only[Ca,wrap64,Ag]at hc))|(intro nn hnn;generalize hg:B5 _ nn _=Z;refine al hg fun hs=>?_;clear hg)|clear U K)<;>conv=>whnf)
 rotate_left
 .exact L7 (Di hx hn (by simp[Pt, *]))
 .exact L7 (Di hx hn (by simp[Pt];intros;omega))
 .exact L7 (Di hx hn (by simp[Pt];intros;omega))
 .exact L7 (Di hx hn (by simp[Pt];intros;omega))
 .exact L7 (Di hx hn (by simp[Pt];intros;omega))
 .refine(ij p false 12 (Ia _) p.main 0 1 s v rfl (by omega) (by omega) hl hsv).use hs ?_
  clear hs;rintro r post Z ⟨s2,hl2,rfl,⟨ho,rfl⟩|⟨ho,rfl⟩⟩ hs
  .conv=>whnf
   repeat'((first|apply st|(apply sq;intro K U)|(apply si;intro A B hA hB)|(refine hA _ _ ?_;clear hB B hA A)|(apply U;clear U K)|(constructor<;>intro hc<;>(try rw[hc])<;>(replace hc:=bp hc)<;>(try simp(disch:=omega) only[Ca,wrap64,Ag]at hc))|clear U K)<;>conv=>whnf)
   .cases hc
   have hz:BQ p=if s2.all fun n=>decide (0<=n)then some s2 else none:=by rw[hn,Ao hk,runM,Ku,ho]
   refine CZ s2.length (fun j (_:Unit)=>[(10,eI (BL j))]) (fun _ _=>[.own v 1 (iL s2),.box nn (A9 (AK p))]) (fun j _=>BQ p=if(s2.drop j).all fun n=>decide (0<=n)then some s2 else none) () rfl hz hs ?_;clear hs;rintro j - Z hj hz hs
   conv=>whnf
   repeat'((first|apply st|(apply sq;intro K U)|(apply si;intro A B hA hB)|(refine hA _ _ ?_;clear hB B hA A)|(apply U;clear U K)|refine⟨rfl,?_⟩|refine oc ?_|refine ol fun x hx=>?_|(refine fc (fun x hx hlt hc=>?_) (fun hk hc=>?_)<;>(try rw[hc])<;>clear hc)|refine lo ?_|(constructor<;>intro hc<;>(try rw[hc])<;>(replace hc:=bp hc))|clear U K)<;>conv=>whnf)
   .exact L7 (by rw[hz,drop_cons hx,R8,if_neg];simp;intros;omega)
   .exact⟨hlt,(),rfl,by rw[hz,drop_cons hx,R8];simp[*],hs⟩
   .have hz2:BQ p=some s2:=by rw[hz,Ao (by assumption)];rfl
    simp only[OZ,hz2];exact BZ (.t (.cons (hs.HQ 0 rfl) (.cons (.refl _) .nil)))
  .conv=>whnf
   repeat'((first|apply st|(apply sq;intro K U)|(apply si;intro A B hA hB)|(refine hA _ _ ?_;clear hB B hA A)|(apply U;clear U K)|(constructor<;>intro hc<;>(try rw[hc])<;>(replace hc:=bp hc)<;>(try simp(disch:=omega) only[Ca,wrap64,Ag]at hc))|clear U K)<;>conv=>whnf)
   .exact L7 (by rw[hn,Ao hk,runM,Ku,ho])
   .cases hc
 rename Na=>m
 rename p.methods[k]? =some m=>hm
 refine(lP m.fact (RZ _ (by(have:Ct (AK p) m.fact=true:=by assumption);simp only[Ct,A0]at this;exact this.2.2))).use ?_
 conv=>whnf
 repeat'((first|apply st|(apply sq;intro K U)|(apply si;intro A B hA hB)|(refine hA _ _ ?_;clear hB B hA A)|(apply U;clear U K)|apply dr|refine rk ?_ ?_|exact fun s e=>by cases e;rfl|refine⟨rfl,?_⟩|refine⟨kZ,?_⟩|refine iq fun x hx=>?_|refine ld ?_|refine Pure.use (uS _) ?_|(constructor<;>intro hc<;>(try rw[hc])<;>(replace hc:=bp hc))|clear U K)<;>conv=>whnf)
 .exact L7 (Di hm hn (by simp[Pt,C6,hx];intros;omega))
 obtain⟨hx1,hx3⟩:=TS hh hx;have hgd:p.Cb.getD m.gen.toNat 0=x:=by rw[C6,hx];rfl
 rename p.Cb[m.gen.toNat]? =some _=>hx2
 have hxe:=Option.some.inj (hx.symm.trans hx2);subst hxe;have hok:Pt p m=true:=by simp only[Pt,hgd,A0,CC];exact⟨by assumption,by omega,by assumption,by assumption,by assumption,by assumption⟩
 refine(ij p (Ks m.kind) 12 (Ia _) m.node x 1 s v rfl (by omega) (by omega) hl hsv).use (rest:=[_,_]) hs ?_;clear hs;rintro r post Z ⟨s2,hl2,rfl,⟨ho,rfl⟩|⟨ho,rfl⟩⟩ hs
 .conv=>whnf
  repeat'((first|apply st|(apply sq;intro K U)|(apply si;intro A B hA hB)|(refine hA _ _ ?_;clear hB B hA A)|(apply U;clear U K)|apply dr|refine⟨rfl,?_⟩|(constructor<;>intro hc<;>(try rw[hc])<;>(replace hc:=bp hc)<;>(try simp(disch:=omega) only[Ca,wrap64,Ag]at hc))|clear U K)<;>conv=>whnf)
  .cases hc
  .exact⟨by assumption,s2,rfl,⟨by omega,a6 hm hn hok (by rw[hgd];exact ho)⟩,hs.less (.cons₂ _ (.cons₂ _ (O4 _)))⟩
 .conv=>whnf
  repeat'((first|apply st|(apply sq;intro K U)|(apply si;intro A B hA hB)|(refine hA _ _ ?_;clear hB B hA A)|(apply U;clear U K)|apply dr|refine⟨rfl,?_⟩|(constructor<;>intro hc<;>(try rw[hc])<;>(replace hc:=bp hc)<;>(try simp(disch:=omega) only[Ca,wrap64,Ag]at hc))|clear U K)<;>conv=>whnf)
  .exact L7 (TA hm hn hok (by rw[hgd];exact ho))
  .cases hc
def tu (p:Prog):Pure zP 36 [.a (BR p)] (.b (BQ p).isSome):=by
 refine ABT kZ ?_;have h:=uZ p;unfold OZ at h;cases hl:BQ p with
 | none=>
   rw[hl]at h
   conv=>whnf
   repeat'((first|clear U K|apply st|(apply zk;intro K U)|refine zn ?_|refine zC ?_|fail)<;>conv=>whnf)
   all_goals exact AG (by first|rfl|simp)
 | some s=>
   rw[hl]at h
   conv=>whnf
   repeat'((first|clear U K|apply st|(apply zk;intro K U)|refine zn ?_|refine zC ?_|fail)<;>conv=>whnf)
   all_goals exact AG (by first|rfl|simp)
def Yg:List (Fact->Bool)->List Fact->Bool
 | h::r,k::s=>h k&&Yg r s
 | _,_=>true
def ru (f:Fact) (l:List (Fact->Bool)) (g:Fact):Bool:=f.op==g.op&&(f.arg==g.arg&&(f.cls==g.cls&&(f.n==g.n&&(f.path==g.path&&(f.kids.length==g.kids.length&&Yg l g.kids)))))
def Hz (f:Fact):Fact->Bool:=f.HU ru
def Wt (f g:Fact):Hz f g=(f.op==g.op&&(f.arg==g.arg&&(f.cls==g.cls&&(f.n==g.n&&(f.path==g.path&&(f.kids.length==g.kids.length&&Yg (f.kids.map Hz) g.kids)))))):=congrFun (Fact.DT ru f) g
def Xf {xs ys:List Fact} (h: ∀x∈xs,∀y,Hz x y=true↔x=y) (hl:xs.length=ys.length):Yg (xs.map Hz) ys=true↔xs=ys:=by
 induction xs generalizing ys with
 | nil=>cases ys with
   | nil=>simp[Yg]
   | cons _ _=>simp at hl
 | cons x r ih=>cases ys with
   | nil=>simp at hl
   | cons y s=>
     simp only[EW,Yg,A0,List.cons.injEq];rw[h x (.head _) y,ih (fun x hx=>h x (.tail _ hx)) (by simpa using hl)]
def N4 (f g:Fact):Hz f g=true↔f=g:=by
 induction f using Fact.ind generalizing g with
 | h f ih=>
   rw[Wt];cases f with
   | mk o a p c n k=>cases g with
     | mk o' a' p' c' n' k'=>
       simp only[Fact.op,Fact.arg,Fact.cls,Fact.n,Fact.path,Fact.kids,A0,Cd,Fact.mk.injEq]at *;constructor
       .rintro⟨rfl,rfl,rfl,rfl,rfl,hl,h⟩
        exact⟨rfl,rfl,rfl,rfl,rfl,(Xf (fun x hx y=>ih x hx y) hl).1 h⟩
       .rintro⟨rfl,rfl,rfl,rfl,rfl,rfl⟩
        exact⟨rfl,rfl,rfl,rfl,rfl,rfl,(Xf (fun x hx y=>ih x hx y) rfl).2 rfl⟩
def Ez (f:Fact):Fact:= .mk 5 0 [] 0 0 [f]
def SU (f g:Fact):Fact:= .mk 6 0 [] 0 0 [f,g]
def sD (l:Fact):Prop:=l.op=5->l.kids≠[]
def Ah (l:Fact):Fact×Bool:=if l.op=5 then(l.kids.headD default,true)else(l,false)
def Bm (path pre:List Int):Bool:=decide (pre.length<=path.length)&&path.take pre.length==pre
def Km (a:Int) (p:List Int) (l:Fact):Bool:=(Ah l).1.arg==a&&(Ah l).1.path==p
def E2 (ls:List Fact) (a:Int) (p:List Int):Bool:=ls.all fun l=>(Ah l).2|| !((Ah l).1.arg==a&&Bm (Ah l).1.path p)
def BD (n:Nat):List Int:=(List.range n).map Int.ofNat
def HM (n:Nat):BD (n+1)=BD n++[(n:Int)]:=by simp[BD,List.range_succ]
def FX (n:Nat):(BD n).length=n:=by simp[BD]
def rf (a:Int) (p:List Int) (s:Int) (l:Fact):Bool:=(Ah l).1.arg==a&&Bm (Ah l).1.path (p++[s])
def Cu (n:Nat) (ls:List Fact) (a:Int) (p:List Int):List Int:=(BD n).filter fun s=>ls.any (rf a p s)
def G8 (n:Nat) (ls:List Fact) (a:Int) (p:List Int):Bool:=(Cu n ls a p).all fun s=>E2 ls a (p++[s])
def Yk (ls:List Fact):Prop:= ∀l∈ls,-1000000000<=(Ah l).1.n/\(Ah l).1.n<=1000000000
def V3 (x:Fact×Bool) (t:Int×Int×List Int):Option (Int×Int×List Int):=
 if x.1.op=2 then if decide (x.1.cls > 1) != x.2 then none else some t
 else if x.1.op=3 then(if x.2 then some (if x.1.n > t.1 then x.1.n else t.1,t.2.1,t.2.2)else some (t.1,if x.1.n - 1<t.2.1 then x.1.n - 1 else t.2.1,t.2.2))
 else if x.2 then some (t.1,t.2.1,t.2.2++[x.1.n])else some (if x.1.n > t.1 then x.1.n else t.1,if x.1.n<t.2.1 then x.1.n else t.2.1,t.2.2)
def foldI:List Fact->Int×Int×List Int->Option (Int×Int×List Int)
 | [],t=>some t
 | x::r,t=>(V3 (Ah x) t).bind (foldI r)
def gb (no:List Int):Nat->Int->Option Int
 | 0,_=>none
 | k+1,n=>if no.all (· != n)then some n else gb no k (n+1)
def V4 (t:Int×Int×List Int):Option Int:=gb t.2.2 (t.2.1+1 - t.1).toNat t.1
def t0:Int×Int×List Int:=(-1000000000,1000000000,[])
def PB (ls:List Fact) (a:Int) (p:List Int):Option Int:=(foldI (ls.filter (Km a p)) t0).bind V4
def Sf (x:Fact×Bool):Bool:=((x.1.op==2&&(x.1.cls==0||x.1.cls==2))==x.2)
def Jg (n:Nat) (ls:List Fact) (a:Int) (p:List Int):Bool:=(ls.filter (Km a p)).all (fun l=> !Sf (Ah l))&&G8 n ls a p
abbrev BB:=List Bool×List Bool
def OT (x:Fact×Bool) (t:BB):Option BB:=
 if x.1.op≠2\/x.1.cls=1\/x.1.cls=2 then(if x.2 then some t else none)else
 if x.2 then some (t.1,t.2.set x.1.cls.toNat true)else some (t.1.set x.1.cls.toNat true,t.2)
def Ky:List Fact->BB->Option BB
 | [],t=>some t
 | x::r,t=>(OT (Ah x) t).bind (Ky r)
def V2 (w:AF) (ls:List Fact) (a:Int) (p:List Int) (can:Int->Bool) (s:Int) (t:BB):Option BB:=
 if !E2 ls a (p++[s])&& !can s then none else some (if E2 ls a (p++[s])then t.1 else t.1.set (Bc w s).toNat true,if can s then t.2 else t.2.set (Bc w s).toNat true)
def Kx (w:AF) (ls:List Fact) (a:Int) (p:List Int) (can:Int->Bool):List Int->BB->Option BB
 | [],t=>some t
 | s::r,t=>(V2 w ls a p can s t).bind (Kx w ls a p can r)
def Kc (ps:List (List Int)) (c:Nat) (bs:List Bool):List Bool:=if bs.getD c false then(par ps c).foldl (fun b q=>b.set q.toNat true) bs else bs
def C4 (ps:List (List Int)) (n:Nat):Nat->List Bool->List Bool
 | 0,bs=>bs
 | k+1,bs=>Kc ps (n - 1 - k) (C4 ps n k bs)
def K3: ∀(l:List Int) (bs:List Bool),(l.foldl (fun b q=>b.set q.toNat true) bs).length=bs.length
 | [],_=>rfl
 | q::r,bs=>by rw[List.foldl_cons,K3 r,List.length_set]
def Fb (ps:List (List Int)) (n:Nat): ∀(k:Nat) (bs:List Bool),(C4 ps n k bs).length=bs.length
 | 0,_=>rfl
 | k+1,bs=>by
   rw[C4,Kc];split
   .rw[K3,Fb ps n k bs]
   .exact Fb ps n k bs
def gz (w:AF) (t:BB):Option (List Bool):=
 if t.2.getD 0 false then none else
 if(List.range (3+w.parents.length)).any (fun c=>(C4 w.parents (3+w.parents.length) w.parents.length (t.1.set 0 false)).getD c false&&t.2.getD c false)then none else some (C4 w.parents (3+w.parents.length) w.parents.length (t.1.set 0 false))
def tO (w:AF):BB:=(List.replicate (3+w.parents.length) false,List.replicate (3+w.parents.length) false)
def Vg (w:AF) (ls:List Fact) (a:Int) (p:List Int) (can:Int->Bool):Option (List Bool):=
 ((Ky (ls.filter (Km a p)) (tO w)).bind (Kx w ls a p can (Cu w.owner.length ls a p))).bind (gz w)
def IN {n:Nat} {ls:List Fact} {a:Int} {p:List Int} {s:Int} (h:s∈Cu n ls a p):0<=s/\s<n:=by
 have:=(JU.1 h).1;simp only[BD,Hp,List.mem_range]at this;obtain⟨m,hm,rfl⟩:=this;exact⟨Int.natCast_nonneg m,by simpa using hm⟩
def ABX (w:AF) (ls:List Fact):Prop:= ∀l∈ls,(Ah l).1.op=2->0<=(Ah l).1.cls/\(Ah l).1.cls<3+w.parents.length
def UG (w:AF) (ls:List Fact) (a:Int):Nat->List Int->Bool
 | 0,p=>((PB ls a p).isSome&&G8 w.owner.length ls a p)||(Jg w.owner.length ls a p||(Vg w ls a p fun _=>false).isSome)
 | d+1,p=>((PB ls a p).isSome&&G8 w.owner.length ls a p)||(Jg w.owner.length ls a p||(Vg w ls a p fun s=>UG w ls a d (p++[s])).isSome)
def jD (ls:List Fact) (n:Nat):Prop:= ∀l∈ls,(Ah l).1.path.length<=n
def N2 {n m:Nat} {ls:List Fact} {a:Int} {p:List Int} (h:jD ls m) (hp:m<=p.length):Cu n ls a p= []:=by
 rw[Cu,List.filter_eq_nil_iff];intro s _ hs;rw[Hn]at hs;obtain⟨l,hl,hg⟩:=hs;have:=h l hl;simp only[rf,Bm,A0,CC,SB,List.length_singleton]at hg;omega
def HR (w:AF) (ls:List Fact):Bool:=(BD 3).all fun a=>UG w ls a 2 []
def bb {b:Nat} {Z:AE} {l:List At} (h:Sat Z l) (i j:Nat) {v u:V} {sz:Nat} {es ys:List (List V)} {K:V->AE->Prop} (hi:l[i]? =some (.own v sz es)) (hj:l[j]? =some (.own u sz ys)) (hl:es.length+ys.length<=Ae/\(es.length+ys.length)*b<=140737488355328) (hys: ∀e∈ys,e.length=sz) (ho: ∀e∈ys,∀v∈e,CN v=true)
    (hk: ∀v' Z',Sat Z' (l.set i (.own v' sz (es++ys)))->K v' Z'):AL b Z sz v u K:=by
 have hA:AL b Z sz v (.l ys true) K:=hAppend h i hi hl hys ho hk;rcases h.get hj with⟨rfl,hel⟩|⟨n,cap,rfl,hn⟩
 .exact hA
 .unfold AL at hA ⊢
  simp only[rowsOf]at hA ⊢;rw[hn];refine⟨rfl,Ia _,?_⟩;rw[List.take_length];exact hA.2
def C1 (a:List Fact):List Fact->List Fact
 | []=>a
 | x::r=>C1 (if a.any (Hz x)then a else a++[x]) r
def ZZ (a:List Fact): ∀(b:List Fact) (x:Fact),C1 a (b++[x])=if(C1 a b).any (Hz x)then C1 a b else C1 a b++[x]:=by
 intro b
 induction b generalizing a with
 | nil=>intro x;rfl
 | cons y r ih=>intro x;simp only[List.cons_append,C1];exact ih _ x
def TR (a:List Fact): ∀(b:List Fact),(C1 a b).length<=a.length+b.length:=by
 intro b
 induction b generalizing a with
 | nil=>simp[C1]
 | cons y r ih=>
   simp only[C1,Lr];refine Nat.le_trans (ih _) ?_;split
   .omega
   .simp;omega
def TQ (a:List Fact): ∀(b:List Fact) (x:Fact),x∈C1 a b->x∈a\/x∈b:=by
 intro b
 induction b generalizing a with
 | nil=>intro x hx;exact .inl hx
 | cons y r ih=>
   intro x hx;simp only[C1]at hx;rcases ih _ x hx with h|h
   .split at h
    .exact .inl h
    .rcases D9.1 h with h|h
     .exact .inl h
     .rw[Lp.1 h];exact .inr (.head _)
   .exact .inr (.tail _ h)
def Fo (A B:List (List Fact)):List (List Fact):=A.flatMap fun x=>B.map fun y=>C1 x y
def Hf (f:Fact) (l:List (Bool->List (List Fact))) (c:Bool):List (List Fact):=
 if f.op=1 then(if c then []else [[]])else
 if f.op=5 then(l.getD 0 (fun _=>[])) (!c)else
 if f.op=6\/f.op=7 then(if c != (f.op==7)then l.getD 0 (fun _=>[]) c++l.getD 1 (fun _=>[]) c else Fo (l.getD 0 (fun _=>[]) c) (l.getD 1 (fun _=>[]) c))else
 if c then [[Ez f]]else [[f]]
def Be (f:Fact):Bool->List (List Fact):=f.HU Hf
def FW (f:Fact) (c:Bool):Be f c=Hf f (f.kids.map Be) c:=congrFun (Fact.DT Hf f) c
def ct (f:Fact) (l:List Nat):Nat:=if f.op=5 then l.getD 0 0 else if f.op=6\/f.op=7 then l.getD 0 0+l.getD 1 0 else 1
def lv (f:Fact):Nat:=f.HU ct
def Kt (f:Fact):lv f=ct f (f.kids.map lv):=Fact.DT ct f
def arity (f:Fact):Bool:=f.HU fun f l=>f.kids.length==CE f.op&&l.all id
def Mw (f:Fact):arity f=(f.kids.length==CE f.op&&f.kids.all arity):=by
 rw[arity,Fact.DT,List.all_map];rfl
def B7 {w:AF} (f:Fact):BN w f=true->arity f=true:=by
 induction f using Fact.ind with
 | h f ih=>
   intro h;rw[By]at h;simp only[C8,A0,DJ]at h;rw[Mw,A0,DJ];exact⟨h.1.2.1,fun k hk=>ih k hk (h.2 k hk)⟩
def Fi {f:Fact} (h:arity f=true) (h5:f.op=5): ∃a,f.kids= [a]/\arity a=true:=by
 rw[Mw,A0,DJ,h5]at h;have hl:f.kids.length=1:=by simpa[CE]using h.1
 obtain⟨a,ha⟩:=List.length_eq_one_iff.1 hl;exact⟨a,ha,h.2 a (by rw[ha];exact .head _)⟩
def Fh {f:Fact} (h:arity f=true) (h6:f.op=6\/f.op=7): ∃a b,f.kids= [a,b]/\arity a=true/\arity b=true:=by
 rw[Mw,A0,DJ]at h
 have hl:f.kids.length=2:=by
  have h5:f.op≠5:=by omega
  simpa[CE,h5,h6]using h.1
 match hk:f.kids,hl with
 | [a,b],_=>exact⟨a,b,rfl,h.2 a (by rw[hk];exact .head _),h.2 b (by rw[hk];exact .tail _ (.head _))⟩
def jT (f:Fact):arity f=true->1<=lv f:=by
 induction f using Fact.ind with
 | h f ih=>
   intro h;rw[Kt,ct];split
   .rename_i h5
    obtain⟨a,ha,hb⟩:=Fi h h5;rw[ha];exact ih a (by rw[ha];exact .head _) hb
   .split
    .rename_i h6
     obtain⟨a,b,ha,hb,_⟩:=Fh h h6;rw[ha];have:=ih a (by rw[ha];exact .head _) hb;simp only[EW,List.getD_cons_zero];omega
    .omega
def pA {a b:Nat} (ha:1<=a) (hb:1<=b):2 ^ a+2 ^ b<=2 ^ (a+b):=by
 rw[Nat.pow_add];have h1:2<=2 ^ a:=by simpa using Nat.pow_le_pow_right (show 0<2 by omega) ha
 have h2:2<=2 ^ b:=by simpa using Nat.pow_le_pow_right (show 0<2 by omega) hb
 generalize 2 ^ a=x at *;generalize 2 ^ b=y at *;have:=Nat.mul_le_mul_left (x - 1) (show 1<=y - 1 by omega);obtain⟨x,rfl⟩: ∃u,x=u+1:=⟨x - 1,by omega⟩
 obtain⟨y,rfl⟩: ∃u,y=u+1:=⟨y - 1,by omega⟩
 simp only[Nat.add_sub_cancel,Nat.mul_one]at this;rw[Nat.add_mul,Nat.mul_add];omega
def dx (A B:List (List Fact)):(Fo A B).length=A.length*B.length:=by
 induction A with
 | nil=>simp[Fo]
 | cons x r ih=>
   simp only[Fo,List.flatMap_cons,SB,Ca,Lr]at *;rw[ih,Nat.add_mul];omega
def Lj (f : Fact):arity f=true-> ∀c,(Be f c).length<=2 ^ lv f/\ ∀l∈Be f c,l.length<=lv f:=by
 induction f using Fact.ind with
 | h f ih=>
   intro h c;rw[FW,Kt,Hf,ct];by_cases h1:f.op=1
   .have e5: ¬f.op=5:=by omega
    have e6: ¬(f.op=6\/f.op=7):=by omega
    rw[if_pos h1,if_neg e5,if_neg e6];cases c
    .rw[if_neg (by decide)]
     exact⟨by simp,fun l hl=>by simp at hl;subst hl;simp⟩
    .rw[if_pos rfl]
     exact⟨by simp,fun l hl=>by cases hl⟩
   rw[if_neg h1];by_cases h5:f.op=5
   .obtain⟨a,ha,hb⟩:=Fi h h5
    rw[if_pos h5,if_pos h5,ha];exact ih a (by rw[ha];exact .head _) hb (!c)
   rw[if_neg h5,if_neg h5];by_cases h6:f.op=6\/f.op=7
   .obtain⟨a,b,ha,hb1,hb2⟩:=Fh h h6
    rw[if_pos h6,if_pos h6,ha];simp only[EW,List.map_nil,List.getD_cons_zero,List.getD_cons_succ];obtain⟨i1,i2⟩:=ih a (by rw[ha];exact .head _) hb1 c;obtain⟨j1,j2⟩:=ih b (by rw[ha];exact .tail _ (.head _)) hb2 c;have p1:=jT a hb1;have p2:=jT b hb2;split
    .refine⟨?_,fun l hl=>?_⟩
     .rw[SB]
      have:=pA p1 p2;omega
     .rcases D9.1 hl with hl|hl
      .have:=i2 l hl;omega
      .have:=j2 l hl;omega
    .refine⟨?_,fun l hl=>?_⟩
     .rw[dx,Nat.pow_add]
      exact Nat.mul_le_mul i1 j1
     .simp only[Fo,List.mem_flatMap,Hp]at hl
      obtain⟨x,hx,y,hy,rfl⟩:=hl;have:=TR x y;have:=i2 x hx;have:=j2 y hy;omega
   .rw[if_neg h6,if_neg h6]
    cases c
    .exact⟨by simp,fun l hl=>by simp at hl;subst hl;simp⟩
    .exact⟨by simp,fun l hl=>by simp at hl;subst hl;simp⟩
def uY (f:Fact):arity f=true->2*lv f<=NN f+1:=by
 induction f using Fact.ind with
 | h f ih=>
   intro h;rw[Kt,ct,LK];by_cases h5:f.op=5
   .obtain⟨a,ha,hb⟩:=Fi h h5
    rw[if_pos h5,ha];have:=ih a (by rw[ha];exact .head _) hb;simp only[EW,List.map_nil,List.getD_cons_zero,List.sum_cons,List.sum_nil];omega
   rw[if_neg h5];by_cases h6:f.op=6\/f.op=7
   .obtain⟨a,b,ha,hb1,hb2⟩:=Fh h h6
    rw[if_pos h6,ha];have:=ih a (by rw[ha];exact .head _) hb1;have:=ih b (by rw[ha];exact .tail _ (.head _)) hb2;simp only[EW,List.map_nil,List.getD_cons_zero,List.getD_cons_succ,List.sum_cons,List.sum_nil];omega
   .rw[if_neg h6]
    omega
def DY (w:AF) (x:Fact):Prop:= ∃g,BN w g=true/\Bl g=true/\(x=g\/x=Ez g)
def Ff {g:Fact} (h:Bl g=true):g.op=2\/g.op=3\/g.op=4:=by
 simp only[Bl,Ea,Cd]at h;omega
def D7 {w : AF} (f:Fact):BN w f=true-> ∀c,∀l∈Be f c,∀x∈l,DY w x:=by
 induction f using Fact.ind with
 | h f ih=>
   intro h c;have har:=B7 f h;have h':=h;rw[By,A0,DJ]at h';rw[FW,Hf];by_cases h1:f.op=1
   .rw[if_pos h1]
    cases c
    .rw[if_neg (by decide)]
     intro l hl x hx;simp at hl;subst hl;cases hx
    .rw[if_pos rfl]
     intro l hl;cases hl
   rw[if_neg h1];by_cases h5:f.op=5
   .obtain⟨a,ha,hb⟩:=Fi har h5
    rw[if_pos h5,ha];exact ih a (by rw[ha];exact .head _) (h'.2 a (by rw[ha];exact .head _)) (!c)
   rw[if_neg h5];by_cases h6:f.op=6\/f.op=7
   .obtain⟨a,b,ha,hb1,hb2⟩:=Fh har h6
    rw[if_pos h6,ha];have i1:=ih a (by rw[ha];exact .head _) (h'.2 a (by rw[ha];exact .head _)) c;have j1:=ih b (by rw[ha];exact .tail _ (.head _)) (h'.2 b (by rw[ha];exact .tail _ (.head _))) c;simp only[EW,List.map_nil,List.getD_cons_zero,List.getD_cons_succ];split
    .intro l hl
     rcases D9.1 hl with hl|hl
     .exact i1 l hl
     .exact j1 l hl
    .intro l hl x hx
     simp only[Fo,List.mem_flatMap,Hp]at hl;obtain⟨y,hy,z,hz,rfl⟩:=hl;rcases TQ _ _ _ hx with h|h
     .exact i1 y hy x h
     .exact j1 z hz x h
   .rw [if_neg h6]
    have hlf:Bl f=true:=by
     have ho:VY w f=true:=by
      have:=h'.1;simp only[C8,A0]at this;exact this.1
     simp only[Bl,Ea,Cd];unfold VY at ho;split at ho
     .omega
     .split at ho
      .omega
      .simp only[Ea,Cd]at ho
       omega
    cases c
    .rw[if_neg (by decide)]
     intro l hl x hx;simp at hl;subst hl;simp at hx;subst hx;exact⟨x,h,hlf,.inl rfl⟩
    .rw[if_pos rfl]
     intro l hl x hx;simp at hl;subst hl;simp at hx;subst hx;exact⟨f,h,hlf,.inr rfl⟩
def IF {w:AF} {x:Fact} (h:DY w x):sD x/\BN w (Ah x).1=true/\Bl (Ah x).1=true:=by
 obtain⟨g,hn,hl,rfl|rfl⟩:=h
 .have:=Ff hl
  have h5: ¬x.op=5:=by omega
  exact⟨fun e=>absurd e h5,by simp only[Ah,if_neg h5];exact⟨hn,hl⟩⟩
 .exact⟨fun _ e=>(by cases e),hn,hl⟩
def Mk {w:AF} {l:List Fact} (h: ∀x∈l,DY w x):(∀x∈l,sD x)/\ABX w l/\Yk l/\jD l 2:=by
 refine⟨fun x hx=>(IF (h x hx)).1,fun x hx h2=>?_,fun x hx=>?_,fun x hx=>?_⟩
 all_goals
  obtain⟨-,hn,hl⟩:=IF (h x hx);have hlo:=Ff hl;generalize (Ah x).1=g at *;rw[By,A0]at hn;have hn:=hn.1;simp only[C8,A0]at hn;obtain⟨ho,-,-,-,hp,-⟩:=hn
 .unfold VY at ho
  rw[if_pos h2]at ho;simp only[P3,A0,CC]at ho;exact ho.2
 .unfold VY at ho
  split at ho
  .simp only[A0,Cd]at ho
   omega
  .split at ho
   .simp only[A0,CC]at ho
    omega
   .omega
 .simp only[Eo,A0,CC]at hp
  omega
def YU (w:AF) (f:Fact):Bool:=(Be f false).any (HR w)
def Vn (w:AF) (a b:Fact):Bool:= !YU w (SU a (Ez b))
def uX (a b:Fact):lv (SU a (Ez b))=lv a+lv b:=by
 rw[Kt];simp only[ct,SU,Fact.op,Fact.kids,EW,List.map_nil,List.getD_cons_zero,List.getD_cons_succ];rw[Kt (Ez b)];simp[ct,Ez,Fact.op,Fact.kids]
def W6 {w:AF} {a b:Fact} (ha:BN w a=true) (hb:BN w b=true):BN w (SU a (Ez b))=true:=by
 have hnb:BN w (Ez b)=true:=by
  rw[By];simp[Ez,C8,VY,Fact.op,Fact.kids,Fact.arg,Fact.path,Fact.cls,Fact.n,CE,Eo,Bl,hb]
 rw[By];simp[SU,C8,VY,Fact.op,Fact.kids,Fact.arg,Fact.path,Fact.cls,Fact.n,CE,Eo,Bl,ha,hnb]
def Wu {p:Prog}: ∀ {ms:List Na} {s:List Int},(runM p ms s).isSome=true-> ∀m∈ms,Pt p m=true
 | [],_,_,_,h=>by cases h
 | m ::r,s,h,x,hx=>by
   rw[runM]at h;split at h
   .rename_i hok
    split at h
    .cases h
    .rcases Fl.1 hx with rfl|hx
     .exact hok
     .exact Wu h x hx
   .cases h
def EF {p:Prog} (h:(BQ p).isSome=true):C2 p=true/\ ∀m∈p.methods,Pt p m=true:=by
 unfold BQ at h;split at h
 .rename_i hh
  refine⟨hh,?_⟩;split at h
  .cases h
  .rename_i s hs
   exact Wu (by rw[hs];rfl)
 .cases h
structure E3 (p:Prog):Prop where
 nY:GP (AK p)
 AH:Br p.AO<=Ae
 AAm:p.AO.length<=1000
 facts: ∀m∈p.methods,BN (AK p) m.fact=true/\lv m.fact<=12
 many:p.methods.length<=16
def look_ok {p:Prog} (h:(BQ p).isSome=true):E3 p:=by
 obtain⟨hh,hm⟩:=EF h;simp only[C2,A0,CC]at hh;have hc:=hh.1;simp only[A7,A0,CC]at hc;have hM:=Mx;refine⟨Q9 hc.1 hc.2.1 hc.2.2.2.1,by have:=(FT _ _ hc.2.1).1;omega,by have:=hc.1;omega,fun m h=>?_,hh.2.2.1⟩;have:=hm m h;simp only[Pt,Ct,A0,CC]at this;have hn:=this.2.2.2.2.1.2.2;refine⟨hn,?_⟩;have hcn:=La m.fact 24 (by omega) this.2.2.2.2.1.1;have:=uY m.fact (B7 _ hn);omega
def Bb (p:Prog) (m:Int):Bool:=decide (0<=m)&&decide (m<(p.methods.length:Int))
def BO (p:Prog) (m:Int):Na:=p.methods.getD m.toNat default
def CX {p:Prog} {m:Int} (h:Bb p m=true):p.methods[m.toNat]? =some (BO p m):=by
 simp only[Bb,A0,CC]at h;rw[BO,C6,DC (by omega)];rfl
def LO (p:Prog) (m n:Int):Bool:=(BO p m).gen==(BO p n).gen&&(BO p m).kind==(BO p n).kind
def Kk (p:Prog) (m n:Int):Bool:=Vn (AK p) (BO p m).fact (BO p n).fact
def Au (p:Prog) (m n:Int):Bool:=Kk p m n&& !Kk p n m
def QS {xs:List Int} {f:Bool} (h:FO (.l (iL xs) f)):xs.length<=Ae:=Sl h
def l8:Pure zP 283 [.b true] (.t []):=by
 refine jq kZ ?_;have hs:=Sn;exact zW
abbrev D3:V:= .FF 377 (.a [])
def gw (xs:List Int) (x:Int):Int:=(Bj (fun y (_:Unit)=>(x==y,())) xs 0 ()).1
def Ms {α:Type} (f:α->Bool): ∀(xs:List α) (k:Nat),(decide ((Bj (fun y (_:Unit)=>(f y,())) xs k ()).1≥0))=xs.any f
 | [],_=>rfl
 | y::r,k=>by
   simp only[Bj,SA];cases f y
   .simpa using Ms f r (k+1)
   .simp
def VS (xs:List Int) (x:Int):xs.any (x== ·)=xs.contains x:=by
 induction xs with
 | nil=>rfl
 | cons y r ih=>rw[SA,List.contains_cons,ih]
def qD (xs:List Int) (x:Int):decide (gw xs x≥0)=xs.contains x:=by
 rw[<-VS];exact Ms (x== ·) xs 0
def XC (xs:List Int) (f:Bool) (x:Int):Pure zP 96 [.l (iL xs) f,eI x] (eI (gw xs x)):=by
 refine Pure.fit (by kernel_rfl) fun hf=>?_
 have hxl:=QS hf.1;have hM:=Mx;refine ABC kZ ?_;have hs:=Sn;refine zv ?_;(repeat clear U K);repeat intro K U
 refine CZ xs.length (fun k (_:Unit)=>[(8,eI (BL k))]) (fun _ _=>[]) (fun k _=>gw xs x=(Bj (fun y (_:Unit)=>(x==y,())) (xs.drop k) k ()).1) () rfl rfl hs ?_;clear hs;rintro k - Z hk hn hs;have hck:BL k=k:=Ag (by omega);rcases BF xs hk with⟨y,hy,hlt⟩|hke
 .rw[drop_cons hy,Bj]at hn
  conv=>whnf
  repeat'((first|clear U K|apply st|(apply zk;intro K U)|refine zX ?_|refine za (fun hc=>?_) fun hc=>?_|fail)<;>conv=>whnf)
  .exact AG (by rw[hn,hc,hck];simp)
  .exact⟨hlt,(),rfl,by rw[hn];simp[hc],hs⟩
 .rw[Ao hke,Bj]at hn
  refine zv ?_;(repeat clear U K);repeat intro K U
  exact AG (by rw[hn])
def Cr (xs:List Int) (f:Bool) (x:Int):Pure zP 34 [.l (iL xs) f,eI x] (.b (xs.contains x)):=by
 refine ABU kZ ?_;have hs:=Sn
 conv=>whnf
 repeat'((first|clear U K|apply st|(apply zk;intro K U)|refine zX ?_|refine Pure.use (XC _ _ _) ?_|fail)<;>conv=>whnf)
 all_goals exact AG (by rw[<-qD])
def R2 (n:Int):Pure zP 326 [eI n] (.b (UH n)):=by
 refine vr kZ ?_;have hs:=Sn
 conv=>whnf
 repeat'((first|clear U K|apply st|(apply zk;intro K U)|refine zX ?_|refine za (fun hc=>?_) fun hc=>?_|fail)<;>conv=>whnf)
 all_goals exact AG (by simp[UH, *]<;>omega)
def Ml (f:Fact):Bl f=(decide (2<=f.op)&&decide (f.op<=4)):=by
 rw[G3];simp only[Bl,Ea,A0,Cd,CC];omega
def Pa (f:Fact):Pure zP 180 [.a (xF f)] (.b (Bl f)):=by
 refine yA kZ ?_;have hs:=Sn
 conv=>whnf
 repeat'((first|clear U K|apply st|(apply zk;intro K U)|refine zX ?_|refine za (fun hc=>?_) fun hc=>?_|fail)<;>conv=>whnf)
 all_goals exact AG (by rw[Ml];simp[*]<;>omega)
def aY (s c:Nat) (hs0:s<18446744073709551616) (hc:c<64):Pure zP 245 [eU s,eI c] (eU (s|||2 ^ c)):=by
 refine xN kZ ?_;have hs:=Sn
 conv=>whnf
 repeat'((first|clear U K|apply st|(apply zk;intro K U)|fail)<;>conv=>whnf)
 refine⟨Int.natCast_nonneg _,?_⟩;refine zv ?_;(repeat clear U K);repeat intro K U
 exact AG (by rw[HP,Uq hc,HG hs0 (Gc hc)])
def QO (s c:Nat) (hs0:s<18446744073709551616) (hc:c<64):Pure zP 182 [eU s,eI c] (.b (s.testBit c)):=by
 refine x8 kZ ?_;have hs:=Sn
 conv=>whnf
 repeat'((first|clear U K|apply st|(apply zk;intro K U)|fail)<;>conv=>whnf)
 refine⟨Int.natCast_nonneg _,?_⟩;refine zv ?_;(repeat clear U K);repeat intro K U
 refine AG ?_;rw[HP,Up hc];have h1:s >>> c<18446744073709551616:=by rw[Nat.shiftRight_eq_div_pow];exact Nat.lt_of_le_of_lt (Nat.div_le_self _ _) hs0
 have h2:bits .and .u64 ((s >>> c:Nat):Int) 1=((s >>> c&&&1:Nat):Int):=Fw h1 (show 1<_ by decide);rw[h2];simp only[Nat.testBit,Nat.and_comm 1];congr 1;rcases Nat.mod_two_eq_zero_or_one (s >>> c)with h|h<;>simp[Nat.and_one_is_mod,h]
def py (op:Int):Pure zP 303 [eI op] (eI (CE op)):=by
 refine wO kZ ?_;have hs:=Sn
 conv=>whnf
 repeat'((first|clear U K|apply st|(apply zk;intro K U)|refine zX ?_|refine za (fun hc=>?_) fun hc=>?_|fail)<;>conv=>whnf)
 all_goals exact AG (by simp[CE, *])
def ZL (b:Bool):Pure zP 218 [.b b] (eI (if b then 0 else 2)):=by
 refine xf kZ ?_;have hs:=Sn
 conv=>whnf
 repeat'((first|clear U K|apply st|(apply zk;intro K U)|refine za (fun hc=>?_) fun hc=>?_|fail)<;>conv=>whnf)
 all_goals exact AG (by simp[*])
def I5 {S:Type} (g:FuncId) (fi ca:List V) (H:S->List At) (stp:Int->S->Bool×S) (D:Int->S->Prop) (hx:DL zP (.f (.func g) fi ca) eI H stp D) (xs:List Int) (f:Bool) (s0:S) (hd:YO stp D xs s0) :
    BS zP 117 [.l (iL xs) f,.f (.func g) fi ca] (H s0) fun r post=>r= .ret (eI (Bj stp xs 0 s0).1)/\post=H (Bj stp xs 0 s0).2:=by
 intro Z hs;refine Ar.fit (by kernel_rfl) fun hf=>?_
 have hxl:=QS hf.1;have hM:=Mx;refine kE kZ ?_;refine zv ?_;(repeat clear U K);repeat intro K U
 refine CZ xs.length (fun k (_:S)=>[(8,eI (BL k))]) (fun _ s=>H s) (fun k s=>YO stp D (xs.drop k) s/\Bj stp xs 0 s0=Bj stp (xs.drop k) k s) s0 rfl ⟨hd,rfl⟩ hs ?_;clear hs;rintro k s Z hk ⟨hd,hn⟩ hs;have hck:BL k=k:=Ag (by omega);rcases BF xs hk with⟨y,hy,hlt⟩|hke
 .rw[drop_cons hy]at hn hd
  obtain⟨hd1,hd2⟩:=hd;rw[Bj]at hn;refine zv ?_;(repeat clear U K);repeat intro K U
  refine hx.use hd1 hs ?_;clear hs;intro Z hs
  conv=>whnf
  repeat'((first|clear U K|apply st|(apply zk;intro K U)|refine zX ?_|refine za (fun hc=>?_) fun hc=>?_|fail)<;>conv=>whnf)
  .rw[hc,if_pos rfl]at hn
   rw[hn];exact Aw hs (List.Sublist.refl _) (by rw[hck];exact .refl _) fun Z' hs'=>⟨_,⟨rfl,rfl⟩,hs'⟩
  .rw[hc,if_neg (by decide)]at hn
   exact⟨hlt,_,rfl,⟨hd2,hn⟩,hs⟩
 .rw[Ao hke,Bj]at hn
  refine zv ?_;(repeat clear U K);repeat intro K U
  rw[hn];exact Aw hs (List.Sublist.refl _) (.refl _) fun Z' hs'=>⟨_,⟨rfl,rfl⟩,hs'⟩
section
variable {S:Type} (g:FuncId) (fi ca:List V) (H:S->List At)
def Gr (stp:Int->S->Bool×S) (D:Int->S->Prop) (hx:DL zP (.f (.func g) fi ca) eI H stp D) (xs:List Int) (f:Bool) (s0:S) (hd:YO stp D xs s0) :
    BS zP 49 [.l (iL xs) f,.f (.func g) fi ca] (H s0) fun r post=>r= .ret (.b (decide ((Bj stp xs 0 s0).1≥0)))/\post=H (Bj stp xs 0 s0).2:=by
 intro Z hs;refine sT kZ ?_
 conv=>whnf
 repeat'((first|clear U K|apply st|(apply zk;intro K U)|fail)<;>conv=>whnf)
 refine(I5 g fi ca H stp D hx xs f s0 hd).use (rest:=[]) (by simpa using hs) ?_;rintro r post Z ⟨rfl,rfl⟩ hs;refine zv ?_;(repeat clear U K);repeat intro K U
 exact Aw hs (by simp) (.refl _) fun Z' hs'=>⟨_,⟨rfl,rfl⟩,hs'⟩
def uU (stp:Int->S->Bool×S) (D:Int->S->Prop) (hx:DL zP (.f (.func g) fi ca) eI H stp D):DL zP (.f (.func 301) [] [.rp [.f (.func g) fi ca]]) eI H (fun y s=>(!(stp y s).1,(stp y s).2)) D:=by
 intro y s hd Z hs;refine BA ?_;show Ar zP 301 ([]++[eI y]++[.rp [.f (.func g) fi ca]]) Z _;refine jo kZ ?_;refine zv ?_;(repeat clear U K);repeat intro K U
 refine hx.use hd hs ?_;clear hs;intro Z hs;refine zv ?_;(repeat clear U K);repeat intro K U
 exact Aw hs (List.Sublist.refl _) (.refl _) fun Z' hs'=>⟨rfl,hs'⟩
def kQ (stp:Int->S->Bool×S) (D:Int->S->Prop) (hx:DL zP (.f (.func g) fi ca) eI H stp D) (xs:List Int) (f:Bool) (s0:S) (hd:YO stp D xs s0) :
    BS zP 246 [.l (iL xs) f,.f (.func g) fi ca] (H s0) fun r post=>r= .ret (.b (CL stp xs s0).1)/\post=H (CL stp xs s0).2:=by
 intro Z hs;obtain⟨e1,e2⟩:=OF (stp:=stp) xs 0 s0;refine ju kZ ?_
 conv=>whnf
 repeat'((first|clear U K|apply st|(apply zk;intro K U)|fail)<;>conv=>whnf)
 refine(Gr 301 [] [.rp [.f (.func g) fi ca]] H _ D (uU g fi ca H stp D hx) xs f s0 (Ut xs s0 hd)).use (rest:=[]) (by simpa using hs) ?_;rintro r post Z ⟨rfl,rfl⟩ hs;rw[e2];rw[e1]at hs;refine zv ?_;(repeat clear U K);repeat intro K U
 exact Aw hs (by simp) (by rw[Bool.not_not];exact .refl _) fun Z' hs'=>⟨_,⟨rfl,rfl⟩,hs'⟩
def VN (stp:Fact->S->Bool×S) (D:Fact->S->Prop) (hx:DL zP (.f (.func g) fi ca) (fun y=> .a (xF y)) H stp D) (xs:List Fact) (f:Bool) (s0:S) (hxl:xs.length<=Ae) (hd:YO stp D xs s0) :
    BS zP 330 [.l (facts xs) f,.f (.func g) fi ca] (H s0) fun r post=>r= .ret (eI (Bj stp xs 0 s0).1)/\post=H (Bj stp xs 0 s0).2:=by
 intro Z hs;have hM:=Mx;refine vj kZ ?_;refine zv ?_;(repeat clear U K);repeat intro K U
 refine CZ xs.length (fun k (_:S)=>[(8,eI (BL k))]) (fun _ s=>H s) (fun k s=>YO stp D (xs.drop k) s/\Bj stp xs 0 s0=Bj stp (xs.drop k) k s) s0 rfl ⟨hd,rfl⟩ hs ?_;clear hs;rintro k s Z hk ⟨hd,hn⟩ hs;have hck:BL k=k:=Ag (by omega);rcases BF xs hk with⟨y,hy,hlt⟩|hke
 .rw[drop_cons hy]at hn hd
  obtain⟨hd1,hd2⟩:=hd;rw[Bj]at hn;refine zv ?_;(repeat clear U K);repeat intro K U
  refine hx.use hd1 hs ?_;clear hs;intro Z hs
  conv=>whnf
  repeat'((first|clear U K|apply st|(apply zk;intro K U)|refine zX ?_|refine za (fun hc=>?_) fun hc=>?_|fail)<;>conv=>whnf)
  .rw[hc,if_pos rfl]at hn
   rw[hn];exact Aw hs (List.Sublist.refl _) (by rw[hck];exact .refl _) fun Z' hs'=>⟨_,⟨rfl,rfl⟩,hs'⟩
  .rw[hc,if_neg (by decide)]at hn
   exact⟨hlt,_,rfl,⟨hd2,hn⟩,hs⟩
 .rw[Ao hke,Bj]at hn
  refine zv ?_;(repeat clear U K);repeat intro K U
  rw[hn];exact Aw hs (List.Sublist.refl _) (.refl _) fun Z' hs'=>⟨_,⟨rfl,rfl⟩,hs'⟩
def PK (stp:Fact->S->Bool×S) (D:Fact->S->Prop) (hx:DL zP (.f (.func g) fi ca) (fun y=> .a (xF y)) H stp D) (xs:List Fact) (f:Bool) (s0:S) (hxl:xs.length<=Ae) (hd:YO stp D xs s0) :
    BS zP 291 [.l (facts xs) f,.f (.func g) fi ca] (H s0) fun r post=>r= .ret (.b (decide ((Bj stp xs 0 s0).1≥0)))/\post=H (Bj stp xs 0 s0).2:=by
 intro Z hs;refine wV kZ ?_
 conv=>whnf
 repeat'((first|clear U K|apply st|(apply zk;intro K U)|fail)<;>conv=>whnf)
 refine(VN g fi ca H stp D hx xs f s0 hxl hd).use (rest:=[]) (by simpa using hs) ?_;rintro r post Z ⟨rfl,rfl⟩ hs;refine zv ?_;(repeat clear U K);repeat intro K U
 exact Aw hs (by simp) (.refl _) fun Z' hs'=>⟨_,⟨rfl,rfl⟩,hs'⟩
def uT (stp:Fact->S->Bool×S) (D:Fact->S->Prop) (hx:DL zP (.f (.func g) fi ca) (fun y=> .a (xF y)) H stp D):DL zP (.f (.func 302) [] [.rp [.f (.func g) fi ca]]) (fun y=> .a (xF y)) H (fun y s=>(!(stp y s).1,(stp y s).2)) D:=by
 intro y s hd Z hs;refine BA ?_;show Ar zP 302 ([]++[.a (xF y)]++[.rp [.f (.func g) fi ca]]) Z _;refine wP kZ ?_;refine zv ?_;(repeat clear U K);repeat intro K U
 refine hx.use hd hs ?_;clear hs;intro Z hs;refine zv ?_;(repeat clear U K);repeat intro K U
 exact Aw hs (List.Sublist.refl _) (.refl _) fun Z' hs'=>⟨rfl,hs'⟩
def kP (stp:Fact->S->Bool×S) (D:Fact->S->Prop) (hx:DL zP (.f (.func g) fi ca) (fun y=> .a (xF y)) H stp D) (xs:List Fact) (f:Bool) (s0:S) (hxl:xs.length<=Ae) (hd:YO stp D xs s0) :
    BS zP 248 [.l (facts xs) f,.f (.func g) fi ca] (H s0) fun r post=>r= .ret (.b (CL stp xs s0).1)/\post=H (CL stp xs s0).2:=by
 intro Z hs;obtain⟨e1,e2⟩:=OF (stp:=stp) xs 0 s0;refine xM kZ ?_
 conv=>whnf
 repeat'((first|clear U K|apply st|(apply zk;intro K U)|fail)<;>conv=>whnf)
 refine(PK 302 [] [.rp [.f (.func g) fi ca]] H _ D (uT g fi ca H stp D hx) xs f s0 hxl (Ut xs s0 hd)).use (rest:=[]) (by simpa using hs) ?_;rintro r post Z ⟨rfl,rfl⟩ hs;rw[e2];rw[e1]at hs;refine zv ?_;(repeat clear U K);repeat intro K U
 exact Aw hs (by simp) (by rw[Bool.not_not];exact .refl _) fun Z' hs'=>⟨_,⟨rfl,rfl⟩,hs'⟩
end
abbrev V8 (f:Int->Bool):Int->Unit->Bool×Unit:=fun y _=>(f y,())
def RG {g:FuncId} {fi ca:List V} {f:Int->Bool} {D:Int->Unit->Prop} (h: ∀y,D y ()->Pure zP g (fi++[eI y]++ca) (.b (f y))):DL zP (.f (.func g) fi ca) eI (fun _=>[]) (V8 f) D:=by
 intro y s hd Z hs;refine BA ?_;show Ar zP g (fi++[eI y]++ca) Z _;refine Ar.mono ((h y hd).use (k:=fun v Z'=>v= .b (f y)/\Sat Z' []) (kp:=fun _ _=>False) ⟨rfl,Sat.nil⟩) ?_;rintro(v|v) Z' hq
 .obtain⟨rfl,h⟩:=hq
  exact⟨rfl,h⟩
 .exact hq.elim
def rU {g:FuncId} {fi ca:List V} {f:Int->Bool} {xs:List Int} (b:Bool) (h: ∀y∈xs,Pure zP g (fi++[eI y]++ca) (.b (f y))):Pure zP 246 [.l (iL xs) b,.f (.func g) fi ca] (.b (xs.all f)):=by
 have:=kQ g fi ca (fun _=>[]) (V8 f) (fun y _=>y∈xs) (RG fun y hy=>h y hy) xs b () (Ha fun y hy _=>hy);rw[Kg]at this;exact Pure.of (Ar.mono (this emp Sat.nil) fun r Z' ⟨post,⟨h1,h2⟩,h3⟩=>h1)
def WW (g:FuncId) (fi ca:List V) (f:Int->Bool):Prop:= ∀y:Int,Pure zP g (fi++[eI y]++ca) (.b (f y))
def WW.use {g:FuncId} {fi ca:List V} {f:Int->Bool} (h:WW g fi ca f) {y:Int} {Z:AE} {k kp:V->AE->Prop} (hk:k (.b (f y)) Z):Am zP (.f (.func g) fi ca) [eI y] Z (qk k kp):=BA ((h y).use hk)
def qC (g:FuncId) (fi ca:List V) (L:List At) (p:Int->Bool) (hx:DL zP (.f (.func g) fi ca) eI (fun _:Unit=>L) (V8 p) (fun _ _=>True)) (xs:List Int) (f:Bool):BS zP 380 [.l (iL xs) f,.f (.func g) fi ca] L fun r post=>r= .ret (.l (iL (xs.filter p)) false)/\post=L:=by
 intro Z hs;refine Ar.fit (by kernel_rfl) fun hf=>?_
 have hxl:=QS hf.1;have hM:=Mx;refine jm kZ ?_;refine zv ?_;(repeat clear U K);repeat intro K U
 refine CZ xs.length (fun k v=>[(5,v),(10,eI (BL k))]) (fun k v=>L++[.own v 1 (iL ((xs.take k).filter p))]) (fun _ _=>True) (.l [] true) rfl trivial (Gy hs 1) ?_;clear hs;rintro k v Z hk - hs;have hfl:=Pr p (xs.take k);rw[Lq]at hfl;rcases BF xs hk with⟨y,hy,hlt⟩|hke
 .have hst:(xs.take (k+1)).filter p=if p y then(xs.take k).filter p++[y]else(xs.take k).filter p:=by
   rw[AU hy,List.filter_append];cases hp:p y<;>simp[hp]
  generalize (xs.take k).filter p=zs at *
  conv=>whnf
  repeat'((first|clear U K|apply st|(apply zk;intro K U)|refine zX ?_|refine hx.useF (s:=()) (rest:=[_]) trivial hs (fun Z hs=>?_)|(refine zd (fun hc=>?_) (fun hc=>?_)<;>try exact⟨⟩)|fail)<;>conv=>whnf)
  .refine Iz (GY hs L.length (xs:=zs) (x:=y) List.getElem?_concat_length (by omega) C0 fun v' Z' hs' hsl=>?_)
   rw[List.set_append_right _ _ (Ia _),Nat.sub_self]at hs';replace hs:=hs';refine zv ?_;(repeat clear U K);repeat intro K U
   rw[if_pos (by assumption)]at hst;exact⟨hlt,_,rfl,trivial,by rw[hst];exact hs⟩
  .rw[if_neg (by simp[*])]at hst
   exact⟨hlt,_,rfl,trivial,by rw[hst];exact hs⟩
 .refine zv ?_;(repeat clear U K);repeat intro K U
  rw[BC hke]at hs;obtain⟨Z2,h1,h2,h3⟩:=JC hs L.length List.getElem?_concat_length;refine Is h1 h2 ⟨_,⟨rfl,rfl⟩,?_⟩;rw[List.eraseIdx_append_of_length_le (Ia _),Nat.sub_self]at h3;simpa using h3
def mK (g:FuncId) (fi ca:List V) (p:Int->Bool) (hpf:WW g fi ca p) (xs:List Int) (u:V) (hxl:xs.length<=Ae):BS zP 380 [u,.f (.func g) fi ca] [.own u 1 (iL xs)] fun r post=>r= .ret (.l (iL (xs.filter p)) false)/\post= [.own u 1 (iL xs)]:=by
 intro Z hs;have hM:=Mx;refine jm kZ ?_;refine zv ?_;(repeat clear U K);repeat intro K U
 refine CZ xs.length (fun k v=>[(5,v),(10,eI (BL k))]) (fun k v=>[.own u 1 (iL xs),.own v 1 (iL ((xs.take k).filter p))]) (fun _ _=>True) (.l [] true) rfl trivial (Gy hs 1) ?_;clear hs;rintro k v Z hk - hs;have hfl:=Pr p (xs.take k);rw[Lq]at hfl;rcases BF xs hk with⟨y,hy,hlt⟩|hke
 .have hst:(xs.take (k+1)).filter p=if p y then(xs.take k).filter p++[y]else(xs.take k).filter p:=by
   rw[AU hy,List.filter_append];cases hp:p y<;>simp[hp]
  generalize (xs.take k).filter p=zs at *
  conv=>whnf
  repeat'((first|clear U K|apply st|(apply zk;intro K U)|refine zX ?_|refine aq fun v Z hs hsl=>?_|refine WW.use hpf ?_|refine za (fun hc=>?_) fun hc=>?_|fail)<;>conv=>whnf)
  .rw[if_pos (by assumption)]at hst
   exact⟨hlt,_,rfl,trivial,by rw[hst];exact hs.take 2⟩
  .rw[if_neg (by simp[*])]at hst
   exact⟨hlt,_,rfl,trivial,by rw[hst];exact hs.take 2⟩
 .refine zv ?_;(repeat clear U K);repeat intro K U
  rw[BC hke]at hs;obtain⟨Z2,h1,h2,h3⟩:=JC hs 1 rfl;exact Is h1 h2 ⟨_,⟨rfl,rfl⟩,h3⟩
def AAi:WW 382 [] [] (· != 0):=by
 intro y;refine vH kZ ?_;have hs:=Sn;exact zW
def nD (xs:List Int) (u:V) (hxl:xs.length<=Ae):BS zP 379 [u] [.own u 1 (iL xs)] fun r post=>r= .ret (.l (iL (xs.filter (· != 0))) false)/\post= [.own u 1 (iL xs)]:=by
 intro Z hs;refine vJ kZ ?_
 conv=>whnf
 repeat'((first|clear U K|apply st|(apply zk;intro K U)|fail)<;>conv=>whnf)
 refine(mK 382 [] [] (· != 0) AAi xs u hxl).use (rest:=[]) hs ?_;clear hs;rintro r post Z ⟨rfl,rfl⟩ hs;refine zv ?_;(repeat clear U K);repeat intro K U
 exact Aw hs (by simp) (.refl _) fun Z' hs'=>⟨_,⟨rfl,rfl⟩,hs'⟩
def br (g : List (List Int)) (f:Bool):Pure zP 352 [.l (En g) f] (.b (Dy g)):=by
 refine Pure.fit (by kernel_rfl) fun hf=>?_
 have⟨g1,g2⟩:=Yu hf.1;have hM:=Mx;refine vT kZ ?_;have hs:=Sn;by_cases h16:g.length<=16
 .conv=>whnf
  repeat'((first|clear U K|apply st|(apply zk;intro K U)|refine zX ?_|(refine zb (fun hc=>?_) (fun hc=>?_)<;>try exact⟨⟩)|fail)<;>conv=>whnf)
  all_goals try(exfalso;omega)
  refine CZ g.length (fun k (_:Unit)=>[(12,eI (BL k))]) (fun _ _=>[]) (fun k _=>Dy g=I7 k (g.drop k)) () rfl (by simp[Dy,h16]) hs ?_;clear hs;rintro k - Z hk hn hs;have hck:BL k=k:=Ag (by omega);rcases BF g hk with⟨l,hl,hlt⟩|hke
  .have hll:=g2 l (CY hl)
   rw[drop_cons hl,I7]at hn;by_cases h3:l.length<=3
   .rw[decide_eq_true h3,Cm]at hn
    conv=>whnf
    repeat'((first|clear U K|apply st|(apply zk;intro K U)|refine zX ?_|(refine zb (fun hc=>?_) (fun hc=>?_)<;>try exact⟨⟩)|fail)<;>conv=>whnf)
    all_goals try(exfalso;omega)
    refine CZ l.length (fun j (_:Unit)=>[(22,eI (BL j))]) (fun _ _=>[]) (fun j _=>Dy g=(NX k (l.take j) (l.drop j)&&I7 (k+1) (g.drop (k+1)))) () rfl hn hs ?_;clear hs hn;rintro j - Z hj hn hs;rcases BF l hj with⟨c,hc0,hjlt⟩|hje
    .rw[drop_cons hc0,NX,sr]at hn
     have hw:IntKind.i64.wrap (3+BL k)=3+(k:Int):=by rw[hck,wrap64 (by omega) (by omega)]
     conv=>whnf
     repeat'((first|clear U K|apply st|(apply zk;intro K U)|refine zX ?_|refine Pure.use (Cr _ _ _) ?_|(refine zd (fun hc=>?_) (fun hc=>?_)<;>try exact⟨⟩)|fail)<;>conv=>whnf)
     .exact AG (by rw[hn,hc];simp)
     .exact⟨hjlt,(),rfl,by rw[hn,hc,AU hc0];simp[*],hs⟩
     .exact AG (by(rw[hn];have: ¬c<3+(k:Int):=by omega);simp[this])
     .exact AG (by(rw[hn];have: ¬3<=c:=by omega);simp[this])
    .refine zv ?_;(repeat clear U K);repeat intro K U
     exact⟨hlt,(),rfl,by rw[hn,Ao hje];rfl,hs⟩
   .conv=>whnf
    repeat'((first|clear U K|apply st|(apply zk;intro K U)|refine zX ?_|(refine zb (fun hc=>?_) (fun hc=>?_)<;>try exact⟨⟩)|fail)<;>conv=>whnf)
    all_goals try(exfalso;omega)
    exact AG (by rw[hn];simp[h3])
  .refine zv ?_;(repeat clear U K);repeat intro K U
   exact AG (by rw[hn,Ao hke];rfl)
 .conv=>whnf
  repeat'((first|clear U K|apply st|(apply zk;intro K U)|refine zX ?_|(refine zb (fun hc=>?_) (fun hc=>?_)<;>try exact⟨⟩)|fail)<;>conv=>whnf)
  all_goals try(exfalso;omega)
  exact AG (by simp[Dy,h16])
def XX (g:List (List Int)) (f:Bool):Pure zP 323 [.l (En g) f] (eI (if Dy g then 0 else 2)):=by
 refine v7 kZ ?_;have hs:=Sn
 conv=>whnf
 repeat'((first|clear U K|apply st|(apply zk;intro K U)|refine Pure.use (br _ _) ?_|refine za (fun hc=>?_) fun hc=>?_|fail)<;>conv=>whnf)
 all_goals exact AG (by simp[*])
def AAj (n:Nat) (h:Int):DL zP (.f (.func 381) [] [.p n 0]) eI (fun _:Unit=>[.box n [eI h]]) (V8 (· != h)) (fun _ _=>True):=by
 intro y s _ Z hs;refine BA ?_;show Ar zP 381 ([]++[eI y]++[.p n 0]) Z _;refine vI kZ ?_;refine zv ?_;(repeat clear U K);repeat intro K U
 exact Aw hs (List.Sublist.refl _) (.refl _) fun Z' hs'=>⟨rfl,hs'⟩
def fC (ls:List (List Int)):FL ls []=false:=rfl
def Zg (ls:List (List Int)) (x:Int) (r:List Int):FL ls (x::r)=free ls x:=rfl
def fL {α:Type} {p:α->Bool} {xs:List α} {k:Nat} {x:α} (hx:xs[k]? =some x) (h:(xs.take k).find? p=none):(xs.take (k+1)).find? p=if p x then some x else none:=by
 rw[AU hx,List.find?_append,h];simp only[List.find?_cons,List.find?_nil,Option.none_or];cases p x<;>rfl
def fK {α:Type} {p:α->Bool} {xs:List α} {k:Nat} {x:α} (h:(xs.take k).find? p=some x):xs.find? p=some x:=by
 conv=>lhs;rw[<-List.take_append_drop k xs]
 rw[List.find?_append,h];rfl
def bG (ls:List (List Int)):pick ls=(ls.find? (FL ls)).bind List.head? :=rfl
def mB (ls:List (List Int)) (f:Bool) (hok:NS ls) (ht:total ls<Ae):Pure zP 377 [.l (En ls) f] (.t [.l (iL (CM ls).1) false,.b (CM ls).2]):=by
 have hM:=Mx;refine vK kZ ?_;have hs:=Sn;refine zv ?_;(repeat clear U K);repeat intro K U
 refine Gb (fun(x:List (List Int)×Bool×V×List Int)=>total x.1) (fun x=>[(0,.l (En x.1) x.2.1),(4,x.2.2.1)]) (fun x=>[.own x.2.2.1 1 (iL x.2.2.2)])
  (fun x=>NS x.1/\x.2.2.2.length+total x.1<=total ls/\DR (total x.1) x.1 x.2.2.2=CM ls) (ls,f,.l [] true,[]) rfl ⟨hok,by simp,rfl⟩ (Gy hs 1) ?_
 clear hs;rintro⟨ls',f',v,out⟩ Z ⟨hok',hlen,hm⟩ hs;dsimp only at hok' hlen hm hs;dsimp only;have hol:=hok'.1;refine zv ?_;(repeat clear U K);repeat intro K U
 refine CZ ls'.length (fun k (t:Bool)=>[(5,.b t),(16,eI (BL k))]) (fun _ _=>[.own v 1 (iL out)]) (fun k t=>(ls'.take k).find? (FL ls')=none/\t=(ls'.take k).any fun l=> !l.isEmpty) false rfl ⟨rfl,rfl⟩ hs ?_;clear hs;rintro k t Z hk ⟨hfd,hta⟩ hs;rcases BF ls' hk with⟨l,hl,hlt⟩|hke
 .have hfs:=fL (p:=FL ls') hl hfd
  have has:((ls'.take (k+1)).any fun l=> !l.isEmpty)=(t|| !l.isEmpty):=by rw[AU hl,List.any_append,<-hta];simp
  have hb:=hok'.2 _ (CY hl);cases l with
  | nil=>
    have hnl:([]:List Int).length=0:=rfl;rw[fC,if_neg (by decide)]at hfs
    conv=>whnf
    repeat'((first|clear U K|apply st|(apply zk;intro K U)|refine zX ?_|(refine zb (fun hc=>?_) (fun hc=>?_)<;>try exact⟨⟩)|fail)<;>conv=>whnf)
    exact⟨hlt,_,rfl,⟨hfs,by rw[has];simp⟩,hs⟩
  | cons x r=>
    have hx0:(x::r)[Int.toNat 0]? =some x:=rfl;have hnl:(x::r).length=r.length+1:=rfl;rw[Zg]at hfs;simp only[List.isEmpty_cons,Bool.not_false,Bool.or_true]at has
    conv=>whnf
    repeat'((first|clear U K|apply st|(apply zk;intro K U)|refine zX ?_|(refine zb (fun hc=>?_) (fun hc=>?_)<;>try exact⟨⟩)|fail)<;>conv=>whnf)
    refine CZ ls'.length (fun j (_:Unit)=>[(25,eI (BL j))]) (fun _ _=>[.own v 1 (iL out)]) (fun j _=>free ls' x=(ls'.drop j).all fun m=> !(m.drop 1).contains x) () rfl rfl hs ?_;clear hs;rintro j - Z hj hfr hs;rcases BF ls' hj with⟨m,hm0,hjlt⟩|hje
    .have hmb:=(hok'.2 _ (CY hm0)).1
     rw[drop_cons hm0,R8]at hfr;cases m with
     | nil=>
       have hml:([]:List Int).length=0:=rfl
       conv=>whnf
       repeat'((first|clear U K|apply st|(apply zk;intro K U)|refine zX ?_|(refine zb (fun hc=>?_) (fun hc=>?_)<;>try exact⟨⟩)|fail)<;>conv=>whnf)
       exact⟨hjlt,(),rfl,by rw[hfr];rfl,hs⟩
     | cons y s=>
       have hml:(y::s).length=s.length+1:=rfl
       conv=>whnf
       repeat'((first|clear U K|apply st|(apply zk;intro K U)|refine zX ?_|(refine zb (fun hc=>?_) (fun hc=>?_)<;>try exact⟨⟩)|fail)<;>conv=>whnf)
       refine Wp 1 rfl (by omega) (fun _=>rfl) ?_
       conv=>whnf
       repeat'((first|clear U K|apply st|(apply zk;intro K U)|refine zX ?_|refine Pure.use (Cr _ _ _) ?_|refine za (fun hc=>?_) fun hc=>?_|fail)<;>conv=>whnf)
       .rw[hc]at hfr
        have hfr2:free ls' x=false:=by rw[hfr];rfl
        rw[hfr2,if_neg (by decide)]at hfs;exact⟨hlt,true,rfl,⟨hfs,by rw[has]⟩,hs⟩
       .exact⟨hjlt,(),rfl,by rw[hfr,hc];rfl,hs⟩
    .rw[Ao hje]at hfr
     have hgood:free ls' x=true:=hfr;rw[hgood,if_pos rfl]at hfs;have hp:pick ls'=some x:=by rw[bG,fK hfs];rfl
     have htp:=Iu hp
     conv=>whnf
     repeat'((first|clear U K|apply st|(apply zk;intro K U)|refine zX ?_|refine zr fun Z hs=>?_|refine aq fun v Z hs hsl=>?_|refine zp fun nn hnn Z hs=>?_|fail)<;>conv=>whnf)
     have hs2:Sat Z [.own v 1 (iL (out++[x])),.box nn [eI x]]:=hs;refine CZ ls'.length (fun k u=>[(11,u),(50,eI (BL k))]) (fun k u=>[.own v 1 (iL (out++[x])),.box nn [eI x],.own u 1 (En ((ls'.take k).map fun l=>l.filter (· != x)))]) (fun _ _=>True) (.l [] true) rfl trivial (Gy hs2 1) ?_;clear hs hs2;rintro q u Z hq - hs;rcases BF ls' hq with⟨w,hw,hqlt⟩|hqe
     .refine zv ?_;(repeat clear U K);repeat intro K U
      refine(qC 381 [] [.p nn 0] [.box nn [eI x]] (· != x) (AAj nn x) w false).use (rest:=[_,_]) (hs.perm (.swap _ _ _)) ?_;clear hs;rintro rr post Z ⟨rfl,rfl⟩ hs
      conv=>whnf
      repeat'((first|clear U K|apply st|(apply zk;intro K U)|refine zX ?_|refine aq fun v Z hs hsl=>?_|fail)<;>conv=>whnf)
      refine⟨hqlt,_,rfl,trivial,?_⟩;rw[AU hw,VV];exact hs.perm (.swap _ _ _)
     .refine zv ?_;(repeat clear U K);repeat intro K U
      rw[BC hqe]at hs;refine tN hs 2 rfl fun Z' hs'=>?_
      refine zv ?_;(repeat clear U K);repeat intro K U
      refine⟨(ls'.map fun l=>l.filter (· != x),false,v,out++[x]),htp,rfl,⟨hok'.filter x,by simp;omega,?_⟩,hs'.take 1⟩;rw[<-Ot hp];exact hm
 .rw[BC hke]at hfd hta
  have hp:pick ls'=none:=by rw[bG,hfd];rfl
  rw[Re hp]at hm;refine zv ?_;(repeat clear U K);repeat intro K U
  refine BZ ?_;rw[<-hm];refine .t (.cons (hs.HQ 0 rfl) (.cons ?_ .nil));have:(!t)=ls'.all List.isEmpty:=by rw[hta];simp[List.all_eq_not_any_not]
  rw[<-this];exact .refl _
abbrev Ord:=Int×V×List Int
def nq (e:Ord):V×V:=(eI e.1,e.2.1)
def gP (e:Ord):At:= .own e.2.1 1 (iL e.2.2)
abbrev pL (ps:List (List Int×Bool)):List (List V):=ps.map fun p=>[.l (iL p.1) p.2]
abbrev gH (n mm:Nat) (vp vu:V) (ps:List (List Int×Bool)) (us:List Nat) (M:List Ord):List At:=
 .box n [vp,vu,.m mm]:: .own vp 1 (pL ps):: .own vu 1 (us.map fun u=>[eU u]):: .map mm (M.map nq)::M.map gP
def CD (M:List Ord) (c:Int):List Int:=((M.find? fun e=>c==e.1).map fun e=>e.2.2).getD []
def JX (M:List Ord) (c:Int):V:=((M.find? fun e=>c==e.1).map fun e=>e.2.1).getD (.l [] true)
def mI (M:List Ord) (c:Int):found (.l [] true) false (Co (eI c) (M.map nq))=JX M c:=by
 induction M with
 | nil=>rfl
 | cons e r ih=>
   simp only[EW,nq,Co,JX,List.find?_cons]at *;have he:Dz (eI c) (eI e.1)=(c==e.1):=rfl;rw[he];cases c==e.1
   .exact ih
   .rfl
def Yo (M:List Ord): ∀kv∈M.map nq,BV (.i .i64) kv.1=true:=by
 intro kv h;obtain⟨e,_,rfl⟩:=Hp.1 h;rfl
def pj {M:List Ord} {c:Int} (v:V) (l:List Int) (h: ∀e∈M,e.1≠c):Da (eI c) v (M.map nq)=(M++[(c,v,l)]).map nq:=by
 induction M with
 | nil=>rfl
 | cons e r ih=>
   simp only[EW,List.cons_append,nq,Da];have he:Dz (eI c) (eI e.1)=(c==e.1):=rfl;rw[he,beq_false_of_ne (fun e'=>h e (.head _) e'.symm)];simp only[cond_false];rw[ih fun e he=>h e (.tail _ he)]
def Qa (M:List Ord) (c:Int):(CD M c= []/\JX M c= .l [] true)\/ ∃j:Nat,(M.map gP)[j]? =some (At.own (JX M c) 1 (iL (CD M c))):=by
 unfold CD JX;cases h:M.find? fun e=>c==e.1 with
 | none=>exact .inl ⟨rfl,rfl⟩
 | some e=>
   refine .inr ?_;obtain⟨j,hj⟩:=List.getElem?_of_mem (List.mem_of_find?_eq_some h);refine⟨j,?_⟩;rw[OR,hj];rfl
def Qb {M:List Ord} {c:Int} {Z:AE} {fx:List At} (hs:Sat Z (fx++M.map gP)) (hl:(CD M c).length<=Ae) {K:V->Prop} (hk:K (.i .i64 (CD M c).length)):As (JX M c) K:=by
 rcases Qa M c with⟨h1,h2⟩|⟨j,hj⟩
 .rw[h2]
  rw[h1]at hk;exact WB hk
 .have hj':(fx++M.map gP)[fx.length+j]? =some (At.own (JX M c) 1 (iL (CD M c))):=by
   rw[List.getElem?_append_right (by omega),Nat.add_sub_cancel_left,hj]
  exact AAE hs _ hj' (by simpa using hl) (by simpa using hk)
def lkO {Z:AE} {l:List At} {i mm:Nat} {M:List Ord} {c:Int} {K:V->Prop} (hk:K (JX M c)) (h:Sat Z l:=by assumption)
    (hi:l[i]? =some (.map mm (M.map nq)):=by first|exact SI|exact SH|exact SG|exact SF|exact SE|exact SD):AM Z (.i .i64) (.l [] true) false (.m mm) (eI c) K:=
 KB h i hi rfl (Yo M) (by rw[mI];exact hk)
def ABb {M:List Ord} {c:Int} {Z:AE} {fx:List At} (hs:Sat Z (fx++M.map gP)) (hl:(CD M c).length<=Ae) (hne:CD M c≠[]) {k kp:V->AE->Prop} (hk: ∀Z',Sat Z' (fx++M.map gP)->k (.l (iL ((CD M c).filter (· != 0))) false) Z'):Ar zP 379 [JX M c] Z (qk k kp):=by
 rcases Qa M c with⟨h1,h2⟩|⟨j,hj⟩
 .exact absurd h1 hne
 .have hj':(fx++M.map gP)[fx.length+j]? =some (At.own (JX M c) 1 (iL (CD M c))):=by
   rw[List.getElem?_append_right (by omega),Nat.add_sub_cancel_left,hj]
  refine(nD (CD M c) (JX M c) hl).rn hs hj' ?_;rintro r Z' rfl hs';exact hk Z' hs'
def Xm {Z Z2:AE}: ∀ {a a' b b':List (List V)},Fm Z Z2 a a'->Fm Z Z2 b b'->Fm Z Z2 (a++b) (a'++b')
 | [],[],_,_,.nil,h=>h
 | _::_,_::_,_,_,.cons h1 h2,h=> .cons h1 (Xm h2 h)
def mG (n mm:Nat) (vp vu:V) (ps:List (List Int×Bool)) (us:List Nat) (M:List Ord) (c:Int) (l:List Int) (b:Bool) (hc0:0<=c) (hl:ps[c.toNat]? =some (l,b)) (hll:l.length<=3) (hol: ∀c,(CD M c).length<=Ae) :
    BS zP 376 [.p n 0,eI c] (gH n mm vp vu ps us M) fun r post=>r= .ret (if l.any fun p=>(CD M p).isEmpty then .t [.l [] true,.b false]else .t [.l (En (l.map (fun p=>(CD M p).filter (· != 0))++[l])) false,.b true])/\post=gH n mm vp vu ps us M:=by
 intro Z hs;have hM:=Mx;have hci:c<ps.length:=by have:=(JT.1 hl).1;omega
 refine vL kZ ?_;refine zz ?_;(repeat clear U K);repeat intro K U
 refine CZ l.length (fun k v=>[(6,v),(17,eI (BL k))]) (fun k v=> .own v 1 (En ((l.take k).map fun p=>(CD M p).filter (· != 0)))::gH n mm vp vu ps us M) (fun k _=>((l.take k).any fun p=>(CD M p).isEmpty)=false) (.l [] true) rfl rfl (Db hs 1) ?_;clear hs;rintro k v Z hk hne hs;rcases BF l hk with⟨p,hp,hlt⟩|hke
 .have han:((l.take (k+1)).any fun p=>(CD M p).isEmpty)=(CD M p).isEmpty:=by rw[AU hp,List.any_append,hne];simp
  have hap:(l.take k).length<=3:=by rw[Lq];omega
  conv=>whnf
  repeat'((first|clear U K|apply st|(apply zk;intro K U)|refine zY ?_|refine lkO ?_|refine Qb (fx:=_::_::_::_::_:: []) hs (hol _) ?_|refine za (fun hc=>?_) fun hc=>?_|fail)<;>conv=>whnf)
  .have h0:(CD M p).isEmpty=true:=by rw[List.isEmpty_iff_length_eq_zero];omega
   have hany:(l.any fun p=>(CD M p).isEmpty)=true:=Hn.2 ⟨p,CY hp,h0⟩;refine Aw (l':=gH n mm vp vu ps us M) hs (K7 _ _) (.refl _) fun Z' hs'=>⟨_,⟨?_,rfl⟩,hs'⟩
   rw[if_pos hany]
  .have h0:(CD M p).isEmpty=false:=by
    cases h:(CD M p).isEmpty
    .rfl
    .rw[List.isEmpty_iff_length_eq_zero]at h;omega
   refine ABb (fx:=_::_::_::_::_:: []) hs (hol _) (fun e=>by rw[e]at h0;cases h0) fun Z hs=>?_
   conv=>whnf
   repeat'((first|clear U K|apply st|(apply zk;intro K U)|refine zY ?_|refine aq fun v Z hs hsl=>?_|fail)<;>conv=>whnf)
   refine⟨hlt,_,rfl,by rw[han];exact h0,?_⟩;rw[AU hp,VV];exact hs
 .rw[BC hke]at hne hs
  refine zz ?_;(repeat clear U K);repeat intro K U
  refine hAppend hs 0 rfl (by simp;omega) (fun e he=>by simp at he;subst he;rfl) (fun e he v hv=>by simp at he;subst he;simp at hv;subst hv;rfl) fun v Z hs=>?_
  refine zz ?_;(repeat clear U K);repeat intro K U
  obtain⟨Z2,h1,h2,h3⟩:=ud (es':=En (l.map (fun p=>(CD M p).filter (· != 0))++[l])) hs 0 rfl fun Z2=>by
   have e:En (l.map (fun p=>(CD M p).filter (· != 0))++[l])=En (l.map fun p=>(CD M p).filter (· != 0))++[[.l (iL l) false]]:=by simp only[En,VV,EW,List.map_nil]
   rw[e];exact Xm (Ki _) (.cons (.cons iT .nil) .nil)
  refine Is h1 (.t (.cons h2 (.cons (.refl _) .nil))) ⟨_,⟨?_,rfl⟩,h3⟩;rw[hne,if_neg (by decide)]
def Sat.rot2 {Z:AE} {l:List At} {a:At} (h:Sat Z (a::l)):Sat Z (l++[a]):=h.perm (by
 have:=PL (l₁:=[a]) (l₂:=l)
 simpa using this)
def DN (M:List Ord) (l:List Int):List (List Int):=l.map (fun p=>(CD M p).filter (· != 0))++[l]
def HS (M:List Ord) (l:List Int) (c:Int):List Int:=
 if c=0 then [0]else if l.any (fun p=>(CD M p).isEmpty)then []else if(CM (DN M l)).2 then [c]++(CM (DN M l)).1++[0]else []
def bg (n mm:Nat) (vp vu:V) (ps:List (List Int×Bool)) (us:List Nat) (M:List Ord) {c:Int} {v:V} {l:List Int} (hk: ∀e∈M,e.1≠c) {Z:AE}
    (hs:Sat Z (.own v 1 (iL l):: .box n [vp,vu,.m mm]:: .own vp 1 (pL ps):: .own vu 1 (us.map fun u=>[eU u]):: .map mm (Da (eI c) v (M.map nq))::M.map gP)):Sat Z (gH n mm vp vu ps us (M++[(c,v,l)])):=by
 rw[pj v l hk]at hs;have:=hs.rot2;unfold gH;rw[VV (f:=gP)];exact this
def lj (n mm:Nat) (vp vu:V) (ps:List (List Int×Bool)) (us:List Nat) (M:List Ord) (c:Int) (l:List Int) (b:Bool) (hc0:0<=c) (hl:ps[c.toNat]? =some (l,b)) (hll:l.length<=3) (hol: ∀c,(CD M c).length<=Ae) (hk: ∀e∈M,e.1≠c)
    (hok:NS (DN M l)) (ht:total (DN M l)<1000000000) :
    BS zP 368 [.p n 0,eI c] (gH n mm vp vu ps us M) fun r post=>r= .ret (.t [])/\ ∃M',post=gH n mm vp vu ps us M'/\((M'=M/\HS M l c= [])\/ ∃v,M'=M++[(c,v,HS M l c)]/\HS M l c≠[]):=by
 intro Z hs;have hM:=Mx;refine vM kZ ?_;by_cases hc:c=0
 .subst hc
  conv=>whnf
  repeat'((first|clear U K|apply st|(apply zk;intro K U)|refine zY ?_|(refine zb (fun hc=>?_) (fun hc=>?_)<;>try exact⟨⟩)|fail)<;>conv=>whnf)
  refine Io hs 3 rfl rfl (Yo M) fun Z hs=>?_
  refine zz ?_;(repeat clear U K);repeat intro K U
  refine Aw (l':=gH n mm vp vu ps us (M++[(0,.l [[eI 0]] true,[0])])) ?_ (List.Sublist.refl _) (.refl _) fun Z' hs'=>⟨_,⟨rfl,_,rfl,.inr ⟨.l [[eI 0]] true,?_,?_⟩⟩,hs'⟩
  .refine bg n mm vp vu ps us M hk ?_
   exact iS hs (fun e he=>by simp at he;subst he;rfl)
  .rw[HS,if_pos rfl]
  .rw[HS,if_pos rfl];exact fun e=>by cases e
 .have hoc:HS M l c=if l.any (fun p=>(CD M p).isEmpty)then []else if(CM (DN M l)).2 then [c]++(CM (DN M l)).1++[0]else []:=by rw[HS,if_neg hc]
  have hli:=mG n mm vp vu ps us M c l b hc0 hl hll hol;have hmg:=mB (DN M l) false hok (by omega);have hml:=Ix (total (DN M l)) (DN M l) [];have hml2:(CM (DN M l)).1.length<=total (DN M l):=by simpa[CM]using hml
  cases hany:l.any fun p=>(CD M p).isEmpty
  .rw[hany,if_neg (by decide)]at hoc
   simp only[hany,NM,if_false]at hli;have hdn: ∀ {Z:AE} {M':List Ord},Sat Z (gH n mm vp vu ps us M')->((M'=M/\HS M l c= [])\/ ∃v,M'=M++[(c,v,HS M l c)]/\HS M l c≠[])->Aj Z (.t []) fun r Z'=> ∃post,(r= .ret (.t [])/\ ∃M',post=gH n mm vp vu ps us M'/\((M'=M/\HS M l c= [])\/ ∃v,M'=M++[(c,v,HS M l c)]/\HS M l c≠[]))/\Sat Z' post:=fun hs h=>Aw hs (List.Sublist.refl _) (.refl _) fun Z' hs'=>⟨_,⟨rfl,_,rfl,h⟩,hs'⟩
   conv=>whnf
   repeat'((first|clear U K|apply st|(apply zk;intro K U)|refine zY ?_|(refine zb (fun hc=>?_) (fun hc=>?_)<;>try exact⟨⟩)|fail)<;>conv=>whnf)
   refine hli.use (rest:=[]) (by simpa using hs) ?_;clear hs;rintro r post Z ⟨rfl,rfl⟩ hs;rw[FE]at hs;have hml3:(DN M l)=l.map (fun p=>(CD M p).filter (· != 0))++[l]:=rfl;rw[<-hml3];generalize DN M l=ll at *;cases hb:(CM ll).2<;>rw[hb]at hmg hoc
   .conv=>whnf
    repeat'((first|clear U K|apply st|(apply zk;intro K U)|refine zY ?_|refine zC ?_|fail)<;>conv=>whnf)
    exact hdn hs (.inl ⟨rfl,by rw[hoc];rfl⟩)
   .rw[if_pos rfl]at hoc
    conv=>whnf
    repeat'((first|clear U K|apply st|(apply zk;intro K U)|refine zY ?_|refine zC ?_|fail)<;>conv=>whnf)
    replace hs:=iS hs (sz:=1) (es:=[[eI c]]) (fun e he=>by simp at he;subst he;rfl);refine Oa hs 0 (xs:=[c]) (ys:=(CM ll).1) rfl (by simp;omega) C0 fun v Z hs=>?_
    conv=>whnf
    repeat'((first|apply st|refine zY ?_|refine rk ?_ ?_|exact fun s e=>by cases e;rfl|refine aq fun v Z hs hsl=>?_|fail)<;>conv=>whnf)
    refine Io hs 4 rfl rfl (Yo M) fun Z hs=>?_
    refine zz ?_;(repeat clear U K);repeat intro K U
    refine hdn (bg n mm vp vu ps us M hk (l:=HS M l c) ?_) (.inr ⟨v,rfl,by rw[hoc];simp⟩);rw[hoc];exact hs
  .rw[hany,if_pos rfl]at hoc
   simp only[hany,if_true]at hli
   conv=>whnf
   repeat'((first|clear U K|apply st|(apply zk;intro K U)|refine zY ?_|(refine zb (fun hc=>?_) (fun hc=>?_)<;>try exact⟨⟩)|fail)<;>conv=>whnf)
   refine hli.use (rest:=[]) (by simpa using hs) ?_;clear hs;rintro r post Z ⟨rfl,rfl⟩ hs;rw[FE]at hs;refine zz ?_;(repeat clear U K);repeat intro K U
   exact Aw hs (List.Sublist.refl _) (.refl _) fun Z' hs'=>⟨_,⟨rfl,_,rfl,.inl ⟨rfl,hoc⟩⟩,hs'⟩
end Go.Gl
namespace Go.Gl
def eG {M:List Ord} {k:Int} {v:V} {o:List Int} (h: ∀e∈M,e.1<k) (d:Int):CD (M++[(k,v,o)]) d=if d=k then o else CD M d:=by
 unfold CD;rw[List.find?_append];split
 .rename_i e
  have:M.find? (fun e=>d==e.1)=none:=by
   rw[List.find?_eq_none];intro x hx;have:=h x hx;simp;omega
  rw[this];simp[e]
 .rename_i e
  cases hf:M.find? fun e=>d==e.1 with
  | some x=>simp
  | none=>simp[List.find?_cons,e]
structure JJ (g:List (List Int)) (k:Nat) (M:List Ord):Prop where
 keys: ∀e∈M,0<=e.1/\e.1<(k:Int)
 gj: ∀d:Int,0<=d->d<k->CD M d=(CA g).getD d.toNat []
def W0 {g:List (List Int)} {k:Nat} {M:List Ord} (h:JJ g k M) {d:Int} (hd:d<0\/(k:Int)<=d):CD M d= []:=by
 unfold CD
 have:M.find? (fun e=>d==e.1)=none:=by
  rw[List.find?_eq_none];intro x hx;have:=h.keys x hx;simp;omega
 rw[this];rfl
def Mi {g:List (List Int)} (hg:JD g) {k:Nat} {M:List Ord} (h:JJ g k M) (d:Int):(CD M d).length<=71744535/\ ∀x∈CD M d,(0:Int)<=x:=by
 by_cases hd:d<0\/(k:Int)<=d
 .rw[W0 h hd]
  exact⟨by simp,fun x hx=>by cases hx⟩
 .rw[h.gj d (by omega) (by omega)]
  have hb:=I4 hg (2+g.length);have hl:=cK (k:=2+g.length) (by have:=hg.1;omega);unfold CA;exact⟨XH (fun o ho=>Nat.le_trans (hb o ho).1 hl) _,Qt (fun o ho=>(hb o ho).2) _⟩
def eQ {g:List (List Int)} (hg:JD g) {k:Nat} {M:List Ord} (h:JJ g k M) {l:List Int} (hl:l.length<=3) (h0: ∀x∈l,(0:Int)<=x):NS (DN M l)/\total (DN M l)<1000000000:=by
 have hM:Ae=17592186044416:=rfl;have hf: ∀p,((CD M p).filter (· != 0)).length<=71744535:=fun p=>Nat.le_trans (Pr _ _) (Mi hg h p).1
 have ht: ∀l:List Int,total (l.map fun p=>(CD M p).filter (· != 0))<=l.length*71744535:=by
  intro l
  induction l with
  | nil=>simp[total]
  | cons p r ih=>
    simp only[total,EW,List.sum_cons,Lr]at *;have:=hf p;rw[Nat.add_mul];omega
 refine⟨⟨by simp[DN];omega,fun m hm=>?_⟩,?_⟩
 .rcases D9.1 hm with hm|hm
  .obtain⟨p,_,rfl⟩:=Hp.1 hm
   refine⟨by have:=hf p;omega,fun x hx=>(Mi hg h p).2 x (JU.1 hx).1⟩
  .rw[Lp.1 hm]
   exact⟨by omega,h0⟩
 .have h1:=ht l
  have h2:total (DN M l)=total (l.map fun p=>(CD M p).filter (· != 0))+l.length:=by simp[DN,total]
  have h3:=Va 71744535 hl;omega
def pJ {g:List (List Int)} {k:Nat} {M:List Ord} (h:JJ g (k+1) M) {l:List Int} (hl:l=A3 g ((k:Int)+1)) (hp: ∀p∈l,(0:Int)<=p/\p<(k:Int)+1) (hk:k+1<3+g.length) :
    HS M l ((k:Int)+1)=EC g (Bd g k) ((k:Int)+1):=by
 have ho: ∀p∈l,CD M p=(Bd g k).getD p.toNat []:=fun p hpl=>by
  obtain⟨h0,h1⟩:=hp p hpl;rw[h.gj p h0 (by omega)];unfold CA;rw[C6,C6,FC (k:=2+g.length) (j:=p.toNat) (by omega),FC (k:=k) (j:=p.toNat) (by omega)]
 have e1:(l.any fun p=>(CD M p).isEmpty)=(l.any fun p=>((Bd g k).getD p.toNat []).isEmpty):=by
  rw[G3,Hn,Hn];constructor
  .rintro⟨p,h1,h2⟩;exact⟨p,h1,by rw[<-ho p h1];exact h2⟩
  .rintro⟨p,h1,h2⟩;exact⟨p,h1,by rw[ho p h1];exact h2⟩
 have e2:DN M l=l.map (fun p=>((Bd g k).getD p.toNat []).filter (· != 0))++[l]:=by
  unfold DN;congr 1;exact List.map_congr_left fun p hpl=>by rw[ho p hpl]
 unfold HS EC EY;rw[if_neg (by omega),e1,e2,<-hl];split<;>rfl
def JJ.nil {g:List (List Int)}:JJ g 0 []:=⟨fun e h=>(by cases h),fun d h0 h1=>by omega⟩
def JJ.step {g:List (List Int)} {k:Nat} {M M':List Ord} (h:JJ g k M) {l:List Int} (hl:l=A3 g (k:Int)) (hp: ∀p∈l,(0:Int)<=p/\p<(k:Int)) (hk:k<3+g.length)
    (hM:(M'=M/\HS M l k= [])\/ ∃v,M'=M++[((k:Int),v,HS M l k)]/\HS M l k≠[]):JJ g (k+1) M':=by
 have hc:HS M l k=(CA g).getD k []:=by
  cases k with
  | zero=>
    unfold HS CA;rw[if_pos (by simp),C6,FC (j:=0) (by omega)];rfl
  | succ k=>
    have:=pJ h (by simpa using hl) (fun p hpl=>by have:=hp p hpl;simpa using this) hk;have e:((k+1:Nat):Int)=(k:Int)+1:=by omega
    rw[e,this];unfold CA;rw[C6,FC (k:=2+g.length) (j:=k+1) (by omega),Bd,List.getElem?_append_right (by rw[Cp];omega),Cp,Nat.sub_self];rfl
 rcases hM with⟨rfl,he⟩|⟨v,rfl,_⟩
 .refine⟨fun e he=>by have:=h.keys e he;omega,fun d h0 h1=>?_⟩
  by_cases hd:d=k
  .subst hd
   rw[W0 h (by omega)];rw[HP,<-hc,he]
  .exact h.gj d h0 (by omega)
 .refine⟨fun e he=>?_,fun d h0 h1=>?_⟩
  .rcases D9.1 he with he|he
   .have:=h.keys e he;omega
   .rw[Lp.1 he]
    exact⟨by simp,by simp;omega⟩
  .rw[eG (fun e he=>(h.keys e he).2)]
   split
   .rename_i hd
    rw[hd,HP];exact hc
   .exact h.gj d h0 (by omega)
end Go.Gl
