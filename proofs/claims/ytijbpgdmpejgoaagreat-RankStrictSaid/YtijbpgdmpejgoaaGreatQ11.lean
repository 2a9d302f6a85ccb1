import Derived.Test.YtijbpgdmpejgoaaGreatQ10
set_option linter.all false
set_option linter.unusedVariables false
set_option linter.unusedSimpArgs false
namespace Go.Gl
variable {P:Program} {σ:AG} {env:Env}
theorem lo {l:List At} {i:Nat} {v:V} {sz:Nat} {es:List (List V)} {K:V→Prop} (hk:K (.i .i64 es.length)) (h:Sat σ l:=by assumption)
 (hi:l[i]? =some (.own v sz es):=by first|exact UM|exact UL|exact UK|exact UJ|exact UI|exact UH) (hm:es.length≤Ax:=by first|omega|(simp only[Ce,List.length_replicate,List.length_set,Ax]at *;omega)):BZ v K:=wu h i hi hm hk
theorem Sat.take {l:List At} (h:Sat σ l) (n:Nat):Sat σ (l.take n):=h.less (List.take_sublist _ _)
theorem RJ {b:Bool} {σ σ':AG}:F6 σ σ' (.l [] b) (.l [] false):= .l (fun h=>by cases h) .nil
theorem Zk {b:Bool} {σ σ':AG} {es:List (List V)}:F6 σ σ' (.l es b) (.l es false):= .l (fun h=>by cases h) (Fq.refl _ _ _)
mutual
theorem QD {σ σ':AG}: ∀vs:List V,EE σ σ' vs vs
 | []=> .nil
 | v::r=> .cons (.refl v) (QD r)
end
theorem Ig {σ σ':AG}: ∀es:List (List V),Fq σ σ' es es
 | []=> .nil
 | e::r=> .cons (QD e) (Ig r)
theorem Bq {α:Type} (xs:List α) {k:Nat} (hk:k≤xs.length):(∃x,xs[k]? =some x∧k<xs.length)∨k=xs.length:=by
 rcases Nat.lt_or_ge k xs.length with h|h
 ·exact .inl ⟨_,Fs h,h⟩
 ·exact .inr (by omega)
theorem FB {α:Type} {enc:α→List V} {xs:List α} {k:Nat} {x:α} {A B:Prop} (h1:decide (Bo k<((xs.map enc).length:Nat))=true→A) (hx:xs[k]? =some x:=by assumption) (hm:xs.length≤Ax:=by first|assumption|omega|simp[Ax]<;>omega) :
 (decide (Bo k<((xs.map enc).length:Nat))=true→A)∧(decide (Bo k<((xs.map enc).length:Nat))=false→B):=by
 refine⟨h1,fun h=>?_⟩;have hlt:=(List.getElem?_eq_some_iff.1 hx).1;rw[Ad (by omega),Ce]at h;have:=of_decide_eq_false h;omega
theorem F5 {α:Type} {enc:α→List V} {xs:List α} {k:Nat} {A B:Prop} (h1:decide (Bo k<((xs.map enc).length:Nat))=false→B) (hx:k=xs.length:=by assumption) (hm:xs.length≤Ax:=by first|assumption|omega|simp[Ax]<;>omega) :
 (decide (Bo k<((xs.map enc).length:Nat))=true→A)∧(decide (Bo k<((xs.map enc).length:Nat))=false→B):=by
 refine⟨fun h=>?_,h1⟩;rw[Ad (by omega),Ce]at h;have:=of_decide_eq_true h;omega
theorem Y7 {α:Type} {enc:α→List V} {xs:List α} {f:Bool} {sz:Nat} {K:V→Prop} {ki:IntKind} {j:Int} {x:α} (h:K (.rp (enc x))) (hx:xs[j.toNat]? =some x:=by assumption) (h0:0≤j:=by omega) (hs:(enc x).length=sz:=by first|rfl|simp|(rw[CO];rfl)) :
 Ab sz none (.l (xs.map enc) f) (.i ki j) K:=rR j.toNat hx (by omega) hs h
theorem R4 {xs:List Fact} {f:Bool} {K:V→Prop} {ki:IntKind} {j:Int} {x:Fact} (h:K (.rp (xF x))) (hx:xs[j.toNat]? =some x:=by assumption) (h0:0≤j:=by omega):Ab 6 none (.l (xs.map Gb) f) (.i ki j) K:=by
 refine Y7 ?_ hx h0;rw[CO];exact h
class CB (b:Bool) (v:outParam Bool):Prop where
 h:b=v
instance :CB true true:=⟨rfl⟩
instance :CB false false:=⟨rfl⟩
instance {b:Bool} [i:CB b true]:CB (!b) false:=⟨by rw[i.h];rfl⟩
instance {b:Bool} [i:CB b false]:CB (!b) true:=⟨by rw[i.h];rfl⟩
instance {b x y v:Bool} [i:CB b true] [j:CB x v]:CB (bif b then x else y) v:=⟨by rw[i.h,j.h];rfl⟩
instance {b x y v:Bool} [i:CB b false] [j:CB y v]:CB (bif b then x else y) v:=⟨by rw[i.h,j.h];rfl⟩
instance {a b:Bool} [i:CB a true] [j:CB b true]:CB (a==b) true:=⟨by rw[i.h,j.h];rfl⟩
instance {a b:Bool} [i:CB a true] [j:CB b false]:CB (a==b) false:=⟨by rw[i.h,j.h];rfl⟩
instance {a b:Bool} [i:CB a false] [j:CB b true]:CB (a==b) false:=⟨by rw[i.h,j.h];rfl⟩
instance {a b:Bool} [i:CB a false] [j:CB b false]:CB (a==b) true:=⟨by rw[i.h,j.h];rfl⟩
instance {a b:Bool} [i:CB a true] [j:CB b true]:CB (a != b) false:=⟨by rw[i.h,j.h];rfl⟩
instance {a b:Bool} [i:CB a true] [j:CB b false]:CB (a != b) true:=⟨by rw[i.h,j.h];rfl⟩
instance {a b:Bool} [i:CB a false] [j:CB b true]:CB (a != b) true:=⟨by rw[i.h,j.h];rfl⟩
instance {a b:Bool} [i:CB a false] [j:CB b false]:CB (a != b) false:=⟨by rw[i.h,j.h];rfl⟩
theorem MM {A B:Prop} {b:Bool} [i:CB b true] (h:A):(b=true→A)∧(b=false→B):=⟨fun _=>h,fun e=>(by rw[i.h]at e;cases e)⟩
theorem G5 {A B:Prop} {b:Bool} [i:CB b false] (h:B):(b=true→A)∧(b=false→B):=⟨fun e=>(by rw[i.h]at e;cases e),fun _=>h⟩
theorem xn {A B:Prop} {b:Bool} [i:CB b true] (h:B):(b=false→A)∧(b=true→B):=⟨fun e=>(by rw[i.h]at e;cases e),fun _=>h⟩
theorem Zc {A B:Prop} {b:Bool} [i:CB b false] (h:A):(b=false→A)∧(b=true→B):=⟨fun _=>h,fun e=>(by rw[i.h]at e;cases e)⟩
theorem wS {α:Type} {enc:α→List V} {xs:List α} {x:α} {l:List At} {i:Nat} {v:V} {sz k:Nat} {agg:Option Nat} {K:V→Prop} (hk:cut agg (enc x) 0 K) (h:Sat σ l:=by assumption)
 (hi:l[i]? =some (.own v sz (xs.map enc)):=by first|exact UM|exact UL|exact UK|exact UJ|exact UI|exact UH) (hx:xs[k]? =some x:=by assumption):An σ agg (Ga v sz k) K:=
 Wu h i hi (by rw[Rv,hx];rfl) hk
theorem yB {v:V} (h:(Fb v).isSome=true): ∃n l c,v= .sl n l c:=by
 cases v<;>first|(cases h;done)|exact⟨_,_,_,rfl⟩
end Go.Gl
namespace Go.Gl
open Go.Proofs
attribute [local irreducible] BQ BJ A5 Ab AQ A4 Ac Af AR Az AW Aa BT Bf Sat An BZ A6 W
theorem VW {w:AM} (f:Fact):B6 w f=true→Sb f=true:=by
 induction f using Fact.ind with
 | h f ih=>
   intro h;rw[DG]at h;simp only[D6,BO,GL,DU]at h;rw[TX];simp only[BO,DU,List.all_map,GL,Function.comp_apply,id];exact⟨⟨h.1.2.2.1,h.1.2.2.2.1⟩,fun k hk=>ih k hk (h.2 k hk)⟩
def V3 (p:Prog) (m:Ov):Bool:=decide (1≤m.kind)&&(decide (m.kind≤4)&&(decide (0≤m.gen)&&(decide (m.gen<(p.EH.length:Int))&&(GY (Ar p) m.fact&&decide (JB m.fact≤p.EH.getD m.gen.toNat 0)))))
def runM (p:Prog):List Ov→List Int→Option (List Int)
 | [],s=>some s
 | m::r,s=>if V3 p m then match DB p (NB m.kind) 12 m.node (p.EH.getD m.gen.toNat 0) s with
   | none=>none
   | some s'=>runM p r s' else none
def FE (p:Prog):Bool:=CA p&&(decide (p.EH.length≤8)&&(decide (p.methods.length≤16)&&(decide (1≤p.nodes.length)&&(decide (p.nodes.length≤120)&&p.EH.all fun g=>decide (1≤g)&&decide (g≤3)))))
def Br (p:Prog):Option (List Int):=if FE p then match runM p p.methods (List.replicate p.nodes.length (-1))with
 | none=>none
 | some s=>match DB p false 12 p.main 0 s with
   | none=>none
   | some s=>if s.all fun n=>decide (0≤n)then some s else none else none
def NF (p:Prog):Option (List Int)→Option (List Int)
 | none=>none
 | some s=>match DB p false 12 p.main 0 s with
   | none=>none
   | some s=>if s.all fun n=>decide (0≤n)then some s else none
theorem eg {p:Prog} (h:FE p=true):Br p=NF p (runM p p.methods (List.replicate p.nodes.length (-1))):=by
 unfold Br;rw[if_pos h];rfl
theorem IU {p:Prog} {k:Nat} {x:Ov} {s:List Int} (hx:p.methods[k]? =some x) (hn:Br p=NF p (runM p (p.methods.drop k) s)) (hok:V3 p x=false):Br p=none:=by
 rw[hn,drop_cons hx,runM,if_neg (by simp[hok])];rfl
theorem Xx {p:Prog} {k:Nat} {x:Ov} {s:List Int} (hx:p.methods[k]? =some x) (hn:Br p=NF p (runM p (p.methods.drop k) s)) (hok:V3 p x=true) (hw:DB p (NB x.kind) 12 x.node (p.EH.getD x.gen.toNat 0) s=none):Br p=none:=by
 rw[hn,drop_cons hx,runM,if_pos hok,hw];rfl
theorem dv {p:Prog} {k:Nat} {x:Ov} {s s':List Int} (hx:p.methods[k]? =some x) (hn:Br p=NF p (runM p (p.methods.drop k) s)) (hok:V3 p x=true) (hw:DB p (NB x.kind) 12 x.node (p.EH.getD x.gen.toNat 0) s=some s'):Br p=NF p (runM p (p.methods.drop (k+1)) s'):=by
 rw[hn,drop_cons hx,runM,if_pos hok,hw]
theorem YN {p:Prog} (h:FE p=true) {k:Nat} {x:Int} (hx:p.EH[k]? =some x):1≤x∧x≤3:=by
 simp only[FE,BO,GL,DU]at h;exact h.2.2.2.2.2 x (Fo hx)
def Un:List (Fact→Bool)→List Fact→Bool
 | h::r,k::s=>h k&&Un r s
 | _,_=>true
def kU (f:Fact) (l:List (Fact→Bool)) (g:Fact):Bool:=f.op==g.op&&(f.arg==g.arg&&(f.cls==g.cls&&(f.n==g.n&&(f.path==g.path&&(f.kids.length==g.kids.length&&Un l g.kids)))))
def GS (f:Fact):Fact→Bool:=f.G8 kU
theorem Ss (f g:Fact):GS f g=(f.op==g.op&&(f.arg==g.arg&&(f.cls==g.cls&&(f.n==g.n&&(f.path==g.path&&(f.kids.length==g.kids.length&&Un (f.kids.map GS) g.kids)))))):=congrFun (Fact.Dg kU f) g
theorem Ta {xs ys:List Fact} (h: ∀x∈xs,∀y,GS x y=true↔x=y) (hl:xs.length=ys.length):Un (xs.map GS) ys=true↔xs=ys:=by
 induction xs generalizing ys with
 | nil=>cases ys with
   | nil=>simp[Un]
   | cons _ _=>simp at hl
 | cons x r ih=>cases ys with
   | nil=>simp at hl
   | cons y s=>
     simp only[List.map_cons,Un,BO,List.cons.injEq];rw[h x (.head _) y,ih (fun x hx=>h x (.tail _ hx)) (by simpa using hl)]
theorem LX (f g:Fact):GS f g=true↔f=g:=by
 induction f using Fact.ind generalizing g with
 | h f ih=>
   rw[Ss];cases f with
   | mk o a p c n k=>cases g with
     | mk o' a' p' c' n' k'=>
       simp only[Fact.op,Fact.arg,Fact.cls,Fact.n,Fact.path,Fact.kids,BO,Dp,Fact.mk.injEq]at *;constructor
       ·rintro⟨rfl,rfl,rfl,rfl,rfl,hl,h⟩
        exact⟨rfl,rfl,rfl,rfl,rfl,(Ta (fun x hx y=>ih x hx y) hl).1 h⟩
       ·rintro⟨rfl,rfl,rfl,rfl,rfl,rfl⟩
        exact⟨rfl,rfl,rfl,rfl,rfl,rfl,(Ta (fun x hx y=>ih x hx y) rfl).2 rfl⟩
def FY (f:Fact):Fact:= .mk 5 0 [] 0 0 [f]
def Ot (f g:Fact):Fact:= .mk 6 0 [] 0 0 [f,g]
def kq (l:Fact):Prop:=l.op=5→l.kids≠[]
def Ay (l:Fact):Fact×Bool:=if l.op=5 then(l.kids.headD default,true)else(l,false)
def B2 (path pre:List Int):Bool:=decide (pre.length≤path.length)&&path.take pre.length==pre
def Lt (a:Int) (p:List Int) (l:Fact):Bool:=(Ay l).1.arg==a&&(Ay l).1.path==p
def Et (ls:List Fact) (a:Int) (p:List Int):Bool:=ls.all fun l=>(Ay l).2|| !((Ay l).1.arg==a&&B2 (Ay l).1.path p)
def E8 (n:Nat):List Int:=(List.range n).map Int.ofNat
def kJ (a:Int) (p:List Int) (s:Int) (l:Fact):Bool:=(Ay l).1.arg==a&&B2 (Ay l).1.path (p++[s])
def DY (n:Nat) (ls:List Fact) (a:Int) (p:List Int):List Int:=(E8 n).filter fun s=>ls.any (kJ a p s)
def Ix (n:Nat) (ls:List Fact) (a:Int) (p:List Int):Bool:=(DY n ls a p).all fun s=>Et ls a (p++[s])
def Us (ls:List Fact):Prop:= ∀l∈ls,-1000000000≤(Ay l).1.n∧(Ay l).1.n≤1000000000
def SL (x:Fact×Bool) (t:Int×Int×List Int):Option (Int×Int×List Int):=
 if x.1.op=2 then if decide (x.1.cls > 1) != x.2 then none else some t
 else if x.1.op=3 then(if x.2 then some (if x.1.n > t.1 then x.1.n else t.1,t.2.1,t.2.2)else some (t.1,if x.1.n - 1<t.2.1 then x.1.n - 1 else t.2.1,t.2.2))
 else if x.2 then some (t.1,t.2.1,t.2.2++[x.1.n])else some (if x.1.n > t.1 then x.1.n else t.1,if x.1.n<t.2.1 then x.1.n else t.2.1,t.2.2)
def foldI:List Fact→Int×Int×List Int→Option (Int×Int×List Int)
 | [],t=>some t
 | x::r,t=>(SL (Ay x) t).bind (foldI r)
def ZK (no:List Int):Nat→Int→Option Int
 | 0,_=>none
 | k+1,n=>if no.all (· != n)then some n else ZK no k (n+1)
def SM (t:Int×Int×List Int):Option Int:=ZK t.2.2 (t.2.1+1 - t.1).toNat t.1
def t0:Int×Int×List Int:=(-1000000000,1000000000,[])
def R5 (ls:List Fact) (a:Int) (p:List Int):Option Int:=(foldI (ls.filter (Lt a p)) t0).bind SM
def O7 (x:Fact×Bool):Bool:=((x.1.op==2&&(x.1.cls==0||x.1.cls==2))==x.2)
def NA (n:Nat) (ls:List Fact) (a:Int) (p:List Int):Bool:=(ls.filter (Lt a p)).all (fun l=> !O7 (Ay l))&&Ix n ls a p
abbrev BB:=List Bool×List Bool
def Lu (x:Fact×Bool) (t:BB):Option BB:=
 if x.1.op≠2∨x.1.cls=1∨x.1.cls=2 then(if x.2 then some t else none)else
 if x.2 then some (t.1,t.2.set x.1.cls.toNat true)else some (t.1.set x.1.cls.toNat true,t.2)
def Iv:List Fact→BB→Option BB
 | [],t=>some t
 | x::r,t=>(Lu (Ay x) t).bind (Iv r)
def SJ (w:AM) (ls:List Fact) (a:Int) (p:List Int) (can:Int→Bool) (s:Int) (t:BB):Option BB:=
 if !Et ls a (p++[s])&& !can s then none else some (if Et ls a (p++[s])then t.1 else t.1.set (C0 w s).toNat true,if can s then t.2 else t.2.set (C0 w s).toNat true)
def Iu (w:AM) (ls:List Fact) (a:Int) (p:List Int) (can:Int→Bool):List Int→BB→Option BB
 | [],t=>some t
 | s::r,t=>(SJ w ls a p can s t).bind (Iu w ls a p can r)
def Ia (ps:List (List Int)) (c:Nat) (bs:List Bool):List Bool:=if bs.getD c false then(par ps c).foldl (fun b q=>b.set q.toNat true) bs else bs
def Ch (ps:List (List Int)) (n:Nat):Nat→List Bool→List Bool
 | 0,bs=>bs
 | k+1,bs=>Ia ps (n - 1 - k) (Ch ps n k bs)
theorem I1: ∀(l:List Int) (bs:List Bool),(l.foldl (fun b q=>b.set q.toNat true) bs).length=bs.length
 | [],_=>rfl
 | q::r,bs=>by rw[List.foldl_cons,I1 r,List.length_set]
theorem Eh (ps:List (List Int)) (n:Nat): ∀(k:Nat) (bs:List Bool),(Ch ps n k bs).length=bs.length
 | 0,_=>rfl
 | k+1,bs=>by
   rw[Ch,Ia];split
   ·rw[I1,Eh ps n k bs]
   ·exact Eh ps n k bs
def ZW (w:AM) (t:BB):Option (List Bool):=
 if t.2.getD 0 false then none else
 if(List.range (3+w.parents.length)).any (fun c=>(Ch w.parents (3+w.parents.length) w.parents.length (t.1.set 0 false)).getD c false&&t.2.getD c false)then none else some (Ch w.parents (3+w.parents.length) w.parents.length (t.1.set 0 false))
def tO (w:AM):BB:=(List.replicate (3+w.parents.length) false,List.replicate (3+w.parents.length) false)
def Rz (w:AM) (ls:List Fact) (a:Int) (p:List Int) (can:Int→Bool):Option (List Bool):=
 ((Iv (ls.filter (Lt a p)) (tO w)).bind (Iu w ls a p can (DY w.owner.length ls a p))).bind (ZW w)
theorem LW {n:Nat} {ls:List Fact} {a:Int} {p:List Int} {s:Int} (h:s∈DY n ls a p):0≤s∧s<n:=by
 have:=(Mt.1 h).1;simp only[E8,Oe,List.mem_range]at this;obtain⟨m,hm,rfl⟩:=this;exact⟨Int.natCast_nonneg m,by simpa using hm⟩
def yh (w:AM) (ls:List Fact):Prop:= ∀l∈ls,(Ay l).1.op=2→0≤(Ay l).1.cls∧(Ay l).1.cls<3+w.parents.length
def QV (w:AM) (ls:List Fact) (a:Int):Nat→List Int→Bool
 | 0,p=>((R5 ls a p).isSome&&Ix w.owner.length ls a p)||(NA w.owner.length ls a p||(Rz w ls a p fun _=>false).isSome)
 | d+1,p=>((R5 ls a p).isSome&&Ix w.owner.length ls a p)||(NA w.owner.length ls a p||(Rz w ls a p fun s=>QV w ls a d (p++[s])).isSome)
def Z1 (ls:List Fact) (n:Nat):Prop:= ∀l∈ls,(Ay l).1.path.length≤n
theorem PR {n m:Nat} {ls:List Fact} {a:Int} {p:List Int} (h:Z1 ls m) (hp:m≤p.length):DY n ls a p= []:=by
 rw[DY,List.filter_eq_nil_iff];intro s _ hs;rw[List.any_eq_true]at hs;obtain⟨l,hl,hg⟩:=hs;have:=h l hl;simp only[kJ,B2,BO,DU,UE,List.length_singleton]at hg;omega
def Ij (w:AM) (ls:List Fact):Bool:=(E8 3).all fun a=>QV w ls a 2 []
theorem Wv {b:Nat} {σ:AG} {l:List At} (h:Sat σ l) (i j:Nat) {v u:V} {sz:Nat} {es ys:List (List V)} {K:V→AG→Prop} (hi:l[i]? =some (.own v sz es)) (hj:l[j]? =some (.own u sz ys)) (hl:es.length+ys.length≤Ax∧(es.length+ys.length)*b≤140737488355328) (hys: ∀e∈ys,e.length=sz) (ho: ∀e∈ys,∀v∈e,B7 v=true)
 (hk: ∀v' σ',Sat σ' (l.set i (.own v' sz (es++ys)))→K v' σ'):AQ b σ sz v u K:=by
 have Y:AQ b σ sz v (.l ys true) K:=hAppend h i hi hl hys ho hk;rcases h.get hj with⟨rfl,hel⟩|⟨n,cap,rfl,hn⟩
 ·exact Y
 ·unfold AQ at Y ⊢
  simp only[rowsOf]at Y ⊢;rw[hn];refine⟨rfl,Nat.le_refl _,?_⟩;rw[List.take_length];exact Y.2
def Ck (a:List Fact):List Fact→List Fact
 | []=>a
 | x::r=>Ck (if a.any (GS x)then a else a++[x]) r
theorem Vc (a:List Fact): ∀(b:List Fact) (x:Fact),Ck a (b++[x])=if(Ck a b).any (GS x)then Ck a b else Ck a b++[x]:=by
 intro b
 induction b generalizing a with
 | nil=>intro x;rfl
 | cons y r ih=>intro x;simp only[List.cons_append,Ck];exact ih _ x
theorem Pm (a:List Fact): ∀(b:List Fact),(Ck a b).length≤a.length+b.length:=by
 intro b
 induction b generalizing a with
 | nil=>simp[Ck]
 | cons y r ih=>
   simp only[Ck,Mu];refine Nat.le_trans (ih _) ?_;split
   ·omega
   ·simp;omega
theorem Pl (a:List Fact): ∀(b:List Fact) (x:Fact),x∈Ck a b→x∈a∨x∈b:=by
 intro b
 induction b generalizing a with
 | nil=>intro x hx;exact .inl hx
 | cons y r ih=>
   intro x hx;simp only[Ck]at hx;rcases ih _ x hx with h|h
   ·split at h
    ·exact .inl h
    ·rcases FQ.1 h with h|h
     ·exact .inl h
     ·rw[List.mem_singleton.1 h];exact .inr (.head _)
   ·exact .inr (.tail _ h)
def Fa (A B:List (List Fact)):List (List Fact):=A.flatMap fun x=>B.map fun y=>Ck x y
def Hv (f:Fact) (l:List (Bool→List (List Fact))) (c:Bool):List (List Fact):=
 if f.op=1 then(if c then []else [[]])else
 if f.op=5 then(l.getD 0 (fun _=>[])) (!c)else
 if f.op=6∨f.op=7 then(if c != (f.op==7)then l.getD 0 (fun _=>[]) c++l.getD 1 (fun _=>[]) c else Fa (l.getD 0 (fun _=>[]) c) (l.getD 1 (fun _=>[]) c))else
 if c then [[FY f]]else [[f]]
def Bd (f:Fact):Bool→List (List Fact):=f.G8 Hv
theorem G2 (f:Fact) (c:Bool):Bd f c=Hv f (f.kids.map Bd) c:=congrFun (Fact.Dg Hv f) c
def cw (f:Fact) (l:List Nat):Nat:=if f.op=5 then l.getD 0 0 else if f.op=6∨f.op=7 then l.getD 0 0+l.getD 1 0 else 1
def lv (f:Fact):Nat:=f.G8 cw
theorem ND (f:Fact):lv f=cw f (f.kids.map lv):=Fact.Dg cw f
def arity (f:Fact):Bool:=f.G8 fun f l=>f.kids.length==Cy f.op&&l.all id
theorem Kb (f:Fact):arity f=(f.kids.length==Cy f.op&&f.kids.all arity):=by
 rw[arity,Fact.Dg,List.all_map];rfl
theorem C2 {w:AM} (f:Fact):B6 w f=true→arity f=true:=by
 induction f using Fact.ind with
 | h f ih=>
   intro h;rw[DG]at h;simp only[D6,BO,GL]at h;rw[Kb,BO,GL];exact⟨h.1.2.1,fun k hk=>ih k hk (h.2 k hk)⟩
theorem IG {f:Fact} (h:arity f=true) (h5:f.op=5): ∃a,f.kids= [a]∧arity a=true:=by
 rw[Kb,BO,GL,h5]at h;have hl:f.kids.length=1:=by simpa[Cy]using h.1
 obtain⟨a,ha⟩:=List.length_eq_one_iff.1 hl;exact⟨a,ha,h.2 a (by rw[ha];exact .head _)⟩
theorem IF {f:Fact} (h:arity f=true) (h6:f.op=6∨f.op=7): ∃a b,f.kids= [a,b]∧arity a=true∧arity b=true:=by
 rw[Kb,BO,GL]at h
 have hl:f.kids.length=2:=by
  have h5:f.op≠5:=by omega
  simpa[Cy,h5,h6]using h.1
 match hk:f.kids,hl with
 | [a,b],_=>exact⟨a,b,rfl,h.2 a (by rw[hk];exact .head _),h.2 b (by rw[hk];exact .tail _ (.head _))⟩
theorem aB (f:Fact):arity f=true→1≤lv f:=by
 induction f using Fact.ind with
 | h f ih=>
   intro h;rw[ND,cw];split
   ·rename_i h5
    obtain⟨a,ha,hb⟩:=IG h h5;rw[ha];exact ih a (by rw[ha];exact .head _) hb
   ·split
    ·rename_i h6
     obtain⟨a,b,ha,hb,_⟩:=IF h h6;rw[ha];have:=ih a (by rw[ha];exact .head _) hb;simp only[List.map_cons,List.getD_cons_zero];omega
    ·omega
theorem eL {a b:Nat} (ha:1≤a) (hb:1≤b):2 ^ a+2 ^ b≤2 ^ (a+b):=by
 rw[Nat.pow_add];have h1:2≤2 ^ a:=by simpa using Nat.pow_le_pow_right (show 0<2 by omega) ha
 have h2:2≤2 ^ b:=by simpa using Nat.pow_le_pow_right (show 0<2 by omega) hb
 generalize 2 ^ a=x at *;generalize 2 ^ b=y at *;have:=Nat.mul_le_mul_left (x - 1) (show 1≤y - 1 by omega);obtain⟨x,rfl⟩: ∃u,x=u+1:=⟨x - 1,by omega⟩
 obtain⟨y,rfl⟩: ∃u,y=u+1:=⟨y - 1,by omega⟩
 simp only[Nat.add_sub_cancel,Nat.mul_one]at this;rw[Nat.add_mul,Nat.mul_add];omega
theorem X4 (A B:List (List Fact)):(Fa A B).length=A.length*B.length:=by
 induction A with
 | nil=>simp[Fa]
 | cons x r ih=>
   simp only[Fa,List.flatMap_cons,UE,Ce,Mu]at *;rw[ih,Nat.add_mul];omega
theorem Jc (f:Fact):arity f=true→ ∀c,(Bd f c).length≤2 ^ lv f∧ ∀l∈Bd f c,l.length≤lv f:=by
 induction f using Fact.ind with
 | h f ih=>
   intro h c;rw[G2,ND,Hv,cw];by_cases h1:f.op=1
   ·have e5: ¬f.op=5:=by omega
    have e6: ¬(f.op=6∨f.op=7):=by omega
    rw[if_pos h1,if_neg e5,if_neg e6];cases c
    ·rw[if_neg (by decide)]
     exact⟨by simp,fun l hl=>by simp at hl;subst hl;simp⟩
    ·rw[if_pos rfl]
     exact⟨by simp,fun l hl=>by cases hl⟩
   rw[if_neg h1];by_cases h5:f.op=5
   ·obtain⟨a,ha,hb⟩:=IG h h5
    rw[if_pos h5,if_pos h5,ha];exact ih a (by rw[ha];exact .head _) hb (!c)
   rw[if_neg h5,if_neg h5];by_cases h6:f.op=6∨f.op=7
   ·obtain⟨a,b,ha,hb1,hb2⟩:=IF h h6
    rw[if_pos h6,if_pos h6,ha];simp only[List.map_cons,List.map_nil,List.getD_cons_zero,List.getD_cons_succ];obtain⟨i1,i2⟩:=ih a (by rw[ha];exact .head _) hb1 c;obtain⟨j1,j2⟩:=ih b (by rw[ha];exact .tail _ (.head _)) hb2 c;have p1:=aB a hb1;have p2:=aB b hb2;split
    ·refine⟨?_,fun l hl=>?_⟩
     ·rw[UE]
      have:=eL p1 p2;omega
     ·rcases FQ.1 hl with hl|hl
      ·have:=i2 l hl;omega
      ·have:=j2 l hl;omega
    ·refine⟨?_,fun l hl=>?_⟩
     ·rw[X4,Nat.pow_add]
      exact Nat.mul_le_mul i1 j1
     ·simp only[Fa,List.mem_flatMap,Oe]at hl
      obtain⟨x,hx,y,hy,rfl⟩:=hl;have:=Pm x y;have:=i2 x hx;have:=j2 y hy;omega
   ·rw[if_neg h6,if_neg h6]
    cases c
    ·exact⟨by simp,fun l hl=>by simp at hl;subst hl;simp⟩
    ·exact⟨by simp,fun l hl=>by simp at hl;subst hl;simp⟩
theorem sX (f:Fact):arity f=true→2*lv f≤Og f+1:=by
 induction f using Fact.ind with
 | h f ih=>
   intro h;rw[ND,cw,NY];by_cases h5:f.op=5
   ·obtain⟨a,ha,hb⟩:=IG h h5
    rw[if_pos h5,ha];have:=ih a (by rw[ha];exact .head _) hb;simp only[List.map_cons,List.map_nil,List.getD_cons_zero,List.sum_cons,List.sum_nil];omega
   rw[if_neg h5];by_cases h6:f.op=6∨f.op=7
   ·obtain⟨a,b,ha,hb1,hb2⟩:=IF h h6
    rw[if_pos h6,ha];have:=ih a (by rw[ha];exact .head _) hb1;have:=ih b (by rw[ha];exact .tail _ (.head _)) hb2;simp only[List.map_cons,List.map_nil,List.getD_cons_zero,List.getD_cons_succ,List.sum_cons,List.sum_nil];omega
   ·rw[if_neg h6]
    omega
def He (w:AM) (x:Fact):Prop:= ∃g,B6 w g=true∧Cu g=true∧(x=g∨x=FY g)
theorem FJ {g:Fact} (h:Cu g=true):g.op=2∨g.op=3∨g.op=4:=by
 simp only[Cu,Bool.or_eq_true,Dp]at h;omega
theorem E0 {w:AM} (f:Fact):B6 w f=true→ ∀c,∀l∈Bd f c,∀x∈l,He w x:=by
 induction f using Fact.ind with
 | h f ih=>
   intro h c;have har:=C2 f h;have h':=h;rw[DG,BO,GL]at h';rw[G2,Hv];by_cases h1:f.op=1
   ·rw[if_pos h1]
    cases c
    ·rw[if_neg (by decide)]
     intro l hl x hx;simp at hl;subst hl;cases hx
    ·rw[if_pos rfl]
     intro l hl;cases hl
   rw[if_neg h1];by_cases h5:f.op=5
   ·obtain⟨a,ha,hb⟩:=IG har h5
    rw[if_pos h5,ha];exact ih a (by rw[ha];exact .head _) (h'.2 a (by rw[ha];exact .head _)) (!c)
   rw[if_neg h5];by_cases h6:f.op=6∨f.op=7
   ·obtain⟨a,b,ha,hb1,hb2⟩:=IF har h6
    rw[if_pos h6,ha];have i1:=ih a (by rw[ha];exact .head _) (h'.2 a (by rw[ha];exact .head _)) c;have j1:=ih b (by rw[ha];exact .tail _ (.head _)) (h'.2 b (by rw[ha];exact .tail _ (.head _))) c;simp only[List.map_cons,List.map_nil,List.getD_cons_zero,List.getD_cons_succ];split
    ·intro l hl
     rcases FQ.1 hl with hl|hl
     ·exact i1 l hl
     ·exact j1 l hl
    ·intro l hl x hx
     simp only[Fa,List.mem_flatMap,Oe]at hl;obtain⟨y,hy,z,hz,rfl⟩:=hl;rcases Pl _ _ _ hx with h|h
     ·exact i1 y hy x h
     ·exact j1 z hz x h
   ·rw [if_neg h6]
    have hlf:Cu f=true:=by
     have ho:Y4 w f=true:=by
      have:=h'.1;simp only[D6,BO]at this;exact this.1
     simp only[Cu,Bool.or_eq_true,Dp];unfold Y4 at ho;split at ho
     ·omega
     ·split at ho
      ·omega
      ·simp only[Bool.or_eq_true,Dp]at ho
       omega
    cases c
    ·rw[if_neg (by decide)]
     intro l hl x hx;simp at hl;subst hl;simp at hx;subst hx;exact⟨x,h,hlf,.inl rfl⟩
    ·rw[if_pos rfl]
     intro l hl x hx;simp at hl;subst hl;simp at hx;subst hx;exact⟨f,h,hlf,.inr rfl⟩
theorem Gk {w:AM} {x:Fact} (h:He w x):kq x∧B6 w (Ay x).1=true∧Cu (Ay x).1=true:=by
 obtain⟨g,hn,hl,rfl|rfl⟩:=h
 ·have:=FJ hl
  have h5: ¬x.op=5:=by omega
  exact⟨fun e=>absurd e h5,by simp only[Ay,if_neg h5];exact⟨hn,hl⟩⟩
 ·exact⟨fun _ e=>(by cases e),hn,hl⟩
theorem KT {w:AM} {l:List Fact} (h: ∀x∈l,He w x):(∀x∈l,kq x)∧yh w l∧Us l∧Z1 l 2:=by
 refine⟨fun x hx=>(Gk (h x hx)).1,fun x hx h2=>?_,fun x hx=>?_,fun x hx=>?_⟩
 all_goals
  obtain⟨-,hn,hl⟩:=Gk (h x hx);have hlo:=FJ hl;generalize (Ay x).1=g at *;rw[DG,BO]at hn;have hn:=hn.1;simp only[D6,BO]at hn;obtain⟨ho,-,-,-,hp,-⟩:=hn
 ·unfold Y4 at ho
  rw[if_pos h2]at ho;simp only[Uk,BO,DU]at ho;exact ho.2
 ·unfold Y4 at ho
  split at ho
  ·simp only[BO,Dp]at ho
   omega
  ·split at ho
   ·simp only[BO,DU]at ho
    omega
   ·omega
 ·simp only[Hl,BO,DU]at hp
  omega
def Ua (w:AM) (f:Fact):Bool:=(Bd f false).any (Ij w)
def R6 (w:AM) (a b:Fact):Bool:= !Ua w (Ot a (FY b))
theorem sW (a b:Fact):lv (Ot a (FY b))=lv a+lv b:=by
 rw[ND];simp only[cw,Ot,Fact.op,Fact.kids,List.map_cons,List.map_nil,List.getD_cons_zero,List.getD_cons_succ];rw[ND (FY b)];simp[cw,FY,Fact.op,Fact.kids]
theorem S3 {w:AM} {a b:Fact} (ha:B6 w a=true) (hb:B6 w b=true):B6 w (Ot a (FY b))=true:=by
 have hnb:B6 w (FY b)=true:=by
  rw[DG];simp[FY,D6,Y4,Fact.op,Fact.kids,Fact.arg,Fact.path,Fact.cls,Fact.n,Cy,Hl,Cu,hb]
 rw[DG];simp[Ot,D6,Y4,Fact.op,Fact.kids,Fact.arg,Fact.path,Fact.cls,Fact.n,Cy,Hl,Cu,ha,hnb]
theorem Su {p:Prog}: ∀ {ms:List Ov} {s:List Int},(runM p ms s).isSome=true→ ∀m∈ms,V3 p m=true
 | [],_,_,_,h=>by cases h
 | m ::r,s,h,x,hx=>by
   rw[runM]at h;split at h
   ·rename_i hok
    split at h
    ·cases h
    ·rcases G3.1 hx with rfl|hx
     ·exact hok
     ·exact Su h x hx
   ·cases h
theorem Gw {p:Prog} (h:(Br p).isSome=true):FE p=true∧ ∀m∈p.methods,V3 p m=true:=by
 unfold Br at h;split at h
 ·rename_i hh
  refine⟨hh,?_⟩;split at h
  ·cases h
  ·rename_i s hs
   exact Su (by rw[hs];rfl)
 ·cases h
structure Hs (p:Prog):Prop where
 wok:Y2 (Ar p)
 AL:CX p.AU≤Ax
 many0:p.AU.length≤1000
 facts: ∀m∈p.methods,B6 (Ar p) m.fact=true∧lv m.fact≤12
 many:p.methods.length≤16
theorem look_ok {p:Prog} (h:(Br p).isSome=true):Hs p:=by
 obtain⟨hh,hm⟩:=Gw h;simp only[FE,BO,DU]at hh;have hc:=hh.1;simp only[CA,BO,DU]at hc;have hM:=Mx;refine⟨VC hc.1 hc.2.1 hc.2.2.2.1,by have:=(Gs _ _ hc.2.1).1;omega,by have:=hc.1;omega,fun m h=>?_,hh.2.2.1⟩;have:=hm m h;simp only[V3,GY,BO,DU]at this;have hn:=this.2.2.2.2.1.2.2;refine⟨hn,?_⟩;have hcn:=OC m.fact 24 (by omega) this.2.2.2.2.1.1;have:=sX m.fact (C2 _ hn);omega
def CL (p:Prog) (m:Int):Bool:=decide (0≤m)&&decide (m<(p.methods.length:Int))
def Ct (p:Prog) (m:Int):Ov:=p.methods.getD m.toNat default
theorem EM {p:Prog} {m:Int} (h:CL p m=true):p.methods[m.toNat]? =some (Ct p m):=by
 simp only[CL,BO,DU]at h;rw[Ct,FA,Fs (by omega)];rfl
def E9 (p:Prog) (m n:Int):Bool:=(Ct p m).gen==(Ct p n).gen&&(Ct p m).kind==(Ct p n).kind
def EA (p:Prog) (m n:Int):Bool:=R6 (Ar p) (Ct p m).fact (Ct p n).fact
def Cp (p:Prog) (m n:Int):Bool:=EA p m n&& !EA p n m
end Go.Gl
namespace Go.Gl
variable {P:Program} {σ:AG}
abbrev eU (n:Nat):V:= .i .u64 (n:Int)
theorem Gg {n:Nat} (h:n<18446744073709551616):IntKind.u64.wrap (n:Int)=n:=by
 simp only[IntKind.wrap,IntKind.signed,IntKind.bits];simp;omega
theorem KA {a b:Nat} (ha:a<18446744073709551616) (hb:b<18446744073709551616):bits .or .u64 (a:Int) (b:Int)=((a|||b:Nat):Int):=by
 have h:a|||b<2 ^ 64:=Nat.or_lt_two_pow (n:=64) (by simpa using ha) (by simpa using hb)
 simp only[bits,IntKind.bits]
 have e1:(BitVec.ofInt 64 (a:Int)|||BitVec.ofInt 64 (b:Int)).toNat=a|||b:=by
  simp only[BitVec.ofInt_natCast,BitVec.toNat_or,BitVec.toNat_ofNat];rw[Nat.mod_eq_of_lt (by simpa using ha),Nat.mod_eq_of_lt (by simpa using hb)]
 have e2:=Gg (n:=a|||b) (by simpa using h);rw[←e1]at e2;rw[←e1];exact e2
theorem KZ {a b:Nat} (ha:a<18446744073709551616) (hb:b<18446744073709551616):bits .and .u64 (a:Int) (b:Int)=((a&&&b:Nat):Int):=by
 have h:a&&&b<2 ^ 64:=Nat.and_lt_two_pow (n:=64) a (by simpa using hb);simp only[bits,IntKind.bits]
 have e1:(BitVec.ofInt 64 (a:Int)&&&BitVec.ofInt 64 (b:Int)).toNat=a&&&b:=by
  simp only[BitVec.ofInt_natCast,BitVec.toNat_and,BitVec.toNat_ofNat];rw[Nat.mod_eq_of_lt (by simpa using ha),Nat.mod_eq_of_lt (by simpa using hb)]
 have e2:=Gg (n:=a&&&b) (by simpa using h);rw[←e1]at e2;rw[←e1];exact e2
def M7 (a b:Nat):Nat:=(BitVec.ofNat 64 a&&& ~~~BitVec.ofNat 64 b).toNat
theorem RW (a b:Nat):M7 a b<18446744073709551616:=by
 have:=(BitVec.ofNat 64 a&&& ~~~BitVec.ofNat 64 b).isLt;simpa[M7]using this
theorem P4 {a b:Nat}:bits .andNot .u64 (a:Int) (b:Int)=((M7 a b:Nat):Int):=by
 simp only[bits,IntKind.bits]
 have e1:(BitVec.ofInt 64 (a:Int)&&& ~~~BitVec.ofInt 64 (b:Int)).toNat=M7 a b:=by
  simp only[BitVec.ofInt_natCast,M7]
 have e2:=Gg (n:=M7 a b) (RW a b);rw[←e1]at e2;rw[←e1];exact e2
theorem Nx {a b i:Nat} (hi:i<64):(M7 a b).testBit i=(a.testBit i&& !b.testBit i):=by
 rw[M7,BitVec.testBit_toNat,BitVec.getLsbD_and,BitVec.getLsbD_not];rw[BitVec.getLsbD_ofNat,BitVec.getLsbD_ofNat];simp only[hi,decide_true,Bool.true_and]
theorem WX {c:Nat} (h:c<64):IntKind.u64.wrap (1*2 ^ (min c IntKind.u64.bits))=((2 ^ c:Nat):Int):=by
 have hb:IntKind.u64.bits=64:=rfl;rw[hb,Nat.min_eq_left (by omega),Int.one_mul];have:=Gg (n:=2 ^ c) (by have:=Nat.pow_lt_pow_right (show 1<2 by omega) h;simpa using this);rw[←this];simp
theorem JD {c:Nat} (h:c<64):2 ^ c<18446744073709551616:=by
 have:=Nat.pow_lt_pow_right (show 1<2 by omega) h;simpa using this
theorem WW {a c:Nat} (h:c<64):(a:Int).fdiv (2 ^ (min c IntKind.u64.bits))=((a >>> c:Nat):Int):=by
 have hb:IntKind.u64.bits=64:=rfl;rw[hb,Nat.min_eq_left (by omega),Nat.shiftRight_eq_div_pow,Int.fdiv_eq_ediv_of_nonneg _ (Int.pow_nonneg (by omega))];simp
theorem C7 {v:V} {Q:R→AG→Prop} (h:Q (.Bi v) σ):A5 σ v Q:=⟨v,σ,fun _ _ h=>h,.refl v,h⟩
theorem CZ {g:FuncId} {fi ca args:List V} {Q:R→AG→Prop} (h:BQ P g (fi++args++ca) σ Q):BT P (.f (.func g) fi ca) args σ Q:=h
theorem Pure.of {f:FuncId} {args:List V} {v:V} (h:BQ P f args emp fun r _=>r= .ret v):Pure P f args v:=by
 refine⟨h.1,fun Λ w cs G hv=>Calls.mono (h.2 Λ w cs G hv) fun e w' ⟨r,σ',hr,h1,h2,h3⟩=>?_⟩;subst hr;obtain⟨c,rfl,hv'⟩:=h1;have hsub:Sub emp σ':=fun n o ho=>by cases ho
 exact⟨.ret v,emp,⟨rfl,rfl⟩,⟨c,rfl,F6.rel h2 hsub (.refl v) hv'⟩,h2.drop hsub,⟨h3.frame,h3.size,h3.os,h3.tape,h3.output,fun _ _ _=>rfl⟩⟩
def DD {α S:Type} (P:Program) (x:V) (ea:α→V) (H:S→List At) (stp:α→S→Bool×S) (D:α→S→Prop):Prop:=
 ∀y s,D y s→ ∀σ,Sat σ (H s)→BT P x [ea y] σ fun r σ'=>r= .ret (.b (stp y s).1)∧Sat σ' (H (stp y s).2)
theorem DD.use {α S:Type} {x:V} {ea:α→V} {H:S→List At} {stp:α→S→Bool×S} {D:α→S→Prop} (h:DD P x ea H stp D) {y:α} {s:S} (hd:D y s) (hs:Sat σ (H s)) {k kp:V→AG→Prop} (hk: ∀σ',Sat σ' (H (stp y s).2)→k (.b (stp y s).1) σ'):BT P x [ea y] σ (qk k kp):=
 (h y s hd σ hs).mono fun r σ' ⟨e,h'⟩=>by rw[e];exact hk σ' h'
theorem DD.useF {α S:Type} {g:FuncId} {fi ca:List V} {ea:α→V} {H:S→List At} {stp:α→S→Bool×S} {D:α→S→Prop} (h:DD P (.f (.func g) fi ca) ea H stp D) {y:α} {s:S} (hd:D y s) {rest:List At} (hs:Sat σ (H s++rest)) {k kp:V→AG→Prop} (hk: ∀σ',Sat σ' (H (stp y s).2++rest)→k (.b (stp y s).1) σ'):BT P (.f (.func g) fi ca) [ea y] σ (qk k kp):=by
 refine CZ ?_;have h1:Bx P g (fi++[ea y]++ca) (H s) fun r post=>r= .ret (.b (stp y s).1)∧post=H (stp y s).2:=fun σ hs=>BQ.mono (h y s hd σ hs) fun r σ' ⟨e,h2⟩=>⟨_,⟨e,rfl⟩,h2⟩
 refine h1.use hs ?_;rintro r post σ' ⟨rfl,rfl⟩ hs';exact hk σ' hs'
def CC {α S:Type} (stp:α→S→Bool×S):List α→Nat→S→Int×S
 | [],_,s=>(-1,s)
 | y::r,k,s=>if(stp y s).1 then((k:Int),(stp y s).2)else CC stp r (k+1) (stp y s).2
def CW {α S:Type} (stp:α→S→Bool×S):List α→S→Bool×S
 | [],s=>(true,s)
 | y::r,s=>if(stp y s).1 then CW stp r (stp y s).2 else(false,(stp y s).2)
def UT {α S:Type} (stp:α→S→Bool×S) (D:α→S→Prop):List α→S→Prop
 | [],_=>True
 | y::r,s=>D y s∧UT stp D r (stp y s).2
theorem Li {α S:Type} {stp:α→S→Bool×S}: ∀(xs:List α) (k:Nat) (s:S),(CC (fun y s=>(!(stp y s).1,(stp y s).2)) xs k s).2=(CW stp xs s).2∧(decide ((CC (fun y s=>(!(stp y s).1,(stp y s).2)) xs k s).1≥0)= !(CW stp xs s).1)
 | [],_,_=>⟨rfl,rfl⟩
 | y::r,k,s=>by
   simp only[CC,CW];cases h:(stp y s).1
   ·simp
   ·simpa using Li r (k+1) (stp y s).2
theorem Q5 {α S:Type} {stp:α→S→Bool×S} {D:α→S→Prop}: ∀(xs:List α) (s:S),UT stp D xs s→UT (fun y s=>(!(stp y s).1,(stp y s).2)) D xs s
 | [],_,_=>trivial
 | _::r,_,h=>⟨h.1,Q5 r _ h.2⟩
theorem Ic {α:Type} (f:α→Bool): ∀(xs:List α),CW (fun y (_:Unit)=>(f y,())) xs ()=(xs.all f,())
 | []=>rfl
 | y::r=>by
   simp only[CW,List.all_cons];cases f y
   ·rfl
   ·simpa using Ic f r
theorem K8 {α S:Type} {stp:α→S→Bool×S} {D:α→S→Prop}: ∀ {xs:List α} {s:S},(∀y∈xs,∀s,D y s)→UT stp D xs s
 | [],_,_=>trivial
 | y::r,s,h=>⟨h y (.head _) s,K8 fun z hz=>h z (.tail _ hz)⟩
end Go.Gl
namespace Go.Gl
open Go.Proofs
attribute [local irreducible] BQ BJ A5 Ab AQ A4 Ac Af AR Az AW Aa BT Bf Sat An BZ A6 W
theorem Qj {xs:List Int} {f:Bool} (h:Eo (.l (iL xs) f)):xs.length≤Ax:=Zl h
theorem bc:Pure Tryz.prog 164 [.b true] (.t []):=by
 refine aV nb ?_;have hs:=Sn
 conv=>whnf
 repeat'((first|refine st ?_|(refine sq ?_;intro K U)|(refine si ?_;intro A B Y Z)|(refine Y _ _ ?_;clear Z B Y A)|(refine U _ _ ?_;clear U K)|refine G5 ?_|fail)<;>conv=>whnf)
 all_goals exact AY rfl
abbrev DZ:V:= .ET 242 (.a [])
def rL (xs:List Int) (x:Int):Int:=(CC (fun y (_:Unit)=>(x==y,())) xs 0 ()).1
theorem Nq {α:Type} (f:α→Bool): ∀(xs:List α) (k:Nat),(decide ((CC (fun y (_:Unit)=>(f y,())) xs k ()).1≥0))=xs.any f
 | [],_=>rfl
 | y::r,k=>by
   simp only[CC,List.any_cons];cases f y
   ·simpa using Nq f r (k+1)
   ·simp
theorem Rm (xs:List Int) (x:Int):xs.any (x== ·)=xs.contains x:=by
 induction xs with
 | nil=>rfl
 | cons y r ih=>rw[List.any_cons,List.contains_cons,ih]
theorem fG (xs:List Int) (x:Int):decide (rL xs x≥0)=xs.contains x:=by
 rw[←Rm];exact Nq (x== ·) xs 0
theorem b7 (xs:List Int) (f:Bool) (x:Int):Pure Tryz.prog 193 [.l (iL xs) f,eI x] (eI (rL xs x)):=by
 refine Pure.fit (by kernel_rfl) fun hf=>?_
 have hxl:=Qj hf.1;have hM:=Mx;refine ux nb ?_;have hs:=Sn
 conv=>whnf
 repeat'((first|refine st ?_|(refine sq ?_;intro K U)|(refine si ?_;intro A B Y Z)|(refine Y _ _ ?_;clear Z B Y A)|(refine U _ _ ?_;clear U K)|fail)<;>conv=>whnf)
 refine FR xs.length (fun k (_:Unit)=>[(8,eI (Bo k))]) (fun _ _=>[]) (fun k _=>rL xs x=(CC (fun y (_:Unit)=>(x==y,())) (xs.drop k) k ()).1) () rfl rfl hs ?_;clear hs;rintro k - σ hk hn hs;have hck:Bo k=k:=Ad (by omega);rcases Bq xs hk with⟨y,hy,hlt⟩|hke
 ·rw[drop_cons hy,CC]at hn
  conv=>whnf
  repeat'((first|refine st ?_|(refine sq ?_;intro K U)|(refine si ?_;intro A B Y Z)|(refine Y _ _ ?_;clear Z B Y A)|(refine U _ _ ?_;clear U K)|refine⟨rfl,?_⟩|refine ix ?_|(refine FB (fun hc=>?_)<;>(try rw[hc])<;>clear hc)|(constructor<;>intro hc<;>(try rw[hc])<;>(replace hc:=bp hc))|clear U K)<;>conv=>whnf)
  ·exact AY (by rw[hn,hc,hck];simp)
  ·exact⟨hlt,(),rfl,by rw[hn];simp[hc],hs⟩
 ·rw[Bt hke,CC]at hn
  conv=>whnf
  repeat'((first|refine st ?_|(refine sq ?_;intro K U)|(refine si ?_;intro A B Y Z)|(refine Y _ _ ?_;clear Z B Y A)|(refine U _ _ ?_;clear U K)|refine⟨rfl,?_⟩|(refine F5 (fun hc=>?_)<;>(try rw[hc])<;>clear hc)|clear U K)<;>conv=>whnf)
  exact AY (by rw[hn])
theorem Dc (xs:List Int) (f:Bool) (x:Int):Pure Tryz.prog 172 [.l (iL xs) f,eI x] (.b (xs.contains x)):=by
 refine vD nb ?_;have hs:=Sn
 conv=>whnf
 repeat'((first|refine st ?_|(refine sq ?_;intro K U)|(refine si ?_;intro A B Y Z)|(refine Y _ _ ?_;clear Z B Y A)|(refine U _ _ ?_;clear U K)|refine⟨rfl,?_⟩|refine Pure.use (b7 _ _ _) ?_|fail)<;>conv=>whnf)
 all_goals exact AY (by rw[←fG])
theorem OX (n:Int):Pure Tryz.prog 211 [eI n] (.b (Ul n)):=by
 refine uo nb ?_;have hs:=Sn
 conv=>whnf
 repeat'((first|refine st ?_|(refine sq ?_;intro K U)|(refine si ?_;intro A B Y Z)|(refine Y _ _ ?_;clear Z B Y A)|(refine U _ _ ?_;clear U K)|refine⟨rfl,?_⟩|(constructor<;>intro hc<;>(try rw[hc])<;>(replace hc:=bp hc))|fail)<;>conv=>whnf)
 all_goals exact AY (by simp[Ul, *]<;>omega)
theorem Nh (f:Fact):Cu f=(decide (2≤f.op)&&decide (f.op≤4)):=by
 rw[Bool.eq_iff_iff];simp only[Cu,Bool.or_eq_true,BO,Dp,DU];omega
theorem Q9 (f:Fact):Pure Tryz.prog 150 [.a (xF f)] (.b (Cu f)):=by
 refine vR nb ?_;have hs:=Sn
 conv=>whnf
 repeat'((first|refine st ?_|(refine sq ?_;intro K U)|(refine si ?_;intro A B Y Z)|(refine Y _ _ ?_;clear Z B Y A)|(refine U _ _ ?_;clear U K)|refine⟨rfl,?_⟩|(constructor<;>intro hc<;>(try rw[hc])<;>(replace hc:=bp hc))|fail)<;>conv=>whnf)
 all_goals exact AY (by rw[Nh];simp[*]<;>omega)
theorem WU (s c:Nat) (hs0:s<18446744073709551616) (hc:c<64):Pure Tryz.prog 176 [eU s,eI c] (eU (s|||2 ^ c)):=by
 refine vA nb ?_;have hs:=Sn
 conv=>whnf
 repeat'((first|(refine sq ?_;intro K U)|(refine si ?_;intro A B Y Z)|(refine Y _ _ ?_;clear Z B Y A)|(refine U _ _ ?_;clear U K)|fail)<;>conv=>whnf)
 refine⟨Int.natCast_nonneg _,?_⟩
 conv=>whnf
 repeat'((first|refine st ?_|(refine Y _ _ ?_;clear Z B Y A)|(refine U _ _ ?_;clear U K)|refine⟨rfl,?_⟩|fail)<;>conv=>whnf)
 exact AY (by rw[Int.toNat_natCast,WX hc,KA hs0 (JD hc)])
theorem Qg (s c:Nat) (hs0:s<18446744073709551616) (hc:c<64):Pure Tryz.prog 152 [eU s,eI c] (.b (s.testBit c)):=by
 refine vQ nb ?_;have hs:=Sn
 conv=>whnf
 repeat'((first|(refine sq ?_;intro K U)|(refine si ?_;intro A B Y Z)|(refine Y _ _ ?_;clear Z B Y A)|(refine U _ _ ?_;clear U K)|fail)<;>conv=>whnf)
 refine⟨Int.natCast_nonneg _,?_⟩
 conv=>whnf
 repeat'((first|refine st ?_|(refine Y _ _ ?_;clear Z B Y A)|(refine U _ _ ?_;clear U K)|refine⟨rfl,?_⟩|fail)<;>conv=>whnf)
 refine AY ?_;rw[Int.toNat_natCast,WW hc];have h1:s >>> c<18446744073709551616:=by rw[Nat.shiftRight_eq_div_pow];exact Nat.lt_of_le_of_lt (Nat.div_le_self _ _) hs0
 have h2:bits .and .u64 ((s >>> c:Nat):Int) 1=((s >>> c&&&1:Nat):Int):=KZ h1 (show 1<_ by decide);rw[h2];simp only[Nat.testBit,Nat.and_comm 1];congr 1;rcases Nat.mod_two_eq_zero_or_one (s >>> c)with h|h<;>simp[Nat.and_one_is_mod,h]
theorem fE (op:Int):Pure Tryz.prog 220 [eI op] (eI (Cy op)):=by
 refine uf nb ?_;have hs:=Sn
 conv=>whnf
 repeat'((first|refine st ?_|(refine sq ?_;intro K U)|(refine si ?_;intro A B Y Z)|(refine Y _ _ ?_;clear Z B Y A)|(refine U _ _ ?_;clear U K)|refine⟨rfl,?_⟩|(constructor<;>intro hc<;>(try rw[hc])<;>(replace hc:=bp hc))|clear U K)<;>conv=>whnf)
 all_goals exact AY (by simp[Cy, *])
theorem VM (b:Bool):Pure Tryz.prog 215 [.b b] (eI (if b then 0 else 2)):=by
 refine uj nb ?_;have hs:=Sn
 conv=>whnf
 repeat'((first|refine st ?_|(refine sq ?_;intro K U)|(refine si ?_;intro A B Y Z)|(refine Y _ _ ?_;clear Z B Y A)|(refine U _ _ ?_;clear U K)|(constructor<;>intro hc<;>(try rw[hc])<;>(replace hc:=bp hc))|clear U K)<;>conv=>whnf)
 all_goals exact AY (by simp[*])
theorem Rg {S:Type} (g:FuncId) (fi ca:List V) (H:S→List At) (stp:Int→S→Bool×S) (D:Int→S→Prop) (hx:DD Tryz.prog (.f (.func g) fi ca) eI H stp D) (xs:List Int) (f:Bool) (s0:S) (hd:UT stp D xs s0) :
 Bx Tryz.prog 103 [.l (iL xs) f,.f (.func g) fi ca] (H s0) fun r post=>r= .ret (eI (CC stp xs 0 s0).1)∧post=H (CC stp xs 0 s0).2:=by
 intro σ hs;refine BQ.fit (by kernel_rfl) fun hf=>?_
 have hxl:=Qj hf.1;have hM:=Mx;refine aW nb ?_
 conv=>whnf
 repeat'((first|refine st ?_|(refine sq ?_;intro K U)|(refine si ?_;intro A B Y Z)|(refine Y _ _ ?_;clear Z B Y A)|(refine U _ _ ?_;clear U K)|fail)<;>conv=>whnf)
 refine FR xs.length (fun k (_:S)=>[(8,eI (Bo k))]) (fun _ s=>H s) (fun k s=>UT stp D (xs.drop k) s∧CC stp xs 0 s0=CC stp (xs.drop k) k s) s0 rfl ⟨hd,rfl⟩ hs ?_;clear hs;rintro k s σ hk ⟨hd,hn⟩ hs;have hck:Bo k=k:=Ad (by omega);rcases Bq xs hk with⟨y,hy,hlt⟩|hke
 ·rw[drop_cons hy]at hn hd
  obtain⟨hd1,hd2⟩:=hd;rw[CC]at hn
  conv=>whnf
  repeat'((first|refine st ?_|(refine sq ?_;intro K U)|(refine si ?_;intro A B Y Z)|(refine Y _ _ ?_;clear Z B Y A)|(refine U _ _ ?_;clear U K)|refine⟨rfl,?_⟩|refine ix ?_|(refine FB (fun hc=>?_)<;>(try rw[hc])<;>clear hc)|fail)<;>conv=>whnf)
  refine hx.use hd1 hs ?_;clear hs;intro σ hs
  conv=>whnf
  repeat'((first|refine st ?_|(refine sq ?_;intro K U)|(refine si ?_;intro A B Y Z)|(refine Y _ _ ?_;clear Z B Y A)|(refine U _ _ ?_;clear U K)|refine⟨rfl,?_⟩|(constructor<;>intro hc<;>(try rw[hc])<;>(replace hc:=bp hc))|clear U K)<;>conv=>whnf)
  ·rw[hc,if_pos rfl]at hn
   rw[hn];exact BU hs (List.Sublist.refl _) (by rw[hck];exact .refl _) fun σ' hs'=>⟨_,⟨rfl,rfl⟩,hs'⟩
  ·rw[hc,if_neg (by decide)]at hn
   exact⟨hlt,_,rfl,⟨hd2,hn⟩,hs⟩
 ·rw[Bt hke,CC]at hn
  conv=>whnf
  repeat'((first|refine st ?_|(refine sq ?_;intro K U)|(refine si ?_;intro A B Y Z)|(refine Y _ _ ?_;clear Z B Y A)|(refine U _ _ ?_;clear U K)|refine⟨rfl,?_⟩|(refine F5 (fun hc=>?_)<;>(try rw[hc])<;>clear hc)|clear U K)<;>conv=>whnf)
  rw[hn];exact BU hs (List.Sublist.refl _) (.refl _) fun σ' hs'=>⟨_,⟨rfl,rfl⟩,hs'⟩
section
variable {S:Type} (g:FuncId) (fi ca:List V) (H:S→List At)
theorem Od (stp:Int→S→Bool×S) (D:Int→S→Prop) (hx:DD Tryz.prog (.f (.func g) fi ca) eI H stp D) (xs:List Int) (f:Bool) (s0:S) (hd:UT stp D xs s0) :
 Bx Tryz.prog 72 [.l (iL xs) f,.f (.func g) fi ca] (H s0) fun r post=>r= .ret (.b (decide ((CC stp xs 0 s0).1≥0)))∧post=H (CC stp xs 0 s0).2:=by
 intro σ hs;refine oe nb ?_
 conv=>whnf
 repeat'((first|(refine sq ?_;intro K U)|(refine si ?_;intro A B Y Z)|(refine Y _ _ ?_;clear Z B Y A)|(refine U _ _ ?_;clear U K)|fail)<;>conv=>whnf)
 refine(Rg g fi ca H stp D hx xs f s0 hd).use (rest:=[]) (by simpa using hs) ?_;rintro r post σ ⟨rfl,rfl⟩ hs
 conv=>whnf
 repeat'((first|refine st ?_|(refine Y _ _ ?_;clear Z B Y A)|(refine U _ _ ?_;clear U K)|refine⟨rfl,?_⟩|fail)<;>conv=>whnf)
 exact BU hs (by simp) (.refl _) fun σ' hs'=>⟨_,⟨rfl,rfl⟩,hs'⟩
theorem sM (stp:Int→S→Bool×S) (D:Int→S→Prop) (hx:DD Tryz.prog (.f (.func g) fi ca) eI H stp D):DD Tryz.prog (.f (.func 217) [] [.rp [.f (.func g) fi ca]]) eI H (fun y s=>(!(stp y s).1,(stp y s).2)) D:=by
 intro y s hd σ hs;refine CZ ?_;show BQ Tryz.prog 217 ([]++[eI y]++[.rp [.f (.func g) fi ca]]) σ _;refine aR nb ?_
 conv=>whnf
 repeat'((first|refine st ?_|(refine sq ?_;intro K U)|(refine si ?_;intro A B Y Z)|(refine Y _ _ ?_;clear Z B Y A)|(refine U _ _ ?_;clear U K)|fail)<;>conv=>whnf)
 refine hx.use hd hs ?_;clear hs;intro σ hs
 conv=>whnf
 repeat'((first|refine st ?_|(refine Y _ _ ?_;clear Z B Y A)|(refine U _ _ ?_;clear U K)|fail)<;>conv=>whnf)
 exact BU hs (List.Sublist.refl _) (.refl _) fun σ' hs'=>⟨rfl,hs'⟩
theorem ai (stp:Int→S→Bool×S) (D:Int→S→Prop) (hx:DD Tryz.prog (.f (.func g) fi ca) eI H stp D) (xs:List Int) (f:Bool) (s0:S) (hd:UT stp D xs s0) :
 Bx Tryz.prog 177 [.l (iL xs) f,.f (.func g) fi ca] (H s0) fun r post=>r= .ret (.b (CW stp xs s0).1)∧post=H (CW stp xs s0).2:=by
 intro σ hs;obtain⟨e1,e2⟩:=Li (stp:=stp) xs 0 s0;refine aT nb ?_
 conv=>whnf
 repeat'((first|(refine sq ?_;intro K U)|(refine si ?_;intro A B Y Z)|(refine Y _ _ ?_;clear Z B Y A)|(refine U _ _ ?_;clear U K)|fail)<;>conv=>whnf)
 refine(Od 217 [] [.rp [.f (.func g) fi ca]] H _ D (sM g fi ca H stp D hx) xs f s0 (Q5 xs s0 hd)).use (rest:=[]) (by simpa using hs) ?_;rintro r post σ ⟨rfl,rfl⟩ hs;rw[e2];rw[e1]at hs
 conv=>whnf
 repeat'((first|refine st ?_|(refine Y _ _ ?_;clear Z B Y A)|(refine U _ _ ?_;clear U K)|fail)<;>conv=>whnf)
 exact BU hs (by simp) (by rw[Bool.not_not];exact .refl _) fun σ' hs'=>⟨_,⟨rfl,rfl⟩,hs'⟩
theorem Rf (stp:Fact→S→Bool×S) (D:Fact→S→Prop) (hx:DD Tryz.prog (.f (.func g) fi ca) (fun y=> .a (xF y)) H stp D) (xs:List Fact) (f:Bool) (s0:S) (hxl:xs.length≤Ax) (hd:UT stp D xs s0) :
 Bx Tryz.prog 253 [.l (facts xs) f,.f (.func g) fi ca] (H s0) fun r post=>r= .ret (eI (CC stp xs 0 s0).1)∧post=H (CC stp xs 0 s0).2:=by
 intro σ hs;have hM:=Mx;refine uR nb ?_
 conv=>whnf
 repeat'((first|refine st ?_|(refine sq ?_;intro K U)|(refine si ?_;intro A B Y Z)|(refine Y _ _ ?_;clear Z B Y A)|(refine U _ _ ?_;clear U K)|fail)<;>conv=>whnf)
 refine FR xs.length (fun k (_:S)=>[(8,eI (Bo k))]) (fun _ s=>H s) (fun k s=>UT stp D (xs.drop k) s∧CC stp xs 0 s0=CC stp (xs.drop k) k s) s0 rfl ⟨hd,rfl⟩ hs ?_;clear hs;rintro k s σ hk ⟨hd,hn⟩ hs;have hck:Bo k=k:=Ad (by omega);rcases Bq xs hk with⟨y,hy,hlt⟩|hke
 ·rw[drop_cons hy]at hn hd
  obtain⟨hd1,hd2⟩:=hd;rw[CC]at hn
  conv=>whnf
  repeat'((first|refine st ?_|(refine sq ?_;intro K U)|(refine si ?_;intro A B Y Z)|(refine Y _ _ ?_;clear Z B Y A)|(refine U _ _ ?_;clear U K)|refine⟨rfl,?_⟩|refine⟨nb,?_⟩|refine ixF ?_|(refine FB (fun hc=>?_)<;>(try rw[hc])<;>clear hc)|fail)<;>conv=>whnf)
  refine hx.use hd1 hs ?_;clear hs;intro σ hs
  conv=>whnf
  repeat'((first|refine st ?_|(refine sq ?_;intro K U)|(refine si ?_;intro A B Y Z)|(refine Y _ _ ?_;clear Z B Y A)|(refine U _ _ ?_;clear U K)|refine⟨rfl,?_⟩|(constructor<;>intro hc<;>(try rw[hc])<;>(replace hc:=bp hc))|clear U K)<;>conv=>whnf)
  ·rw[hc,if_pos rfl]at hn
   rw[hn];exact BU hs (List.Sublist.refl _) (by rw[hck];exact .refl _) fun σ' hs'=>⟨_,⟨rfl,rfl⟩,hs'⟩
  ·rw[hc,if_neg (by decide)]at hn
   exact⟨hlt,_,rfl,⟨hd2,hn⟩,hs⟩
 ·rw[Bt hke,CC]at hn
  conv=>whnf
  repeat'((first|refine st ?_|(refine sq ?_;intro K U)|(refine si ?_;intro A B Y Z)|(refine Y _ _ ?_;clear Z B Y A)|(refine U _ _ ?_;clear U K)|refine⟨rfl,?_⟩|(refine F5 (fun hc=>?_)<;>(try rw[hc])<;>clear hc)|clear U K)<;>conv=>whnf)
  rw[hn];exact BU hs (List.Sublist.refl _) (.refl _) fun σ' hs'=>⟨_,⟨rfl,rfl⟩,hs'⟩
theorem MZ (stp:Fact→S→Bool×S) (D:Fact→S→Prop) (hx:DD Tryz.prog (.f (.func g) fi ca) (fun y=> .a (xF y)) H stp D) (xs:List Fact) (f:Bool) (s0:S) (hxl:xs.length≤Ax) (hd:UT stp D xs s0) :
 Bx Tryz.prog 218 [.l (facts xs) f,.f (.func g) fi ca] (H s0) fun r post=>r= .ret (.b (decide ((CC stp xs 0 s0).1≥0)))∧post=H (CC stp xs 0 s0).2:=by
 intro σ hs;refine uh nb ?_
 conv=>whnf
 repeat'((first|(refine sq ?_;intro K U)|(refine si ?_;intro A B Y Z)|(refine Y _ _ ?_;clear Z B Y A)|(refine U _ _ ?_;clear U K)|fail)<;>conv=>whnf)
 refine(Rf g fi ca H stp D hx xs f s0 hxl hd).use (rest:=[]) (by simpa using hs) ?_;rintro r post σ ⟨rfl,rfl⟩ hs
 conv=>whnf
 repeat'((first|refine st ?_|(refine Y _ _ ?_;clear Z B Y A)|(refine U _ _ ?_;clear U K)|refine⟨rfl,?_⟩|fail)<;>conv=>whnf)
 exact BU hs (by simp) (.refl _) fun σ' hs'=>⟨_,⟨rfl,rfl⟩,hs'⟩
theorem sL (stp:Fact→S→Bool×S) (D:Fact→S→Prop) (hx:DD Tryz.prog (.f (.func g) fi ca) (fun y=> .a (xF y)) H stp D):DD Tryz.prog (.f (.func 219) [] [.rp [.f (.func g) fi ca]]) (fun y=> .a (xF y)) H (fun y s=>(!(stp y s).1,(stp y s).2)) D:=by
 intro y s hd σ hs;refine CZ ?_;show BQ Tryz.prog 219 ([]++[.a (xF y)]++[.rp [.f (.func g) fi ca]]) σ _;refine ug nb ?_
 conv=>whnf
 repeat'((first|refine st ?_|(refine sq ?_;intro K U)|(refine si ?_;intro A B Y Z)|(refine Y _ _ ?_;clear Z B Y A)|(refine U _ _ ?_;clear U K)|refine⟨nb,?_⟩|fail)<;>conv=>whnf)
 refine hx.use hd hs ?_;clear hs;intro σ hs
 conv=>whnf
 repeat'((first|refine st ?_|(refine Y _ _ ?_;clear Z B Y A)|(refine U _ _ ?_;clear U K)|fail)<;>conv=>whnf)
 exact BU hs (List.Sublist.refl _) (.refl _) fun σ' hs'=>⟨rfl,hs'⟩
theorem ah (stp:Fact→S→Bool×S) (D:Fact→S→Prop) (hx:DD Tryz.prog (.f (.func g) fi ca) (fun y=> .a (xF y)) H stp D) (xs:List Fact) (f:Bool) (s0:S) (hxl:xs.length≤Ax) (hd:UT stp D xs s0) :
 Bx Tryz.prog 179 [.l (facts xs) f,.f (.func g) fi ca] (H s0) fun r post=>r= .ret (.b (CW stp xs s0).1)∧post=H (CW stp xs s0).2:=by
 intro σ hs;obtain⟨e1,e2⟩:=Li (stp:=stp) xs 0 s0;refine u7 nb ?_
 conv=>whnf
 repeat'((first|(refine sq ?_;intro K U)|(refine si ?_;intro A B Y Z)|(refine Y _ _ ?_;clear Z B Y A)|(refine U _ _ ?_;clear U K)|fail)<;>conv=>whnf)
 refine(MZ 219 [] [.rp [.f (.func g) fi ca]] H _ D (sL g fi ca H stp D hx) xs f s0 hxl (Q5 xs s0 hd)).use (rest:=[]) (by simpa using hs) ?_;rintro r post σ ⟨rfl,rfl⟩ hs;rw[e2];rw[e1]at hs
 conv=>whnf
 repeat'((first|refine st ?_|(refine Y _ _ ?_;clear Z B Y A)|(refine U _ _ ?_;clear U K)|fail)<;>conv=>whnf)
 exact BU hs (by simp) (by rw[Bool.not_not];exact .refl _) fun σ' hs'=>⟨_,⟨rfl,rfl⟩,hs'⟩
end
abbrev SO (f:Int→Bool):Int→Unit→Bool×Unit:=fun y _=>(f y,())
theorem VG {g:FuncId} {fi ca:List V} {f:Int→Bool} {D:Int→Unit→Prop} (h: ∀y,D y ()→Pure Tryz.prog g (fi++[eI y]++ca) (.b (f y))):DD Tryz.prog (.f (.func g) fi ca) eI (fun _=>[]) (SO f) D:=by
 intro y s hd σ hs;refine CZ ?_;show BQ Tryz.prog g (fi++[eI y]++ca) σ _;refine BQ.mono ((h y hd).use (k:=fun v σ'=>v= .b (f y)∧Sat σ' []) (kp:=fun _ _=>False) ⟨rfl,Sat.nil⟩) ?_;rintro(v|v) σ' hq
 ·obtain⟨rfl,h⟩:=hq
  exact⟨rfl,h⟩
 ·exact hq.elim
theorem kC {g:FuncId} {fi ca:List V} {f:Int→Bool} {xs:List Int} (b:Bool) (h: ∀y∈xs,Pure Tryz.prog g (fi++[eI y]++ca) (.b (f y))):Pure Tryz.prog 177 [.l (iL xs) b,.f (.func g) fi ca] (.b (xs.all f)):=by
 have:=ai g fi ca (fun _=>[]) (SO f) (fun y _=>y∈xs) (VG fun y hy=>h y hy) xs b () (K8 fun y hy _=>hy);rw[Ic]at this;exact Pure.of (BQ.mono (this emp Sat.nil) fun r σ' ⟨post,⟨h1,h2⟩,h3⟩=>h1)
def Sc (g:FuncId) (fi ca:List V) (f:Int→Bool):Prop:= ∀y:Int,Pure Tryz.prog g (fi++[eI y]++ca) (.b (f y))
theorem Sc.use {g:FuncId} {fi ca:List V} {f:Int→Bool} (h:Sc g fi ca f) {y:Int} {σ:AG} {k kp:V→AG→Prop} (hk:k (.b (f y)) σ):BT Tryz.prog (.f (.func g) fi ca) [eI y] σ (qk k kp):=CZ ((h y).use hk)
theorem fF (g:FuncId) (fi ca:List V) (L:List At) (p:Int→Bool) (hx:DD Tryz.prog (.f (.func g) fi ca) eI (fun _:Unit=>L) (SO p) (fun _ _=>True)) (xs:List Int) (f:Bool):Bx Tryz.prog 286 [.l (iL xs) f,.f (.func g) fi ca] L fun r post=>r= .ret (.l (iL (xs.filter p)) false)∧post=L:=by
 intro σ hs;refine BQ.fit (by kernel_rfl) fun hf=>?_
 have hxl:=Qj hf.1;have hM:=Mx;refine aP nb ?_
 conv=>whnf
 repeat'((first|refine st ?_|(refine sq ?_;intro K U)|(refine si ?_;intro A B Y Z)|(refine Y _ _ ?_;clear Z B Y A)|(refine U _ _ ?_;clear U K)|fail)<;>conv=>whnf)
 refine FR xs.length (fun k v=>[(5,v),(10,eI (Bo k))]) (fun k v=>L++[.own v 1 (iL ((xs.take k).filter p))]) (fun _ _=>True) (.l [] true) rfl trivial (Xd hs 1) ?_;clear hs;rintro k v σ hk - hs;have hfl:=List.length_filter_le p (xs.take k);rw[UD]at hfl;rcases Bq xs hk with⟨y,hy,hlt⟩|hke
 ·have hst:(xs.take (k+1)).filter p=if p y then(xs.take k).filter p++[y]else(xs.take k).filter p:=by
   rw[BF hy,List.filter_append];cases hp:p y<;>simp[hp]
  generalize (xs.take k).filter p=zs at *
  conv=>whnf
  repeat'((first|refine st ?_|(refine sq ?_;intro K U)|(refine si ?_;intro A B Y Z)|(refine Y _ _ ?_;clear Z B Y A)|(refine U _ _ ?_;clear U K)|refine⟨rfl,?_⟩|refine ix ?_|(refine FB (fun hc=>?_)<;>(try rw[hc])<;>clear hc)|refine hx.useF (s:=()) (rest:=[_]) trivial hs (fun σ hs=>?_)|(constructor<;>intro hc<;>(try rw[hc])<;>(replace hc:=bp hc)<;>(try simp(disch:=omega) only[Ce,wrap64,Ad]at hc))|clear U K)<;>conv=>whnf)
  ·refine HL (WK hs L.length (xs:=zs) (x:=y) List.getElem?_concat_length (by omega) FK fun v' σ' hs' hsl=>?_)
   rw[List.set_append_right _ _ (Nat.le_refl _),Nat.sub_self]at hs';replace hs:=hs'
   conv=>whnf
   repeat'((first|(refine si ?_;intro A B Y Z)|(refine Y _ _ ?_;clear Z B Y A)|(refine U _ _ ?_;clear U K)|refine⟨rfl,?_⟩|clear U K)<;>conv=>whnf)
   rw[if_pos (by assumption)]at hst;exact⟨hlt,_,rfl,trivial,by rw[hst];exact hs⟩
  ·rw[if_neg (by simp[*])]at hst
   exact⟨hlt,_,rfl,trivial,by rw[hst];exact hs⟩
 ·conv=>whnf
  repeat'((first|refine st ?_|(refine sq ?_;intro K U)|(refine si ?_;intro A B Y Z)|(refine Y _ _ ?_;clear Z B Y A)|(refine U _ _ ?_;clear U K)|refine⟨rfl,?_⟩|(refine F5 (fun hc=>?_)<;>(try rw[hc])<;>clear hc)|clear U K)<;>conv=>whnf)
  rw[Cz hke]at hs;obtain⟨σ2,h1,h2,h3⟩:=WH hs L.length List.getElem?_concat_length;refine KB h1 h2 ⟨_,⟨rfl,rfl⟩,?_⟩;rw[List.eraseIdx_append_of_length_le (Nat.le_refl _),Nat.sub_self]at h3;simpa using h3
theorem bu (g:FuncId) (fi ca:List V) (p:Int→Bool) (hpf:Sc g fi ca p) (xs:List Int) (u:V) (hxl:xs.length≤Ax):Bx Tryz.prog 286 [u,.f (.func g) fi ca] [.own u 1 (iL xs)] fun r post=>r= .ret (.l (iL (xs.filter p)) false)∧post= [.own u 1 (iL xs)]:=by
 intro σ hs;have hM:=Mx;refine aP nb ?_
 conv=>whnf
 repeat'((first|refine st ?_|(refine sq ?_;intro K U)|(refine si ?_;intro A B Y Z)|(refine Y _ _ ?_;clear Z B Y A)|(refine U _ _ ?_;clear U K)|refine lo ?_|fail)<;>conv=>whnf)
 refine FR xs.length (fun k v=>[(5,v),(10,eI (Bo k))]) (fun k v=>[.own u 1 (iL xs),.own v 1 (iL ((xs.take k).filter p))]) (fun _ _=>True) (.l [] true) rfl trivial (Xd hs 1) ?_;clear hs;rintro k v σ hk - hs;have hfl:=List.length_filter_le p (xs.take k);rw[UD]at hfl;rcases Bq xs hk with⟨y,hy,hlt⟩|hke
 ·have hst:(xs.take (k+1)).filter p=if p y then(xs.take k).filter p++[y]else(xs.take k).filter p:=by
   rw[BF hy,List.filter_append];cases hp:p y<;>simp[hp]
  generalize (xs.take k).filter p=zs at *
  conv=>whnf
  repeat'((first|refine st ?_|(refine sq ?_;intro K U)|(refine si ?_;intro A B Y Z)|(refine Y _ _ ?_;clear Z B Y A)|(refine U _ _ ?_;clear U K)|refine⟨rfl,?_⟩|refine oc ?_|refine wS ?_|refine aq fun v σ hs hsl=>?_|(refine FB (fun hc=>?_)<;>(try rw[hc])<;>clear hc)|refine Sc.use hpf ?_|(constructor<;>intro hc<;>(try rw[hc])<;>(replace hc:=bp hc))|clear U K)<;>conv=>whnf)
  ·rw[if_pos (by assumption)]at hst
   exact⟨hlt,_,rfl,trivial,by rw[hst];exact hs.take 2⟩
  ·rw[if_neg (by simp[*])]at hst
   exact⟨hlt,_,rfl,trivial,by rw[hst];exact hs.take 2⟩
 ·conv=>whnf
  repeat'((first|refine st ?_|(refine sq ?_;intro K U)|(refine si ?_;intro A B Y Z)|(refine Y _ _ ?_;clear Z B Y A)|(refine U _ _ ?_;clear U K)|refine⟨rfl,?_⟩|(refine F5 (fun hc=>?_)<;>(try rw[hc])<;>clear hc)|clear U K)<;>conv=>whnf)
  rw[Cz hke]at hs;obtain⟨σ2,h1,h2,h3⟩:=WH hs 1 rfl;exact KB h1 h2 ⟨_,⟨rfl,rfl⟩,h3⟩
theorem yI:Sc 289 [] [] (· != 0):=by
 intro y;refine ts nb ?_;have hs:=Sn
 conv=>whnf
 repeat'((first|refine st ?_|(refine sq ?_;intro K U)|(refine si ?_;intro A B Y Z)|(refine Y _ _ ?_;clear Z B Y A)|(refine U _ _ ?_;clear U K)|refine⟨rfl,?_⟩|fail)<;>conv=>whnf)
 all_goals exact AY rfl
theorem cZ (xs:List Int) (u:V) (hxl:xs.length≤Ax):Bx Tryz.prog 285 [u] [.own u 1 (iL xs)] fun r post=>r= .ret (.l (iL (xs.filter (· != 0))) false)∧post= [.own u 1 (iL xs)]:=by
 intro σ hs;refine tv nb ?_
 conv=>whnf
 repeat'((first|(refine sq ?_;intro K U)|(refine si ?_;intro A B Y Z)|(refine Y _ _ ?_;clear Z B Y A)|(refine U _ _ ?_;clear U K)|fail)<;>conv=>whnf)
 refine(bu 289 [] [] (· != 0) yI xs u hxl).use (rest:=[]) hs ?_;clear hs;rintro r post σ ⟨rfl,rfl⟩ hs
 conv=>whnf
 repeat'((first|refine st ?_|(refine Y _ _ ?_;clear Z B Y A)|(refine U _ _ ?_;clear U K)|fail)<;>conv=>whnf)
 exact BU hs (by simp) (.refl _) fun σ' hs'=>⟨_,⟨rfl,rfl⟩,hs'⟩
theorem W8 (g:List (List Int)) (f:Bool):Pure Tryz.prog 249 [.l (Ji g) f] (.b (Es g)):=by
 refine Pure.fit (by kernel_rfl) fun hf=>?_
 have⟨g1,g2⟩:=aL hf.1;have hM:=Mx;refine uU nb ?_;have hs:=Sn;by_cases h16:g.length≤16
 ·conv=>whnf
  repeat'((first|refine st ?_|(refine sq ?_;intro K U)|(refine si ?_;intro A B Y Z)|(refine Y _ _ ?_;clear Z B Y A)|(refine U _ _ ?_;clear U K)|refine⟨rfl,?_⟩|(constructor<;>intro hc<;>(try rw[hc])<;>(replace hc:=bp hc)<;>(try simp(disch:=omega) only[Ce,wrap64,Ad]at hc)<;>try(exfalso;omega))|fail)<;>conv=>whnf)
  all_goals try(exfalso;omega)
  refine FR g.length (fun k (_:Unit)=>[(12,eI (Bo k))]) (fun _ _=>[]) (fun k _=>Es g=M9 k (g.drop k)) () rfl (by simp[Es,h16]) hs ?_;clear hs;rintro k - σ hk hn hs;have hck:Bo k=k:=Ad (by omega);rcases Bq g hk with⟨l,hl,hlt⟩|hke
  ·have hll:=g2 l (Fo hl)
   rw[drop_cons hl,M9]at hn;by_cases h3:l.length≤3
   ·rw[decide_eq_true h3,Bool.true_and]at hn
    conv=>whnf
    repeat'((first|refine st ?_|(refine sq ?_;intro K U)|(refine si ?_;intro A B Y Z)|(refine Y _ _ ?_;clear Z B Y A)|(refine U _ _ ?_;clear U K)|refine⟨rfl,?_⟩|refine ix ?_|(refine FB (fun hc=>?_)<;>(try rw[hc])<;>clear hc)|(constructor<;>intro hc<;>(try rw[hc])<;>(replace hc:=bp hc)<;>(try simp(disch:=omega) only[Ce,wrap64,Ad]at hc)<;>try(exfalso;omega))|fail)<;>conv=>whnf)
    all_goals try(exfalso;omega)
    refine FR l.length (fun j (_:Unit)=>[(22,eI (Bo j))]) (fun _ _=>[]) (fun j _=>Es g=(Xg k (l.take j) (l.drop j)&&M9 (k+1) (g.drop (k+1)))) () rfl hn hs ?_;clear hs hn;rintro j - σ hj hn hs;rcases Bq l hj with⟨c,hc0,hjlt⟩|hje
    ·rw[drop_cons hc0,Xg,elB]at hn
     have hw:IntKind.i64.wrap (3+Bo k)=3+(k:Int):=by rw[hck,wrap64 (by omega) (by omega)]
     conv=>whnf
     repeat'((first|refine st ?_|(refine sq ?_;intro K U)|(refine si ?_;intro A B Y Z)|(refine Y _ _ ?_;clear Z B Y A)|(refine U _ _ ?_;clear U K)|refine⟨rfl,?_⟩|refine ix ?_|refine sk1 ?_|(refine FB (fun hc=>?_)<;>(try rw[hc])<;>clear hc)|refine Pure.use (Dc _ _ _) ?_|(constructor<;>intro hc<;>(try rw[hc])<;>(replace hc:=bp hc)<;>(try simp(disch:=omega) only[Ce,wrap64,Ad]at hc))|clear U K)<;>conv=>whnf)
     ·exact AY (by rw[hn,hc];simp)
     ·exact⟨hjlt,(),rfl,by rw[hn,hc,BF hc0];simp[*],hs⟩
     ·exact AY (by(rw[hn];have: ¬c<3+(k:Int):=by omega);simp[this])
     ·exact AY (by(rw[hn];have: ¬3≤c:=by omega);simp[this])
    ·conv=>whnf
     repeat'((first|refine st ?_|(refine sq ?_;intro K U)|(refine si ?_;intro A B Y Z)|(refine Y _ _ ?_;clear Z B Y A)|(refine U _ _ ?_;clear U K)|refine⟨rfl,?_⟩|(refine F5 (fun hc=>?_)<;>(try rw[hc])<;>clear hc)|clear U K)<;>conv=>whnf)
     exact⟨hlt,(),rfl,by rw[hn,Bt hje];rfl,hs⟩
   ·conv=>whnf
    repeat'((first|refine st ?_|(refine sq ?_;intro K U)|(refine si ?_;intro A B Y Z)|(refine Y _ _ ?_;clear Z B Y A)|(refine U _ _ ?_;clear U K)|refine⟨rfl,?_⟩|refine ix ?_|(refine FB (fun hc=>?_)<;>(try rw[hc])<;>clear hc)|(constructor<;>intro hc<;>(try rw[hc])<;>(replace hc:=bp hc)<;>(try simp(disch:=omega) only[Ce,wrap64,Ad]at hc)<;>try(exfalso;omega))|clear U K)<;>conv=>whnf)
    all_goals try(exfalso;omega)
    exact AY (by rw[hn];simp[h3])
  ·conv=>whnf
   repeat'((first|refine st ?_|(refine sq ?_;intro K U)|(refine si ?_;intro A B Y Z)|(refine Y _ _ ?_;clear Z B Y A)|(refine U _ _ ?_;clear U K)|refine⟨rfl,?_⟩|(refine F5 (fun hc=>?_)<;>(try rw[hc])<;>clear hc)|clear U K)<;>conv=>whnf)
   exact AY (by rw[hn,Bt hke];rfl)
 ·conv=>whnf
  repeat'((first|refine st ?_|(refine sq ?_;intro K U)|(refine si ?_;intro A B Y Z)|(refine Y _ _ ?_;clear Z B Y A)|(refine U _ _ ?_;clear U K)|refine⟨rfl,?_⟩|(constructor<;>intro hc<;>(try rw[hc])<;>(replace hc:=bp hc)<;>(try simp(disch:=omega) only[Ce,wrap64,Ad]at hc)<;>try(exfalso;omega))|clear U K)<;>conv=>whnf)
  all_goals try(exfalso;omega)
  exact AY (by simp[Es,h16])
theorem TU (g:List (List Int)) (f:Bool):Pure Tryz.prog 208 [.l (Ji g) f] (eI (if Es g then 0 else 2)):=by
 refine uu nb ?_;have hs:=Sn
 conv=>whnf
 repeat'((first|refine st ?_|(refine sq ?_;intro K U)|(refine si ?_;intro A B Y Z)|(refine Y _ _ ?_;clear Z B Y A)|(refine U _ _ ?_;clear U K)|refine Pure.use (W8 _ _) ?_|(constructor<;>intro hc<;>(try rw[hc])<;>(replace hc:=bp hc))|clear U K)<;>conv=>whnf)
 all_goals exact AY (by simp[*])
end Go.Gl
