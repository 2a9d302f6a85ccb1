import Derived.Test.YtijbpgdmpejgoaaGreatQ13
set_option linter.all false
set_option linter.unusedVariables false
set_option linter.unusedSimpArgs false
namespace Go.Gl
open Go.Proofs
attribute [local irreducible] Bj Bf Ba Al Aa BS Ao Aq Ac BO Ah Ap Bz CA Sat A7 B8 Be W
abbrev BB:=List Bool×List Bool
def Io (x:Fact×Bool) (t:BB):Option BB:=
 if x.1.op≠2∨x.1.cls=1∨x.1.cls=2 then(if x.2 then some t else none)else
 if x.2 then some (t.1,t.2.set x.1.cls.toNat true)else some (t.1.set x.1.cls.toNat true,t.2)
def Fa:List Fact→BB→Option BB
 | [],t=>some t
 | x::r,t=>(Io (BV x) t).bind (Fa r)
def Km (w:AP) (ls:List Fact) (a:Int) (p:List Int) (can:Int→Bool) (s:Int) (t:BB):Option BB:=
 if !Gf ls a (p++[s])&& !can s then none else some (if Gf ls a (p++[s])then t.1 else t.1.set (D9 w s).toNat true,if can s then t.2 else t.2.set (D9 w s).toNat true)
def E7 (w:AP) (ls:List Fact) (a:Int) (p:List Int) (can:Int→Bool):List Int→BB→Option BB
 | [],t=>some t
 | s::r,t=>(Km w ls a p can s t).bind (E7 w ls a p can r)
def He (ps:List (List Int)) (c:Nat) (bs:List Bool):List Bool:=if bs.getD c false then(par ps c).foldl (fun b q=>b.set q.toNat true) bs else bs
def CR (ps:List (List Int)) (n:Nat):Nat→List Bool→List Bool
 | 0,bs=>bs
 | k+1,bs=>He ps (n - 1 - k) (CR ps n k bs)
theorem G6: ∀(l:List Int) (bs:List Bool),(l.foldl (fun b q=>b.set q.toNat true) bs).length=bs.length
 | [],_=>rfl
 | q::r,bs=>by rw[List.foldl_cons,G6 r,List.length_set]
theorem FK (ps:List (List Int)) (n:Nat): ∀(k:Nat) (bs:List Bool),(CR ps n k bs).length=bs.length
 | 0,_=>rfl
 | k+1,bs=>by
   rw[CR,He];split
   ·rw[G6,FK ps n k bs]
   ·exact FK ps n k bs
def X4 (w:AP) (t:BB):Option (List Bool):=
 if t.2.getD 0 false then none else
 if(List.range (3+w.parents.length)).any (fun c=>(CR w.parents (3+w.parents.length) w.parents.length (t.1.set 0 false)).getD c false&&t.2.getD c false)then none else some (CR w.parents (3+w.parents.length) w.parents.length (t.1.set 0 false))
def tO (w:AP):BB:=(List.replicate (3+w.parents.length) false,List.replicate (3+w.parents.length) false)
def N1 (w:AP) (ls:List Fact) (a:Int) (p:List Int) (can:Int→Bool):Option (List Bool):=
 ((Fa (ls.filter (Ia a p)) (tO w)).bind (E7 w ls a p can (Ci w.owner.length ls a p))).bind (X4 w)
def yC (o:Option (List Bool)):V:=match o with
 | some m=> .t [.l (bL m) false,.b true]
 | none=> .t [.l [] true,.b false]
theorem MY: ∀(xs ys:List Fact) (t:BB),Fa (xs++ys) t=(Fa xs t).bind (Fa ys)
 | [],_,_=>rfl
 | x::r,ys,t=>by
   simp only[List.cons_append,Fa];cases Io (BV x) t with
   | none=>rfl
   | some u=>exact MY r ys u
theorem H9 {os:List Fact} {k:Nat} {x:Fact} (hx:os[k]? =some x) (t:BB):Fa (os.take (k+1)) t=(Fa (os.take k) t).bind (Io (BV x)):=by
 rw[AR hx,MY];congr 1;funext u;simp only[Fa];cases Io (BV x) u<;>rfl
theorem V7 {os:List Fact} (k:Nat) {t:BB} (h:Fa (os.take k) t=none):Fa os t=none:=by
 rw[←List.take_append_drop k os,MY,h];rfl
theorem MX {w:AP} {ls:List Fact} {a:Int} {p:List Int} {can:Int→Bool}: ∀(xs ys:List Int) (t:BB),E7 w ls a p can (xs++ys) t=(E7 w ls a p can xs t).bind (E7 w ls a p can ys)
 | [],_,_=>rfl
 | x::r,ys,t=>by
   simp only[List.cons_append,E7];cases Km w ls a p can x t with
   | none=>rfl
   | some u=>exact MX r ys u
theorem H8 {w:AP} {ls:List Fact} {a:Int} {p:List Int} {can:Int→Bool} {os:List Int} {k:Nat} {x:Int} (hx:os[k]? =some x) (t:BB):E7 w ls a p can (os.take (k+1)) t=(E7 w ls a p can (os.take k) t).bind (Km w ls a p can x):=by
 rw[AR hx,MX];congr 1;funext u;simp only[E7];cases Km w ls a p can x u<;>rfl
theorem V6 {w:AP} {ls:List Fact} {a:Int} {p:List Int} {can:Int→Bool} {os:List Int} (k:Nat) {t:BB} (h:E7 w ls a p can (os.take k) t=none):E7 w ls a p can os t=none:=by
 rw[←List.take_append_drop k os,MX,h];rfl
theorem ML {n:Nat} {ls:List Fact} {a:Int} {p:List Int} {s:Int} (h:s∈Ci n ls a p):0≤s∧s<n:=by
 have:=(Qz.1 h).1;simp only[C9,Nv,List.mem_range]at this;obtain⟨m,hm,rfl⟩:=this;exact⟨Int.natCast_nonneg m,by simpa using hm⟩
def TQ (w:AP) (ls:List Fact):Prop:= ∀l∈ls,(BV l).1.op=2→0≤(BV l).1.cls∧(BV l).1.cls<3+w.parents.length
set_option maxHeartbeats 8000000 in
theorem QP (w:AP) (ls:List Fact) (a:Int) (p:List Int) (c:Bool) (can:Int→Bool) (hokL: ∀l∈ls,F8 l) (hln:ls.length≤1000000) (hp:p.length<50) (hw:lC w) (hcl:TQ w ls) (hcan: ∀s∈Ci w.owner.length ls a p,Pure Tryz.prog 185 [.a (Gd w ls a (p++[s]) c)] (.b (can s))) :
 Pure Tryz.prog 236 [.a (Gd w ls a p c)] (yC (N1 w ls a p can)):=by
 refine Pure.fit (by kernel_rfl) fun hf=>?_
 have⟨h1,h2,h3,h4⟩:=GI hf.1;have hM:=Mx;have hwl:=hw.len;have hwo:=hw.olen;refine vN nb ?_;have hs:=Sn;have hfl:=List.length_filter_le (Ia a p) ls;have hok: ∀l∈ls.filter (Ia a p),F8 l:=fun l hl=>hokL l (Qz.1 hl).1
 have hcl2:TQ w (ls.filter (Ia a p)):=fun l hl=>hcl l (Qz.1 hl).1
 have hfl2:(Ci w.owner.length ls a p).length≤w.owner.length:=by
  have:=List.length_filter_le (fun s=>ls.any (ZT a p s)) (C9 w.owner.length);rw[H4]at this;exact this
 conv=>whnf
 repeat'((first|refine st ?_|(refine sq ?_;intro K U)|(refine si ?_;intro A B Y Z)|(refine Y _ _ ?_;clear Z B Y A)|(refine U _ _ ?_;clear U K)|refine⟨rfl,?_⟩|fail)<;>conv=>whnf)
 rw[show IntKind.i64.wrap (3+((El w.parents).length:Nat))=((3+w.parents.length:Nat):Int) by rw[B2,wrap64 (by omega) (by omega)];omega];refine hMk hs (by omega) fun v1 σ hs hv=>?_
 obtain⟨id1,rfl⟩:=hv
 conv=>whnf
 repeat'((first|refine st ?_|(refine sq ?_;intro K U)|(refine si ?_;intro A B Y Z)|(refine Y _ _ ?_;clear Z B Y A)|(refine U _ _ ?_;clear U K)|refine⟨rfl,?_⟩|fail)<;>conv=>whnf)
 rw[show IntKind.i64.wrap (3+((El w.parents).length:Nat))=((3+w.parents.length:Nat):Int) by rw[B2,wrap64 (by omega) (by omega)];omega];refine hMk hs (by omega) fun v2 σ hs hv=>?_
 obtain⟨id2,rfl⟩:=hv
 conv=>whnf
 repeat'((first|refine st ?_|(refine sq ?_;intro K U)|(refine si ?_;intro A B Y Z)|(refine Y _ _ ?_;clear Z B Y A)|(refine U _ _ ?_;clear U K)|refine⟨nb,?_⟩|refine Pure.use (Zv _ _ _ _ _ hokL hln) ?_|fail)<;>conv=>whnf)
 generalize hos:ls.filter (Ia a p)=os at *;have hV:N1 w ls a p can=((Fa os (tO w)).bind (E7 w ls a p can (Ci w.owner.length ls a p))).bind (X4 w):=by rw[N1,hos]
 refine C5 os.length (fun k (_:BB)=>[(34,eI (Bw k))]) (fun k t=>[.own (.sl id1 (3+w.parents.length) (3+w.parents.length)) 1 (bL t.1),.own (.sl id2 (3+w.parents.length) (3+w.parents.length)) 1 (bL t.2)]) (fun k t=>Fa (os.take k) (tO w)=some t∧t.1.length=3+w.parents.length∧t.2.length=3+w.parents.length) (tO w) rfl ⟨rfl,by simp[tO],by simp[tO]⟩ (by simpa[tO,bL]using hs) ?_;clear hs;rintro k ⟨CO,no⟩ σ hk ⟨hno,hl1,hl2⟩ hs;simp only at hl1 hl2;dsimp only at hs
 conv=>whnf
 repeat'((first|refine st ?_|(refine sq ?_;intro K U)|(refine si ?_;intro A B Y Z)|(refine Y _ _ ?_;clear Z B Y A)|(refine U _ _ ?_;clear U K)|refine⟨rfl,?_⟩|refine⟨nb,?_⟩|refine Q2 ?_|refine ld ?_|refine sn fun σ hs=>?_|(refine fc (fun x hx hlt hc=>?_) (fun hk hc=>?_)<;>(try rw[hc])<;>clear hc)|refine Pure.use (HO _ (hok _ (DL (by assumption)))) ?_|refine Pure.use (Te _ _ _ _ _ hokL (by omega)) ?_|(constructor<;>intro hc<;>(try rw[hc])<;>(replace hc:=bp hc))|(intro nn hnn;generalize hg:BI _ nn _=σ;refine al hg fun hs=>?_;clear hg)|clear U K)<;>conv=>whnf)
 all_goals try
  (have hcx:=hcl2 _ (DL hx) (by assumption)
   conv=>whnf
   repeat'((first|(refine si ?_;intro A B Y Z)|(refine Y _ _ ?_;clear Z B Y A)|(refine U _ _ ?_;clear U K)|refine⟨rfl,?_⟩|refine xq fun σ hs=>?_|refine oi ?_|clear U K)<;>conv=>whnf)
  )
 all_goals first
  | (refine AM ?_
     have:Fa os (tO w)=none:=V7 (k+1) (by rw[H9 hx,hno];simp[Io, *]);rw[hV,this]
     rfl)
  | exact⟨hlt,(CO,no),rfl,⟨by rw[H9 hx,hno];simp[Io, *],hl1,hl2⟩,hs.take 2⟩
  | exact⟨hlt,(CO.set (BV x).1.cls.toNat true,no),rfl,⟨by rw[H9 hx,hno];simp[Io, *],by simpa using hl1,hl2⟩,hs.take 2⟩
  | exact⟨hlt,(CO,no.set (BV x).1.cls.toNat true),rfl,⟨by rw[H9 hx,hno];simp[Io, *],hl1,by simpa using hl2⟩,hs.take 2⟩
  | skip
 rw[A5 (by assumption)]at hno;have hV2:N1 w ls a p can=(E7 w ls a p can (Ci w.owner.length ls a p) (CO,no)).bind (X4 w):=by rw[hV,hno];rfl
 clear hno;generalize hsl:Ci w.owner.length ls a p=sl at *;have hsi: ∀s∈sl,0≤s∧s<w.owner.length:=fun s h=>ML (by rw[hsl];exact h)
 refine C5 sl.length (fun k (_:BB)=>[(73,eI (Bw k))]) (fun k t=>[.own (.sl id1 (3+w.parents.length) (3+w.parents.length)) 1 (bL t.1),.own (.sl id2 (3+w.parents.length) (3+w.parents.length)) 1 (bL t.2)]) (fun k t=>E7 w ls a p can (sl.take k) (CO,no)=some t∧t.1.length=3+w.parents.length∧t.2.length=3+w.parents.length) (CO,no) rfl ⟨rfl,hl1,hl2⟩ hs ?_;clear hs hl1 hl2;rintro k ⟨m1,n1⟩ σ hk ⟨hno,hl1,hl2⟩ hs;simp only at hl1 hl2;dsimp only at hs;rcases B0 sl hk with⟨x,hx,hlt⟩|hke
 ·have hxm:=DL hx
  obtain⟨hx0,hx1⟩:=hsi x hxm
  have hox:w.owner[x.toNat]? =some (D9 w x):=by
   rw[D9,E9,E4 (by omega)];rfl
  have ho:=hw.own _ (DL hox);have hcx:=hcan x hxm;have hbx:=Xh w ls a (p++[x]) c hokL;cases Z:Gf ls a (p++[x])<;>cases hC:can x<;>rw[Z]at hbx<;>rw[hC]at hcx
  ·conv=>whnf
   repeat'((first|refine st ?_|(refine sq ?_;intro K U)|(refine si ?_;intro A B Y Z)|(refine Y _ _ ?_;clear Z B Y A)|(refine U _ _ ?_;clear U K)|refine dr ?_|refine rk ?_ ?_|exact fun s e=>by cases e;rfl|refine⟨rfl,?_⟩|refine⟨nb,?_⟩|refine ix ?_|refine ld ?_|refine sn fun σ hs=>?_|refine Ls ?_|(refine Et (fun hc=>?_)<;>(try rw[hc])<;>clear hc)|refine Pure.use (JE _ _ _ _ _ _ (by omega)) ?_|(intro nn hnn;generalize hg:BI _ nn _=σ;refine al hg fun hs=>?_;clear hg)|refine Pure.use (by assumption) ?_|clear U K)<;>conv=>whnf)
   refine AM ?_;have:E7 w ls a p can sl (CO,no)=none:=V6 (k+1) (by rw[H8 hx,hno];simp[Km, *]);rw[hV2,this];rfl
  ·conv=>whnf
   repeat'((first|refine st ?_|(refine sq ?_;intro K U)|(refine si ?_;intro A B Y Z)|(refine Y _ _ ?_;clear Z B Y A)|(refine U _ _ ?_;clear U K)|refine dr ?_|refine rk ?_ ?_|exact fun s e=>by cases e;rfl|refine⟨rfl,?_⟩|refine⟨nb,?_⟩|refine ix ?_|refine Sp ?_|refine xq fun σ hs=>?_|refine ld ?_|refine sn fun σ hs=>?_|refine oi ?_|refine Ls ?_|refine IV ?_|(refine Et (fun hc=>?_)<;>(try rw[hc])<;>clear hc)|refine Pure.use (JE _ _ _ _ _ _ (by omega)) ?_|(intro nn hnn;generalize hg:BI _ nn _=σ;refine al hg fun hs=>?_;clear hg)|refine Pure.use (by assumption) ?_|clear U K)<;>conv=>whnf)
   exact⟨hlt,(m1.set (D9 w x).toNat true,n1),rfl,⟨by rw[H8 hx,hno];simp[Km, *],by simpa using hl1,hl2⟩,hs.take 2⟩
  ·conv=>whnf
   repeat'((first|refine st ?_|(refine sq ?_;intro K U)|(refine si ?_;intro A B Y Z)|(refine Y _ _ ?_;clear Z B Y A)|(refine U _ _ ?_;clear U K)|refine dr ?_|refine rk ?_ ?_|exact fun s e=>by cases e;rfl|refine⟨rfl,?_⟩|refine⟨nb,?_⟩|refine ix ?_|refine Sp ?_|refine xq fun σ hs=>?_|refine ld ?_|refine sn fun σ hs=>?_|refine oi ?_|refine Ls ?_|refine IV ?_|(refine Et (fun hc=>?_)<;>(try rw[hc])<;>clear hc)|refine Pure.use (JE _ _ _ _ _ _ (by omega)) ?_|(intro nn hnn;generalize hg:BI _ nn _=σ;refine al hg fun hs=>?_;clear hg)|refine Pure.use (by assumption) ?_|clear U K)<;>conv=>whnf)
   exact⟨hlt,(m1,n1.set (D9 w x).toNat true),rfl,⟨by rw[H8 hx,hno];simp[Km, *],hl1,by simpa using hl2⟩,hs.take 2⟩
  ·conv=>whnf
   repeat'((first|refine st ?_|(refine sq ?_;intro K U)|(refine si ?_;intro A B Y Z)|(refine Y _ _ ?_;clear Z B Y A)|(refine U _ _ ?_;clear U K)|refine dr ?_|refine rk ?_ ?_|exact fun s e=>by cases e;rfl|refine⟨rfl,?_⟩|refine⟨nb,?_⟩|refine ix ?_|refine ld ?_|refine sn fun σ hs=>?_|refine IV ?_|(refine Et (fun hc=>?_)<;>(try rw[hc])<;>clear hc)|refine Pure.use (JE _ _ _ _ _ _ (by omega)) ?_|(intro nn hnn;generalize hg:BI _ nn _=σ;refine al hg fun hs=>?_;clear hg)|refine Pure.use (by assumption) ?_|clear U K)<;>conv=>whnf)
   exact⟨hlt,(m1,n1),rfl,⟨by rw[H8 hx,hno];simp[Km, *],hl1,hl2⟩,hs.take 2⟩
 ·rw [A5 hke]at hno
  have hV3:N1 w ls a p can=X4 w (m1,n1):=by rw[hV2,hno];rfl
  have hrow: ∀l∈w.parents,l.length≤Ak:=(Rj (g:=false) (by have:=hf.1;simp only[Gd,G0,Dm]at this;exact this.1)).2
  have hen:N1 w ls a p can=if n1.getD 0 false then none else
   if(List.range (3+w.parents.length)).any (fun c=>(CR w.parents (3+w.parents.length) w.parents.length (m1.set 0 false)).getD c false&&n1.getD c false)then none else some (CR w.parents (3+w.parents.length) w.parents.length (m1.set 0 false)):=hV3.trans rfl
  clear hcan hcl hV hV2 hV3 hno hos hsl hcl2 hok;obtain⟨n0,hn0⟩: ∃b,n1[0]? =some b:=⟨_,E4 (by omega)⟩
  have hn0':n1[Int.toNat 0]? =some n0:=hn0;have hng:n1.getD 0 false=n0:=by rw[E9,hn0];rfl
  rw[hng]at hen;cases n0
  ·generalize hms:m1.set 0 false=ms at *
   have hl3:ms.length=3+w.parents.length:=by rw[←hms,List.length_set];exact hl1
   conv=>whnf
   repeat'((first|refine st ?_|(refine sq ?_;intro K U)|(refine si ?_;intro A B Y Z)|(refine Y _ _ ?_;clear Z B Y A)|(refine U _ _ ?_;clear U K)|refine⟨rfl,?_⟩|refine lo ?_|refine xq fun σ hs=>?_|refine oi ?_|refine Uw ?_|(refine F4 (fun hc=>?_)<;>(try rw[hc])<;>clear hc)|clear U K)<;>conv=>whnf)
   replace hs:Sat σ [.own (.sl id1 (3+w.parents.length) (3+w.parents.length)) 1 (bL ms),.own (.sl id2 (3+w.parents.length) (3+w.parents.length)) 1 (bL n1)]:=by rw[←hms];exact hs
   rw[show IntKind.i64.wrap (((bL (m1.set (Int.toNat 0) false)).length:Nat) - 1)=((2+w.parents.length:Nat):Int) by rw[B2,List.length_set,hl1,wrap64 (by omega) (by omega)];omega];refine C5 w.parents.length (fun k (_:Unit)=>[(15,eI (NO ((2+w.parents.length:Nat):Int) k))]) (fun k _=>[.own (.sl id1 (3+w.parents.length) (3+w.parents.length)) 1 (bL (CR w.parents (3+w.parents.length) k ms)),.own (.sl id2 (3+w.parents.length) (3+w.parents.length)) 1 (bL n1)]) (fun k _=>True) () rfl trivial hs ?_;clear hs;rintro k - σ hk - hs;have hd:NO ((2+w.parents.length:Nat):Int) k=((2+w.parents.length:Nat):Int) - k:=SO (by omega) (by omega);have hcl:=FK w.parents (3+w.parents.length) k ms;rcases Nat.lt_or_ge k w.parents.length with hlt|hge
   ·have hpw:w.parents[(IntKind.i64.wrap (NO ((2+w.parents.length:Nat):Int) k - 3)).toNat]? =some (par w.parents (3+w.parents.length - 1 - k)):=by
     rw[hd,wrap64 (by omega) (by omega),show(((2+w.parents.length:Nat):Int) - k - 3).toNat=(3+w.parents.length - 1 - k) - 3 by omega];exact aI (by omega) (by omega)
    have hwi:0≤IntKind.i64.wrap (NO ((2+w.parents.length:Nat):Int) k - 3):=by rw[hd,wrap64 (by omega) (by omega)];omega
    have hpl:=hrow _ (DL hpw);have hpr:=fun q=>hw.ord (3+w.parents.length - 1 - k) q
    generalize hpe:par w.parents (3+w.parents.length - 1 - k)=pr at *;generalize hce:CR w.parents (3+w.parents.length) k ms=ce at *;have hcs:CR w.parents (3+w.parents.length) (k+1) ms=if ce.getD (3+w.parents.length - 1 - k) false then pr.foldl (fun b q=>b.set q.toNat true) ce else ce:=by rw[CR,He,hce,hpe]
    conv=>whnf
    repeat'((first|refine st ?_|(refine sq ?_;intro K U)|(refine si ?_;intro A B Y Z)|(refine Y _ _ ?_;clear Z B Y A)|(refine U _ _ ?_;clear U K)|refine⟨rfl,?_⟩|refine Sp ?_|refine oi ?_|refine ol fun x hx=>?_|(constructor<;>intro hc<;>(try rw[hc])<;>(replace hc:=bp hc)<;>try(exfalso;omega))|clear U K)<;>conv=>whnf)
    ·rw[show(NO ((2+w.parents.length:Nat):Int) k).toNat=3+w.parents.length - 1 - k by rw[hd];omega]at hx
     rw[E9,hx,hc]at hcs;simp only[Option.getD_some,if_true]at hcs;refine C5 pr.length (fun j (_:Unit)=>[(135,eI (Bw j))]) (fun j _=>[.own (.sl id1 (3+w.parents.length) (3+w.parents.length)) 1 (bL ((pr.take j).foldl (fun b q=>b.set q.toNat true) ce)),.own (.sl id2 (3+w.parents.length) (3+w.parents.length)) 1 (bL n1)]) (fun _ _=>True) () rfl trivial hs ?_;clear hs hx;rintro j - σ hj - hs;have hfl:=G6 (pr.take j) ce;rcases B0 pr hj with⟨q,hq,hjlt⟩|hje
     ·have hqr:=hpr q (DL hq)
      conv=>whnf
      repeat'((first|refine st ?_|(refine sq ?_;intro K U)|(refine si ?_;intro A B Y Z)|(refine Y _ _ ?_;clear Z B Y A)|(refine U _ _ ?_;clear U K)|refine⟨rfl,?_⟩|refine ix ?_|refine xq fun σ hs=>?_|refine oi ?_|(refine Et (fun hc=>?_)<;>(try rw[hc])<;>clear hc)|clear U K)<;>conv=>whnf)
      exact⟨hjlt,(),rfl,trivial,by rw[AR hq,List.foldl_append];exact hs⟩
     ·conv=>whnf
      repeat'((first|refine st ?_|(refine sq ?_;intro K U)|(refine si ?_;intro A B Y Z)|(refine Y _ _ ?_;clear Z B Y A)|(refine U _ _ ?_;clear U K)|refine⟨rfl,?_⟩|(refine F4 (fun hc=>?_)<;>(try rw[hc])<;>clear hc)|clear U K)<;>conv=>whnf)
      rw[A5 hje]at hs;exact⟨hlt,(),rfl,trivial,by rw[hcs];exact hs⟩
    ·rw[show(NO ((2+w.parents.length:Nat):Int) k).toNat=3+w.parents.length - 1 - k by rw[hd];omega]at hx
     rw[E9,hx,hc]at hcs;simp only[Option.getD_some,Mk,if_false]at hcs;exact⟨hlt,(),rfl,trivial,by rw[hcs];exact hs⟩
   ·have hke2:k=w.parents.length:=by omega
    rw[hke2]at hs hcl;generalize hme:CR w.parents (3+w.parents.length) w.parents.length ms=me at *
    conv=>whnf
    repeat'((first|refine st ?_|(refine sq ?_;intro K U)|(refine si ?_;intro A B Y Z)|(refine Y _ _ ?_;clear Z B Y A)|(refine U _ _ ?_;clear U K)|refine⟨rfl,?_⟩|refine lo ?_|(constructor<;>intro hc<;>(try rw[hc])<;>(replace hc:=bp hc)<;>try(exfalso;omega))|clear U K)<;>conv=>whnf)
    refine C5 me.length (fun j (_:Unit)=>[(145,eI (Bw j))]) (fun _ _=>[.own (.sl id1 (3+w.parents.length) (3+w.parents.length)) 1 (bL me),.own (.sl id2 (3+w.parents.length) (3+w.parents.length)) 1 (bL n1)]) (fun j _=>N1 w ls a p can=if((List.range (3+w.parents.length)).drop j).any (fun c=>me.getD c false&&n1.getD c false)then none else some me) () rfl hen hs ?_;clear hs hen;rintro j - σ hj hn hs;rcases B0 me hj with⟨x,hx,hjlt⟩|hje
    ·obtain⟨y,hy⟩: ∃y,n1[j]? =some y:=⟨_,E4 (by omega)⟩
     have hrg:(List.range (3+w.parents.length))[j]? =some j:=by rw[List.getElem?_range (by omega)]
     rw[drop_cons hrg,List.any_cons,E9,E9,hx,hy]at hn;cases x<;>cases y<;>simp only[Option.getD_some,Bool.and_true,Bool.and_false,Bool.false_or,Bool.true_or,if_true]at hn
     ·conv=>whnf
      repeat'((first|refine st ?_|(refine sq ?_;intro K U)|(refine si ?_;intro A B Y Z)|(refine Y _ _ ?_;clear Z B Y A)|(refine U _ _ ?_;clear U K)|refine⟨rfl,?_⟩|refine oc ?_|refine Uw ?_|(refine Et (fun hc=>?_)<;>(try rw[hc])<;>clear hc)|clear U K)<;>conv=>whnf)
      exact⟨hjlt,(),rfl,hn,hs⟩
     ·conv=>whnf
      repeat'((first|refine st ?_|(refine sq ?_;intro K U)|(refine si ?_;intro A B Y Z)|(refine Y _ _ ?_;clear Z B Y A)|(refine U _ _ ?_;clear U K)|refine⟨rfl,?_⟩|refine oc ?_|refine Uw ?_|(refine Et (fun hc=>?_)<;>(try rw[hc])<;>clear hc)|clear U K)<;>conv=>whnf)
      exact⟨hjlt,(),rfl,hn,hs⟩
     ·conv=>whnf
      repeat'((first|refine st ?_|(refine sq ?_;intro K U)|(refine si ?_;intro A B Y Z)|(refine Y _ _ ?_;clear Z B Y A)|(refine U _ _ ?_;clear U K)|refine⟨rfl,?_⟩|refine oc ?_|refine Uw ?_|refine IV ?_|(refine Et (fun hc=>?_)<;>(try rw[hc])<;>clear hc)|clear U K)<;>conv=>whnf)
      exact⟨hjlt,(),rfl,hn,hs⟩
     ·conv=>whnf
      repeat'((first|refine st ?_|(refine sq ?_;intro K U)|(refine si ?_;intro A B Y Z)|(refine Y _ _ ?_;clear Z B Y A)|(refine U _ _ ?_;clear U K)|refine⟨rfl,?_⟩|refine oc ?_|refine Uw ?_|refine Ls ?_|(refine Et (fun hc=>?_)<;>(try rw[hc])<;>clear hc)|clear U K)<;>conv=>whnf)
      exact AM (by rw[hn];rfl)
    ·rw[List.drop_of_length_le (by rw[List.length_range];omega)]at hn
     simp only[List.any_nil,Mk,if_false]at hn
     conv=>whnf
     repeat'((first|refine st ?_|(refine sq ?_;intro K U)|(refine si ?_;intro A B Y Z)|(refine Y _ _ ?_;clear Z B Y A)|(refine U _ _ ?_;clear U K)|refine⟨rfl,?_⟩|(refine F4 (fun hc=>?_)<;>(try rw[hc])<;>clear hc)|clear U K)<;>conv=>whnf)
     rw[hn];exact CD (.t (.cons (hs.I9 0 rfl) (.cons (.refl _) .nil)))
  ·conv=>whnf
   repeat'((first|refine st ?_|(refine sq ?_;intro K U)|(refine si ?_;intro A B Y Z)|(refine Y _ _ ?_;clear Z B Y A)|(refine U _ _ ?_;clear U K)|refine⟨rfl,?_⟩|refine xq fun σ hs=>?_|refine oi ?_|refine Uw ?_|(refine F4 (fun hc=>?_)<;>(try rw[hc])<;>clear hc)|clear U K)<;>conv=>whnf)
   exact AM (by rw[hen];rfl)
def N5 (w:AP) (ls:List Fact) (a:Int):Nat→List Int→Bool
 | 0,p=>((Kj ls a p).isSome&&Gc w.owner.length ls a p)||(Jk w.owner.length ls a p||(N1 w ls a p fun _=>false).isSome)
 | d+1,p=>((Kj ls a p).isSome&&Gc w.owner.length ls a p)||(Jk w.owner.length ls a p||(N1 w ls a p fun s=>N5 w ls a d (p++[s])).isSome)
def RW (ls:List Fact) (n:Nat):Prop:= ∀l∈ls,(BV l).1.path.length≤n
theorem QC {n m:Nat} {ls:List Fact} {a:Int} {p:List Int} (h:RW ls m) (hp:m≤p.length):Ci n ls a p= []:=by
 rw[Ci,List.filter_eq_nil_iff];intro s _ hs;rw[List.any_eq_true]at hs;obtain⟨l,hl,hg⟩:=hs;have:=h l hl;simp only[ZT,CI,Bn,D8,Sl,List.length_singleton]at hg;omega
theorem XK {n:Nat} {ls:List Fact} {a:Int} {p:List Int}:X2 n ls a p= .t [eI ((Kj ls a p).getD 0),.b ((Kj ls a p).isSome&&Gc n ls a p)]:=by
 unfold X2;cases Kj ls a p<;>rfl
theorem XA (o:Option (List Bool)):yC o= .t [.l (bL (o.getD [])) o.isNone,.b o.isSome]:=by
 cases o<;>rfl
theorem xa (w:AP) (ls:List Fact) (a:Int) (hokL: ∀l∈ls,F8 l) (hln:ls.length≤1000000) (hw:lC w) (hcl:TQ w ls) (hsm:J5 ls) (hsh:RW ls 2): ∀(d:Nat) (p:List Int),p.length+d=2→Pure Tryz.prog 185 [.a (Gd w ls a p false)] (.b (N5 w ls a d p)):=by
 intro d
 induction d with
 | zero=>
   intro p hp;have hI:=PJ w ls a p false hokL hln (by omega) hsm;rw[XK]at hI;have hN:=XE w ls a p false hokL hln (by omega);have hO:=QP w ls a p false (fun _=>false) hokL hln (by omega) hw hcl (by rw[QC hsh (by omega)];intro s hs;cases hs);rw[XA]at hO;refine av nb ?_;have hs:=Sn;rw[N5];cases Y:(Kj ls a p).isSome&&Gc w.owner.length ls a p<;>cases Z:Jk w.owner.length ls a p<;>rw[Y]at hI<;>rw[Z]at hN
   all_goals
    conv=>whnf
    repeat'((first|refine st ?_|(refine sq ?_;intro K U)|(refine si ?_;intro A B Y Z)|(refine Y _ _ ?_;clear Z B Y A)|(refine U _ _ ?_;clear U K)|refine⟨nb,?_⟩|refine Ls ?_|refine IV ?_|refine Pure.use hI ?_|refine Pure.use hN ?_|refine Pure.use hO ?_|clear U K)<;>conv=>whnf)
   all_goals exact AM (by simp)
 | succ d ih=>
   intro p hp;have hI:=PJ w ls a p false hokL hln (by omega) hsm;rw[XK]at hI;have hN:=XE w ls a p false hokL hln (by omega);have hO:=QP w ls a p false (fun s=>N5 w ls a d (p++[s])) hokL hln (by omega) hw hcl (fun s hs=>ih (p++[s]) (by simp;omega));rw[XA]at hO;refine av nb ?_;have hs:=Sn;rw[N5];cases Y:(Kj ls a p).isSome&&Gc w.owner.length ls a p<;>cases Z:Jk w.owner.length ls a p<;>rw[Y]at hI<;>rw[Z]at hN
   all_goals
    conv=>whnf
    repeat'((first|refine st ?_|(refine sq ?_;intro K U)|(refine si ?_;intro A B Y Z)|(refine Y _ _ ?_;clear Z B Y A)|(refine U _ _ ?_;clear U K)|refine⟨nb,?_⟩|refine Ls ?_|refine IV ?_|refine Pure.use hI ?_|refine Pure.use hN ?_|refine Pure.use hO ?_|clear U K)<;>conv=>whnf)
   all_goals exact AM (by simp)
def Hk (w:AP) (ls:List Fact):Bool:=(C9 3).all fun a=>N5 w ls a 2 []
theorem UP (w:AP) (ls:List Fact) (hokL: ∀l∈ls,F8 l) (hln:ls.length≤1000000) (hw:lC w) (hcl:TQ w ls) (hsm:J5 ls) (hsh:RW ls 2):Pure Tryz.prog 145 [.a (BQ w),.l (facts ls) false] (.b (Hk w ls)):=by
 have hM:=Mx;refine wx nb ?_;have hs:=Sn
 conv=>whnf
 repeat'((first|refine st ?_|(refine sq ?_;intro K U)|(refine si ?_;intro A B Y Z)|(refine Y _ _ ?_;clear Z B Y A)|(refine U _ _ ?_;clear U K)|fail)<;>conv=>whnf)
 refine C5 3 (fun k (_:Unit)=>[(5,eI (Bw k))]) (fun _ _=>[]) (fun k _=>Hk w ls=((C9 3).drop k).all fun a=>N5 w ls a 2 []) () rfl rfl hs ?_;clear hs;rintro k - σ hk hn hs;have hck:Bw k=k:=AU (by omega);rcases Nat.lt_or_ge k 3 with hlt|hge
 ·have hrk:(C9 3)[k]? =some (Bw k):=by
   rw[hck];rcases k with _|_|_|k
   ·rfl
   ·rfl
   ·rfl
   ·omega
  rw[drop_cons hrk,List.all_cons]at hn
  conv=>whnf
  repeat'((first|refine st ?_|(refine sq ?_;intro K U)|(refine si ?_;intro A B Y Z)|(refine Y _ _ ?_;clear Z B Y A)|(refine U _ _ ?_;clear U K)|refine⟨rfl,?_⟩|refine⟨nb,?_⟩|refine ld ?_|refine sn fun σ hs=>?_|refine Pure.X1 (xa w ls (Bw k) hokL hln hw hcl hsm hsh 2 [] rfl) (.cons (.a (.cons (.refl _) (.cons (.refl _) (.cons (.refl _) (.cons (.refl _) (.cons Hw (.cons (.refl _) .nil))))))) .nil) rfl ?_|(constructor<;>intro hc<;>(try rw[hc])<;>(replace hc:=bp hc)<;>(try simp(disch:=omega) only[B2,wrap64,AU]at hc)<;>try(exfalso;omega))|(intro nn hnn;generalize hg:BI _ nn _=σ;refine al hg fun hs=>?_;clear hg)|clear U K)<;>conv=>whnf)
  ·exact AM (by rw[hn,hck,hc];rfl)
  ·exact⟨hlt,(),rfl,by rw[hn,hck,hc];rfl,hs.take 0⟩
 ·rw[List.drop_of_length_le (by rw[H4];omega)]at hn
  conv=>whnf
  repeat'((first|refine st ?_|(refine sq ?_;intro K U)|(refine si ?_;intro A B Y Z)|(refine Y _ _ ?_;clear Z B Y A)|(refine U _ _ ?_;clear U K)|refine⟨rfl,?_⟩|(constructor<;>intro hc<;>(try rw[hc])<;>(replace hc:=bp hc)<;>(try simp(disch:=omega) only[B2,wrap64,AU]at hc)<;>try(exfalso;omega))|clear U K)<;>conv=>whnf)
  exact AM (by rw[hn];rfl)
theorem SG {b:Nat} {σ:AH} {l:List At} (h:Sat σ l) (i j:Nat) {v u:V} {sz:Nat} {es ys:List (List V)} {K:V→AH→Prop} (hi:l[i]? =some (.own v sz es)) (hj:l[j]? =some (.own u sz ys)) (hl:es.length+ys.length≤Ak∧(es.length+ys.length)*b≤140737488355328) (hys: ∀e∈ys,e.length=sz) (ho: ∀e∈ys,∀v∈e,Cb v=true)
 (hk: ∀v' σ',Sat σ' (l.set i (.own v' sz (es++ys)))→K v' σ'):Aa b σ sz v u K:=by
 have Y:Aa b σ sz v (.l ys true) K:=hAppend h i hi hl hys ho hk;rcases h.get hj with⟨rfl,hel⟩|⟨n,cap,rfl,hn⟩
 ·exact Y
 ·unfold Aa at Y ⊢
  simp only[rowsOf]at Y ⊢;rw[hn];refine⟨rfl,Nat.le_refl _,?_⟩;rw[List.take_length];exact Y.2
def Cy (a:List Fact):List Fact→List Fact
 | []=>a
 | x::r=>Cy (if a.any (FT x)then a else a++[x]) r
theorem PH (a:List Fact): ∀(b:List Fact) (x:Fact),Cy a (b++[x])=if(Cy a b).any (FT x)then Cy a b else Cy a b++[x]:=by
 intro b
 induction b generalizing a with
 | nil=>intro x;rfl
 | cons y r ih=>intro x;simp only[List.cons_append,Cy];exact ih _ x
theorem MV (a:List Fact): ∀(b:List Fact),(Cy a b).length≤a.length+b.length:=by
 intro b
 induction b generalizing a with
 | nil=>simp[Cy]
 | cons y r ih=>
   simp only[Cy,NW];refine Nat.le_trans (ih _) ?_;split
   ·omega
   ·simp;omega
theorem QY (a:List Fact): ∀(b:List Fact) (x:Fact),x∈Cy a b→x∈a∨x∈b:=by
 intro b
 induction b generalizing a with
 | nil=>intro x hx;exact .inl hx
 | cons y r ih=>
   intro x hx;simp only[Cy]at hx;rcases ih _ x hx with h|h
   ·split at h
    ·exact .inl h
    ·rcases Fo.1 h with h|h
     ·exact .inl h
     ·rw[List.mem_singleton.1 h];exact .inr (.head _)
   ·exact .inr (.tail _ h)
theorem YZ (a b:List Fact) (f g:Bool) (hl:a.length+b.length<1000000):Pure Tryz.prog 184 [.l (facts a) f,.l (facts b) g] (.l (facts (Cy a b)) false):=by
 have hM:=Mx;refine wH nb ?_;have hs:=Sn
 conv=>whnf
 repeat'((first|(refine sq ?_;intro K U)|(refine si ?_;intro A B Y Z)|(refine Y _ _ ?_;clear Z B Y A)|(refine U _ _ ?_;clear U K)|fail)<;>conv=>whnf)
 replace hs:=Hl hs 6;refine Kq hs 0 (xs:=[]) (ys:=a) rfl (by simp;omega) L6 fun v σ hs=>?_
 conv=>whnf
 repeat'((first|refine st ?_|(refine sq ?_;intro K U)|(refine si ?_;intro A B Y Z)|(refine Y _ _ ?_;clear Z B Y A)|(refine U _ _ ?_;clear U K)|fail)<;>conv=>whnf)
 refine C5 b.length (fun k v=>[(5,v),(15,eI (Bw k))]) (fun k v=>[.own v 6 (facts (Cy a (b.take k)))]) (fun _ _=>True) v rfl trivial hs ?_;clear hs;rintro k v σ hk - hs;have hml:=MV a (b.take k);rw[PZ]at hml;rcases B0 b hk with⟨x,hx,hlt⟩|hke
 ·have hsn:=PH a (b.take k) x
  rw[←AR hx]at hsn;generalize Cy a (b.take k)=m at *
  conv=>whnf
  repeat'((first|refine st ?_|(refine sq ?_;intro K U)|(refine si ?_;intro A B Y Z)|(refine Y _ _ ?_;clear Z B Y A)|(refine U _ _ ?_;clear U K)|refine⟨rfl,?_⟩|refine⟨nb,?_⟩|refine Q2 ?_|refine lo ?_|refine sn fun σ hs=>?_|(refine Et (fun hc=>?_)<;>(try rw[hc])<;>clear hc)|(intro nn hnn;generalize hg:BI _ nn _=σ;refine al hg fun hs=>?_;clear hg)|fail)<;>conv=>whnf)
  refine C5 m.length (fun j t=>[(8,.b t),(21,eI (Bw j))]) (fun j t=>[.own v 6 (facts m),.obj nn (.cs (xF x))]) (fun j t=>t=(m.take j).any (FT x)) false rfl (by simp) hs ?_;clear hs;rintro j t σ hj ht hs;rcases B0 m hj with⟨y,hy,hjlt⟩|hje
  ·cases t
   ·conv=>whnf
    repeat'((first|refine st ?_|(refine sq ?_;intro K U)|(refine si ?_;intro A B Y Z)|(refine Y _ _ ?_;clear Z B Y A)|(refine U _ _ ?_;clear U K)|refine⟨rfl,?_⟩|refine⟨nb,?_⟩|refine ld ?_|refine sn fun σ hs=>?_|refine oc ?_|refine yB ?_|(refine Et (fun hc=>?_)<;>(try rw[hc])<;>clear hc)|refine Pure.use (eV _ _) ?_|(intro nn hnn;generalize hg:BI _ nn _=σ;refine al hg fun hs=>?_;clear hg)|clear U K)<;>conv=>whnf)
    exact⟨hjlt,_,rfl,by rw[AR hy,List.any_append,←ht];simp,hs.take 2⟩
   ·conv=>whnf
    repeat'((first|refine st ?_|(refine sq ?_;intro K U)|(refine si ?_;intro A B Y Z)|(refine Y _ _ ?_;clear Z B Y A)|(refine U _ _ ?_;clear U K)|refine⟨rfl,?_⟩|refine⟨nb,?_⟩|refine sn fun σ hs=>?_|refine oc ?_|refine yB ?_|(refine Et (fun hc=>?_)<;>(try rw[hc])<;>clear hc)|(intro nn hnn;generalize hg:BI _ nn _=σ;refine al hg fun hs=>?_;clear hg)|clear U K)<;>conv=>whnf)
    exact⟨hjlt,true,rfl,by rw[AR hy,List.any_append,←ht];simp,hs.take 2⟩
  ·rw[A5 hje]at ht
   subst ht
   conv=>whnf
   repeat'((first|refine st ?_|(refine sq ?_;intro K U)|(refine si ?_;intro A B Y Z)|(refine Y _ _ ?_;clear Z B Y A)|(refine U _ _ ?_;clear U K)|refine⟨rfl,?_⟩|refine⟨nb,?_⟩|refine ld ?_|refine apF fun v σ hs hsl=>?_|(refine F4 (fun hc=>?_)<;>(try rw[hc])<;>clear hc)|(constructor<;>intro hc<;>(try rw[hc])<;>(replace hc:=bp hc))|clear U K)<;>conv=>whnf)
   ·rw[hc]at hsn
    exact⟨hlt,_,rfl,trivial,by rw[hsn];exact hs.take 1⟩
   ·rw[hc]at hsn
    exact⟨hlt,_,rfl,trivial,by rw[hsn];exact hs.take 1⟩
 ·conv=>whnf
  repeat'((first|refine st ?_|(refine sq ?_;intro K U)|(refine si ?_;intro A B Y Z)|(refine Y _ _ ?_;clear Z B Y A)|(refine U _ _ ?_;clear U K)|refine⟨rfl,?_⟩|(refine F4 (fun hc=>?_)<;>(try rw[hc])<;>clear hc)|clear U K)<;>conv=>whnf)
  exact ER hs 0 rfl (by rw[A5 hke])
abbrev dZ (ls:List (List Fact)):List (List V):=ls.map fun l=>[.l (facts l) false]
def EN (A B:List (List Fact)):List (List Fact):=A.flatMap fun x=>B.map fun y=>Cy x y
def Fm (f:Fact) (l:List (Bool→List (List Fact))) (c:Bool):List (List Fact):=
 if f.op=1 then(if c then []else [[]])else
 if f.op=5 then(l.getD 0 (fun _=>[])) (!c)else
 if f.op=6∨f.op=7 then(if c != (f.op==7)then l.getD 0 (fun _=>[]) c++l.getD 1 (fun _=>[]) c else EN (l.getD 0 (fun _=>[]) c) (l.getD 1 (fun _=>[]) c))else
 if c then [[Gv f]]else [[f]]
def Bc (f:Fact):Bool→List (List Fact):=f.IZ Fm
theorem Hg (f:Fact) (c:Bool):Bc f c=Fm f (f.kids.map Bc) c:=congrFun (Fact.EU Fm f) c
def ZQ (f:Fact) (l:List Nat):Nat:=if f.op=5 then l.getD 0 0 else if f.op=6∨f.op=7 then l.getD 0 0+l.getD 1 0 else 1
def lv (f:Fact):Nat:=f.IZ ZQ
theorem Mo (f:Fact):lv f=ZQ f (f.kids.map lv):=Fact.EU ZQ f
def arity (f:Fact):Bool:=f.IZ fun f l=>f.kids.length==Cl f.op&&l.all id
theorem LX (f:Fact):arity f=(f.kids.length==Cl f.op&&f.kids.all arity):=by
 rw[arity,Fact.EU,List.all_map];rfl
theorem DS {w:AP} (f:Fact):CZ w f=true→arity f=true:=by
 induction f using Fact.ind with
 | h f ih=>
   intro h;rw[Df]at h;simp only[Da,Bn,IU]at h;rw[LX,Bn,IU];exact⟨h.1.2.1,fun k hk=>ih k hk (h.2 k hk)⟩
theorem JK {f:Fact} (h:arity f=true) (h5:f.op=5): ∃a,f.kids= [a]∧arity a=true:=by
 rw[LX,Bn,IU,h5]at h;have hl:f.kids.length=1:=by simpa[Cl]using h.1
 obtain⟨a,ha⟩:=List.length_eq_one_iff.1 hl;exact⟨a,ha,h.2 a (by rw[ha];exact .head _)⟩
theorem JJ {f:Fact} (h:arity f=true) (h6:f.op=6∨f.op=7): ∃a b,f.kids= [a,b]∧arity a=true∧arity b=true:=by
 rw[LX,Bn,IU]at h
 have hl:f.kids.length=2:=by
  have h5:f.op≠5:=by omega
  simpa[Cl,h5,h6]using h.1
 match hk:f.kids,hl with
 | [a,b],_=>exact⟨a,b,rfl,h.2 a (by rw[hk];exact .head _),h.2 b (by rw[hk];exact .tail _ (.head _))⟩
theorem aR (f:Fact):arity f=true→1≤lv f:=by
 induction f using Fact.ind with
 | h f ih=>
   intro h;rw[Mo,ZQ];split
   ·rename_i h5
    obtain⟨a,ha,hb⟩:=JK h h5;rw[ha];exact ih a (by rw[ha];exact .head _) hb
   ·split
    ·rename_i h6
     obtain⟨a,b,ha,hb,_⟩:=JJ h h6;rw[ha];have:=ih a (by rw[ha];exact .head _) hb;simp only[List.map_cons,List.getD_cons_zero];omega
    ·omega
theorem er {a b:Nat} (ha:1≤a) (hb:1≤b):2 ^ a+2 ^ b≤2 ^ (a+b):=by
 rw[Nat.pow_add];have h1:2≤2 ^ a:=by simpa using Nat.pow_le_pow_right (show 0<2 by omega) ha
 have h2:2≤2 ^ b:=by simpa using Nat.pow_le_pow_right (show 0<2 by omega) hb
 generalize 2 ^ a=x at *;generalize 2 ^ b=y at *;have:=Nat.mul_le_mul_left (x - 1) (show 1≤y - 1 by omega);obtain⟨x,rfl⟩: ∃u,x=u+1:=⟨x - 1,by omega⟩
 obtain⟨y,rfl⟩: ∃u,y=u+1:=⟨y - 1,by omega⟩
 simp only[Nat.add_sub_cancel,Nat.mul_one]at this;rw[Nat.add_mul,Nat.mul_add];omega
theorem QM (A B:List (List Fact)):(EN A B).length=A.length*B.length:=by
 induction A with
 | nil=>simp[EN]
 | cons x r ih=>
   simp only[EN,List.flatMap_cons,Sl,B2,NW]at *;rw[ih,Nat.add_mul];omega
theorem Ef (f:Fact):arity f=true→ ∀c,(Bc f c).length≤2 ^ lv f∧ ∀l∈Bc f c,l.length≤lv f:=by
 induction f using Fact.ind with
 | h f ih=>
   intro h c;rw[Hg,Mo,Fm,ZQ];by_cases h1:f.op=1
   ·have e5: ¬f.op=5:=by omega
    have e6: ¬(f.op=6∨f.op=7):=by omega
    rw[if_pos h1,if_neg e5,if_neg e6];cases c
    ·rw[if_neg (by decide)]
     exact⟨by simp,fun l hl=>by simp at hl;subst hl;simp⟩
    ·rw[if_pos rfl]
     exact⟨by simp,fun l hl=>by cases hl⟩
   rw[if_neg h1];by_cases h5:f.op=5
   ·obtain⟨a,ha,hb⟩:=JK h h5
    rw[if_pos h5,if_pos h5,ha];exact ih a (by rw[ha];exact .head _) hb (!c)
   rw[if_neg h5,if_neg h5];by_cases h6:f.op=6∨f.op=7
   ·obtain⟨a,b,ha,hb1,hb2⟩:=JJ h h6
    rw[if_pos h6,if_pos h6,ha];simp only[List.map_cons,List.map_nil,List.getD_cons_zero,List.getD_cons_succ];obtain⟨i1,i2⟩:=ih a (by rw[ha];exact .head _) hb1 c;obtain⟨j1,j2⟩:=ih b (by rw[ha];exact .tail _ (.head _)) hb2 c;have p1:=aR a hb1;have p2:=aR b hb2;split
    ·refine⟨?_,fun l hl=>?_⟩
     ·rw[Sl]
      have:=er p1 p2;omega
     ·rcases Fo.1 hl with hl|hl
      ·have:=i2 l hl;omega
      ·have:=j2 l hl;omega
    ·refine⟨?_,fun l hl=>?_⟩
     ·rw[QM,Nat.pow_add]
      exact Nat.mul_le_mul i1 j1
     ·simp only[EN,List.mem_flatMap,Nv]at hl
      obtain⟨x,hx,y,hy,rfl⟩:=hl;have:=MV x y;have:=i2 x hx;have:=j2 y hy;omega
   ·rw[if_neg h6,if_neg h6]
    cases c
    ·exact⟨by simp,fun l hl=>by simp at hl;subst hl;simp⟩
    ·exact⟨by simp,fun l hl=>by simp at hl;subst hl;simp⟩
theorem tG (f:Fact):arity f=true→2*lv f≤Lr f+1:=by
 induction f using Fact.ind with
 | h f ih=>
   intro h;rw[Mo,ZQ,KE];by_cases h5:f.op=5
   ·obtain⟨a,ha,hb⟩:=JK h h5
    rw[if_pos h5,ha];have:=ih a (by rw[ha];exact .head _) hb;simp only[List.map_cons,List.map_nil,List.getD_cons_zero,List.sum_cons,List.sum_nil];omega
   rw[if_neg h5];by_cases h6:f.op=6∨f.op=7
   ·obtain⟨a,b,ha,hb1,hb2⟩:=JJ h h6
    rw[if_pos h6,ha];have:=ih a (by rw[ha];exact .head _) hb1;have:=ih b (by rw[ha];exact .tail _ (.head _)) hb2;simp only[List.map_cons,List.map_nil,List.getD_cons_zero,List.getD_cons_succ,List.sum_cons,List.sum_nil];omega
   ·rw[if_neg h6]
    omega
theorem Np {σ:AH} {es es':List (List V)} (hs:Sat σ []) (h:F6 σ σ es es') (he: ∀e∈es',e.length=1):Bf σ (.l es true) fun r σ'=> ∃post,(∃v,r= .ret v∧post= [.own v 1 es'])∧Sat σ' post:=
 H0 (fun _ _ h=>h) (.l (fun _=>rfl) h) ⟨_,⟨_,rfl,rfl⟩,dj hs he⟩
set_option maxHeartbeats 4000000 in
theorem xh (f:Fact):arity f=true→lv f≤28→ ∀c,CL Tryz.prog 144 [.a (xF f),.b c] [] fun r post=> ∃v,r= .ret v∧post= [.own v 1 (dZ (Bc f c))]:=by
 induction f using Fact.ind with
 | h f ih =>
   intro h hlv c σ hs;refine Bj.fit (by kernel_rfl) fun hf=>?_
   have⟨h2,h3,h4⟩:=Jp hf.1;have hM:=Mx;refine wy nb ?_;rw[Hg];rw[Mo]at hlv;by_cases h5:f.op=5
   ·obtain⟨a,ha,hb⟩:=JK h h5
    have ha0:f.kids[Int.toNat 0]? =some a:=by rw[ha];rfl
    have hrec:=ih a (by rw[ha];exact .head _) hb (by simpa[ZQ,h5,ha]using hlv) (!c)
    conv=>whnf
    repeat'((first|refine st ?_|(refine sq ?_;intro K U)|(refine si ?_;intro A B Y Z)|(refine Y _ _ ?_;clear Z B Y A)|(refine U _ _ ?_;clear U K)|refine⟨rfl,?_⟩|refine⟨nb,?_⟩|refine Q2 ?_|(constructor<;>intro hc<;>(try rw[hc])<;>(replace hc:=bp hc)<;>try(exfalso;omega))|fail)<;>conv=>whnf)
    all_goals try(exfalso;omega)
    refine hrec.use (rest:=[]) hs ?_;clear hs;rintro r post σ ⟨v,rfl,rfl⟩ hs
    conv=>whnf
    repeat'((first|refine st ?_|(refine Y _ _ ?_;clear Z B Y A)|(refine U _ _ ?_;clear U K)|clear U K)<;>conv=>whnf)
    refine BG hs (List.Sublist.refl _) (.refl _) fun σ' hs'=>⟨_,⟨_,rfl,?_⟩,hs'⟩
    simp only[Fm,h5,ha];rfl
   by_cases h6:f.op=6∨f.op=7
   ·obtain ⟨a,b,ha,hb1,hb2⟩:=JJ h h6
    have ha0:f.kids[Int.toNat 0]? =some a:=by rw[ha];rfl
    have ha1:f.kids[Int.toNat 1]? =some b:=by rw[ha];rfl
    have hlv2:lv a+lv b≤28:=by simpa[ZQ,h5,h6,ha]using hlv
    have hrec:=ih a (by rw[ha];exact .head _) hb1 (by omega) c;have hrec2:=ih b (by rw[ha];exact .tail _ (.head _)) hb2 (by omega) c
    have hcg:Fm f (f.kids.map Bc) c=if c != (f.op==7)then Bc a c++Bc b c else EN (Bc a c) (Bc b c):=by
     have h1: ¬f.op=1:=by omega
     simp only[Fm,if_neg h1,if_neg h5,if_pos h6,ha];rfl
    rw[hcg];obtain⟨i1,i2⟩:=Ef a hb1 c;obtain⟨j1,j2⟩:=Ef b hb2 c
    have hpw:2 ^ lv a*2 ^ lv b≤268435456:=by
     rw[←Nat.pow_add];exact Nat.pow_le_pow_right (by omega) (show lv a+lv b≤28 from hlv2)
    have hAB:=Nat.le_trans (Nat.mul_le_mul i1 j1) hpw;have q1:1≤2 ^ lv a:=Nat.one_le_two_pow;have q2:1≤2 ^ lv b:=Nat.one_le_two_pow;have q3:2 ^ lv a≤268435456:=Nat.le_trans (Nat.le_mul_of_pos_right _ q2) hpw;have q4:2 ^ lv b≤268435456:=Nat.le_trans (Nat.le_mul_of_pos_left _ q1) hpw;generalize Bc a c=LA at *;generalize Bc b c=LB at *;have hgB:=Ej No LB;clear hcg;generalize hres:(if c != (f.op==7)then LA++LB else EN LA LB)=RES;clear ih
    conv=>whnf
    repeat'((first|refine st ?_|(refine sq ?_;intro K U)|(refine si ?_;intro A B Y Z)|(refine Y _ _ ?_;clear Z B Y A)|(refine U _ _ ?_;clear U K)|refine dr ?_|refine⟨rfl,?_⟩|refine⟨nb,?_⟩|refine Q2 ?_|refine RI ?_|(constructor<;>intro hc<;>(try rw[hc])<;>(replace hc:=bp hc)<;>try(exfalso;omega))|fail)<;>conv=>whnf)
    all_goals try(exfalso;omega)
    all_goals
     refine hrec.use (rest:=[]) hs ?_;clear hs;rintro r post σ ⟨v1,rfl,rfl⟩ hs
     conv=>whnf
     repeat'((first|refine st ?_|refine dr ?_|refine rk ?_ ?_|exact fun s e=>by cases e;rfl|refine⟨nb,?_⟩|fail)<;>conv=>whnf)
     refine hrec2.use (pre:=[]) (rest:=[_]) hs ?_;clear hs;rintro r post σ ⟨v2,rfl,rfl⟩ hs
     conv=>whnf
     repeat'((first|refine st ?_|(refine sq ?_;intro K U)|(refine si ?_;intro A B Y Z)|(refine Y _ _ ?_;clear Z B Y A)|(refine U _ _ ?_;clear U K)|refine dr ?_|refine⟨rfl,?_⟩|refine lo ?_|(constructor<;>intro hc<;>(try rw[hc])<;>(replace hc:=bp hc))|fail)<;>conv=>whnf)
    all_goals have hct:=hc
    all_goals clear hc
    all_goals first
     | (refine SG hs 1 0 rfl rfl (by simp only[B2];omega) hgB.1 hgB.2 fun v σ hs=>?_
        conv=>whnf
        repeat'((first|refine st ?_|(refine Y _ _ ?_;clear Z B Y A)|(refine U _ _ ?_;clear U K)|clear U K)<;>conv=>whnf)
        rw[hct,if_pos rfl]at hres;refine BG (hs.less (List.sublist_cons_self _ _)) (List.Sublist.refl _) (.refl _) fun σ' hs'=>⟨_,⟨_,rfl,?_⟩,hs'⟩
        rw[←hres];simp only[dZ,List.map_append]
        rfl)
     | (refine C5 LA.length (fun k v=>[(7,v),(52,eI (Bw k))]) (fun k v=>[.own v2 1 (dZ LB),.own v1 1 (dZ LA),.own v 1 (dZ (EN (LA.take k) LB))]) (fun _ _=>True) (.l [] true) rfl trivial (Hl hs 1) ?_
        clear hs;rintro k v σ hk - hs;rcases B0 LA hk with⟨x,hx,hlt⟩|hke
        ·have hxl:=i2 x (DL hx)
         have hpk:EN (LA.take (k+1)) LB=EN (LA.take k) LB++LB.map fun y=>Cy x y:=by
          rw[AR hx];simp[EN]
         have hpl:(EN (LA.take k) LB).length+LB.length≤LA.length*LB.length:=by
          rw[QM,PZ,Nat.min_eq_left hk];have:=Nat.mul_le_mul_right LB.length (show k+1≤LA.length from hlt);rw[Nat.add_mul]at this;omega
         generalize EN (LA.take k) LB=pk0 at *
         conv=>whnf
         repeat'((first|refine st ?_|(refine sq ?_;intro K U)|(refine si ?_;intro A B Y Z)|(refine Y _ _ ?_;clear Z B Y A)|(refine U _ _ ?_;clear U K)|refine⟨rfl,?_⟩|refine lo ?_|refine oc ?_|refine Uw ?_|(refine Et (fun hc=>?_)<;>(try rw[hc])<;>clear hc)|fail)<;>conv=>whnf)
         refine C5 LB.length (fun j v=>[(7,v),(58,eI (Bw j))]) (fun j v=>[.own v2 1 (dZ LB),.own v1 1 (dZ LA),.own v 1 (dZ (pk0++(LB.take j).map fun y=>Cy x y))]) (fun _ _=>True) v rfl trivial (by simpa using hs) ?_;clear hs;rintro j v σ hj - hs;rcases B0 LB hj with⟨y,hy,hjlt⟩|hje
         ·have hyl:=j2 y (DL hy)
          conv=>whnf
          repeat'((first|refine st ?_|(refine sq ?_;intro K U)|(refine si ?_;intro A B Y Z)|(refine Y _ _ ?_;clear Z B Y A)|(refine U _ _ ?_;clear U K)|refine⟨rfl,?_⟩|refine oc ?_|refine Uw ?_|refine aq fun v σ hs hsl=>?_|(refine Et (fun hc=>?_)<;>(try rw[hc])<;>clear hc)|refine Pure.use (YZ _ _ _ _ (by omega)) ?_|clear U K)<;>conv=>whnf)
          refine⟨hjlt,_,rfl,trivial,?_⟩;rw[AR hy,List.map_append,←WU];exact hs
         ·conv=>whnf
          repeat'((first|refine st ?_|(refine sq ?_;intro K U)|(refine si ?_;intro A B Y Z)|(refine Y _ _ ?_;clear Z B Y A)|(refine U _ _ ?_;clear U K)|refine⟨rfl,?_⟩|(refine F4 (fun hc=>?_)<;>(try rw[hc])<;>clear hc)|clear U K)<;>conv=>whnf)
          rw[A5 hje]at hs;exact⟨hlt,_,rfl,trivial,by rw[hpk];exact hs⟩
        ·conv=>whnf
         repeat'((first|refine st ?_|(refine sq ?_;intro K U)|(refine si ?_;intro A B Y Z)|(refine Y _ _ ?_;clear Z B Y A)|(refine U _ _ ?_;clear U K)|refine⟨rfl,?_⟩|(refine F4 (fun hc=>?_)<;>(try rw[hc])<;>clear hc)|clear U K)<;>conv=>whnf)
         rw[A5 hke]at hs;rw[hct,if_neg (by decide)]at hres;rw[←hres]
         refine BG (hs.less ((List.sublist_cons_self _ _).trans (List.sublist_cons_self _ _))) (List.Sublist.refl _) (.refl _) fun σ' hs'=>⟨_,⟨_,rfl,rfl⟩,hs'⟩)
   ·have e1:Fm f (f.kids.map Bc) c=if f.op=1 then(if c then []else [[]])else if c then [[Gv f]]else [[f]]:=by
     simp only[Fm,if_neg h5,if_neg h6]
    rw[e1];clear e1
    conv=>whnf
    repeat'((first|refine st ?_|(refine sq ?_;intro K U)|(refine si ?_;intro A B Y Z)|(refine Y _ _ ?_;clear Z B Y A)|(refine U _ _ ?_;clear U K)|refine⟨rfl,?_⟩|refine⟨nb,?_⟩|refine Pure.use (aP _) ?_|(constructor<;>intro hc<;>(try rw[hc])<;>(replace hc:=bp hc)<;>try(exfalso;omega))|clear U K)<;>conv=>whnf)
    all_goals try(exfalso;omega)
    ·subst hc
     rw[if_pos (by assumption),if_pos rfl];exact Np hs .nil (fun e h=>by cases h)
    ·subst hc
     rw[if_pos (by assumption),if_neg (by decide)];refine Np hs (.cons (.cons Hw .nil) .nil) ?_;intro e he;simp at he;subst he;rfl
    ·subst hc
     rw[if_neg (by assumption),if_pos rfl];refine Np hs (.cons (.cons (.l (fun h=>by cases h) ?_) .nil) .nil) ?_
     ·simp only[facts,List.map,Bp]
      exact Ek _
     ·intro e he
      simp at he;subst he;rfl
    ·subst hc
     rw[if_neg (by assumption),if_neg (by decide)];refine Np hs (.cons (.cons (.l (fun h=>by cases h) ?_) .nil) .nil) ?_
     ·simp only[facts,List.map,Bp]
      exact Ek _
     ·intro e he
      simp at he;subst he;rfl
def Ii (w:AP) (x:Fact):Prop:= ∃g,CZ w g=true∧CS g=true∧(x=g∨x=Gv g)
theorem Gj {g:Fact} (h:CS g=true):g.op=2∨g.op=3∨g.op=4:=by
 simp only[CS,Bool.or_eq_true,FQ]at h;omega
theorem Gr {w:AP} (f:Fact):CZ w f=true→ ∀c,∀l∈Bc f c,∀x∈l,Ii w x:=by
 induction f using Fact.ind with
 | h f ih=>
   intro h c;have har:=DS f h;have h':=h;rw[Df,Bn,IU]at h';rw[Hg,Fm];by_cases h1:f.op=1
   ·rw[if_pos h1]
    cases c
    ·rw[if_neg (by decide)]
     intro l hl x hx;simp at hl;subst hl;cases hx
    ·rw[if_pos rfl]
     intro l hl;cases hl
   rw[if_neg h1];by_cases h5:f.op=5
   ·obtain⟨a,ha,hb⟩:=JK har h5
    rw[if_pos h5,ha];exact ih a (by rw[ha];exact .head _) (h'.2 a (by rw[ha];exact .head _)) (!c)
   rw[if_neg h5];by_cases h6:f.op=6∨f.op=7
   ·obtain⟨a,b,ha,hb1,hb2⟩:=JJ har h6
    rw[if_pos h6,ha];have i1:=ih a (by rw[ha];exact .head _) (h'.2 a (by rw[ha];exact .head _)) c;have j1:=ih b (by rw[ha];exact .tail _ (.head _)) (h'.2 b (by rw[ha];exact .tail _ (.head _))) c;simp only[List.map_cons,List.map_nil,List.getD_cons_zero,List.getD_cons_succ];split
    ·intro l hl
     rcases Fo.1 hl with hl|hl
     ·exact i1 l hl
     ·exact j1 l hl
    ·intro l hl x hx
     simp only[EN,List.mem_flatMap,Nv]at hl;obtain⟨y,hy,z,hz,rfl⟩:=hl;rcases QY _ _ _ hx with h|h
     ·exact i1 y hy x h
     ·exact j1 z hz x h
   ·rw [if_neg h6]
    have hlf:CS f=true:=by
     have ho:U3 w f=true:=by
      have:=h'.1;simp only[Da,Bn]at this;exact this.1
     simp only[CS,Bool.or_eq_true,FQ];unfold U3 at ho;split at ho
     ·omega
     ·split at ho
      ·omega
      ·simp only[Bool.or_eq_true,FQ]at ho
       omega
    cases c
    ·rw[if_neg (by decide)]
     intro l hl x hx;simp at hl;subst hl;simp at hx;subst hx;exact⟨x,h,hlf,.inl rfl⟩
    ·rw[if_pos rfl]
     intro l hl x hx;simp at hl;subst hl;simp at hx;subst hx;exact⟨f,h,hlf,.inr rfl⟩
theorem I1 {w:AP} {x:Fact} (h:Ii w x):F8 x∧CZ w (BV x).1=true∧CS (BV x).1=true:=by
 obtain⟨g,hn,hl,rfl|rfl⟩:=h
 ·have:=Gj hl
  have h5: ¬x.op=5:=by omega
  exact⟨fun e=>absurd e h5,by simp only[BV,if_neg h5];exact⟨hn,hl⟩⟩
 ·exact⟨fun _ e=>(by cases e),hn,hl⟩
theorem LP {w:AP} {l:List Fact} (h: ∀x∈l,Ii w x):(∀x∈l,F8 x)∧TQ w l∧J5 l∧RW l 2:=by
 refine⟨fun x hx=>(I1 (h x hx)).1,fun x hx h2=>?_,fun x hx=>?_,fun x hx=>?_⟩
 all_goals
  obtain⟨-,hn,hl⟩:=I1 (h x hx);have hlo:=Gj hl;generalize (BV x).1=g at *;rw[Df,Bn]at hn;have hn:=hn.1;simp only[Da,Bn]at hn;obtain⟨ho,-,-,-,hp,-⟩:=hn
 ·unfold U3 at ho
  rw[if_pos h2]at ho;simp only[Ph,Bn,D8]at ho;exact ho.2
 ·unfold U3 at ho
  split at ho
  ·simp only[Bn,FQ]at ho
   omega
  ·split at ho
   ·simp only[Bn,D8]at ho
    omega
   ·omega
 ·simp only[FU,Bn,D8]at hp
  omega
def Ss (w:AP) (f:Fact):Bool:=(Bc f false).any (Hk w)
theorem xc (w:AP) (f:Fact) (hw:lC w) (hn:CZ w f=true) (hlv:lv f≤28):Pure Tryz.prog 111 [.a (BQ w),.a (xF f)] (.b (Ss w f)):=by
 have hM:=Mx;have har:=DS f hn;have hcl:=(Ef f har false).1;have hp:2 ^ lv f≤2 ^ 28:=Nat.pow_le_pow_right (by omega) hlv;have hlits:=Gr f hn false;refine xS nb ?_;have hs:=Sn
 conv=>whnf
 repeat'((first|refine st ?_|(refine sq ?_;intro K U)|(refine si ?_;intro A B Y Z)|(refine Y _ _ ?_;clear Z B Y A)|(refine U _ _ ?_;clear U K)|refine⟨nb,?_⟩|fail)<;>conv=>whnf)
 refine(xh f har hlv false).use (rest:=[]) hs ?_;clear hs;rintro r post σ ⟨v,rfl,rfl⟩ hs;have F:Ss w f=(Bc f false).any (Hk w):=rfl
 have hlen: ∀x∈Bc f false,x.length≤1000000:=fun x hx=>by
  have:=(Ef f har false).2 x hx;omega
 generalize Bc f false=cs at *
 conv=>whnf
 repeat'((first|refine st ?_|(refine Y _ _ ?_;clear Z B Y A)|(refine U _ _ ?_;clear U K)|refine lo ?_|fail)<;>conv=>whnf)
 refine C5 cs.length (fun k (_:Unit)=>[(10,eI (Bw k))]) (fun _ _=>[.own v 1 (dZ cs)]) (fun k _=>Ss w f=(cs.drop k).any (Hk w)) () rfl F hs ?_;clear hs F;rintro k - σ hk F hs;rcases B0 cs hk with⟨x,hx,hlt⟩|hke
 ·obtain⟨q1,q2,q3,q4⟩:=LP (hlits x (DL hx))
  have htog:=UP w x q1 (hlen x (DL hx)) hw q2 q3 q4;rw[drop_cons hx,List.any_cons]at F;cases ht:Hk w x<;>rw[ht]at htog F
  ·conv=>whnf
   repeat'((first|refine st ?_|(refine sq ?_;intro K U)|(refine si ?_;intro A B Y Z)|(refine Y _ _ ?_;clear Z B Y A)|(refine U _ _ ?_;clear U K)|refine⟨rfl,?_⟩|refine⟨nb,?_⟩|refine oc ?_|refine Uw ?_|(refine Et (fun hc=>?_)<;>(try rw[hc])<;>clear hc)|refine Pure.use (by assumption) ?_|clear U K)<;>conv=>whnf)
   exact⟨hlt,(),rfl,F,hs⟩
  ·conv=>whnf
   repeat'((first|refine st ?_|(refine sq ?_;intro K U)|(refine si ?_;intro A B Y Z)|(refine Y _ _ ?_;clear Z B Y A)|(refine U _ _ ?_;clear U K)|refine⟨rfl,?_⟩|refine⟨nb,?_⟩|refine oc ?_|refine Uw ?_|(refine Et (fun hc=>?_)<;>(try rw[hc])<;>clear hc)|refine Pure.use (by assumption) ?_|clear U K)<;>conv=>whnf)
   exact AM (by rw[F];rfl)
 ·conv=>whnf
  repeat'((first|refine st ?_|(refine sq ?_;intro K U)|(refine si ?_;intro A B Y Z)|(refine Y _ _ ?_;clear Z B Y A)|(refine U _ _ ?_;clear U K)|refine⟨rfl,?_⟩|(refine F4 (fun hc=>?_)<;>(try rw[hc])<;>clear hc)|clear U K)<;>conv=>whnf)
  exact AM (by rw[F,Ax hke];rfl)
def di (w:AP) (a b:Fact):Bool:= !Ss w (Pj a (Gv b))
theorem aS (a b:Fact):lv (Pj a (Gv b))=lv a+lv b:=by
 rw[Mo];simp only[ZQ,Pj,Fact.op,Fact.kids,List.map_cons,List.map_nil,List.getD_cons_zero,List.getD_cons_succ];rw[Mo (Gv b)];simp[ZQ,Gv,Fact.op,Fact.kids]
theorem Tp {w:AP} {a b:Fact} (ha:CZ w a=true) (hb:CZ w b=true):CZ w (Pj a (Gv b))=true:=by
 have hnb:CZ w (Gv b)=true:=by
  rw[Df];simp[Gv,Da,U3,Fact.op,Fact.kids,Fact.arg,Fact.path,Fact.cls,Fact.n,Cl,FU,CS,hb]
 rw[Df];simp[Pj,Da,U3,Fact.op,Fact.kids,Fact.arg,Fact.path,Fact.cls,Fact.n,Cl,FU,CS,ha,hnb]
theorem Yj (w:AP) (a b:Fact) (hw:lC w) (ha:CZ w a=true) (hb:CZ w b=true) (la:lv a≤12) (lb:lv b≤12):Pure Tryz.prog 77 [.a (BQ w),.a (xF a),.a (xF b)] (.b (di w a b)):=by
 refine zu nb ?_;have hs:=Sn
 conv=>whnf
 repeat'((first|refine st ?_|(refine sq ?_;intro K U)|(refine si ?_;intro A B Y Z)|(refine Y _ _ ?_;clear Z B Y A)|(refine U _ _ ?_;clear U K)|refine dr ?_|refine rk ?_ ?_|exact fun s e=>by cases e;rfl|refine⟨nb,?_⟩|refine Pure.use (aP _) ?_|refine Pure.use (xg _ _) ?_|refine Pure.use (xc _ _ hw (Tp ha hb) (by rw[aS];omega)) ?_|fail)<;>conv=>whnf)
 all_goals exact AM rfl
theorem Th {p:Prog}: ∀ {ms:List N8} {s:List Int},(runM p ms s).isSome=true→ ∀m∈ms,Pa p m=true
 | [],_,_,_,h=>by cases h
 | m ::r,s,h,x,hx=>by
   rw[runM]at h;split at h
   ·rename_i hok
    split at h
    ·cases h
    ·rcases IF.1 hx with rfl|hx
     ·exact hok
     ·exact Th h x hx
   ·cases h
theorem HZ {p:Prog} (h:(Bx p).isSome=true):DN p=true∧ ∀m∈p.methods,Pa p m=true:=by
 unfold Bx at h;split at h
 ·rename_i hh
  refine⟨hh,?_⟩;split at h
  ·cases h
  ·rename_i s hs
   exact Th (by rw[hs];rfl)
 ·cases h
structure OJ (p:Prog):Prop where
 wok:lC (Ae p)
 AN:B3 p.AO≤Ak
 zZ:p.AO.length≤1000
 facts: ∀m∈p.methods,CZ (Ae p) m.fact=true∧lv m.fact≤12
 many:p.methods.length≤16
theorem look_ok {p:Prog} (h:(Bx p).isSome=true):OJ p:=by
 obtain⟨hh,hm⟩:=HZ h;simp only[DN,Bn,D8]at hh;have hc:=hh.1;simp only[BC,Bn,D8]at hc;have hM:=Mx;refine⟨Ov hc.1 hc.2.1 hc.2.2.2.1,by have:=(FF _ _ hc.2.1).1;omega,by have:=hc.1;omega,fun m h=>?_,hh.2.2.1⟩;have:=hm m h;simp only[Pa,Ev,Bn,D8]at this;have hn:=this.2.2.2.2.1.2.2;refine⟨hn,?_⟩;have hcn:=KW m.fact 24 (by omega) this.2.2.2.2.1.1;have:=tG m.fact (DS _ hn);omega
def Cw (p:Prog) (m:Int):Bool:=decide (0≤m)&&decide (m<(p.methods.length:Int))
def Jm (p:Prog) (m:Int):N8:=p.methods.getD m.toNat default
theorem Fe {p:Prog} {m:Int} (h:Cw p m=true):p.methods[m.toNat]? =some (Jm p m):=by
 simp only[Cw,Bn,D8]at h;rw[Jm,E9,E4 (by omega)];rfl
def ME (p:Prog) (m n:Int):Bool:=(Jm p m).gen==(Jm p n).gen&&(Jm p m).kind==(Jm p n).kind
def Pf (p:Prog) (m n:Int):Bool:=di (Ae p) (Jm p m).fact (Jm p n).fact
def OS (p:Prog) (m n:Int):Bool:=Pf p m n&& !Pf p n m
theorem cE (p:Prog) (m:Int):Pure Tryz.prog 46 [.a (Br p),eI m] (.b (Cw p m)):=by
 refine Pure.fit (by kernel_rfl) fun hf=>?_
 have⟨p1,p2,p3,p4⟩:=Gb hf.1;refine AAA nb ?_;have hs:=Sn
 conv=>whnf
 repeat'((first|refine st ?_|(refine sq ?_;intro K U)|(refine si ?_;intro A B Y Z)|(refine Y _ _ ?_;clear Z B Y A)|(refine U _ _ ?_;clear U K)|refine⟨rfl,?_⟩|(constructor<;>intro hc<;>(try rw[hc])<;>(replace hc:=bp hc))|fail)<;>conv=>whnf)
 all_goals exact AM (by simp[Cw, *]<;>omega)
theorem kr (p:Prog) (m n:Int) (hm:Cw p m=true) (hn:Cw p n=true):Pure Tryz.prog 47 [.a (Br p),eI m,eI n] (.b (ME p m n)):=by
 refine Pure.fit (by kernel_rfl) fun hf=>?_
 have⟨p1,p2,p3,p4⟩:=Gb hf.1;have hxm:=Fe hm;have hxn:=Fe hn;simp only[Cw,Bn,D8]at hm hn;refine z8 nb ?_;have hs:=Sn
 conv=>whnf
 repeat'((first|refine st ?_|(refine sq ?_;intro K U)|(refine si ?_;intro A B Y Z)|(refine Y _ _ ?_;clear Z B Y A)|(refine U _ _ ?_;clear U K)|refine dr ?_|refine⟨rfl,?_⟩|refine Sp ?_|(constructor<;>intro hc<;>(try rw[hc])<;>(replace hc:=bp hc))|fail)<;>conv=>whnf)
 all_goals exact AM (by simp[ME, *])
theorem QZ (p:Prog) (m n:Int) (hk:OJ p) (hm:Cw p m=true) (hn:Cw p n=true):Pure Tryz.prog 55 [.a (Br p),eI m,eI n] (.b (Pf p m n)):=by
 refine Pure.fit (by kernel_rfl) fun hf=>?_
 have⟨p1,p2,p3,p4⟩:=Gb hf.1;have F:=Mq hf.1;have hxm:=Fe hm;have hxn:=Fe hn;simp only[Cw,Bn,D8]at hm hn;refine z6 nb ?_;have hs:=Sn
 conv=>whnf
 repeat'((first|refine st ?_|(refine sq ?_;intro K U)|(refine si ?_;intro A B Y Z)|(refine Y _ _ ?_;clear Z B Y A)|(refine U _ _ ?_;clear U K)|refine dr ?_|refine rk ?_ ?_|exact fun s e=>by cases e;rfl|refine⟨nb,?_⟩|refine Sp ?_|refine Pure.use (Rw _ F hk.zZ hk.AN) ?_|refine Pure.use (Yj _ _ _ hk.wok (hk.facts _ (DL hxm)).1 (hk.facts _ (DL hxn)).1 (hk.facts _ (DL hxm)).2 (hk.facts _ (DL hxn)).2) ?_|fail)<;>conv=>whnf)
 all_goals exact AM rfl
theorem ky (p:Prog) (m n:Int) (hk:OJ p) (hm:Cw p m=true) (hn:Cw p n=true):Pure Tryz.prog 39 [.a (Br p),eI m,eI n] (.b (OS p m n)):=by
 refine AAD nb ?_;have hs:=Sn
 conv=>whnf
 repeat'((first|refine st ?_|(refine sq ?_;intro K U)|(refine si ?_;intro A B Y Z)|(refine Y _ _ ?_;clear Z B Y A)|(refine U _ _ ?_;clear U K)|refine⟨nb,?_⟩|refine Pure.use (QZ _ _ _ hk hm hn) ?_|refine Pure.use (QZ _ _ _ hk hn hm) ?_|(constructor<;>intro hc<;>(try rw[hc])<;>(replace hc:=bp hc))|fail)<;>conv=>whnf)
 all_goals exact AM (by simp[OS, *])
def G5 (p:Prog) (m n:Int):Bool×Int:=if(Bx p).isSome&&(Cw p m&&Cw p n)then(if ME p m n then(OS p m n,0)else(false,7))else(false,2)
theorem kz (p:Prog) (m n:Int):Pure Tryz.prog 13 [.a (Br p),eI m,eI n] (.t [.b (G5 p m n).1,eI (G5 p m n).2]):=by
 refine AAG nb ?_;have hs:=Sn
 conv=>whnf
 repeat'((first|refine st ?_|(refine sq ?_;intro K U)|(refine si ?_;intro A B Y Z)|(refine Y _ _ ?_;clear Z B Y A)|(refine U _ _ ?_;clear U K)|refine⟨nb,?_⟩|refine Pure.use (sX _) ?_|refine Pure.use (cE _ _) ?_|refine Pure.use (kr _ _ _ (by assumption) (by assumption)) ?_|refine Pure.use (ky _ _ _ (look_ok (by assumption)) (by assumption) (by assumption)) ?_|(constructor<;>intro hc<;>(try rw[hc])<;>(replace hc:=bp hc))|clear U K)<;>conv=>whnf)
 all_goals exact AM (by simp[G5, *])
end Go.Gl
