import Derived.Test.YtijbpgdmpejgoaaGreatS9
set_option linter.all false
noncomputable section
namespace Go.Gl
open Go.Proofs
attribute [local irreducible] Be BQ BH Ae AR BC Af Ag AT A7 AZ Ad Bk Bx Sat Au Bs BI W
abbrev BB:=List Bool×List Bool
def JI (x:Fact×Bool) (t:BB):Option BB:=
 if x.1.op≠2∨x.1.cls=1∨x.1.cls=2 then(if x.2 then some t else none)else
 if x.2 then some (t.1,t.2.set x.1.cls.toNat true)else some (t.1.set x.1.cls.toNat true,t.2)
def Ft:List Fact→BB→Option BB
 | [],t=>some t
 | x::r,t=>(JI (BV x) t).bind (Ft r)
def LN (w:AM) (ls:List Fact) (a:Int) (p:List Int) (can:Int→Bool) (s:Int) (t:BB):Option BB:=
 if !G0 ls a (p++[s])&& !can s then none else some (if G0 ls a (p++[s])then t.1 else t.1.set (EK w s).toNat true,if can s then t.2 else t.2.set (EK w s).toNat true)
def FJ (w:AM) (ls:List Fact) (a:Int) (p:List Int) (can:Int→Bool):List Int→BB→Option BB
 | [],t=>some t
 | s::r,t=>(LN w ls a p can s t).bind (FJ w ls a p can r)
def H8 (ps:List (List Int)) (c:Nat) (bs:List Bool):List Bool:=if bs.getD c false then(par ps c).foldl (fun b q=>b.set q.toNat true) bs else bs
def CM (ps:List (List Int)) (n:Nat):Nat→List Bool→List Bool
 | 0,bs=>bs
 | k+1,bs=>H8 ps (n - 1 - k) (CM ps n k bs)
theorem HT: ∀(l:List Int) (bs:List Bool),(l.foldl (fun b q=>b.set q.toNat true) bs).length=bs.length
 | [],_=>rfl
 | q::r,bs=>by rw[List.foldl_cons,HT r,List.length_set]
theorem FZ (ps:List (List Int)) (n:Nat): ∀(k:Nat) (bs:List Bool),(CM ps n k bs).length=bs.length
 | 0,_=>rfl
 | k+1,bs=>by
   rw[CM,H8];split
   ·rw[HT,FZ ps n k bs]
   ·exact FZ ps n k bs
def Yw (w:AM) (t:BB):Option (List Bool):=
 if t.2.getD 0 false then none else
 if(List.range (3+w.parents.length)).any (fun c=>(CM w.parents (3+w.parents.length) w.parents.length (t.1.set 0 false)).getD c false&&t.2.getD c false)then none else some (CM w.parents (3+w.parents.length) w.parents.length (t.1.set 0 false))
def tO (w:AM):BB:=(List.replicate (3+w.parents.length) false,List.replicate (3+w.parents.length) false)
def Oi (w:AM) (ls:List Fact) (a:Int) (p:List Int) (can:Int→Bool):Option (List Bool):=
 ((Ft (ls.filter (I8 a p)) (tO w)).bind (FJ w ls a p can (Cg w.owner.length ls a p))).bind (Yw w)
def zL (o:Option (List Bool)):V:=match o with
 | some m=> .t [.l (bL m) false,.b true]
 | none=> .t [.l [] true,.b false]
theorem NA: ∀(xs ys:List Fact) (t:BB),Ft (xs++ys) t=(Ft xs t).bind (Ft ys)
 | [],_,_=>rfl
 | x::r,ys,t=>by
   simp only[List.cons_append,Ft];cases JI (BV x) t with
   | none=>rfl
   | some u=>exact NA r ys u
theorem Ii {os:List Fact} {k:Nat} {x:Fact} (hx:os[k]? =some x) (t:BB):Ft (os.take (k+1)) t=(Ft (os.take k) t).bind (JI (BV x)):=by
 rw[AO hx,NA];congr 1;funext u;simp only[Ft];cases JI (BV x) u<;>rfl
theorem W4 {os:List Fact} (k:Nat) {t:BB} (h:Ft (os.take k) t=none):Ft os t=none:=by
 rw[←List.take_append_drop k os,NA,h];rfl
theorem M9 {w:AM} {ls:List Fact} {a:Int} {p:List Int} {can:Int→Bool}: ∀(xs ys:List Int) (t:BB),FJ w ls a p can (xs++ys) t=(FJ w ls a p can xs t).bind (FJ w ls a p can ys)
 | [],_,_=>rfl
 | x::r,ys,t=>by
   simp only[List.cons_append,FJ];cases LN w ls a p can x t with
   | none=>rfl
   | some u=>exact M9 r ys u
theorem Ih {w:AM} {ls:List Fact} {a:Int} {p:List Int} {can:Int→Bool} {os:List Int} {k:Nat} {x:Int} (hx:os[k]? =some x) (t:BB):FJ w ls a p can (os.take (k+1)) t=(FJ w ls a p can (os.take k) t).bind (LN w ls a p can x):=by
 rw[AO hx,M9];congr 1;funext u;simp only[FJ];cases LN w ls a p can x u<;>rfl
theorem W0 {w:AM} {ls:List Fact} {a:Int} {p:List Int} {can:Int→Bool} {os:List Int} (k:Nat) {t:BB} (h:FJ w ls a p can (os.take k) t=none):FJ w ls a p can os t=none:=by
 rw[←List.take_append_drop k os,M9,h];rfl
theorem Mu {n:Nat} {ls:List Fact} {a:Int} {p:List Int} {s:Int} (h:s∈Cg n ls a p):0≤s∧s<n:=by
 have:=(Rr.1 h).1;simp only[C8,Ob,List.mem_range]at this;obtain⟨m,hm,rfl⟩:=this;exact⟨Int.natCast_nonneg m,by simpa using hm⟩
def UE (w:AM) (ls:List Fact):Prop:= ∀l∈ls,(BV l).1.op=2→0≤(BV l).1.cls∧(BV l).1.cls<3+w.parents.length
set_option maxHeartbeats 8000000 in
theorem RA (w:AM) (ls:List Fact) (a:Int) (p:List Int) (c:Bool) (can:Int→Bool) (hokL: ∀l∈ls,GV l) (hln:ls.length≤1000000) (hp:p.length<50) (hw:mZ w) (hcl:UE w ls) (hcan: ∀s∈Cg w.owner.length ls a p,Pure Tryz.prog 185 [.a (Gy w ls a (p++[s]) c)] (.b (can s))) :
 Pure Tryz.prog 236 [.a (Gy w ls a p c)] (zL (Oi w ls a p can)):=by
 refine Pure.fit (by kernel_rfl) fun hf=>?_
 have⟨h1,h2,h3,h4⟩:=Gd hf.1;have hM:=Mx;have hwl:=hw.len;have hwo:=hw.olen;refine xB nb ?_;have hs:=Sn;have hfl:=TU (I8 a p) ls;have hok: ∀l∈ls.filter (I8 a p),GV l:=fun l hl=>hokL l (Rr.1 hl).1
 have hcl2:UE w (ls.filter (I8 a p)):=fun l hl=>hcl l (Rr.1 hl).1
 have hfl2:(Cg w.owner.length ls a p).length≤w.owner.length:=by
  have:=TU (fun s=>ls.any (aO a p s)) (C8 w.owner.length);rw[Ia]at this;exact this
 conv=>whnf
 repeat'((first|apply st|(apply sq;intro K U)|(apply si;intro A B Y Z)|(apply Y;clear Z B Y A)|(apply U;clear U K)|refine⟨rfl,?_⟩|fail)<;>conv=>whnf)
 rw[show IntKind.i64.wrap (3+((Ev w.parents).length:Nat))=((3+w.parents.length:Nat):Int) by rw[Bz,wrap64 (by omega) (by omega)];omega];refine hMk hs (by omega) fun v1 σ hs hv=>?_
 obtain⟨id1,rfl⟩:=hv
 conv=>whnf
 repeat'((first|apply st|(apply sq;intro K U)|(apply si;intro A B Y Z)|(apply Y;clear Z B Y A)|(apply U;clear U K)|refine⟨rfl,?_⟩|fail)<;>conv=>whnf)
 rw[show IntKind.i64.wrap (3+((Ev w.parents).length:Nat))=((3+w.parents.length:Nat):Int) by rw[Bz,wrap64 (by omega) (by omega)];omega];refine hMk hs (by omega) fun v2 σ hs hv=>?_
 obtain⟨id2,rfl⟩:=hv
 conv=>whnf
 repeat'((first|apply st|(apply sq;intro K U)|(apply si;intro A B Y Z)|(apply Y;clear Z B Y A)|(apply U;clear U K)|refine⟨nb,?_⟩|refine Pure.use (bD _ _ _ _ _ hokL hln) ?_|fail)<;>conv=>whnf)
 generalize hos:ls.filter (I8 a p)=os at *;have hV:Oi w ls a p can=((Ft os (tO w)).bind (FJ w ls a p can (Cg w.owner.length ls a p))).bind (Yw w):=by rw[Oi,hos]
 refine Cn os.length (fun k (_:BB)=>[(34,eI (BJ k))]) (fun k t=>[.own (.sl id1 (3+w.parents.length) (3+w.parents.length)) 1 (bL t.1),.own (.sl id2 (3+w.parents.length) (3+w.parents.length)) 1 (bL t.2)]) (fun k t=>Ft (os.take k) (tO w)=some t∧t.1.length=3+w.parents.length∧t.2.length=3+w.parents.length) (tO w) rfl ⟨rfl,by simp[tO],by simp[tO]⟩ (by simpa[tO,bL]using hs) ?_;clear hs;rintro k ⟨CL,no⟩ σ hk ⟨hno,hl1,hl2⟩ hs;simp only at hl1 hl2;dsimp only at hs
 conv=>whnf
 repeat'((first|apply st|(apply sq;intro K U)|(apply si;intro A B Y Z)|(apply Y;clear Z B Y A)|(apply U;clear U K)|refine⟨rfl,?_⟩|refine⟨nb,?_⟩|refine Ru ?_|refine ld ?_|refine sn fun σ hs=>?_|(refine fc (fun x hx hlt hc=>?_) (fun hk hc=>?_)<;>(try rw[hc])<;>clear hc)|refine Pure.use (Hp _ (hok _ (DM (by assumption)))) ?_|refine Pure.use (US _ _ _ _ _ hokL (by omega)) ?_|(constructor<;>intro hc<;>(try rw[hc])<;>(replace hc:=bp hc))|(intro nn hnn;generalize hg:BE _ nn _=σ;refine al hg fun hs=>?_;clear hg)|clear U K)<;>conv=>whnf)
 all_goals try
  (have hcx:=hcl2 _ (DM hx) (by assumption)
   conv=>whnf
   repeat'((first|(apply si;intro A B Y Z)|(apply Y;clear Z B Y A)|(apply U;clear U K)|refine⟨rfl,?_⟩|refine y4 fun σ hs=>?_|refine oi ?_|clear U K)<;>conv=>whnf)
  )
 all_goals first
  | (refine AJ ?_
     have:Ft os (tO w)=none:=W4 (k+1) (by rw[Ii hx,hno];simp[JI, *]);rw[hV,this]
     rfl)
  | exact⟨hlt,(CL,no),rfl,⟨by rw[Ii hx,hno];simp[JI, *],hl1,hl2⟩,hs.take 2⟩
  | exact⟨hlt,(CL.set (BV x).1.cls.toNat true,no),rfl,⟨by rw[Ii hx,hno];simp[JI, *],by simpa using hl1,hl2⟩,hs.take 2⟩
  | exact⟨hlt,(CL,no.set (BV x).1.cls.toNat true),rfl,⟨by rw[Ii hx,hno];simp[JI, *],hl1,by simpa using hl2⟩,hs.take 2⟩
  | skip
 rw[A2 (by assumption)]at hno;have hV2:Oi w ls a p can=(FJ w ls a p can (Cg w.owner.length ls a p) (CL,no)).bind (Yw w):=by rw[hV,hno];rfl
 clear hno;generalize hsl:Cg w.owner.length ls a p=sl at *;have hsi: ∀s∈sl,0≤s∧s<w.owner.length:=fun s h=>Mu (by rw[hsl];exact h)
 refine Cn sl.length (fun k (_:BB)=>[(73,eI (BJ k))]) (fun k t=>[.own (.sl id1 (3+w.parents.length) (3+w.parents.length)) 1 (bL t.1),.own (.sl id2 (3+w.parents.length) (3+w.parents.length)) 1 (bL t.2)]) (fun k t=>FJ w ls a p can (sl.take k) (CL,no)=some t∧t.1.length=3+w.parents.length∧t.2.length=3+w.parents.length) (CL,no) rfl ⟨rfl,hl1,hl2⟩ hs ?_;clear hs hl1 hl2;rintro k ⟨m1,n1⟩ σ hk ⟨hno,hl1,hl2⟩ hs;simp only at hl1 hl2;dsimp only at hs;rcases Bo sl hk with⟨x,hx,hlt⟩|hke
 ·have hxm:=DM hx
  obtain⟨hx0,hx1⟩:=hsi x hxm
  have hox:w.owner[x.toNat]? =some (EK w x):=by
   rw[EK,FM,FD (by omega)];rfl
  have ho:=hw.own _ (DM hox);have hcx:=hcan x hxm;have hbx:=YW w ls a (p++[x]) c hokL;cases Z:G0 ls a (p++[x])<;>cases hC:can x<;>rw[Z]at hbx<;>rw[hC]at hcx
  ·conv=>whnf
   repeat'((first|apply st|(apply sq;intro K U)|(apply si;intro A B Y Z)|(apply Y;clear Z B Y A)|(apply U;clear U K)|apply dr|refine rk ?_ ?_|exact fun s e=>by cases e;rfl|refine⟨rfl,?_⟩|refine⟨nb,?_⟩|refine ix ?_|refine ld ?_|refine sn fun σ hs=>?_|refine IE ?_|(refine D0 (fun hc=>?_)<;>(try rw[hc])<;>clear hc)|refine Pure.use (Jh _ _ _ _ _ _ (by omega)) ?_|(intro nn hnn;generalize hg:BE _ nn _=σ;refine al hg fun hs=>?_;clear hg)|refine Pure.use (by assumption) ?_|clear U K)<;>conv=>whnf)
   refine AJ ?_;have:FJ w ls a p can sl (CL,no)=none:=W0 (k+1) (by rw[Ih hx,hno];simp[LN, *]);rw[hV2,this];rfl
  ·conv=>whnf
   repeat'((first|apply st|(apply sq;intro K U)|(apply si;intro A B Y Z)|(apply Y;clear Z B Y A)|(apply U;clear U K)|apply dr|refine rk ?_ ?_|exact fun s e=>by cases e;rfl|refine⟨rfl,?_⟩|refine⟨nb,?_⟩|refine ix ?_|refine Tb ?_|refine y4 fun σ hs=>?_|refine ld ?_|refine sn fun σ hs=>?_|refine oi ?_|refine IE ?_|refine GH ?_|(refine D0 (fun hc=>?_)<;>(try rw[hc])<;>clear hc)|refine Pure.use (Jh _ _ _ _ _ _ (by omega)) ?_|(intro nn hnn;generalize hg:BE _ nn _=σ;refine al hg fun hs=>?_;clear hg)|refine Pure.use (by assumption) ?_|clear U K)<;>conv=>whnf)
   exact⟨hlt,(m1.set (EK w x).toNat true,n1),rfl,⟨by rw[Ih hx,hno];simp[LN, *],by simpa using hl1,hl2⟩,hs.take 2⟩
  ·conv=>whnf
   repeat'((first|apply st|(apply sq;intro K U)|(apply si;intro A B Y Z)|(apply Y;clear Z B Y A)|(apply U;clear U K)|apply dr|refine rk ?_ ?_|exact fun s e=>by cases e;rfl|refine⟨rfl,?_⟩|refine⟨nb,?_⟩|refine ix ?_|refine Tb ?_|refine y4 fun σ hs=>?_|refine ld ?_|refine sn fun σ hs=>?_|refine oi ?_|refine IE ?_|refine GH ?_|(refine D0 (fun hc=>?_)<;>(try rw[hc])<;>clear hc)|refine Pure.use (Jh _ _ _ _ _ _ (by omega)) ?_|(intro nn hnn;generalize hg:BE _ nn _=σ;refine al hg fun hs=>?_;clear hg)|refine Pure.use (by assumption) ?_|clear U K)<;>conv=>whnf)
   exact⟨hlt,(m1,n1.set (EK w x).toNat true),rfl,⟨by rw[Ih hx,hno];simp[LN, *],hl1,by simpa using hl2⟩,hs.take 2⟩
  ·conv=>whnf
   repeat'((first|apply st|(apply sq;intro K U)|(apply si;intro A B Y Z)|(apply Y;clear Z B Y A)|(apply U;clear U K)|apply dr|refine rk ?_ ?_|exact fun s e=>by cases e;rfl|refine⟨rfl,?_⟩|refine⟨nb,?_⟩|refine ix ?_|refine ld ?_|refine sn fun σ hs=>?_|refine GH ?_|(refine D0 (fun hc=>?_)<;>(try rw[hc])<;>clear hc)|refine Pure.use (Jh _ _ _ _ _ _ (by omega)) ?_|(intro nn hnn;generalize hg:BE _ nn _=σ;refine al hg fun hs=>?_;clear hg)|refine Pure.use (by assumption) ?_|clear U K)<;>conv=>whnf)
   exact⟨hlt,(m1,n1),rfl,⟨by rw[Ih hx,hno];simp[LN, *],hl1,hl2⟩,hs.take 2⟩
 ·rw [A2 hke]at hno
  have hV3:Oi w ls a p can=Yw w (m1,n1):=by rw[hV2,hno];rfl
  have hrow: ∀l∈w.parents,l.length≤Ai:=(SU (g:=false) (by have:=hf.1;simp only[Gy,HO,Dr]at this;exact this.1)).2
  have hen:Oi w ls a p can=if n1.getD 0 false then none else
   if(List.range (3+w.parents.length)).any (fun c=>(CM w.parents (3+w.parents.length) w.parents.length (m1.set 0 false)).getD c false&&n1.getD c false)then none else some (CM w.parents (3+w.parents.length) w.parents.length (m1.set 0 false)):=hV3.trans rfl
  clear hcan hcl hV hV2 hV3 hno hos hsl hcl2 hok;obtain⟨n0,hn0⟩: ∃b,n1[0]? =some b:=⟨_,FD (by omega)⟩
  have hn0':n1[Int.toNat 0]? =some n0:=hn0;have hng:n1.getD 0 false=n0:=by rw[FM,hn0];rfl
  rw[hng]at hen;cases n0
  ·generalize hms:m1.set 0 false=ms at *
   have hl3:ms.length=3+w.parents.length:=by rw[←hms,List.length_set];exact hl1
   conv=>whnf
   repeat'((first|apply st|(apply sq;intro K U)|(apply si;intro A B Y Z)|(apply Y;clear Z B Y A)|(apply U;clear U K)|refine⟨rfl,?_⟩|refine lo ?_|refine y4 fun σ hs=>?_|refine oi ?_|refine Vk ?_|(refine Fh (fun hc=>?_)<;>(try rw[hc])<;>clear hc)|clear U K)<;>conv=>whnf)
   replace hs:Sat σ [.own (.sl id1 (3+w.parents.length) (3+w.parents.length)) 1 (bL ms),.own (.sl id2 (3+w.parents.length) (3+w.parents.length)) 1 (bL n1)]:=by rw[←hms];exact hs
   rw[show IntKind.i64.wrap (((bL (m1.set (Int.toNat 0) false)).length:Nat) - 1)=((2+w.parents.length:Nat):Int) by rw[Bz,List.length_set,hl1,wrap64 (by omega) (by omega)];omega];refine Cn w.parents.length (fun k (_:Unit)=>[(15,eI (N2 ((2+w.parents.length:Nat):Int) k))]) (fun k _=>[.own (.sl id1 (3+w.parents.length) (3+w.parents.length)) 1 (bL (CM w.parents (3+w.parents.length) k ms)),.own (.sl id2 (3+w.parents.length) (3+w.parents.length)) 1 (bL n1)]) (fun k _=>True) () rfl trivial hs ?_;clear hs;rintro k - σ hk - hs;have hd:N2 ((2+w.parents.length:Nat):Int) k=((2+w.parents.length:Nat):Int) - k:=TA (by omega) (by omega);have hcl:=FZ w.parents (3+w.parents.length) k ms;rcases Nat.lt_or_ge k w.parents.length with hlt|hge
   ·have hpw:w.parents[(IntKind.i64.wrap (N2 ((2+w.parents.length:Nat):Int) k - 3)).toNat]? =some (par w.parents (3+w.parents.length - 1 - k)):=by
     rw[hd,wrap64 (by omega) (by omega),show(((2+w.parents.length:Nat):Int) - k - 3).toNat=(3+w.parents.length - 1 - k) - 3 by omega];exact bc (by omega) (by omega)
    have hwi:0≤IntKind.i64.wrap (N2 ((2+w.parents.length:Nat):Int) k - 3):=by rw[hd,wrap64 (by omega) (by omega)];omega
    have hpl:=hrow _ (DM hpw);have hpr:=fun q=>hw.ord (3+w.parents.length - 1 - k) q
    generalize hpe:par w.parents (3+w.parents.length - 1 - k)=pr at *;generalize hce:CM w.parents (3+w.parents.length) k ms=ce at *;have hcs:CM w.parents (3+w.parents.length) (k+1) ms=if ce.getD (3+w.parents.length - 1 - k) false then pr.foldl (fun b q=>b.set q.toNat true) ce else ce:=by rw[CM,H8,hce,hpe]
    conv=>whnf
    repeat'((first|apply st|(apply sq;intro K U)|(apply si;intro A B Y Z)|(apply Y;clear Z B Y A)|(apply U;clear U K)|refine⟨rfl,?_⟩|refine Tb ?_|refine oi ?_|refine ol fun x hx=>?_|(constructor<;>intro hc<;>(try rw[hc])<;>(replace hc:=bp hc)<;>try(exfalso;omega))|clear U K)<;>conv=>whnf)
    ·rw[show(N2 ((2+w.parents.length:Nat):Int) k).toNat=3+w.parents.length - 1 - k by rw[hd];omega]at hx
     rw[FM,hx,hc]at hcs;simp only[Option.getD_some,if_true]at hcs;refine Cn pr.length (fun j (_:Unit)=>[(135,eI (BJ j))]) (fun j _=>[.own (.sl id1 (3+w.parents.length) (3+w.parents.length)) 1 (bL ((pr.take j).foldl (fun b q=>b.set q.toNat true) ce)),.own (.sl id2 (3+w.parents.length) (3+w.parents.length)) 1 (bL n1)]) (fun _ _=>True) () rfl trivial hs ?_;clear hs hx;rintro j - σ hj - hs;have hfl:=HT (pr.take j) ce;rcases Bo pr hj with⟨q,hq,hjlt⟩|hje
     ·have hqr:=hpr q (DM hq)
      conv=>whnf
      repeat'((first|apply st|(apply sq;intro K U)|(apply si;intro A B Y Z)|(apply Y;clear Z B Y A)|(apply U;clear U K)|refine⟨rfl,?_⟩|refine ix ?_|refine y4 fun σ hs=>?_|refine oi ?_|(refine D0 (fun hc=>?_)<;>(try rw[hc])<;>clear hc)|clear U K)<;>conv=>whnf)
      exact⟨hjlt,(),rfl,trivial,by rw[AO hq,List.foldl_append];exact hs⟩
     ·conv=>whnf
      repeat'((first|apply st|(apply sq;intro K U)|(apply si;intro A B Y Z)|(apply Y;clear Z B Y A)|(apply U;clear U K)|refine⟨rfl,?_⟩|(refine Fh (fun hc=>?_)<;>(try rw[hc])<;>clear hc)|clear U K)<;>conv=>whnf)
      rw[A2 hje]at hs;exact⟨hlt,(),rfl,trivial,by rw[hcs];exact hs⟩
    ·rw[show(N2 ((2+w.parents.length:Nat):Int) k).toNat=3+w.parents.length - 1 - k by rw[hd];omega]at hx
     rw[FM,hx,hc]at hcs;simp only[Option.getD_some,NN,if_false]at hcs;exact⟨hlt,(),rfl,trivial,by rw[hcs];exact hs⟩
   ·have hke2:k=w.parents.length:=by omega
    rw[hke2]at hs hcl;generalize hme:CM w.parents (3+w.parents.length) w.parents.length ms=me at *
    conv=>whnf
    repeat'((first|apply st|(apply sq;intro K U)|(apply si;intro A B Y Z)|(apply Y;clear Z B Y A)|(apply U;clear U K)|refine⟨rfl,?_⟩|refine lo ?_|(constructor<;>intro hc<;>(try rw[hc])<;>(replace hc:=bp hc)<;>try(exfalso;omega))|clear U K)<;>conv=>whnf)
    refine Cn me.length (fun j (_:Unit)=>[(145,eI (BJ j))]) (fun _ _=>[.own (.sl id1 (3+w.parents.length) (3+w.parents.length)) 1 (bL me),.own (.sl id2 (3+w.parents.length) (3+w.parents.length)) 1 (bL n1)]) (fun j _=>Oi w ls a p can=if((List.range (3+w.parents.length)).drop j).any (fun c=>me.getD c false&&n1.getD c false)then none else some me) () rfl hen hs ?_;clear hs hen;rintro j - σ hj hn hs;rcases Bo me hj with⟨x,hx,hjlt⟩|hje
    ·obtain⟨y,hy⟩: ∃y,n1[j]? =some y:=⟨_,FD (by omega)⟩
     have hrg:(List.range (3+w.parents.length))[j]? =some j:=by rw[List.getElem?_range (by omega)]
     rw[drop_cons hrg,Qe,FM,FM,hx,hy]at hn;cases x<;>cases y<;>simp only[Option.getD_some,Bool.and_true,Bool.and_false,Bool.false_or,Bool.true_or,if_true]at hn
     ·conv=>whnf
      repeat'((first|apply st|(apply sq;intro K U)|(apply si;intro A B Y Z)|(apply Y;clear Z B Y A)|(apply U;clear U K)|refine⟨rfl,?_⟩|refine oc ?_|refine Vk ?_|(refine D0 (fun hc=>?_)<;>(try rw[hc])<;>clear hc)|clear U K)<;>conv=>whnf)
      exact⟨hjlt,(),rfl,hn,hs⟩
     ·conv=>whnf
      repeat'((first|apply st|(apply sq;intro K U)|(apply si;intro A B Y Z)|(apply Y;clear Z B Y A)|(apply U;clear U K)|refine⟨rfl,?_⟩|refine oc ?_|refine Vk ?_|(refine D0 (fun hc=>?_)<;>(try rw[hc])<;>clear hc)|clear U K)<;>conv=>whnf)
      exact⟨hjlt,(),rfl,hn,hs⟩
     ·conv=>whnf
      repeat'((first|apply st|(apply sq;intro K U)|(apply si;intro A B Y Z)|(apply Y;clear Z B Y A)|(apply U;clear U K)|refine⟨rfl,?_⟩|refine oc ?_|refine Vk ?_|refine GH ?_|(refine D0 (fun hc=>?_)<;>(try rw[hc])<;>clear hc)|clear U K)<;>conv=>whnf)
      exact⟨hjlt,(),rfl,hn,hs⟩
     ·conv=>whnf
      repeat'((first|apply st|(apply sq;intro K U)|(apply si;intro A B Y Z)|(apply Y;clear Z B Y A)|(apply U;clear U K)|refine⟨rfl,?_⟩|refine oc ?_|refine Vk ?_|refine IE ?_|(refine D0 (fun hc=>?_)<;>(try rw[hc])<;>clear hc)|clear U K)<;>conv=>whnf)
      exact AJ (by rw[hn];rfl)
    ·rw[List.drop_of_length_le (by rw[List.length_range];omega)]at hn
     simp only[List.any_nil,NN,if_false]at hn
     conv=>whnf
     repeat'((first|apply st|(apply sq;intro K U)|(apply si;intro A B Y Z)|(apply Y;clear Z B Y A)|(apply U;clear U K)|refine⟨rfl,?_⟩|(refine Fh (fun hc=>?_)<;>(try rw[hc])<;>clear hc)|clear U K)<;>conv=>whnf)
     rw[hn];exact B0 (.t (.cons (hs.I6 0 rfl) (.cons (.refl _) .nil)))
  ·conv=>whnf
   repeat'((first|apply st|(apply sq;intro K U)|(apply si;intro A B Y Z)|(apply Y;clear Z B Y A)|(apply U;clear U K)|refine⟨rfl,?_⟩|refine y4 fun σ hs=>?_|refine oi ?_|refine Vk ?_|(refine Fh (fun hc=>?_)<;>(try rw[hc])<;>clear hc)|clear U K)<;>conv=>whnf)
   exact AJ (by rw[hen];rfl)
def On (w:AM) (ls:List Fact) (a:Int):Nat→List Int→Bool
 | 0,p=>((LK ls a p).isSome&&Gx w.owner.length ls a p)||(KH w.owner.length ls a p||(Oi w ls a p fun _=>false).isSome)
 | d+1,p=>((LK ls a p).isSome&&Gx w.owner.length ls a p)||(KH w.owner.length ls a p||(Oi w ls a p fun s=>On w ls a d (p++[s])).isSome)
def SF (ls:List Fact) (n:Nat):Prop:= ∀l∈ls,(BV l).1.path.length≤n
theorem Qw {n m:Nat} {ls:List Fact} {a:Int} {p:List Int} (h:SF ls m) (hp:m≤p.length):Cg n ls a p= []:=by
 rw[Cg,List.filter_eq_nil_iff];intro s _ hs;rw[Nt]at hs;obtain⟨l,hl,hg⟩:=hs;have:=h l hl;simp only[aO,CH,Bj,D4,QJ,List.length_singleton]at hg;omega
theorem X8 {n:Nat} {ls:List Fact} {a:Int} {p:List Int}:Yu n ls a p= .t [eI ((LK ls a p).getD 0),.b ((LK ls a p).isSome&&Gx n ls a p)]:=by
 unfold Yu;cases LK ls a p<;>rfl
theorem Xy (o:Option (List Bool)):zL o= .t [.l (bL (o.getD [])) o.isNone,.b o.isSome]:=by
 cases o<;>rfl
theorem ym (w:AM) (ls:List Fact) (a:Int) (hokL: ∀l∈ls,GV l) (hln:ls.length≤1000000) (hw:mZ w) (hcl:UE w ls) (hsm:Kh ls) (hsh:SF ls 2): ∀(d:Nat) (p:List Int),p.length+d=2→Pure Tryz.prog 185 [.a (Gy w ls a p false)] (.b (On w ls a d p)):=by
 intro d
 induction d with
 | zero=>
   intro p hp;have hI:=P1 w ls a p false hokL hln (by omega) hsm;rw[X8]at hI;have hN:=X2 w ls a p false hokL hln (by omega);have hO:=RA w ls a p false (fun _=>false) hokL hln (by omega) hw hcl (by rw[Qw hsh (by omega)];intro s hs;cases hs);rw[Xy]at hO;refine cN nb ?_;have hs:=Sn;rw[On];cases Y:(LK ls a p).isSome&&Gx w.owner.length ls a p<;>cases Z:KH w.owner.length ls a p<;>rw[Y]at hI<;>rw[Z]at hN
   all_goals
    conv=>whnf
    repeat'((first|apply st|(apply sq;intro K U)|(apply si;intro A B Y Z)|(apply Y;clear Z B Y A)|(apply U;clear U K)|refine⟨nb,?_⟩|refine IE ?_|refine GH ?_|refine Pure.use hI ?_|refine Pure.use hN ?_|refine Pure.use hO ?_|clear U K)<;>conv=>whnf)
   all_goals exact AJ (by simp)
 | succ d ih=>
   intro p hp;have hI:=P1 w ls a p false hokL hln (by omega) hsm;rw[X8]at hI;have hN:=X2 w ls a p false hokL hln (by omega);have hO:=RA w ls a p false (fun s=>On w ls a d (p++[s])) hokL hln (by omega) hw hcl (fun s hs=>ih (p++[s]) (by simp;omega));rw[Xy]at hO;refine cN nb ?_;have hs:=Sn;rw[On];cases Y:(LK ls a p).isSome&&Gx w.owner.length ls a p<;>cases Z:KH w.owner.length ls a p<;>rw[Y]at hI<;>rw[Z]at hN
   all_goals
    conv=>whnf
    repeat'((first|apply st|(apply sq;intro K U)|(apply si;intro A B Y Z)|(apply Y;clear Z B Y A)|(apply U;clear U K)|refine⟨nb,?_⟩|refine IE ?_|refine GH ?_|refine Pure.use hI ?_|refine Pure.use hN ?_|refine Pure.use hO ?_|clear U K)<;>conv=>whnf)
   all_goals exact AJ (by simp)
def IG (w:AM) (ls:List Fact):Bool:=(C8 3).all fun a=>On w ls a 2 []
theorem VE (w:AM) (ls:List Fact) (hokL: ∀l∈ls,GV l) (hln:ls.length≤1000000) (hw:mZ w) (hcl:UE w ls) (hsm:Kh ls) (hsh:SF ls 2):Pure Tryz.prog 145 [.a (BR w),.l (facts ls) false] (.b (IG w ls)):=by
 have hM:=Mx;refine yH nb ?_;have hs:=Sn
 conv=>whnf
 repeat'((first|apply st|(apply sq;intro K U)|(apply si;intro A B Y Z)|(apply Y;clear Z B Y A)|(apply U;clear U K)|fail)<;>conv=>whnf)
 refine Cn 3 (fun k (_:Unit)=>[(5,eI (BJ k))]) (fun _ _=>[]) (fun k _=>IG w ls=((C8 3).drop k).all fun a=>On w ls a 2 []) () rfl rfl hs ?_;clear hs;rintro k - σ hk hn hs;have hck:BJ k=k:=AP (by omega);rcases Nat.lt_or_ge k 3 with hlt|hge
 ·have hrk:(C8 3)[k]? =some (BJ k):=by
   rw[hck];rcases k with _|_|_|k
   ·rfl
   ·rfl
   ·rfl
   ·omega
  rw[drop_cons hrk,OA]at hn
  conv=>whnf
  repeat'((first|apply st|(apply sq;intro K U)|(apply si;intro A B Y Z)|(apply Y;clear Z B Y A)|(apply U;clear U K)|refine⟨rfl,?_⟩|refine⟨nb,?_⟩|refine ld ?_|refine sn fun σ hs=>?_|refine Pure.Yt (ym w ls (BJ k) hokL hln hw hcl hsm hsh 2 [] rfl) (.cons (.a (.cons (.refl _) (.cons (.refl _) (.cons (.refl _) (.cons (.refl _) (.cons IU (.cons (.refl _) .nil))))))) .nil) rfl ?_|(constructor<;>intro hc<;>(try rw[hc])<;>(replace hc:=bp hc)<;>(try simp(disch:=omega) only[Bz,wrap64,AP]at hc)<;>try(exfalso;omega))|(intro nn hnn;generalize hg:BE _ nn _=σ;refine al hg fun hs=>?_;clear hg)|clear U K)<;>conv=>whnf)
  ·exact AJ (by rw[hn,hck,hc];rfl)
  ·exact⟨hlt,(),rfl,by rw[hn,hck,hc];rfl,hs.take 0⟩
 ·rw[List.drop_of_length_le (by rw[Ia];omega)]at hn
  conv=>whnf
  repeat'((first|apply st|(apply sq;intro K U)|(apply si;intro A B Y Z)|(apply Y;clear Z B Y A)|(apply U;clear U K)|refine⟨rfl,?_⟩|(constructor<;>intro hc<;>(try rw[hc])<;>(replace hc:=bp hc)<;>(try simp(disch:=omega) only[Bz,wrap64,AP]at hc)<;>try(exfalso;omega))|clear U K)<;>conv=>whnf)
  exact AJ (by rw[hn];rfl)
theorem S3 {b:Nat} {σ:AH} {l:List At} (h:Sat σ l) (i j:Nat) {v u:V} {sz:Nat} {es ys:List (List V)} {K:V→AH→Prop} (hi:l[i]? =some (.own v sz es)) (hj:l[j]? =some (.own u sz ys)) (hl:es.length+ys.length≤Ai∧(es.length+ys.length)*b≤140737488355328) (hys: ∀e∈ys,e.length=sz) (ho: ∀e∈ys,∀v∈e,CY v=true)
 (hk: ∀v' σ',Sat σ' (l.set i (.own v' sz (es++ys)))→K v' σ'):AR b σ sz v u K:=by
 have Y:AR b σ sz v (.l ys true) K:=hAppend h i hi hl hys ho hk;rcases h.get hj with⟨rfl,hel⟩|⟨n,cap,rfl,hn⟩
 ·exact Y
 ·unfold AR at Y ⊢
  simp only[rowsOf]at Y ⊢;rw[hn];refine⟨rfl,J1 _,?_⟩;rw[List.take_length];exact Y.2
def Cy (a:List Fact):List Fact→List Fact
 | []=>a
 | x::r=>Cy (if a.any (Fk x)then a else a++[x]) r
theorem Pz (a:List Fact): ∀(b:List Fact) (x:Fact),Cy a (b++[x])=if(Cy a b).any (Fk x)then Cy a b else Cy a b++[x]:=by
 intro b
 induction b generalizing a with
 | nil=>intro x;rfl
 | cons y r ih=>intro x;simp only[List.cons_append,Cy];exact ih _ x
theorem M7 (a:List Fact): ∀(b:List Fact),(Cy a b).length≤a.length+b.length:=by
 intro b
 induction b generalizing a with
 | nil=>simp[Cy]
 | cons y r ih=>
   simp only[Cy,OB];refine Nat.le_trans (ih _) ?_;split
   ·omega
   ·simp;omega
theorem RM (a:List Fact): ∀(b:List Fact) (x:Fact),x∈Cy a b→x∈a∨x∈b:=by
 intro b
 induction b generalizing a with
 | nil=>intro x hx;exact .inl hx
 | cons y r ih=>
   intro x hx;simp only[Cy]at hx;rcases ih _ x hx with h|h
   ·split at h
    ·exact .inl h
    ·rcases F8.1 h with h|h
     ·exact .inl h
     ·rw[OZ.1 h];exact .inr (.head _)
   ·exact .inr (.tail _ h)
theorem ZS (a b:List Fact) (f g:Bool) (hl:a.length+b.length<1000000):Pure Tryz.prog 184 [.l (facts a) f,.l (facts b) g] (.l (facts (Cy a b)) false):=by
 have hM:=Mx;refine xg nb ?_;have hs:=Sn
 conv=>whnf
 repeat'((first|(apply sq;intro K U)|(apply si;intro A B Y Z)|(apply Y;clear Z B Y A)|(apply U;clear U K)|fail)<;>conv=>whnf)
 replace hs:=HI hs 6;refine LR hs 0 (xs:=[]) (ys:=a) rfl (by simp;omega) Mg fun v σ hs=>?_
 conv=>whnf
 repeat'((first|apply st|(apply sq;intro K U)|(apply si;intro A B Y Z)|(apply Y;clear Z B Y A)|(apply U;clear U K)|fail)<;>conv=>whnf)
 refine Cn b.length (fun k v=>[(5,v),(15,eI (BJ k))]) (fun k v=>[.own v 6 (facts (Cy a (b.take k)))]) (fun _ _=>True) v rfl trivial hs ?_;clear hs;rintro k v σ hk - hs;have hml:=M7 a (b.take k);rw[QI]at hml;rcases Bo b hk with⟨x,hx,hlt⟩|hke
 ·have hsn:=Pz a (b.take k) x
  rw[←AO hx]at hsn;generalize Cy a (b.take k)=m at *
  conv=>whnf
  repeat'((first|apply st|(apply sq;intro K U)|(apply si;intro A B Y Z)|(apply Y;clear Z B Y A)|(apply U;clear U K)|refine⟨rfl,?_⟩|refine⟨nb,?_⟩|refine Ru ?_|refine lo ?_|refine sn fun σ hs=>?_|(refine D0 (fun hc=>?_)<;>(try rw[hc])<;>clear hc)|(intro nn hnn;generalize hg:BE _ nn _=σ;refine al hg fun hs=>?_;clear hg)|fail)<;>conv=>whnf)
  refine Cn m.length (fun j t=>[(8,.b t),(21,eI (BJ j))]) (fun j t=>[.own v 6 (facts m),.obj nn (.cs (xF x))]) (fun j t=>t=(m.take j).any (Fk x)) false rfl (by simp) hs ?_;clear hs;rintro j t σ hj ht hs;rcases Bo m hj with⟨y,hy,hjlt⟩|hje
  ·cases t
   ·conv=>whnf
    repeat'((first|apply st|(apply sq;intro K U)|(apply si;intro A B Y Z)|(apply Y;clear Z B Y A)|(apply U;clear U K)|refine⟨rfl,?_⟩|refine⟨nb,?_⟩|refine ld ?_|refine sn fun σ hs=>?_|refine oc ?_|refine zK ?_|(refine D0 (fun hc=>?_)<;>(try rw[hc])<;>clear hc)|refine Pure.use (gJ _ _) ?_|(intro nn hnn;generalize hg:BE _ nn _=σ;refine al hg fun hs=>?_;clear hg)|clear U K)<;>conv=>whnf)
    exact⟨hjlt,_,rfl,by rw[AO hy,List.any_append,←ht];simp,hs.take 2⟩
   ·conv=>whnf
    repeat'((first|apply st|(apply sq;intro K U)|(apply si;intro A B Y Z)|(apply Y;clear Z B Y A)|(apply U;clear U K)|refine⟨rfl,?_⟩|refine⟨nb,?_⟩|refine sn fun σ hs=>?_|refine oc ?_|refine zK ?_|(refine D0 (fun hc=>?_)<;>(try rw[hc])<;>clear hc)|(intro nn hnn;generalize hg:BE _ nn _=σ;refine al hg fun hs=>?_;clear hg)|clear U K)<;>conv=>whnf)
    exact⟨hjlt,true,rfl,by rw[AO hy,List.any_append,←ht];simp,hs.take 2⟩
  ·rw[A2 hje]at ht
   subst ht
   conv=>whnf
   repeat'((first|apply st|(apply sq;intro K U)|(apply si;intro A B Y Z)|(apply Y;clear Z B Y A)|(apply U;clear U K)|refine⟨rfl,?_⟩|refine⟨nb,?_⟩|refine ld ?_|refine apF fun v σ hs hsl=>?_|(refine Fh (fun hc=>?_)<;>(try rw[hc])<;>clear hc)|(constructor<;>intro hc<;>(try rw[hc])<;>(replace hc:=bp hc))|clear U K)<;>conv=>whnf)
   ·rw[hc]at hsn
    exact⟨hlt,_,rfl,trivial,by rw[hsn];exact hs.take 1⟩
   ·rw[hc]at hsn
    exact⟨hlt,_,rfl,trivial,by rw[hsn];exact hs.take 1⟩
 ·conv=>whnf
  repeat'((first|apply st|(apply sq;intro K U)|(apply si;intro A B Y Z)|(apply Y;clear Z B Y A)|(apply U;clear U K)|refine⟨rfl,?_⟩|(refine Fh (fun hc=>?_)<;>(try rw[hc])<;>clear hc)|clear U K)<;>conv=>whnf)
  exact Eb hs 0 rfl (by rw[A2 hke])
abbrev fK (ls:List (List Fact)):List (List V):=ls.map fun l=>[.l (facts l) false]
def EZ (A B:List (List Fact)):List (List Fact):=A.flatMap fun x=>B.map fun y=>Cy x y
def F6 (f:Fact) (l:List (Bool→List (List Fact))) (c:Bool):List (List Fact):=
 if f.op=1 then(if c then []else [[]])else
 if f.op=5 then(l.getD 0 (fun _=>[])) (!c)else
 if f.op=6∨f.op=7 then(if c != (f.op==7)then l.getD 0 (fun _=>[]) c++l.getD 1 (fun _=>[]) c else EZ (l.getD 0 (fun _=>[]) c) (l.getD 1 (fun _=>[]) c))else
 if c then [[HH f]]else [[f]]
def Bb (f:Fact):Bool→List (List Fact):=f.I5 F6
theorem IA (f:Fact) (c:Bool):Bb f c=F6 f (f.kids.map Bb) c:=congrFun (Fact.Ee F6 f) c
def aM (f:Fact) (l:List Nat):Nat:=if f.op=5 then l.getD 0 0 else if f.op=6∨f.op=7 then l.getD 0 0+l.getD 1 0 else 1
def lv (f:Fact):Nat:=f.I5 aM
theorem NQ (f:Fact):lv f=aM f (f.kids.map lv):=Fact.Ee aM f
def arity (f:Fact):Bool:=f.I5 fun f l=>f.kids.length==Cj f.op&&l.all id
theorem L6 (f:Fact):arity f=(f.kids.length==Cj f.op&&f.kids.all arity):=by
 rw[arity,Fact.Ee,List.all_map];rfl
theorem DU {w:AM} (f:Fact):CW w f=true→arity f=true:=by
 induction f using Fact.ind with
 | h f ih=>
   intro h;rw[Di]at h;simp only[Dd,Bj,I0]at h;rw[L6,Bj,I0];exact⟨h.1.2.1,fun k hk=>ih k hk (h.2 k hk)⟩
theorem Jn {f:Fact} (h:arity f=true) (h5:f.op=5): ∃a,f.kids= [a]∧arity a=true:=by
 rw[L6,Bj,I0,h5]at h;have hl:f.kids.length=1:=by simpa[Cj]using h.1
 obtain⟨a,ha⟩:=List.length_eq_one_iff.1 hl;exact⟨a,ha,h.2 a (by rw[ha];exact .head _)⟩
theorem Jm {f:Fact} (h:arity f=true) (h6:f.op=6∨f.op=7): ∃a b,f.kids= [a,b]∧arity a=true∧arity b=true:=by
 rw[L6,Bj,I0]at h
 have hl:f.kids.length=2:=by
  have h5:f.op≠5:=by omega
  simpa[Cj,h5,h6]using h.1
 match hk:f.kids,hl with
 | [a,b],_=>exact⟨a,b,rfl,h.2 a (by rw[hk];exact .head _),h.2 b (by rw[hk];exact .tail _ (.head _))⟩
theorem bt (f:Fact):arity f=true→1≤lv f:=by
 induction f using Fact.ind with
 | h f ih=>
   intro h;rw[NQ,aM];split
   ·rename_i h5
    obtain⟨a,ha,hb⟩:=Jn h h5;rw[ha];exact ih a (by rw[ha];exact .head _) hb
   ·split
    ·rename_i h6
     obtain⟨a,b,ha,hb,_⟩:=Jm h h6;rw[ha];have:=ih a (by rw[ha];exact .head _) hb;simp only[Fa,List.getD_cons_zero];omega
    ·omega
theorem gV {a b:Nat} (ha:1≤a) (hb:1≤b):2 ^ a+2 ^ b≤2 ^ (a+b):=by
 rw[Nat.pow_add];have h1:2≤2 ^ a:=by simpa using Nat.pow_le_pow_right (show 0<2 by omega) ha
 have h2:2≤2 ^ b:=by simpa using Nat.pow_le_pow_right (show 0<2 by omega) hb
 generalize 2 ^ a=x at *;generalize 2 ^ b=y at *;have:=Nat.mul_le_mul_left (x - 1) (show 1≤y - 1 by omega);obtain⟨x,rfl⟩: ∃u,x=u+1:=⟨x - 1,by omega⟩
 obtain⟨y,rfl⟩: ∃u,y=u+1:=⟨y - 1,by omega⟩
 simp only[Nat.add_sub_cancel,Nat.mul_one]at this;rw[Nat.add_mul,Nat.mul_add];omega
theorem Q7 (A B:List (List Fact)):(EZ A B).length=A.length*B.length:=by
 induction A with
 | nil=>simp[EZ]
 | cons x r ih=>
   simp only[EZ,List.flatMap_cons,QJ,Bz,OB]at *;rw[ih,Nat.add_mul];omega
theorem Ep (f:Fact):arity f=true→ ∀c,(Bb f c).length≤2 ^ lv f∧ ∀l∈Bb f c,l.length≤lv f:=by
 induction f using Fact.ind with
 | h f ih=>
   intro h c;rw[IA,NQ,F6,aM];by_cases h1:f.op=1
   ·have e5: ¬f.op=5:=by omega
    have e6: ¬(f.op=6∨f.op=7):=by omega
    rw[if_pos h1,if_neg e5,if_neg e6];cases c
    ·rw[if_neg (by decide)]
     exact⟨by simp,fun l hl=>by simp at hl;subst hl;simp⟩
    ·rw[if_pos rfl]
     exact⟨by simp,fun l hl=>by cases hl⟩
   rw[if_neg h1];by_cases h5:f.op=5
   ·obtain⟨a,ha,hb⟩:=Jn h h5
    rw[if_pos h5,if_pos h5,ha];exact ih a (by rw[ha];exact .head _) hb (!c)
   rw[if_neg h5,if_neg h5];by_cases h6:f.op=6∨f.op=7
   ·obtain⟨a,b,ha,hb1,hb2⟩:=Jm h h6
    rw[if_pos h6,if_pos h6,ha];simp only[Fa,List.map_nil,List.getD_cons_zero,List.getD_cons_succ];obtain⟨i1,i2⟩:=ih a (by rw[ha];exact .head _) hb1 c;obtain⟨j1,j2⟩:=ih b (by rw[ha];exact .tail _ (.head _)) hb2 c;have p1:=bt a hb1;have p2:=bt b hb2;split
    ·refine⟨?_,fun l hl=>?_⟩
     ·rw[QJ]
      have:=gV p1 p2;omega
     ·rcases F8.1 hl with hl|hl
      ·have:=i2 l hl;omega
      ·have:=j2 l hl;omega
    ·refine⟨?_,fun l hl=>?_⟩
     ·rw[Q7,Nat.pow_add]
      exact Nat.mul_le_mul i1 j1
     ·simp only[EZ,List.mem_flatMap,Ob]at hl
      obtain⟨x,hx,y,hy,rfl⟩:=hl;have:=M7 x y;have:=i2 x hx;have:=j2 y hy;omega
   ·rw[if_neg h6,if_neg h6]
    cases c
    ·exact⟨by simp,fun l hl=>by simp at hl;subst hl;simp⟩
    ·exact⟨by simp,fun l hl=>by simp at hl;subst hl;simp⟩
theorem ua (f:Fact):arity f=true→2*lv f≤MP f+1:=by
 induction f using Fact.ind with
 | h f ih=>
   intro h;rw[NQ,aM,Kq];by_cases h5:f.op=5
   ·obtain⟨a,ha,hb⟩:=Jn h h5
    rw[if_pos h5,ha];have:=ih a (by rw[ha];exact .head _) hb;simp only[Fa,List.map_nil,List.getD_cons_zero,List.sum_cons,List.sum_nil];omega
   rw[if_neg h5];by_cases h6:f.op=6∨f.op=7
   ·obtain⟨a,b,ha,hb1,hb2⟩:=Jm h h6
    rw[if_pos h6,ha];have:=ih a (by rw[ha];exact .head _) hb1;have:=ih b (by rw[ha];exact .tail _ (.head _)) hb2;simp only[Fa,List.map_nil,List.getD_cons_zero,List.getD_cons_succ,List.sum_cons,List.sum_nil];omega
   ·rw[if_neg h6]
    omega
theorem OT {σ:AH} {es es':List (List V)} (hs:Sat σ []) (h:GS σ σ es es') (he: ∀e∈es',e.length=1):BQ σ (.l es true) fun r σ'=> ∃post,(∃v,r= .ret v∧post= [.own v 1 es'])∧Sat σ' post:=
 IX (fun _ _ h=>h) (.l (fun _=>rfl) h) ⟨_,⟨_,rfl,rfl⟩,fU hs he⟩
set_option maxHeartbeats 4000000 in
theorem yv (f:Fact):arity f=true→lv f≤28→ ∀c,B9 Tryz.prog 144 [.a (xF f),.b c] [] fun r post=> ∃v,r= .ret v∧post= [.own v 1 (fK (Bb f c))]:=by
 induction f using Fact.ind with
 | h f ih =>
   intro h hlv c σ hs;refine Be.fit (by kernel_rfl) fun hf=>?_
   have⟨h2,h3,h4⟩:=KM hf.1;have hM:=Mx;refine yI nb ?_;rw[IA];rw[NQ]at hlv;by_cases h5:f.op=5
   ·obtain⟨a,ha,hb⟩:=Jn h h5
    have ha0:f.kids[Int.toNat 0]? =some a:=by rw[ha];rfl
    have hrec:=ih a (by rw[ha];exact .head _) hb (by simpa[aM,h5,ha]using hlv) (!c)
    conv=>whnf
    repeat'((first|apply st|(apply sq;intro K U)|(apply si;intro A B Y Z)|(apply Y;clear Z B Y A)|(apply U;clear U K)|refine⟨rfl,?_⟩|refine⟨nb,?_⟩|refine Ru ?_|(constructor<;>intro hc<;>(try rw[hc])<;>(replace hc:=bp hc)<;>try(exfalso;omega))|fail)<;>conv=>whnf)
    all_goals try(exfalso;omega)
    refine hrec.use (rest:=[]) hs ?_;clear hs;rintro r post σ ⟨v,rfl,rfl⟩ hs
    conv=>whnf
    repeat'((first|apply st|(apply Y;clear Z B Y A)|(apply U;clear U K)|clear U K)<;>conv=>whnf)
    refine BD hs (List.Sublist.refl _) (.refl _) fun σ' hs'=>⟨_,⟨_,rfl,?_⟩,hs'⟩
    simp only[F6,h5,ha];rfl
   by_cases h6:f.op=6∨f.op=7
   ·obtain ⟨a,b,ha,hb1,hb2⟩:=Jm h h6
    have ha0:f.kids[Int.toNat 0]? =some a:=by rw[ha];rfl
    have ha1:f.kids[Int.toNat 1]? =some b:=by rw[ha];rfl
    have hlv2:lv a+lv b≤28:=by simpa[aM,h5,h6,ha]using hlv
    have hrec:=ih a (by rw[ha];exact .head _) hb1 (by omega) c;have hrec2:=ih b (by rw[ha];exact .tail _ (.head _)) hb2 (by omega) c
    have hcg:F6 f (f.kids.map Bb) c=if c != (f.op==7)then Bb a c++Bb b c else EZ (Bb a c) (Bb b c):=by
     have h1: ¬f.op=1:=by omega
     simp only[F6,if_neg h1,if_neg h5,if_pos h6,ha];rfl
    rw[hcg];obtain⟨i1,i2⟩:=Ep a hb1 c;obtain⟨j1,j2⟩:=Ep b hb2 c
    have hpw:2 ^ lv a*2 ^ lv b≤268435456:=by
     rw[←Nat.pow_add];exact Nat.pow_le_pow_right (by omega) (show lv a+lv b≤28 from hlv2)
    have hAB:=Nat.le_trans (Nat.mul_le_mul i1 j1) hpw;have q1:1≤2 ^ lv a:=Nat.one_le_two_pow;have q2:1≤2 ^ lv b:=Nat.one_le_two_pow;have q3:2 ^ lv a≤268435456:=Nat.le_trans (Nat.le_mul_of_pos_right _ q2) hpw;have q4:2 ^ lv b≤268435456:=Nat.le_trans (Nat.le_mul_of_pos_left _ q1) hpw;generalize Bb a c=LA at *;generalize Bb b c=LB at *;have hgB:=ER OS LB;clear hcg;generalize hres:(if c != (f.op==7)then LA++LB else EZ LA LB)=RES;clear ih
    conv=>whnf
    repeat'((first|apply st|(apply sq;intro K U)|(apply si;intro A B Y Z)|(apply Y;clear Z B Y A)|(apply U;clear U K)|apply dr|refine⟨rfl,?_⟩|refine⟨nb,?_⟩|refine Ru ?_|refine R8 ?_|(constructor<;>intro hc<;>(try rw[hc])<;>(replace hc:=bp hc)<;>try(exfalso;omega))|fail)<;>conv=>whnf)
    all_goals try(exfalso;omega)
    all_goals
     refine hrec.use (rest:=[]) hs ?_;clear hs;rintro r post σ ⟨v1,rfl,rfl⟩ hs
     conv=>whnf
     repeat'((first|apply st|apply dr|refine rk ?_ ?_|exact fun s e=>by cases e;rfl|refine⟨nb,?_⟩|fail)<;>conv=>whnf)
     refine hrec2.use (pre:=[]) (rest:=[_]) hs ?_;clear hs;rintro r post σ ⟨v2,rfl,rfl⟩ hs
     conv=>whnf
     repeat'((first|apply st|(apply sq;intro K U)|(apply si;intro A B Y Z)|(apply Y;clear Z B Y A)|(apply U;clear U K)|apply dr|refine⟨rfl,?_⟩|refine lo ?_|(constructor<;>intro hc<;>(try rw[hc])<;>(replace hc:=bp hc))|fail)<;>conv=>whnf)
    all_goals have hct:=hc
    all_goals clear hc
    all_goals first
     | (refine S3 hs 1 0 rfl rfl (by simp only[Bz];omega) hgB.1 hgB.2 fun v σ hs=>?_
        conv=>whnf
        repeat'((first|apply st|(apply Y;clear Z B Y A)|(apply U;clear U K)|clear U K)<;>conv=>whnf)
        rw[hct,if_pos rfl]at hres;refine BD (hs.less (Oa _ _)) (List.Sublist.refl _) (.refl _) fun σ' hs'=>⟨_,⟨_,rfl,?_⟩,hs'⟩
        rw[←hres];simp only[fK,TR]
        rfl)
     | (refine Cn LA.length (fun k v=>[(7,v),(52,eI (BJ k))]) (fun k v=>[.own v2 1 (fK LB),.own v1 1 (fK LA),.own v 1 (fK (EZ (LA.take k) LB))]) (fun _ _=>True) (.l [] true) rfl trivial (HI hs 1) ?_
        clear hs;rintro k v σ hk - hs;rcases Bo LA hk with⟨x,hx,hlt⟩|hke
        ·have hxl:=i2 x (DM hx)
         have hpk:EZ (LA.take (k+1)) LB=EZ (LA.take k) LB++LB.map fun y=>Cy x y:=by
          rw[AO hx];simp[EZ]
         have hpl:(EZ (LA.take k) LB).length+LB.length≤LA.length*LB.length:=by
          rw[Q7,QI,Nat.min_eq_left hk];have:=TS LB.length (show k+1≤LA.length from hlt);rw[Nat.add_mul]at this;omega
         generalize EZ (LA.take k) LB=pk0 at *
         conv=>whnf
         repeat'((first|apply st|(apply sq;intro K U)|(apply si;intro A B Y Z)|(apply Y;clear Z B Y A)|(apply U;clear U K)|refine⟨rfl,?_⟩|refine lo ?_|refine oc ?_|refine Vk ?_|(refine D0 (fun hc=>?_)<;>(try rw[hc])<;>clear hc)|fail)<;>conv=>whnf)
         refine Cn LB.length (fun j v=>[(7,v),(58,eI (BJ j))]) (fun j v=>[.own v2 1 (fK LB),.own v1 1 (fK LA),.own v 1 (fK (pk0++(LB.take j).map fun y=>Cy x y))]) (fun _ _=>True) v rfl trivial (by simpa using hs) ?_;clear hs;rintro j v σ hj - hs;rcases Bo LB hj with⟨y,hy,hjlt⟩|hje
         ·have hyl:=j2 y (DM hy)
          conv=>whnf
          repeat'((first|apply st|(apply sq;intro K U)|(apply si;intro A B Y Z)|(apply Y;clear Z B Y A)|(apply U;clear U K)|refine⟨rfl,?_⟩|refine oc ?_|refine Vk ?_|refine aq fun v σ hs hsl=>?_|(refine D0 (fun hc=>?_)<;>(try rw[hc])<;>clear hc)|refine Pure.use (ZS _ _ _ _ (by omega)) ?_|clear U K)<;>conv=>whnf)
          refine⟨hjlt,_,rfl,trivial,?_⟩;rw[AO hy,TR,←TV];exact hs
         ·conv=>whnf
          repeat'((first|apply st|(apply sq;intro K U)|(apply si;intro A B Y Z)|(apply Y;clear Z B Y A)|(apply U;clear U K)|refine⟨rfl,?_⟩|(refine Fh (fun hc=>?_)<;>(try rw[hc])<;>clear hc)|clear U K)<;>conv=>whnf)
          rw[A2 hje]at hs;exact⟨hlt,_,rfl,trivial,by rw[hpk];exact hs⟩
        ·conv=>whnf
         repeat'((first|apply st|(apply sq;intro K U)|(apply si;intro A B Y Z)|(apply Y;clear Z B Y A)|(apply U;clear U K)|refine⟨rfl,?_⟩|(refine Fh (fun hc=>?_)<;>(try rw[hc])<;>clear hc)|clear U K)<;>conv=>whnf)
         rw[A2 hke]at hs;rw[hct,if_neg (by decide)]at hres;rw[←hres]
         refine BD (hs.less ((Oa _ _).trans (Oa _ _))) (List.Sublist.refl _) (.refl _) fun σ' hs'=>⟨_,⟨_,rfl,rfl⟩,hs'⟩)
   ·have e1:F6 f (f.kids.map Bb) c=if f.op=1 then(if c then []else [[]])else if c then [[HH f]]else [[f]]:=by
     simp only[F6,if_neg h5,if_neg h6]
    rw[e1];clear e1
    conv=>whnf
    repeat'((first|apply st|(apply sq;intro K U)|(apply si;intro A B Y Z)|(apply Y;clear Z B Y A)|(apply U;clear U K)|refine⟨rfl,?_⟩|refine⟨nb,?_⟩|refine Pure.use (bq _) ?_|(constructor<;>intro hc<;>(try rw[hc])<;>(replace hc:=bp hc)<;>try(exfalso;omega))|clear U K)<;>conv=>whnf)
    all_goals try(exfalso;omega)
    ·subst hc
     rw[if_pos (by assumption),if_pos rfl];exact OT hs .nil (fun e h=>by cases h)
    ·subst hc
     rw[if_pos (by assumption),if_neg (by decide)];refine OT hs (.cons (.cons IU .nil) .nil) ?_;intro e he;simp at he;subst he;rfl
    ·subst hc
     rw[if_neg (by assumption),if_pos rfl];refine OT hs (.cons (.cons (.l (fun h=>by cases h) ?_) .nil) .nil) ?_
     ·simp only[facts,List.map,Bq]
      exact Eu _
     ·intro e he
      simp at he;subst he;rfl
    ·subst hc
     rw[if_neg (by assumption),if_neg (by decide)];refine OT hs (.cons (.cons (.l (fun h=>by cases h) ?_) .nil) .nil) ?_
     ·simp only[facts,List.map,Bq]
      exact Eu _
     ·intro e he
      simp at he;subst he;rfl
def JD (w:AM) (x:Fact):Prop:= ∃g,CW w g=true∧CO g=true∧(x=g∨x=HH g)
theorem G5 {g:Fact} (h:CO g=true):g.op=2∨g.op=3∨g.op=4:=by
 simp only[CO,HW,FL]at h;omega
theorem HD {w:AM} (f:Fact):CW w f=true→ ∀c,∀l∈Bb f c,∀x∈l,JD w x:=by
 induction f using Fact.ind with
 | h f ih=>
   intro h c;have har:=DU f h;have h':=h;rw[Di,Bj,I0]at h';rw[IA,F6];by_cases h1:f.op=1
   ·rw[if_pos h1]
    cases c
    ·rw[if_neg (by decide)]
     intro l hl x hx;simp at hl;subst hl;cases hx
    ·rw[if_pos rfl]
     intro l hl;cases hl
   rw[if_neg h1];by_cases h5:f.op=5
   ·obtain⟨a,ha,hb⟩:=Jn har h5
    rw[if_pos h5,ha];exact ih a (by rw[ha];exact .head _) (h'.2 a (by rw[ha];exact .head _)) (!c)
   rw[if_neg h5];by_cases h6:f.op=6∨f.op=7
   ·obtain⟨a,b,ha,hb1,hb2⟩:=Jm har h6
    rw[if_pos h6,ha];have i1:=ih a (by rw[ha];exact .head _) (h'.2 a (by rw[ha];exact .head _)) c;have j1:=ih b (by rw[ha];exact .tail _ (.head _)) (h'.2 b (by rw[ha];exact .tail _ (.head _))) c;simp only[Fa,List.map_nil,List.getD_cons_zero,List.getD_cons_succ];split
    ·intro l hl
     rcases F8.1 hl with hl|hl
     ·exact i1 l hl
     ·exact j1 l hl
    ·intro l hl x hx
     simp only[EZ,List.mem_flatMap,Ob]at hl;obtain⟨y,hy,z,hz,rfl⟩:=hl;rcases RM _ _ _ hx with h|h
     ·exact i1 y hy x h
     ·exact j1 z hz x h
   ·rw [if_neg h6]
    have hlf:CO f=true:=by
     have ho:Vr w f=true:=by
      have:=h'.1;simp only[Dd,Bj]at this;exact this.1
     simp only[CO,HW,FL];unfold Vr at ho;split at ho
     ·omega
     ·split at ho
      ·omega
      ·simp only[HW,FL]at ho
       omega
    cases c
    ·rw[if_neg (by decide)]
     intro l hl x hx;simp at hl;subst hl;simp at hx;subst hx;exact⟨x,h,hlf,.inl rfl⟩
    ·rw[if_pos rfl]
     intro l hl x hx;simp at hl;subst hl;simp at hx;subst hx;exact⟨f,h,hlf,.inr rfl⟩
theorem JW {w:AM} {x:Fact} (h:JD w x):GV x∧CW w (BV x).1=true∧CO (BV x).1=true:=by
 obtain⟨g,hn,hl,rfl|rfl⟩:=h
 ·have:=G5 hl
  have h5: ¬x.op=5:=by omega
  exact⟨fun e=>absurd e h5,by simp only[BV,if_neg h5];exact⟨hn,hl⟩⟩
 ·exact⟨fun _ e=>(by cases e),hn,hl⟩
theorem Lz {w:AM} {l:List Fact} (h: ∀x∈l,JD w x):(∀x∈l,GV x)∧UE w l∧Kh l∧SF l 2:=by
 refine⟨fun x hx=>(JW (h x hx)).1,fun x hx h2=>?_,fun x hx=>?_,fun x hx=>?_⟩
 all_goals
  obtain⟨-,hn,hl⟩:=JW (h x hx);have hlo:=G5 hl;generalize (BV x).1=g at *;rw[Di,Bj]at hn;have hn:=hn.1;simp only[Dd,Bj]at hn;obtain⟨ho,-,-,-,hp,-⟩:=hn
 ·unfold Vr at ho
  rw[if_pos h2]at ho;simp only[QS,Bj,D4]at ho;exact ho.2
 ·unfold Vr at ho
  split at ho
  ·simp only[Bj,FL]at ho
   omega
  ·split at ho
   ·simp only[Bj,D4]at ho
    omega
   ·omega
 ·simp only[Fl,Bj,D4]at hp
  omega
def Tf (w:AM) (f:Fact):Bool:=(Bb f false).any (IG w)
theorem yo (w:AM) (f:Fact) (hw:mZ w) (hn:CW w f=true) (hlv:lv f≤28):Pure Tryz.prog 111 [.a (BR w),.a (xF f)] (.b (Tf w f)):=by
 have hM:=Mx;have har:=DU f hn;have hcl:=(Ep f har false).1;have hp:2 ^ lv f≤2 ^ 28:=Nat.pow_le_pow_right (by omega) hlv;have hlits:=HD f hn false;refine ye nb ?_;have hs:=Sn
 conv=>whnf
 repeat'((first|apply st|(apply sq;intro K U)|(apply si;intro A B Y Z)|(apply Y;clear Z B Y A)|(apply U;clear U K)|refine⟨nb,?_⟩|fail)<;>conv=>whnf)
 refine(yv f har hlv false).use (rest:=[]) hs ?_;clear hs;rintro r post σ ⟨v,rfl,rfl⟩ hs;have F:Tf w f=(Bb f false).any (IG w):=rfl
 have hlen: ∀x∈Bb f false,x.length≤1000000:=fun x hx=>by
  have:=(Ep f har false).2 x hx;omega
 generalize Bb f false=cs at *
 conv=>whnf
 repeat'((first|apply st|(apply Y;clear Z B Y A)|(apply U;clear U K)|refine lo ?_|fail)<;>conv=>whnf)
 refine Cn cs.length (fun k (_:Unit)=>[(10,eI (BJ k))]) (fun _ _=>[.own v 1 (fK cs)]) (fun k _=>Tf w f=(cs.drop k).any (IG w)) () rfl F hs ?_;clear hs F;rintro k - σ hk F hs;rcases Bo cs hk with⟨x,hx,hlt⟩|hke
 ·obtain⟨q1,q2,q3,q4⟩:=Lz (hlits x (DM hx))
  have htog:=VE w x q1 (hlen x (DM hx)) hw q2 q3 q4;rw[drop_cons hx,Qe]at F;cases ht:IG w x<;>rw[ht]at htog F
  ·conv=>whnf
   repeat'((first|apply st|(apply sq;intro K U)|(apply si;intro A B Y Z)|(apply Y;clear Z B Y A)|(apply U;clear U K)|refine⟨rfl,?_⟩|refine⟨nb,?_⟩|refine oc ?_|refine Vk ?_|(refine D0 (fun hc=>?_)<;>(try rw[hc])<;>clear hc)|refine Pure.use (by assumption) ?_|clear U K)<;>conv=>whnf)
   exact⟨hlt,(),rfl,F,hs⟩
  ·conv=>whnf
   repeat'((first|apply st|(apply sq;intro K U)|(apply si;intro A B Y Z)|(apply Y;clear Z B Y A)|(apply U;clear U K)|refine⟨rfl,?_⟩|refine⟨nb,?_⟩|refine oc ?_|refine Vk ?_|(refine D0 (fun hc=>?_)<;>(try rw[hc])<;>clear hc)|refine Pure.use (by assumption) ?_|clear U K)<;>conv=>whnf)
   exact AJ (by rw[F];rfl)
 ·conv=>whnf
  repeat'((first|apply st|(apply sq;intro K U)|(apply si;intro A B Y Z)|(apply Y;clear Z B Y A)|(apply U;clear U K)|refine⟨rfl,?_⟩|(refine Fh (fun hc=>?_)<;>(try rw[hc])<;>clear hc)|clear U K)<;>conv=>whnf)
  exact AJ (by rw[F,As hke];rfl)
def fT (w:AM) (a b:Fact):Bool:= !Tf w (QT a (HH b))
theorem bu (a b:Fact):lv (QT a (HH b))=lv a+lv b:=by
 rw[NQ];simp only[aM,QT,Fact.op,Fact.kids,Fa,List.map_nil,List.getD_cons_zero,List.getD_cons_succ];rw[NQ (HH b)];simp[aM,HH,Fact.op,Fact.kids]
theorem Uf {w:AM} {a b:Fact} (ha:CW w a=true) (hb:CW w b=true):CW w (QT a (HH b))=true:=by
 have hnb:CW w (HH b)=true:=by
  rw[Di];simp[HH,Dd,Vr,Fact.op,Fact.kids,Fact.arg,Fact.path,Fact.cls,Fact.n,Cj,Fl,CO,hb]
 rw[Di];simp[QT,Dd,Vr,Fact.op,Fact.kids,Fact.arg,Fact.path,Fact.cls,Fact.n,Cj,Fl,CO,ha,hnb]
theorem Zc (w:AM) (a b:Fact) (hw:mZ w) (ha:CW w a=true) (hb:CW w b=true) (la:lv a≤12) (lb:lv b≤12):Pure Tryz.prog 77 [.a (BR w),.a (xF a),.a (xF b)] (.b (fT w a b)):=by
 refine AA9 nb ?_;have hs:=Sn
 conv=>whnf
 repeat'((first|apply st|(apply sq;intro K U)|(apply si;intro A B Y Z)|(apply Y;clear Z B Y A)|(apply U;clear U K)|apply dr|refine rk ?_ ?_|exact fun s e=>by cases e;rfl|refine⟨nb,?_⟩|refine Pure.use (bq _) ?_|refine Pure.use (yu _ _) ?_|refine Pure.use (yo _ _ hw (Uf ha hb) (by rw[bu];omega)) ?_|fail)<;>conv=>whnf)
 all_goals exact AJ rfl
theorem UW {p:Prog}: ∀ {ms:List Ot} {s:List Int},(runM p ms s).isSome=true→ ∀m∈ms,QK p m=true
 | [],_,_,_,h=>by cases h
 | m ::r,s,h,x,hx=>by
   rw[runM]at h;split at h
   ·rename_i hok
    split at h
    ·cases h
    ·rcases IC.1 hx with rfl|hx
     ·exact hok
     ·exact UW h x hx
   ·cases h
theorem H3 {p:Prog} (h:(Bh p).isSome=true):DP p=true∧ ∀m∈p.methods,QK p m=true:=by
 unfold Bh at h;split at h
 ·rename_i hh
  refine⟨hh,?_⟩;split at h
  ·cases h
  ·rename_i s hs
   exact UW (by rw[hs];rfl)
 ·cases h
structure O4 (p:Prog):Prop where
 wok:mZ (Ab p)
 AK:B2 p.AL≤Ai
 AAt:p.AL.length≤1000
 facts: ∀m∈p.methods,CW (Ab p) m.fact=true∧lv m.fact≤12
 many:p.methods.length≤16
theorem look_ok {p:Prog} (h:(Bh p).isSome=true):O4 p:=by
 obtain⟨hh,hm⟩:=H3 h;simp only[DP,Bj,D4]at hh;have hc:=hh.1;simp only[A9,Bj,D4]at hc;have hM:=Mx;refine⟨Pd hc.1 hc.2.1 hc.2.2.2.1,by have:=(FR _ _ hc.2.1).1;omega,by have:=hc.1;omega,fun m h=>?_,hh.2.2.1⟩;have:=hm m h;simp only[QK,E6,Bj,D4]at this;have hn:=this.2.2.2.2.1.2.2;refine⟨hn,?_⟩;have hcn:=K4 m.fact 24 (by omega) this.2.2.2.2.1.1;have:=ua m.fact (DU _ hn);omega
def Cc (p:Prog) (m:Int):Bool:=decide (0≤m)&&decide (m<(p.methods.length:Int))
def DB (p:Prog) (m:Int):Ot:=p.methods.getD m.toNat default
theorem Dj {p:Prog} {m:Int} (h:Cc p m=true):p.methods[m.toNat]? =some (DB p m):=by
 simp only[Cc,Bj,D4]at h;rw[DB,FM,FD (by omega)];rfl
def DS (p:Prog) (m n:Int):Bool:=(DB p m).gen==(DB p n).gen&&(DB p m).kind==(DB p n).kind
def FO (p:Prog) (m n:Int):Bool:=fT (Ab p) (DB p m).fact (DB p n).fact
def F7 (p:Prog) (m n:Int):Bool:=FO p m n&& !FO p n m
theorem Ya (p:Prog) (m n:Int) (hm:Cc p m=true) (hn:Cc p n=true):Pure Tryz.prog 47 [.a (Bd p),eI m,eI n] (.b (DS p m n)):=by
 refine Pure.fit (by kernel_rfl) fun hf=>?_
 have⟨p1,p2,p3,p4⟩:=GD hf.1;have hxm:=Dj hm;have hxn:=Dj hn;simp only[Cc,Bj,D4]at hm hn;refine ABK nb ?_;have hs:=Sn
 conv=>whnf
 repeat'((first|apply st|(apply sq;intro K U)|(apply si;intro A B Y Z)|(apply Y;clear Z B Y A)|(apply U;clear U K)|apply dr|refine⟨rfl,?_⟩|refine Tb ?_|(constructor<;>intro hc<;>(try rw[hc])<;>(replace hc:=bp hc))|fail)<;>conv=>whnf)
 all_goals exact AJ (by simp[DS, *])
theorem Jv (p:Prog) (m n:Int) (hk:O4 p) (hm:Cc p m=true) (hn:Cc p n=true):Pure Tryz.prog 55 [.a (Bd p),eI m,eI n] (.b (FO p m n)):=by
 refine Pure.fit (by kernel_rfl) fun hf=>?_
 have⟨p1,p2,p3,p4⟩:=GD hf.1;have F:=NS hf.1;have hxm:=Dj hm;have hxn:=Dj hn;simp only[Cc,Bj,D4]at hm hn;refine ABE nb ?_;have hs:=Sn
 conv=>whnf
 repeat'((first|apply st|(apply sq;intro K U)|(apply si;intro A B Y Z)|(apply Y;clear Z B Y A)|(apply U;clear U K)|apply dr|refine rk ?_ ?_|exact fun s e=>by cases e;rfl|refine⟨nb,?_⟩|refine Tb ?_|refine Pure.use (Sg _ F hk.AAt hk.AK) ?_|refine Pure.use (Zc _ _ _ hk.wok (hk.facts _ (DM hxm)).1 (hk.facts _ (DM hxn)).1 (hk.facts _ (DM hxm)).2 (hk.facts _ (DM hxn)).2) ?_|fail)<;>conv=>whnf)
 all_goals exact AJ rfl
theorem mU (p:Prog) (m n:Int) (hk:O4 p) (hm:Cc p m=true) (hn:Cc p n=true):Pure Tryz.prog 39 [.a (Bd p),eI m,eI n] (.b (F7 p m n)):=by
 refine ABN nb ?_;have hs:=Sn
 conv=>whnf
 repeat'((first|apply st|(apply sq;intro K U)|(apply si;intro A B Y Z)|(apply Y;clear Z B Y A)|(apply U;clear U K)|refine⟨nb,?_⟩|refine Pure.use (Jv _ _ _ hk hm hn) ?_|refine Pure.use (Jv _ _ _ hk hn hm) ?_|(constructor<;>intro hc<;>(try rw[hc])<;>(replace hc:=bp hc))|fail)<;>conv=>whnf)
 all_goals exact AJ (by simp[F7, *])
end Go.Gl
namespace Go.Gl
variable {P:Program} {σ:AH}
abbrev eU (n:Nat):V:= .i .u64 (n:Int)
theorem Ho {n:Nat} (h:n<18446744073709551616):IntKind.u64.wrap (n:Int)=n:=by
 simp only[IntKind.wrap,IntKind.signed,IntKind.bits];simp;omega
theorem Lo {a b:Nat} (ha:a<18446744073709551616) (hb:b<18446744073709551616):bits .or .u64 (a:Int) (b:Int)=((a|||b:Nat):Int):=by
 have h:a|||b<2 ^ 64:=Nat.or_lt_two_pow (n:=64) (by simpa using ha) (by simpa using hb)
 simp only[bits,IntKind.bits]
 have e1:(BitVec.ofInt 64 (a:Int)|||BitVec.ofInt 64 (b:Int)).toNat=a|||b:=by
  simp only[BitVec.ofInt_natCast,BitVec.toNat_or,BitVec.toNat_ofNat];rw[Nat.mod_eq_of_lt (by simpa using ha),Nat.mod_eq_of_lt (by simpa using hb)]
 have e2:=Ho (n:=a|||b) (by simpa using h);rw[←e1]at e2;rw[←e1];exact e2
theorem L5 {a b:Nat} (ha:a<18446744073709551616) (hb:b<18446744073709551616):bits .and .u64 (a:Int) (b:Int)=((a&&&b:Nat):Int):=by
 have h:a&&&b<2 ^ 64:=Nat.and_lt_two_pow (n:=64) a (by simpa using hb);simp only[bits,IntKind.bits]
 have e1:(BitVec.ofInt 64 (a:Int)&&&BitVec.ofInt 64 (b:Int)).toNat=a&&&b:=by
  simp only[BitVec.ofInt_natCast,BitVec.toNat_and,BitVec.toNat_ofNat];rw[Nat.mod_eq_of_lt (by simpa using ha),Nat.mod_eq_of_lt (by simpa using hb)]
 have e2:=Ho (n:=a&&&b) (by simpa using h);rw[←e1]at e2;rw[←e1];exact e2
def Oq (a b:Nat):Nat:=(BitVec.ofNat 64 a&&& ~~~BitVec.ofNat 64 b).toNat
theorem TC (a b:Nat):Oq a b<18446744073709551616:=by
 have:=(BitVec.ofNat 64 a&&& ~~~BitVec.ofNat 64 b).isLt;simpa[Oq]using this
theorem Rg {a b:Nat}:bits .andNot .u64 (a:Int) (b:Int)=((Oq a b:Nat):Int):=by
 simp only[bits,IntKind.bits]
 have e1:(BitVec.ofInt 64 (a:Int)&&& ~~~BitVec.ofInt 64 (b:Int)).toNat=Oq a b:=by
  simp only[BitVec.ofInt_natCast,Oq]
 have e2:=Ho (n:=Oq a b) (TC a b);rw[←e1]at e2;rw[←e1];exact e2
theorem PZ {a b i:Nat} (hi:i<64):(Oq a b).testBit i=(a.testBit i&& !b.testBit i):=by
 rw[Oq,BitVec.testBit_toNat,BitVec.getLsbD_and,BitVec.getLsbD_not];rw[BitVec.getLsbD_ofNat,BitVec.getLsbD_ofNat];simp only[hi,decide_true,I7]
theorem Xh {c:Nat} (h:c<64):IntKind.u64.wrap (1*2 ^ (min c IntKind.u64.bits))=((2 ^ c:Nat):Int):=by
 have hb:IntKind.u64.bits=64:=rfl;rw[hb,Nat.min_eq_left (by omega),Int.one_mul];have:=Ho (n:=2 ^ c) (by have:=Nat.pow_lt_pow_right (show 1<2 by omega) h;simpa using this);rw[←this];simp
theorem Kj {c:Nat} (h:c<64):2 ^ c<18446744073709551616:=by
 have:=Nat.pow_lt_pow_right (show 1<2 by omega) h;simpa using this
theorem Xg {a c:Nat} (h:c<64):(a:Int).fdiv (2 ^ (min c IntKind.u64.bits))=((a >>> c:Nat):Int):=by
 have hb:IntKind.u64.bits=64:=rfl;rw[hb,Nat.min_eq_left (by omega),Nat.shiftRight_eq_div_pow,Int.fdiv_eq_ediv_of_nonneg _ (Int.pow_nonneg (by omega))];simp
theorem Da {v:V} {Q:R→AH→Prop} (h:Q (.By v) σ):BH σ v Q:=⟨v,σ,fun _ _ h=>h,.refl v,h⟩
theorem C1 {g:FuncId} {fi ca args:List V} {Q:R→AH→Prop} (h:Be P g (fi++args++ca) σ Q):Bk P (.f (.func g) fi ca) args σ Q:=h
theorem Pure.of {f:FuncId} {args:List V} {v:V} (h:Be P f args emp fun r _=>r= .ret v):Pure P f args v:=by
 refine⟨h.1,fun Λ w cs G hv=>Calls.mono (h.2 Λ w cs G hv) fun e w' ⟨r,σ',hr,h1,h2,h3⟩=>?_⟩;subst hr;obtain⟨c,rfl,hv'⟩:=h1;have hsub:Sub emp σ':=fun n o ho=>by cases ho
 exact⟨.ret v,emp,⟨rfl,rfl⟩,⟨c,rfl,HE.rel h2 hsub (.refl v) hv'⟩,h2.drop hsub,⟨h3.frame,h3.size,h3.os,h3.tape,h3.output,fun _ _ _=>rfl⟩⟩
def Df {α S:Type} (P:Program) (x:V) (ea:α→V) (H:S→List At) (stp:α→S→Bool×S) (D:α→S→Prop):Prop:=
 ∀y s,D y s→ ∀σ,Sat σ (H s)→Bk P x [ea y] σ fun r σ'=>r= .ret (.b (stp y s).1)∧Sat σ' (H (stp y s).2)
theorem Df.use {α S:Type} {x:V} {ea:α→V} {H:S→List At} {stp:α→S→Bool×S} {D:α→S→Prop} (h:Df P x ea H stp D) {y:α} {s:S} (hd:D y s) (hs:Sat σ (H s)) {k kp:V→AH→Prop} (hk: ∀σ',Sat σ' (H (stp y s).2)→k (.b (stp y s).1) σ'):Bk P x [ea y] σ (qk k kp):=
 (h y s hd σ hs).mono fun r σ' ⟨e,h'⟩=>by rw[e];exact hk σ' h'
theorem Df.useF {α S:Type} {g:FuncId} {fi ca:List V} {ea:α→V} {H:S→List At} {stp:α→S→Bool×S} {D:α→S→Prop} (h:Df P (.f (.func g) fi ca) ea H stp D) {y:α} {s:S} (hd:D y s) {rest:List At} (hs:Sat σ (H s++rest)) {k kp:V→AH→Prop} (hk: ∀σ',Sat σ' (H (stp y s).2++rest)→k (.b (stp y s).1) σ'):Bk P (.f (.func g) fi ca) [ea y] σ (qk k kp):=by
 refine C1 ?_;have h1:B9 P g (fi++[ea y]++ca) (H s) fun r post=>r= .ret (.b (stp y s).1)∧post=H (stp y s).2:=fun σ hs=>Be.mono (h y s hd σ hs) fun r σ' ⟨e,h2⟩=>⟨_,⟨e,rfl⟩,h2⟩
 refine h1.use hs ?_;rintro r post σ' ⟨rfl,rfl⟩ hs';exact hk σ' hs'
def Cd {α S:Type} (stp:α→S→Bool×S):List α→Nat→S→Int×S
 | [],_,s=>(-1,s)
 | y::r,k,s=>if(stp y s).1 then((k:Int),(stp y s).2)else Cd stp r (k+1) (stp y s).2
def Cx {α S:Type} (stp:α→S→Bool×S):List α→S→Bool×S
 | [],s=>(true,s)
 | y::r,s=>if(stp y s).1 then Cx stp r (stp y s).2 else(false,(stp y s).2)
def Vs {α S:Type} (stp:α→S→Bool×S) (D:α→S→Prop):List α→S→Prop
 | [],_=>True
 | y::r,s=>D y s∧Vs stp D r (stp y s).2
theorem NC {α S:Type} {stp:α→S→Bool×S}: ∀(xs:List α) (k:Nat) (s:S),(Cd (fun y s=>(!(stp y s).1,(stp y s).2)) xs k s).2=(Cx stp xs s).2∧(decide ((Cd (fun y s=>(!(stp y s).1,(stp y s).2)) xs k s).1≥0)= !(Cx stp xs s).1)
 | [],_,_=>⟨rfl,rfl⟩
 | y::r,k,s=>by
   simp only[Cd,Cx];cases h:(stp y s).1
   ·simp
   ·simpa using NC r (k+1) (stp y s).2
theorem Sr {α S:Type} {stp:α→S→Bool×S} {D:α→S→Prop}: ∀(xs:List α) (s:S),Vs stp D xs s→Vs (fun y s=>(!(stp y s).1,(stp y s).2)) D xs s
 | [],_,_=>trivial
 | _::r,_,h=>⟨h.1,Sr r _ h.2⟩
theorem Jz {α:Type} (f:α→Bool): ∀(xs:List α),Cx (fun y (_:Unit)=>(f y,())) xs ()=(xs.all f,())
 | []=>rfl
 | y::r=>by
   simp only[Cx,OA];cases f y
   ·rfl
   ·simpa using Jz f r
theorem Md {α S:Type} {stp:α→S→Bool×S} {D:α→S→Prop}: ∀ {xs:List α} {s:S},(∀y∈xs,∀s,D y s)→Vs stp D xs s
 | [],_,_=>trivial
 | y::r,s,h=>⟨h y (.head _) s,Md fun z hz=>h z (.tail _ hz)⟩
end Go.Gl
namespace Go.Gl
open Go.Proofs
attribute [local irreducible] Be BQ BH Ae AR BC Af Ag AT A7 AZ Ad Bk Bx Sat Au Bs BI W
theorem SV {xs:List Int} {f:Bool} (h:FG (.l (iL xs) f)):xs.length≤Ai:=LU h
theorem da:Pure Tryz.prog 164 [.b true] (.t []):=by
 refine cQ nb ?_;have hs:=Sn
 conv=>whnf
 repeat'((first|apply st|(apply sq;intro K U)|(apply si;intro A B Y Z)|(apply Y;clear Z B Y A)|(apply U;clear U K)|refine GH ?_|fail)<;>conv=>whnf)
 all_goals exact AJ rfl
abbrev ED:V:= .FE 242 (.a [])
def tV (xs:List Int) (x:Int):Int:=(Cd (fun y (_:Unit)=>(x==y,())) xs 0 ()).1
theorem PS {α:Type} (f:α→Bool): ∀(xs:List α) (k:Nat),(decide ((Cd (fun y (_:Unit)=>(f y,())) xs k ()).1≥0))=xs.any f
 | [],_=>rfl
 | y::r,k=>by
   simp only[Cd,Qe];cases f y
   ·simpa using PS f r (k+1)
   ·simp
theorem TP (xs:List Int) (x:Int):xs.any (x== ·)=xs.contains x:=by
 induction xs with
 | nil=>rfl
 | cons y r ih=>rw[Qe,List.contains_cons,ih]
theorem iF (xs:List Int) (x:Int):decide (tV xs x≥0)=xs.contains x:=by
 rw[←TP];exact PS (x== ·) xs 0
theorem dt (xs:List Int) (f:Bool) (x:Int):Pure Tryz.prog 193 [.l (iL xs) f,eI x] (eI (tV xs x)):=by
 refine Pure.fit (by kernel_rfl) fun hf=>?_
 have hxl:=SV hf.1;have hM:=Mx;refine xf nb ?_;have hs:=Sn
 conv=>whnf
 repeat'((first|apply st|(apply sq;intro K U)|(apply si;intro A B Y Z)|(apply Y;clear Z B Y A)|(apply U;clear U K)|fail)<;>conv=>whnf)
 refine Cn xs.length (fun k (_:Unit)=>[(8,eI (BJ k))]) (fun _ _=>[]) (fun k _=>tV xs x=(Cd (fun y (_:Unit)=>(x==y,())) (xs.drop k) k ()).1) () rfl rfl hs ?_;clear hs;rintro k - σ hk hn hs;have hck:BJ k=k:=AP (by omega);rcases Bo xs hk with⟨y,hy,hlt⟩|hke
 ·rw[drop_cons hy,Cd]at hn
  conv=>whnf
  repeat'((first|apply st|(apply sq;intro K U)|(apply si;intro A B Y Z)|(apply Y;clear Z B Y A)|(apply U;clear U K)|refine⟨rfl,?_⟩|refine ix ?_|(refine D0 (fun hc=>?_)<;>(try rw[hc])<;>clear hc)|(constructor<;>intro hc<;>(try rw[hc])<;>(replace hc:=bp hc))|clear U K)<;>conv=>whnf)
  ·exact AJ (by rw[hn,hc,hck];simp)
  ·exact⟨hlt,(),rfl,by rw[hn];simp[hc],hs⟩
 ·rw[As hke,Cd]at hn
  conv=>whnf
  repeat'((first|apply st|(apply sq;intro K U)|(apply si;intro A B Y Z)|(apply Y;clear Z B Y A)|(apply U;clear U K)|refine⟨rfl,?_⟩|(refine Fh (fun hc=>?_)<;>(try rw[hc])<;>clear hc)|clear U K)<;>conv=>whnf)
  exact AJ (by rw[hn])
theorem EH (xs:List Int) (f:Bool) (x:Int):Pure Tryz.prog 172 [.l (iL xs) f,eI x] (.b (xs.contains x)):=by
 refine xr nb ?_;have hs:=Sn
 conv=>whnf
 repeat'((first|apply st|(apply sq;intro K U)|(apply si;intro A B Y Z)|(apply Y;clear Z B Y A)|(apply U;clear U K)|refine⟨rfl,?_⟩|refine Pure.use (dt _ _ _) ?_|fail)<;>conv=>whnf)
 all_goals exact AJ (by rw[←iF])
theorem QD (n:Int):Pure Tryz.prog 211 [eI n] (.b (SC n)):=by
 refine xX nb ?_;have hs:=Sn
 conv=>whnf
 repeat'((first|apply st|(apply sq;intro K U)|(apply si;intro A B Y Z)|(apply Y;clear Z B Y A)|(apply U;clear U K)|refine⟨rfl,?_⟩|(constructor<;>intro hc<;>(try rw[hc])<;>(replace hc:=bp hc))|fail)<;>conv=>whnf)
 all_goals exact AJ (by simp[SC, *]<;>omega)
theorem PL (f:Fact):CO f=(decide (2≤f.op)&&decide (f.op≤4)):=by
 rw[KZ];simp only[CO,HW,Bj,FL,D4];omega
theorem Sw (f:Fact):Pure Tryz.prog 150 [.a (xF f)] (.b (CO f)):=by
 refine yG nb ?_;have hs:=Sn
 conv=>whnf
 repeat'((first|apply st|(apply sq;intro K U)|(apply si;intro A B Y Z)|(apply Y;clear Z B Y A)|(apply U;clear U K)|refine⟨rfl,?_⟩|(constructor<;>intro hc<;>(try rw[hc])<;>(replace hc:=bp hc))|fail)<;>conv=>whnf)
 all_goals exact AJ (by rw[PL];simp[*]<;>omega)
theorem Xe (s c:Nat) (hs0:s<18446744073709551616) (hc:c<64):Pure Tryz.prog 176 [eU s,eI c] (eU (s|||2 ^ c)):=by
 refine xn nb ?_;have hs:=Sn
 conv=>whnf
 repeat'((first|(apply sq;intro K U)|(apply si;intro A B Y Z)|(apply Y;clear Z B Y A)|(apply U;clear U K)|fail)<;>conv=>whnf)
 refine⟨Int.natCast_nonneg _,?_⟩
 conv=>whnf
 repeat'((first|apply st|(apply Y;clear Z B Y A)|(apply U;clear U K)|refine⟨rfl,?_⟩|fail)<;>conv=>whnf)
 exact AJ (by rw[LG,Xh hc,Lo hs0 (Kj hc)])
theorem SP (s c:Nat) (hs0:s<18446744073709551616) (hc:c<64):Pure Tryz.prog 152 [eU s,eI c] (.b (s.testBit c)):=by
 refine yF nb ?_;have hs:=Sn
 conv=>whnf
 repeat'((first|(apply sq;intro K U)|(apply si;intro A B Y Z)|(apply Y;clear Z B Y A)|(apply U;clear U K)|fail)<;>conv=>whnf)
 refine⟨Int.natCast_nonneg _,?_⟩
 conv=>whnf
 repeat'((first|apply st|(apply Y;clear Z B Y A)|(apply U;clear U K)|refine⟨rfl,?_⟩|fail)<;>conv=>whnf)
 refine AJ ?_;rw[LG,Xg hc];have h1:s >>> c<18446744073709551616:=by rw[Nat.shiftRight_eq_div_pow];exact Nat.lt_of_le_of_lt (Nat.div_le_self _ _) hs0
 have h2:bits .and .u64 ((s >>> c:Nat):Int) 1=((s >>> c&&&1:Nat):Int):=L5 h1 (show 1<_ by decide);rw[h2];simp only[Nat.testBit,Nat.and_comm 1];congr 1;rcases Nat.mod_two_eq_zero_or_one (s >>> c)with h|h<;>simp[Nat.and_one_is_mod,h]
theorem iC (op:Int):Pure Tryz.prog 220 [eI op] (eI (Cj op)):=by
 refine xQ nb ?_;have hs:=Sn
 conv=>whnf
 repeat'((first|apply st|(apply sq;intro K U)|(apply si;intro A B Y Z)|(apply Y;clear Z B Y A)|(apply U;clear U K)|refine⟨rfl,?_⟩|(constructor<;>intro hc<;>(try rw[hc])<;>(replace hc:=bp hc))|clear U K)<;>conv=>whnf)
 all_goals exact AJ (by simp[Cj, *])
theorem Wa (b:Bool):Pure Tryz.prog 215 [.b b] (eI (if b then 0 else 2)):=by
 refine xU nb ?_;have hs:=Sn
 conv=>whnf
 repeat'((first|apply st|(apply sq;intro K U)|(apply si;intro A B Y Z)|(apply Y;clear Z B Y A)|(apply U;clear U K)|(constructor<;>intro hc<;>(try rw[hc])<;>(replace hc:=bp hc))|clear U K)<;>conv=>whnf)
 all_goals exact AJ (by simp[*])
theorem TK {S:Type} (g:FuncId) (fi ca:List V) (H:S→List At) (stp:Int→S→Bool×S) (D:Int→S→Prop) (hx:Df Tryz.prog (.f (.func g) fi ca) eI H stp D) (xs:List Int) (f:Bool) (s0:S) (hd:Vs stp D xs s0) :
 B9 Tryz.prog 103 [.l (iL xs) f,.f (.func g) fi ca] (H s0) fun r post=>r= .ret (eI (Cd stp xs 0 s0).1)∧post=H (Cd stp xs 0 s0).2:=by
 intro σ hs;refine Be.fit (by kernel_rfl) fun hf=>?_
 have hxl:=SV hf.1;have hM:=Mx;refine cR nb ?_
 conv=>whnf
 repeat'((first|apply st|(apply sq;intro K U)|(apply si;intro A B Y Z)|(apply Y;clear Z B Y A)|(apply U;clear U K)|fail)<;>conv=>whnf)
 refine Cn xs.length (fun k (_:S)=>[(8,eI (BJ k))]) (fun _ s=>H s) (fun k s=>Vs stp D (xs.drop k) s∧Cd stp xs 0 s0=Cd stp (xs.drop k) k s) s0 rfl ⟨hd,rfl⟩ hs ?_;clear hs;rintro k s σ hk ⟨hd,hn⟩ hs;have hck:BJ k=k:=AP (by omega);rcases Bo xs hk with⟨y,hy,hlt⟩|hke
 ·rw[drop_cons hy]at hn hd
  obtain⟨hd1,hd2⟩:=hd;rw[Cd]at hn
  conv=>whnf
  repeat'((first|apply st|(apply sq;intro K U)|(apply si;intro A B Y Z)|(apply Y;clear Z B Y A)|(apply U;clear U K)|refine⟨rfl,?_⟩|refine ix ?_|(refine D0 (fun hc=>?_)<;>(try rw[hc])<;>clear hc)|fail)<;>conv=>whnf)
  refine hx.use hd1 hs ?_;clear hs;intro σ hs
  conv=>whnf
  repeat'((first|apply st|(apply sq;intro K U)|(apply si;intro A B Y Z)|(apply Y;clear Z B Y A)|(apply U;clear U K)|refine⟨rfl,?_⟩|(constructor<;>intro hc<;>(try rw[hc])<;>(replace hc:=bp hc))|clear U K)<;>conv=>whnf)
  ·rw[hc,if_pos rfl]at hn
   rw[hn];exact BD hs (List.Sublist.refl _) (by rw[hck];exact .refl _) fun σ' hs'=>⟨_,⟨rfl,rfl⟩,hs'⟩
  ·rw[hc,if_neg (by decide)]at hn
   exact⟨hlt,_,rfl,⟨hd2,hn⟩,hs⟩
 ·rw[As hke,Cd]at hn
  conv=>whnf
  repeat'((first|apply st|(apply sq;intro K U)|(apply si;intro A B Y Z)|(apply Y;clear Z B Y A)|(apply U;clear U K)|refine⟨rfl,?_⟩|(refine Fh (fun hc=>?_)<;>(try rw[hc])<;>clear hc)|clear U K)<;>conv=>whnf)
  rw[hn];exact BD hs (List.Sublist.refl _) (.refl _) fun σ' hs'=>⟨_,⟨rfl,rfl⟩,hs'⟩
section
variable {S:Type} (g:FuncId) (fi ca:List V) (H:S→List At)
theorem QH (stp:Int→S→Bool×S) (D:Int→S→Prop) (hx:Df Tryz.prog (.f (.func g) fi ca) eI H stp D) (xs:List Int) (f:Bool) (s0:S) (hd:Vs stp D xs s0) :
 B9 Tryz.prog 72 [.l (iL xs) f,.f (.func g) fi ca] (H s0) fun r post=>r= .ret (.b (decide ((Cd stp xs 0 s0).1≥0)))∧post=H (Cd stp xs 0 s0).2:=by
 intro σ hs;refine qq nb ?_
 conv=>whnf
 repeat'((first|(apply sq;intro K U)|(apply si;intro A B Y Z)|(apply Y;clear Z B Y A)|(apply U;clear U K)|fail)<;>conv=>whnf)
 refine(TK g fi ca H stp D hx xs f s0 hd).use (rest:=[]) (by simpa using hs) ?_;rintro r post σ ⟨rfl,rfl⟩ hs
 conv=>whnf
 repeat'((first|apply st|(apply Y;clear Z B Y A)|(apply U;clear U K)|refine⟨rfl,?_⟩|fail)<;>conv=>whnf)
 exact BD hs (by simp) (.refl _) fun σ' hs'=>⟨_,⟨rfl,rfl⟩,hs'⟩
theorem uQ (stp:Int→S→Bool×S) (D:Int→S→Prop) (hx:Df Tryz.prog (.f (.func g) fi ca) eI H stp D):Df Tryz.prog (.f (.func 217) [] [.rp [.f (.func g) fi ca]]) eI H (fun y s=>(!(stp y s).1,(stp y s).2)) D:=by
 intro y s hd σ hs;refine C1 ?_;show Be Tryz.prog 217 ([]++[eI y]++[.rp [.f (.func g) fi ca]]) σ _;refine cL nb ?_
 conv=>whnf
 repeat'((first|apply st|(apply sq;intro K U)|(apply si;intro A B Y Z)|(apply Y;clear Z B Y A)|(apply U;clear U K)|fail)<;>conv=>whnf)
 refine hx.use hd hs ?_;clear hs;intro σ hs
 conv=>whnf
 repeat'((first|apply st|(apply Y;clear Z B Y A)|(apply U;clear U K)|fail)<;>conv=>whnf)
 exact BD hs (List.Sublist.refl _) (.refl _) fun σ' hs'=>⟨rfl,hs'⟩
theorem cb (stp:Int→S→Bool×S) (D:Int→S→Prop) (hx:Df Tryz.prog (.f (.func g) fi ca) eI H stp D) (xs:List Int) (f:Bool) (s0:S) (hd:Vs stp D xs s0) :
 B9 Tryz.prog 177 [.l (iL xs) f,.f (.func g) fi ca] (H s0) fun r post=>r= .ret (.b (Cx stp xs s0).1)∧post=H (Cx stp xs s0).2:=by
 intro σ hs;obtain⟨e1,e2⟩:=NC (stp:=stp) xs 0 s0;refine cO nb ?_
 conv=>whnf
 repeat'((first|(apply sq;intro K U)|(apply si;intro A B Y Z)|(apply Y;clear Z B Y A)|(apply U;clear U K)|fail)<;>conv=>whnf)
 refine(QH 217 [] [.rp [.f (.func g) fi ca]] H _ D (uQ g fi ca H stp D hx) xs f s0 (Sr xs s0 hd)).use (rest:=[]) (by simpa using hs) ?_;rintro r post σ ⟨rfl,rfl⟩ hs;rw[e2];rw[e1]at hs
 conv=>whnf
 repeat'((first|apply st|(apply Y;clear Z B Y A)|(apply U;clear U K)|fail)<;>conv=>whnf)
 exact BD hs (by simp) (by rw[Bool.not_not];exact .refl _) fun σ' hs'=>⟨_,⟨rfl,rfl⟩,hs'⟩
theorem TJ (stp:Fact→S→Bool×S) (D:Fact→S→Prop) (hx:Df Tryz.prog (.f (.func g) fi ca) (fun y=> .a (xF y)) H stp D) (xs:List Fact) (f:Bool) (s0:S) (hxl:xs.length≤Ai) (hd:Vs stp D xs s0) :
 B9 Tryz.prog 253 [.l (facts xs) f,.f (.func g) fi ca] (H s0) fun r post=>r= .ret (eI (Cd stp xs 0 s0).1)∧post=H (Cd stp xs 0 s0).2:=by
 intro σ hs;have hM:=Mx;refine wx nb ?_
 conv=>whnf
 repeat'((first|apply st|(apply sq;intro K U)|(apply si;intro A B Y Z)|(apply Y;clear Z B Y A)|(apply U;clear U K)|fail)<;>conv=>whnf)
 refine Cn xs.length (fun k (_:S)=>[(8,eI (BJ k))]) (fun _ s=>H s) (fun k s=>Vs stp D (xs.drop k) s∧Cd stp xs 0 s0=Cd stp (xs.drop k) k s) s0 rfl ⟨hd,rfl⟩ hs ?_;clear hs;rintro k s σ hk ⟨hd,hn⟩ hs;have hck:BJ k=k:=AP (by omega);rcases Bo xs hk with⟨y,hy,hlt⟩|hke
 ·rw[drop_cons hy]at hn hd
  obtain⟨hd1,hd2⟩:=hd;rw[Cd]at hn
  conv=>whnf
  repeat'((first|apply st|(apply sq;intro K U)|(apply si;intro A B Y Z)|(apply Y;clear Z B Y A)|(apply U;clear U K)|refine⟨rfl,?_⟩|refine⟨nb,?_⟩|refine Ru ?_|(refine D0 (fun hc=>?_)<;>(try rw[hc])<;>clear hc)|fail)<;>conv=>whnf)
  refine hx.use hd1 hs ?_;clear hs;intro σ hs
  conv=>whnf
  repeat'((first|apply st|(apply sq;intro K U)|(apply si;intro A B Y Z)|(apply Y;clear Z B Y A)|(apply U;clear U K)|refine⟨rfl,?_⟩|(constructor<;>intro hc<;>(try rw[hc])<;>(replace hc:=bp hc))|clear U K)<;>conv=>whnf)
  ·rw[hc,if_pos rfl]at hn
   rw[hn];exact BD hs (List.Sublist.refl _) (by rw[hck];exact .refl _) fun σ' hs'=>⟨_,⟨rfl,rfl⟩,hs'⟩
  ·rw[hc,if_neg (by decide)]at hn
   exact⟨hlt,_,rfl,⟨hd2,hn⟩,hs⟩
 ·rw[As hke,Cd]at hn
  conv=>whnf
  repeat'((first|apply st|(apply sq;intro K U)|(apply si;intro A B Y Z)|(apply Y;clear Z B Y A)|(apply U;clear U K)|refine⟨rfl,?_⟩|(refine Fh (fun hc=>?_)<;>(try rw[hc])<;>clear hc)|clear U K)<;>conv=>whnf)
  rw[hn];exact BD hs (List.Sublist.refl _) (.refl _) fun σ' hs'=>⟨_,⟨rfl,rfl⟩,hs'⟩
theorem N9 (stp:Fact→S→Bool×S) (D:Fact→S→Prop) (hx:Df Tryz.prog (.f (.func g) fi ca) (fun y=> .a (xF y)) H stp D) (xs:List Fact) (f:Bool) (s0:S) (hxl:xs.length≤Ai) (hd:Vs stp D xs s0) :
 B9 Tryz.prog 218 [.l (facts xs) f,.f (.func g) fi ca] (H s0) fun r post=>r= .ret (.b (decide ((Cd stp xs 0 s0).1≥0)))∧post=H (Cd stp xs 0 s0).2:=by
 intro σ hs;refine xS nb ?_
 conv=>whnf
 repeat'((first|(apply sq;intro K U)|(apply si;intro A B Y Z)|(apply Y;clear Z B Y A)|(apply U;clear U K)|fail)<;>conv=>whnf)
 refine(TJ g fi ca H stp D hx xs f s0 hxl hd).use (rest:=[]) (by simpa using hs) ?_;rintro r post σ ⟨rfl,rfl⟩ hs
 conv=>whnf
 repeat'((first|apply st|(apply Y;clear Z B Y A)|(apply U;clear U K)|refine⟨rfl,?_⟩|fail)<;>conv=>whnf)
 exact BD hs (by simp) (.refl _) fun σ' hs'=>⟨_,⟨rfl,rfl⟩,hs'⟩
theorem uP (stp:Fact→S→Bool×S) (D:Fact→S→Prop) (hx:Df Tryz.prog (.f (.func g) fi ca) (fun y=> .a (xF y)) H stp D):Df Tryz.prog (.f (.func 219) [] [.rp [.f (.func g) fi ca]]) (fun y=> .a (xF y)) H (fun y s=>(!(stp y s).1,(stp y s).2)) D:=by
 intro y s hd σ hs;refine C1 ?_;show Be Tryz.prog 219 ([]++[.a (xF y)]++[.rp [.f (.func g) fi ca]]) σ _;refine xR nb ?_
 conv=>whnf
 repeat'((first|apply st|(apply sq;intro K U)|(apply si;intro A B Y Z)|(apply Y;clear Z B Y A)|(apply U;clear U K)|refine⟨nb,?_⟩|fail)<;>conv=>whnf)
 refine hx.use hd hs ?_;clear hs;intro σ hs
 conv=>whnf
 repeat'((first|apply st|(apply Y;clear Z B Y A)|(apply U;clear U K)|fail)<;>conv=>whnf)
 exact BD hs (List.Sublist.refl _) (.refl _) fun σ' hs'=>⟨rfl,hs'⟩
theorem cZ (stp:Fact→S→Bool×S) (D:Fact→S→Prop) (hx:Df Tryz.prog (.f (.func g) fi ca) (fun y=> .a (xF y)) H stp D) (xs:List Fact) (f:Bool) (s0:S) (hxl:xs.length≤Ai) (hd:Vs stp D xs s0) :
 B9 Tryz.prog 179 [.l (facts xs) f,.f (.func g) fi ca] (H s0) fun r post=>r= .ret (.b (Cx stp xs s0).1)∧post=H (Cx stp xs s0).2:=by
 intro σ hs;obtain⟨e1,e2⟩:=NC (stp:=stp) xs 0 s0;refine xl nb ?_
 conv=>whnf
 repeat'((first|(apply sq;intro K U)|(apply si;intro A B Y Z)|(apply Y;clear Z B Y A)|(apply U;clear U K)|fail)<;>conv=>whnf)
 refine(N9 219 [] [.rp [.f (.func g) fi ca]] H _ D (uP g fi ca H stp D hx) xs f s0 hxl (Sr xs s0 hd)).use (rest:=[]) (by simpa using hs) ?_;rintro r post σ ⟨rfl,rfl⟩ hs;rw[e2];rw[e1]at hs
 conv=>whnf
 repeat'((first|apply st|(apply Y;clear Z B Y A)|(apply U;clear U K)|fail)<;>conv=>whnf)
 exact BD hs (by simp) (by rw[Bool.not_not];exact .refl _) fun σ' hs'=>⟨_,⟨rfl,rfl⟩,hs'⟩
end
abbrev T2 (f:Int→Bool):Int→Unit→Bool×Unit:=fun y _=>(f y,())
theorem WV {g:FuncId} {fi ca:List V} {f:Int→Bool} {D:Int→Unit→Prop} (h: ∀y,D y ()→Pure Tryz.prog g (fi++[eI y]++ca) (.b (f y))):Df Tryz.prog (.f (.func g) fi ca) eI (fun _=>[]) (T2 f) D:=by
 intro y s hd σ hs;refine C1 ?_;show Be Tryz.prog g (fi++[eI y]++ca) σ _;refine Be.mono ((h y hd).use (k:=fun v σ'=>v= .b (f y)∧Sat σ' []) (kp:=fun _ _=>False) ⟨rfl,Sat.nil⟩) ?_;rintro(v|v) σ' hq
 ·obtain⟨rfl,h⟩:=hq
  exact⟨rfl,h⟩
 ·exact hq.elim
theorem mT {g:FuncId} {fi ca:List V} {f:Int→Bool} {xs:List Int} (b:Bool) (h: ∀y∈xs,Pure Tryz.prog g (fi++[eI y]++ca) (.b (f y))):Pure Tryz.prog 177 [.l (iL xs) b,.f (.func g) fi ca] (.b (xs.all f)):=by
 have:=cb g fi ca (fun _=>[]) (T2 f) (fun y _=>y∈xs) (WV fun y hy=>h y hy) xs b () (Md fun y hy _=>hy);rw[Jz]at this;exact Pure.of (Be.mono (this emp Sat.nil) fun r σ' ⟨post,⟨h1,h2⟩,h3⟩=>h1)
end Go.Gl
