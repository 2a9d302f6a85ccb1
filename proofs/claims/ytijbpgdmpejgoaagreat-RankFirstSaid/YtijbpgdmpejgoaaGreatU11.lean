import Derived.Test.YtijbpgdmpejgoaaGreatU10
set_option linter.all false
set_option linter.defProp false
noncomputable section
namespace Go.Gl
open Go.Proofs
attribute [local irreducible] BJ A2 Ak AW AM Aj AV AX AN Ai AR AU A5 BF Sat Ad BD Al W
abbrev BB:=List Bool×List Bool
def GF (x:Fact×Bool) (t:BB):Option BB:=
 if x.1.op≠2∨x.1.cls=1∨x.1.cls=2 then(if x.2 then some t else none)else
 if x.2 then some (t.1,t.2.set x.1.cls.toNat true)else some (t.1.set x.1.cls.toNat true,t.2)
def D5:List Fact→BB→Option BB
 | [],t=>some t
 | x::r,t=>(GF (A0 x) t).bind (D5 r)
def II (w:AK) (ls:List Fact) (a:Int) (p:List Int) (can:Int→Bool) (s:Int) (t:BB):Option BB:=
 if !EH ls a (p++[s])&& !can s then none else some (if EH ls a (p++[s])then t.1 else t.1.set (CV w s).toNat true,if can s then t.2 else t.2.set (CV w s).toNat true)
def Dp (w:AK) (ls:List Fact) (a:Int) (p:List Int) (can:Int→Bool):List Int→BB→Option BB
 | [],t=>some t
 | s::r,t=>(II w ls a p can s t).bind (Dp w ls a p can r)
def Hk (ps:List (List Int)) (c:Nat) (bs:List Bool):List Bool:=if bs.getD c false then(par ps c).foldl (fun b q=>b.set q.toNat true) bs else bs
def B9 (ps:List (List Int)) (n:Nat):Nat→List Bool→List Bool
 | 0,bs=>bs
 | k+1,bs=>Hk ps (n - 1 - k) (B9 ps n k bs)
def G4: ∀(l:List Int) (bs:List Bool),(l.foldl (fun b q=>b.set q.toNat true) bs).length=bs.length
 | [],_=>rfl
 | q::r,bs=>by rw[List.foldl_cons,G4 r,List.length_set]
def EZ (ps:List (List Int)) (n:Nat): ∀(k:Nat) (bs:List Bool),(B9 ps n k bs).length=bs.length
 | 0,_=>rfl
 | k+1,bs=>by
   rw[B9,Hk];split
   ·rw[G4,EZ ps n k bs]
   ·exact EZ ps n k bs
def SO (w:AK) (t:BB):Option (List Bool):=
 if t.2.getD 0 false then none else
 if(List.range (3+w.parents.length)).any (fun c=>(B9 w.parents (3+w.parents.length) w.parents.length (t.1.set 0 false)).getD c false&&t.2.getD c false)then none else some (B9 w.parents (3+w.parents.length) w.parents.length (t.1.set 0 false))
def tO (w:AK):BB:=(List.replicate (3+w.parents.length) false,List.replicate (3+w.parents.length) false)
def Jj (w:AK) (ls:List Fact) (a:Int) (p:List Int) (can:Int→Bool):Option (List Bool):=
 ((D5 (ls.filter (Gr a p)) (tO w)).bind (Dp w ls a p can (Bs w.owner.length ls a p))).bind (SO w)
def oJ (o:Option (List Bool)):V:=match o with
 | some m=> .t [.l (bL m) false,.b true]
 | none=> .t [.l [] true,.b false]
def MC: ∀(xs ys:List Fact) (t:BB),D5 (xs++ys) t=(D5 xs t).bind (D5 ys)
 | [],_,_=>rfl
 | x::r,ys,t=>by
   simp only[List.cons_append,D5];cases GF (A0 x) t with
   | none=>rfl
   | some u=>exact MC r ys u
def IB {os:List Fact} {k:Nat} {x:Fact} (hx:os[k]? =some x) (t:BB):D5 (os.take (k+1)) t=(D5 (os.take k) t).bind (GF (A0 x)):=by
 rw[AO hx,MC];congr 1;funext u;simp only[D5];cases GF (A0 x) u<;>rfl
def VL {os:List Fact} (k:Nat) {t:BB} (h:D5 (os.take k) t=none):D5 os t=none:=by
 rw[←List.take_append_drop k os,MC,h];rfl
def MB {w:AK} {ls:List Fact} {a:Int} {p:List Int} {can:Int→Bool}: ∀(xs ys:List Int) (t:BB),Dp w ls a p can (xs++ys) t=(Dp w ls a p can xs t).bind (Dp w ls a p can ys)
 | [],_,_=>rfl
 | x::r,ys,t=>by
   simp only[List.cons_append,Dp];cases II w ls a p can x t with
   | none=>rfl
   | some u=>exact MB r ys u
def IA {w:AK} {ls:List Fact} {a:Int} {p:List Int} {can:Int→Bool} {os:List Int} {k:Nat} {x:Int} (hx:os[k]? =some x) (t:BB):Dp w ls a p can (os.take (k+1)) t=(Dp w ls a p can (os.take k) t).bind (II w ls a p can x):=by
 rw[AO hx,MB];congr 1;funext u;simp only[Dp];cases II w ls a p can x u<;>rfl
def VK {w:AK} {ls:List Fact} {a:Int} {p:List Int} {can:Int→Bool} {os:List Int} (k:Nat) {t:BB} (h:Dp w ls a p can (os.take k) t=none):Dp w ls a p can os t=none:=by
 rw[←List.take_append_drop k os,MB,h];rfl
def JJ {n:Nat} {ls:List Fact} {a:Int} {p:List Int} {s:Int} (h:s∈Bs n ls a p):0≤s∧s<n:=by
 have:=(JV.1 h).1;simp only[Bi,Mk,List.mem_range]at this;obtain⟨m,hm,rfl⟩:=this;exact⟨Int.natCast_nonneg m,by simpa using hm⟩
def Si (w:AK) (ls:List Fact):Prop:= ∀l∈ls,(A0 l).1.op=2→0≤(A0 l).1.cls∧(A0 l).1.cls<3+w.parents.length
set_option maxHeartbeats 8000000 in
def QF (w : AK) (ls:List Fact) (a:Int) (p:List Int) (c:Bool) (can:Int→Bool) (hokL: ∀l∈ls,GG l) (hln:ls.length≤1000000) (hp:p.length<50) (hw:KE w) (hcl:Si w ls) (hcan: ∀s∈Bs w.owner.length ls a p,Pure Tryz.prog 185 [.a (Gc w ls a (p++[s]) c)] (.b (can s))) :
    Pure Tryz.prog 236 [.a (Gc w ls a p c)] (oJ (Jj w ls a p can)):=by
 refine Pure.fit (by kernel_rfl) fun hf=>?_
 have⟨h1,h2,h3,h4⟩:=GL hf.1;have hM:=Mx;have hwl:=hw.len;have hwo:=hw.cz;refine kU kZ ?_;have hs:=Sn;have hfl:=KD (Gr a p) ls;have hok: ∀l∈ls.filter (Gr a p),GG l:=fun l hl=>hokL l (JV.1 hl).1
 have hcl2:Si w (ls.filter (Gr a p)):=fun l hl=>hcl l (JV.1 hl).1
 have hfl2:(Bs w.owner.length ls a p).length≤w.owner.length:=by
  have:=KD (fun s=>ls.any (Vl a p s)) (Bi w.owner.length);rw[Dt]at this;exact this
 conv=>whnf
 repeat'((first|apply st|(apply sq;intro K U)|(apply si;intro A B Y Z)|(apply Y;clear Z B Y A)|(apply U;clear U K)|refine⟨rfl,?_⟩|fail)<;>conv=>whnf)
 rw[show IntKind.i64.wrap (3+((Ec w.parents).length:Nat))=((3+w.parents.length:Nat):Int) by rw[BQ,wrap64 (by omega) (by omega)];omega];refine uZ hs (by omega) fun v1 σ hs hv=>?_
 obtain⟨id1,rfl⟩:=hv
 conv=>whnf
 repeat'((first|apply st|(apply sq;intro K U)|(apply si;intro A B Y Z)|(apply Y;clear Z B Y A)|(apply U;clear U K)|refine⟨rfl,?_⟩|fail)<;>conv=>whnf)
 rw[show IntKind.i64.wrap (3+((Ec w.parents).length:Nat))=((3+w.parents.length:Nat):Int) by rw[BQ,wrap64 (by omega) (by omega)];omega];refine uZ hs (by omega) fun v2 σ hs hv=>?_
 obtain⟨id2,rfl⟩:=hv
 conv=>whnf
 repeat'((first|apply st|(apply sq;intro K U)|(apply si;intro A B Y Z)|(apply Y;clear Z B Y A)|(apply U;clear U K)|refine⟨kZ,?_⟩|refine Pure.use (ZB _ _ _ _ _ hokL hln) ?_|fail)<;>conv=>whnf)
 generalize hos:ls.filter (Gr a p)=os at *;have hV:Jj w ls a p can=((D5 os (tO w)).bind (Dp w ls a p can (Bs w.owner.length ls a p))).bind (SO w):=by rw[Jj,hos]
 refine B2 os.length (fun k (_:BB)=>[(34,eI (A4 k))]) (fun k t=>[.own (.sl id1 (3+w.parents.length) (3+w.parents.length)) 1 (bL t.1),.own (.sl id2 (3+w.parents.length) (3+w.parents.length)) 1 (bL t.2)]) (fun k t=>D5 (os.take k) (tO w)=some t∧t.1.length=3+w.parents.length∧t.2.length=3+w.parents.length) (tO w) rfl ⟨rfl,by simp[tO],by simp[tO]⟩ (by simpa[tO,bL]using hs) ?_;clear hs;rintro k ⟨CD,no⟩ σ hk ⟨hno,hl1,hl2⟩ hs;simp only at hl1 hl2;dsimp only at hs
 conv=>whnf
 repeat'((first|apply st|(apply sq;intro K U)|(apply si;intro A B Y Z)|(apply Y;clear Z B Y A)|(apply U;clear U K)|refine⟨rfl,?_⟩|refine⟨kZ,?_⟩|refine Mz ?_|refine ld ?_|refine sn fun σ hs=>?_|(refine fc (fun x hx hlt hc=>?_) (fun hk hc=>?_)<;>(try rw[hc])<;>clear hc)|refine Pure.use (HU _ (hok _ (B5 (by assumption)))) ?_|refine Pure.use (S1 _ _ _ _ _ hokL (by omega)) ?_|(constructor<;>intro hc<;>(try rw[hc])<;>(replace hc:=bp hc))|(intro nn hnn;generalize hg:BA _ nn _=σ;refine al hg fun hs=>?_;clear hg)|clear U K)<;>conv=>whnf)
 all_goals try
  (have hcx:=hcl2 _ (B5 hx) (by assumption)
   conv=>whnf
   repeat'((first|(apply si;intro A B Y Z)|(apply Y;clear Z B Y A)|(apply U;clear U K)|refine⟨rfl,?_⟩|refine ng fun σ hs=>?_|refine oi ?_|clear U K)<;>conv=>whnf)
  )
 all_goals first
  | (refine AI ?_
     have:D5 os (tO w)=none:=VL (k+1) (by rw[IB hx,hno];simp[GF, *]);rw[hV,this]
     rfl)
  | exact⟨hlt,(CD,no),rfl,⟨by rw[IB hx,hno];simp[GF, *],hl1,hl2⟩,hs.take 2⟩
  | exact⟨hlt,(CD.set (A0 x).1.cls.toNat true,no),rfl,⟨by rw[IB hx,hno];simp[GF, *],by simpa using hl1,hl2⟩,hs.take 2⟩
  | exact⟨hlt,(CD,no.set (A0 x).1.cls.toNat true),rfl,⟨by rw[IB hx,hno];simp[GF, *],hl1,by simpa using hl2⟩,hs.take 2⟩
  | skip
 rw[Ar (by assumption)]at hno;have hV2:Jj w ls a p can=(Dp w ls a p can (Bs w.owner.length ls a p) (CD,no)).bind (SO w):=by rw[hV,hno];rfl
 clear hno;generalize hsl:Bs w.owner.length ls a p=sl at *;have hsi: ∀s∈sl,0≤s∧s<w.owner.length:=fun s h=>JJ (by rw[hsl];exact h)
 refine B2 sl.length (fun k (_:BB)=>[(73,eI (A4 k))]) (fun k t=>[.own (.sl id1 (3+w.parents.length) (3+w.parents.length)) 1 (bL t.1),.own (.sl id2 (3+w.parents.length) (3+w.parents.length)) 1 (bL t.2)]) (fun k t=>Dp w ls a p can (sl.take k) (CD,no)=some t∧t.1.length=3+w.parents.length∧t.2.length=3+w.parents.length) (CD,no) rfl ⟨rfl,hl1,hl2⟩ hs ?_;clear hs hl1 hl2;rintro k ⟨m1,n1⟩ σ hk ⟨hno,hl1,hl2⟩ hs;simp only at hl1 hl2;dsimp only at hs;rcases BC sl hk with⟨x,hx,hlt⟩|hke
 ·have hxm:=B5 hx
  obtain⟨hx0,hx1⟩:=hsi x hxm
  have hox:w.owner[x.toNat]? =some (CV w x):=by
   rw[CV,DY,DJ (by omega)];rfl
  have ho:=hw.own _ (B5 hox);have hcx:=hcan x hxm;have hbx:=W0 w ls a (p++[x]) c hokL;cases Z:EH ls a (p++[x])<;>cases hC:can x<;>rw[Z]at hbx<;>rw[hC]at hcx
  ·conv=>whnf
   repeat'((first|apply st|(apply sq;intro K U)|(apply si;intro A B Y Z)|(apply Y;clear Z B Y A)|(apply U;clear U K)|apply dr|refine rk ?_ ?_|exact fun s e=>by cases e;rfl|refine⟨rfl,?_⟩|refine⟨kZ,?_⟩|refine ix ?_|refine ld ?_|refine sn fun σ hs=>?_|refine Er ?_|(refine CK (fun hc=>?_)<;>(try rw[hc])<;>clear hc)|refine Pure.use (JC _ _ _ _ _ _ (by omega)) ?_|(intro nn hnn;generalize hg:BA _ nn _=σ;refine al hg fun hs=>?_;clear hg)|refine Pure.use (by assumption) ?_|clear U K)<;>conv=>whnf)
   refine AI ?_;have:Dp w ls a p can sl (CD,no)=none:=VK (k+1) (by rw[IA hx,hno];simp[II, *]);rw[hV2,this];rfl
  ·conv=>whnf
   repeat'((first|apply st|(apply sq;intro K U)|(apply si;intro A B Y Z)|(apply Y;clear Z B Y A)|(apply U;clear U K)|apply dr|refine rk ?_ ?_|exact fun s e=>by cases e;rfl|refine⟨rfl,?_⟩|refine⟨kZ,?_⟩|refine ix ?_|refine GX ?_|refine ng fun σ hs=>?_|refine ld ?_|refine sn fun σ hs=>?_|refine oi ?_|refine Er ?_|refine De ?_|(refine CK (fun hc=>?_)<;>(try rw[hc])<;>clear hc)|refine Pure.use (JC _ _ _ _ _ _ (by omega)) ?_|(intro nn hnn;generalize hg:BA _ nn _=σ;refine al hg fun hs=>?_;clear hg)|refine Pure.use (by assumption) ?_|clear U K)<;>conv=>whnf)
   exact⟨hlt,(m1.set (CV w x).toNat true,n1),rfl,⟨by rw[IA hx,hno];simp[II, *],by simpa using hl1,hl2⟩,hs.take 2⟩
  ·conv=>whnf
   repeat'((first|apply st|(apply sq;intro K U)|(apply si;intro A B Y Z)|(apply Y;clear Z B Y A)|(apply U;clear U K)|apply dr|refine rk ?_ ?_|exact fun s e=>by cases e;rfl|refine⟨rfl,?_⟩|refine⟨kZ,?_⟩|refine ix ?_|refine GX ?_|refine ng fun σ hs=>?_|refine ld ?_|refine sn fun σ hs=>?_|refine oi ?_|refine Er ?_|refine De ?_|(refine CK (fun hc=>?_)<;>(try rw[hc])<;>clear hc)|refine Pure.use (JC _ _ _ _ _ _ (by omega)) ?_|(intro nn hnn;generalize hg:BA _ nn _=σ;refine al hg fun hs=>?_;clear hg)|refine Pure.use (by assumption) ?_|clear U K)<;>conv=>whnf)
   exact⟨hlt,(m1,n1.set (CV w x).toNat true),rfl,⟨by rw[IA hx,hno];simp[II, *],hl1,by simpa using hl2⟩,hs.take 2⟩
  ·conv=>whnf
   repeat'((first|apply st|(apply sq;intro K U)|(apply si;intro A B Y Z)|(apply Y;clear Z B Y A)|(apply U;clear U K)|apply dr|refine rk ?_ ?_|exact fun s e=>by cases e;rfl|refine⟨rfl,?_⟩|refine⟨kZ,?_⟩|refine ix ?_|refine ld ?_|refine sn fun σ hs=>?_|refine De ?_|(refine CK (fun hc=>?_)<;>(try rw[hc])<;>clear hc)|refine Pure.use (JC _ _ _ _ _ _ (by omega)) ?_|(intro nn hnn;generalize hg:BA _ nn _=σ;refine al hg fun hs=>?_;clear hg)|refine Pure.use (by assumption) ?_|clear U K)<;>conv=>whnf)
   exact⟨hlt,(m1,n1),rfl,⟨by rw[IA hx,hno];simp[II, *],hl1,hl2⟩,hs.take 2⟩
 ·rw [Ar hke]at hno
  have hV3:Jj w ls a p can=SO w (m1,n1):=by rw[hV2,hno];rfl
  have hrow: ∀l∈w.parents,l.length≤Af:=(RJ (g:=false) (by have:=hf.1;simp only[Gc,G0,DW]at this;exact this.1)).2
  have hen:Jj w ls a p can=if n1.getD 0 false then none else
   if(List.range (3+w.parents.length)).any (fun c=>(B9 w.parents (3+w.parents.length) w.parents.length (m1.set 0 false)).getD c false&&n1.getD c false)then none else some (B9 w.parents (3+w.parents.length) w.parents.length (m1.set 0 false)):=hV3.trans rfl
  clear hcan hcl hV hV2 hV3 hno hos hsl hcl2 hok;obtain⟨n0,hn0⟩: ∃b,n1[0]? =some b:=⟨_,DJ (by omega)⟩
  have hn0':n1[Int.toNat 0]? =some n0:=hn0;have hng:n1.getD 0 false=n0:=by rw[DY,hn0];rfl
  rw[hng]at hen;cases n0
  ·generalize hms:m1.set 0 false=ms at *
   have hl3:ms.length=3+w.parents.length:=by rw[←hms,List.length_set];exact hl1
   conv=>whnf
   repeat'((first|apply st|(apply sq;intro K U)|(apply si;intro A B Y Z)|(apply Y;clear Z B Y A)|(apply U;clear U K)|refine⟨rfl,?_⟩|refine lo ?_|refine ng fun σ hs=>?_|refine oi ?_|refine SH ?_|(refine DR (fun hc=>?_)<;>(try rw[hc])<;>clear hc)|clear U K)<;>conv=>whnf)
   replace hs:Sat σ [.own (.sl id1 (3+w.parents.length) (3+w.parents.length)) 1 (bL ms),.own (.sl id2 (3+w.parents.length) (3+w.parents.length)) 1 (bL n1)]:=by rw[←hms];exact hs
   rw[show IntKind.i64.wrap (((bL (m1.set (Int.toNat 0) false)).length:Nat) - 1)=((2+w.parents.length:Nat):Int) by rw[BQ,List.length_set,hl1,wrap64 (by omega) (by omega)];omega];refine B2 w.parents.length (fun k (_:Unit)=>[(15,eI (Mn ((2+w.parents.length:Nat):Int) k))]) (fun k _=>[.own (.sl id1 (3+w.parents.length) (3+w.parents.length)) 1 (bL (B9 w.parents (3+w.parents.length) k ms)),.own (.sl id2 (3+w.parents.length) (3+w.parents.length)) 1 (bL n1)]) (fun k _=>True) () rfl trivial hs ?_;clear hs;rintro k - σ hk - hs;have hd:Mn ((2+w.parents.length:Nat):Int) k=((2+w.parents.length:Nat):Int) - k:=Ro (by omega) (by omega);have hcl:=EZ w.parents (3+w.parents.length) k ms;rcases Nat.lt_or_ge k w.parents.length with hlt|hge
   ·have hpw:w.parents[(IntKind.i64.wrap (Mn ((2+w.parents.length:Nat):Int) k - 3)).toNat]? =some (par w.parents (3+w.parents.length - 1 - k)):=by
     rw[hd,wrap64 (by omega) (by omega),show(((2+w.parents.length:Nat):Int) - k - 3).toNat=(3+w.parents.length - 1 - k) - 3 by omega];exact ZU (by omega) (by omega)
    have hwi:0≤IntKind.i64.wrap (Mn ((2+w.parents.length:Nat):Int) k - 3):=by rw[hd,wrap64 (by omega) (by omega)];omega
    have hpl:=hrow _ (B5 hpw);have hpr:=fun q=>hw.ord (3+w.parents.length - 1 - k) q
    generalize hpe:par w.parents (3+w.parents.length - 1 - k)=pr at *;generalize hce:B9 w.parents (3+w.parents.length) k ms=ce at *;have hcs:B9 w.parents (3+w.parents.length) (k+1) ms=if ce.getD (3+w.parents.length - 1 - k) false then pr.foldl (fun b q=>b.set q.toNat true) ce else ce:=by rw[B9,Hk,hce,hpe]
    conv=>whnf
    repeat'((first|apply st|(apply sq;intro K U)|(apply si;intro A B Y Z)|(apply Y;clear Z B Y A)|(apply U;clear U K)|refine⟨rfl,?_⟩|refine GX ?_|refine oi ?_|refine ol fun x hx=>?_|(constructor<;>intro hc<;>(try rw[hc])<;>(replace hc:=bp hc)<;>try(exfalso;omega))|clear U K)<;>conv=>whnf)
    ·rw[show(Mn ((2+w.parents.length:Nat):Int) k).toNat=3+w.parents.length - 1 - k by rw[hd];omega]at hx
     rw[DY,hx,hc]at hcs;simp only[Option.getD_some,if_true]at hcs;refine B2 pr.length (fun j (_:Unit)=>[(135,eI (A4 j))]) (fun j _=>[.own (.sl id1 (3+w.parents.length) (3+w.parents.length)) 1 (bL ((pr.take j).foldl (fun b q=>b.set q.toNat true) ce)),.own (.sl id2 (3+w.parents.length) (3+w.parents.length)) 1 (bL n1)]) (fun _ _=>True) () rfl trivial hs ?_;clear hs hx;rintro j - σ hj - hs;have hfl:=G4 (pr.take j) ce;rcases BC pr hj with⟨q,hq,hjlt⟩|hje
     ·have hqr:=hpr q (B5 hq)
      conv=>whnf
      repeat'((first|apply st|(apply sq;intro K U)|(apply si;intro A B Y Z)|(apply Y;clear Z B Y A)|(apply U;clear U K)|refine⟨rfl,?_⟩|refine ix ?_|refine ng fun σ hs=>?_|refine oi ?_|(refine CK (fun hc=>?_)<;>(try rw[hc])<;>clear hc)|clear U K)<;>conv=>whnf)
      exact⟨hjlt,(),rfl,trivial,by rw[AO hq,List.foldl_append];exact hs⟩
     ·conv=>whnf
      repeat'((first|apply st|(apply sq;intro K U)|(apply si;intro A B Y Z)|(apply Y;clear Z B Y A)|(apply U;clear U K)|refine⟨rfl,?_⟩|(refine DR (fun hc=>?_)<;>(try rw[hc])<;>clear hc)|clear U K)<;>conv=>whnf)
      rw[Ar hje]at hs;exact⟨hlt,(),rfl,trivial,by rw[hcs];exact hs⟩
    ·rw[show(Mn ((2+w.parents.length:Nat):Int) k).toNat=3+w.parents.length - 1 - k by rw[hd];omega]at hx
     rw[DY,hx,hc]at hcs;simp only[Option.getD_some,LS,if_false]at hcs;exact⟨hlt,(),rfl,trivial,by rw[hcs];exact hs⟩
   ·have hke2:k=w.parents.length:=by omega
    rw[hke2]at hs hcl;generalize hme:B9 w.parents (3+w.parents.length) w.parents.length ms=me at *
    conv=>whnf
    repeat'((first|apply st|(apply sq;intro K U)|(apply si;intro A B Y Z)|(apply Y;clear Z B Y A)|(apply U;clear U K)|refine⟨rfl,?_⟩|refine lo ?_|(constructor<;>intro hc<;>(try rw[hc])<;>(replace hc:=bp hc)<;>try(exfalso;omega))|clear U K)<;>conv=>whnf)
    refine B2 me.length (fun j (_:Unit)=>[(145,eI (A4 j))]) (fun _ _=>[.own (.sl id1 (3+w.parents.length) (3+w.parents.length)) 1 (bL me),.own (.sl id2 (3+w.parents.length) (3+w.parents.length)) 1 (bL n1)]) (fun j _=>Jj w ls a p can=if((List.range (3+w.parents.length)).drop j).any (fun c=>me.getD c false&&n1.getD c false)then none else some me) () rfl hen hs ?_;clear hs hen;rintro j - σ hj hn hs;rcases BC me hj with⟨x,hx,hjlt⟩|hje
    ·obtain⟨y,hy⟩: ∃y,n1[j]? =some y:=⟨_,DJ (by omega)⟩
     have hrg:(List.range (3+w.parents.length))[j]? =some j:=by rw[List.getElem?_range (by omega)]
     rw[drop_cons hrg,Qw,DY,DY,hx,hy]at hn;cases x<;>cases y<;>simp only[Option.getD_some,Bool.and_true,Bool.and_false,Bool.false_or,Bool.true_or,if_true]at hn
     ·conv=>whnf
      repeat'((first|apply st|(apply sq;intro K U)|(apply si;intro A B Y Z)|(apply Y;clear Z B Y A)|(apply U;clear U K)|refine⟨rfl,?_⟩|refine oc ?_|refine SH ?_|(refine CK (fun hc=>?_)<;>(try rw[hc])<;>clear hc)|clear U K)<;>conv=>whnf)
      exact⟨hjlt,(),rfl,hn,hs⟩
     ·conv=>whnf
      repeat'((first|apply st|(apply sq;intro K U)|(apply si;intro A B Y Z)|(apply Y;clear Z B Y A)|(apply U;clear U K)|refine⟨rfl,?_⟩|refine oc ?_|refine SH ?_|(refine CK (fun hc=>?_)<;>(try rw[hc])<;>clear hc)|clear U K)<;>conv=>whnf)
      exact⟨hjlt,(),rfl,hn,hs⟩
     ·conv=>whnf
      repeat'((first|apply st|(apply sq;intro K U)|(apply si;intro A B Y Z)|(apply Y;clear Z B Y A)|(apply U;clear U K)|refine⟨rfl,?_⟩|refine oc ?_|refine SH ?_|refine De ?_|(refine CK (fun hc=>?_)<;>(try rw[hc])<;>clear hc)|clear U K)<;>conv=>whnf)
      exact⟨hjlt,(),rfl,hn,hs⟩
     ·conv=>whnf
      repeat'((first|apply st|(apply sq;intro K U)|(apply si;intro A B Y Z)|(apply Y;clear Z B Y A)|(apply U;clear U K)|refine⟨rfl,?_⟩|refine oc ?_|refine SH ?_|refine Er ?_|(refine CK (fun hc=>?_)<;>(try rw[hc])<;>clear hc)|clear U K)<;>conv=>whnf)
      exact AI (by rw[hn];rfl)
    ·rw[List.drop_of_length_le (by rw[uS];omega)]at hn
     simp only[List.any_nil,LS,if_false]at hn
     conv=>whnf
     repeat'((first|apply st|(apply sq;intro K U)|(apply si;intro A B Y Z)|(apply Y;clear Z B Y A)|(apply U;clear U K)|refine⟨rfl,?_⟩|(refine DR (fun hc=>?_)<;>(try rw[hc])<;>clear hc)|clear U K)<;>conv=>whnf)
     rw[hn];exact Bh (.t (.cons (hs.Pm 0 rfl) (.cons (.refl _) .nil)))
  ·conv=>whnf
   repeat'((first|apply st|(apply sq;intro K U)|(apply si;intro A B Y Z)|(apply Y;clear Z B Y A)|(apply U;clear U K)|refine⟨rfl,?_⟩|refine ng fun σ hs=>?_|refine oi ?_|refine SH ?_|(refine DR (fun hc=>?_)<;>(try rw[hc])<;>clear hc)|clear U K)<;>conv=>whnf)
   exact AI (by rw[hen];rfl)
def KT (w:AK) (ls:List Fact) (a:Int):Nat→List Int→Bool
 | 0,p=>((Ic ls a p).isSome&&FG w.owner.length ls a p)||(HP w.owner.length ls a p||(Jj w ls a p fun _=>false).isSome)
 | d+1,p=>((Ic ls a p).isSome&&FG w.owner.length ls a p)||(HP w.owner.length ls a p||(Jj w ls a p fun s=>KT w ls a d (p++[s])).isSome)
def RC (ls:List Fact) (n:Nat):Prop:= ∀l∈ls,(A0 l).1.path.length≤n
def Lx {n m:Nat} {ls:List Fact} {a:Int} {p:List Int} (h:RC ls m) (hp:m≤p.length):Bs n ls a p= []:=by
 rw[Bs,List.filter_eq_nil_iff];intro s _ hs;rw[JU]at hs;obtain⟨l,hl,hg⟩:=hs;have:=h l hl;simp only[Vl,Bx,BY,Ce,PK,List.length_singleton]at hg;omega
def WZ {n:Nat} {ls:List Fact} {a:Int} {p:List Int}:XM n ls a p= .t [eI ((Ic ls a p).getD 0),.b ((Ic ls a p).isSome&&FG n ls a p)]:=by
 unfold XM;cases Ic ls a p<;>rfl
def WL (o:Option (List Bool)):oJ o= .t [.l (bL (o.getD [])) o.isNone,.b o.isSome]:=by
 cases o<;>rfl
def nH (w:AK) (ls:List Fact) (a:Int) (hokL: ∀l∈ls,GG l) (hln:ls.length≤1000000) (hw:KE w) (hcl:Si w ls) (hsm:Jo ls) (hsh:RC ls 2): ∀(d:Nat) (p:List Int),p.length+d=2→Pure Tryz.prog 185 [.a (Gc w ls a p false)] (.b (KT w ls a d p)):=by
 intro d
 induction d with
 | zero=>
   intro p hp;have hI:=Ow w ls a p false hokL hln (by omega) hsm;rw[WZ]at hI;have hN:=WR w ls a p false hokL hln (by omega);have hO:=QF w ls a p false (fun _=>false) hokL hln (by omega) hw hcl (by rw[Lx hsh (by omega)];intro s hs;cases hs);rw[WL]at hO;refine Zr kZ ?_;have hs:=Sn;rw[KT];cases Y:(Ic ls a p).isSome&&FG w.owner.length ls a p<;>cases Z:HP w.owner.length ls a p<;>rw[Y]at hI<;>rw[Z]at hN
   all_goals
    conv=>whnf
    repeat'((first|apply st|(apply sq;intro K U)|(apply si;intro A B Y Z)|(apply Y;clear Z B Y A)|(apply U;clear U K)|refine⟨kZ,?_⟩|refine Er ?_|refine De ?_|refine hI.use ?_|refine hN.use ?_|refine hO.use ?_|clear U K)<;>conv=>whnf)
   all_goals exact AI (by simp)
 | succ d ih=>
   intro p hp;have hI:=Ow w ls a p false hokL hln (by omega) hsm;rw[WZ]at hI;have hN:=WR w ls a p false hokL hln (by omega);have hO:=QF w ls a p false (fun s=>KT w ls a d (p++[s])) hokL hln (by omega) hw hcl (fun s hs=>ih (p++[s]) (by simp;omega));rw[WL]at hO;refine Zr kZ ?_;have hs:=Sn;rw[KT];cases Y:(Ic ls a p).isSome&&FG w.owner.length ls a p<;>cases Z:HP w.owner.length ls a p<;>rw[Y]at hI<;>rw[Z]at hN
   all_goals
    conv=>whnf
    repeat'((first|apply st|(apply sq;intro K U)|(apply si;intro A B Y Z)|(apply Y;clear Z B Y A)|(apply U;clear U K)|refine⟨kZ,?_⟩|refine Er ?_|refine De ?_|refine hI.use ?_|refine hN.use ?_|refine hO.use ?_|clear U K)<;>conv=>whnf)
   all_goals exact AI (by simp)
def Gs (w:AK) (ls:List Fact):Bool:=(Bi 3).all fun a=>KT w ls a 2 []
def Te (w:AK) (ls:List Fact) (hokL: ∀l∈ls,GG l) (hln:ls.length≤1000000) (hw:KE w) (hcl:Si w ls) (hsm:Jo ls) (hsh:RC ls 2):Pure Tryz.prog 145 [.a (BE w),.l (facts ls) false] (.b (Gs w ls)):=by
 have hM:=Mx;refine mM kZ ?_;have hs:=Sn
 conv=>whnf
 repeat'((first|apply st|(apply sq;intro K U)|(apply si;intro A B Y Z)|(apply Y;clear Z B Y A)|(apply U;clear U K)|fail)<;>conv=>whnf)
 refine B2 3 (fun k (_:Unit)=>[(5,eI (A4 k))]) (fun _ _=>[]) (fun k _=>Gs w ls=((Bi 3).drop k).all fun a=>KT w ls a 2 []) () rfl rfl hs ?_;clear hs;rintro k - σ hk hn hs;have hck:A4 k=k:=AL (by omega);rcases Nat.lt_or_ge k 3 with hlt|hge
 ·have hrk:(Bi 3)[k]? =some (A4 k):=by
   rw[hck];rcases k with _|_|_|k
   ·rfl
   ·rfl
   ·rfl
   ·omega
  rw[drop_cons hrk,My]at hn
  conv=>whnf
  repeat'((first|apply st|(apply sq;intro K U)|(apply si;intro A B Y Z)|(apply Y;clear Z B Y A)|(apply U;clear U K)|refine⟨rfl,?_⟩|refine⟨kZ,?_⟩|refine ld ?_|refine sn fun σ hs=>?_|refine Pure.XK (nH w ls (A4 k) hokL hln hw hcl hsm hsh 2 [] rfl) (.cons (.a (.cons (.refl _) (.cons (.refl _) (.cons (.refl _) (.cons (.refl _) (.cons CG (.cons (.refl _) .nil))))))) .nil) rfl ?_|(constructor<;>intro hc<;>(try rw[hc])<;>(replace hc:=bp hc)<;>(try simp(disch:=omega) only[BQ,wrap64,AL]at hc)<;>try(exfalso;omega))|(intro nn hnn;generalize hg:BA _ nn _=σ;refine al hg fun hs=>?_;clear hg)|clear U K)<;>conv=>whnf)
  ·exact AI (by rw[hn,hck,hc];rfl)
  ·exact⟨hlt,(),rfl,by rw[hn,hck,hc];rfl,hs.take 0⟩
 ·rw[List.drop_of_length_le (by rw[Dt];omega)]at hn
  conv=>whnf
  repeat'((first|apply st|(apply sq;intro K U)|(apply si;intro A B Y Z)|(apply Y;clear Z B Y A)|(apply U;clear U K)|refine⟨rfl,?_⟩|(constructor<;>intro hc<;>(try rw[hc])<;>(replace hc:=bp hc)<;>(try simp(disch:=omega) only[BQ,wrap64,AL]at hc)<;>try(exfalso;omega))|clear U K)<;>conv=>whnf)
  exact AI (by rw[hn];rfl)
def Rl {b:Nat} {σ:AH} {l:List At} (h:Sat σ l) (i j:Nat) {v u:V} {sz:Nat} {es ys:List (List V)} {K:V→AH→Prop} (hi:l[i]? =some (.own v sz es)) (hj:l[j]? =some (.own u sz ys)) (hl:es.length+ys.length≤Af∧(es.length+ys.length)*b≤140737488355328) (hys: ∀e∈ys,e.length=sz) (ho: ∀e∈ys,∀v∈e,DZ v=true)
    (hk: ∀v' σ',Sat σ' (l.set i (.own v' sz (es++ys)))→K v' σ'):AM b σ sz v u K:=by
 have Y:AM b σ sz v (.l ys true) K:=hAppend h i hi hl hys ho hk;rcases h.get hj with⟨rfl,hel⟩|⟨n,cap,rfl,hn⟩
 ·exact Y
 ·unfold AM at Y ⊢
  simp only[rowsOf]at Y ⊢;rw[hn];refine⟨rfl,JT _,?_⟩;rw[List.take_length];exact Y.2
def CW (a:List Fact):List Fact→List Fact
 | []=>a
 | x::r=>CW (if a.any (FY x)then a else a++[x]) r
def Ou (a:List Fact): ∀(b:List Fact) (x:Fact),CW a (b++[x])=if(CW a b).any (FY x)then CW a b else CW a b++[x]:=by
 intro b
 induction b generalizing a with
 | nil=>intro x;rfl
 | cons y r ih=>intro x;simp only[List.cons_append,CW];exact ih _ x
def L8 (a:List Fact): ∀(b:List Fact),(CW a b).length≤a.length+b.length:=by
 intro b
 induction b generalizing a with
 | nil=>simp[CW]
 | cons y r ih=>
   simp only[CW,KH];refine Nat.le_trans (ih _) ?_;split
   ·omega
   ·simp;omega
def QN (a:List Fact): ∀(b:List Fact) (x:Fact),x∈CW a b→x∈a∨x∈b:=by
 intro b
 induction b generalizing a with
 | nil=>intro x hx;exact .inl hx
 | cons y r ih=>
   intro x hx;simp only[CW]at hx;rcases ih _ x hx with h|h
   ·split at h
    ·exact .inl h
    ·rcases Fs.1 h with h|h
     ·exact .inl h
     ·rw[LV.1 h];exact .inr (.head _)
   ·exact .inr (.tail _ h)
def Xw (a b:List Fact) (f g:Bool) (hl:a.length+b.length<1000000):Pure Tryz.prog 184 [.l (facts a) f,.l (facts b) g] (.l (facts (CW a b)) false):=by
 have hM:=Mx;refine lS kZ ?_;have hs:=Sn
 conv=>whnf
 repeat'((first|(apply sq;intro K U)|(apply si;intro A B Y Z)|(apply Y;clear Z B Y A)|(apply U;clear U K)|fail)<;>conv=>whnf)
 replace hs:=E9 hs 6;refine Is hs 0 (xs:=[]) (ys:=a) rfl (by simp;omega) Js fun v σ hs=>?_
 conv=>whnf
 repeat'((first|apply st|(apply sq;intro K U)|(apply si;intro A B Y Z)|(apply Y;clear Z B Y A)|(apply U;clear U K)|fail)<;>conv=>whnf)
 refine B2 b.length (fun k v=>[(5,v),(15,eI (A4 k))]) (fun k v=>[.own v 6 (facts (CW a (b.take k)))]) (fun _ _=>True) v rfl trivial hs ?_;clear hs;rintro k v σ hk - hs;have hml:=L8 a (b.take k);rw[KG]at hml;rcases BC b hk with⟨x,hx,hlt⟩|hke
 ·have hsn:=Ou a (b.take k) x
  rw[←AO hx]at hsn;generalize CW a (b.take k)=m at *
  conv=>whnf
  repeat'((first|apply st|(apply sq;intro K U)|(apply si;intro A B Y Z)|(apply Y;clear Z B Y A)|(apply U;clear U K)|refine⟨rfl,?_⟩|refine⟨kZ,?_⟩|refine Mz ?_|refine lo ?_|refine sn fun σ hs=>?_|(refine CK (fun hc=>?_)<;>(try rw[hc])<;>clear hc)|(intro nn hnn;generalize hg:BA _ nn _=σ;refine al hg fun hs=>?_;clear hg)|fail)<;>conv=>whnf)
  refine B2 m.length (fun j t=>[(8,.b t),(21,eI (A4 j))]) (fun j t=>[.own v 6 (facts m),.obj nn (.cs (xF x))]) (fun j t=>t=(m.take j).any (FY x)) false rfl (by simp) hs ?_;clear hs;rintro j t σ hj ht hs;rcases BC m hj with⟨y,hy,hjlt⟩|hje
  ·cases t
   ·conv=>whnf
    repeat'((first|apply st|(apply sq;intro K U)|(apply si;intro A B Y Z)|(apply Y;clear Z B Y A)|(apply U;clear U K)|refine⟨rfl,?_⟩|refine⟨kZ,?_⟩|refine ld ?_|refine sn fun σ hs=>?_|refine oc ?_|refine oD ?_|(refine CK (fun hc=>?_)<;>(try rw[hc])<;>clear hc)|refine Pure.use (dW _ _) ?_|(intro nn hnn;generalize hg:BA _ nn _=σ;refine al hg fun hs=>?_;clear hg)|clear U K)<;>conv=>whnf)
    exact⟨hjlt,_,rfl,by rw[AO hy,List.any_append,←ht];simp,hs.take 2⟩
   ·conv=>whnf
    repeat'((first|apply st|(apply sq;intro K U)|(apply si;intro A B Y Z)|(apply Y;clear Z B Y A)|(apply U;clear U K)|refine⟨rfl,?_⟩|refine⟨kZ,?_⟩|refine sn fun σ hs=>?_|refine oc ?_|refine oD ?_|(refine CK (fun hc=>?_)<;>(try rw[hc])<;>clear hc)|(intro nn hnn;generalize hg:BA _ nn _=σ;refine al hg fun hs=>?_;clear hg)|clear U K)<;>conv=>whnf)
    exact⟨hjlt,true,rfl,by rw[AO hy,List.any_append,←ht];simp,hs.take 2⟩
  ·rw[Ar hje]at ht
   subst ht
   conv=>whnf
   repeat'((first|apply st|(apply sq;intro K U)|(apply si;intro A B Y Z)|(apply Y;clear Z B Y A)|(apply U;clear U K)|refine⟨rfl,?_⟩|refine⟨kZ,?_⟩|refine ld ?_|refine wk fun v σ hs hsl=>?_|(refine DR (fun hc=>?_)<;>(try rw[hc])<;>clear hc)|(constructor<;>intro hc<;>(try rw[hc])<;>(replace hc:=bp hc))|clear U K)<;>conv=>whnf)
   ·rw[hc]at hsn
    exact⟨hlt,_,rfl,trivial,by rw[hsn];exact hs.take 1⟩
   ·rw[hc]at hsn
    exact⟨hlt,_,rfl,trivial,by rw[hsn];exact hs.take 1⟩
 ·conv=>whnf
  repeat'((first|apply st|(apply sq;intro K U)|(apply si;intro A B Y Z)|(apply Y;clear Z B Y A)|(apply U;clear U K)|refine⟨rfl,?_⟩|(refine DR (fun hc=>?_)<;>(try rw[hc])<;>clear hc)|clear U K)<;>conv=>whnf)
  exact EM hs 0 rfl (by rw[Ar hke])
abbrev cj (ls:List (List Fact)):List (List V):=ls.map fun l=>[.l (facts l) false]
def Dl (A B:List (List Fact)):List (List Fact):=A.flatMap fun x=>B.map fun y=>CW x y
def FN (f:Fact) (l:List (Bool→List (List Fact))) (c:Bool):List (List Fact):=
 if f.op=1 then(if c then []else [[]])else
 if f.op=5 then(l.getD 0 (fun _=>[])) (!c)else
 if f.op=6∨f.op=7 then(if c != (f.op==7)then l.getD 0 (fun _=>[]) c++l.getD 1 (fun _=>[]) c else Dl (l.getD 0 (fun _=>[]) c) (l.getD 1 (fun _=>[]) c))else
 if c then [[FX f]]else [[f]]
def BS (f:Fact):Bool→List (List Fact):=f.HK FN
def F8 (f:Fact) (c:Bool):BS f c=FN f (f.kids.map BS) c:=congrFun (Fact.Dg FN f) c
def Yo (f:Fact) (l:List Nat):Nat:=if f.op=5 then l.getD 0 0 else if f.op=6∨f.op=7 then l.getD 0 0+l.getD 1 0 else 1
def lv (f:Fact):Nat:=f.HK Yo
def ML (f:Fact):lv f=Yo f (f.kids.map lv):=Fact.Dg Yo f
def arity (f:Fact):Bool:=f.HK fun f l=>f.kids.length==CF f.op&&l.all id
def K7 (f:Fact):arity f=(f.kids.length==CF f.op&&f.kids.all arity):=by
 rw[arity,Fact.Dg,List.all_map];rfl
def C0 {w:AK} (f:Fact):Bj w f=true→arity f=true:=by
 induction f using Fact.ind with
 | h f ih=>
   intro h;rw[Ch]at h;simp only[DB,BY,EN]at h;rw[K7,BY,EN];exact⟨h.1.2.1,fun k hk=>ih k hk (h.2 k hk)⟩
def H2 {f:Fact} (h:arity f=true) (h5:f.op=5): ∃a,f.kids= [a]∧arity a=true:=by
 rw[K7,BY,EN,h5]at h;have hl:f.kids.length=1:=by simpa[CF]using h.1
 obtain⟨a,ha⟩:=List.length_eq_one_iff.1 hl;exact⟨a,ha,h.2 a (by rw[ha];exact .head _)⟩
def H0 {f:Fact} (h:arity f=true) (h6:f.op=6∨f.op=7): ∃a b,f.kids= [a,b]∧arity a=true∧arity b=true:=by
 rw[K7,BY,EN]at h
 have hl:f.kids.length=2:=by
  have h5:f.op≠5:=by omega
  simpa[CF,h5,h6]using h.1
 match hk:f.kids,hl with
 | [a,b],_=>exact⟨a,b,rfl,h.2 a (by rw[hk];exact .head _),h.2 b (by rw[hk];exact .tail _ (.head _))⟩
def ZZ (f:Fact):arity f=true→1≤lv f:=by
 induction f using Fact.ind with
 | h f ih=>
   intro h;rw[ML,Yo];split
   ·rename_i h5
    obtain⟨a,ha,hb⟩:=H2 h h5;rw[ha];exact ih a (by rw[ha];exact .head _) hb
   ·split
    ·rename_i h6
     obtain⟨a,b,ha,hb,_⟩:=H0 h h6;rw[ha];have:=ih a (by rw[ha];exact .head _) hb;simp only[E8,List.getD_cons_zero];omega
    ·omega
def dc {a b:Nat} (ha:1≤a) (hb:1≤b):2 ^ a+2 ^ b≤2 ^ (a+b):=by
 rw[Nat.pow_add];have h1:2≤2 ^ a:=by simpa using Nat.pow_le_pow_right (show 0<2 by omega) ha
 have h2:2≤2 ^ b:=by simpa using Nat.pow_le_pow_right (show 0<2 by omega) hb
 generalize 2 ^ a=x at *;generalize 2 ^ b=y at *;have:=Nat.mul_le_mul_left (x - 1) (show 1≤y - 1 by omega);obtain⟨x,rfl⟩: ∃u,x=u+1:=⟨x - 1,by omega⟩
 obtain⟨y,rfl⟩: ∃u,y=u+1:=⟨y - 1,by omega⟩
 simp only[Nat.add_sub_cancel,Nat.mul_one]at this;rw[Nat.add_mul,Nat.mul_add];omega
def QC (A B:List (List Fact)):(Dl A B).length=A.length*B.length:=by
 induction A with
 | nil=>simp[Dl]
 | cons x r ih=>
   simp only[Dl,List.flatMap_cons,PK,BQ,KH]at *;rw[ih,Nat.add_mul];omega
def Ea (f : Fact):arity f=true→ ∀c,(BS f c).length≤2 ^ lv f∧ ∀l∈BS f c,l.length≤lv f:=by
 induction f using Fact.ind with
 | h f ih=>
   intro h c;rw[F8,ML,FN,Yo];by_cases h1:f.op=1
   ·have e5: ¬f.op=5:=by omega
    have e6: ¬(f.op=6∨f.op=7):=by omega
    rw[if_pos h1,if_neg e5,if_neg e6];cases c
    ·rw[if_neg (by decide)]
     exact⟨by simp,fun l hl=>by simp at hl;subst hl;simp⟩
    ·rw[if_pos rfl]
     exact⟨by simp,fun l hl=>by cases hl⟩
   rw[if_neg h1];by_cases h5:f.op=5
   ·obtain⟨a,ha,hb⟩:=H2 h h5
    rw[if_pos h5,if_pos h5,ha];exact ih a (by rw[ha];exact .head _) hb (!c)
   rw[if_neg h5,if_neg h5];by_cases h6:f.op=6∨f.op=7
   ·obtain⟨a,b,ha,hb1,hb2⟩:=H0 h h6
    rw[if_pos h6,if_pos h6,ha];simp only[E8,List.map_nil,List.getD_cons_zero,List.getD_cons_succ];obtain⟨i1,i2⟩:=ih a (by rw[ha];exact .head _) hb1 c;obtain⟨j1,j2⟩:=ih b (by rw[ha];exact .tail _ (.head _)) hb2 c;have p1:=ZZ a hb1;have p2:=ZZ b hb2;split
    ·refine⟨?_,fun l hl=>?_⟩
     ·rw[PK]
      have:=dc p1 p2;omega
     ·rcases Fs.1 hl with hl|hl
      ·have:=i2 l hl;omega
      ·have:=j2 l hl;omega
    ·refine⟨?_,fun l hl=>?_⟩
     ·rw[QC,Nat.pow_add]
      exact Nat.mul_le_mul i1 j1
     ·simp only[Dl,List.mem_flatMap,Mk]at hl
      obtain⟨x,hx,y,hy,rfl⟩:=hl;have:=L8 x y;have:=i2 x hx;have:=j2 y hy;omega
   ·rw[if_neg h6,if_neg h6]
    cases c
    ·exact⟨by simp,fun l hl=>by simp at hl;subst hl;simp⟩
    ·exact⟨by simp,fun l hl=>by simp at hl;subst hl;simp⟩
def jH (f:Fact):arity f=true→2*lv f≤LU f+1:=by
 induction f using Fact.ind with
 | h f ih=>
   intro h;rw[ML,Yo,Jt];by_cases h5:f.op=5
   ·obtain⟨a,ha,hb⟩:=H2 h h5
    rw[if_pos h5,ha];have:=ih a (by rw[ha];exact .head _) hb;simp only[E8,List.map_nil,List.getD_cons_zero,List.sum_cons,List.sum_nil];omega
   rw[if_neg h5];by_cases h6:f.op=6∨f.op=7
   ·obtain⟨a,b,ha,hb1,hb2⟩:=H0 h h6
    rw[if_pos h6,ha];have:=ih a (by rw[ha];exact .head _) hb1;have:=ih b (by rw[ha];exact .tail _ (.head _)) hb2;simp only[E8,List.map_nil,List.getD_cons_zero,List.getD_cons_succ,List.sum_cons,List.sum_nil];omega
   ·rw[if_neg h6]
    omega
def NK {σ:AH} {es es':List (List V)} (hs:Sat σ []) (h:FK σ σ es es') (he: ∀e∈es',e.length=1):A2 σ (.l es true) fun r σ'=> ∃post,(∃v,r= .ret v∧post= [.own v 1 es'])∧Sat σ' post:=
 F4 (fun _ _ h=>h) (.l (fun _=>rfl) h) ⟨_,⟨_,rfl,rfl⟩,c8 hs he⟩
set_option maxHeartbeats 4000000 in
def nS (f : Fact):arity f=true→lv f≤28→ ∀c,Bk Tryz.prog 144 [.a (xF f),.b c] [] fun r post=> ∃v,r= .ret v∧post= [.own v 1 (cj (BS f c))]:=by
 induction f using Fact.ind with
 | h f ih =>
   intro h hlv c σ hs;refine BJ.fit (by kernel_rfl) fun hf=>?_
   have⟨h2,h3,h4⟩:=IQ hf.1;have hM:=Mx;refine mN kZ ?_;rw[F8];rw[ML]at hlv;by_cases h5:f.op=5
   ·obtain⟨a,ha,hb⟩:=H2 h h5
    have ha0:f.kids[Int.toNat 0]? =some a:=by rw[ha];rfl
    have hrec:=ih a (by rw[ha];exact .head _) hb (by simpa[Yo,h5,ha]using hlv) (!c)
    conv=>whnf
    repeat'((first|apply st|(apply sq;intro K U)|(apply si;intro A B Y Z)|(apply Y;clear Z B Y A)|(apply U;clear U K)|refine⟨rfl,?_⟩|refine⟨kZ,?_⟩|refine Mz ?_|(constructor<;>intro hc<;>(try rw[hc])<;>(replace hc:=bp hc)<;>try(exfalso;omega))|fail)<;>conv=>whnf)
    all_goals try(exfalso;omega)
    refine hrec.use (rest:=[]) hs ?_;clear hs;rintro r post σ ⟨v,rfl,rfl⟩ hs
    conv=>whnf
    repeat'((first|apply st|(apply Y;clear Z B Y A)|(apply U;clear U K)|clear U K)<;>conv=>whnf)
    refine Ap hs (List.Sublist.refl _) (.refl _) fun σ' hs'=>⟨_,⟨_,rfl,?_⟩,hs'⟩
    simp only[FN,h5,ha];rfl
   by_cases h6:f.op=6∨f.op=7
   ·obtain ⟨a,b,ha,hb1,hb2⟩:=H0 h h6
    have ha0:f.kids[Int.toNat 0]? =some a:=by rw[ha];rfl
    have ha1:f.kids[Int.toNat 1]? =some b:=by rw[ha];rfl
    have hlv2:lv a+lv b≤28:=by simpa[Yo,h5,h6,ha]using hlv
    have hrec:=ih a (by rw[ha];exact .head _) hb1 (by omega) c;have hrec2:=ih b (by rw[ha];exact .tail _ (.head _)) hb2 (by omega) c
    have hcg:FN f (f.kids.map BS) c=if c != (f.op==7)then BS a c++BS b c else Dl (BS a c) (BS b c):=by
     have h1: ¬f.op=1:=by omega
     simp only[FN,if_neg h1,if_neg h5,if_pos h6,ha];rfl
    rw[hcg];obtain⟨i1,i2⟩:=Ea a hb1 c;obtain⟨j1,j2⟩:=Ea b hb2 c
    have hpw:2 ^ lv a*2 ^ lv b≤268435456:=by
     rw[←Nat.pow_add];exact Nat.pow_le_pow_right (by omega) (show lv a+lv b≤28 from hlv2)
    have hAB:=Nat.le_trans (Nat.mul_le_mul i1 j1) hpw;have q1:1≤2 ^ lv a:=Nat.one_le_two_pow;have q2:1≤2 ^ lv b:=Nat.one_le_two_pow;have q3:2 ^ lv a≤268435456:=Nat.le_trans (Nat.le_mul_of_pos_right _ q2) hpw;have q4:2 ^ lv b≤268435456:=Nat.le_trans (Nat.le_mul_of_pos_left _ q1) hpw;generalize BS a c=LA at *;generalize BS b c=LB at *;have hgB:=Ck Ki LB;clear hcg;generalize hres:(if c != (f.op==7)then LA++LB else Dl LA LB)=RES;clear ih
    conv=>whnf
    repeat'((first|apply st|(apply sq;intro K U)|(apply si;intro A B Y Z)|(apply Y;clear Z B Y A)|(apply U;clear U K)|apply dr|refine⟨rfl,?_⟩|refine⟨kZ,?_⟩|refine Mz ?_|refine NR ?_|(constructor<;>intro hc<;>(try rw[hc])<;>(replace hc:=bp hc)<;>try(exfalso;omega))|fail)<;>conv=>whnf)
    all_goals try(exfalso;omega)
    all_goals
     refine hrec.use (rest:=[]) hs ?_;clear hs;rintro r post σ ⟨v1,rfl,rfl⟩ hs
     conv=>whnf
     repeat'((first|apply st|apply dr|refine rk ?_ ?_|exact fun s e=>by cases e;rfl|refine⟨kZ,?_⟩|fail)<;>conv=>whnf)
     refine hrec2.use (pre:=[]) (rest:=[_]) hs ?_;clear hs;rintro r post σ ⟨v2,rfl,rfl⟩ hs
     conv=>whnf
     repeat'((first|apply st|(apply sq;intro K U)|(apply si;intro A B Y Z)|(apply Y;clear Z B Y A)|(apply U;clear U K)|apply dr|refine⟨rfl,?_⟩|refine lo ?_|(constructor<;>intro hc<;>(try rw[hc])<;>(replace hc:=bp hc))|fail)<;>conv=>whnf)
    all_goals have hct:=hc
    all_goals clear hc
    all_goals first
     | (refine Rl hs 1 0 rfl rfl (by simp only[BQ];omega) hgB.1 hgB.2 fun v σ hs=>?_
        conv=>whnf
        repeat'((first|apply st|(apply Y;clear Z B Y A)|(apply U;clear U K)|clear U K)<;>conv=>whnf)
        rw[hct,if_pos rfl]at hres;refine Ap (hs.less (Ji _ _)) (List.Sublist.refl _) (.refl _) fun σ' hs'=>⟨_,⟨_,rfl,?_⟩,hs'⟩
        rw[←hres];simp only[cj,R9]
        rfl)
     | (refine B2 LA.length (fun k v=>[(7,v),(52,eI (A4 k))]) (fun k v=>[.own v2 1 (cj LB),.own v1 1 (cj LA),.own v 1 (cj (Dl (LA.take k) LB))]) (fun _ _=>True) (.l [] true) rfl trivial (E9 hs 1) ?_
        clear hs;rintro k v σ hk - hs;rcases BC LA hk with⟨x,hx,hlt⟩|hke
        ·have hxl:=i2 x (B5 hx)
         have hpk:Dl (LA.take (k+1)) LB=Dl (LA.take k) LB++LB.map fun y=>CW x y:=by
          rw[AO hx];simp[Dl]
         have hpl:(Dl (LA.take k) LB).length+LB.length≤LA.length*LB.length:=by
          rw[QC,KG,Nat.min_eq_left hk];have:=SA LB.length (show k+1≤LA.length from hlt);rw[Nat.add_mul]at this;omega
         generalize Dl (LA.take k) LB=pk0 at *
         conv=>whnf
         repeat'((first|apply st|(apply sq;intro K U)|(apply si;intro A B Y Z)|(apply Y;clear Z B Y A)|(apply U;clear U K)|refine⟨rfl,?_⟩|refine lo ?_|refine oc ?_|refine SH ?_|(refine CK (fun hc=>?_)<;>(try rw[hc])<;>clear hc)|fail)<;>conv=>whnf)
         refine B2 LB.length (fun j v=>[(7,v),(58,eI (A4 j))]) (fun j v=>[.own v2 1 (cj LB),.own v1 1 (cj LA),.own v 1 (cj (pk0++(LB.take j).map fun y=>CW x y))]) (fun _ _=>True) v rfl trivial (by simpa using hs) ?_;clear hs;rintro j v σ hj - hs;rcases BC LB hj with⟨y,hy,hjlt⟩|hje
         ·have hyl:=j2 y (B5 hy)
          conv=>whnf
          repeat'((first|apply st|(apply sq;intro K U)|(apply si;intro A B Y Z)|(apply Y;clear Z B Y A)|(apply U;clear U K)|refine⟨rfl,?_⟩|refine oc ?_|refine SH ?_|refine aq fun v σ hs hsl=>?_|(refine CK (fun hc=>?_)<;>(try rw[hc])<;>clear hc)|refine Pure.use (Xw _ _ _ _ (by omega)) ?_|clear U K)<;>conv=>whnf)
          refine⟨hjlt,_,rfl,trivial,?_⟩;rw[AO hy,R9,←UC];exact hs
         ·conv=>whnf
          repeat'((first|apply st|(apply sq;intro K U)|(apply si;intro A B Y Z)|(apply Y;clear Z B Y A)|(apply U;clear U K)|refine⟨rfl,?_⟩|(refine DR (fun hc=>?_)<;>(try rw[hc])<;>clear hc)|clear U K)<;>conv=>whnf)
          rw[Ar hje]at hs;exact⟨hlt,_,rfl,trivial,by rw[hpk];exact hs⟩
        ·conv=>whnf
         repeat'((first|apply st|(apply sq;intro K U)|(apply si;intro A B Y Z)|(apply Y;clear Z B Y A)|(apply U;clear U K)|refine⟨rfl,?_⟩|(refine DR (fun hc=>?_)<;>(try rw[hc])<;>clear hc)|clear U K)<;>conv=>whnf)
         rw[Ar hke]at hs;rw[hct,if_neg (by decide)]at hres;rw[←hres]
         refine Ap (hs.less ((Ji _ _).trans (Ji _ _))) (List.Sublist.refl _) (.refl _) fun σ' hs'=>⟨_,⟨_,rfl,rfl⟩,hs'⟩)
   ·have e1:FN f (f.kids.map BS) c=if f.op=1 then(if c then []else [[]])else if c then [[FX f]]else [[f]]:=by
     simp only[FN,if_neg h5,if_neg h6]
    rw[e1];clear e1
    conv=>whnf
    repeat'((first|apply st|(apply sq;intro K U)|(apply si;intro A B Y Z)|(apply Y;clear Z B Y A)|(apply U;clear U K)|refine⟨rfl,?_⟩|refine⟨kZ,?_⟩|refine Pure.use (ZW _) ?_|(constructor<;>intro hc<;>(try rw[hc])<;>(replace hc:=bp hc)<;>try(exfalso;omega))|clear U K)<;>conv=>whnf)
    all_goals try(exfalso;omega)
    ·subst hc
     rw[if_pos (by assumption),if_pos rfl];exact NK hs .nil (fun e h=>by cases h)
    ·subst hc
     rw[if_pos (by assumption),if_neg (by decide)];refine NK hs (.cons (.cons CG .nil) .nil) ?_;intro e he;simp at he;subst he;rfl
    ·subst hc
     rw[if_neg (by assumption),if_pos rfl];refine NK hs (.cons (.cons (.l (fun h=>by cases h) ?_) .nil) .nil) ?_
     ·simp only[facts,List.map,Bd]
      exact Ej _
     ·intro e he
      simp at he;subst he;rfl
    ·subst hc
     rw[if_neg (by assumption),if_neg (by decide)];refine NK hs (.cons (.cons (.l (fun h=>by cases h) ?_) .nil) .nil) ?_
     ·simp only[facts,List.map,Bd]
      exact Ej _
     ·intro e he
      simp at he;subst he;rfl
def Ib (w:AK) (x:Fact):Prop:= ∃g,Bj w g=true∧Bq g=true∧(x=g∨x=FX g)
def F2 {g:Fact} (h:Bq g=true):g.op=2∨g.op=3∨g.op=4:=by
 simp only[Bq,Fq,Dx]at h;omega
def Em {w : AK} (f:Fact):Bj w f=true→ ∀c,∀l∈BS f c,∀x∈l,Ib w x:=by
 induction f using Fact.ind with
 | h f ih=>
   intro h c;have har:=C0 f h;have h':=h;rw[Ch,BY,EN]at h';rw[F8,FN];by_cases h1:f.op=1
   ·rw[if_pos h1]
    cases c
    ·rw[if_neg (by decide)]
     intro l hl x hx;simp at hl;subst hl;cases hx
    ·rw[if_pos rfl]
     intro l hl;cases hl
   rw[if_neg h1];by_cases h5:f.op=5
   ·obtain⟨a,ha,hb⟩:=H2 har h5
    rw[if_pos h5,ha];exact ih a (by rw[ha];exact .head _) (h'.2 a (by rw[ha];exact .head _)) (!c)
   rw[if_neg h5];by_cases h6:f.op=6∨f.op=7
   ·obtain⟨a,b,ha,hb1,hb2⟩:=H0 har h6
    rw[if_pos h6,ha];have i1:=ih a (by rw[ha];exact .head _) (h'.2 a (by rw[ha];exact .head _)) c;have j1:=ih b (by rw[ha];exact .tail _ (.head _)) (h'.2 b (by rw[ha];exact .tail _ (.head _))) c;simp only[E8,List.map_nil,List.getD_cons_zero,List.getD_cons_succ];split
    ·intro l hl
     rcases Fs.1 hl with hl|hl
     ·exact i1 l hl
     ·exact j1 l hl
    ·intro l hl x hx
     simp only[Dl,List.mem_flatMap,Mk]at hl;obtain⟨y,hy,z,hz,rfl⟩:=hl;rcases QN _ _ _ hx with h|h
     ·exact i1 y hy x h
     ·exact j1 z hz x h
   ·rw [if_neg h6]
    have hlf:Bq f=true:=by
     have ho:SG w f=true:=by
      have:=h'.1;simp only[DB,BY]at this;exact this.1
     simp only[Bq,Fq,Dx];unfold SG at ho;split at ho
     ·omega
     ·split at ho
      ·omega
      ·simp only[Fq,Dx]at ho
       omega
    cases c
    ·rw[if_neg (by decide)]
     intro l hl x hx;simp at hl;subst hl;simp at hx;subst hx;exact⟨x,h,hlf,.inl rfl⟩
    ·rw[if_pos rfl]
     intro l hl x hx;simp at hl;subst hl;simp at hx;subst hx;exact⟨f,h,hlf,.inr rfl⟩
def HX {w:AK} {x:Fact} (h:Ib w x):GG x∧Bj w (A0 x).1=true∧Bq (A0 x).1=true:=by
 obtain⟨g,hn,hl,rfl|rfl⟩:=h
 ·have:=F2 hl
  have h5: ¬x.op=5:=by omega
  exact⟨fun e=>absurd e h5,by simp only[A0,if_neg h5];exact⟨hn,hl⟩⟩
 ·exact⟨fun _ e=>(by cases e),hn,hl⟩
def I1 {w:AK} {l:List Fact} (h: ∀x∈l,Ib w x):(∀x∈l,GG x)∧Si w l∧Jo l∧RC l 2:=by
 refine⟨fun x hx=>(HX (h x hx)).1,fun x hx h2=>?_,fun x hx=>?_,fun x hx=>?_⟩
 all_goals
  obtain⟨-,hn,hl⟩:=HX (h x hx);have hlo:=F2 hl;generalize (A0 x).1=g at *;rw[Ch,BY]at hn;have hn:=hn.1;simp only[DB,BY]at hn;obtain⟨ho,-,-,-,hp,-⟩:=hn
 ·unfold SG at ho
  rw[if_pos h2]at ho;simp only[NT,BY,Ce]at ho;exact ho.2
 ·unfold SG at ho
  split at ho
  ·simp only[BY,Dx]at ho
   omega
  ·split at ho
   ·simp only[BY,Ce]at ho
    omega
   ·omega
 ·simp only[Es,BY,Ce]at hp
  omega
def PO (w:AK) (f:Fact):Bool:=(BS f false).any (Gs w)
def nJ (w:AK) (f:Fact) (hw:KE w) (hn:Bj w f=true) (hlv:lv f≤28):Pure Tryz.prog 111 [.a (BE w),.a (xF f)] (.b (PO w f)):=by
 have hM:=Mx;have har:=C0 f hn;have hcl:=(Ea f har false).1;have hp:2 ^ lv f≤2 ^ 28:=Nat.pow_le_pow_right (by omega) hlv;have hlits:=Em f hn false;refine mz kZ ?_;have hs:=Sn
 conv=>whnf
 repeat'((first|apply st|(apply sq;intro K U)|(apply si;intro A B Y Z)|(apply Y;clear Z B Y A)|(apply U;clear U K)|refine⟨kZ,?_⟩|fail)<;>conv=>whnf)
 refine(nS f har hlv false).use (rest:=[]) hs ?_;clear hs;rintro r post σ ⟨v,rfl,rfl⟩ hs;have F:PO w f=(BS f false).any (Gs w):=rfl
 have hlen: ∀x∈BS f false,x.length≤1000000:=fun x hx=>by
  have:=(Ea f har false).2 x hx;omega
 generalize BS f false=cs at *
 conv=>whnf
 repeat'((first|apply st|(apply Y;clear Z B Y A)|(apply U;clear U K)|refine lo ?_|fail)<;>conv=>whnf)
 refine B2 cs.length (fun k (_:Unit)=>[(10,eI (A4 k))]) (fun _ _=>[.own v 1 (cj cs)]) (fun k _=>PO w f=(cs.drop k).any (Gs w)) () rfl F hs ?_;clear hs F;rintro k - σ hk F hs;rcases BC cs hk with⟨x,hx,hlt⟩|hke
 ·obtain⟨q1,q2,q3,q4⟩:=I1 (hlits x (B5 hx))
  have htog:=Te w x q1 (hlen x (B5 hx)) hw q2 q3 q4;rw[drop_cons hx,Qw]at F;cases ht:Gs w x<;>rw[ht]at htog F
  ·conv=>whnf
   repeat'((first|apply st|(apply sq;intro K U)|(apply si;intro A B Y Z)|(apply Y;clear Z B Y A)|(apply U;clear U K)|refine⟨rfl,?_⟩|refine⟨kZ,?_⟩|refine oc ?_|refine SH ?_|(refine CK (fun hc=>?_)<;>(try rw[hc])<;>clear hc)|refine Pure.use (by assumption) ?_|clear U K)<;>conv=>whnf)
   exact⟨hlt,(),rfl,F,hs⟩
  ·conv=>whnf
   repeat'((first|apply st|(apply sq;intro K U)|(apply si;intro A B Y Z)|(apply Y;clear Z B Y A)|(apply U;clear U K)|refine⟨rfl,?_⟩|refine⟨kZ,?_⟩|refine oc ?_|refine SH ?_|(refine CK (fun hc=>?_)<;>(try rw[hc])<;>clear hc)|refine Pure.use (by assumption) ?_|clear U K)<;>conv=>whnf)
   exact AI (by rw[F];rfl)
 ·conv=>whnf
  repeat'((first|apply st|(apply sq;intro K U)|(apply si;intro A B Y Z)|(apply Y;clear Z B Y A)|(apply U;clear U K)|refine⟨rfl,?_⟩|(refine DR (fun hc=>?_)<;>(try rw[hc])<;>clear hc)|clear U K)<;>conv=>whnf)
  exact AI (by rw[F,Ah hke];rfl)
def Q7 (w:AK) (a b:Fact):Bool:= !PO w (Mq a (FX b))
def Za (a b:Fact):lv (Mq a (FX b))=lv a+lv b:=by
 rw[ML];simp only[Yo,Mq,Fact.op,Fact.kids,E8,List.map_nil,List.getD_cons_zero,List.getD_cons_succ];rw[ML (FX b)];simp[Yo,FX,Fact.op,Fact.kids]
def N2 {w:AK} {a b:Fact} (ha:Bj w a=true) (hb:Bj w b=true):Bj w (Mq a (FX b))=true:=by
 have hnb:Bj w (FX b)=true:=by
  rw[Ch];simp[FX,DB,SG,Fact.op,Fact.kids,Fact.arg,Fact.path,Fact.cls,Fact.n,CF,Es,Bq,hb]
 rw[Ch];simp[Mq,DB,SG,Fact.op,Fact.kids,Fact.arg,Fact.path,Fact.cls,Fact.n,CF,Es,Bq,ha,hnb]
def X6 (w:AK) (a b:Fact) (hw:KE w) (ha:Bj w a=true) (hb:Bj w b=true) (la:lv a≤12) (lb:lv b≤12):Pure Tryz.prog 77 [.a (BE w),.a (xF a),.a (xF b)] (.b (Q7 w a b)):=by
 refine pt kZ ?_;have hs:=Sn
 conv=>whnf
 repeat'((first|apply st|(apply sq;intro K U)|(apply si;intro A B Y Z)|(apply Y;clear Z B Y A)|(apply U;clear U K)|apply dr|refine rk ?_ ?_|exact fun s e=>by cases e;rfl|refine⟨kZ,?_⟩|refine Pure.use (ZW _) ?_|refine Pure.use (nP _ _) ?_|refine Pure.use (nJ _ _ hw (N2 ha hb) (by rw[Za];omega)) ?_|fail)<;>conv=>whnf)
 all_goals exact AI rfl
def S5 {p:Prog}: ∀ {ms:List Mr} {s:List Int},(runM p ms s).isSome=true→ ∀m∈ms,NN p m=true
 | [],_,_,_,h=>by cases h
 | m ::r,s,h,x,hx=>by
   rw[runM]at h;split at h
   ·rename_i hok
    split at h
    ·cases h
    ·rcases GB.1 hx with rfl|hx
     ·exact hok
     ·exact S5 h x hx
   ·cases h
def Ei {p:Prog} (h:(BV p).isSome=true):Cy p=true∧ ∀m∈p.methods,NN p m=true:=by
 unfold BV at h;split at h
 ·rename_i hh
  refine⟨hh,?_⟩;split at h
  ·cases h
  ·rename_i s hs
   exact S5 (by rw[hs];rfl)
 ·cases h
structure Db (p:Prog):Prop where
 nc:KE (AS p)
 AT:Bu p.AP≤Af
 fo:p.AP.length≤1000
 facts: ∀m∈p.methods,Bj (AS p) m.fact=true∧lv m.fact≤12
 many:p.methods.length≤16
def look_ok {p:Prog} (h:(BV p).isSome=true):Db p:=by
 obtain⟨hh,hm⟩:=Ei h;simp only[Cy,BY,Ce]at hh;have hc:=hh.1;simp only[BG,BY,Ce]at hc;have hM:=Mx;refine⟨OQ hc.1 hc.2.1 hc.2.2.2.1,by have:=(FO _ _ hc.2.1).1;omega,by have:=hc.1;omega,fun m h=>?_,hh.2.2.1⟩;have:=hm m h;simp only[NN,Cf,BY,Ce]at this;have hn:=this.2.2.2.2.1.2.2;refine⟨hn,?_⟩;have hcn:=J5 m.fact 24 (by omega) this.2.2.2.2.1.1;have:=jH m.fact (C0 _ hn);omega
def A1 (p:Prog) (m:Int):Bool:=decide (0≤m)&&decide (m<(p.methods.length:Int))
def BN (p:Prog) (m:Int):Mr:=p.methods.getD m.toNat default
def Br {p:Prog} {m:Int} (h:A1 p m=true):p.methods[m.toNat]? =some (BN p m):=by
 simp only[A1,BY,Ce]at h;rw[BN,DY,DJ (by omega)];rfl
def CR (p:Prog) (m n:Int):Bool:=(BN p m).gen==(BN p n).gen&&(BN p m).kind==(BN p n).kind
def EP (p:Prog) (m n:Int):Bool:=Q7 (AS p) (BN p m).fact (BN p n).fact
def AY (p:Prog) (m n:Int):Bool:=EP p m n&& !EP p n m
def bF (p:Prog) (m:Int):Pure Tryz.prog 46 [.a (BR p),eI m] (.b (A1 p m)):=by
 refine Pure.fit (by kernel_rfl) fun hf=>?_
 have⟨p1,p2,p3,p4⟩:=Ff hf.1;refine qH kZ ?_;have hs:=Sn
 conv=>whnf
 repeat'((first|apply st|(apply sq;intro K U)|(apply si;intro A B Y Z)|(apply Y;clear Z B Y A)|(apply U;clear U K)|refine⟨rfl,?_⟩|(constructor<;>intro hc<;>(try rw[hc])<;>(replace hc:=bp hc))|fail)<;>conv=>whnf)
 all_goals exact AI (by simp[A1, *]<;>omega)
def fN (p:Prog) (m n:Int) (hm:A1 p m=true) (hn:A1 p n=true):Pure Tryz.prog 47 [.a (BR p),eI m,eI n] (.b (CR p m n)):=by
 refine Pure.fit (by kernel_rfl) fun hf=>?_
 have⟨p1,p2,p3,p4⟩:=Ff hf.1;have hxm:=Br hm;have hxn:=Br hn;simp only[A1,BY,Ce]at hm hn;refine qG kZ ?_;have hs:=Sn
 conv=>whnf
 repeat'((first|apply st|(apply sq;intro K U)|(apply si;intro A B Y Z)|(apply Y;clear Z B Y A)|(apply U;clear U K)|apply dr|refine⟨rfl,?_⟩|refine GX ?_|(constructor<;>intro hc<;>(try rw[hc])<;>(replace hc:=bp hc))|fail)<;>conv=>whnf)
 all_goals exact AI (by simp[CR, *])
def L9 (p:Prog) (m n:Int) (hk:Db p) (hm:A1 p m=true) (hn:A1 p n=true):Pure Tryz.prog 55 [.a (BR p),eI m,eI n] (.b (EP p m n)):=by
 refine Pure.fit (by kernel_rfl) fun hf=>?_
 have⟨p1,p2,p3,p4⟩:=Ff hf.1;have F:=KY hf.1;have hxm:=Br hm;have hxn:=Br hn;simp only[A1,BY,Ce]at hm hn;refine qB kZ ?_;have hs:=Sn
 conv=>whnf
 repeat'((first|apply st|(apply sq;intro K U)|(apply si;intro A B Y Z)|(apply Y;clear Z B Y A)|(apply U;clear U K)|apply dr|refine rk ?_ ?_|exact fun s e=>by cases e;rfl|refine⟨kZ,?_⟩|refine GX ?_|refine Pure.use (M3 _ F hk.fo hk.AT) ?_|refine Pure.use (X6 _ _ _ hk.nc (hk.facts _ (B5 hxm)).1 (hk.facts _ (B5 hxn)).1 (hk.facts _ (B5 hxm)).2 (hk.facts _ (B5 hxn)).2) ?_|fail)<;>conv=>whnf)
 all_goals exact AI rfl
def fP (p:Prog) (m n:Int) (hk:Db p) (hm:A1 p m=true) (hn:A1 p n=true):Pure Tryz.prog 39 [.a (BR p),eI m,eI n] (.b (AY p m n)):=by
 refine qJ kZ ?_;have hs:=Sn
 conv=>whnf
 repeat'((first|apply st|(apply sq;intro K U)|(apply si;intro A B Y Z)|(apply Y;clear Z B Y A)|(apply U;clear U K)|refine⟨kZ,?_⟩|refine Pure.use (L9 _ _ _ hk hm hn) ?_|refine Pure.use (L9 _ _ _ hk hn hm) ?_|(constructor<;>intro hc<;>(try rw[hc])<;>(replace hc:=bp hc))|fail)<;>conv=>whnf)
 all_goals exact AI (by simp[AY, *])
def Hs (p:Prog) (m n:Int):Bool×Int:=if(BV p).isSome&&(A1 p m&&A1 p n)then(if CR p m n then(AY p m n,0)else(false,7))else(false,2)
end Go.Gl
namespace Go.Gl
variable {P:Program} {σ:AH}
abbrev eU (n:Nat):V:= .i .u64 (n:Int)
def HT {n:Nat} (h:n<18446744073709551616):IntKind.u64.wrap (n:Int)=n:=by
 simp only[IntKind.wrap,IntKind.signed,IntKind.bits];simp;omega
def Kl {a b:Nat} (ha:a<18446744073709551616) (hb:b<18446744073709551616):bits .or .u64 (a:Int) (b:Int)=((a|||b:Nat):Int):=by
 have h:a|||b<2 ^ 64:=Nat.or_lt_two_pow (n:=64) (by simpa using ha) (by simpa using hb)
 simp only[bits,IntKind.bits]
 have e1:(BitVec.ofInt 64 (a:Int)|||BitVec.ofInt 64 (b:Int)).toNat=a|||b:=by
  simp only[BitVec.ofInt_natCast,BitVec.toNat_or,BitVec.toNat_ofNat];rw[Nat.mod_eq_of_lt (by simpa using ha),Nat.mod_eq_of_lt (by simpa using hb)]
 have e2:=HT (n:=a|||b) (by simpa using h);rw[←e1]at e2;rw[←e1];exact e2
def K5 {a b:Nat} (ha:a<18446744073709551616) (hb:b<18446744073709551616):bits .and .u64 (a:Int) (b:Int)=((a&&&b:Nat):Int):=by
 have h:a&&&b<2 ^ 64:=Nat.and_lt_two_pow (n:=64) a (by simpa using hb);simp only[bits,IntKind.bits]
 have e1:(BitVec.ofInt 64 (a:Int)&&&BitVec.ofInt 64 (b:Int)).toNat=a&&&b:=by
  simp only[BitVec.ofInt_natCast,BitVec.toNat_and,BitVec.toNat_ofNat];rw[Nat.mod_eq_of_lt (by simpa using ha),Nat.mod_eq_of_lt (by simpa using hb)]
 have e2:=HT (n:=a&&&b) (by simpa using h);rw[←e1]at e2;rw[←e1];exact e2
def NW (a b:Nat):Nat:=(BitVec.ofNat 64 a&&& ~~~BitVec.ofNat 64 b).toNat
def Rr (a b:Nat):NW a b<18446744073709551616:=by
 have:=(BitVec.ofNat 64 a&&& ~~~BitVec.ofNat 64 b).isLt;simpa[NW]using this
def Qi {a b:Nat}:bits .andNot .u64 (a:Int) (b:Int)=((NW a b:Nat):Int):=by
 simp only[bits,IntKind.bits]
 have e1:(BitVec.ofInt 64 (a:Int)&&& ~~~BitVec.ofInt 64 (b:Int)).toNat=NW a b:=by
  simp only[BitVec.ofInt_natCast,NW]
 have e2:=HT (n:=NW a b) (Rr a b);rw[←e1]at e2;rw[←e1];exact e2
def OL {a b i:Nat} (hi:i<64):(NW a b).testBit i=(a.testBit i&& !b.testBit i):=by
 rw[NW,BitVec.testBit_toNat,BitVec.getLsbD_and,BitVec.getLsbD_not];rw[BitVec.getLsbD_ofNat,BitVec.getLsbD_ofNat];simp only[hi,decide_true,E7]
def V5 {c:Nat} (h:c<64):IntKind.u64.wrap (1*2 ^ (min c IntKind.u64.bits))=((2 ^ c:Nat):Int):=by
 have hb:IntKind.u64.bits=64:=rfl;rw[hb,Nat.min_eq_left (by omega),Int.one_mul];have:=HT (n:=2 ^ c) (by have:=Nat.pow_lt_pow_right (show 1<2 by omega) h;simpa using this);rw[←this];simp
def Jp {c:Nat} (h:c<64):2 ^ c<18446744073709551616:=by
 have:=Nat.pow_lt_pow_right (show 1<2 by omega) h;simpa using this
def V4 {a c:Nat} (h:c<64):(a:Int).fdiv (2 ^ (min c IntKind.u64.bits))=((a >>> c:Nat):Int):=by
 have hb:IntKind.u64.bits=64:=rfl;rw[hb,Nat.min_eq_left (by omega),Nat.shiftRight_eq_div_pow,Int.fdiv_eq_ediv_of_nonneg _ (Int.pow_nonneg (by omega))];simp
def DO {v:V} {Q:R→AH→Prop} (h:Q (.C2 v) σ):Ak σ v Q:=⟨v,σ,fun _ _ h=>h,.refl v,h⟩
def Bp {g:FuncId} {fi ca args:List V} {Q:R→AH→Prop} (h:BJ P g (fi++args++ca) σ Q):A5 P (.f (.func g) fi ca) args σ Q:=h
def Pure.of {f:FuncId} {args:List V} {v:V} (h:BJ P f args emp fun r _=>r= .ret v):Pure P f args v:=by
 refine⟨h.1,fun Λ w cs G hv=>Calls.mono (h.2 Λ w cs G hv) fun e w' ⟨r,σ',hr,h1,h2,h3⟩=>?_⟩;subst hr;obtain⟨c,rfl,hv'⟩:=h1;have hsub:Sub emp σ':=fun n o ho=>by cases ho
 exact⟨.ret v,emp,⟨rfl,rfl⟩,⟨c,rfl,GC.rel h2 hsub (.refl v) hv'⟩,h2.drop hsub,⟨h3.frame,h3.size,h3.os,h3.tape,h3.output,fun _ _ _=>rfl⟩⟩
def DC {α S:Type} (P:Program) (x:V) (ea:α→V) (H:S→List At) (stp:α→S→Bool×S) (D:α→S→Prop):Prop:=
 ∀y s,D y s→ ∀σ,Sat σ (H s)→A5 P x [ea y] σ fun r σ'=>r= .ret (.b (stp y s).1)∧Sat σ' (H (stp y s).2)
def DC.use {α S:Type} {x:V} {ea:α→V} {H:S→List At} {stp:α→S→Bool×S} {D:α→S→Prop} (h:DC P x ea H stp D) {y:α} {s:S} (hd:D y s) (hs:Sat σ (H s)) {k kp:V→AH→Prop} (hk: ∀σ',Sat σ' (H (stp y s).2)→k (.b (stp y s).1) σ'):A5 P x [ea y] σ (qk k kp):=
 (h y s hd σ hs).mono fun r σ' ⟨e,h'⟩=>by rw[e];exact hk σ' h'
def DC.ug {α S:Type} {g:FuncId} {fi ca:List V} {ea:α→V} {H:S→List At} {stp:α→S→Bool×S} {D:α→S→Prop} (h:DC P (.f (.func g) fi ca) ea H stp D) {y:α} {s:S} (hd:D y s) {rest:List At} (hs:Sat σ (H s++rest)) {k kp:V→AH→Prop} (hk: ∀σ',Sat σ' (H (stp y s).2++rest)→k (.b (stp y s).1) σ'):A5 P (.f (.func g) fi ca) [ea y] σ (qk k kp):=by
 refine Bp ?_;have h1:Bk P g (fi++[ea y]++ca) (H s) fun r post=>r= .ret (.b (stp y s).1)∧post=H (stp y s).2:=fun σ hs=>BJ.mono (h y s hd σ hs) fun r σ' ⟨e,h2⟩=>⟨_,⟨e,rfl⟩,h2⟩
 refine h1.use hs ?_;rintro r post σ' ⟨rfl,rfl⟩ hs';exact hk σ' hs'
def Bo {α S:Type} (stp:α→S→Bool×S):List α→Nat→S→Int×S
 | [],_,s=>(-1,s)
 | y::r,k,s=>if(stp y s).1 then((k:Int),(stp y s).2)else Bo stp r (k+1) (stp y s).2
def Cm {α S:Type} (stp:α→S→Bool×S):List α→S→Bool×S
 | [],s=>(true,s)
 | y::r,s=>if(stp y s).1 then Cm stp r (stp y s).2 else(false,(stp y s).2)
def UI {α S:Type} (stp:α→S→Bool×S) (D:α→S→Prop):List α→S→Prop
 | [],_=>True
 | y::r,s=>D y s∧UI stp D r (stp y s).2
def ME {α S:Type} {stp:α→S→Bool×S}: ∀(xs:List α) (k:Nat) (s:S),(Bo (fun y s=>(!(stp y s).1,(stp y s).2)) xs k s).2=(Cm stp xs s).2∧(decide ((Bo (fun y s=>(!(stp y s).1,(stp y s).2)) xs k s).1≥0)= !(Cm stp xs s).1)
 | [],_,_=>⟨rfl,rfl⟩
 | y::r,k,s=>by
   simp only[Bo,Cm];cases h:(stp y s).1
   ·simp
   ·simpa using ME r (k+1) (stp y s).2
def RZ {α S:Type} {stp:α→S→Bool×S} {D:α→S→Prop}: ∀(xs:List α) (s:S),UI stp D xs s→UI (fun y s=>(!(stp y s).1,(stp y s).2)) D xs s
 | [],_,_=>trivial
 | _::r,_,h=>⟨h.1,RZ r _ h.2⟩
def JP {α:Type} (f:α→Bool): ∀(xs:List α),Cm (fun y (_:Unit)=>(f y,())) xs ()=(xs.all f,())
 | []=>rfl
 | y::r=>by
   simp only[Cm,My];cases f y
   ·rfl
   ·simpa using JP f r
def Gy {α S:Type} {stp:α→S→Bool×S} {D:α→S→Prop}: ∀ {xs:List α} {s:S},(∀y∈xs,∀s,D y s)→UI stp D xs s
 | [],_,_=>trivial
 | y::r,s,h=>⟨h y (.head _) s,Gy fun z hz=>h z (.tail _ hz)⟩
end Go.Gl
namespace Go.Gl
open Go.Proofs
attribute [local irreducible] BJ A2 Ak AW AM Aj AV AX AN Ai AR AU A5 BF Sat Ad BD Al W
def RK {xs:List Int} {f:Bool} (h:FA (.l (iL xs) f)):xs.length≤Af:=Jb h
def bC:Pure Tryz.prog 164 [.b true] (.t []):=by
 refine Zv kZ ?_;have hs:=Sn
 conv=>whnf
 repeat'((first|apply st|(apply sq;intro K U)|(apply si;intro A B Y Z)|(apply Y;clear Z B Y A)|(apply U;clear U K)|refine De ?_|fail)<;>conv=>whnf)
 all_goals exact AI rfl
abbrev Dr:V:= .KJ 242 (.a [])
def Y0 (xs:List Int) (x:Int):Int:=(Bo (fun y (_:Unit)=>(x==y,())) xs 0 ()).1
def K4 {α:Type} (f:α→Bool): ∀(xs:List α) (k:Nat),(decide ((Bo (fun y (_:Unit)=>(f y,())) xs k ()).1≥0))=xs.any f
 | [],_=>rfl
 | y::r,k=>by
   simp only[Bo,Qw];cases f y
   ·simpa using K4 f r (k+1)
   ·simp
def R6 (xs:List Int) (x:Int):xs.any (x== ·)=xs.contains x:=by
 induction xs with
 | nil=>rfl
 | cons y r ih=>rw[Qw,List.contains_cons,ih]
def eO (xs:List Int) (x:Int):decide (Y0 xs x≥0)=xs.contains x:=by
 rw[←R6];exact K4 (x== ·) xs 0
def TK (xs:List Int) (f:Bool) (x:Int):Pure Tryz.prog 193 [.l (iL xs) f,eI x] (eI (Y0 xs x)):=by
 refine Pure.fit (by kernel_rfl) fun hf=>?_
 have hxl:=RK hf.1;have hM:=Mx;refine lL kZ ?_;have hs:=Sn
 conv=>whnf
 repeat'((first|apply st|(apply sq;intro K U)|(apply si;intro A B Y Z)|(apply Y;clear Z B Y A)|(apply U;clear U K)|fail)<;>conv=>whnf)
 refine B2 xs.length (fun k (_:Unit)=>[(8,eI (A4 k))]) (fun _ _=>[]) (fun k _=>Y0 xs x=(Bo (fun y (_:Unit)=>(x==y,())) (xs.drop k) k ()).1) () rfl rfl hs ?_;clear hs;rintro k - σ hk hn hs;have hck:A4 k=k:=AL (by omega);rcases BC xs hk with⟨y,hy,hlt⟩|hke
 ·rw[drop_cons hy,Bo]at hn
  conv=>whnf
  repeat'((first|apply st|(apply sq;intro K U)|(apply si;intro A B Y Z)|(apply Y;clear Z B Y A)|(apply U;clear U K)|refine⟨rfl,?_⟩|refine ix ?_|(refine CK (fun hc=>?_)<;>(try rw[hc])<;>clear hc)|(constructor<;>intro hc<;>(try rw[hc])<;>(replace hc:=bp hc))|clear U K)<;>conv=>whnf)
  ·exact AI (by rw[hn,hc,hck];simp)
  ·exact⟨hlt,(),rfl,by rw[hn];simp[hc],hs⟩
 ·rw[Ah hke,Bo]at hn
  conv=>whnf
  repeat'((first|apply st|(apply sq;intro K U)|(apply si;intro A B Y Z)|(apply Y;clear Z B Y A)|(apply U;clear U K)|refine⟨rfl,?_⟩|(refine DR (fun hc=>?_)<;>(try rw[hc])<;>clear hc)|clear U K)<;>conv=>whnf)
  exact AI (by rw[hn])
def Dv (xs:List Int) (f:Bool) (x:Int):Pure Tryz.prog 172 [.l (iL xs) f,eI x] (.b (xs.contains x)):=by
 refine lh kZ ?_;have hs:=Sn
 conv=>whnf
 repeat'((first|apply st|(apply sq;intro K U)|(apply si;intro A B Y Z)|(apply Y;clear Z B Y A)|(apply U;clear U K)|refine⟨rfl,?_⟩|refine Pure.use (TK _ _ _) ?_|fail)<;>conv=>whnf)
 all_goals exact AI (by rw[←eO])
def PB (n:Int):Pure Tryz.prog 211 [eI n] (.b (Q9 n)):=by
 refine lD kZ ?_;have hs:=Sn
 conv=>whnf
 repeat'((first|apply st|(apply sq;intro K U)|(apply si;intro A B Y Z)|(apply Y;clear Z B Y A)|(apply U;clear U K)|refine⟨rfl,?_⟩|(constructor<;>intro hc<;>(try rw[hc])<;>(replace hc:=bp hc))|fail)<;>conv=>whnf)
 all_goals exact AI (by simp[Q9, *]<;>omega)
def N4 (f:Fact):Bq f=(decide (2≤f.op)&&decide (f.op≤4)):=by
 rw[LW];simp only[Bq,Fq,BY,Dx,Ce];omega
def NC (f:Fact):Pure Tryz.prog 150 [.a (xF f)] (.b (Bq f)):=by
 refine mI kZ ?_;have hs:=Sn
 conv=>whnf
 repeat'((first|apply st|(apply sq;intro K U)|(apply si;intro A B Y Z)|(apply Y;clear Z B Y A)|(apply U;clear U K)|refine⟨rfl,?_⟩|(constructor<;>intro hc<;>(try rw[hc])<;>(replace hc:=bp hc))|fail)<;>conv=>whnf)
 all_goals exact AI (by rw[N4];simp[*]<;>omega)
def V1 (s c:Nat) (hs0:s<18446744073709551616) (hc:c<64):Pure Tryz.prog 176 [eU s,eI c] (eU (s|||2 ^ c)):=by
 refine lY kZ ?_;have hs:=Sn
 conv=>whnf
 repeat'((first|(apply sq;intro K U)|(apply si;intro A B Y Z)|(apply Y;clear Z B Y A)|(apply U;clear U K)|fail)<;>conv=>whnf)
 refine⟨Int.natCast_nonneg _,?_⟩
 conv=>whnf
 repeat'((first|apply st|(apply Y;clear Z B Y A)|(apply U;clear U K)|refine⟨rfl,?_⟩|fail)<;>conv=>whnf)
 exact AI (by rw[KF,V5 hc,Kl hs0 (Jp hc)])
def Nq (s c:Nat) (hs0:s<18446744073709551616) (hc:c<64):Pure Tryz.prog 152 [eU s,eI c] (.b (s.testBit c)):=by
 refine mG kZ ?_;have hs:=Sn
 conv=>whnf
 repeat'((first|(apply sq;intro K U)|(apply si;intro A B Y Z)|(apply Y;clear Z B Y A)|(apply U;clear U K)|fail)<;>conv=>whnf)
 refine⟨Int.natCast_nonneg _,?_⟩
 conv=>whnf
 repeat'((first|apply st|(apply Y;clear Z B Y A)|(apply U;clear U K)|refine⟨rfl,?_⟩|fail)<;>conv=>whnf)
 refine AI ?_;rw[KF,V4 hc];have h1:s >>> c<18446744073709551616:=by rw[Nat.shiftRight_eq_div_pow];exact Nat.lt_of_le_of_lt (Nat.div_le_self _ _) hs0
 have h2:bits .and .u64 ((s >>> c:Nat):Int) 1=((s >>> c&&&1:Nat):Int):=K5 h1 (show 1<_ by decide);rw[h2];simp only[Nat.testBit,Nat.and_comm 1];congr 1;rcases Nat.mod_two_eq_zero_or_one (s >>> c)with h|h<;>simp[Nat.and_one_is_mod,h]
def eL (op:Int):Pure Tryz.prog 220 [eI op] (eI (CF op)):=by
 refine kz kZ ?_;have hs:=Sn
 conv=>whnf
 repeat'((first|apply st|(apply sq;intro K U)|(apply si;intro A B Y Z)|(apply Y;clear Z B Y A)|(apply U;clear U K)|refine⟨rfl,?_⟩|(constructor<;>intro hc<;>(try rw[hc])<;>(replace hc:=bp hc))|clear U K)<;>conv=>whnf)
 all_goals exact AI (by simp[CF, *])
def Uv (b:Bool):Pure Tryz.prog 215 [.b b] (eI (if b then 0 else 2)):=by
 refine lA kZ ?_;have hs:=Sn
 conv=>whnf
 repeat'((first|apply st|(apply sq;intro K U)|(apply si;intro A B Y Z)|(apply Y;clear Z B Y A)|(apply U;clear U K)|(constructor<;>intro hc<;>(try rw[hc])<;>(replace hc:=bp hc))|clear U K)<;>conv=>whnf)
 all_goals exact AI (by simp[*])
def IG {S:Type} (g:FuncId) (fi ca:List V) (H:S→List At) (stp:Int→S→Bool×S) (D:Int→S→Prop) (hx:DC Tryz.prog (.f (.func g) fi ca) eI H stp D) (xs:List Int) (f:Bool) (s0:S) (hd:UI stp D xs s0) :
    Bk Tryz.prog 103 [.l (iL xs) f,.f (.func g) fi ca] (H s0) fun r post=>r= .ret (eI (Bo stp xs 0 s0).1)∧post=H (Bo stp xs 0 s0).2:=by
 intro σ hs;refine BJ.fit (by kernel_rfl) fun hf=>?_
 have hxl:=RK hf.1;have hM:=Mx;refine Zy kZ ?_
 conv=>whnf
 repeat'((first|apply st|(apply sq;intro K U)|(apply si;intro A B Y Z)|(apply Y;clear Z B Y A)|(apply U;clear U K)|fail)<;>conv=>whnf)
 refine B2 xs.length (fun k (_:S)=>[(8,eI (A4 k))]) (fun _ s=>H s) (fun k s=>UI stp D (xs.drop k) s∧Bo stp xs 0 s0=Bo stp (xs.drop k) k s) s0 rfl ⟨hd,rfl⟩ hs ?_;clear hs;rintro k s σ hk ⟨hd,hn⟩ hs;have hck:A4 k=k:=AL (by omega);rcases BC xs hk with⟨y,hy,hlt⟩|hke
 ·rw[drop_cons hy]at hn hd
  obtain⟨hd1,hd2⟩:=hd;rw[Bo]at hn
  conv=>whnf
  repeat'((first|apply st|(apply sq;intro K U)|(apply si;intro A B Y Z)|(apply Y;clear Z B Y A)|(apply U;clear U K)|refine⟨rfl,?_⟩|refine ix ?_|(refine CK (fun hc=>?_)<;>(try rw[hc])<;>clear hc)|fail)<;>conv=>whnf)
  refine hx.use hd1 hs ?_;clear hs;intro σ hs
  conv=>whnf
  repeat'((first|apply st|(apply sq;intro K U)|(apply si;intro A B Y Z)|(apply Y;clear Z B Y A)|(apply U;clear U K)|refine⟨rfl,?_⟩|(constructor<;>intro hc<;>(try rw[hc])<;>(replace hc:=bp hc))|clear U K)<;>conv=>whnf)
  ·rw[hc,if_pos rfl]at hn
   rw[hn];exact Ap hs (List.Sublist.refl _) (by rw[hck];exact .refl _) fun σ' hs'=>⟨_,⟨rfl,rfl⟩,hs'⟩
  ·rw[hc,if_neg (by decide)]at hn
   exact⟨hlt,_,rfl,⟨hd2,hn⟩,hs⟩
 ·rw[Ah hke,Bo]at hn
  conv=>whnf
  repeat'((first|apply st|(apply sq;intro K U)|(apply si;intro A B Y Z)|(apply Y;clear Z B Y A)|(apply U;clear U K)|refine⟨rfl,?_⟩|(refine DR (fun hc=>?_)<;>(try rw[hc])<;>clear hc)|clear U K)<;>conv=>whnf)
  rw[hn];exact Ap hs (List.Sublist.refl _) (.refl _) fun σ' hs'=>⟨_,⟨rfl,rfl⟩,hs'⟩
section
variable {S:Type} (g:FuncId) (fi ca:List V) (H:S→List At)
def GU (stp:Int→S→Bool×S) (D:Int→S→Prop) (hx:DC Tryz.prog (.f (.func g) fi ca) eI H stp D) (xs:List Int) (f:Bool) (s0:S) (hd:UI stp D xs s0) :
    Bk Tryz.prog 72 [.l (iL xs) f,.f (.func g) fi ca] (H s0) fun r post=>r= .ret (.b (decide ((Bo stp xs 0 s0).1≥0)))∧post=H (Bo stp xs 0 s0).2:=by
 intro σ hs;refine gF kZ ?_
 conv=>whnf
 repeat'((first|(apply sq;intro K U)|(apply si;intro A B Y Z)|(apply Y;clear Z B Y A)|(apply U;clear U K)|fail)<;>conv=>whnf)
 refine(IG g fi ca H stp D hx xs f s0 hd).use (rest:=[]) (by simpa using hs) ?_;rintro r post σ ⟨rfl,rfl⟩ hs
 conv=>whnf
 repeat'((first|apply st|(apply Y;clear Z B Y A)|(apply U;clear U K)|refine⟨rfl,?_⟩|fail)<;>conv=>whnf)
 exact Ap hs (by simp) (.refl _) fun σ' hs'=>⟨_,⟨rfl,rfl⟩,hs'⟩
def jC (stp:Int→S→Bool×S) (D:Int→S→Prop) (hx:DC Tryz.prog (.f (.func g) fi ca) eI H stp D):DC Tryz.prog (.f (.func 217) [] [.rp [.f (.func g) fi ca]]) eI H (fun y s=>(!(stp y s).1,(stp y s).2)) D:=by
 intro y s hd σ hs;refine Bp ?_;show BJ Tryz.prog 217 ([]++[eI y]++[.rp [.f (.func g) fi ca]]) σ _;refine Zp kZ ?_
 conv=>whnf
 repeat'((first|apply st|(apply sq;intro K U)|(apply si;intro A B Y Z)|(apply Y;clear Z B Y A)|(apply U;clear U K)|fail)<;>conv=>whnf)
 refine hx.use hd hs ?_;clear hs;intro σ hs
 conv=>whnf
 repeat'((first|apply st|(apply Y;clear Z B Y A)|(apply U;clear U K)|fail)<;>conv=>whnf)
 exact Ap hs (List.Sublist.refl _) (.refl _) fun σ' hs'=>⟨rfl,hs'⟩
def Z6 (stp:Int→S→Bool×S) (D:Int→S→Prop) (hx:DC Tryz.prog (.f (.func g) fi ca) eI H stp D) (xs:List Int) (f:Bool) (s0:S) (hd:UI stp D xs s0) :
    Bk Tryz.prog 177 [.l (iL xs) f,.f (.func g) fi ca] (H s0) fun r post=>r= .ret (.b (Cm stp xs s0).1)∧post=H (Cm stp xs s0).2:=by
 intro σ hs;obtain⟨e1,e2⟩:=ME (stp:=stp) xs 0 s0;refine Zt kZ ?_
 conv=>whnf
 repeat'((first|(apply sq;intro K U)|(apply si;intro A B Y Z)|(apply Y;clear Z B Y A)|(apply U;clear U K)|fail)<;>conv=>whnf)
 refine(GU 217 [] [.rp [.f (.func g) fi ca]] H _ D (jC g fi ca H stp D hx) xs f s0 (RZ xs s0 hd)).use (rest:=[]) (by simpa using hs) ?_;rintro r post σ ⟨rfl,rfl⟩ hs;rw[e2];rw[e1]at hs
 conv=>whnf
 repeat'((first|apply st|(apply Y;clear Z B Y A)|(apply U;clear U K)|fail)<;>conv=>whnf)
 exact Ap hs (by simp) (by rw[Bool.not_not];exact .refl _) fun σ' hs'=>⟨_,⟨rfl,rfl⟩,hs'⟩
def R1 (stp:Fact→S→Bool×S) (D:Fact→S→Prop) (hx:DC Tryz.prog (.f (.func g) fi ca) (fun y=> .a (xF y)) H stp D) (xs:List Fact) (f:Bool) (s0:S) (hxl:xs.length≤Af) (hd:UI stp D xs s0) :
    Bk Tryz.prog 253 [.l (facts xs) f,.f (.func g) fi ca] (H s0) fun r post=>r= .ret (eI (Bo stp xs 0 s0).1)∧post=H (Bo stp xs 0 s0).2:=by
 intro σ hs;have hM:=Mx;refine kJ kZ ?_
 conv=>whnf
 repeat'((first|apply st|(apply sq;intro K U)|(apply si;intro A B Y Z)|(apply Y;clear Z B Y A)|(apply U;clear U K)|fail)<;>conv=>whnf)
 refine B2 xs.length (fun k (_:S)=>[(8,eI (A4 k))]) (fun _ s=>H s) (fun k s=>UI stp D (xs.drop k) s∧Bo stp xs 0 s0=Bo stp (xs.drop k) k s) s0 rfl ⟨hd,rfl⟩ hs ?_;clear hs;rintro k s σ hk ⟨hd,hn⟩ hs;have hck:A4 k=k:=AL (by omega);rcases BC xs hk with⟨y,hy,hlt⟩|hke
 ·rw[drop_cons hy]at hn hd
  obtain⟨hd1,hd2⟩:=hd;rw[Bo]at hn
  conv=>whnf
  repeat'((first|apply st|(apply sq;intro K U)|(apply si;intro A B Y Z)|(apply Y;clear Z B Y A)|(apply U;clear U K)|refine⟨rfl,?_⟩|refine⟨kZ,?_⟩|refine Mz ?_|(refine CK (fun hc=>?_)<;>(try rw[hc])<;>clear hc)|fail)<;>conv=>whnf)
  refine hx.use hd1 hs ?_;clear hs;intro σ hs
  conv=>whnf
  repeat'((first|apply st|(apply sq;intro K U)|(apply si;intro A B Y Z)|(apply Y;clear Z B Y A)|(apply U;clear U K)|refine⟨rfl,?_⟩|(constructor<;>intro hc<;>(try rw[hc])<;>(replace hc:=bp hc))|clear U K)<;>conv=>whnf)
  ·rw[hc,if_pos rfl]at hn
   rw[hn];exact Ap hs (List.Sublist.refl _) (by rw[hck];exact .refl _) fun σ' hs'=>⟨_,⟨rfl,rfl⟩,hs'⟩
  ·rw[hc,if_neg (by decide)]at hn
   exact⟨hlt,_,rfl,⟨hd2,hn⟩,hs⟩
 ·rw[Ah hke,Bo]at hn
  conv=>whnf
  repeat'((first|apply st|(apply sq;intro K U)|(apply si;intro A B Y Z)|(apply Y;clear Z B Y A)|(apply U;clear U K)|refine⟨rfl,?_⟩|(refine DR (fun hc=>?_)<;>(try rw[hc])<;>clear hc)|clear U K)<;>conv=>whnf)
  rw[hn];exact Ap hs (List.Sublist.refl _) (.refl _) fun σ' hs'=>⟨_,⟨rfl,rfl⟩,hs'⟩
def Mw (stp:Fact→S→Bool×S) (D:Fact→S→Prop) (hx:DC Tryz.prog (.f (.func g) fi ca) (fun y=> .a (xF y)) H stp D) (xs:List Fact) (f:Bool) (s0:S) (hxl:xs.length≤Af) (hd:UI stp D xs s0) :
    Bk Tryz.prog 218 [.l (facts xs) f,.f (.func g) fi ca] (H s0) fun r post=>r= .ret (.b (decide ((Bo stp xs 0 s0).1≥0)))∧post=H (Bo stp xs 0 s0).2:=by
 intro σ hs;refine k8 kZ ?_
 conv=>whnf
 repeat'((first|(apply sq;intro K U)|(apply si;intro A B Y Z)|(apply Y;clear Z B Y A)|(apply U;clear U K)|fail)<;>conv=>whnf)
 refine(R1 g fi ca H stp D hx xs f s0 hxl hd).use (rest:=[]) (by simpa using hs) ?_;rintro r post σ ⟨rfl,rfl⟩ hs
 conv=>whnf
 repeat'((first|apply st|(apply Y;clear Z B Y A)|(apply U;clear U K)|refine⟨rfl,?_⟩|fail)<;>conv=>whnf)
 exact Ap hs (by simp) (.refl _) fun σ' hs'=>⟨_,⟨rfl,rfl⟩,hs'⟩
def jB (stp:Fact→S→Bool×S) (D:Fact→S→Prop) (hx:DC Tryz.prog (.f (.func g) fi ca) (fun y=> .a (xF y)) H stp D):DC Tryz.prog (.f (.func 219) [] [.rp [.f (.func g) fi ca]]) (fun y=> .a (xF y)) H (fun y s=>(!(stp y s).1,(stp y s).2)) D:=by
 intro y s hd σ hs;refine Bp ?_;show BJ Tryz.prog 219 ([]++[.a (xF y)]++[.rp [.f (.func g) fi ca]]) σ _;refine k7 kZ ?_
 conv=>whnf
 repeat'((first|apply st|(apply sq;intro K U)|(apply si;intro A B Y Z)|(apply Y;clear Z B Y A)|(apply U;clear U K)|refine⟨kZ,?_⟩|fail)<;>conv=>whnf)
 refine hx.use hd hs ?_;clear hs;intro σ hs
 conv=>whnf
 repeat'((first|apply st|(apply Y;clear Z B Y A)|(apply U;clear U K)|fail)<;>conv=>whnf)
 exact Ap hs (List.Sublist.refl _) (.refl _) fun σ' hs'=>⟨rfl,hs'⟩
def Z5 (stp:Fact→S→Bool×S) (D:Fact→S→Prop) (hx:DC Tryz.prog (.f (.func g) fi ca) (fun y=> .a (xF y)) H stp D) (xs:List Fact) (f:Bool) (s0:S) (hxl:xs.length≤Af) (hd:UI stp D xs s0) :
    Bk Tryz.prog 179 [.l (facts xs) f,.f (.func g) fi ca] (H s0) fun r post=>r= .ret (.b (Cm stp xs s0).1)∧post=H (Cm stp xs s0).2:=by
 intro σ hs;obtain⟨e1,e2⟩:=ME (stp:=stp) xs 0 s0;refine lX kZ ?_
 conv=>whnf
 repeat'((first|(apply sq;intro K U)|(apply si;intro A B Y Z)|(apply Y;clear Z B Y A)|(apply U;clear U K)|fail)<;>conv=>whnf)
 refine(Mw 219 [] [.rp [.f (.func g) fi ca]] H _ D (jB g fi ca H stp D hx) xs f s0 hxl (RZ xs s0 hd)).use (rest:=[]) (by simpa using hs) ?_;rintro r post σ ⟨rfl,rfl⟩ hs;rw[e2];rw[e1]at hs
 conv=>whnf
 repeat'((first|apply st|(apply Y;clear Z B Y A)|(apply U;clear U K)|fail)<;>conv=>whnf)
 exact Ap hs (by simp) (by rw[Bool.not_not];exact .refl _) fun σ' hs'=>⟨_,⟨rfl,rfl⟩,hs'⟩
end
abbrev SZ (f:Int→Bool):Int→Unit→Bool×Unit:=fun y _=>(f y,())
def OV {g:FuncId} {fi ca:List V} {f:Int→Bool} {D:Int→Unit→Prop} (h: ∀y,D y ()→Pure Tryz.prog g (fi++[eI y]++ca) (.b (f y))):DC Tryz.prog (.f (.func g) fi ca) eI (fun _=>[]) (SZ f) D:=by
 intro y s hd σ hs;refine Bp ?_;show BJ Tryz.prog g (fi++[eI y]++ca) σ _;refine BJ.mono ((h y hd).use (k:=fun v σ'=>v= .b (f y)∧Sat σ' []) (kp:=fun _ _=>False) ⟨rfl,Sat.nil⟩) ?_;rintro(v|v) σ' hq
 ·obtain⟨rfl,h⟩:=hq
  exact⟨rfl,h⟩
 ·exact hq.elim
def fM {g:FuncId} {fi ca:List V} {f:Int→Bool} {xs:List Int} (b:Bool) (h: ∀y∈xs,Pure Tryz.prog g (fi++[eI y]++ca) (.b (f y))):Pure Tryz.prog 177 [.l (iL xs) b,.f (.func g) fi ca] (.b (xs.all f)):=by
 have:=Z6 g fi ca (fun _=>[]) (SZ f) (fun y _=>y∈xs) (OV fun y hy=>h y hy) xs b () (Gy fun y hy _=>hy);rw[JP]at this;exact Pure.of (BJ.mono (this emp Sat.nil) fun r σ' ⟨post,⟨h1,h2⟩,h3⟩=>h1)
end Go.Gl
