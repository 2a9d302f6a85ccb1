import Derived.Test.YtijbpgdmpejgoaaGreatX10
set_option linter.all false
set_option linter.defProp false
noncomputable section
namespace Go.Gl
open Go.Proofs
attribute [local irreducible] BL A5 Aj AW AN Ai AV AX AO Ah AS AU BA BK Sat Ad BH Al W
abbrev BB:=List Bool×List Bool
def GF (x:Fact×Bool) (t:BB):Option BB:=
 if x.1.op≠2∨x.1.cls=1∨x.1.cls=2 then(if x.2 then some t else none)else
 if x.2 then some (t.1,t.2.set x.1.cls.toNat true)else some (t.1.set x.1.cls.toNat true,t.2)
def EB:List Fact→BB→Option BB
 | [],t=>some t
 | x::r,t=>(GF (A2 x) t).bind (EB r)
def IH (w:AK) (ls:List Fact) (a:Int) (p:List Int) (can:Int→Bool) (s:Int) (t:BB):Option BB:=
 if !ER ls a (p++[s])&& !can s then none else some (if ER ls a (p++[s])then t.1 else t.1.set (CV w s).toNat true,if can s then t.2 else t.2.set (CV w s).toNat true)
def Du (w:AK) (ls:List Fact) (a:Int) (p:List Int) (can:Int→Bool):List Int→BB→Option BB
 | [],t=>some t
 | s::r,t=>(IH w ls a p can s t).bind (Du w ls a p can r)
def Hi (ps:List (List Int)) (c:Nat) (bs:List Bool):List Bool:=if bs.getD c false then(par ps c).foldl (fun b q=>b.set q.toNat true) bs else bs
def B8 (ps:List (List Int)) (n:Nat):Nat→List Bool→List Bool
 | 0,bs=>bs
 | k+1,bs=>Hi ps (n - 1 - k) (B8 ps n k bs)
def G6: ∀(l:List Int) (bs:List Bool),(l.foldl (fun b q=>b.set q.toNat true) bs).length=bs.length
 | [],_=>rfl
 | q::r,bs=>by rw[List.foldl_cons,G6 r,List.length_set]
def Eh (ps:List (List Int)) (n:Nat): ∀(k:Nat) (bs:List Bool),(B8 ps n k bs).length=bs.length
 | 0,_=>rfl
 | k+1,bs=>by
   rw[B8,Hi];split
   ·rw[G6,Eh ps n k bs]
   ·exact Eh ps n k bs
def Sc (w:AK) (t:BB):Option (List Bool):=
 if t.2.getD 0 false then none else
 if(List.range (3+w.parents.length)).any (fun c=>(B8 w.parents (3+w.parents.length) w.parents.length (t.1.set 0 false)).getD c false&&t.2.getD c false)then none else some (B8 w.parents (3+w.parents.length) w.parents.length (t.1.set 0 false))
def tO (w:AK):BB:=(List.replicate (3+w.parents.length) false,List.replicate (3+w.parents.length) false)
def Jq (w:AK) (ls:List Fact) (a:Int) (p:List Int) (can:Int→Bool):Option (List Bool):=
 ((EB (ls.filter (Gs a p)) (tO w)).bind (Du w ls a p can (Bs w.owner.length ls a p))).bind (Sc w)
def pA (o:Option (List Bool)):V:=match o with
 | some m=> .t [.l (bL m) false,.b true]
 | none=> .t [.l [] true,.b false]
def MM: ∀(xs ys:List Fact) (t:BB),EB (xs++ys) t=(EB xs t).bind (EB ys)
 | [],_,_=>rfl
 | x::r,ys,t=>by
   simp only[List.cons_append,EB];cases GF (A2 x) t with
   | none=>rfl
   | some u=>exact MM r ys u
def IB {os:List Fact} {k:Nat} {x:Fact} (hx:os[k]? =some x) (t:BB):EB (os.take (k+1)) t=(EB (os.take k) t).bind (GF (A2 x)):=by
 rw[AQ hx,MM];congr 1;funext u;simp only[EB];cases GF (A2 x) u<;>rfl
def Vc {os:List Fact} (k:Nat) {t:BB} (h:EB (os.take k) t=none):EB os t=none:=by
 rw[←List.take_append_drop k os,MM,h];rfl
def ML {w:AK} {ls:List Fact} {a:Int} {p:List Int} {can:Int→Bool}: ∀(xs ys:List Int) (t:BB),Du w ls a p can (xs++ys) t=(Du w ls a p can xs t).bind (Du w ls a p can ys)
 | [],_,_=>rfl
 | x::r,ys,t=>by
   simp only[List.cons_append,Du];cases IH w ls a p can x t with
   | none=>rfl
   | some u=>exact ML r ys u
def IA {w:AK} {ls:List Fact} {a:Int} {p:List Int} {can:Int→Bool} {os:List Int} {k:Nat} {x:Int} (hx:os[k]? =some x) (t:BB):Du w ls a p can (os.take (k+1)) t=(Du w ls a p can (os.take k) t).bind (IH w ls a p can x):=by
 rw[AQ hx,ML];congr 1;funext u;simp only[Du];cases IH w ls a p can x u<;>rfl
def Vb {w:AK} {ls:List Fact} {a:Int} {p:List Int} {can:Int→Bool} {os:List Int} (k:Nat) {t:BB} (h:Du w ls a p can (os.take k) t=none):Du w ls a p can os t=none:=by
 rw[←List.take_append_drop k os,ML,h];rfl
def JM {n:Nat} {ls:List Fact} {a:Int} {p:List Int} {s:Int} (h:s∈Bs n ls a p):0≤s∧s<n:=by
 have:=(JZ.1 h).1;simp only[Bg,Lf,List.mem_range]at this;obtain⟨m,hm,rfl⟩:=this;exact⟨Int.natCast_nonneg m,by simpa using hm⟩
def Sw (w:AK) (ls:List Fact):Prop:= ∀l∈ls,(A2 l).1.op=2→0≤(A2 l).1.cls∧(A2 l).1.cls<3+w.parents.length
set_option maxHeartbeats 8000000 in
def QS (w : AK) (ls:List Fact) (a:Int) (p:List Int) (c:Bool) (can:Int→Bool) (hokL: ∀l∈ls,GH l) (hln:ls.length≤1000000) (hp:p.length<50) (hw:Ja w) (hcl:Sw w ls) (hcan: ∀s∈Bs w.owner.length ls a p,Pure Tryz.prog 185 [.a (Ge w ls a (p++[s]) c)] (.b (can s))) :
    Pure Tryz.prog 236 [.a (Ge w ls a p c)] (pA (Jq w ls a p can)):=by
 refine Pure.fit (by kernel_rfl) fun hf=>?_
 have⟨h1,h2,h3,h4⟩:=GN hf.1;have hM:=Mx;have hwl:=hw.len;have hwo:=hw.ZI;refine lH kZ ?_;have hs:=Sn;have hfl:=KN (Gs a p) ls;have hok: ∀l∈ls.filter (Gs a p),GH l:=fun l hl=>hokL l (JZ.1 hl).1
 have hcl2:Sw w (ls.filter (Gs a p)):=fun l hl=>hcl l (JZ.1 hl).1
 have hfl2:(Bs w.owner.length ls a p).length≤w.owner.length:=by
  have:=KN (fun s=>ls.any (V3 a p s)) (Bg w.owner.length);rw[DQ]at this;exact this
 conv=>whnf
 repeat'((first|apply st|(apply sq;intro K U)|(apply si;intro A B Y Z)|(apply Y;clear Z B Y A)|(apply U;clear U K)|refine⟨rfl,?_⟩|fail)<;>conv=>whnf)
 rw[show IntKind.i64.wrap (3+((Ej w.parents).length:Nat))=((3+w.parents.length:Nat):Int) by rw[BD,wrap64 (by omega) (by omega)];omega];refine vM hs (by omega) fun v1 σ hs hv=>?_
 obtain⟨id1,rfl⟩:=hv
 conv=>whnf
 repeat'((first|apply st|(apply sq;intro K U)|(apply si;intro A B Y Z)|(apply Y;clear Z B Y A)|(apply U;clear U K)|refine⟨rfl,?_⟩|fail)<;>conv=>whnf)
 rw[show IntKind.i64.wrap (3+((Ej w.parents).length:Nat))=((3+w.parents.length:Nat):Int) by rw[BD,wrap64 (by omega) (by omega)];omega];refine vM hs (by omega) fun v2 σ hs hv=>?_
 obtain⟨id2,rfl⟩:=hv
 conv=>whnf
 repeat'((first|apply st|(apply sq;intro K U)|(apply si;intro A B Y Z)|(apply Y;clear Z B Y A)|(apply U;clear U K)|refine⟨kZ,?_⟩|refine Pure.use (ZU _ _ _ _ _ hokL hln) ?_|fail)<;>conv=>whnf)
 generalize hos:ls.filter (Gs a p)=os at *;have hV:Jq w ls a p can=((EB os (tO w)).bind (Du w ls a p can (Bs w.owner.length ls a p))).bind (Sc w):=by rw[Jq,hos]
 refine B4 os.length (fun k (_:BB)=>[(34,eI (A3 k))]) (fun k t=>[.own (.sl id1 (3+w.parents.length) (3+w.parents.length)) 1 (bL t.1),.own (.sl id2 (3+w.parents.length) (3+w.parents.length)) 1 (bL t.2)]) (fun k t=>EB (os.take k) (tO w)=some t∧t.1.length=3+w.parents.length∧t.2.length=3+w.parents.length) (tO w) rfl ⟨rfl,by simp[tO],by simp[tO]⟩ (by simpa[tO,bL]using hs) ?_;clear hs;rintro k ⟨CE,no⟩ σ hk ⟨hno,hl1,hl2⟩ hs;simp only at hl1 hl2;dsimp only at hs
 conv=>whnf
 repeat'((first|apply st|(apply sq;intro K U)|(apply si;intro A B Y Z)|(apply Y;clear Z B Y A)|(apply U;clear U K)|refine⟨rfl,?_⟩|refine⟨kZ,?_⟩|refine Lg ?_|refine ld ?_|refine sn fun σ hs=>?_|(refine fc (fun x hx hlt hc=>?_) (fun hk hc=>?_)<;>(try rw[hc])<;>clear hc)|refine Pure.use (HU _ (hok _ (B1 (by assumption)))) ?_|refine Pure.use (TC _ _ _ _ _ hokL (by omega)) ?_|(constructor<;>intro hc<;>(try rw[hc])<;>(replace hc:=bp hc))|(intro nn hnn;generalize hg:A6 _ nn _=σ;refine al hg fun hs=>?_;clear hg)|clear U K)<;>conv=>whnf)
 all_goals try
  (have hcx:=hcl2 _ (B1 hx) (by assumption)
   conv=>whnf
   repeat'((first|(apply si;intro A B Y Z)|(apply Y;clear Z B Y A)|(apply U;clear U K)|refine⟨rfl,?_⟩|refine dH fun σ hs=>?_|refine oi ?_|clear U K)<;>conv=>whnf)
  )
 all_goals first
  | (refine AI ?_
     have:EB os (tO w)=none:=Vc (k+1) (by rw[IB hx,hno];simp[GF, *]);rw[hV,this]
     rfl)
  | exact⟨hlt,(CE,no),rfl,⟨by rw[IB hx,hno];simp[GF, *],hl1,hl2⟩,hs.take 2⟩
  | exact⟨hlt,(CE.set (A2 x).1.cls.toNat true,no),rfl,⟨by rw[IB hx,hno];simp[GF, *],by simpa using hl1,hl2⟩,hs.take 2⟩
  | exact⟨hlt,(CE,no.set (A2 x).1.cls.toNat true),rfl,⟨by rw[IB hx,hno];simp[GF, *],hl1,by simpa using hl2⟩,hs.take 2⟩
  | skip
 rw[Au (by assumption)]at hno;have hV2:Jq w ls a p can=(Du w ls a p can (Bs w.owner.length ls a p) (CE,no)).bind (Sc w):=by rw[hV,hno];rfl
 clear hno;generalize hsl:Bs w.owner.length ls a p=sl at *;have hsi: ∀s∈sl,0≤s∧s<w.owner.length:=fun s h=>JM (by rw[hsl];exact h)
 refine B4 sl.length (fun k (_:BB)=>[(73,eI (A3 k))]) (fun k t=>[.own (.sl id1 (3+w.parents.length) (3+w.parents.length)) 1 (bL t.1),.own (.sl id2 (3+w.parents.length) (3+w.parents.length)) 1 (bL t.2)]) (fun k t=>Du w ls a p can (sl.take k) (CE,no)=some t∧t.1.length=3+w.parents.length∧t.2.length=3+w.parents.length) (CE,no) rfl ⟨rfl,hl1,hl2⟩ hs ?_;clear hs hl1 hl2;rintro k ⟨m1,n1⟩ σ hk ⟨hno,hl1,hl2⟩ hs;simp only at hl1 hl2;dsimp only at hs;rcases BE sl hk with⟨x,hx,hlt⟩|hke
 ·have hxm:=B1 hx
  obtain⟨hx0,hx1⟩:=hsi x hxm
  have hox:w.owner[x.toNat]? =some (CV w x):=by
   rw[CV,DK,Ct (by omega)];rfl
  have ho:=hw.own _ (B1 hox);have hcx:=hcan x hxm;have hbx:=XK w ls a (p++[x]) c hokL;cases Z:ER ls a (p++[x])<;>cases hC:can x<;>rw[Z]at hbx<;>rw[hC]at hcx
  ·conv=>whnf
   repeat'((first|apply st|(apply sq;intro K U)|(apply si;intro A B Y Z)|(apply Y;clear Z B Y A)|(apply U;clear U K)|apply dr|refine rk ?_ ?_|exact fun s e=>by cases e;rfl|refine⟨rfl,?_⟩|refine⟨kZ,?_⟩|refine ix ?_|refine ld ?_|refine sn fun σ hs=>?_|refine E2 ?_|(refine CA (fun hc=>?_)<;>(try rw[hc])<;>clear hc)|refine Pure.use (JF _ _ _ _ _ _ (by omega)) ?_|(intro nn hnn;generalize hg:A6 _ nn _=σ;refine al hg fun hs=>?_;clear hg)|refine Pure.use (by assumption) ?_|clear U K)<;>conv=>whnf)
   refine AI ?_;have:Du w ls a p can sl (CE,no)=none:=Vb (k+1) (by rw[IA hx,hno];simp[IH, *]);rw[hV2,this];rfl
  ·conv=>whnf
   repeat'((first|apply st|(apply sq;intro K U)|(apply si;intro A B Y Z)|(apply Y;clear Z B Y A)|(apply U;clear U K)|apply dr|refine rk ?_ ?_|exact fun s e=>by cases e;rfl|refine⟨rfl,?_⟩|refine⟨kZ,?_⟩|refine ix ?_|refine FE ?_|refine dH fun σ hs=>?_|refine ld ?_|refine sn fun σ hs=>?_|refine oi ?_|refine E2 ?_|refine D2 ?_|(refine CA (fun hc=>?_)<;>(try rw[hc])<;>clear hc)|refine Pure.use (JF _ _ _ _ _ _ (by omega)) ?_|(intro nn hnn;generalize hg:A6 _ nn _=σ;refine al hg fun hs=>?_;clear hg)|refine Pure.use (by assumption) ?_|clear U K)<;>conv=>whnf)
   exact⟨hlt,(m1.set (CV w x).toNat true,n1),rfl,⟨by rw[IA hx,hno];simp[IH, *],by simpa using hl1,hl2⟩,hs.take 2⟩
  ·conv=>whnf
   repeat'((first|apply st|(apply sq;intro K U)|(apply si;intro A B Y Z)|(apply Y;clear Z B Y A)|(apply U;clear U K)|apply dr|refine rk ?_ ?_|exact fun s e=>by cases e;rfl|refine⟨rfl,?_⟩|refine⟨kZ,?_⟩|refine ix ?_|refine FE ?_|refine dH fun σ hs=>?_|refine ld ?_|refine sn fun σ hs=>?_|refine oi ?_|refine E2 ?_|refine D2 ?_|(refine CA (fun hc=>?_)<;>(try rw[hc])<;>clear hc)|refine Pure.use (JF _ _ _ _ _ _ (by omega)) ?_|(intro nn hnn;generalize hg:A6 _ nn _=σ;refine al hg fun hs=>?_;clear hg)|refine Pure.use (by assumption) ?_|clear U K)<;>conv=>whnf)
   exact⟨hlt,(m1,n1.set (CV w x).toNat true),rfl,⟨by rw[IA hx,hno];simp[IH, *],hl1,by simpa using hl2⟩,hs.take 2⟩
  ·conv=>whnf
   repeat'((first|apply st|(apply sq;intro K U)|(apply si;intro A B Y Z)|(apply Y;clear Z B Y A)|(apply U;clear U K)|apply dr|refine rk ?_ ?_|exact fun s e=>by cases e;rfl|refine⟨rfl,?_⟩|refine⟨kZ,?_⟩|refine ix ?_|refine ld ?_|refine sn fun σ hs=>?_|refine D2 ?_|(refine CA (fun hc=>?_)<;>(try rw[hc])<;>clear hc)|refine Pure.use (JF _ _ _ _ _ _ (by omega)) ?_|(intro nn hnn;generalize hg:A6 _ nn _=σ;refine al hg fun hs=>?_;clear hg)|refine Pure.use (by assumption) ?_|clear U K)<;>conv=>whnf)
   exact⟨hlt,(m1,n1),rfl,⟨by rw[IA hx,hno];simp[IH, *],hl1,hl2⟩,hs.take 2⟩
 ·rw [Au hke]at hno
  have hV3:Jq w ls a p can=Sc w (m1,n1):=by rw[hV2,hno];rfl
  have hrow: ∀l∈w.parents,l.length≤Ac:=(RU (g:=false) (by have:=hf.1;simp only[Ge,G4,Dc]at this;exact this.1)).2
  have hen:Jq w ls a p can=if n1.getD 0 false then none else
   if(List.range (3+w.parents.length)).any (fun c=>(B8 w.parents (3+w.parents.length) w.parents.length (m1.set 0 false)).getD c false&&n1.getD c false)then none else some (B8 w.parents (3+w.parents.length) w.parents.length (m1.set 0 false)):=hV3.trans rfl
  clear hcan hcl hV hV2 hV3 hno hos hsl hcl2 hok;obtain⟨n0,hn0⟩: ∃b,n1[0]? =some b:=⟨_,Ct (by omega)⟩
  have hn0':n1[Int.toNat 0]? =some n0:=hn0;have hng:n1.getD 0 false=n0:=by rw[DK,hn0];rfl
  rw[hng]at hen;cases n0
  ·generalize hms:m1.set 0 false=ms at *
   have hl3:ms.length=3+w.parents.length:=by rw[←hms,List.length_set];exact hl1
   conv=>whnf
   repeat'((first|apply st|(apply sq;intro K U)|(apply si;intro A B Y Z)|(apply Y;clear Z B Y A)|(apply U;clear U K)|refine⟨rfl,?_⟩|refine lo ?_|refine dH fun σ hs=>?_|refine oi ?_|refine NX ?_|(refine DU (fun hc=>?_)<;>(try rw[hc])<;>clear hc)|clear U K)<;>conv=>whnf)
   replace hs:Sat σ [.own (.sl id1 (3+w.parents.length) (3+w.parents.length)) 1 (bL ms),.own (.sl id2 (3+w.parents.length) (3+w.parents.length)) 1 (bL n1)]:=by rw[←hms];exact hs
   rw[show IntKind.i64.wrap (((bL (m1.set (Int.toNat 0) false)).length:Nat) - 1)=((2+w.parents.length:Nat):Int) by rw[BD,List.length_set,hl1,wrap64 (by omega) (by omega)];omega];refine B4 w.parents.length (fun k (_:Unit)=>[(15,eI (M3 ((2+w.parents.length:Nat):Int) k))]) (fun k _=>[.own (.sl id1 (3+w.parents.length) (3+w.parents.length)) 1 (bL (B8 w.parents (3+w.parents.length) k ms)),.own (.sl id2 (3+w.parents.length) (3+w.parents.length)) 1 (bL n1)]) (fun k _=>True) () rfl trivial hs ?_;clear hs;rintro k - σ hk - hs;have hd:M3 ((2+w.parents.length:Nat):Int) k=((2+w.parents.length:Nat):Int) - k:=Rz (by omega) (by omega);have hcl:=Eh w.parents (3+w.parents.length) k ms;rcases Nat.lt_or_ge k w.parents.length with hlt|hge
   ·have hpw:w.parents[(IntKind.i64.wrap (M3 ((2+w.parents.length:Nat):Int) k - 3)).toNat]? =some (par w.parents (3+w.parents.length - 1 - k)):=by
     rw[hd,wrap64 (by omega) (by omega),show(((2+w.parents.length:Nat):Int) - k - 3).toNat=(3+w.parents.length - 1 - k) - 3 by omega];exact Zm (by omega) (by omega)
    have hwi:0≤IntKind.i64.wrap (M3 ((2+w.parents.length:Nat):Int) k - 3):=by rw[hd,wrap64 (by omega) (by omega)];omega
    have hpl:=hrow _ (B1 hpw);have hpr:=fun q=>hw.ord (3+w.parents.length - 1 - k) q
    generalize hpe:par w.parents (3+w.parents.length - 1 - k)=pr at *;generalize hce:B8 w.parents (3+w.parents.length) k ms=ce at *;have hcs:B8 w.parents (3+w.parents.length) (k+1) ms=if ce.getD (3+w.parents.length - 1 - k) false then pr.foldl (fun b q=>b.set q.toNat true) ce else ce:=by rw[B8,Hi,hce,hpe]
    conv=>whnf
    repeat'((first|apply st|(apply sq;intro K U)|(apply si;intro A B Y Z)|(apply Y;clear Z B Y A)|(apply U;clear U K)|refine⟨rfl,?_⟩|refine FE ?_|refine oi ?_|refine ol fun x hx=>?_|(constructor<;>intro hc<;>(try rw[hc])<;>(replace hc:=bp hc)<;>try(exfalso;omega))|clear U K)<;>conv=>whnf)
    ·rw[show(M3 ((2+w.parents.length:Nat):Int) k).toNat=3+w.parents.length - 1 - k by rw[hd];omega]at hx
     rw[DK,hx,hc]at hcs;simp only[Option.getD_some,if_true]at hcs;refine B4 pr.length (fun j (_:Unit)=>[(135,eI (A3 j))]) (fun j _=>[.own (.sl id1 (3+w.parents.length) (3+w.parents.length)) 1 (bL ((pr.take j).foldl (fun b q=>b.set q.toNat true) ce)),.own (.sl id2 (3+w.parents.length) (3+w.parents.length)) 1 (bL n1)]) (fun _ _=>True) () rfl trivial hs ?_;clear hs hx;rintro j - σ hj - hs;have hfl:=G6 (pr.take j) ce;rcases BE pr hj with⟨q,hq,hjlt⟩|hje
     ·have hqr:=hpr q (B1 hq)
      conv=>whnf
      repeat'((first|apply st|(apply sq;intro K U)|(apply si;intro A B Y Z)|(apply Y;clear Z B Y A)|(apply U;clear U K)|refine⟨rfl,?_⟩|refine ix ?_|refine dH fun σ hs=>?_|refine oi ?_|(refine CA (fun hc=>?_)<;>(try rw[hc])<;>clear hc)|clear U K)<;>conv=>whnf)
      exact⟨hjlt,(),rfl,trivial,by rw[AQ hq,List.foldl_append];exact hs⟩
     ·conv=>whnf
      repeat'((first|apply st|(apply sq;intro K U)|(apply si;intro A B Y Z)|(apply Y;clear Z B Y A)|(apply U;clear U K)|refine⟨rfl,?_⟩|(refine DU (fun hc=>?_)<;>(try rw[hc])<;>clear hc)|clear U K)<;>conv=>whnf)
      rw[Au hje]at hs;exact⟨hlt,(),rfl,trivial,by rw[hcs];exact hs⟩
    ·rw[show(M3 ((2+w.parents.length:Nat):Int) k).toNat=3+w.parents.length - 1 - k by rw[hd];omega]at hx
     rw[DK,hx,hc]at hcs;simp only[Option.getD_some,Lb,if_false]at hcs;exact⟨hlt,(),rfl,trivial,by rw[hcs];exact hs⟩
   ·have hke2:k=w.parents.length:=by omega
    rw[hke2]at hs hcl;generalize hme:B8 w.parents (3+w.parents.length) w.parents.length ms=me at *
    conv=>whnf
    repeat'((first|apply st|(apply sq;intro K U)|(apply si;intro A B Y Z)|(apply Y;clear Z B Y A)|(apply U;clear U K)|refine⟨rfl,?_⟩|refine lo ?_|(constructor<;>intro hc<;>(try rw[hc])<;>(replace hc:=bp hc)<;>try(exfalso;omega))|clear U K)<;>conv=>whnf)
    refine B4 me.length (fun j (_:Unit)=>[(145,eI (A3 j))]) (fun _ _=>[.own (.sl id1 (3+w.parents.length) (3+w.parents.length)) 1 (bL me),.own (.sl id2 (3+w.parents.length) (3+w.parents.length)) 1 (bL n1)]) (fun j _=>Jq w ls a p can=if((List.range (3+w.parents.length)).drop j).any (fun c=>me.getD c false&&n1.getD c false)then none else some me) () rfl hen hs ?_;clear hs hen;rintro j - σ hj hn hs;rcases BE me hj with⟨x,hx,hjlt⟩|hje
    ·obtain⟨y,hy⟩: ∃y,n1[j]? =some y:=⟨_,Ct (by omega)⟩
     have hrg:(List.range (3+w.parents.length))[j]? =some j:=by rw[List.getElem?_range (by omega)]
     rw[drop_cons hrg,Q7,DK,DK,hx,hy]at hn;cases x<;>cases y<;>simp only[Option.getD_some,Bool.and_true,Bool.and_false,Bool.false_or,Bool.true_or,if_true]at hn
     ·conv=>whnf
      repeat'((first|apply st|(apply sq;intro K U)|(apply si;intro A B Y Z)|(apply Y;clear Z B Y A)|(apply U;clear U K)|refine⟨rfl,?_⟩|refine oc ?_|refine NX ?_|(refine CA (fun hc=>?_)<;>(try rw[hc])<;>clear hc)|clear U K)<;>conv=>whnf)
      exact⟨hjlt,(),rfl,hn,hs⟩
     ·conv=>whnf
      repeat'((first|apply st|(apply sq;intro K U)|(apply si;intro A B Y Z)|(apply Y;clear Z B Y A)|(apply U;clear U K)|refine⟨rfl,?_⟩|refine oc ?_|refine NX ?_|(refine CA (fun hc=>?_)<;>(try rw[hc])<;>clear hc)|clear U K)<;>conv=>whnf)
      exact⟨hjlt,(),rfl,hn,hs⟩
     ·conv=>whnf
      repeat'((first|apply st|(apply sq;intro K U)|(apply si;intro A B Y Z)|(apply Y;clear Z B Y A)|(apply U;clear U K)|refine⟨rfl,?_⟩|refine oc ?_|refine NX ?_|refine D2 ?_|(refine CA (fun hc=>?_)<;>(try rw[hc])<;>clear hc)|clear U K)<;>conv=>whnf)
      exact⟨hjlt,(),rfl,hn,hs⟩
     ·conv=>whnf
      repeat'((first|apply st|(apply sq;intro K U)|(apply si;intro A B Y Z)|(apply Y;clear Z B Y A)|(apply U;clear U K)|refine⟨rfl,?_⟩|refine oc ?_|refine NX ?_|refine E2 ?_|(refine CA (fun hc=>?_)<;>(try rw[hc])<;>clear hc)|clear U K)<;>conv=>whnf)
      exact AI (by rw[hn];rfl)
    ·rw[List.drop_of_length_le (by rw[vD];omega)]at hn
     simp only[List.any_nil,Lb,if_false]at hn
     conv=>whnf
     repeat'((first|apply st|(apply sq;intro K U)|(apply si;intro A B Y Z)|(apply Y;clear Z B Y A)|(apply U;clear U K)|refine⟨rfl,?_⟩|(refine DU (fun hc=>?_)<;>(try rw[hc])<;>clear hc)|clear U K)<;>conv=>whnf)
     rw[hn];exact BO (.t (.cons (hs.MV 0 rfl) (.cons (.refl _) .nil)))
  ·conv=>whnf
   repeat'((first|apply st|(apply sq;intro K U)|(apply si;intro A B Y Z)|(apply Y;clear Z B Y A)|(apply U;clear U K)|refine⟨rfl,?_⟩|refine dH fun σ hs=>?_|refine oi ?_|refine NX ?_|(refine DU (fun hc=>?_)<;>(try rw[hc])<;>clear hc)|clear U K)<;>conv=>whnf)
   exact AI (by rw[hen];rfl)
def KY (w:AK) (ls:List Fact) (a:Int):Nat→List Int→Bool
 | 0,p=>((Ie ls a p).isSome&&FJ w.owner.length ls a p)||(HL w.owner.length ls a p||(Jq w ls a p fun _=>false).isSome)
 | d+1,p=>((Ie ls a p).isSome&&FJ w.owner.length ls a p)||(HL w.owner.length ls a p||(Jq w ls a p fun s=>KY w ls a d (p++[s])).isSome)
def RM (ls:List Fact) (n:Nat):Prop:= ∀l∈ls,(A2 l).1.path.length≤n
def MA {n m:Nat} {ls:List Fact} {a:Int} {p:List Int} (h:RM ls m) (hp:m≤p.length):Bs n ls a p= []:=by
 rw[Bs,List.filter_eq_nil_iff];intro s _ hs;rw[JY]at hs;obtain⟨l,hl,hg⟩:=hs;have:=h l hl;simp only[V3,Bx,BZ,CY,PR,List.length_singleton]at hg;omega
def Ws {n:Nat} {ls:List Fact} {a:Int} {p:List Int}:Xc n ls a p= .t [eI ((Ie ls a p).getD 0),.b ((Ie ls a p).isSome&&FJ n ls a p)]:=by
 unfold Xc;cases Ie ls a p<;>rfl
def Wi (o:Option (List Bool)):pA o= .t [.l (bL (o.getD [])) o.isNone,.b o.isSome]:=by
 cases o<;>rfl
def oH (w:AK) (ls:List Fact) (a:Int) (hokL: ∀l∈ls,GH l) (hln:ls.length≤1000000) (hw:Ja w) (hcl:Sw w ls) (hsm:Jw ls) (hsh:RM ls 2): ∀(d:Nat) (p:List Int),p.length+d=2→Pure Tryz.prog 185 [.a (Ge w ls a p false)] (.b (KY w ls a d p)):=by
 intro d
 induction d with
 | zero=>
   intro p hp;have hI:=O6 w ls a p false hokL hln (by omega) hsm;rw[Ws]at hI;have hN:=Wm w ls a p false hokL hln (by omega);have hO:=QS w ls a p false (fun _=>false) hokL hln (by omega) hw hcl (by rw[MA hsh (by omega)];intro s hs;cases hs);rw[Wi]at hO;refine Z7 kZ ?_;have hs:=Sn;rw[KY];cases Y:(Ie ls a p).isSome&&FJ w.owner.length ls a p<;>cases Z:HL w.owner.length ls a p<;>rw[Y]at hI<;>rw[Z]at hN
   all_goals
    conv=>whnf
    repeat'((first|apply st|(apply sq;intro K U)|(apply si;intro A B Y Z)|(apply Y;clear Z B Y A)|(apply U;clear U K)|refine⟨kZ,?_⟩|refine E2 ?_|refine D2 ?_|refine hI.use ?_|refine hN.use ?_|refine hO.use ?_|clear U K)<;>conv=>whnf)
   all_goals exact AI (by simp)
 | succ d ih=>
   intro p hp;have hI:=O6 w ls a p false hokL hln (by omega) hsm;rw[Ws]at hI;have hN:=Wm w ls a p false hokL hln (by omega);have hO:=QS w ls a p false (fun s=>KY w ls a d (p++[s])) hokL hln (by omega) hw hcl (fun s hs=>ih (p++[s]) (by simp;omega));rw[Wi]at hO;refine Z7 kZ ?_;have hs:=Sn;rw[KY];cases Y:(Ie ls a p).isSome&&FJ w.owner.length ls a p<;>cases Z:HL w.owner.length ls a p<;>rw[Y]at hI<;>rw[Z]at hN
   all_goals
    conv=>whnf
    repeat'((first|apply st|(apply sq;intro K U)|(apply si;intro A B Y Z)|(apply Y;clear Z B Y A)|(apply U;clear U K)|refine⟨kZ,?_⟩|refine E2 ?_|refine D2 ?_|refine hI.use ?_|refine hN.use ?_|refine hO.use ?_|clear U K)<;>conv=>whnf)
   all_goals exact AI (by simp)
def Gv (w:AK) (ls:List Fact):Bool:=(Bg 3).all fun a=>KY w ls a 2 []
def Tu (w:AK) (ls:List Fact) (hokL: ∀l∈ls,GH l) (hln:ls.length≤1000000) (hw:Ja w) (hcl:Sw w ls) (hsm:Jw ls) (hsh:RM ls 2):Pure Tryz.prog 145 [.a (Aq w),.l (facts ls) false] (.b (Gv w ls)):=by
 have hM:=Mx;refine mw kZ ?_;have hs:=Sn
 conv=>whnf
 repeat'((first|apply st|(apply sq;intro K U)|(apply si;intro A B Y Z)|(apply Y;clear Z B Y A)|(apply U;clear U K)|fail)<;>conv=>whnf)
 refine B4 3 (fun k (_:Unit)=>[(5,eI (A3 k))]) (fun _ _=>[]) (fun k _=>Gv w ls=((Bg 3).drop k).all fun a=>KY w ls a 2 []) () rfl rfl hs ?_;clear hs;rintro k - σ hk hn hs;have hck:A3 k=k:=AL (by omega);rcases Nat.lt_or_ge k 3 with hlt|hge
 ·have hrk:(Bg 3)[k]? =some (A3 k):=by
   rw[hck];rcases k with _|_|_|k
   ·rfl
   ·rfl
   ·rfl
   ·omega
  rw[drop_cons hrk,MU]at hn
  conv=>whnf
  repeat'((first|apply st|(apply sq;intro K U)|(apply si;intro A B Y Z)|(apply Y;clear Z B Y A)|(apply U;clear U K)|refine⟨rfl,?_⟩|refine⟨kZ,?_⟩|refine ld ?_|refine sn fun σ hs=>?_|refine Pure.Xa (oH w ls (A3 k) hokL hln hw hcl hsm hsh 2 [] rfl) (.cons (.a (.cons (.refl _) (.cons (.refl _) (.cons (.refl _) (.cons (.refl _) (.cons CI (.cons (.refl _) .nil))))))) .nil) rfl ?_|(constructor<;>intro hc<;>(try rw[hc])<;>(replace hc:=bp hc)<;>(try simp(disch:=omega) only[BD,wrap64,AL]at hc)<;>try(exfalso;omega))|(intro nn hnn;generalize hg:A6 _ nn _=σ;refine al hg fun hs=>?_;clear hg)|clear U K)<;>conv=>whnf)
  ·exact AI (by rw[hn,hck,hc];rfl)
  ·exact⟨hlt,(),rfl,by rw[hn,hck,hc];rfl,hs.take 0⟩
 ·rw[List.drop_of_length_le (by rw[DQ];omega)]at hn
  conv=>whnf
  repeat'((first|apply st|(apply sq;intro K U)|(apply si;intro A B Y Z)|(apply Y;clear Z B Y A)|(apply U;clear U K)|refine⟨rfl,?_⟩|(constructor<;>intro hc<;>(try rw[hc])<;>(replace hc:=bp hc)<;>(try simp(disch:=omega) only[BD,wrap64,AL]at hc)<;>try(exfalso;omega))|clear U K)<;>conv=>whnf)
  exact AI (by rw[hn];rfl)
def Rw {b:Nat} {σ:AH} {l:List At} (h:Sat σ l) (i j:Nat) {v u:V} {sz:Nat} {es ys:List (List V)} {K:V→AH→Prop} (hi:l[i]? =some (.own v sz es)) (hj:l[j]? =some (.own u sz ys)) (hl:es.length+ys.length≤Ac∧(es.length+ys.length)*b≤140737488355328) (hys: ∀e∈ys,e.length=sz) (ho: ∀e∈ys,∀v∈e,De v=true)
    (hk: ∀v' σ',Sat σ' (l.set i (.own v' sz (es++ys)))→K v' σ'):AN b σ sz v u K:=by
 have Y:AN b σ sz v (.l ys true) K:=hAppend h i hi hl hys ho hk;rcases h.get hj with⟨rfl,hel⟩|⟨n,cap,rfl,hn⟩
 ·exact Y
 ·unfold AN at Y ⊢
  simp only[rowsOf]at Y ⊢;rw[hn];refine⟨rfl,JU _,?_⟩;rw[List.take_length];exact Y.2
def CX (a:List Fact):List Fact→List Fact
 | []=>a
 | x::r=>CX (if a.any (Fc x)then a else a++[x]) r
def O4 (a:List Fact): ∀(b:List Fact) (x:Fact),CX a (b++[x])=if(CX a b).any (Fc x)then CX a b else CX a b++[x]:=by
 intro b
 induction b generalizing a with
 | nil=>intro x;rfl
 | cons y r ih=>intro x;simp only[List.cons_append,CX];exact ih _ x
def MJ (a:List Fact): ∀(b:List Fact),(CX a b).length≤a.length+b.length:=by
 intro b
 induction b generalizing a with
 | nil=>simp[CX]
 | cons y r ih=>
   simp only[CX,La];refine Nat.le_trans (ih _) ?_;split
   ·omega
   ·simp;omega
def QZ (a:List Fact): ∀(b:List Fact) (x:Fact),x∈CX a b→x∈a∨x∈b:=by
 intro b
 induction b generalizing a with
 | nil=>intro x hx;exact .inl hx
 | cons y r ih=>
   intro x hx;simp only[CX]at hx;rcases ih _ x hx with h|h
   ·split at h
    ·exact .inl h
    ·rcases Fo.1 h with h|h
     ·exact .inl h
     ·rw[KM.1 h];exact .inr (.head _)
   ·exact .inr (.tail _ h)
def YD (a b:List Fact) (f g:Bool) (hl:a.length+b.length<1000000):Pure Tryz.prog 184 [.l (facts a) f,.l (facts b) g] (.l (facts (CX a b)) false):=by
 have hM:=Mx;refine mD kZ ?_;have hs:=Sn
 conv=>whnf
 repeat'((first|(apply sq;intro K U)|(apply si;intro A B Y Z)|(apply Y;clear Z B Y A)|(apply U;clear U K)|fail)<;>conv=>whnf)
 replace hs:=EM hs 6;refine HN hs 0 (xs:=[]) (ys:=a) rfl (by simp;omega) J0 fun v σ hs=>?_
 conv=>whnf
 repeat'((first|apply st|(apply sq;intro K U)|(apply si;intro A B Y Z)|(apply Y;clear Z B Y A)|(apply U;clear U K)|fail)<;>conv=>whnf)
 refine B4 b.length (fun k v=>[(5,v),(15,eI (A3 k))]) (fun k v=>[.own v 6 (facts (CX a (b.take k)))]) (fun _ _=>True) v rfl trivial hs ?_;clear hs;rintro k v σ hk - hs;have hml:=MJ a (b.take k);rw[LZ]at hml;rcases BE b hk with⟨x,hx,hlt⟩|hke
 ·have hsn:=O4 a (b.take k) x
  rw[←AQ hx]at hsn;generalize CX a (b.take k)=m at *
  conv=>whnf
  repeat'((first|apply st|(apply sq;intro K U)|(apply si;intro A B Y Z)|(apply Y;clear Z B Y A)|(apply U;clear U K)|refine⟨rfl,?_⟩|refine⟨kZ,?_⟩|refine Lg ?_|refine lo ?_|refine sn fun σ hs=>?_|(refine CA (fun hc=>?_)<;>(try rw[hc])<;>clear hc)|(intro nn hnn;generalize hg:A6 _ nn _=σ;refine al hg fun hs=>?_;clear hg)|fail)<;>conv=>whnf)
  refine B4 m.length (fun j t=>[(8,.b t),(21,eI (A3 j))]) (fun j t=>[.own v 6 (facts m),.obj nn (.cs (xF x))]) (fun j t=>t=(m.take j).any (Fc x)) false rfl (by simp) hs ?_;clear hs;rintro j t σ hj ht hs;rcases BE m hj with⟨y,hy,hjlt⟩|hje
  ·cases t
   ·conv=>whnf
    repeat'((first|apply st|(apply sq;intro K U)|(apply si;intro A B Y Z)|(apply Y;clear Z B Y A)|(apply U;clear U K)|refine⟨rfl,?_⟩|refine⟨kZ,?_⟩|refine ld ?_|refine sn fun σ hs=>?_|refine oc ?_|refine o9 ?_|(refine CA (fun hc=>?_)<;>(try rw[hc])<;>clear hc)|refine Pure.use (dw _ _) ?_|(intro nn hnn;generalize hg:A6 _ nn _=σ;refine al hg fun hs=>?_;clear hg)|clear U K)<;>conv=>whnf)
    exact⟨hjlt,_,rfl,by rw[AQ hy,List.any_append,←ht];simp,hs.take 2⟩
   ·conv=>whnf
    repeat'((first|apply st|(apply sq;intro K U)|(apply si;intro A B Y Z)|(apply Y;clear Z B Y A)|(apply U;clear U K)|refine⟨rfl,?_⟩|refine⟨kZ,?_⟩|refine sn fun σ hs=>?_|refine oc ?_|refine o9 ?_|(refine CA (fun hc=>?_)<;>(try rw[hc])<;>clear hc)|(intro nn hnn;generalize hg:A6 _ nn _=σ;refine al hg fun hs=>?_;clear hg)|clear U K)<;>conv=>whnf)
    exact⟨hjlt,true,rfl,by rw[AQ hy,List.any_append,←ht];simp,hs.take 2⟩
  ·rw[Au hje]at ht
   subst ht
   conv=>whnf
   repeat'((first|apply st|(apply sq;intro K U)|(apply si;intro A B Y Z)|(apply Y;clear Z B Y A)|(apply U;clear U K)|refine⟨rfl,?_⟩|refine⟨kZ,?_⟩|refine ld ?_|refine xg fun v σ hs hsl=>?_|(refine DU (fun hc=>?_)<;>(try rw[hc])<;>clear hc)|(constructor<;>intro hc<;>(try rw[hc])<;>(replace hc:=bp hc))|clear U K)<;>conv=>whnf)
   ·rw[hc]at hsn
    exact⟨hlt,_,rfl,trivial,by rw[hsn];exact hs.take 1⟩
   ·rw[hc]at hsn
    exact⟨hlt,_,rfl,trivial,by rw[hsn];exact hs.take 1⟩
 ·conv=>whnf
  repeat'((first|apply st|(apply sq;intro K U)|(apply si;intro A B Y Z)|(apply Y;clear Z B Y A)|(apply U;clear U K)|refine⟨rfl,?_⟩|(refine DU (fun hc=>?_)<;>(try rw[hc])<;>clear hc)|clear U K)<;>conv=>whnf)
  exact EW hs 0 rfl (by rw[Au hke])
abbrev dK (ls:List (List Fact)):List (List V):=ls.map fun l=>[.l (facts l) false]
def Dr (A B:List (List Fact)):List (List Fact):=A.flatMap fun x=>B.map fun y=>CX x y
def FO (f:Fact) (l:List (Bool→List (List Fact))) (c:Bool):List (List Fact):=
 if f.op=1 then(if c then []else [[]])else
 if f.op=5 then(l.getD 0 (fun _=>[])) (!c)else
 if f.op=6∨f.op=7 then(if c != (f.op==7)then l.getD 0 (fun _=>[]) c++l.getD 1 (fun _=>[]) c else Dr (l.getD 0 (fun _=>[]) c) (l.getD 1 (fun _=>[]) c))else
 if c then [[Fb f]]else [[f]]
def BS (f:Fact):Bool→List (List Fact):=f.HF FO
def F8 (f:Fact) (c:Bool):BS f c=FO f (f.kids.map BS) c:=congrFun (Fact.Dk FO f) c
def Y7 (f:Fact) (l:List Nat):Nat:=if f.op=5 then l.getD 0 0 else if f.op=6∨f.op=7 then l.getD 0 0+l.getD 1 0 else 1
def lv (f:Fact):Nat:=f.HF Y7
def MY (f:Fact):lv f=Y7 f (f.kids.map lv):=Fact.Dk Y7 f
def arity (f:Fact):Bool:=f.HF fun f l=>f.kids.length==CH f.op&&l.all id
def LG (f:Fact):arity f=(f.kids.length==CH f.op&&f.kids.all arity):=by
 rw[arity,Fact.Dk,List.all_map];rfl
def C3 {w:AK} (f:Fact):Bi w f=true→arity f=true:=by
 induction f using Fact.ind with
 | h f ih=>
   intro h;rw[Ci]at h;simp only[DC,BZ,E0]at h;rw[LG,BZ,E0];exact⟨h.1.2.1,fun k hk=>ih k hk (h.2 k hk)⟩
def H0 {f:Fact} (h:arity f=true) (h5:f.op=5): ∃a,f.kids= [a]∧arity a=true:=by
 rw[LG,BZ,E0,h5]at h;have hl:f.kids.length=1:=by simpa[CH]using h.1
 obtain⟨a,ha⟩:=List.length_eq_one_iff.1 hl;exact⟨a,ha,h.2 a (by rw[ha];exact .head _)⟩
def Hz {f:Fact} (h:arity f=true) (h6:f.op=6∨f.op=7): ∃a b,f.kids= [a,b]∧arity a=true∧arity b=true:=by
 rw[LG,BZ,E0]at h
 have hl:f.kids.length=2:=by
  have h5:f.op≠5:=by omega
  simpa[CH,h5,h6]using h.1
 match hk:f.kids,hl with
 | [a,b],_=>exact⟨a,b,rfl,h.2 a (by rw[hk];exact .head _),h.2 b (by rw[hk];exact .tail _ (.head _))⟩
def Zq (f:Fact):arity f=true→1≤lv f:=by
 induction f using Fact.ind with
 | h f ih=>
   intro h;rw[MY,Y7];split
   ·rename_i h5
    obtain⟨a,ha,hb⟩:=H0 h h5;rw[ha];exact ih a (by rw[ha];exact .head _) hb
   ·split
    ·rename_i h6
     obtain⟨a,b,ha,hb,_⟩:=Hz h h6;rw[ha];have:=ih a (by rw[ha];exact .head _) hb;simp only[FC,List.getD_cons_zero];omega
    ·omega
def eF {a b:Nat} (ha:1≤a) (hb:1≤b):2 ^ a+2 ^ b≤2 ^ (a+b):=by
 rw[Nat.pow_add];have h1:2≤2 ^ a:=by simpa using Nat.pow_le_pow_right (show 0<2 by omega) ha
 have h2:2≤2 ^ b:=by simpa using Nat.pow_le_pow_right (show 0<2 by omega) hb
 generalize 2 ^ a=x at *;generalize 2 ^ b=y at *;have:=Nat.mul_le_mul_left (x - 1) (show 1≤y - 1 by omega);obtain⟨x,rfl⟩: ∃u,x=u+1:=⟨x - 1,by omega⟩
 obtain⟨y,rfl⟩: ∃u,y=u+1:=⟨y - 1,by omega⟩
 simp only[Nat.add_sub_cancel,Nat.mul_one]at this;rw[Nat.add_mul,Nat.mul_add];omega
def QO (A B:List (List Fact)):(Dr A B).length=A.length*B.length:=by
 induction A with
 | nil=>simp[Dr]
 | cons x r ih=>
   simp only[Dr,List.flatMap_cons,PR,BD,La]at *;rw[ih,Nat.add_mul];omega
def Ei (f : Fact):arity f=true→ ∀c,(BS f c).length≤2 ^ lv f∧ ∀l∈BS f c,l.length≤lv f:=by
 induction f using Fact.ind with
 | h f ih=>
   intro h c;rw[F8,MY,FO,Y7];by_cases h1:f.op=1
   ·have e5: ¬f.op=5:=by omega
    have e6: ¬(f.op=6∨f.op=7):=by omega
    rw[if_pos h1,if_neg e5,if_neg e6];cases c
    ·rw[if_neg (by decide)]
     exact⟨by simp,fun l hl=>by simp at hl;subst hl;simp⟩
    ·rw[if_pos rfl]
     exact⟨by simp,fun l hl=>by cases hl⟩
   rw[if_neg h1];by_cases h5:f.op=5
   ·obtain⟨a,ha,hb⟩:=H0 h h5
    rw[if_pos h5,if_pos h5,ha];exact ih a (by rw[ha];exact .head _) hb (!c)
   rw[if_neg h5,if_neg h5];by_cases h6:f.op=6∨f.op=7
   ·obtain⟨a,b,ha,hb1,hb2⟩:=Hz h h6
    rw[if_pos h6,if_pos h6,ha];simp only[FC,List.map_nil,List.getD_cons_zero,List.getD_cons_succ];obtain⟨i1,i2⟩:=ih a (by rw[ha];exact .head _) hb1 c;obtain⟨j1,j2⟩:=ih b (by rw[ha];exact .tail _ (.head _)) hb2 c;have p1:=Zq a hb1;have p2:=Zq b hb2;split
    ·refine⟨?_,fun l hl=>?_⟩
     ·rw[PR]
      have:=eF p1 p2;omega
     ·rcases Fo.1 hl with hl|hl
      ·have:=i2 l hl;omega
      ·have:=j2 l hl;omega
    ·refine⟨?_,fun l hl=>?_⟩
     ·rw[QO,Nat.pow_add]
      exact Nat.mul_le_mul i1 j1
     ·simp only[Dr,List.mem_flatMap,Lf]at hl
      obtain⟨x,hx,y,hy,rfl⟩:=hl;have:=MJ x y;have:=i2 x hx;have:=j2 y hy;omega
   ·rw[if_neg h6,if_neg h6]
    cases c
    ·exact⟨by simp,fun l hl=>by simp at hl;subst hl;simp⟩
    ·exact⟨by simp,fun l hl=>by simp at hl;subst hl;simp⟩
def jg (f:Fact):arity f=true→2*lv f≤Ld f+1:=by
 induction f using Fact.ind with
 | h f ih=>
   intro h;rw[MY,Y7,J1];by_cases h5:f.op=5
   ·obtain⟨a,ha,hb⟩:=H0 h h5
    rw[if_pos h5,ha];have:=ih a (by rw[ha];exact .head _) hb;simp only[FC,List.map_nil,List.getD_cons_zero,List.sum_cons,List.sum_nil];omega
   rw[if_neg h5];by_cases h6:f.op=6∨f.op=7
   ·obtain⟨a,b,ha,hb1,hb2⟩:=Hz h h6
    rw[if_pos h6,ha];have:=ih a (by rw[ha];exact .head _) hb1;have:=ih b (by rw[ha];exact .tail _ (.head _)) hb2;simp only[FC,List.map_nil,List.getD_cons_zero,List.getD_cons_succ,List.sum_cons,List.sum_nil];omega
   ·rw[if_neg h6]
    omega
def NT {σ:AH} {es es':List (List V)} (hs:Sat σ []) (h:Fs σ σ es es') (he: ∀e∈es',e.length=1):A5 σ (.l es true) fun r σ'=> ∃post,(∃v,r= .ret v∧post= [.own v 1 es'])∧Sat σ' post:=
 F3 (fun _ _ h=>h) (.l (fun _=>rfl) h) ⟨_,⟨_,rfl,rfl⟩,dW hs he⟩
set_option maxHeartbeats 4000000 in
def oY (f : Fact):arity f=true→lv f≤28→ ∀c,Bj Tryz.prog 144 [.a (xF f),.b c] [] fun r post=> ∃v,r= .ret v∧post= [.own v 1 (dK (BS f c))]:=by
 induction f using Fact.ind with
 | h f ih =>
   intro h hlv c σ hs;refine BL.fit (by kernel_rfl) fun hf=>?_
   have⟨h2,h3,h4⟩:=HO hf.1;have hM:=Mx;refine mz kZ ?_;rw[F8];rw[MY]at hlv;by_cases h5:f.op=5
   ·obtain⟨a,ha,hb⟩:=H0 h h5
    have ha0:f.kids[Int.toNat 0]? =some a:=by rw[ha];rfl
    have hrec:=ih a (by rw[ha];exact .head _) hb (by simpa[Y7,h5,ha]using hlv) (!c)
    conv=>whnf
    repeat'((first|apply st|(apply sq;intro K U)|(apply si;intro A B Y Z)|(apply Y;clear Z B Y A)|(apply U;clear U K)|refine⟨rfl,?_⟩|refine⟨kZ,?_⟩|refine Lg ?_|(constructor<;>intro hc<;>(try rw[hc])<;>(replace hc:=bp hc)<;>try(exfalso;omega))|fail)<;>conv=>whnf)
    all_goals try(exfalso;omega)
    refine hrec.use (rest:=[]) hs ?_;clear hs;rintro r post σ ⟨v,rfl,rfl⟩ hs
    conv=>whnf
    repeat'((first|apply st|(apply Y;clear Z B Y A)|(apply U;clear U K)|clear U K)<;>conv=>whnf)
    refine Ap hs (List.Sublist.refl _) (.refl _) fun σ' hs'=>⟨_,⟨_,rfl,?_⟩,hs'⟩
    simp only[FO,h5,ha];rfl
   by_cases h6:f.op=6∨f.op=7
   ·obtain ⟨a,b,ha,hb1,hb2⟩:=Hz h h6
    have ha0:f.kids[Int.toNat 0]? =some a:=by rw[ha];rfl
    have ha1:f.kids[Int.toNat 1]? =some b:=by rw[ha];rfl
    have hlv2:lv a+lv b≤28:=by simpa[Y7,h5,h6,ha]using hlv
    have hrec:=ih a (by rw[ha];exact .head _) hb1 (by omega) c;have hrec2:=ih b (by rw[ha];exact .tail _ (.head _)) hb2 (by omega) c
    have hcg:FO f (f.kids.map BS) c=if c != (f.op==7)then BS a c++BS b c else Dr (BS a c) (BS b c):=by
     have h1: ¬f.op=1:=by omega
     simp only[FO,if_neg h1,if_neg h5,if_pos h6,ha];rfl
    rw[hcg];obtain⟨i1,i2⟩:=Ei a hb1 c;obtain⟨j1,j2⟩:=Ei b hb2 c
    have hpw:2 ^ lv a*2 ^ lv b≤268435456:=by
     rw[←Nat.pow_add];exact Nat.pow_le_pow_right (by omega) (show lv a+lv b≤28 from hlv2)
    have hAB:=Nat.le_trans (Nat.mul_le_mul i1 j1) hpw;have q1:1≤2 ^ lv a:=Nat.one_le_two_pow;have q2:1≤2 ^ lv b:=Nat.one_le_two_pow;have q3:2 ^ lv a≤268435456:=Nat.le_trans (Nat.le_mul_of_pos_right _ q2) hpw;have q4:2 ^ lv b≤268435456:=Nat.le_trans (Nat.le_mul_of_pos_left _ q1) hpw;generalize BS a c=LA at *;generalize BS b c=LB at *;have hgB:=Cn Ko LB;clear hcg;generalize hres:(if c != (f.op==7)then LA++LB else Dr LA LB)=RES;clear ih
    conv=>whnf
    repeat'((first|apply st|(apply sq;intro K U)|(apply si;intro A B Y Z)|(apply Y;clear Z B Y A)|(apply U;clear U K)|apply dr|refine⟨rfl,?_⟩|refine⟨kZ,?_⟩|refine Lg ?_|refine Lo ?_|(constructor<;>intro hc<;>(try rw[hc])<;>(replace hc:=bp hc)<;>try(exfalso;omega))|fail)<;>conv=>whnf)
    all_goals try(exfalso;omega)
    all_goals
     refine hrec.use (rest:=[]) hs ?_;clear hs;rintro r post σ ⟨v1,rfl,rfl⟩ hs
     conv=>whnf
     repeat'((first|apply st|apply dr|refine rk ?_ ?_|exact fun s e=>by cases e;rfl|refine⟨kZ,?_⟩|fail)<;>conv=>whnf)
     refine hrec2.use (pre:=[]) (rest:=[_]) hs ?_;clear hs;rintro r post σ ⟨v2,rfl,rfl⟩ hs
     conv=>whnf
     repeat'((first|apply st|(apply sq;intro K U)|(apply si;intro A B Y Z)|(apply Y;clear Z B Y A)|(apply U;clear U K)|apply dr|refine⟨rfl,?_⟩|refine lo ?_|(constructor<;>intro hc<;>(try rw[hc])<;>(replace hc:=bp hc))|fail)<;>conv=>whnf)
    all_goals have hct:=hc
    all_goals clear hc
    all_goals first
     | (refine Rw hs 1 0 rfl rfl (by simp only[BD];omega) hgB.1 hgB.2 fun v σ hs=>?_
        conv=>whnf
        repeat'((first|apply st|(apply Y;clear Z B Y A)|(apply U;clear U K)|clear U K)<;>conv=>whnf)
        rw[hct,if_pos rfl]at hres;refine Ap (hs.less (Jp _ _)) (List.Sublist.refl _) (.refl _) fun σ' hs'=>⟨_,⟨_,rfl,?_⟩,hs'⟩
        rw[←hres];simp only[dK,SN]
        rfl)
     | (refine B4 LA.length (fun k v=>[(7,v),(52,eI (A3 k))]) (fun k v=>[.own v2 1 (dK LB),.own v1 1 (dK LA),.own v 1 (dK (Dr (LA.take k) LB))]) (fun _ _=>True) (.l [] true) rfl trivial (EM hs 1) ?_
        clear hs;rintro k v σ hk - hs;rcases BE LA hk with⟨x,hx,hlt⟩|hke
        ·have hxl:=i2 x (B1 hx)
         have hpk:Dr (LA.take (k+1)) LB=Dr (LA.take k) LB++LB.map fun y=>CX x y:=by
          rw[AQ hx];simp[Dr]
         have hpl:(Dr (LA.take k) LB).length+LB.length≤LA.length*LB.length:=by
          rw[QO,LZ,Nat.min_eq_left hk];have:=SO LB.length (show k+1≤LA.length from hlt);rw[Nat.add_mul]at this;omega
         generalize Dr (LA.take k) LB=pk0 at *
         conv=>whnf
         repeat'((first|apply st|(apply sq;intro K U)|(apply si;intro A B Y Z)|(apply Y;clear Z B Y A)|(apply U;clear U K)|refine⟨rfl,?_⟩|refine lo ?_|refine oc ?_|refine NX ?_|(refine CA (fun hc=>?_)<;>(try rw[hc])<;>clear hc)|fail)<;>conv=>whnf)
         refine B4 LB.length (fun j v=>[(7,v),(58,eI (A3 j))]) (fun j v=>[.own v2 1 (dK LB),.own v1 1 (dK LA),.own v 1 (dK (pk0++(LB.take j).map fun y=>CX x y))]) (fun _ _=>True) v rfl trivial (by simpa using hs) ?_;clear hs;rintro j v σ hj - hs;rcases BE LB hj with⟨y,hy,hjlt⟩|hje
         ·have hyl:=j2 y (B1 hy)
          conv=>whnf
          repeat'((first|apply st|(apply sq;intro K U)|(apply si;intro A B Y Z)|(apply Y;clear Z B Y A)|(apply U;clear U K)|refine⟨rfl,?_⟩|refine oc ?_|refine NX ?_|refine aq fun v σ hs hsl=>?_|(refine CA (fun hc=>?_)<;>(try rw[hc])<;>clear hc)|refine Pure.use (YD _ _ _ _ (by omega)) ?_|clear U K)<;>conv=>whnf)
          refine⟨hjlt,_,rfl,trivial,?_⟩;rw[AQ hy,SN,←SS];exact hs
         ·conv=>whnf
          repeat'((first|apply st|(apply sq;intro K U)|(apply si;intro A B Y Z)|(apply Y;clear Z B Y A)|(apply U;clear U K)|refine⟨rfl,?_⟩|(refine DU (fun hc=>?_)<;>(try rw[hc])<;>clear hc)|clear U K)<;>conv=>whnf)
          rw[Au hje]at hs;exact⟨hlt,_,rfl,trivial,by rw[hpk];exact hs⟩
        ·conv=>whnf
         repeat'((first|apply st|(apply sq;intro K U)|(apply si;intro A B Y Z)|(apply Y;clear Z B Y A)|(apply U;clear U K)|refine⟨rfl,?_⟩|(refine DU (fun hc=>?_)<;>(try rw[hc])<;>clear hc)|clear U K)<;>conv=>whnf)
         rw[Au hke]at hs;rw[hct,if_neg (by decide)]at hres;rw[←hres]
         refine Ap (hs.less ((Jp _ _).trans (Jp _ _))) (List.Sublist.refl _) (.refl _) fun σ' hs'=>⟨_,⟨_,rfl,rfl⟩,hs'⟩)
   ·have e1:FO f (f.kids.map BS) c=if f.op=1 then(if c then []else [[]])else if c then [[Fb f]]else [[f]]:=by
     simp only[FO,if_neg h5,if_neg h6]
    rw[e1];clear e1
    conv=>whnf
    repeat'((first|apply st|(apply sq;intro K U)|(apply si;intro A B Y Z)|(apply Y;clear Z B Y A)|(apply U;clear U K)|refine⟨rfl,?_⟩|refine⟨kZ,?_⟩|refine Pure.use (Zn _) ?_|(constructor<;>intro hc<;>(try rw[hc])<;>(replace hc:=bp hc)<;>try(exfalso;omega))|clear U K)<;>conv=>whnf)
    all_goals try(exfalso;omega)
    ·subst hc
     rw[if_pos (by assumption),if_pos rfl];exact NT hs .nil (fun e h=>by cases h)
    ·subst hc
     rw[if_pos (by assumption),if_neg (by decide)];refine NT hs (.cons (.cons CI .nil) .nil) ?_;intro e he;simp at he;subst he;rfl
    ·subst hc
     rw[if_neg (by assumption),if_pos rfl];refine NT hs (.cons (.cons (.l (fun h=>by cases h) ?_) .nil) .nil) ?_
     ·simp only[facts,List.map,Be]
      exact Ep _
     ·intro e he
      simp at he;subst he;rfl
    ·subst hc
     rw[if_neg (by assumption),if_neg (by decide)];refine NT hs (.cons (.cons (.l (fun h=>by cases h) ?_) .nil) .nil) ?_
     ·simp only[facts,List.map,Be]
      exact Ep _
     ·intro e he
      simp at he;subst he;rfl
def Ic (w:AK) (x:Fact):Prop:= ∃g,Bi w g=true∧Br g=true∧(x=g∨x=Fb g)
def F0 {g:Fact} (h:Br g=true):g.op=2∨g.op=3∨g.op=4:=by
 simp only[Br,Fz,Dn]at h;omega
def Eu {w : AK} (f:Fact):Bi w f=true→ ∀c,∀l∈BS f c,∀x∈l,Ic w x:=by
 induction f using Fact.ind with
 | h f ih=>
   intro h c;have har:=C3 f h;have h':=h;rw[Ci,BZ,E0]at h';rw[F8,FO];by_cases h1:f.op=1
   ·rw[if_pos h1]
    cases c
    ·rw[if_neg (by decide)]
     intro l hl x hx;simp at hl;subst hl;cases hx
    ·rw[if_pos rfl]
     intro l hl;cases hl
   rw[if_neg h1];by_cases h5:f.op=5
   ·obtain⟨a,ha,hb⟩:=H0 har h5
    rw[if_pos h5,ha];exact ih a (by rw[ha];exact .head _) (h'.2 a (by rw[ha];exact .head _)) (!c)
   rw[if_neg h5];by_cases h6:f.op=6∨f.op=7
   ·obtain⟨a,b,ha,hb1,hb2⟩:=Hz har h6
    rw[if_pos h6,ha];have i1:=ih a (by rw[ha];exact .head _) (h'.2 a (by rw[ha];exact .head _)) c;have j1:=ih b (by rw[ha];exact .tail _ (.head _)) (h'.2 b (by rw[ha];exact .tail _ (.head _))) c;simp only[FC,List.map_nil,List.getD_cons_zero,List.getD_cons_succ];split
    ·intro l hl
     rcases Fo.1 hl with hl|hl
     ·exact i1 l hl
     ·exact j1 l hl
    ·intro l hl x hx
     simp only[Dr,List.mem_flatMap,Lf]at hl;obtain⟨y,hy,z,hz,rfl⟩:=hl;rcases QZ _ _ _ hx with h|h
     ·exact i1 y hy x h
     ·exact j1 z hz x h
   ·rw [if_neg h6]
    have hlf:Br f=true:=by
     have ho:SV w f=true:=by
      have:=h'.1;simp only[DC,BZ]at this;exact this.1
     simp only[Br,Fz,Dn];unfold SV at ho;split at ho
     ·omega
     ·split at ho
      ·omega
      ·simp only[Fz,Dn]at ho
       omega
    cases c
    ·rw[if_neg (by decide)]
     intro l hl x hx;simp at hl;subst hl;simp at hx;subst hx;exact⟨x,h,hlf,.inl rfl⟩
    ·rw[if_pos rfl]
     intro l hl x hx;simp at hl;subst hl;simp at hx;subst hx;exact⟨f,h,hlf,.inr rfl⟩
def HW {w:AK} {x:Fact} (h:Ic w x):GH x∧Bi w (A2 x).1=true∧Br (A2 x).1=true:=by
 obtain⟨g,hn,hl,rfl|rfl⟩:=h
 ·have:=F0 hl
  have h5: ¬x.op=5:=by omega
  exact⟨fun e=>absurd e h5,by simp only[A2,if_neg h5];exact⟨hn,hl⟩⟩
 ·exact⟨fun _ e=>(by cases e),hn,hl⟩
def I4 {w:AK} {l:List Fact} (h: ∀x∈l,Ic w x):(∀x∈l,GH x)∧Sw w l∧Jw l∧RM l 2:=by
 refine⟨fun x hx=>(HW (h x hx)).1,fun x hx h2=>?_,fun x hx=>?_,fun x hx=>?_⟩
 all_goals
  obtain⟨-,hn,hl⟩:=HW (h x hx);have hlo:=F0 hl;generalize (A2 x).1=g at *;rw[Ci,BZ]at hn;have hn:=hn.1;simp only[DC,BZ]at hn;obtain⟨ho,-,-,-,hp,-⟩:=hn
 ·unfold SV at ho
  rw[if_pos h2]at ho;simp only[Nd,BZ,CY]at ho;exact ho.2
 ·unfold SV at ho
  split at ho
  ·simp only[BZ,Dn]at ho
   omega
  ·split at ho
   ·simp only[BZ,CY]at ho
    omega
   ·omega
 ·simp only[E3,BZ,CY]at hp
  omega
def PY (w:AK) (f:Fact):Bool:=(BS f false).any (Gv w)
def oO (w:AK) (f:Fact) (hw:Ja w) (hn:Bi w f=true) (hlv:lv f≤28):Pure Tryz.prog 111 [.a (Aq w),.a (xF f)] (.b (PY w f)):=by
 have hM:=Mx;have har:=C3 f hn;have hcl:=(Ei f har false).1;have hp:2 ^ lv f≤2 ^ 28:=Nat.pow_le_pow_right (by omega) hlv;have hlits:=Eu f hn false;refine ng kZ ?_;have hs:=Sn
 conv=>whnf
 repeat'((first|apply st|(apply sq;intro K U)|(apply si;intro A B Y Z)|(apply Y;clear Z B Y A)|(apply U;clear U K)|refine⟨kZ,?_⟩|fail)<;>conv=>whnf)
 refine(oY f har hlv false).use (rest:=[]) hs ?_;clear hs;rintro r post σ ⟨v,rfl,rfl⟩ hs;have F:PY w f=(BS f false).any (Gv w):=rfl
 have hlen: ∀x∈BS f false,x.length≤1000000:=fun x hx=>by
  have:=(Ei f har false).2 x hx;omega
 generalize BS f false=cs at *
 conv=>whnf
 repeat'((first|apply st|(apply Y;clear Z B Y A)|(apply U;clear U K)|refine lo ?_|fail)<;>conv=>whnf)
 refine B4 cs.length (fun k (_:Unit)=>[(10,eI (A3 k))]) (fun _ _=>[.own v 1 (dK cs)]) (fun k _=>PY w f=(cs.drop k).any (Gv w)) () rfl F hs ?_;clear hs F;rintro k - σ hk F hs;rcases BE cs hk with⟨x,hx,hlt⟩|hke
 ·obtain⟨q1,q2,q3,q4⟩:=I4 (hlits x (B1 hx))
  have htog:=Tu w x q1 (hlen x (B1 hx)) hw q2 q3 q4;rw[drop_cons hx,Q7]at F;cases ht:Gv w x<;>rw[ht]at htog F
  ·conv=>whnf
   repeat'((first|apply st|(apply sq;intro K U)|(apply si;intro A B Y Z)|(apply Y;clear Z B Y A)|(apply U;clear U K)|refine⟨rfl,?_⟩|refine⟨kZ,?_⟩|refine oc ?_|refine NX ?_|(refine CA (fun hc=>?_)<;>(try rw[hc])<;>clear hc)|refine Pure.use (by assumption) ?_|clear U K)<;>conv=>whnf)
   exact⟨hlt,(),rfl,F,hs⟩
  ·conv=>whnf
   repeat'((first|apply st|(apply sq;intro K U)|(apply si;intro A B Y Z)|(apply Y;clear Z B Y A)|(apply U;clear U K)|refine⟨rfl,?_⟩|refine⟨kZ,?_⟩|refine oc ?_|refine NX ?_|(refine CA (fun hc=>?_)<;>(try rw[hc])<;>clear hc)|refine Pure.use (by assumption) ?_|clear U K)<;>conv=>whnf)
   exact AI (by rw[F];rfl)
 ·conv=>whnf
  repeat'((first|apply st|(apply sq;intro K U)|(apply si;intro A B Y Z)|(apply Y;clear Z B Y A)|(apply U;clear U K)|refine⟨rfl,?_⟩|(refine DU (fun hc=>?_)<;>(try rw[hc])<;>clear hc)|clear U K)<;>conv=>whnf)
  exact AI (by rw[F,Ag hke];rfl)
def RJ (w:AK) (a b:Fact):Bool:= !PY w (M6 a (Fb b))
def Zr (a b:Fact):lv (M6 a (Fb b))=lv a+lv b:=by
 rw[MY];simp only[Y7,M6,Fact.op,Fact.kids,FC,List.map_nil,List.getD_cons_zero,List.getD_cons_succ];rw[MY (Fb b)];simp[Y7,Fb,Fact.op,Fact.kids]
def OB {w:AK} {a b:Fact} (ha:Bi w a=true) (hb:Bi w b=true):Bi w (M6 a (Fb b))=true:=by
 have hnb:Bi w (Fb b)=true:=by
  rw[Ci];simp[Fb,DC,SV,Fact.op,Fact.kids,Fact.arg,Fact.path,Fact.cls,Fact.n,CH,E3,Br,hb]
 rw[Ci];simp[M6,DC,SV,Fact.op,Fact.kids,Fact.arg,Fact.path,Fact.cls,Fact.n,CH,E3,Br,ha,hnb]
def YO (w:AK) (a b:Fact) (hw:Ja w) (ha:Bi w a=true) (hb:Bi w b=true) (la:lv a≤12) (lb:lv b≤12):Pure Tryz.prog 77 [.a (Aq w),.a (xF a),.a (xF b)] (.b (RJ w a b)):=by
 refine qS kZ ?_;have hs:=Sn
 conv=>whnf
 repeat'((first|apply st|(apply sq;intro K U)|(apply si;intro A B Y Z)|(apply Y;clear Z B Y A)|(apply U;clear U K)|apply dr|refine rk ?_ ?_|exact fun s e=>by cases e;rfl|refine⟨kZ,?_⟩|refine Pure.use (Zn _) ?_|refine Pure.use (oV _ _) ?_|refine Pure.use (oO _ _ hw (OB ha hb) (by rw[Zr];omega)) ?_|fail)<;>conv=>whnf)
 all_goals exact AI rfl
def TG {p:Prog}: ∀ {ms:List M7} {s:List Int},(runM p ms s).isSome=true→ ∀m∈ms,NY p m=true
 | [],_,_,_,h=>by cases h
 | m ::r,s,h,x,hx=>by
   rw[runM]at h;split at h
   ·rename_i hok
    split at h
    ·cases h
    ·rcases GB.1 hx with rfl|hx
     ·exact hok
     ·exact TG h x hx
   ·cases h
def Eo {p:Prog} (h:(BX p).isSome=true):C0 p=true∧ ∀m∈p.methods,NY p m=true:=by
 unfold BX at h;split at h
 ·rename_i hh
  refine⟨hh,?_⟩;split at h
  ·cases h
  ·rename_i s hs
   exact TG (by rw[hs];rfl)
 ·cases h
structure Dv (p:Prog):Prop where
 iB:Ja (AM p)
 AT:Bu p.AP≤Ac
 ZW:p.AP.length≤1000
 facts: ∀m∈p.methods,Bi (AM p) m.fact=true∧lv m.fact≤12
 many:p.methods.length≤16
def look_ok {p:Prog} (h:(BX p).isSome=true):Dv p:=by
 obtain⟨hh,hm⟩:=Eo h;simp only[C0,BZ,CY]at hh;have hc:=hh.1;simp only[BI,BZ,CY]at hc;have hM:=Mx;refine⟨OY hc.1 hc.2.1 hc.2.2.2.1,by have:=(FP _ _ hc.2.1).1;omega,by have:=hc.1;omega,fun m h=>?_,hh.2.2.1⟩;have:=hm m h;simp only[NY,Cg,BZ,CY]at this;have hn:=this.2.2.2.2.1.2.2;refine⟨hn,?_⟩;have hcn:=KC m.fact 24 (by omega) this.2.2.2.2.1.1;have:=jg m.fact (C3 _ hn);omega
def A7 (p:Prog) (m:Int):Bool:=decide (0≤m)&&decide (m<(p.methods.length:Int))
def BJ (p:Prog) (m:Int):M7:=p.methods.getD m.toNat default
def B0 {p:Prog} {m:Int} (h:A7 p m=true):p.methods[m.toNat]? =some (BJ p m):=by
 simp only[A7,BZ,CY]at h;rw[BJ,DK,Ct (by omega)];rfl
def B3 (p:Prog) (m n:Int):Bool:=(BJ p m).gen==(BJ p n).gen&&(BJ p m).kind==(BJ p n).kind
def Df (p:Prog) (m n:Int):Bool:=RJ (AM p) (BJ p m).fact (BJ p n).fact
def Am (p:Prog) (m n:Int):Bool:=Df p m n&& !Df p n m
def fp (p:Prog) (m n:Int) (hm:A7 p m=true) (hn:A7 p n=true):Pure Tryz.prog 47 [.a (BV p),eI m,eI n] (.b (B3 p m n)):=by
 refine Pure.fit (by kernel_rfl) fun hf=>?_
 have⟨p1,p2,p3,p4⟩:=GI hf.1;have hxm:=B0 hm;have hxn:=B0 hn;simp only[A7,BZ,CY]at hm hn;refine ql kZ ?_;have hs:=Sn
 conv=>whnf
 repeat'((first|apply st|(apply sq;intro K U)|(apply si;intro A B Y Z)|(apply Y;clear Z B Y A)|(apply U;clear U K)|apply dr|refine⟨rfl,?_⟩|refine FE ?_|(constructor<;>intro hc<;>(try rw[hc])<;>(replace hc:=bp hc))|fail)<;>conv=>whnf)
 all_goals exact AI (by simp[B3, *])
def Hr (p:Prog) (m n:Int):Bool×Int:=if(BX p).isSome&&(A7 p m&&A7 p n)then(if B3 p m n then(Am p m n,0)else(false,7))else(false,2)
end Go.Gl
namespace Go.Gl
variable {P:Program} {σ:AH}
abbrev eU (n:Nat):V:= .i .u64 (n:Int)
def HT {n:Nat} (h:n<18446744073709551616):IntKind.u64.wrap (n:Int)=n:=by
 simp only[IntKind.wrap,IntKind.signed,IntKind.bits];simp;omega
def Kr {a b:Nat} (ha:a<18446744073709551616) (hb:b<18446744073709551616):bits .or .u64 (a:Int) (b:Int)=((a|||b:Nat):Int):=by
 have h:a|||b<2 ^ 64:=Nat.or_lt_two_pow (n:=64) (by simpa using ha) (by simpa using hb)
 simp only[bits,IntKind.bits]
 have e1:(BitVec.ofInt 64 (a:Int)|||BitVec.ofInt 64 (b:Int)).toNat=a|||b:=by
  simp only[BitVec.ofInt_natCast,BitVec.toNat_or,BitVec.toNat_ofNat];rw[Nat.mod_eq_of_lt (by simpa using ha),Nat.mod_eq_of_lt (by simpa using hb)]
 have e2:=HT (n:=a|||b) (by simpa using h);rw[←e1]at e2;rw[←e1];exact e2
def LD {a b:Nat} (ha:a<18446744073709551616) (hb:b<18446744073709551616):bits .and .u64 (a:Int) (b:Int)=((a&&&b:Nat):Int):=by
 have h:a&&&b<2 ^ 64:=Nat.and_lt_two_pow (n:=64) a (by simpa using hb);simp only[bits,IntKind.bits]
 have e1:(BitVec.ofInt 64 (a:Int)&&&BitVec.ofInt 64 (b:Int)).toNat=a&&&b:=by
  simp only[BitVec.ofInt_natCast,BitVec.toNat_and,BitVec.toNat_ofNat];rw[Nat.mod_eq_of_lt (by simpa using ha),Nat.mod_eq_of_lt (by simpa using hb)]
 have e2:=HT (n:=a&&&b) (by simpa using h);rw[←e1]at e2;rw[←e1];exact e2
def Nh (a b:Nat):Nat:=(BitVec.ofNat 64 a&&& ~~~BitVec.ofNat 64 b).toNat
def R2 (a b:Nat):Nh a b<18446744073709551616:=by
 have:=(BitVec.ofNat 64 a&&& ~~~BitVec.ofNat 64 b).isLt;simpa[Nh]using this
def Qs {a b:Nat}:bits .andNot .u64 (a:Int) (b:Int)=((Nh a b:Nat):Int):=by
 simp only[bits,IntKind.bits]
 have e1:(BitVec.ofInt 64 (a:Int)&&& ~~~BitVec.ofInt 64 (b:Int)).toNat=Nh a b:=by
  simp only[BitVec.ofInt_natCast,Nh]
 have e2:=HT (n:=Nh a b) (R2 a b);rw[←e1]at e2;rw[←e1];exact e2
def OT {a b i:Nat} (hi:i<64):(Nh a b).testBit i=(a.testBit i&& !b.testBit i):=by
 rw[Nh,BitVec.testBit_toNat,BitVec.getLsbD_and,BitVec.getLsbD_not];rw[BitVec.getLsbD_ofNat,BitVec.getLsbD_ofNat];simp only[hi,decide_true,Ey]
def WS {c:Nat} (h:c<64):IntKind.u64.wrap (1*2 ^ (min c IntKind.u64.bits))=((2 ^ c:Nat):Int):=by
 have hb:IntKind.u64.bits=64:=rfl;rw[hb,Nat.min_eq_left (by omega),Int.one_mul];have:=HT (n:=2 ^ c) (by have:=Nat.pow_lt_pow_right (show 1<2 by omega) h;simpa using this);rw[←this];simp
def Jx {c:Nat} (h:c<64):2 ^ c<18446744073709551616:=by
 have:=Nat.pow_lt_pow_right (show 1<2 by omega) h;simpa using this
def WR {a c:Nat} (h:c<64):(a:Int).fdiv (2 ^ (min c IntKind.u64.bits))=((a >>> c:Nat):Int):=by
 have hb:IntKind.u64.bits=64:=rfl;rw[hb,Nat.min_eq_left (by omega),Nat.shiftRight_eq_div_pow,Int.fdiv_eq_ediv_of_nonneg _ (Int.pow_nonneg (by omega))];simp
def DS {v:V} {Q:R→AH→Prop} (h:Q (.C9 v) σ):Aj σ v Q:=⟨v,σ,fun _ _ h=>h,.refl v,h⟩
def Bp {g:FuncId} {fi ca args:List V} {Q:R→AH→Prop} (h:BL P g (fi++args++ca) σ Q):BA P (.f (.func g) fi ca) args σ Q:=h
def Pure.of {f:FuncId} {args:List V} {v:V} (h:BL P f args emp fun r _=>r= .ret v):Pure P f args v:=by
 refine⟨h.1,fun Λ w cs G hv=>Calls.mono (h.2 Λ w cs G hv) fun e w' ⟨r,σ',hr,h1,h2,h3⟩=>?_⟩;subst hr;obtain⟨c,rfl,hv'⟩:=h1;have hsub:Sub emp σ':=fun n o ho=>by cases ho
 exact⟨.ret v,emp,⟨rfl,rfl⟩,⟨c,rfl,Gt.rel h2 hsub (.refl v) hv'⟩,h2.drop hsub,⟨h3.frame,h3.size,h3.os,h3.tape,h3.output,fun _ _ _=>rfl⟩⟩
def DD {α S:Type} (P:Program) (x:V) (ea:α→V) (H:S→List At) (stp:α→S→Bool×S) (D:α→S→Prop):Prop:=
 ∀y s,D y s→ ∀σ,Sat σ (H s)→BA P x [ea y] σ fun r σ'=>r= .ret (.b (stp y s).1)∧Sat σ' (H (stp y s).2)
def DD.use {α S:Type} {x:V} {ea:α→V} {H:S→List At} {stp:α→S→Bool×S} {D:α→S→Prop} (h:DD P x ea H stp D) {y:α} {s:S} (hd:D y s) (hs:Sat σ (H s)) {k kp:V→AH→Prop} (hk: ∀σ',Sat σ' (H (stp y s).2)→k (.b (stp y s).1) σ'):BA P x [ea y] σ (qk k kp):=
 (h y s hd σ hs).mono fun r σ' ⟨e,h'⟩=>by rw[e];exact hk σ' h'
def DD.vT {α S:Type} {g:FuncId} {fi ca:List V} {ea:α→V} {H:S→List At} {stp:α→S→Bool×S} {D:α→S→Prop} (h:DD P (.f (.func g) fi ca) ea H stp D) {y:α} {s:S} (hd:D y s) {rest:List At} (hs:Sat σ (H s++rest)) {k kp:V→AH→Prop} (hk: ∀σ',Sat σ' (H (stp y s).2++rest)→k (.b (stp y s).1) σ'):BA P (.f (.func g) fi ca) [ea y] σ (qk k kp):=by
 refine Bp ?_;have h1:Bj P g (fi++[ea y]++ca) (H s) fun r post=>r= .ret (.b (stp y s).1)∧post=H (stp y s).2:=fun σ hs=>BL.mono (h y s hd σ hs) fun r σ' ⟨e,h2⟩=>⟨_,⟨e,rfl⟩,h2⟩
 refine h1.use hs ?_;rintro r post σ' ⟨rfl,rfl⟩ hs';exact hk σ' hs'
def Bo {α S:Type} (stp:α→S→Bool×S):List α→Nat→S→Int×S
 | [],_,s=>(-1,s)
 | y::r,k,s=>if(stp y s).1 then((k:Int),(stp y s).2)else Bo stp r (k+1) (stp y s).2
def Co {α S:Type} (stp:α→S→Bool×S):List α→S→Bool×S
 | [],s=>(true,s)
 | y::r,s=>if(stp y s).1 then Co stp r (stp y s).2 else(false,(stp y s).2)
def UZ {α S:Type} (stp:α→S→Bool×S) (D:α→S→Prop):List α→S→Prop
 | [],_=>True
 | y::r,s=>D y s∧UZ stp D r (stp y s).2
def MO {α S:Type} {stp:α→S→Bool×S}: ∀(xs:List α) (k:Nat) (s:S),(Bo (fun y s=>(!(stp y s).1,(stp y s).2)) xs k s).2=(Co stp xs s).2∧(decide ((Bo (fun y s=>(!(stp y s).1,(stp y s).2)) xs k s).1≥0)= !(Co stp xs s).1)
 | [],_,_=>⟨rfl,rfl⟩
 | y::r,k,s=>by
   simp only[Bo,Co];cases h:(stp y s).1
   ·simp
   ·simpa using MO r (k+1) (stp y s).2
def Rk {α S:Type} {stp:α→S→Bool×S} {D:α→S→Prop}: ∀(xs:List α) (s:S),UZ stp D xs s→UZ (fun y s=>(!(stp y s).1,(stp y s).2)) D xs s
 | [],_,_=>trivial
 | _::r,_,h=>⟨h.1,Rk r _ h.2⟩
def JS {α:Type} (f:α→Bool): ∀(xs:List α),Co (fun y (_:Unit)=>(f y,())) xs ()=(xs.all f,())
 | []=>rfl
 | y::r=>by
   simp only[Co,MU];cases f y
   ·rfl
   ·simpa using JS f r
def G3 {α S:Type} {stp:α→S→Bool×S} {D:α→S→Prop}: ∀ {xs:List α} {s:S},(∀y∈xs,∀s,D y s)→UZ stp D xs s
 | [],_,_=>trivial
 | y::r,s,h=>⟨h y (.head _) s,G3 fun z hz=>h z (.tail _ hz)⟩
end Go.Gl
namespace Go.Gl
open Go.Proofs
attribute [local irreducible] BL A5 Aj AW AN Ai AV AX AO Ah AS AU BA BK Sat Ad BH Al W
def RV {xs:List Int} {f:Bool} (h:FD (.l (iL xs) f)):xs.length≤Ac:=Iu h
def bV:Pure Tryz.prog 164 [.b true] (.t []):=by
 refine aD kZ ?_;have hs:=Sn
 conv=>whnf
 repeat'((first|apply st|(apply sq;intro K U)|(apply si;intro A B Y Z)|(apply Y;clear Z B Y A)|(apply U;clear U K)|refine D2 ?_|fail)<;>conv=>whnf)
 all_goals exact AI rfl
abbrev Dx:V:= .KT 242 (.a [])
def ZJ (xs:List Int) (x:Int):Int:=(Bo (fun y (_:Unit)=>(x==y,())) xs 0 ()).1
def LC {α:Type} (f:α→Bool): ∀(xs:List α) (k:Nat),(decide ((Bo (fun y (_:Unit)=>(f y,())) xs k ()).1≥0))=xs.any f
 | [],_=>rfl
 | y::r,k=>by
   simp only[Bo,Q7];cases f y
   ·simpa using LC f r (k+1)
   ·simp
def SK (xs:List Int) (x:Int):xs.any (x== ·)=xs.contains x:=by
 induction xs with
 | nil=>rfl
 | cons y r ih=>rw[Q7,List.contains_cons,ih]
def ez (xs:List Int) (x:Int):decide (ZJ xs x≥0)=xs.contains x:=by
 rw[←SK];exact LC (x== ·) xs 0
def TW (xs:List Int) (f:Bool) (x:Int):Pure Tryz.prog 193 [.l (iL xs) f,eI x] (eI (ZJ xs x)):=by
 refine Pure.fit (by kernel_rfl) fun hf=>?_
 have hxl:=RV hf.1;have hM:=Mx;refine l6 kZ ?_;have hs:=Sn
 conv=>whnf
 repeat'((first|apply st|(apply sq;intro K U)|(apply si;intro A B Y Z)|(apply Y;clear Z B Y A)|(apply U;clear U K)|fail)<;>conv=>whnf)
 refine B4 xs.length (fun k (_:Unit)=>[(8,eI (A3 k))]) (fun _ _=>[]) (fun k _=>ZJ xs x=(Bo (fun y (_:Unit)=>(x==y,())) (xs.drop k) k ()).1) () rfl rfl hs ?_;clear hs;rintro k - σ hk hn hs;have hck:A3 k=k:=AL (by omega);rcases BE xs hk with⟨y,hy,hlt⟩|hke
 ·rw[drop_cons hy,Bo]at hn
  conv=>whnf
  repeat'((first|apply st|(apply sq;intro K U)|(apply si;intro A B Y Z)|(apply Y;clear Z B Y A)|(apply U;clear U K)|refine⟨rfl,?_⟩|refine ix ?_|(refine CA (fun hc=>?_)<;>(try rw[hc])<;>clear hc)|(constructor<;>intro hc<;>(try rw[hc])<;>(replace hc:=bp hc))|clear U K)<;>conv=>whnf)
  ·exact AI (by rw[hn,hc,hck];simp)
  ·exact⟨hlt,(),rfl,by rw[hn];simp[hc],hs⟩
 ·rw[Ag hke,Bo]at hn
  conv=>whnf
  repeat'((first|apply st|(apply sq;intro K U)|(apply si;intro A B Y Z)|(apply Y;clear Z B Y A)|(apply U;clear U K)|refine⟨rfl,?_⟩|(refine DU (fun hc=>?_)<;>(try rw[hc])<;>clear hc)|clear U K)<;>conv=>whnf)
  exact AI (by rw[hn])
def D0 (xs:List Int) (f:Bool) (x:Int):Pure Tryz.prog 172 [.l (iL xs) f,eI x] (.b (xs.contains x)):=by
 refine mM kZ ?_;have hs:=Sn
 conv=>whnf
 repeat'((first|apply st|(apply sq;intro K U)|(apply si;intro A B Y Z)|(apply Y;clear Z B Y A)|(apply U;clear U K)|refine⟨rfl,?_⟩|refine Pure.use (TW _ _ _) ?_|fail)<;>conv=>whnf)
 all_goals exact AI (by rw[←ez])
def PK (n:Int):Pure Tryz.prog 211 [eI n] (.b (RK n)):=by
 refine lj kZ ?_;have hs:=Sn
 conv=>whnf
 repeat'((first|apply st|(apply sq;intro K U)|(apply si;intro A B Y Z)|(apply Y;clear Z B Y A)|(apply U;clear U K)|refine⟨rfl,?_⟩|(constructor<;>intro hc<;>(try rw[hc])<;>(replace hc:=bp hc))|fail)<;>conv=>whnf)
 all_goals exact AI (by simp[RK, *]<;>omega)
def OD (f:Fact):Br f=(decide (2≤f.op)&&decide (f.op≤4)):=by
 rw[Le];simp only[Br,Fz,BZ,Dn,CY];omega
def NM (f:Fact):Pure Tryz.prog 150 [.a (xF f)] (.b (Br f)):=by
 refine mo kZ ?_;have hs:=Sn
 conv=>whnf
 repeat'((first|apply st|(apply sq;intro K U)|(apply si;intro A B Y Z)|(apply Y;clear Z B Y A)|(apply U;clear U K)|refine⟨rfl,?_⟩|(constructor<;>intro hc<;>(try rw[hc])<;>(replace hc:=bp hc))|fail)<;>conv=>whnf)
 all_goals exact AI (by rw[OD];simp[*]<;>omega)
def WL (s c:Nat) (hs0:s<18446744073709551616) (hc:c<64):Pure Tryz.prog 176 [eU s,eI c] (eU (s|||2 ^ c)):=by
 refine mJ kZ ?_;have hs:=Sn
 conv=>whnf
 repeat'((first|(apply sq;intro K U)|(apply si;intro A B Y Z)|(apply Y;clear Z B Y A)|(apply U;clear U K)|fail)<;>conv=>whnf)
 refine⟨Int.natCast_nonneg _,?_⟩
 conv=>whnf
 repeat'((first|apply st|(apply Y;clear Z B Y A)|(apply U;clear U K)|refine⟨rfl,?_⟩|fail)<;>conv=>whnf)
 exact AI (by rw[IT,WS hc,Kr hs0 (Jx hc)])
def Nz (s c:Nat) (hs0:s<18446744073709551616) (hc:c<64):Pure Tryz.prog 152 [eU s,eI c] (.b (s.testBit c)):=by
 refine mj kZ ?_;have hs:=Sn
 conv=>whnf
 repeat'((first|(apply sq;intro K U)|(apply si;intro A B Y Z)|(apply Y;clear Z B Y A)|(apply U;clear U K)|fail)<;>conv=>whnf)
 refine⟨Int.natCast_nonneg _,?_⟩
 conv=>whnf
 repeat'((first|apply st|(apply Y;clear Z B Y A)|(apply U;clear U K)|refine⟨rfl,?_⟩|fail)<;>conv=>whnf)
 refine AI ?_;rw[IT,WR hc];have h1:s >>> c<18446744073709551616:=by rw[Nat.shiftRight_eq_div_pow];exact Nat.lt_of_le_of_lt (Nat.div_le_self _ _) hs0
 have h2:bits .and .u64 ((s >>> c:Nat):Int) 1=((s >>> c&&&1:Nat):Int):=LD h1 (show 1<_ by decide);rw[h2];simp only[Nat.testBit,Nat.and_comm 1];congr 1;rcases Nat.mod_two_eq_zero_or_one (s >>> c)with h|h<;>simp[Nat.and_one_is_mod,h]
def ep (op:Int):Pure Tryz.prog 220 [eI op] (eI (CH op)):=by
 refine lV kZ ?_;have hs:=Sn
 conv=>whnf
 repeat'((first|apply st|(apply sq;intro K U)|(apply si;intro A B Y Z)|(apply Y;clear Z B Y A)|(apply U;clear U K)|refine⟨rfl,?_⟩|(constructor<;>intro hc<;>(try rw[hc])<;>(replace hc:=bp hc))|clear U K)<;>conv=>whnf)
 all_goals exact AI (by simp[CH, *])
def VB (b:Bool):Pure Tryz.prog 215 [.b b] (eI (if b then 0 else 2)):=by
 refine lZ kZ ?_;have hs:=Sn
 conv=>whnf
 repeat'((first|apply st|(apply sq;intro K U)|(apply si;intro A B Y Z)|(apply Y;clear Z B Y A)|(apply U;clear U K)|(constructor<;>intro hc<;>(try rw[hc])<;>(replace hc:=bp hc))|clear U K)<;>conv=>whnf)
 all_goals exact AI (by simp[*])
def IG {S:Type} (g:FuncId) (fi ca:List V) (H:S→List At) (stp:Int→S→Bool×S) (D:Int→S→Prop) (hx:DD Tryz.prog (.f (.func g) fi ca) eI H stp D) (xs:List Int) (f:Bool) (s0:S) (hd:UZ stp D xs s0) :
    Bj Tryz.prog 103 [.l (iL xs) f,.f (.func g) fi ca] (H s0) fun r post=>r= .ret (eI (Bo stp xs 0 s0).1)∧post=H (Bo stp xs 0 s0).2:=by
 intro σ hs;refine BL.fit (by kernel_rfl) fun hf=>?_
 have hxl:=RV hf.1;have hM:=Mx;refine aG kZ ?_
 conv=>whnf
 repeat'((first|apply st|(apply sq;intro K U)|(apply si;intro A B Y Z)|(apply Y;clear Z B Y A)|(apply U;clear U K)|fail)<;>conv=>whnf)
 refine B4 xs.length (fun k (_:S)=>[(8,eI (A3 k))]) (fun _ s=>H s) (fun k s=>UZ stp D (xs.drop k) s∧Bo stp xs 0 s0=Bo stp (xs.drop k) k s) s0 rfl ⟨hd,rfl⟩ hs ?_;clear hs;rintro k s σ hk ⟨hd,hn⟩ hs;have hck:A3 k=k:=AL (by omega);rcases BE xs hk with⟨y,hy,hlt⟩|hke
 ·rw[drop_cons hy]at hn hd
  obtain⟨hd1,hd2⟩:=hd;rw[Bo]at hn
  conv=>whnf
  repeat'((first|apply st|(apply sq;intro K U)|(apply si;intro A B Y Z)|(apply Y;clear Z B Y A)|(apply U;clear U K)|refine⟨rfl,?_⟩|refine ix ?_|(refine CA (fun hc=>?_)<;>(try rw[hc])<;>clear hc)|fail)<;>conv=>whnf)
  refine hx.use hd1 hs ?_;clear hs;intro σ hs
  conv=>whnf
  repeat'((first|apply st|(apply sq;intro K U)|(apply si;intro A B Y Z)|(apply Y;clear Z B Y A)|(apply U;clear U K)|refine⟨rfl,?_⟩|(constructor<;>intro hc<;>(try rw[hc])<;>(replace hc:=bp hc))|clear U K)<;>conv=>whnf)
  ·rw[hc,if_pos rfl]at hn
   rw[hn];exact Ap hs (List.Sublist.refl _) (by rw[hck];exact .refl _) fun σ' hs'=>⟨_,⟨rfl,rfl⟩,hs'⟩
  ·rw[hc,if_neg (by decide)]at hn
   exact⟨hlt,_,rfl,⟨hd2,hn⟩,hs⟩
 ·rw[Ag hke,Bo]at hn
  conv=>whnf
  repeat'((first|apply st|(apply sq;intro K U)|(apply si;intro A B Y Z)|(apply Y;clear Z B Y A)|(apply U;clear U K)|refine⟨rfl,?_⟩|(refine DU (fun hc=>?_)<;>(try rw[hc])<;>clear hc)|clear U K)<;>conv=>whnf)
  rw[hn];exact Ap hs (List.Sublist.refl _) (.refl _) fun σ' hs'=>⟨_,⟨rfl,rfl⟩,hs'⟩
section
variable {S:Type} (g:FuncId) (fi ca:List V) (H:S→List At)
def GW (stp:Int→S→Bool×S) (D:Int→S→Prop) (hx:DD Tryz.prog (.f (.func g) fi ca) eI H stp D) (xs:List Int) (f:Bool) (s0:S) (hd:UZ stp D xs s0) :
    Bj Tryz.prog 72 [.l (iL xs) f,.f (.func g) fi ca] (H s0) fun r post=>r= .ret (.b (decide ((Bo stp xs 0 s0).1≥0)))∧post=H (Bo stp xs 0 s0).2:=by
 intro σ hs;refine gg kZ ?_
 conv=>whnf
 repeat'((first|(apply sq;intro K U)|(apply si;intro A B Y Z)|(apply Y;clear Z B Y A)|(apply U;clear U K)|fail)<;>conv=>whnf)
 refine(IG g fi ca H stp D hx xs f s0 hd).use (rest:=[]) (by simpa using hs) ?_;rintro r post σ ⟨rfl,rfl⟩ hs
 conv=>whnf
 repeat'((first|apply st|(apply Y;clear Z B Y A)|(apply U;clear U K)|refine⟨rfl,?_⟩|fail)<;>conv=>whnf)
 exact Ap hs (by simp) (.refl _) fun σ' hs'=>⟨_,⟨rfl,rfl⟩,hs'⟩
def jb (stp:Int→S→Bool×S) (D:Int→S→Prop) (hx:DD Tryz.prog (.f (.func g) fi ca) eI H stp D):DD Tryz.prog (.f (.func 217) [] [.rp [.f (.func g) fi ca]]) eI H (fun y s=>(!(stp y s).1,(stp y s).2)) D:=by
 intro y s hd σ hs;refine Bp ?_;show BL Tryz.prog 217 ([]++[eI y]++[.rp [.f (.func g) fi ca]]) σ _;refine Z5 kZ ?_
 conv=>whnf
 repeat'((first|apply st|(apply sq;intro K U)|(apply si;intro A B Y Z)|(apply Y;clear Z B Y A)|(apply U;clear U K)|fail)<;>conv=>whnf)
 refine hx.use hd hs ?_;clear hs;intro σ hs
 conv=>whnf
 repeat'((first|apply st|(apply Y;clear Z B Y A)|(apply U;clear U K)|fail)<;>conv=>whnf)
 exact Ap hs (List.Sublist.refl _) (.refl _) fun σ' hs'=>⟨rfl,hs'⟩
def aN (stp:Int→S→Bool×S) (D:Int→S→Prop) (hx:DD Tryz.prog (.f (.func g) fi ca) eI H stp D) (xs:List Int) (f:Bool) (s0:S) (hd:UZ stp D xs s0) :
    Bj Tryz.prog 177 [.l (iL xs) f,.f (.func g) fi ca] (H s0) fun r post=>r= .ret (.b (Co stp xs s0).1)∧post=H (Co stp xs s0).2:=by
 intro σ hs;obtain⟨e1,e2⟩:=MO (stp:=stp) xs 0 s0;refine Z9 kZ ?_
 conv=>whnf
 repeat'((first|(apply sq;intro K U)|(apply si;intro A B Y Z)|(apply Y;clear Z B Y A)|(apply U;clear U K)|fail)<;>conv=>whnf)
 refine(GW 217 [] [.rp [.f (.func g) fi ca]] H _ D (jb g fi ca H stp D hx) xs f s0 (Rk xs s0 hd)).use (rest:=[]) (by simpa using hs) ?_;rintro r post σ ⟨rfl,rfl⟩ hs;rw[e2];rw[e1]at hs
 conv=>whnf
 repeat'((first|apply st|(apply Y;clear Z B Y A)|(apply U;clear U K)|fail)<;>conv=>whnf)
 exact Ap hs (by simp) (by rw[Bool.not_not];exact .refl _) fun σ' hs'=>⟨_,⟨rfl,rfl⟩,hs'⟩
def SE (stp:Fact→S→Bool×S) (D:Fact→S→Prop) (hx:DD Tryz.prog (.f (.func g) fi ca) (fun y=> .a (xF y)) H stp D) (xs:List Fact) (f:Bool) (s0:S) (hxl:xs.length≤Ac) (hd:UZ stp D xs s0) :
    Bj Tryz.prog 253 [.l (facts xs) f,.f (.func g) fi ca] (H s0) fun r post=>r= .ret (eI (Bo stp xs 0 s0).1)∧post=H (Bo stp xs 0 s0).2:=by
 intro σ hs;have hM:=Mx;refine k7 kZ ?_
 conv=>whnf
 repeat'((first|apply st|(apply sq;intro K U)|(apply si;intro A B Y Z)|(apply Y;clear Z B Y A)|(apply U;clear U K)|fail)<;>conv=>whnf)
 refine B4 xs.length (fun k (_:S)=>[(8,eI (A3 k))]) (fun _ s=>H s) (fun k s=>UZ stp D (xs.drop k) s∧Bo stp xs 0 s0=Bo stp (xs.drop k) k s) s0 rfl ⟨hd,rfl⟩ hs ?_;clear hs;rintro k s σ hk ⟨hd,hn⟩ hs;have hck:A3 k=k:=AL (by omega);rcases BE xs hk with⟨y,hy,hlt⟩|hke
 ·rw[drop_cons hy]at hn hd
  obtain⟨hd1,hd2⟩:=hd;rw[Bo]at hn
  conv=>whnf
  repeat'((first|apply st|(apply sq;intro K U)|(apply si;intro A B Y Z)|(apply Y;clear Z B Y A)|(apply U;clear U K)|refine⟨rfl,?_⟩|refine⟨kZ,?_⟩|refine Lg ?_|(refine CA (fun hc=>?_)<;>(try rw[hc])<;>clear hc)|fail)<;>conv=>whnf)
  refine hx.use hd1 hs ?_;clear hs;intro σ hs
  conv=>whnf
  repeat'((first|apply st|(apply sq;intro K U)|(apply si;intro A B Y Z)|(apply Y;clear Z B Y A)|(apply U;clear U K)|refine⟨rfl,?_⟩|(constructor<;>intro hc<;>(try rw[hc])<;>(replace hc:=bp hc))|clear U K)<;>conv=>whnf)
  ·rw[hc,if_pos rfl]at hn
   rw[hn];exact Ap hs (List.Sublist.refl _) (by rw[hck];exact .refl _) fun σ' hs'=>⟨_,⟨rfl,rfl⟩,hs'⟩
  ·rw[hc,if_neg (by decide)]at hn
   exact⟨hlt,_,rfl,⟨hd2,hn⟩,hs⟩
 ·rw[Ag hke,Bo]at hn
  conv=>whnf
  repeat'((first|apply st|(apply sq;intro K U)|(apply si;intro A B Y Z)|(apply Y;clear Z B Y A)|(apply U;clear U K)|refine⟨rfl,?_⟩|(refine DU (fun hc=>?_)<;>(try rw[hc])<;>clear hc)|clear U K)<;>conv=>whnf)
  rw[hn];exact Ap hs (List.Sublist.refl _) (.refl _) fun σ' hs'=>⟨_,⟨rfl,rfl⟩,hs'⟩
def NC (stp:Fact→S→Bool×S) (D:Fact→S→Prop) (hx:DD Tryz.prog (.f (.func g) fi ca) (fun y=> .a (xF y)) H stp D) (xs:List Fact) (f:Bool) (s0:S) (hxl:xs.length≤Ac) (hd:UZ stp D xs s0) :
    Bj Tryz.prog 218 [.l (facts xs) f,.f (.func g) fi ca] (H s0) fun r post=>r= .ret (.b (decide ((Bo stp xs 0 s0).1≥0)))∧post=H (Bo stp xs 0 s0).2:=by
 intro σ hs;refine lX kZ ?_
 conv=>whnf
 repeat'((first|(apply sq;intro K U)|(apply si;intro A B Y Z)|(apply Y;clear Z B Y A)|(apply U;clear U K)|fail)<;>conv=>whnf)
 refine(SE g fi ca H stp D hx xs f s0 hxl hd).use (rest:=[]) (by simpa using hs) ?_;rintro r post σ ⟨rfl,rfl⟩ hs
 conv=>whnf
 repeat'((first|apply st|(apply Y;clear Z B Y A)|(apply U;clear U K)|refine⟨rfl,?_⟩|fail)<;>conv=>whnf)
 exact Ap hs (by simp) (.refl _) fun σ' hs'=>⟨_,⟨rfl,rfl⟩,hs'⟩
def ja (stp:Fact→S→Bool×S) (D:Fact→S→Prop) (hx:DD Tryz.prog (.f (.func g) fi ca) (fun y=> .a (xF y)) H stp D):DD Tryz.prog (.f (.func 219) [] [.rp [.f (.func g) fi ca]]) (fun y=> .a (xF y)) H (fun y s=>(!(stp y s).1,(stp y s).2)) D:=by
 intro y s hd σ hs;refine Bp ?_;show BL Tryz.prog 219 ([]++[.a (xF y)]++[.rp [.f (.func g) fi ca]]) σ _;refine lW kZ ?_
 conv=>whnf
 repeat'((first|apply st|(apply sq;intro K U)|(apply si;intro A B Y Z)|(apply Y;clear Z B Y A)|(apply U;clear U K)|refine⟨kZ,?_⟩|fail)<;>conv=>whnf)
 refine hx.use hd hs ?_;clear hs;intro σ hs
 conv=>whnf
 repeat'((first|apply st|(apply Y;clear Z B Y A)|(apply U;clear U K)|fail)<;>conv=>whnf)
 exact Ap hs (List.Sublist.refl _) (.refl _) fun σ' hs'=>⟨rfl,hs'⟩
def aM (stp:Fact→S→Bool×S) (D:Fact→S→Prop) (hx:DD Tryz.prog (.f (.func g) fi ca) (fun y=> .a (xF y)) H stp D) (xs:List Fact) (f:Bool) (s0:S) (hxl:xs.length≤Ac) (hd:UZ stp D xs s0) :
    Bj Tryz.prog 179 [.l (facts xs) f,.f (.func g) fi ca] (H s0) fun r post=>r= .ret (.b (Co stp xs s0).1)∧post=H (Co stp xs s0).2:=by
 intro σ hs;obtain⟨e1,e2⟩:=MO (stp:=stp) xs 0 s0;refine mI kZ ?_
 conv=>whnf
 repeat'((first|(apply sq;intro K U)|(apply si;intro A B Y Z)|(apply Y;clear Z B Y A)|(apply U;clear U K)|fail)<;>conv=>whnf)
 refine(NC 219 [] [.rp [.f (.func g) fi ca]] H _ D (ja g fi ca H stp D hx) xs f s0 hxl (Rk xs s0 hd)).use (rest:=[]) (by simpa using hs) ?_;rintro r post σ ⟨rfl,rfl⟩ hs;rw[e2];rw[e1]at hs
 conv=>whnf
 repeat'((first|apply st|(apply Y;clear Z B Y A)|(apply U;clear U K)|fail)<;>conv=>whnf)
 exact Ap hs (by simp) (by rw[Bool.not_not];exact .refl _) fun σ' hs'=>⟨_,⟨rfl,rfl⟩,hs'⟩
end
abbrev Sl (f:Int→Bool):Int→Unit→Bool×Unit:=fun y _=>(f y,())
def Of {g:FuncId} {fi ca:List V} {f:Int→Bool} {D:Int→Unit→Prop} (h: ∀y,D y ()→Pure Tryz.prog g (fi++[eI y]++ca) (.b (f y))):DD Tryz.prog (.f (.func g) fi ca) eI (fun _=>[]) (Sl f) D:=by
 intro y s hd σ hs;refine Bp ?_;show BL Tryz.prog g (fi++[eI y]++ca) σ _;refine BL.mono ((h y hd).use (k:=fun v σ'=>v= .b (f y)∧Sat σ' []) (kp:=fun _ _=>False) ⟨rfl,Sat.nil⟩) ?_;rintro(v|v) σ' hq
 ·obtain⟨rfl,h⟩:=hq
  exact⟨rfl,h⟩
 ·exact hq.elim
def fo {g:FuncId} {fi ca:List V} {f:Int→Bool} {xs:List Int} (b:Bool) (h: ∀y∈xs,Pure Tryz.prog g (fi++[eI y]++ca) (.b (f y))):Pure Tryz.prog 177 [.l (iL xs) b,.f (.func g) fi ca] (.b (xs.all f)):=by
 have:=aN g fi ca (fun _=>[]) (Sl f) (fun y _=>y∈xs) (Of fun y hy=>h y hy) xs b () (G3 fun y hy _=>hy);rw[JS]at this;exact Pure.of (BL.mono (this emp Sat.nil) fun r σ' ⟨post,⟨h1,h2⟩,h3⟩=>h1)
def Sx (g:FuncId) (fi ca:List V) (f:Int→Bool):Prop:= ∀y:Int,Pure Tryz.prog g (fi++[eI y]++ca) (.b (f y))
def Sx.use {g:FuncId} {fi ca:List V} {f:Int→Bool} (h:Sx g fi ca f) {y:Int} {σ:AH} {k kp:V→AH→Prop} (hk:k (.b (f y)) σ):BA Tryz.prog (.f (.func g) fi ca) [eI y] σ (qk k kp):=Bp ((h y).use hk)
def ew (g:FuncId) (fi ca:List V) (L:List At) (p:Int→Bool) (hx:DD Tryz.prog (.f (.func g) fi ca) eI (fun _:Unit=>L) (Sl p) (fun _ _=>True)) (xs:List Int) (f:Bool):Bj Tryz.prog 286 [.l (iL xs) f,.f (.func g) fi ca] L fun r post=>r= .ret (.l (iL (xs.filter p)) false)∧post=L:=by
 intro σ hs;refine BL.fit (by kernel_rfl) fun hf=>?_
 have hxl:=RV hf.1;have hM:=Mx;refine Z3 kZ ?_
 conv=>whnf
 repeat'((first|apply st|(apply sq;intro K U)|(apply si;intro A B Y Z)|(apply Y;clear Z B Y A)|(apply U;clear U K)|fail)<;>conv=>whnf)
 refine B4 xs.length (fun k v=>[(5,v),(10,eI (A3 k))]) (fun k v=>L++[.own v 1 (iL ((xs.take k).filter p))]) (fun _ _=>True) (.l [] true) rfl trivial (EM hs 1) ?_;clear hs;rintro k v σ hk - hs;have hfl:=KN p (xs.take k);rw[LZ]at hfl;rcases BE xs hk with⟨y,hy,hlt⟩|hke
 ·have hst:(xs.take (k+1)).filter p=if p y then(xs.take k).filter p++[y]else(xs.take k).filter p:=by
   rw[AQ hy,List.filter_append];cases hp:p y<;>simp[hp]
  generalize (xs.take k).filter p=zs at *
  conv=>whnf
  repeat'((first|apply st|(apply sq;intro K U)|(apply si;intro A B Y Z)|(apply Y;clear Z B Y A)|(apply U;clear U K)|refine⟨rfl,?_⟩|refine ix ?_|(refine CA (fun hc=>?_)<;>(try rw[hc])<;>clear hc)|refine hx.vT (s:=()) (rest:=[_]) trivial hs (fun σ hs=>?_)|(constructor<;>intro hc<;>(try rw[hc])<;>(replace hc:=bp hc)<;>(try simp(disch:=omega) only[BD,wrap64,AL]at hc))|clear U K)<;>conv=>whnf)
  ·refine GQ (Fv hs L.length (xs:=zs) (x:=y) List.getElem?_concat_length (by omega) Bq fun v' σ' hs' hsl=>?_)
   rw[List.set_append_right _ _ (JU _),Nat.sub_self]at hs';replace hs:=hs'
   conv=>whnf
   repeat'((first|(apply si;intro A B Y Z)|(apply Y;clear Z B Y A)|(apply U;clear U K)|refine⟨rfl,?_⟩|clear U K)<;>conv=>whnf)
   rw[if_pos (by assumption)]at hst;exact⟨hlt,_,rfl,trivial,by rw[hst];exact hs⟩
  ·rw[if_neg (by simp[*])]at hst
   exact⟨hlt,_,rfl,trivial,by rw[hst];exact hs⟩
 ·conv=>whnf
  repeat'((first|apply st|(apply sq;intro K U)|(apply si;intro A B Y Z)|(apply Y;clear Z B Y A)|(apply U;clear U K)|refine⟨rfl,?_⟩|(refine DU (fun hc=>?_)<;>(try rw[hc])<;>clear hc)|clear U K)<;>conv=>whnf)
  rw[Au hke]at hs;obtain⟨σ2,h1,h2,h3⟩:=Ir hs L.length List.getElem?_concat_length;refine F3 h1 h2 ⟨_,⟨rfl,rfl⟩,?_⟩;rw[List.eraseIdx_append_of_length_le (JU _),Nat.sub_self]at h3;simpa using h3
def bn (g:FuncId) (fi ca:List V) (p:Int→Bool) (hpf:Sx g fi ca p) (xs:List Int) (u:V) (hxl:xs.length≤Ac):Bj Tryz.prog 286 [u,.f (.func g) fi ca] [.own u 1 (iL xs)] fun r post=>r= .ret (.l (iL (xs.filter p)) false)∧post= [.own u 1 (iL xs)]:=by
 intro σ hs;have hM:=Mx;refine Z3 kZ ?_
 conv=>whnf
 repeat'((first|apply st|(apply sq;intro K U)|(apply si;intro A B Y Z)|(apply Y;clear Z B Y A)|(apply U;clear U K)|refine lo ?_|fail)<;>conv=>whnf)
 refine B4 xs.length (fun k v=>[(5,v),(10,eI (A3 k))]) (fun k v=>[.own u 1 (iL xs),.own v 1 (iL ((xs.take k).filter p))]) (fun _ _=>True) (.l [] true) rfl trivial (EM hs 1) ?_;clear hs;rintro k v σ hk - hs;have hfl:=KN p (xs.take k);rw[LZ]at hfl;rcases BE xs hk with⟨y,hy,hlt⟩|hke
 ·have hst:(xs.take (k+1)).filter p=if p y then(xs.take k).filter p++[y]else(xs.take k).filter p:=by
   rw[AQ hy,List.filter_append];cases hp:p y<;>simp[hp]
  generalize (xs.take k).filter p=zs at *
  conv=>whnf
  repeat'((first|apply st|(apply sq;intro K U)|(apply si;intro A B Y Z)|(apply Y;clear Z B Y A)|(apply U;clear U K)|refine⟨rfl,?_⟩|refine oc ?_|refine NX ?_|refine aq fun v σ hs hsl=>?_|(refine CA (fun hc=>?_)<;>(try rw[hc])<;>clear hc)|refine Sx.use hpf ?_|(constructor<;>intro hc<;>(try rw[hc])<;>(replace hc:=bp hc))|clear U K)<;>conv=>whnf)
  ·rw[if_pos (by assumption)]at hst
   exact⟨hlt,_,rfl,trivial,by rw[hst];exact hs.take 2⟩
  ·rw[if_neg (by simp[*])]at hst
   exact⟨hlt,_,rfl,trivial,by rw[hst];exact hs.take 2⟩
 ·conv=>whnf
  repeat'((first|apply st|(apply sq;intro K U)|(apply si;intro A B Y Z)|(apply Y;clear Z B Y A)|(apply U;clear U K)|refine⟨rfl,?_⟩|(refine DU (fun hc=>?_)<;>(try rw[hc])<;>clear hc)|clear U K)<;>conv=>whnf)
  rw[Au hke]at hs;obtain⟨σ2,h1,h2,h3⟩:=Ir hs 1 rfl;exact F3 h1 h2 ⟨_,⟨rfl,rfl⟩,h3⟩
def pY:Sx 289 [] [] (· != 0):=by
 intro y;refine kC kZ ?_;have hs:=Sn
 conv=>whnf
 repeat'((first|apply st|(apply sq;intro K U)|(apply si;intro A B Y Z)|(apply Y;clear Z B Y A)|(apply U;clear U K)|refine⟨rfl,?_⟩|fail)<;>conv=>whnf)
 all_goals exact AI rfl
def cZ (xs:List Int) (u:V) (hxl:xs.length≤Ac):Bj Tryz.prog 285 [u] [.own u 1 (iL xs)] fun r post=>r= .ret (.l (iL (xs.filter (· != 0))) false)∧post= [.own u 1 (iL xs)]:=by
 intro σ hs;refine kF kZ ?_
 conv=>whnf
 repeat'((first|(apply sq;intro K U)|(apply si;intro A B Y Z)|(apply Y;clear Z B Y A)|(apply U;clear U K)|fail)<;>conv=>whnf)
 refine(bn 289 [] [] (· != 0) pY xs u hxl).use (rest:=[]) hs ?_;clear hs;rintro r post σ ⟨rfl,rfl⟩ hs
 conv=>whnf
 repeat'((first|apply st|(apply Y;clear Z B Y A)|(apply U;clear U K)|fail)<;>conv=>whnf)
 exact Ap hs (by simp) (.refl _) fun σ' hs'=>⟨_,⟨rfl,rfl⟩,hs'⟩
def W7 (g : List (List Int)) (f:Bool):Pure Tryz.prog 249 [.l (Ej g) f] (.b (Dt g)):=by
 refine Pure.fit (by kernel_rfl) fun hf=>?_
 have⟨g1,g2⟩:=RU hf.1;have hM:=Mx;refine lA kZ ?_;have hs:=Sn;by_cases h16:g.length≤16
 ·conv=>whnf
  repeat'((first|apply st|(apply sq;intro K U)|(apply si;intro A B Y Z)|(apply Y;clear Z B Y A)|(apply U;clear U K)|refine⟨rfl,?_⟩|(constructor<;>intro hc<;>(try rw[hc])<;>(replace hc:=bp hc)<;>(try simp(disch:=omega) only[BD,wrap64,AL]at hc)<;>try(exfalso;omega))|fail)<;>conv=>whnf)
  all_goals try(exfalso;omega)
  refine B4 g.length (fun k (_:Unit)=>[(12,eI (A3 k))]) (fun _ _=>[]) (fun k _=>Dt g=IJ k (g.drop k)) () rfl (by simp[Dt,h16]) hs ?_;clear hs;rintro k - σ hk hn hs;have hck:A3 k=k:=AL (by omega);rcases BE g hk with⟨l,hl,hlt⟩|hke
  ·have hll:=g2 l (B1 hl)
   rw[drop_cons hl,IJ]at hn;by_cases h3:l.length≤3
   ·rw[decide_eq_true h3,Ey]at hn
    conv=>whnf
    repeat'((first|apply st|(apply sq;intro K U)|(apply si;intro A B Y Z)|(apply Y;clear Z B Y A)|(apply U;clear U K)|refine⟨rfl,?_⟩|refine ix ?_|(refine CA (fun hc=>?_)<;>(try rw[hc])<;>clear hc)|(constructor<;>intro hc<;>(try rw[hc])<;>(replace hc:=bp hc)<;>(try simp(disch:=omega) only[BD,wrap64,AL]at hc)<;>try(exfalso;omega))|fail)<;>conv=>whnf)
    all_goals try(exfalso;omega)
    refine B4 l.length (fun j (_:Unit)=>[(22,eI (A3 j))]) (fun _ _=>[]) (fun j _=>Dt g=(Lp k (l.take j) (l.drop j)&&IJ (k+1) (g.drop (k+1)))) () rfl hn hs ?_;clear hs hn;rintro j - σ hj hn hs;rcases BE l hj with⟨c,hc0,hjlt⟩|hje
    ·rw[drop_cons hc0,Lp,iG]at hn
     have hw:IntKind.i64.wrap (3+A3 k)=3+(k:Int):=by rw[hck,wrap64 (by omega) (by omega)]
     conv=>whnf
     repeat'((first|apply st|(apply sq;intro K U)|(apply si;intro A B Y Z)|(apply Y;clear Z B Y A)|(apply U;clear U K)|refine⟨rfl,?_⟩|refine ix ?_|refine vG ?_|(refine CA (fun hc=>?_)<;>(try rw[hc])<;>clear hc)|refine Pure.use (D0 _ _ _) ?_|(constructor<;>intro hc<;>(try rw[hc])<;>(replace hc:=bp hc)<;>(try simp(disch:=omega) only[BD,wrap64,AL]at hc))|clear U K)<;>conv=>whnf)
     ·exact AI (by rw[hn,hc];simp)
     ·exact⟨hjlt,(),rfl,by rw[hn,hc,AQ hc0];simp[*],hs⟩
     ·exact AI (by(rw[hn];have: ¬c<3+(k:Int):=by omega);simp[this])
     ·exact AI (by(rw[hn];have: ¬3≤c:=by omega);simp[this])
    ·conv=>whnf
     repeat'((first|apply st|(apply sq;intro K U)|(apply si;intro A B Y Z)|(apply Y;clear Z B Y A)|(apply U;clear U K)|refine⟨rfl,?_⟩|(refine DU (fun hc=>?_)<;>(try rw[hc])<;>clear hc)|clear U K)<;>conv=>whnf)
     exact⟨hlt,(),rfl,by rw[hn,Ag hje];rfl,hs⟩
   ·conv=>whnf
    repeat'((first|apply st|(apply sq;intro K U)|(apply si;intro A B Y Z)|(apply Y;clear Z B Y A)|(apply U;clear U K)|refine⟨rfl,?_⟩|refine ix ?_|(refine CA (fun hc=>?_)<;>(try rw[hc])<;>clear hc)|(constructor<;>intro hc<;>(try rw[hc])<;>(replace hc:=bp hc)<;>(try simp(disch:=omega) only[BD,wrap64,AL]at hc)<;>try(exfalso;omega))|clear U K)<;>conv=>whnf)
    all_goals try(exfalso;omega)
    exact AI (by rw[hn];simp[h3])
  ·conv=>whnf
   repeat'((first|apply st|(apply sq;intro K U)|(apply si;intro A B Y Z)|(apply Y;clear Z B Y A)|(apply U;clear U K)|refine⟨rfl,?_⟩|(refine DU (fun hc=>?_)<;>(try rw[hc])<;>clear hc)|clear U K)<;>conv=>whnf)
   exact AI (by rw[hn,Ag hke];rfl)
 ·conv=>whnf
  repeat'((first|apply st|(apply sq;intro K U)|(apply si;intro A B Y Z)|(apply Y;clear Z B Y A)|(apply U;clear U K)|refine⟨rfl,?_⟩|(constructor<;>intro hc<;>(try rw[hc])<;>(replace hc:=bp hc)<;>(try simp(disch:=omega) only[BD,wrap64,AL]at hc)<;>try(exfalso;omega))|clear U K)<;>conv=>whnf)
  all_goals try(exfalso;omega)
  exact AI (by simp[Dt,h16])
def Th (g:List (List Int)) (f:Bool):Pure Tryz.prog 208 [.l (Ej g) f] (eI (if Dt g then 0 else 2)):=by
 refine lr kZ ?_;have hs:=Sn
 conv=>whnf
 repeat'((first|apply st|(apply sq;intro K U)|(apply si;intro A B Y Z)|(apply Y;clear Z B Y A)|(apply U;clear U K)|refine Pure.use (W7 _ _) ?_|(constructor<;>intro hc<;>(try rw[hc])<;>(replace hc:=bp hc))|clear U K)<;>conv=>whnf)
 all_goals exact AI (by simp[*])
end Go.Gl
