import Derived.Test.YtijbpgdmpejgoaaGreatV10
set_option linter.all false
noncomputable section
namespace Go.Gl
open Go.Proofs
attribute [local irreducible] BL A4 Aj AW AM Ai AV AX AN Ah AS AU A8 BJ Sat Ac BF Ak W
abbrev BB:=List Bool×List Bool
def GC (x:Fact×Bool) (t:BB):Option BB:=
 if x.1.op≠2∨x.1.cls=1∨x.1.cls=2 then(if x.2 then some t else none)else
 if x.2 then some (t.1,t.2.set x.1.cls.toNat true)else some (t.1.set x.1.cls.toNat true,t.2)
def ED:List Fact→BB→Option BB
 | [],t=>some t
 | x::r,t=>(GC (A1 x) t).bind (ED r)
def IF (w:AK) (ls:List Fact) (a:Int) (p:List Int) (can:Int→Bool) (s:Int) (t:BB):Option BB:=
 if !ES ls a (p++[s])&& !can s then none else some (if ES ls a (p++[s])then t.1 else t.1.set (CV w s).toNat true,if can s then t.2 else t.2.set (CV w s).toNat true)
def Du (w:AK) (ls:List Fact) (a:Int) (p:List Int) (can:Int→Bool):List Int→BB→Option BB
 | [],t=>some t
 | s::r,t=>(IF w ls a p can s t).bind (Du w ls a p can r)
def Hg (ps:List (List Int)) (c:Nat) (bs:List Bool):List Bool:=if bs.getD c false then(par ps c).foldl (fun b q=>b.set q.toNat true) bs else bs
def B8 (ps:List (List Int)) (n:Nat):Nat→List Bool→List Bool
 | 0,bs=>bs
 | k+1,bs=>Hg ps (n - 1 - k) (B8 ps n k bs)
theorem G2: ∀(l:List Int) (bs:List Bool),(l.foldl (fun b q=>b.set q.toNat true) bs).length=bs.length
 | [],_=>rfl
 | q::r,bs=>by rw[List.foldl_cons,G2 r,List.length_set]
theorem Ek (ps:List (List Int)) (n:Nat): ∀(k:Nat) (bs:List Bool),(B8 ps n k bs).length=bs.length
 | 0,_=>rfl
 | k+1,bs=>by
   rw[B8,Hg];split
   ·rw[G2,Ek ps n k bs]
   ·exact Ek ps n k bs
def Sc (w:AK) (t:BB):Option (List Bool):=
 if t.2.getD 0 false then none else
 if(List.range (3+w.parents.length)).any (fun c=>(B8 w.parents (3+w.parents.length) w.parents.length (t.1.set 0 false)).getD c false&&t.2.getD c false)then none else some (B8 w.parents (3+w.parents.length) w.parents.length (t.1.set 0 false))
def tO (w:AK):BB:=(List.replicate (3+w.parents.length) false,List.replicate (3+w.parents.length) false)
def Jo (w:AK) (ls:List Fact) (a:Int) (p:List Int) (can:Int→Bool):Option (List Bool):=
 ((ED (ls.filter (Gp a p)) (tO w)).bind (Du w ls a p can (Bt w.owner.length ls a p))).bind (Sc w)
def pC (o:Option (List Bool)):V:=match o with
 | some m=> .t [.l (bL m) false,.b true]
 | none=> .t [.l [] true,.b false]
theorem MI: ∀(xs ys:List Fact) (t:BB),ED (xs++ys) t=(ED xs t).bind (ED ys)
 | [],_,_=>rfl
 | x::r,ys,t=>by
   simp only[List.cons_append,ED];cases GC (A1 x) t with
   | none=>rfl
   | some u=>exact MI r ys u
theorem H8 {os:List Fact} {k:Nat} {x:Fact} (hx:os[k]? =some x) (t:BB):ED (os.take (k+1)) t=(ED (os.take k) t).bind (GC (A1 x)):=by
 rw[AR hx,MI];congr 1;funext u;simp only[ED];cases GC (A1 x) u<;>rfl
theorem Vc {os:List Fact} (k:Nat) {t:BB} (h:ED (os.take k) t=none):ED os t=none:=by
 rw[←List.take_append_drop k os,MI,h];rfl
theorem MH {w:AK} {ls:List Fact} {a:Int} {p:List Int} {can:Int→Bool}: ∀(xs ys:List Int) (t:BB),Du w ls a p can (xs++ys) t=(Du w ls a p can xs t).bind (Du w ls a p can ys)
 | [],_,_=>rfl
 | x::r,ys,t=>by
   simp only[List.cons_append,Du];cases IF w ls a p can x t with
   | none=>rfl
   | some u=>exact MH r ys u
theorem H7 {w:AK} {ls:List Fact} {a:Int} {p:List Int} {can:Int→Bool} {os:List Int} {k:Nat} {x:Int} (hx:os[k]? =some x) (t:BB):Du w ls a p can (os.take (k+1)) t=(Du w ls a p can (os.take k) t).bind (IF w ls a p can x):=by
 rw[AR hx,MH];congr 1;funext u;simp only[Du];cases IF w ls a p can x u<;>rfl
theorem Vb {w:AK} {ls:List Fact} {a:Int} {p:List Int} {can:Int→Bool} {os:List Int} (k:Nat) {t:BB} (h:Du w ls a p can (os.take k) t=none):Du w ls a p can os t=none:=by
 rw[←List.take_append_drop k os,MH,h];rfl
theorem JM {n:Nat} {ls:List Fact} {a:Int} {p:List Int} {s:Int} (h:s∈Bt n ls a p):0≤s∧s<n:=by
 have:=(JZ.1 h).1;simp only[Bu,Lc,List.mem_range]at this;obtain⟨m,hm,rfl⟩:=this;exact⟨Int.natCast_nonneg m,by simpa using hm⟩
def Su (w:AK) (ls:List Fact):Prop:= ∀l∈ls,(A1 l).1.op=2→0≤(A1 l).1.cls∧(A1 l).1.cls<3+w.parents.length
set_option maxHeartbeats 8000000 in
theorem QP (w:AK) (ls:List Fact) (a:Int) (p:List Int) (c:Bool) (can:Int→Bool) (hokL: ∀l∈ls,GF l) (hln:ls.length≤1000000) (hp:p.length<50) (hw:Ld w) (hcl:Su w ls) (hcan: ∀s∈Bt w.owner.length ls a p,Pure Tryz.prog 185 [.a (Gc w ls a (p++[s]) c)] (.b (can s))) :
 Pure Tryz.prog 236 [.a (Gc w ls a p c)] (pC (Jo w ls a p can)):=by
 refine Pure.fit (by kernel_rfl) fun hf=>?_
 have⟨h1,h2,h3,h4⟩:=GL hf.1;have hM:=Mx;have hwl:=hw.len;have hwo:=hw.iX;refine lJ nb ?_;have hs:=Sn;have hfl:=LV (Gp a p) ls;have hok: ∀l∈ls.filter (Gp a p),GF l:=fun l hl=>hokL l (JZ.1 hl).1
 have hcl2:Su w (ls.filter (Gp a p)):=fun l hl=>hcl l (JZ.1 hl).1
 have hfl2:(Bt w.owner.length ls a p).length≤w.owner.length:=by
  have:=LV (fun s=>ls.any (V3 a p s)) (Bu w.owner.length);rw[Eh]at this;exact this
 conv=>whnf
 repeat'((first|apply st|(apply sq;intro K U)|(apply si;intro A B Y Z)|(apply Y;clear Z B Y A)|(apply U;clear U K)|refine⟨rfl,?_⟩|fail)<;>conv=>whnf)
 rw[show IntKind.i64.wrap (3+((En w.parents).length:Nat))=((3+w.parents.length:Nat):Int) by rw[BE,wrap64 (by omega) (by omega)];omega];refine vF hs (by omega) fun v1 σ hs hv=>?_
 obtain⟨id1,rfl⟩:=hv
 conv=>whnf
 repeat'((first|apply st|(apply sq;intro K U)|(apply si;intro A B Y Z)|(apply Y;clear Z B Y A)|(apply U;clear U K)|refine⟨rfl,?_⟩|fail)<;>conv=>whnf)
 rw[show IntKind.i64.wrap (3+((En w.parents).length:Nat))=((3+w.parents.length:Nat):Int) by rw[BE,wrap64 (by omega) (by omega)];omega];refine vF hs (by omega) fun v2 σ hs hv=>?_
 obtain⟨id2,rfl⟩:=hv
 conv=>whnf
 repeat'((first|apply st|(apply sq;intro K U)|(apply si;intro A B Y Z)|(apply Y;clear Z B Y A)|(apply U;clear U K)|refine⟨nb,?_⟩|refine Pure.use (ZY _ _ _ _ _ hokL hln) ?_|fail)<;>conv=>whnf)
 generalize hos:ls.filter (Gp a p)=os at *;have hV:Jo w ls a p can=((ED os (tO w)).bind (Du w ls a p can (Bt w.owner.length ls a p))).bind (Sc w):=by rw[Jo,hos]
 refine B4 os.length (fun k (_:BB)=>[(34,eI (A6 k))]) (fun k t=>[.own (.sl id1 (3+w.parents.length) (3+w.parents.length)) 1 (bL t.1),.own (.sl id2 (3+w.parents.length) (3+w.parents.length)) 1 (bL t.2)]) (fun k t=>ED (os.take k) (tO w)=some t∧t.1.length=3+w.parents.length∧t.2.length=3+w.parents.length) (tO w) rfl ⟨rfl,by simp[tO],by simp[tO]⟩ (by simpa[tO,bL]using hs) ?_;clear hs;rintro k ⟨CD,no⟩ σ hk ⟨hno,hl1,hl2⟩ hs;simp only at hl1 hl2;dsimp only at hs
 conv=>whnf
 repeat'((first|apply st|(apply sq;intro K U)|(apply si;intro A B Y Z)|(apply Y;clear Z B Y A)|(apply U;clear U K)|refine⟨rfl,?_⟩|refine⟨nb,?_⟩|refine NB ?_|refine ld ?_|refine sn fun σ hs=>?_|(refine fc (fun x hx hlt hc=>?_) (fun hk hc=>?_)<;>(try rw[hc])<;>clear hc)|refine Pure.use (HR _ (hok _ (B2 (by assumption)))) ?_|refine Pure.use (TB _ _ _ _ _ hokL (by omega)) ?_|(constructor<;>intro hc<;>(try rw[hc])<;>(replace hc:=bp hc))|(intro nn hnn;generalize hg:BC _ nn _=σ;refine al hg fun hs=>?_;clear hg)|clear U K)<;>conv=>whnf)
 all_goals try
  (have hcx:=hcl2 _ (B2 hx) (by assumption)
   conv=>whnf
   repeat'((first|(apply si;intro A B Y Z)|(apply Y;clear Z B Y A)|(apply U;clear U K)|refine⟨rfl,?_⟩|refine dS fun σ hs=>?_|refine oi ?_|clear U K)<;>conv=>whnf)
  )
 all_goals first
  | (refine AI ?_
     have:ED os (tO w)=none:=Vc (k+1) (by rw[H8 hx,hno];simp[GC, *]);rw[hV,this]
     rfl)
  | exact⟨hlt,(CD,no),rfl,⟨by rw[H8 hx,hno];simp[GC, *],hl1,hl2⟩,hs.take 2⟩
  | exact⟨hlt,(CD.set (A1 x).1.cls.toNat true,no),rfl,⟨by rw[H8 hx,hno];simp[GC, *],by simpa using hl1,hl2⟩,hs.take 2⟩
  | exact⟨hlt,(CD,no.set (A1 x).1.cls.toNat true),rfl,⟨by rw[H8 hx,hno];simp[GC, *],hl1,by simpa using hl2⟩,hs.take 2⟩
  | skip
 rw[Ar (by assumption)]at hno;have hV2:Jo w ls a p can=(Du w ls a p can (Bt w.owner.length ls a p) (CD,no)).bind (Sc w):=by rw[hV,hno];rfl
 clear hno;generalize hsl:Bt w.owner.length ls a p=sl at *;have hsi: ∀s∈sl,0≤s∧s<w.owner.length:=fun s h=>JM (by rw[hsl];exact h)
 refine B4 sl.length (fun k (_:BB)=>[(73,eI (A6 k))]) (fun k t=>[.own (.sl id1 (3+w.parents.length) (3+w.parents.length)) 1 (bL t.1),.own (.sl id2 (3+w.parents.length) (3+w.parents.length)) 1 (bL t.2)]) (fun k t=>Du w ls a p can (sl.take k) (CD,no)=some t∧t.1.length=3+w.parents.length∧t.2.length=3+w.parents.length) (CD,no) rfl ⟨rfl,hl1,hl2⟩ hs ?_;clear hs hl1 hl2;rintro k ⟨m1,n1⟩ σ hk ⟨hno,hl1,hl2⟩ hs;simp only at hl1 hl2;dsimp only at hs;rcases BH sl hk with⟨x,hx,hlt⟩|hke
 ·have hxm:=B2 hx
  obtain⟨hx0,hx1⟩:=hsi x hxm
  have hox:w.owner[x.toNat]? =some (CV w x):=by
   rw[CV,DL,Cu (by omega)];rfl
  have ho:=hw.own _ (B2 hox);have hcx:=hcan x hxm;have hbx:=XN w ls a (p++[x]) c hokL;cases Z:ES ls a (p++[x])<;>cases hC:can x<;>rw[Z]at hbx<;>rw[hC]at hcx
  ·conv=>whnf
   repeat'((first|apply st|(apply sq;intro K U)|(apply si;intro A B Y Z)|(apply Y;clear Z B Y A)|(apply U;clear U K)|apply dr|refine rk ?_ ?_|exact fun s e=>by cases e;rfl|refine⟨rfl,?_⟩|refine⟨nb,?_⟩|refine ix ?_|refine ld ?_|refine sn fun σ hs=>?_|refine E0 ?_|(refine CS (fun hc=>?_)<;>(try rw[hc])<;>clear hc)|refine Pure.use (JE _ _ _ _ _ _ (by omega)) ?_|(intro nn hnn;generalize hg:BC _ nn _=σ;refine al hg fun hs=>?_;clear hg)|refine Pure.use (by assumption) ?_|clear U K)<;>conv=>whnf)
   refine AI ?_;have:Du w ls a p can sl (CD,no)=none:=Vb (k+1) (by rw[H7 hx,hno];simp[IF, *]);rw[hV2,this];rfl
  ·conv=>whnf
   repeat'((first|apply st|(apply sq;intro K U)|(apply si;intro A B Y Z)|(apply Y;clear Z B Y A)|(apply U;clear U K)|apply dr|refine rk ?_ ?_|exact fun s e=>by cases e;rfl|refine⟨rfl,?_⟩|refine⟨nb,?_⟩|refine ix ?_|refine F6 ?_|refine dS fun σ hs=>?_|refine ld ?_|refine sn fun σ hs=>?_|refine oi ?_|refine E0 ?_|refine D2 ?_|(refine CS (fun hc=>?_)<;>(try rw[hc])<;>clear hc)|refine Pure.use (JE _ _ _ _ _ _ (by omega)) ?_|(intro nn hnn;generalize hg:BC _ nn _=σ;refine al hg fun hs=>?_;clear hg)|refine Pure.use (by assumption) ?_|clear U K)<;>conv=>whnf)
   exact⟨hlt,(m1.set (CV w x).toNat true,n1),rfl,⟨by rw[H7 hx,hno];simp[IF, *],by simpa using hl1,hl2⟩,hs.take 2⟩
  ·conv=>whnf
   repeat'((first|apply st|(apply sq;intro K U)|(apply si;intro A B Y Z)|(apply Y;clear Z B Y A)|(apply U;clear U K)|apply dr|refine rk ?_ ?_|exact fun s e=>by cases e;rfl|refine⟨rfl,?_⟩|refine⟨nb,?_⟩|refine ix ?_|refine F6 ?_|refine dS fun σ hs=>?_|refine ld ?_|refine sn fun σ hs=>?_|refine oi ?_|refine E0 ?_|refine D2 ?_|(refine CS (fun hc=>?_)<;>(try rw[hc])<;>clear hc)|refine Pure.use (JE _ _ _ _ _ _ (by omega)) ?_|(intro nn hnn;generalize hg:BC _ nn _=σ;refine al hg fun hs=>?_;clear hg)|refine Pure.use (by assumption) ?_|clear U K)<;>conv=>whnf)
   exact⟨hlt,(m1,n1.set (CV w x).toNat true),rfl,⟨by rw[H7 hx,hno];simp[IF, *],hl1,by simpa using hl2⟩,hs.take 2⟩
  ·conv=>whnf
   repeat'((first|apply st|(apply sq;intro K U)|(apply si;intro A B Y Z)|(apply Y;clear Z B Y A)|(apply U;clear U K)|apply dr|refine rk ?_ ?_|exact fun s e=>by cases e;rfl|refine⟨rfl,?_⟩|refine⟨nb,?_⟩|refine ix ?_|refine ld ?_|refine sn fun σ hs=>?_|refine D2 ?_|(refine CS (fun hc=>?_)<;>(try rw[hc])<;>clear hc)|refine Pure.use (JE _ _ _ _ _ _ (by omega)) ?_|(intro nn hnn;generalize hg:BC _ nn _=σ;refine al hg fun hs=>?_;clear hg)|refine Pure.use (by assumption) ?_|clear U K)<;>conv=>whnf)
   exact⟨hlt,(m1,n1),rfl,⟨by rw[H7 hx,hno];simp[IF, *],hl1,hl2⟩,hs.take 2⟩
 ·rw [Ar hke]at hno
  have hV3:Jo w ls a p can=Sc w (m1,n1):=by rw[hV2,hno];rfl
  have hrow: ∀l∈w.parents,l.length≤Ad:=(RU (g:=false) (by have:=hf.1;simp only[Gc,G0,DZ]at this;exact this.1)).2
  have hen:Jo w ls a p can=if n1.getD 0 false then none else
   if(List.range (3+w.parents.length)).any (fun c=>(B8 w.parents (3+w.parents.length) w.parents.length (m1.set 0 false)).getD c false&&n1.getD c false)then none else some (B8 w.parents (3+w.parents.length) w.parents.length (m1.set 0 false)):=hV3.trans rfl
  clear hcan hcl hV hV2 hV3 hno hos hsl hcl2 hok;obtain⟨n0,hn0⟩: ∃b,n1[0]? =some b:=⟨_,Cu (by omega)⟩
  have hn0':n1[Int.toNat 0]? =some n0:=hn0;have hng:n1.getD 0 false=n0:=by rw[DL,hn0];rfl
  rw[hng]at hen;cases n0
  ·generalize hms:m1.set 0 false=ms at *
   have hl3:ms.length=3+w.parents.length:=by rw[←hms,List.length_set];exact hl1
   conv=>whnf
   repeat'((first|apply st|(apply sq;intro K U)|(apply si;intro A B Y Z)|(apply Y;clear Z B Y A)|(apply U;clear U K)|refine⟨rfl,?_⟩|refine lo ?_|refine dS fun σ hs=>?_|refine oi ?_|refine NX ?_|(refine Dh (fun hc=>?_)<;>(try rw[hc])<;>clear hc)|clear U K)<;>conv=>whnf)
   replace hs:Sat σ [.own (.sl id1 (3+w.parents.length) (3+w.parents.length)) 1 (bL ms),.own (.sl id2 (3+w.parents.length) (3+w.parents.length)) 1 (bL n1)]:=by rw[←hms];exact hs
   rw[show IntKind.i64.wrap (((bL (m1.set (Int.toNat 0) false)).length:Nat) - 1)=((2+w.parents.length:Nat):Int) by rw[BE,List.length_set,hl1,wrap64 (by omega) (by omega)];omega];refine B4 w.parents.length (fun k (_:Unit)=>[(15,eI (My ((2+w.parents.length:Nat):Int) k))]) (fun k _=>[.own (.sl id1 (3+w.parents.length) (3+w.parents.length)) 1 (bL (B8 w.parents (3+w.parents.length) k ms)),.own (.sl id2 (3+w.parents.length) (3+w.parents.length)) 1 (bL n1)]) (fun k _=>True) () rfl trivial hs ?_;clear hs;rintro k - σ hk - hs;have hd:My ((2+w.parents.length:Nat):Int) k=((2+w.parents.length:Nat):Int) - k:=Rz (by omega) (by omega);have hcl:=Ek w.parents (3+w.parents.length) k ms;rcases Nat.lt_or_ge k w.parents.length with hlt|hge
   ·have hpw:w.parents[(IntKind.i64.wrap (My ((2+w.parents.length:Nat):Int) k - 3)).toNat]? =some (par w.parents (3+w.parents.length - 1 - k)):=by
     rw[hd,wrap64 (by omega) (by omega),show(((2+w.parents.length:Nat):Int) - k - 3).toNat=(3+w.parents.length - 1 - k) - 3 by omega];exact Zr (by omega) (by omega)
    have hwi:0≤IntKind.i64.wrap (My ((2+w.parents.length:Nat):Int) k - 3):=by rw[hd,wrap64 (by omega) (by omega)];omega
    have hpl:=hrow _ (B2 hpw);have hpr:=fun q=>hw.ord (3+w.parents.length - 1 - k) q
    generalize hpe:par w.parents (3+w.parents.length - 1 - k)=pr at *;generalize hce:B8 w.parents (3+w.parents.length) k ms=ce at *;have hcs:B8 w.parents (3+w.parents.length) (k+1) ms=if ce.getD (3+w.parents.length - 1 - k) false then pr.foldl (fun b q=>b.set q.toNat true) ce else ce:=by rw[B8,Hg,hce,hpe]
    conv=>whnf
    repeat'((first|apply st|(apply sq;intro K U)|(apply si;intro A B Y Z)|(apply Y;clear Z B Y A)|(apply U;clear U K)|refine⟨rfl,?_⟩|refine F6 ?_|refine oi ?_|refine ol fun x hx=>?_|(constructor<;>intro hc<;>(try rw[hc])<;>(replace hc:=bp hc)<;>try(exfalso;omega))|clear U K)<;>conv=>whnf)
    ·rw[show(My ((2+w.parents.length:Nat):Int) k).toNat=3+w.parents.length - 1 - k by rw[hd];omega]at hx
     rw[DL,hx,hc]at hcs;simp only[Option.getD_some,if_true]at hcs;refine B4 pr.length (fun j (_:Unit)=>[(135,eI (A6 j))]) (fun j _=>[.own (.sl id1 (3+w.parents.length) (3+w.parents.length)) 1 (bL ((pr.take j).foldl (fun b q=>b.set q.toNat true) ce)),.own (.sl id2 (3+w.parents.length) (3+w.parents.length)) 1 (bL n1)]) (fun _ _=>True) () rfl trivial hs ?_;clear hs hx;rintro j - σ hj - hs;have hfl:=G2 (pr.take j) ce;rcases BH pr hj with⟨q,hq,hjlt⟩|hje
     ·have hqr:=hpr q (B2 hq)
      conv=>whnf
      repeat'((first|apply st|(apply sq;intro K U)|(apply si;intro A B Y Z)|(apply Y;clear Z B Y A)|(apply U;clear U K)|refine⟨rfl,?_⟩|refine ix ?_|refine dS fun σ hs=>?_|refine oi ?_|(refine CS (fun hc=>?_)<;>(try rw[hc])<;>clear hc)|clear U K)<;>conv=>whnf)
      exact⟨hjlt,(),rfl,trivial,by rw[AR hq,List.foldl_append];exact hs⟩
     ·conv=>whnf
      repeat'((first|apply st|(apply sq;intro K U)|(apply si;intro A B Y Z)|(apply Y;clear Z B Y A)|(apply U;clear U K)|refine⟨rfl,?_⟩|(refine Dh (fun hc=>?_)<;>(try rw[hc])<;>clear hc)|clear U K)<;>conv=>whnf)
      rw[Ar hje]at hs;exact⟨hlt,(),rfl,trivial,by rw[hcs];exact hs⟩
    ·rw[show(My ((2+w.parents.length:Nat):Int) k).toNat=3+w.parents.length - 1 - k by rw[hd];omega]at hx
     rw[DL,hx,hc]at hcs;simp only[Option.getD_some,LY,if_false]at hcs;exact⟨hlt,(),rfl,trivial,by rw[hcs];exact hs⟩
   ·have hke2:k=w.parents.length:=by omega
    rw[hke2]at hs hcl;generalize hme:B8 w.parents (3+w.parents.length) w.parents.length ms=me at *
    conv=>whnf
    repeat'((first|apply st|(apply sq;intro K U)|(apply si;intro A B Y Z)|(apply Y;clear Z B Y A)|(apply U;clear U K)|refine⟨rfl,?_⟩|refine lo ?_|(constructor<;>intro hc<;>(try rw[hc])<;>(replace hc:=bp hc)<;>try(exfalso;omega))|clear U K)<;>conv=>whnf)
    refine B4 me.length (fun j (_:Unit)=>[(145,eI (A6 j))]) (fun _ _=>[.own (.sl id1 (3+w.parents.length) (3+w.parents.length)) 1 (bL me),.own (.sl id2 (3+w.parents.length) (3+w.parents.length)) 1 (bL n1)]) (fun j _=>Jo w ls a p can=if((List.range (3+w.parents.length)).drop j).any (fun c=>me.getD c false&&n1.getD c false)then none else some me) () rfl hen hs ?_;clear hs hen;rintro j - σ hj hn hs;rcases BH me hj with⟨x,hx,hjlt⟩|hje
    ·obtain⟨y,hy⟩: ∃y,n1[j]? =some y:=⟨_,Cu (by omega)⟩
     have hrg:(List.range (3+w.parents.length))[j]? =some j:=by rw[List.getElem?_range (by omega)]
     rw[drop_cons hrg,Q6,DL,DL,hx,hy]at hn;cases x<;>cases y<;>simp only[Option.getD_some,Bool.and_true,Bool.and_false,Bool.false_or,Bool.true_or,if_true]at hn
     ·conv=>whnf
      repeat'((first|apply st|(apply sq;intro K U)|(apply si;intro A B Y Z)|(apply Y;clear Z B Y A)|(apply U;clear U K)|refine⟨rfl,?_⟩|refine oc ?_|refine NX ?_|(refine CS (fun hc=>?_)<;>(try rw[hc])<;>clear hc)|clear U K)<;>conv=>whnf)
      exact⟨hjlt,(),rfl,hn,hs⟩
     ·conv=>whnf
      repeat'((first|apply st|(apply sq;intro K U)|(apply si;intro A B Y Z)|(apply Y;clear Z B Y A)|(apply U;clear U K)|refine⟨rfl,?_⟩|refine oc ?_|refine NX ?_|(refine CS (fun hc=>?_)<;>(try rw[hc])<;>clear hc)|clear U K)<;>conv=>whnf)
      exact⟨hjlt,(),rfl,hn,hs⟩
     ·conv=>whnf
      repeat'((first|apply st|(apply sq;intro K U)|(apply si;intro A B Y Z)|(apply Y;clear Z B Y A)|(apply U;clear U K)|refine⟨rfl,?_⟩|refine oc ?_|refine NX ?_|refine D2 ?_|(refine CS (fun hc=>?_)<;>(try rw[hc])<;>clear hc)|clear U K)<;>conv=>whnf)
      exact⟨hjlt,(),rfl,hn,hs⟩
     ·conv=>whnf
      repeat'((first|apply st|(apply sq;intro K U)|(apply si;intro A B Y Z)|(apply Y;clear Z B Y A)|(apply U;clear U K)|refine⟨rfl,?_⟩|refine oc ?_|refine NX ?_|refine E0 ?_|(refine CS (fun hc=>?_)<;>(try rw[hc])<;>clear hc)|clear U K)<;>conv=>whnf)
      exact AI (by rw[hn];rfl)
    ·rw[List.drop_of_length_le (by rw[u4];omega)]at hn
     simp only[List.any_nil,LY,if_false]at hn
     conv=>whnf
     repeat'((first|apply st|(apply sq;intro K U)|(apply si;intro A B Y Z)|(apply Y;clear Z B Y A)|(apply U;clear U K)|refine⟨rfl,?_⟩|(refine Dh (fun hc=>?_)<;>(try rw[hc])<;>clear hc)|clear U K)<;>conv=>whnf)
     rw[hn];exact BV (.t (.cons (hs.NC 0 rfl) (.cons (.refl _) .nil)))
  ·conv=>whnf
   repeat'((first|apply st|(apply sq;intro K U)|(apply si;intro A B Y Z)|(apply Y;clear Z B Y A)|(apply U;clear U K)|refine⟨rfl,?_⟩|refine dS fun σ hs=>?_|refine oi ?_|refine NX ?_|(refine Dh (fun hc=>?_)<;>(try rw[hc])<;>clear hc)|clear U K)<;>conv=>whnf)
   exact AI (by rw[hen];rfl)
def KY (w:AK) (ls:List Fact) (a:Int):Nat→List Int→Bool
 | 0,p=>((Ic ls a p).isSome&&FI w.owner.length ls a p)||(HI w.owner.length ls a p||(Jo w ls a p fun _=>false).isSome)
 | d+1,p=>((Ic ls a p).isSome&&FI w.owner.length ls a p)||(HI w.owner.length ls a p||(Jo w ls a p fun s=>KY w ls a d (p++[s])).isSome)
def RL (ls:List Fact) (n:Nat):Prop:= ∀l∈ls,(A1 l).1.path.length≤n
theorem L6 {n m:Nat} {ls:List Fact} {a:Int} {p:List Int} (h:RL ls m) (hp:m≤p.length):Bt n ls a p= []:=by
 rw[Bt,List.filter_eq_nil_iff];intro s _ hs;rw[JY]at hs;obtain⟨l,hl,hg⟩:=hs;have:=h l hl;simp only[V3,B0,BZ,CX,PT,List.length_singleton]at hg;omega
theorem Wu {n:Nat} {ls:List Fact} {a:Int} {p:List Int}:Xh n ls a p= .t [eI ((Ic ls a p).getD 0),.b ((Ic ls a p).isSome&&FI n ls a p)]:=by
 unfold Xh;cases Ic ls a p<;>rfl
theorem Wh (o:Option (List Bool)):pC o= .t [.l (bL (o.getD [])) o.isNone,.b o.isSome]:=by
 cases o<;>rfl
theorem oH (w:AK) (ls:List Fact) (a:Int) (hokL: ∀l∈ls,GF l) (hln:ls.length≤1000000) (hw:Ld w) (hcl:Su w ls) (hsm:Ju ls) (hsh:RL ls 2): ∀(d:Nat) (p:List Int),p.length+d=2→Pure Tryz.prog 185 [.a (Gc w ls a p false)] (.b (KY w ls a d p)):=by
 intro d
 induction d with
 | zero=>
   intro p hp;have hI:=O9 w ls a p false hokL hln (by omega) hsm;rw[Wu]at hI;have hN:=Wl w ls a p false hokL hln (by omega);have hO:=QP w ls a p false (fun _=>false) hokL hln (by omega) hw hcl (by rw[L6 hsh (by omega)];intro s hs;cases hs);rw[Wh]at hO;refine aE nb ?_;have hs:=Sn;rw[KY];cases Y:(Ic ls a p).isSome&&FI w.owner.length ls a p<;>cases Z:HI w.owner.length ls a p<;>rw[Y]at hI<;>rw[Z]at hN
   all_goals
    conv=>whnf
    repeat'((first|apply st|(apply sq;intro K U)|(apply si;intro A B Y Z)|(apply Y;clear Z B Y A)|(apply U;clear U K)|refine⟨nb,?_⟩|refine E0 ?_|refine D2 ?_|refine Pure.use hI ?_|refine Pure.use hN ?_|refine Pure.use hO ?_|clear U K)<;>conv=>whnf)
   all_goals exact AI (by simp)
 | succ d ih=>
   intro p hp;have hI:=O9 w ls a p false hokL hln (by omega) hsm;rw[Wu]at hI;have hN:=Wl w ls a p false hokL hln (by omega);have hO:=QP w ls a p false (fun s=>KY w ls a d (p++[s])) hokL hln (by omega) hw hcl (fun s hs=>ih (p++[s]) (by simp;omega));rw[Wh]at hO;refine aE nb ?_;have hs:=Sn;rw[KY];cases Y:(Ic ls a p).isSome&&FI w.owner.length ls a p<;>cases Z:HI w.owner.length ls a p<;>rw[Y]at hI<;>rw[Z]at hN
   all_goals
    conv=>whnf
    repeat'((first|apply st|(apply sq;intro K U)|(apply si;intro A B Y Z)|(apply Y;clear Z B Y A)|(apply U;clear U K)|refine⟨nb,?_⟩|refine E0 ?_|refine D2 ?_|refine Pure.use hI ?_|refine Pure.use hN ?_|refine Pure.use hO ?_|clear U K)<;>conv=>whnf)
   all_goals exact AI (by simp)
def Gs (w:AK) (ls:List Fact):Bool:=(Bu 3).all fun a=>KY w ls a 2 []
theorem Tq (w:AK) (ls:List Fact) (hokL: ∀l∈ls,GF l) (hln:ls.length≤1000000) (hw:Ld w) (hcl:Su w ls) (hsm:Ju ls) (hsh:RL ls 2):Pure Tryz.prog 145 [.a (A2 w),.l (facts ls) false] (.b (Gs w ls)):=by
 have hM:=Mx;refine m4 nb ?_;have hs:=Sn
 conv=>whnf
 repeat'((first|apply st|(apply sq;intro K U)|(apply si;intro A B Y Z)|(apply Y;clear Z B Y A)|(apply U;clear U K)|fail)<;>conv=>whnf)
 refine B4 3 (fun k (_:Unit)=>[(5,eI (A6 k))]) (fun _ _=>[]) (fun k _=>Gs w ls=((Bu 3).drop k).all fun a=>KY w ls a 2 []) () rfl rfl hs ?_;clear hs;rintro k - σ hk hn hs;have hck:A6 k=k:=AL (by omega);rcases Nat.lt_or_ge k 3 with hlt|hge
 ·have hrk:(Bu 3)[k]? =some (A6 k):=by
   rw[hck];rcases k with _|_|_|k
   ·rfl
   ·rfl
   ·rfl
   ·omega
  rw[drop_cons hrk,NA]at hn
  conv=>whnf
  repeat'((first|apply st|(apply sq;intro K U)|(apply si;intro A B Y Z)|(apply Y;clear Z B Y A)|(apply U;clear U K)|refine⟨rfl,?_⟩|refine⟨nb,?_⟩|refine ld ?_|refine sn fun σ hs=>?_|refine Pure.Xf (oH w ls (A6 k) hokL hln hw hcl hsm hsh 2 [] rfl) (.cons (.a (.cons (.refl _) (.cons (.refl _) (.cons (.refl _) (.cons (.refl _) (.cons CH (.cons (.refl _) .nil))))))) .nil) rfl ?_|(constructor<;>intro hc<;>(try rw[hc])<;>(replace hc:=bp hc)<;>(try simp(disch:=omega) only[BE,wrap64,AL]at hc)<;>try(exfalso;omega))|(intro nn hnn;generalize hg:BC _ nn _=σ;refine al hg fun hs=>?_;clear hg)|clear U K)<;>conv=>whnf)
  ·exact AI (by rw[hn,hck,hc];rfl)
  ·exact⟨hlt,(),rfl,by rw[hn,hck,hc];rfl,hs.take 0⟩
 ·rw[List.drop_of_length_le (by rw[Eh];omega)]at hn
  conv=>whnf
  repeat'((first|apply st|(apply sq;intro K U)|(apply si;intro A B Y Z)|(apply Y;clear Z B Y A)|(apply U;clear U K)|refine⟨rfl,?_⟩|(constructor<;>intro hc<;>(try rw[hc])<;>(replace hc:=bp hc)<;>(try simp(disch:=omega) only[BE,wrap64,AL]at hc)<;>try(exfalso;omega))|clear U K)<;>conv=>whnf)
  exact AI (by rw[hn];rfl)
theorem Rw {b:Nat} {σ:AH} {l:List At} (h:Sat σ l) (i j:Nat) {v u:V} {sz:Nat} {es ys:List (List V)} {K:V→AH→Prop} (hi:l[i]? =some (.own v sz es)) (hj:l[j]? =some (.own u sz ys)) (hl:es.length+ys.length≤Ad∧(es.length+ys.length)*b≤140737488355328) (hys: ∀e∈ys,e.length=sz) (ho: ∀e∈ys,∀v∈e,Db v=true)
 (hk: ∀v' σ',Sat σ' (l.set i (.own v' sz (es++ys)))→K v' σ'):AM b σ sz v u K:=by
 have Y:AM b σ sz v (.l ys true) K:=hAppend h i hi hl hys ho hk;rcases h.get hj with⟨rfl,hel⟩|⟨n,cap,rfl,hn⟩
 ·exact Y
 ·unfold AM at Y ⊢
  simp only[rowsOf]at Y ⊢;rw[hn];refine⟨rfl,JU _,?_⟩;rw[List.take_length];exact Y.2
def CW (a:List Fact):List Fact→List Fact
 | []=>a
 | x::r=>CW (if a.any (Fa x)then a else a++[x]) r
theorem O7 (a:List Fact): ∀(b:List Fact) (x:Fact),CW a (b++[x])=if(CW a b).any (Fa x)then CW a b else CW a b++[x]:=by
 intro b
 induction b generalizing a with
 | nil=>intro x;rfl
 | cons y r ih=>intro x;simp only[List.cons_append,CW];exact ih _ x
theorem MF (a:List Fact): ∀(b:List Fact),(CW a b).length≤a.length+b.length:=by
 intro b
 induction b generalizing a with
 | nil=>simp[CW]
 | cons y r ih=>
   simp only[CW,LX];refine Nat.le_trans (ih _) ?_;split
   ·omega
   ·simp;omega
theorem QZ (a:List Fact): ∀(b:List Fact) (x:Fact),x∈CW a b→x∈a∨x∈b:=by
 intro b
 induction b generalizing a with
 | nil=>intro x hx;exact .inl hx
 | cons y r ih=>
   intro x hx;simp only[CW]at hx;rcases ih _ x hx with h|h
   ·split at h
    ·exact .inl h
    ·rcases Fk.1 h with h|h
     ·exact .inl h
     ·rw[KN.1 h];exact .inr (.head _)
   ·exact .inr (.tail _ h)
theorem YH (a b:List Fact) (f g:Bool) (hl:a.length+b.length<1000000):Pure Tryz.prog 184 [.l (facts a) f,.l (facts b) g] (.l (facts (CW a b)) false):=by
 have hM:=Mx;refine mF nb ?_;have hs:=Sn
 conv=>whnf
 repeat'((first|(apply sq;intro K U)|(apply si;intro A B Y Z)|(apply Y;clear Z B Y A)|(apply U;clear U K)|fail)<;>conv=>whnf)
 replace hs:=Ey hs 6;refine HL hs 0 (xs:=[]) (ys:=a) rfl (by simp;omega) J0 fun v σ hs=>?_
 conv=>whnf
 repeat'((first|apply st|(apply sq;intro K U)|(apply si;intro A B Y Z)|(apply Y;clear Z B Y A)|(apply U;clear U K)|fail)<;>conv=>whnf)
 refine B4 b.length (fun k v=>[(5,v),(15,eI (A6 k))]) (fun k v=>[.own v 6 (facts (CW a (b.take k)))]) (fun _ _=>True) v rfl trivial hs ?_;clear hs;rintro k v σ hk - hs;have hml:=MF a (b.take k);rw[LW]at hml;rcases BH b hk with⟨x,hx,hlt⟩|hke
 ·have hsn:=O7 a (b.take k) x
  rw[←AR hx]at hsn;generalize CW a (b.take k)=m at *
  conv=>whnf
  repeat'((first|apply st|(apply sq;intro K U)|(apply si;intro A B Y Z)|(apply Y;clear Z B Y A)|(apply U;clear U K)|refine⟨rfl,?_⟩|refine⟨nb,?_⟩|refine NB ?_|refine lo ?_|refine sn fun σ hs=>?_|(refine CS (fun hc=>?_)<;>(try rw[hc])<;>clear hc)|(intro nn hnn;generalize hg:BC _ nn _=σ;refine al hg fun hs=>?_;clear hg)|fail)<;>conv=>whnf)
  refine B4 m.length (fun j t=>[(8,.b t),(21,eI (A6 j))]) (fun j t=>[.own v 6 (facts m),.obj nn (.cs (xF x))]) (fun j t=>t=(m.take j).any (Fa x)) false rfl (by simp) hs ?_;clear hs;rintro j t σ hj ht hs;rcases BH m hj with⟨y,hy,hjlt⟩|hje
  ·cases t
   ·conv=>whnf
    repeat'((first|apply st|(apply sq;intro K U)|(apply si;intro A B Y Z)|(apply Y;clear Z B Y A)|(apply U;clear U K)|refine⟨rfl,?_⟩|refine⟨nb,?_⟩|refine ld ?_|refine sn fun σ hs=>?_|refine oc ?_|refine pA ?_|(refine CS (fun hc=>?_)<;>(try rw[hc])<;>clear hc)|refine Pure.use (eJ _ _) ?_|(intro nn hnn;generalize hg:BC _ nn _=σ;refine al hg fun hs=>?_;clear hg)|clear U K)<;>conv=>whnf)
    exact⟨hjlt,_,rfl,by rw[AR hy,List.any_append,←ht];simp,hs.take 2⟩
   ·conv=>whnf
    repeat'((first|apply st|(apply sq;intro K U)|(apply si;intro A B Y Z)|(apply Y;clear Z B Y A)|(apply U;clear U K)|refine⟨rfl,?_⟩|refine⟨nb,?_⟩|refine sn fun σ hs=>?_|refine oc ?_|refine pA ?_|(refine CS (fun hc=>?_)<;>(try rw[hc])<;>clear hc)|(intro nn hnn;generalize hg:BC _ nn _=σ;refine al hg fun hs=>?_;clear hg)|clear U K)<;>conv=>whnf)
    exact⟨hjlt,true,rfl,by rw[AR hy,List.any_append,←ht];simp,hs.take 2⟩
  ·rw[Ar hje]at ht
   subst ht
   conv=>whnf
   repeat'((first|apply st|(apply sq;intro K U)|(apply si;intro A B Y Z)|(apply Y;clear Z B Y A)|(apply U;clear U K)|refine⟨rfl,?_⟩|refine⟨nb,?_⟩|refine ld ?_|refine xU fun v σ hs hsl=>?_|(refine Dh (fun hc=>?_)<;>(try rw[hc])<;>clear hc)|(constructor<;>intro hc<;>(try rw[hc])<;>(replace hc:=bp hc))|clear U K)<;>conv=>whnf)
   ·rw[hc]at hsn
    exact⟨hlt,_,rfl,trivial,by rw[hsn];exact hs.take 1⟩
   ·rw[hc]at hsn
    exact⟨hlt,_,rfl,trivial,by rw[hsn];exact hs.take 1⟩
 ·conv=>whnf
  repeat'((first|apply st|(apply sq;intro K U)|(apply si;intro A B Y Z)|(apply Y;clear Z B Y A)|(apply U;clear U K)|refine⟨rfl,?_⟩|(refine Dh (fun hc=>?_)<;>(try rw[hc])<;>clear hc)|clear U K)<;>conv=>whnf)
  exact EX hs 0 rfl (by rw[Ar hke])
abbrev dV (ls:List (List Fact)):List (List V):=ls.map fun l=>[.l (facts l) false]
def Dr (A B:List (List Fact)):List (List Fact):=A.flatMap fun x=>B.map fun y=>CW x y
def FN (f:Fact) (l:List (Bool→List (List Fact))) (c:Bool):List (List Fact):=
 if f.op=1 then(if c then []else [[]])else
 if f.op=5 then(l.getD 0 (fun _=>[])) (!c)else
 if f.op=6∨f.op=7 then(if c != (f.op==7)then l.getD 0 (fun _=>[]) c++l.getD 1 (fun _=>[]) c else Dr (l.getD 0 (fun _=>[]) c) (l.getD 1 (fun _=>[]) c))else
 if c then [[FZ f]]else [[f]]
def BS (f:Fact):Bool→List (List Fact):=f.HC FN
theorem F8 (f:Fact) (c:Bool):BS f c=FN f (f.kids.map BS) c:=congrFun (Fact.Dj FN f) c
def ZB (f:Fact) (l:List Nat):Nat:=if f.op=5 then l.getD 0 0 else if f.op=6∨f.op=7 then l.getD 0 0+l.getD 1 0 else 1
def lv (f:Fact):Nat:=f.HC ZB
theorem MT (f:Fact):lv f=ZB f (f.kids.map lv):=Fact.Dj ZB f
def arity (f:Fact):Bool:=f.HC fun f l=>f.kids.length==CF f.op&&l.all id
theorem LD (f:Fact):arity f=(f.kids.length==CF f.op&&f.kids.all arity):=by
 rw[arity,Fact.Dj,List.all_map];rfl
theorem C1 {w:AK} (f:Fact):Bi w f=true→arity f=true:=by
 induction f using Fact.ind with
 | h f ih=>
   intro h;rw[Cg]at h;simp only[DC,BZ,Em]at h;rw[LD,BZ,Em];exact⟨h.1.2.1,fun k hk=>ih k hk (h.2 k hk)⟩
theorem Hy {f:Fact} (h:arity f=true) (h5:f.op=5): ∃a,f.kids= [a]∧arity a=true:=by
 rw[LD,BZ,Em,h5]at h;have hl:f.kids.length=1:=by simpa[CF]using h.1
 obtain⟨a,ha⟩:=List.length_eq_one_iff.1 hl;exact⟨a,ha,h.2 a (by rw[ha];exact .head _)⟩
theorem Hw {f:Fact} (h:arity f=true) (h6:f.op=6∨f.op=7): ∃a b,f.kids= [a,b]∧arity a=true∧arity b=true:=by
 rw[LD,BZ,Em]at h
 have hl:f.kids.length=2:=by
  have h5:f.op≠5:=by omega
  simpa[CF,h5,h6]using h.1
 match hk:f.kids,hl with
 | [a,b],_=>exact⟨a,b,rfl,h.2 a (by rw[hk];exact .head _),h.2 b (by rw[hk];exact .tail _ (.head _))⟩
theorem Zv (f:Fact):arity f=true→1≤lv f:=by
 induction f using Fact.ind with
 | h f ih=>
   intro h;rw[MT,ZB];split
   ·rename_i h5
    obtain⟨a,ha,hb⟩:=Hy h h5;rw[ha];exact ih a (by rw[ha];exact .head _) hb
   ·split
    ·rename_i h6
     obtain⟨a,b,ha,hb,_⟩:=Hw h h6;rw[ha];have:=ih a (by rw[ha];exact .head _) hb;simp only[FC,List.getD_cons_zero];omega
    ·omega
theorem eP {a b:Nat} (ha:1≤a) (hb:1≤b):2 ^ a+2 ^ b≤2 ^ (a+b):=by
 rw[Nat.pow_add];have h1:2≤2 ^ a:=by simpa using Nat.pow_le_pow_right (show 0<2 by omega) ha
 have h2:2≤2 ^ b:=by simpa using Nat.pow_le_pow_right (show 0<2 by omega) hb
 generalize 2 ^ a=x at *;generalize 2 ^ b=y at *;have:=Nat.mul_le_mul_left (x - 1) (show 1≤y - 1 by omega);obtain⟨x,rfl⟩: ∃u,x=u+1:=⟨x - 1,by omega⟩
 obtain⟨y,rfl⟩: ∃u,y=u+1:=⟨y - 1,by omega⟩
 simp only[Nat.add_sub_cancel,Nat.mul_one]at this;rw[Nat.add_mul,Nat.mul_add];omega
theorem QM (A B:List (List Fact)):(Dr A B).length=A.length*B.length:=by
 induction A with
 | nil=>simp[Dr]
 | cons x r ih=>
   simp only[Dr,List.flatMap_cons,PT,BE,LX]at *;rw[ih,Nat.add_mul];omega
theorem El (f:Fact):arity f=true→ ∀c,(BS f c).length≤2 ^ lv f∧ ∀l∈BS f c,l.length≤lv f:=by
 induction f using Fact.ind with
 | h f ih=>
   intro h c;rw[F8,MT,FN,ZB];by_cases h1:f.op=1
   ·have e5: ¬f.op=5:=by omega
    have e6: ¬(f.op=6∨f.op=7):=by omega
    rw[if_pos h1,if_neg e5,if_neg e6];cases c
    ·rw[if_neg (by decide)]
     exact⟨by simp,fun l hl=>by simp at hl;subst hl;simp⟩
    ·rw[if_pos rfl]
     exact⟨by simp,fun l hl=>by cases hl⟩
   rw[if_neg h1];by_cases h5:f.op=5
   ·obtain⟨a,ha,hb⟩:=Hy h h5
    rw[if_pos h5,if_pos h5,ha];exact ih a (by rw[ha];exact .head _) hb (!c)
   rw[if_neg h5,if_neg h5];by_cases h6:f.op=6∨f.op=7
   ·obtain⟨a,b,ha,hb1,hb2⟩:=Hw h h6
    rw[if_pos h6,if_pos h6,ha];simp only[FC,List.map_nil,List.getD_cons_zero,List.getD_cons_succ];obtain⟨i1,i2⟩:=ih a (by rw[ha];exact .head _) hb1 c;obtain⟨j1,j2⟩:=ih b (by rw[ha];exact .tail _ (.head _)) hb2 c;have p1:=Zv a hb1;have p2:=Zv b hb2;split
    ·refine⟨?_,fun l hl=>?_⟩
     ·rw[PT]
      have:=eP p1 p2;omega
     ·rcases Fk.1 hl with hl|hl
      ·have:=i2 l hl;omega
      ·have:=j2 l hl;omega
    ·refine⟨?_,fun l hl=>?_⟩
     ·rw[QM,Nat.pow_add]
      exact Nat.mul_le_mul i1 j1
     ·simp only[Dr,List.mem_flatMap,Lc]at hl
      obtain⟨x,hx,y,hy,rfl⟩:=hl;have:=MF x y;have:=i2 x hx;have:=j2 y hy;omega
   ·rw[if_neg h6,if_neg h6]
    cases c
    ·exact⟨by simp,fun l hl=>by simp at hl;subst hl;simp⟩
    ·exact⟨by simp,fun l hl=>by simp at hl;subst hl;simp⟩
theorem jj (f:Fact):arity f=true→2*lv f≤La f+1:=by
 induction f using Fact.ind with
 | h f ih=>
   intro h;rw[MT,ZB,J1];by_cases h5:f.op=5
   ·obtain⟨a,ha,hb⟩:=Hy h h5
    rw[if_pos h5,ha];have:=ih a (by rw[ha];exact .head _) hb;simp only[FC,List.map_nil,List.getD_cons_zero,List.sum_cons,List.sum_nil];omega
   rw[if_neg h5];by_cases h6:f.op=6∨f.op=7
   ·obtain⟨a,b,ha,hb1,hb2⟩:=Hw h h6
    rw[if_pos h6,ha];have:=ih a (by rw[ha];exact .head _) hb1;have:=ih b (by rw[ha];exact .tail _ (.head _)) hb2;simp only[FC,List.map_nil,List.getD_cons_zero,List.getD_cons_succ,List.sum_cons,List.sum_nil];omega
   ·rw[if_neg h6]
    omega
theorem NU {σ:AH} {es es':List (List V)} (hs:Sat σ []) (h:Fo σ σ es es') (he: ∀e∈es',e.length=1):A4 σ (.l es true) fun r σ'=> ∃post,(∃v,r= .ret v∧post= [.own v 1 es'])∧Sat σ' post:=
 F2 (fun _ _ h=>h) (.l (fun _=>rfl) h) ⟨_,⟨_,rfl,rfl⟩,df hs he⟩
set_option maxHeartbeats 4000000 in
theorem oY (f:Fact):arity f=true→lv f≤28→ ∀c,Bh Tryz.prog 144 [.a (xF f),.b c] [] fun r post=> ∃v,r= .ret v∧post= [.own v 1 (dV (BS f c))]:=by
 induction f using Fact.ind with
 | h f ih =>
   intro h hlv c σ hs;refine BL.fit (by kernel_rfl) fun hf=>?_
   have⟨h2,h3,h4⟩:=IM hf.1;have hM:=Mx;refine m5 nb ?_;rw[F8];rw[MT]at hlv;by_cases h5:f.op=5
   ·obtain⟨a,ha,hb⟩:=Hy h h5
    have ha0:f.kids[Int.toNat 0]? =some a:=by rw[ha];rfl
    have hrec:=ih a (by rw[ha];exact .head _) hb (by simpa[ZB,h5,ha]using hlv) (!c)
    conv=>whnf
    repeat'((first|apply st|(apply sq;intro K U)|(apply si;intro A B Y Z)|(apply Y;clear Z B Y A)|(apply U;clear U K)|refine⟨rfl,?_⟩|refine⟨nb,?_⟩|refine NB ?_|(constructor<;>intro hc<;>(try rw[hc])<;>(replace hc:=bp hc)<;>try(exfalso;omega))|fail)<;>conv=>whnf)
    all_goals try(exfalso;omega)
    refine hrec.use (rest:=[]) hs ?_;clear hs;rintro r post σ ⟨v,rfl,rfl⟩ hs
    conv=>whnf
    repeat'((first|apply st|(apply Y;clear Z B Y A)|(apply U;clear U K)|clear U K)<;>conv=>whnf)
    refine Ao hs (List.Sublist.refl _) (.refl _) fun σ' hs'=>⟨_,⟨_,rfl,?_⟩,hs'⟩
    simp only[FN,h5,ha];rfl
   by_cases h6:f.op=6∨f.op=7
   ·obtain ⟨a,b,ha,hb1,hb2⟩:=Hw h h6
    have ha0:f.kids[Int.toNat 0]? =some a:=by rw[ha];rfl
    have ha1:f.kids[Int.toNat 1]? =some b:=by rw[ha];rfl
    have hlv2:lv a+lv b≤28:=by simpa[ZB,h5,h6,ha]using hlv
    have hrec:=ih a (by rw[ha];exact .head _) hb1 (by omega) c;have hrec2:=ih b (by rw[ha];exact .tail _ (.head _)) hb2 (by omega) c
    have hcg:FN f (f.kids.map BS) c=if c != (f.op==7)then BS a c++BS b c else Dr (BS a c) (BS b c):=by
     have h1: ¬f.op=1:=by omega
     simp only[FN,if_neg h1,if_neg h5,if_pos h6,ha];rfl
    rw[hcg];obtain⟨i1,i2⟩:=El a hb1 c;obtain⟨j1,j2⟩:=El b hb2 c
    have hpw:2 ^ lv a*2 ^ lv b≤268435456:=by
     rw[←Nat.pow_add];exact Nat.pow_le_pow_right (by omega) (show lv a+lv b≤28 from hlv2)
    have hAB:=Nat.le_trans (Nat.mul_le_mul i1 j1) hpw;have q1:1≤2 ^ lv a:=Nat.one_le_two_pow;have q2:1≤2 ^ lv b:=Nat.one_le_two_pow;have q3:2 ^ lv a≤268435456:=Nat.le_trans (Nat.le_mul_of_pos_right _ q2) hpw;have q4:2 ^ lv b≤268435456:=Nat.le_trans (Nat.le_mul_of_pos_left _ q1) hpw;generalize BS a c=LA at *;generalize BS b c=LB at *;have hgB:=Cl Km LB;clear hcg;generalize hres:(if c != (f.op==7)then LA++LB else Dr LA LB)=RES;clear ih
    conv=>whnf
    repeat'((first|apply st|(apply sq;intro K U)|(apply si;intro A B Y Z)|(apply Y;clear Z B Y A)|(apply U;clear U K)|apply dr|refine⟨rfl,?_⟩|refine⟨nb,?_⟩|refine NB ?_|refine Nd ?_|(constructor<;>intro hc<;>(try rw[hc])<;>(replace hc:=bp hc)<;>try(exfalso;omega))|fail)<;>conv=>whnf)
    all_goals try(exfalso;omega)
    all_goals
     refine hrec.use (rest:=[]) hs ?_;clear hs;rintro r post σ ⟨v1,rfl,rfl⟩ hs
     conv=>whnf
     repeat'((first|apply st|apply dr|refine rk ?_ ?_|exact fun s e=>by cases e;rfl|refine⟨nb,?_⟩|fail)<;>conv=>whnf)
     refine hrec2.use (pre:=[]) (rest:=[_]) hs ?_;clear hs;rintro r post σ ⟨v2,rfl,rfl⟩ hs
     conv=>whnf
     repeat'((first|apply st|(apply sq;intro K U)|(apply si;intro A B Y Z)|(apply Y;clear Z B Y A)|(apply U;clear U K)|apply dr|refine⟨rfl,?_⟩|refine lo ?_|(constructor<;>intro hc<;>(try rw[hc])<;>(replace hc:=bp hc))|fail)<;>conv=>whnf)
    all_goals have hct:=hc
    all_goals clear hc
    all_goals first
     | (refine Rw hs 1 0 rfl rfl (by simp only[BE];omega) hgB.1 hgB.2 fun v σ hs=>?_
        conv=>whnf
        repeat'((first|apply st|(apply Y;clear Z B Y A)|(apply U;clear U K)|clear U K)<;>conv=>whnf)
        rw[hct,if_pos rfl]at hres;refine Ao (hs.less (Jn _ _)) (List.Sublist.refl _) (.refl _) fun σ' hs'=>⟨_,⟨_,rfl,?_⟩,hs'⟩
        rw[←hres];simp only[dV,SN]
        rfl)
     | (refine B4 LA.length (fun k v=>[(7,v),(52,eI (A6 k))]) (fun k v=>[.own v2 1 (dV LB),.own v1 1 (dV LA),.own v 1 (dV (Dr (LA.take k) LB))]) (fun _ _=>True) (.l [] true) rfl trivial (Ey hs 1) ?_
        clear hs;rintro k v σ hk - hs;rcases BH LA hk with⟨x,hx,hlt⟩|hke
        ·have hxl:=i2 x (B2 hx)
         have hpk:Dr (LA.take (k+1)) LB=Dr (LA.take k) LB++LB.map fun y=>CW x y:=by
          rw[AR hx];simp[Dr]
         have hpl:(Dr (LA.take k) LB).length+LB.length≤LA.length*LB.length:=by
          rw[QM,LW,Nat.min_eq_left hk];have:=SO LB.length (show k+1≤LA.length from hlt);rw[Nat.add_mul]at this;omega
         generalize Dr (LA.take k) LB=pk0 at *
         conv=>whnf
         repeat'((first|apply st|(apply sq;intro K U)|(apply si;intro A B Y Z)|(apply Y;clear Z B Y A)|(apply U;clear U K)|refine⟨rfl,?_⟩|refine lo ?_|refine oc ?_|refine NX ?_|(refine CS (fun hc=>?_)<;>(try rw[hc])<;>clear hc)|fail)<;>conv=>whnf)
         refine B4 LB.length (fun j v=>[(7,v),(58,eI (A6 j))]) (fun j v=>[.own v2 1 (dV LB),.own v1 1 (dV LA),.own v 1 (dV (pk0++(LB.take j).map fun y=>CW x y))]) (fun _ _=>True) v rfl trivial (by simpa using hs) ?_;clear hs;rintro j v σ hj - hs;rcases BH LB hj with⟨y,hy,hjlt⟩|hje
         ·have hyl:=j2 y (B2 hy)
          conv=>whnf
          repeat'((first|apply st|(apply sq;intro K U)|(apply si;intro A B Y Z)|(apply Y;clear Z B Y A)|(apply U;clear U K)|refine⟨rfl,?_⟩|refine oc ?_|refine NX ?_|refine aq fun v σ hs hsl=>?_|(refine CS (fun hc=>?_)<;>(try rw[hc])<;>clear hc)|refine Pure.use (YH _ _ _ _ (by omega)) ?_|clear U K)<;>conv=>whnf)
          refine⟨hjlt,_,rfl,trivial,?_⟩;rw[AR hy,SN,←SS];exact hs
         ·conv=>whnf
          repeat'((first|apply st|(apply sq;intro K U)|(apply si;intro A B Y Z)|(apply Y;clear Z B Y A)|(apply U;clear U K)|refine⟨rfl,?_⟩|(refine Dh (fun hc=>?_)<;>(try rw[hc])<;>clear hc)|clear U K)<;>conv=>whnf)
          rw[Ar hje]at hs;exact⟨hlt,_,rfl,trivial,by rw[hpk];exact hs⟩
        ·conv=>whnf
         repeat'((first|apply st|(apply sq;intro K U)|(apply si;intro A B Y Z)|(apply Y;clear Z B Y A)|(apply U;clear U K)|refine⟨rfl,?_⟩|(refine Dh (fun hc=>?_)<;>(try rw[hc])<;>clear hc)|clear U K)<;>conv=>whnf)
         rw[Ar hke]at hs;rw[hct,if_neg (by decide)]at hres;rw[←hres]
         refine Ao (hs.less ((Jn _ _).trans (Jn _ _))) (List.Sublist.refl _) (.refl _) fun σ' hs'=>⟨_,⟨_,rfl,rfl⟩,hs'⟩)
   ·have e1:FN f (f.kids.map BS) c=if f.op=1 then(if c then []else [[]])else if c then [[FZ f]]else [[f]]:=by
     simp only[FN,if_neg h5,if_neg h6]
    rw[e1];clear e1
    conv=>whnf
    repeat'((first|apply st|(apply sq;intro K U)|(apply si;intro A B Y Z)|(apply Y;clear Z B Y A)|(apply U;clear U K)|refine⟨rfl,?_⟩|refine⟨nb,?_⟩|refine Pure.use (Zs _) ?_|(constructor<;>intro hc<;>(try rw[hc])<;>(replace hc:=bp hc)<;>try(exfalso;omega))|clear U K)<;>conv=>whnf)
    all_goals try(exfalso;omega)
    ·subst hc
     rw[if_pos (by assumption),if_pos rfl];exact NU hs .nil (fun e h=>by cases h)
    ·subst hc
     rw[if_pos (by assumption),if_neg (by decide)];refine NU hs (.cons (.cons CH .nil) .nil) ?_;intro e he;simp at he;subst he;rfl
    ·subst hc
     rw[if_neg (by assumption),if_pos rfl];refine NU hs (.cons (.cons (.l (fun h=>by cases h) ?_) .nil) .nil) ?_
     ·simp only[facts,List.map,Bd]
      exact Et _
     ·intro e he
      simp at he;subst he;rfl
    ·subst hc
     rw[if_neg (by assumption),if_neg (by decide)];refine NU hs (.cons (.cons (.l (fun h=>by cases h) ?_) .nil) .nil) ?_
     ·simp only[facts,List.map,Bd]
      exact Et _
     ·intro e he
      simp at he;subst he;rfl
def Ib (w:AK) (x:Fact):Prop:= ∃g,Bi w g=true∧Br g=true∧(x=g∨x=FZ g)
theorem Fz {g:Fact} (h:Br g=true):g.op=2∨g.op=3∨g.op=4:=by
 simp only[Br,Fx,D1]at h;omega
theorem Ew {w:AK} (f:Fact):Bi w f=true→ ∀c,∀l∈BS f c,∀x∈l,Ib w x:=by
 induction f using Fact.ind with
 | h f ih=>
   intro h c;have har:=C1 f h;have h':=h;rw[Cg,BZ,Em]at h';rw[F8,FN];by_cases h1:f.op=1
   ·rw[if_pos h1]
    cases c
    ·rw[if_neg (by decide)]
     intro l hl x hx;simp at hl;subst hl;cases hx
    ·rw[if_pos rfl]
     intro l hl;cases hl
   rw[if_neg h1];by_cases h5:f.op=5
   ·obtain⟨a,ha,hb⟩:=Hy har h5
    rw[if_pos h5,ha];exact ih a (by rw[ha];exact .head _) (h'.2 a (by rw[ha];exact .head _)) (!c)
   rw[if_neg h5];by_cases h6:f.op=6∨f.op=7
   ·obtain⟨a,b,ha,hb1,hb2⟩:=Hw har h6
    rw[if_pos h6,ha];have i1:=ih a (by rw[ha];exact .head _) (h'.2 a (by rw[ha];exact .head _)) c;have j1:=ih b (by rw[ha];exact .tail _ (.head _)) (h'.2 b (by rw[ha];exact .tail _ (.head _))) c;simp only[FC,List.map_nil,List.getD_cons_zero,List.getD_cons_succ];split
    ·intro l hl
     rcases Fk.1 hl with hl|hl
     ·exact i1 l hl
     ·exact j1 l hl
    ·intro l hl x hx
     simp only[Dr,List.mem_flatMap,Lc]at hl;obtain⟨y,hy,z,hz,rfl⟩:=hl;rcases QZ _ _ _ hx with h|h
     ·exact i1 y hy x h
     ·exact j1 z hz x h
   ·rw [if_neg h6]
    have hlf:Br f=true:=by
     have ho:SV w f=true:=by
      have:=h'.1;simp only[DC,BZ]at this;exact this.1
     simp only[Br,Fx,D1];unfold SV at ho;split at ho
     ·omega
     ·split at ho
      ·omega
      ·simp only[Fx,D1]at ho
       omega
    cases c
    ·rw[if_neg (by decide)]
     intro l hl x hx;simp at hl;subst hl;simp at hx;subst hx;exact⟨x,h,hlf,.inl rfl⟩
    ·rw[if_pos rfl]
     intro l hl x hx;simp at hl;subst hl;simp at hx;subst hx;exact⟨f,h,hlf,.inr rfl⟩
theorem HT {w:AK} {x:Fact} (h:Ib w x):GF x∧Bi w (A1 x).1=true∧Br (A1 x).1=true:=by
 obtain⟨g,hn,hl,rfl|rfl⟩:=h
 ·have:=Fz hl
  have h5: ¬x.op=5:=by omega
  exact⟨fun e=>absurd e h5,by simp only[A1,if_neg h5];exact⟨hn,hl⟩⟩
 ·exact⟨fun _ e=>(by cases e),hn,hl⟩
theorem I2 {w:AK} {l:List Fact} (h: ∀x∈l,Ib w x):(∀x∈l,GF x)∧Su w l∧Ju l∧RL l 2:=by
 refine⟨fun x hx=>(HT (h x hx)).1,fun x hx h2=>?_,fun x hx=>?_,fun x hx=>?_⟩
 all_goals
  obtain⟨-,hn,hl⟩:=HT (h x hx);have hlo:=Fz hl;generalize (A1 x).1=g at *;rw[Cg,BZ]at hn;have hn:=hn.1;simp only[DC,BZ]at hn;obtain⟨ho,-,-,-,hp,-⟩:=hn
 ·unfold SV at ho
  rw[if_pos h2]at ho;simp only[Nh,BZ,CX]at ho;exact ho.2
 ·unfold SV at ho
  split at ho
  ·simp only[BZ,D1]at ho
   omega
  ·split at ho
   ·simp only[BZ,CX]at ho
    omega
   ·omega
 ·simp only[E3,BZ,CX]at hp
  omega
def Pb (w:AK) (f:Fact):Bool:=(BS f false).any (Gs w)
theorem oO (w:AK) (f:Fact) (hw:Ld w) (hn:Bi w f=true) (hlv:lv f≤28):Pure Tryz.prog 111 [.a (A2 w),.a (xF f)] (.b (Pb w f)):=by
 have hM:=Mx;have har:=C1 f hn;have hcl:=(El f har false).1;have hp:2 ^ lv f≤2 ^ 28:=Nat.pow_le_pow_right (by omega) hlv;have hlits:=Ew f hn false;refine ng nb ?_;have hs:=Sn
 conv=>whnf
 repeat'((first|apply st|(apply sq;intro K U)|(apply si;intro A B Y Z)|(apply Y;clear Z B Y A)|(apply U;clear U K)|refine⟨nb,?_⟩|fail)<;>conv=>whnf)
 refine(oY f har hlv false).use (rest:=[]) hs ?_;clear hs;rintro r post σ ⟨v,rfl,rfl⟩ hs;have F:Pb w f=(BS f false).any (Gs w):=rfl
 have hlen: ∀x∈BS f false,x.length≤1000000:=fun x hx=>by
  have:=(El f har false).2 x hx;omega
 generalize BS f false=cs at *
 conv=>whnf
 repeat'((first|apply st|(apply Y;clear Z B Y A)|(apply U;clear U K)|refine lo ?_|fail)<;>conv=>whnf)
 refine B4 cs.length (fun k (_:Unit)=>[(10,eI (A6 k))]) (fun _ _=>[.own v 1 (dV cs)]) (fun k _=>Pb w f=(cs.drop k).any (Gs w)) () rfl F hs ?_;clear hs F;rintro k - σ hk F hs;rcases BH cs hk with⟨x,hx,hlt⟩|hke
 ·obtain⟨q1,q2,q3,q4⟩:=I2 (hlits x (B2 hx))
  have htog:=Tq w x q1 (hlen x (B2 hx)) hw q2 q3 q4;rw[drop_cons hx,Q6]at F;cases ht:Gs w x<;>rw[ht]at htog F
  ·conv=>whnf
   repeat'((first|apply st|(apply sq;intro K U)|(apply si;intro A B Y Z)|(apply Y;clear Z B Y A)|(apply U;clear U K)|refine⟨rfl,?_⟩|refine⟨nb,?_⟩|refine oc ?_|refine NX ?_|(refine CS (fun hc=>?_)<;>(try rw[hc])<;>clear hc)|refine Pure.use (by assumption) ?_|clear U K)<;>conv=>whnf)
   exact⟨hlt,(),rfl,F,hs⟩
  ·conv=>whnf
   repeat'((first|apply st|(apply sq;intro K U)|(apply si;intro A B Y Z)|(apply Y;clear Z B Y A)|(apply U;clear U K)|refine⟨rfl,?_⟩|refine⟨nb,?_⟩|refine oc ?_|refine NX ?_|(refine CS (fun hc=>?_)<;>(try rw[hc])<;>clear hc)|refine Pure.use (by assumption) ?_|clear U K)<;>conv=>whnf)
   exact AI (by rw[F];rfl)
 ·conv=>whnf
  repeat'((first|apply st|(apply sq;intro K U)|(apply si;intro A B Y Z)|(apply Y;clear Z B Y A)|(apply U;clear U K)|refine⟨rfl,?_⟩|(refine Dh (fun hc=>?_)<;>(try rw[hc])<;>clear hc)|clear U K)<;>conv=>whnf)
  exact AI (by rw[F,Al hke];rfl)
def RG (w:AK) (a b:Fact):Bool:= !Pb w (M3 a (FZ b))
theorem Zw (a b:Fact):lv (M3 a (FZ b))=lv a+lv b:=by
 rw[MT];simp only[ZB,M3,Fact.op,Fact.kids,FC,List.map_nil,List.getD_cons_zero,List.getD_cons_succ];rw[MT (FZ b)];simp[ZB,FZ,Fact.op,Fact.kids]
theorem OD {w:AK} {a b:Fact} (ha:Bi w a=true) (hb:Bi w b=true):Bi w (M3 a (FZ b))=true:=by
 have hnb:Bi w (FZ b)=true:=by
  rw[Cg];simp[FZ,DC,SV,Fact.op,Fact.kids,Fact.arg,Fact.path,Fact.cls,Fact.n,CF,E3,Br,hb]
 rw[Cg];simp[M3,DC,SV,Fact.op,Fact.kids,Fact.arg,Fact.path,Fact.cls,Fact.n,CF,E3,Br,ha,hnb]
theorem YQ (w:AK) (a b:Fact) (hw:Ld w) (ha:Bi w a=true) (hb:Bi w b=true) (la:lv a≤12) (lb:lv b≤12):Pure Tryz.prog 77 [.a (A2 w),.a (xF a),.a (xF b)] (.b (RG w a b)):=by
 refine qM nb ?_;have hs:=Sn
 conv=>whnf
 repeat'((first|apply st|(apply sq;intro K U)|(apply si;intro A B Y Z)|(apply Y;clear Z B Y A)|(apply U;clear U K)|apply dr|refine rk ?_ ?_|exact fun s e=>by cases e;rfl|refine⟨nb,?_⟩|refine Pure.use (Zs _) ?_|refine Pure.use (oV _ _) ?_|refine Pure.use (oO _ _ hw (OD ha hb) (by rw[Zw];omega)) ?_|fail)<;>conv=>whnf)
 all_goals exact AI rfl
theorem TF {p:Prog}: ∀ {ms:List M4} {s:List Int},(runM p ms s).isSome=true→ ∀m∈ms,NY p m=true
 | [],_,_,_,h=>by cases h
 | m ::r,s,h,x,hx=>by
   rw[runM]at h;split at h
   ·rename_i hok
    split at h
    ·cases h
    ·rcases GB.1 hx with rfl|hx
     ·exact hok
     ·exact TF h x hx
   ·cases h
theorem Es {p:Prog} (h:(BO p).isSome=true):Cw p=true∧ ∀m∈p.methods,NY p m=true:=by
 unfold BO at h;split at h
 ·rename_i hh
  refine⟨hh,?_⟩;split at h
  ·cases h
  ·rename_i s hs
   exact TF (by rw[hs];rfl)
 ·cases h
structure DF (p:Prog):Prop where
 oy:Ld (AP p)
 AT:Bx p.AQ≤Ad
 pY:p.AQ.length≤1000
 facts: ∀m∈p.methods,Bi (AP p) m.fact=true∧lv m.fact≤12
 many:p.methods.length≤16
theorem look_ok {p:Prog} (h:(BO p).isSome=true):DF p:=by
 obtain⟨hh,hm⟩:=Es h;simp only[Cw,BZ,CX]at hh;have hc:=hh.1;simp only[BI,BZ,CX]at hc;have hM:=Mx;refine⟨Od hc.1 hc.2.1 hc.2.2.2.1,by have:=(FO _ _ hc.2.1).1;omega,by have:=hc.1;omega,fun m h=>?_,hh.2.2.1⟩;have:=hm m h;simp only[NY,Ce,BZ,CX]at this;have hn:=this.2.2.2.2.1.2.2;refine⟨hn,?_⟩;have hcn:=KC m.fact 24 (by omega) this.2.2.2.2.1.1;have:=jj m.fact (C1 _ hn);omega
def A0 (p:Prog) (m:Int):Bool:=decide (0≤m)&&decide (m<(p.methods.length:Int))
def BG (p:Prog) (m:Int):M4:=p.methods.getD m.toNat default
theorem Bs {p:Prog} {m:Int} (h:A0 p m=true):p.methods[m.toNat]? =some (BG p m):=by
 simp only[A0,BZ,CX]at h;rw[BG,DL,Cu (by omega)];rfl
def Bw (p:Prog) (m n:Int):Bool:=(BG p m).gen==(BG p n).gen&&(BG p m).kind==(BG p n).kind
def Dc (p:Prog) (m n:Int):Bool:=RG (AP p) (BG p m).fact (BG p n).fact
def Ag (p:Prog) (m n:Int):Bool:=Dc p m n&& !Dc p n m
theorem bo (p:Prog) (m:Int):Pure Tryz.prog 46 [.a (BK p),eI m] (.b (A0 p m)):=by
 refine Pure.fit (by kernel_rfl) fun hf=>?_
 have⟨p1,p2,p3,p4⟩:=GG hf.1;refine qd nb ?_;have hs:=Sn
 conv=>whnf
 repeat'((first|apply st|(apply sq;intro K U)|(apply si;intro A B Y Z)|(apply Y;clear Z B Y A)|(apply U;clear U K)|refine⟨rfl,?_⟩|(constructor<;>intro hc<;>(try rw[hc])<;>(replace hc:=bp hc))|fail)<;>conv=>whnf)
 all_goals exact AI (by simp[A0, *]<;>omega)
theorem XR (p:Prog) (m n:Int) (hm:A0 p m=true) (hn:A0 p n=true):Pure Tryz.prog 47 [.a (BK p),eI m,eI n] (.b (Bw p m n)):=by
 refine Pure.fit (by kernel_rfl) fun hf=>?_
 have⟨p1,p2,p3,p4⟩:=GG hf.1;have hxm:=Bs hm;have hxn:=Bs hn;simp only[A0,BZ,CX]at hm hn;refine qc nb ?_;have hs:=Sn
 conv=>whnf
 repeat'((first|apply st|(apply sq;intro K U)|(apply si;intro A B Y Z)|(apply Y;clear Z B Y A)|(apply U;clear U K)|apply dr|refine⟨rfl,?_⟩|refine F6 ?_|(constructor<;>intro hc<;>(try rw[hc])<;>(replace hc:=bp hc))|fail)<;>conv=>whnf)
 all_goals exact AI (by simp[Bw, *])
def Hq (p:Prog) (m n:Int):Bool×Int:=if(BO p).isSome&&(A0 p m&&A0 p n)then(if Bw p m n then(Ag p m n,0)else(false,7))else(false,2)
end Go.Gl
namespace Go.Gl
variable {P:Program} {σ:AH}
abbrev eU (n:Nat):V:= .i .u64 (n:Int)
theorem HQ {n:Nat} (h:n<18446744073709551616):IntKind.u64.wrap (n:Int)=n:=by
 simp only[IntKind.wrap,IntKind.signed,IntKind.bits];simp;omega
theorem Kp {a b:Nat} (ha:a<18446744073709551616) (hb:b<18446744073709551616):bits .or .u64 (a:Int) (b:Int)=((a|||b:Nat):Int):=by
 have h:a|||b<2 ^ 64:=Nat.or_lt_two_pow (n:=64) (by simpa using ha) (by simpa using hb)
 simp only[bits,IntKind.bits]
 have e1:(BitVec.ofInt 64 (a:Int)|||BitVec.ofInt 64 (b:Int)).toNat=a|||b:=by
  simp only[BitVec.ofInt_natCast,BitVec.toNat_or,BitVec.toNat_ofNat];rw[Nat.mod_eq_of_lt (by simpa using ha),Nat.mod_eq_of_lt (by simpa using hb)]
 have e2:=HQ (n:=a|||b) (by simpa using h);rw[←e1]at e2;rw[←e1];exact e2
theorem K9 {a b:Nat} (ha:a<18446744073709551616) (hb:b<18446744073709551616):bits .and .u64 (a:Int) (b:Int)=((a&&&b:Nat):Int):=by
 have h:a&&&b<2 ^ 64:=Nat.and_lt_two_pow (n:=64) a (by simpa using hb);simp only[bits,IntKind.bits]
 have e1:(BitVec.ofInt 64 (a:Int)&&&BitVec.ofInt 64 (b:Int)).toNat=a&&&b:=by
  simp only[BitVec.ofInt_natCast,BitVec.toNat_and,BitVec.toNat_ofNat];rw[Nat.mod_eq_of_lt (by simpa using ha),Nat.mod_eq_of_lt (by simpa using hb)]
 have e2:=HQ (n:=a&&&b) (by simpa using h);rw[←e1]at e2;rw[←e1];exact e2
def Nj (a b:Nat):Nat:=(BitVec.ofNat 64 a&&& ~~~BitVec.ofNat 64 b).toNat
theorem R2 (a b:Nat):Nj a b<18446744073709551616:=by
 have:=(BitVec.ofNat 64 a&&& ~~~BitVec.ofNat 64 b).isLt;simpa[Nj]using this
theorem Qs {a b:Nat}:bits .andNot .u64 (a:Int) (b:Int)=((Nj a b:Nat):Int):=by
 simp only[bits,IntKind.bits]
 have e1:(BitVec.ofInt 64 (a:Int)&&& ~~~BitVec.ofInt 64 (b:Int)).toNat=Nj a b:=by
  simp only[BitVec.ofInt_natCast,Nj]
 have e2:=HQ (n:=Nj a b) (R2 a b);rw[←e1]at e2;rw[←e1];exact e2
theorem OW {a b i:Nat} (hi:i<64):(Nj a b).testBit i=(a.testBit i&& !b.testBit i):=by
 rw[Nj,BitVec.testBit_toNat,BitVec.getLsbD_and,BitVec.getLsbD_not];rw[BitVec.getLsbD_ofNat,BitVec.getLsbD_ofNat];simp only[hi,decide_true,Fm]
theorem WR {c:Nat} (h:c<64):IntKind.u64.wrap (1*2 ^ (min c IntKind.u64.bits))=((2 ^ c:Nat):Int):=by
 have hb:IntKind.u64.bits=64:=rfl;rw[hb,Nat.min_eq_left (by omega),Int.one_mul];have:=HQ (n:=2 ^ c) (by have:=Nat.pow_lt_pow_right (show 1<2 by omega) h;simpa using this);rw[←this];simp
theorem Jv {c:Nat} (h:c<64):2 ^ c<18446744073709551616:=by
 have:=Nat.pow_lt_pow_right (show 1<2 by omega) h;simpa using this
theorem WQ {a c:Nat} (h:c<64):(a:Int).fdiv (2 ^ (min c IntKind.u64.bits))=((a >>> c:Nat):Int):=by
 have hb:IntKind.u64.bits=64:=rfl;rw[hb,Nat.min_eq_left (by omega),Nat.shiftRight_eq_div_pow,Int.fdiv_eq_ediv_of_nonneg _ (Int.pow_nonneg (by omega))];simp
theorem DR {v:V} {Q:R→AH→Prop} (h:Q (.C8 v) σ):Aj σ v Q:=⟨v,σ,fun _ _ h=>h,.refl v,h⟩
theorem Bp {g:FuncId} {fi ca args:List V} {Q:R→AH→Prop} (h:BL P g (fi++args++ca) σ Q):A8 P (.f (.func g) fi ca) args σ Q:=h
theorem Pure.of {f:FuncId} {args:List V} {v:V} (h:BL P f args emp fun r _=>r= .ret v):Pure P f args v:=by
 refine⟨h.1,fun Λ w cs G hv=>Calls.mono (h.2 Λ w cs G hv) fun e w' ⟨r,σ',hr,h1,h2,h3⟩=>?_⟩;subst hr;obtain⟨c,rfl,hv'⟩:=h1;have hsub:Sub emp σ':=fun n o ho=>by cases ho
 exact⟨.ret v,emp,⟨rfl,rfl⟩,⟨c,rfl,Gq.rel h2 hsub (.refl v) hv'⟩,h2.drop hsub,⟨h3.frame,h3.size,h3.os,h3.tape,h3.output,fun _ _ _=>rfl⟩⟩
def DD {α S:Type} (P:Program) (x:V) (ea:α→V) (H:S→List At) (stp:α→S→Bool×S) (D:α→S→Prop):Prop:=
 ∀y s,D y s→ ∀σ,Sat σ (H s)→A8 P x [ea y] σ fun r σ'=>r= .ret (.b (stp y s).1)∧Sat σ' (H (stp y s).2)
theorem DD.use {α S:Type} {x:V} {ea:α→V} {H:S→List At} {stp:α→S→Bool×S} {D:α→S→Prop} (h:DD P x ea H stp D) {y:α} {s:S} (hd:D y s) (hs:Sat σ (H s)) {k kp:V→AH→Prop} (hk: ∀σ',Sat σ' (H (stp y s).2)→k (.b (stp y s).1) σ'):A8 P x [ea y] σ (qk k kp):=
 (h y s hd σ hs).mono fun r σ' ⟨e,h'⟩=>by rw[e];exact hk σ' h'
theorem DD.vK {α S:Type} {g:FuncId} {fi ca:List V} {ea:α→V} {H:S→List At} {stp:α→S→Bool×S} {D:α→S→Prop} (h:DD P (.f (.func g) fi ca) ea H stp D) {y:α} {s:S} (hd:D y s) {rest:List At} (hs:Sat σ (H s++rest)) {k kp:V→AH→Prop} (hk: ∀σ',Sat σ' (H (stp y s).2++rest)→k (.b (stp y s).1) σ'):A8 P (.f (.func g) fi ca) [ea y] σ (qk k kp):=by
 refine Bp ?_;have h1:Bh P g (fi++[ea y]++ca) (H s) fun r post=>r= .ret (.b (stp y s).1)∧post=H (stp y s).2:=fun σ hs=>BL.mono (h y s hd σ hs) fun r σ' ⟨e,h2⟩=>⟨_,⟨e,rfl⟩,h2⟩
 refine h1.use hs ?_;rintro r post σ' ⟨rfl,rfl⟩ hs';exact hk σ' hs'
def Bn {α S:Type} (stp:α→S→Bool×S):List α→Nat→S→Int×S
 | [],_,s=>(-1,s)
 | y::r,k,s=>if(stp y s).1 then((k:Int),(stp y s).2)else Bn stp r (k+1) (stp y s).2
def Co {α S:Type} (stp:α→S→Bool×S):List α→S→Bool×S
 | [],s=>(true,s)
 | y::r,s=>if(stp y s).1 then Co stp r (stp y s).2 else(false,(stp y s).2)
def UX {α S:Type} (stp:α→S→Bool×S) (D:α→S→Prop):List α→S→Prop
 | [],_=>True
 | y::r,s=>D y s∧UX stp D r (stp y s).2
theorem MK {α S:Type} {stp:α→S→Bool×S}: ∀(xs:List α) (k:Nat) (s:S),(Bn (fun y s=>(!(stp y s).1,(stp y s).2)) xs k s).2=(Co stp xs s).2∧(decide ((Bn (fun y s=>(!(stp y s).1,(stp y s).2)) xs k s).1≥0)= !(Co stp xs s).1)
 | [],_,_=>⟨rfl,rfl⟩
 | y::r,k,s=>by
   simp only[Bn,Co];cases h:(stp y s).1
   ·simp
   ·simpa using MK r (k+1) (stp y s).2
theorem Rk {α S:Type} {stp:α→S→Bool×S} {D:α→S→Prop}: ∀(xs:List α) (s:S),UX stp D xs s→UX (fun y s=>(!(stp y s).1,(stp y s).2)) D xs s
 | [],_,_=>trivial
 | _::r,_,h=>⟨h.1,Rk r _ h.2⟩
theorem JS {α:Type} (f:α→Bool): ∀(xs:List α),Co (fun y (_:Unit)=>(f y,())) xs ()=(xs.all f,())
 | []=>rfl
 | y::r=>by
   simp only[Co,NA];cases f y
   ·rfl
   ·simpa using JS f r
theorem Gz {α S:Type} {stp:α→S→Bool×S} {D:α→S→Prop}: ∀ {xs:List α} {s:S},(∀y∈xs,∀s,D y s)→UX stp D xs s
 | [],_,_=>trivial
 | y::r,s,h=>⟨h y (.head _) s,Gz fun z hz=>h z (.tail _ hz)⟩
end Go.Gl
namespace Go.Gl
open Go.Proofs
attribute [local irreducible] BL A4 Aj AW AM Ai AV AX AN Ah AS AU A8 BJ Sat Ac BF Ak W
theorem Lu {xs:List Int} {f:Bool} (h:FD (.l (iL xs) f)):xs.length≤Ad:=Jf h
theorem bj:Pure Tryz.prog 164 [.b true] (.t []):=by
 refine aI nb ?_;have hs:=Sn
 conv=>whnf
 repeat'((first|apply st|(apply sq;intro K U)|(apply si;intro A B Y Z)|(apply Y;clear Z B Y A)|(apply U;clear U K)|refine D2 ?_|fail)<;>conv=>whnf)
 all_goals exact AI rfl
abbrev Dw:V:= .KT 242 (.a [])
def ZN (xs:List Int) (x:Int):Int:=(Bn (fun y (_:Unit)=>(x==y,())) xs 0 ()).1
theorem K8 {α:Type} (f:α→Bool): ∀(xs:List α) (k:Nat),(decide ((Bn (fun y (_:Unit)=>(f y,())) xs k ()).1≥0))=xs.any f
 | [],_=>rfl
 | y::r,k=>by
   simp only[Bn,Q6];cases f y
   ·simpa using K8 f r (k+1)
   ·simp
theorem SK (xs:List Int) (x:Int):xs.any (x== ·)=xs.contains x:=by
 induction xs with
 | nil=>rfl
 | cons y r ih=>rw[Q6,List.contains_cons,ih]
theorem fE (xs:List Int) (x:Int):decide (ZN xs x≥0)=xs.contains x:=by
 rw[←SK];exact K8 (x== ·) xs 0
theorem TU (xs:List Int) (f:Bool) (x:Int):Pure Tryz.prog 193 [.l (iL xs) f,eI x] (eI (ZN xs x)):=by
 refine Pure.fit (by kernel_rfl) fun hf=>?_
 have hxl:=Lu hf.1;have hM:=Mx;refine l8 nb ?_;have hs:=Sn
 conv=>whnf
 repeat'((first|apply st|(apply sq;intro K U)|(apply si;intro A B Y Z)|(apply Y;clear Z B Y A)|(apply U;clear U K)|fail)<;>conv=>whnf)
 refine B4 xs.length (fun k (_:Unit)=>[(8,eI (A6 k))]) (fun _ _=>[]) (fun k _=>ZN xs x=(Bn (fun y (_:Unit)=>(x==y,())) (xs.drop k) k ()).1) () rfl rfl hs ?_;clear hs;rintro k - σ hk hn hs;have hck:A6 k=k:=AL (by omega);rcases BH xs hk with⟨y,hy,hlt⟩|hke
 ·rw[drop_cons hy,Bn]at hn
  conv=>whnf
  repeat'((first|apply st|(apply sq;intro K U)|(apply si;intro A B Y Z)|(apply Y;clear Z B Y A)|(apply U;clear U K)|refine⟨rfl,?_⟩|refine ix ?_|(refine CS (fun hc=>?_)<;>(try rw[hc])<;>clear hc)|(constructor<;>intro hc<;>(try rw[hc])<;>(replace hc:=bp hc))|clear U K)<;>conv=>whnf)
  ·exact AI (by rw[hn,hc,hck];simp)
  ·exact⟨hlt,(),rfl,by rw[hn];simp[hc],hs⟩
 ·rw[Al hke,Bn]at hn
  conv=>whnf
  repeat'((first|apply st|(apply sq;intro K U)|(apply si;intro A B Y Z)|(apply Y;clear Z B Y A)|(apply U;clear U K)|refine⟨rfl,?_⟩|(refine Dh (fun hc=>?_)<;>(try rw[hc])<;>clear hc)|clear U K)<;>conv=>whnf)
  exact AI (by rw[hn])
theorem Dz (xs:List Int) (f:Bool) (x:Int):Pure Tryz.prog 172 [.l (iL xs) f,eI x] (.b (xs.contains x)):=by
 refine mO nb ?_;have hs:=Sn
 conv=>whnf
 repeat'((first|apply st|(apply sq;intro K U)|(apply si;intro A B Y Z)|(apply Y;clear Z B Y A)|(apply U;clear U K)|refine⟨rfl,?_⟩|refine Pure.use (TU _ _ _) ?_|fail)<;>conv=>whnf)
 all_goals exact AI (by rw[←fE])
theorem PN (n:Int):Pure Tryz.prog 211 [eI n] (.b (RJ n)):=by
 refine lq nb ?_;have hs:=Sn
 conv=>whnf
 repeat'((first|apply st|(apply sq;intro K U)|(apply si;intro A B Y Z)|(apply Y;clear Z B Y A)|(apply U;clear U K)|refine⟨rfl,?_⟩|(constructor<;>intro hc<;>(try rw[hc])<;>(replace hc:=bp hc))|fail)<;>conv=>whnf)
 all_goals exact AI (by simp[RJ, *]<;>omega)
theorem OF (f:Fact):Br f=(decide (2≤f.op)&&decide (f.op≤4)):=by
 rw[Lb];simp only[Br,Fx,BZ,D1,CX];omega
theorem NN (f:Fact):Pure Tryz.prog 150 [.a (xF f)] (.b (Br f)):=by
 refine mr nb ?_;have hs:=Sn
 conv=>whnf
 repeat'((first|apply st|(apply sq;intro K U)|(apply si;intro A B Y Z)|(apply Y;clear Z B Y A)|(apply U;clear U K)|refine⟨rfl,?_⟩|(constructor<;>intro hc<;>(try rw[hc])<;>(replace hc:=bp hc))|fail)<;>conv=>whnf)
 all_goals exact AI (by rw[OF];simp[*]<;>omega)
theorem WL (s c:Nat) (hs0:s<18446744073709551616) (hc:c<64):Pure Tryz.prog 176 [eU s,eI c] (eU (s|||2 ^ c)):=by
 refine mL nb ?_;have hs:=Sn
 conv=>whnf
 repeat'((first|(apply sq;intro K U)|(apply si;intro A B Y Z)|(apply Y;clear Z B Y A)|(apply U;clear U K)|fail)<;>conv=>whnf)
 refine⟨Int.natCast_nonneg _,?_⟩
 conv=>whnf
 repeat'((first|apply st|(apply Y;clear Z B Y A)|(apply U;clear U K)|refine⟨rfl,?_⟩|fail)<;>conv=>whnf)
 exact AI (by rw[Ih,WR hc,Kp hs0 (Jv hc)])
theorem N0 (s c:Nat) (hs0:s<18446744073709551616) (hc:c<64):Pure Tryz.prog 152 [eU s,eI c] (.b (s.testBit c)):=by
 refine mo nb ?_;have hs:=Sn
 conv=>whnf
 repeat'((first|(apply sq;intro K U)|(apply si;intro A B Y Z)|(apply Y;clear Z B Y A)|(apply U;clear U K)|fail)<;>conv=>whnf)
 refine⟨Int.natCast_nonneg _,?_⟩
 conv=>whnf
 repeat'((first|apply st|(apply Y;clear Z B Y A)|(apply U;clear U K)|refine⟨rfl,?_⟩|fail)<;>conv=>whnf)
 refine AI ?_;rw[Ih,WQ hc];have h1:s >>> c<18446744073709551616:=by rw[Nat.shiftRight_eq_div_pow];exact Nat.lt_of_le_of_lt (Nat.div_le_self _ _) hs0
 have h2:bits .and .u64 ((s >>> c:Nat):Int) 1=((s >>> c&&&1:Nat):Int):=K9 h1 (show 1<_ by decide);rw[h2];simp only[Nat.testBit,Nat.and_comm 1];congr 1;rcases Nat.mod_two_eq_zero_or_one (s >>> c)with h|h<;>simp[Nat.and_one_is_mod,h]
theorem fB (op:Int):Pure Tryz.prog 220 [eI op] (eI (CF op)):=by
 refine lX nb ?_;have hs:=Sn
 conv=>whnf
 repeat'((first|apply st|(apply sq;intro K U)|(apply si;intro A B Y Z)|(apply Y;clear Z B Y A)|(apply U;clear U K)|refine⟨rfl,?_⟩|(constructor<;>intro hc<;>(try rw[hc])<;>(replace hc:=bp hc))|clear U K)<;>conv=>whnf)
 all_goals exact AI (by simp[CF, *])
theorem VC (b:Bool):Pure Tryz.prog 215 [.b b] (eI (if b then 0 else 2)):=by
 refine lh nb ?_;have hs:=Sn
 conv=>whnf
 repeat'((first|apply st|(apply sq;intro K U)|(apply si;intro A B Y Z)|(apply Y;clear Z B Y A)|(apply U;clear U K)|(constructor<;>intro hc<;>(try rw[hc])<;>(replace hc:=bp hc))|clear U K)<;>conv=>whnf)
 all_goals exact AI (by simp[*])
theorem ID {S:Type} (g:FuncId) (fi ca:List V) (H:S→List At) (stp:Int→S→Bool×S) (D:Int→S→Prop) (hx:DD Tryz.prog (.f (.func g) fi ca) eI H stp D) (xs:List Int) (f:Bool) (s0:S) (hd:UX stp D xs s0) :
 Bh Tryz.prog 103 [.l (iL xs) f,.f (.func g) fi ca] (H s0) fun r post=>r= .ret (eI (Bn stp xs 0 s0).1)∧post=H (Bn stp xs 0 s0).2:=by
 intro σ hs;refine BL.fit (by kernel_rfl) fun hf=>?_
 have hxl:=Lu hf.1;have hM:=Mx;refine aL nb ?_
 conv=>whnf
 repeat'((first|apply st|(apply sq;intro K U)|(apply si;intro A B Y Z)|(apply Y;clear Z B Y A)|(apply U;clear U K)|fail)<;>conv=>whnf)
 refine B4 xs.length (fun k (_:S)=>[(8,eI (A6 k))]) (fun _ s=>H s) (fun k s=>UX stp D (xs.drop k) s∧Bn stp xs 0 s0=Bn stp (xs.drop k) k s) s0 rfl ⟨hd,rfl⟩ hs ?_;clear hs;rintro k s σ hk ⟨hd,hn⟩ hs;have hck:A6 k=k:=AL (by omega);rcases BH xs hk with⟨y,hy,hlt⟩|hke
 ·rw[drop_cons hy]at hn hd
  obtain⟨hd1,hd2⟩:=hd;rw[Bn]at hn
  conv=>whnf
  repeat'((first|apply st|(apply sq;intro K U)|(apply si;intro A B Y Z)|(apply Y;clear Z B Y A)|(apply U;clear U K)|refine⟨rfl,?_⟩|refine ix ?_|(refine CS (fun hc=>?_)<;>(try rw[hc])<;>clear hc)|fail)<;>conv=>whnf)
  refine hx.use hd1 hs ?_;clear hs;intro σ hs
  conv=>whnf
  repeat'((first|apply st|(apply sq;intro K U)|(apply si;intro A B Y Z)|(apply Y;clear Z B Y A)|(apply U;clear U K)|refine⟨rfl,?_⟩|(constructor<;>intro hc<;>(try rw[hc])<;>(replace hc:=bp hc))|clear U K)<;>conv=>whnf)
  ·rw[hc,if_pos rfl]at hn
   rw[hn];exact Ao hs (List.Sublist.refl _) (by rw[hck];exact .refl _) fun σ' hs'=>⟨_,⟨rfl,rfl⟩,hs'⟩
  ·rw[hc,if_neg (by decide)]at hn
   exact⟨hlt,_,rfl,⟨hd2,hn⟩,hs⟩
 ·rw[Al hke,Bn]at hn
  conv=>whnf
  repeat'((first|apply st|(apply sq;intro K U)|(apply si;intro A B Y Z)|(apply Y;clear Z B Y A)|(apply U;clear U K)|refine⟨rfl,?_⟩|(refine Dh (fun hc=>?_)<;>(try rw[hc])<;>clear hc)|clear U K)<;>conv=>whnf)
  rw[hn];exact Ao hs (List.Sublist.refl _) (.refl _) fun σ' hs'=>⟨_,⟨rfl,rfl⟩,hs'⟩
section
variable {S:Type} (g:FuncId) (fi ca:List V) (H:S→List At)
theorem GU (stp:Int→S→Bool×S) (D:Int→S→Prop) (hx:DD Tryz.prog (.f (.func g) fi ca) eI H stp D) (xs:List Int) (f:Bool) (s0:S) (hd:UX stp D xs s0) :
 Bh Tryz.prog 72 [.l (iL xs) f,.f (.func g) fi ca] (H s0) fun r post=>r= .ret (.b (decide ((Bn stp xs 0 s0).1≥0)))∧post=H (Bn stp xs 0 s0).2:=by
 intro σ hs;refine gm nb ?_
 conv=>whnf
 repeat'((first|(apply sq;intro K U)|(apply si;intro A B Y Z)|(apply Y;clear Z B Y A)|(apply U;clear U K)|fail)<;>conv=>whnf)
 refine(ID g fi ca H stp D hx xs f s0 hd).use (rest:=[]) (by simpa using hs) ?_;rintro r post σ ⟨rfl,rfl⟩ hs
 conv=>whnf
 repeat'((first|apply st|(apply Y;clear Z B Y A)|(apply U;clear U K)|refine⟨rfl,?_⟩|fail)<;>conv=>whnf)
 exact Ao hs (by simp) (.refl _) fun σ' hs'=>⟨_,⟨rfl,rfl⟩,hs'⟩
theorem je (stp:Int→S→Bool×S) (D:Int→S→Prop) (hx:DD Tryz.prog (.f (.func g) fi ca) eI H stp D):DD Tryz.prog (.f (.func 217) [] [.rp [.f (.func g) fi ca]]) eI H (fun y s=>(!(stp y s).1,(stp y s).2)) D:=by
 intro y s hd σ hs;refine Bp ?_;show BL Tryz.prog 217 ([]++[eI y]++[.rp [.f (.func g) fi ca]]) σ _;refine aB nb ?_
 conv=>whnf
 repeat'((first|apply st|(apply sq;intro K U)|(apply si;intro A B Y Z)|(apply Y;clear Z B Y A)|(apply U;clear U K)|fail)<;>conv=>whnf)
 refine hx.use hd hs ?_;clear hs;intro σ hs
 conv=>whnf
 repeat'((first|apply st|(apply Y;clear Z B Y A)|(apply U;clear U K)|fail)<;>conv=>whnf)
 exact Ao hs (List.Sublist.refl _) (.refl _) fun σ' hs'=>⟨rfl,hs'⟩
theorem aU (stp:Int→S→Bool×S) (D:Int→S→Prop) (hx:DD Tryz.prog (.f (.func g) fi ca) eI H stp D) (xs:List Int) (f:Bool) (s0:S) (hd:UX stp D xs s0) :
 Bh Tryz.prog 177 [.l (iL xs) f,.f (.func g) fi ca] (H s0) fun r post=>r= .ret (.b (Co stp xs s0).1)∧post=H (Co stp xs s0).2:=by
 intro σ hs;obtain⟨e1,e2⟩:=MK (stp:=stp) xs 0 s0;refine aG nb ?_
 conv=>whnf
 repeat'((first|(apply sq;intro K U)|(apply si;intro A B Y Z)|(apply Y;clear Z B Y A)|(apply U;clear U K)|fail)<;>conv=>whnf)
 refine(GU 217 [] [.rp [.f (.func g) fi ca]] H _ D (je g fi ca H stp D hx) xs f s0 (Rk xs s0 hd)).use (rest:=[]) (by simpa using hs) ?_;rintro r post σ ⟨rfl,rfl⟩ hs;rw[e2];rw[e1]at hs
 conv=>whnf
 repeat'((first|apply st|(apply Y;clear Z B Y A)|(apply U;clear U K)|fail)<;>conv=>whnf)
 exact Ao hs (by simp) (by rw[Bool.not_not];exact .refl _) fun σ' hs'=>⟨_,⟨rfl,rfl⟩,hs'⟩
theorem SE (stp:Fact→S→Bool×S) (D:Fact→S→Prop) (hx:DD Tryz.prog (.f (.func g) fi ca) (fun y=> .a (xF y)) H stp D) (xs:List Fact) (f:Bool) (s0:S) (hxl:xs.length≤Ad) (hd:UX stp D xs s0) :
 Bh Tryz.prog 253 [.l (facts xs) f,.f (.func g) fi ca] (H s0) fun r post=>r= .ret (eI (Bn stp xs 0 s0).1)∧post=H (Bn stp xs 0 s0).2:=by
 intro σ hs;have hM:=Mx;refine k9 nb ?_
 conv=>whnf
 repeat'((first|apply st|(apply sq;intro K U)|(apply si;intro A B Y Z)|(apply Y;clear Z B Y A)|(apply U;clear U K)|fail)<;>conv=>whnf)
 refine B4 xs.length (fun k (_:S)=>[(8,eI (A6 k))]) (fun _ s=>H s) (fun k s=>UX stp D (xs.drop k) s∧Bn stp xs 0 s0=Bn stp (xs.drop k) k s) s0 rfl ⟨hd,rfl⟩ hs ?_;clear hs;rintro k s σ hk ⟨hd,hn⟩ hs;have hck:A6 k=k:=AL (by omega);rcases BH xs hk with⟨y,hy,hlt⟩|hke
 ·rw[drop_cons hy]at hn hd
  obtain⟨hd1,hd2⟩:=hd;rw[Bn]at hn
  conv=>whnf
  repeat'((first|apply st|(apply sq;intro K U)|(apply si;intro A B Y Z)|(apply Y;clear Z B Y A)|(apply U;clear U K)|refine⟨rfl,?_⟩|refine⟨nb,?_⟩|refine NB ?_|(refine CS (fun hc=>?_)<;>(try rw[hc])<;>clear hc)|fail)<;>conv=>whnf)
  refine hx.use hd1 hs ?_;clear hs;intro σ hs
  conv=>whnf
  repeat'((first|apply st|(apply sq;intro K U)|(apply si;intro A B Y Z)|(apply Y;clear Z B Y A)|(apply U;clear U K)|refine⟨rfl,?_⟩|(constructor<;>intro hc<;>(try rw[hc])<;>(replace hc:=bp hc))|clear U K)<;>conv=>whnf)
  ·rw[hc,if_pos rfl]at hn
   rw[hn];exact Ao hs (List.Sublist.refl _) (by rw[hck];exact .refl _) fun σ' hs'=>⟨_,⟨rfl,rfl⟩,hs'⟩
  ·rw[hc,if_neg (by decide)]at hn
   exact⟨hlt,_,rfl,⟨hd2,hn⟩,hs⟩
 ·rw[Al hke,Bn]at hn
  conv=>whnf
  repeat'((first|apply st|(apply sq;intro K U)|(apply si;intro A B Y Z)|(apply Y;clear Z B Y A)|(apply U;clear U K)|refine⟨rfl,?_⟩|(refine Dh (fun hc=>?_)<;>(try rw[hc])<;>clear hc)|clear U K)<;>conv=>whnf)
  rw[hn];exact Ao hs (List.Sublist.refl _) (.refl _) fun σ' hs'=>⟨_,⟨rfl,rfl⟩,hs'⟩
theorem M9 (stp:Fact→S→Bool×S) (D:Fact→S→Prop) (hx:DD Tryz.prog (.f (.func g) fi ca) (fun y=> .a (xF y)) H stp D) (xs:List Fact) (f:Bool) (s0:S) (hxl:xs.length≤Ad) (hd:UX stp D xs s0) :
 Bh Tryz.prog 218 [.l (facts xs) f,.f (.func g) fi ca] (H s0) fun r post=>r= .ret (.b (decide ((Bn stp xs 0 s0).1≥0)))∧post=H (Bn stp xs 0 s0).2:=by
 intro σ hs;refine lZ nb ?_
 conv=>whnf
 repeat'((first|(apply sq;intro K U)|(apply si;intro A B Y Z)|(apply Y;clear Z B Y A)|(apply U;clear U K)|fail)<;>conv=>whnf)
 refine(SE g fi ca H stp D hx xs f s0 hxl hd).use (rest:=[]) (by simpa using hs) ?_;rintro r post σ ⟨rfl,rfl⟩ hs
 conv=>whnf
 repeat'((first|apply st|(apply Y;clear Z B Y A)|(apply U;clear U K)|refine⟨rfl,?_⟩|fail)<;>conv=>whnf)
 exact Ao hs (by simp) (.refl _) fun σ' hs'=>⟨_,⟨rfl,rfl⟩,hs'⟩
theorem jd (stp:Fact→S→Bool×S) (D:Fact→S→Prop) (hx:DD Tryz.prog (.f (.func g) fi ca) (fun y=> .a (xF y)) H stp D):DD Tryz.prog (.f (.func 219) [] [.rp [.f (.func g) fi ca]]) (fun y=> .a (xF y)) H (fun y s=>(!(stp y s).1,(stp y s).2)) D:=by
 intro y s hd σ hs;refine Bp ?_;show BL Tryz.prog 219 ([]++[.a (xF y)]++[.rp [.f (.func g) fi ca]]) σ _;refine lY nb ?_
 conv=>whnf
 repeat'((first|apply st|(apply sq;intro K U)|(apply si;intro A B Y Z)|(apply Y;clear Z B Y A)|(apply U;clear U K)|refine⟨nb,?_⟩|fail)<;>conv=>whnf)
 refine hx.use hd hs ?_;clear hs;intro σ hs
 conv=>whnf
 repeat'((first|apply st|(apply Y;clear Z B Y A)|(apply U;clear U K)|fail)<;>conv=>whnf)
 exact Ao hs (List.Sublist.refl _) (.refl _) fun σ' hs'=>⟨rfl,hs'⟩
theorem aT (stp:Fact→S→Bool×S) (D:Fact→S→Prop) (hx:DD Tryz.prog (.f (.func g) fi ca) (fun y=> .a (xF y)) H stp D) (xs:List Fact) (f:Bool) (s0:S) (hxl:xs.length≤Ad) (hd:UX stp D xs s0) :
 Bh Tryz.prog 179 [.l (facts xs) f,.f (.func g) fi ca] (H s0) fun r post=>r= .ret (.b (Co stp xs s0).1)∧post=H (Co stp xs s0).2:=by
 intro σ hs;obtain⟨e1,e2⟩:=MK (stp:=stp) xs 0 s0;refine mK nb ?_
 conv=>whnf
 repeat'((first|(apply sq;intro K U)|(apply si;intro A B Y Z)|(apply Y;clear Z B Y A)|(apply U;clear U K)|fail)<;>conv=>whnf)
 refine(M9 219 [] [.rp [.f (.func g) fi ca]] H _ D (jd g fi ca H stp D hx) xs f s0 hxl (Rk xs s0 hd)).use (rest:=[]) (by simpa using hs) ?_;rintro r post σ ⟨rfl,rfl⟩ hs;rw[e2];rw[e1]at hs
 conv=>whnf
 repeat'((first|apply st|(apply Y;clear Z B Y A)|(apply U;clear U K)|fail)<;>conv=>whnf)
 exact Ao hs (by simp) (by rw[Bool.not_not];exact .refl _) fun σ' hs'=>⟨_,⟨rfl,rfl⟩,hs'⟩
end
abbrev Sl (f:Int→Bool):Int→Unit→Bool×Unit:=fun y _=>(f y,())
theorem Oj {g:FuncId} {fi ca:List V} {f:Int→Bool} {D:Int→Unit→Prop} (h: ∀y,D y ()→Pure Tryz.prog g (fi++[eI y]++ca) (.b (f y))):DD Tryz.prog (.f (.func g) fi ca) eI (fun _=>[]) (Sl f) D:=by
 intro y s hd σ hs;refine Bp ?_;show BL Tryz.prog g (fi++[eI y]++ca) σ _;refine BL.mono ((h y hd).use (k:=fun v σ'=>v= .b (f y)∧Sat σ' []) (kp:=fun _ _=>False) ⟨rfl,Sat.nil⟩) ?_;rintro(v|v) σ' hq
 ·obtain⟨rfl,h⟩:=hq
  exact⟨rfl,h⟩
 ·exact hq.elim
theorem fw {g:FuncId} {fi ca:List V} {f:Int→Bool} {xs:List Int} (b:Bool) (h: ∀y∈xs,Pure Tryz.prog g (fi++[eI y]++ca) (.b (f y))):Pure Tryz.prog 177 [.l (iL xs) b,.f (.func g) fi ca] (.b (xs.all f)):=by
 have:=aU g fi ca (fun _=>[]) (Sl f) (fun y _=>y∈xs) (Oj fun y hy=>h y hy) xs b () (Gz fun y hy _=>hy);rw[JS]at this;exact Pure.of (BL.mono (this emp Sat.nil) fun r σ' ⟨post,⟨h1,h2⟩,h3⟩=>h1)
end Go.Gl
